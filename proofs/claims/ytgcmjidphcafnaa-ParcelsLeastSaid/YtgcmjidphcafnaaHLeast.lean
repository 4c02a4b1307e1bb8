/- For every input the law ParcelsLeast returns true, and each argument reads afterwards as it read before. No condition. -/
import Derived.Test.YtgcmjidphcafnaaB7

set_option linter.unusedSimpArgs false
set_option linter.unusedVariables false
set_option linter.constructorNameAsVariable false

namespace Go.Proofs.Ytgcmjidphcafnaa
open Go Go.Abs

set_option maxHeartbeats 4000000
set_option maxRecDepth 100000

theorem fixTo_mem (q : Nat → Bool) (z : Int) : ∀ n, z ∈ fixTo q n ↔ ∃ i : Nat, i < n ∧ q i = true ∧ z = i
  | 0 => by simp [fixTo]
  | n + 1 => by
    have ih := fixTo_mem q z n
    simp only [fixTo]
    by_cases h : q n = true
    · rw [if_pos h, List.mem_append, ih]
      constructor
      · rintro (⟨i, h1, h2, h3⟩ | h1)
        · exact ⟨i, by omega, h2, h3⟩
        · exact ⟨n, by omega, h, by simpa using h1⟩
      · rintro ⟨i, h1, h2, h3⟩
        by_cases e : i = n
        · subst e; exact .inr (by simp [h3])
        · exact .inl ⟨i, by omega, h2, h3⟩
    · rw [if_neg h, ih]
      constructor
      · rintro ⟨i, h1, h2, h3⟩; exact ⟨i, by omega, h2, h3⟩
      · rintro ⟨i, h1, h2, h3⟩
        by_cases e : i = n
        · subst e; exact absurd h2 h
        · exact ⟨i, by omega, h2, h3⟩

theorem many_sum {p : Plat} (hp : PlatOk p) {l : List Int} (h : IsP p l) : sumTo (manyF p l) l.length = manyC p l := by
  rw [h.1]
  unfold manyC
  have key : ∀ m, m ≤ p.ps.length → sumTo (manyF p l) m = Flow.cnt (fun i => decide (chgF p l i ≠ 0)) m := by
    intro m
    induction m with
    | zero => intro _; simp [sumTo, Flow.cnt]
    | succ m ih =>
      intro hm
      have ih := ih (by omega)
      have h1 := chgF_off hp h (i := m) (by omega)
      simp only [sumTo, Flow.cnt, ih, manyF]
      by_cases e : chgF p l m = 0
      · rw [if_neg (by simp [e])]; omega
      · rw [if_pos (by simp [e])]; omega
  exact key _ (Nat.le_refl _)

theorem maxTo_ge {f : Nat → Int} : ∀ {n i : Nat}, i < n → f i ≤ maxTo f n ∧ 0 ≤ maxTo f n
  | 0, i, h => by omega
  | n + 1, i, h => by
    simp only [maxTo]
    have h0 : 0 ≤ maxTo f n := by
      clear h
      induction n with
      | zero => simp [maxTo]
      | succ n ih => simp only [maxTo]; omega
    by_cases e : i = n
    · subst e; omega
    · have := (maxTo_ge (f := f) (n := n) (i := i) (by omega)).1; omega

theorem maxTo_nn {f : Nat → Int} (n : Nat) : 0 ≤ maxTo f n := by
  induction n with
  | zero => simp [maxTo]
  | succ n ih => simp only [maxTo]; omega

theorem smallest12 (p : Plat) (hn : NlOk p) (nl : Bool) (l : List Int) : Pure Try.prog 12 [encPlat p, .sl nl false (l.map cI)] (.bool true) := by
  by_cases hrd : ¬ FarP p ∧ PlatOk p
  · have hp := hrd.2
    have h8 := hp.n8
    have hr13 := ready_yes hrd
    by_cases hl : l.length ≤ 40
    · have g1 : ¬ ((40 : Int) < l.length) := by omega
      have g2 : ¬ (40 < l.length) := by omega
      by_cases hI : IsP p l
      · have h19 := is_c p nl false l hp (by omega) true (by simp [hI])
        have hll := hI.1
        have hf : Fe p := ⟨l, hI⟩
        obtain ⟨s, n, kk, R⟩ := res4_fe p hp hn.pn hf
        have h25 := R.p25
        have h37 := R.p37
        have h38 := R.p38
        have hab : ∃ a b : Nat → Int, ∀ k, k < p.ps.length → RangeP p k (a k) (b k) := by
          have h1 : ∀ k, ∃ ab : Int × Int, k < p.ps.length → RangeP p k ab.1 ab.2 := fun k => by
            by_cases hk : k < p.ps.length
            · obtain ⟨a, b, h⟩ := range_ex hf hk; exact ⟨(a, b), fun _ => h⟩
            · exact ⟨(0, 0), fun h => absurd h hk⟩
          exact ⟨fun k => (Classical.choose (h1 k)).1, fun k => (Classical.choose (h1 k)).2, fun k hk => Classical.choose_spec (h1 k) hk⟩
        obtain ⟨a, b, hab⟩ := hab
        have h30 := fixed_c p hp hn.pn hf a b hab
        obtain ⟨F, hF⟩ : ∃ F, F = fixTo (fun k => a k == b k) p.ps.length := ⟨_, rfl⟩
        rw [← hF] at h30
        have hFl : F.length ≤ 8 := by rw [hF]; have := fixTo_len (fun k => a k == b k) p.ps.length; omega
        have h35 := fills35 p nl l (by omega) (by have := hp.r4; omega) (by have := hp.c4; omega) hn.rn hn.cn 0 true (.inr (.inr ⟨by simp [hp], hll, rfl, by simp [hI]⟩))
        have hbd : Bd l := bd_of_ends hp hll hI.2.1
        have h44 := sum_c p nl false l (by omega) (by omega) hp.ps hbd
        have h45 := most_c p nl false l (by omega) (by omega) hp.ps hbd
        have h46 := many_c p nl false l (by omega) (by omega) hp.ps hbd
        have es : s ≤ sumTo (chgF p l) l.length := by have := R.hs.2 l hI; unfold sumC at this; rw [hll]; exact this
        have en : n ≤ maxTo (chgF p l) l.length := R.hw.2.2 l _ hI (maxTo_nn _) fun i hi => (maxTo_ge (by omega)).1
        have ek : (kk : Int) ≤ sumTo (manyF p l) l.length := by rw [many_sum hp hI]; have := R.hf.2 l hI; omega
        obtain ⟨S, hS⟩ : ∃ S, S = sumTo (chgF p l) l.length := ⟨_, rfl⟩
        obtain ⟨M, hM⟩ : ∃ M, M = maxTo (chgF p l) l.length := ⟨_, rfl⟩
        obtain ⟨K', hK'⟩ : ∃ K', K' = sumTo (manyF p l) l.length := ⟨_, rfl⟩
        rw [← hS] at h44 es
        rw [← hM] at h45 en
        rw [← hK'] at h46 ek
        have hs0 : ¬ s < 0 := by have := three_law hp R.hs R.hw R.hf R.k8 R.n99; omega
        have hn0 : ¬ n < 0 := by have := R.hw.1; omega
        have hk0 : ¬ (kk : Int) < 0 := by omega
        have u1 : ¬ S < s := by omega
        have u2 : ¬ M < n := by omega
        have u3 : ¬ K' < (kk : Int) := by omega
        have u4 : ¬ (40 : Int) < F.length := by omega
        have u5 : ¬ 40 < F.length := by omega
        refine pure_of (fn := Try.f12) [.tmp 4] ⟨Try.func12, rfl, by kernel_rfl⟩ (by kernel_rfl) (by kernel_rfl) (by kernel_rfl) fun x hx hσ => ?_
        repeat refine awp_seq ?_
        refine awp_reg1 (by rw [hx]; kernel_rfl) fun K hK => ?_
        simp (config := { maxSteps := 1000000 }) [ty25]
        refine hK _ ?_
        clear hK K
        first | show AWP _ _ _ _ _ | show ∃ _, _ | skip
        repeat refine awp_seq ?_
        refine awp_reg1 (by rw [hx]; kernel_rfl) fun K hK => ?_
        simp (config := { maxSteps := 1000000 }) [ty25, ty23, ty3, g1, g2]
        refine callP (hr13) (by first | (simp; done) | (simp [*]; done)) ?_
        simp (config := { maxSteps := 1000000 }) [ty25, ty23, ty3, g1, g2]
        refine callP (h19) (by first | (simp; done) | (simp [*]; done)) ?_
        simp (config := { maxSteps := 1000000 }) [ty25, ty23, ty3, g1, g2]
        refine hK _ ?_
        clear hK K
        first | show AWP _ _ _ _ _ | show ∃ _, _ | skip
        repeat refine awp_seq ?_
        refine awp_cond (by simp; rfl) (by rw [hx]; simp) (fun hd => ?_) (fun hd => ?_)
        · simp at hd
        clear hd
        refine awp_skip ?_
        first | show AWP _ _ _ _ _ | show ∃ _, _ | skip
        repeat refine awp_seq ?_
        refine awp_reg1 (by rw [hx]; kernel_rfl) fun K hK => ?_
        simp (config := { maxSteps := 1000000 }) [ty25]
        refine callP (h25) (by first | (simp; done) | (simp [*]; done)) ?_
        simp (config := { maxSteps := 1000000 }) []
        refine hK _ ?_
        clear hK K
        first | show AWP _ _ _ _ _ | show ∃ _, _ | skip
        repeat refine awp_seq ?_
        refine awp_reg1 (by rw [hx]; kernel_rfl) fun K hK => ?_
        simp (config := { maxSteps := 1000000 }) [ty25]
        refine callP (h37) (by first | (simp; done) | (simp [*]; done)) ?_
        simp (config := { maxSteps := 1000000 }) []
        refine hK _ ?_
        clear hK K
        first | show AWP _ _ _ _ _ | show ∃ _, _ | skip
        repeat refine awp_seq ?_
        refine awp_reg1 (by rw [hx]; kernel_rfl) fun K hK => ?_
        simp (config := { maxSteps := 1000000 }) [ty25]
        refine callP (h38) (by first | (simp; done) | (simp [*]; done)) ?_
        simp (config := { maxSteps := 1000000 }) []
        refine hK _ ?_
        clear hK K
        first | show AWP _ _ _ _ _ | show ∃ _, _ | skip
        repeat refine awp_seq ?_
        refine awp_reg1 (by rw [hx]; kernel_rfl) fun K hK => ?_
        simp (config := { maxSteps := 1000000 }) [ty25]
        refine callP (h30) (by first | (simp; done) | (simp [*]; done)) ?_
        simp (config := { maxSteps := 1000000 }) []
        refine hK _ ?_
        clear hK K
        first | show AWP _ _ _ _ _ | show ∃ _, _ | skip
        repeat refine awp_seq ?_
        refine awp_reg1 (by rw [hx]; kernel_rfl) fun K hK => ?_
        simp (config := { maxSteps := 1000000 }) [ty25]
        refine callP (h35) (by first | (simp; done) | (simp [*]; done)) ?_
        simp (config := { maxSteps := 1000000 }) []
        refine hK _ ?_
        clear hK K
        first | show AWP _ _ _ _ _ | show ∃ _, _ | skip
        repeat refine awp_seq ?_
        refine awp_reg1 (by rw [hx]; kernel_rfl) fun K hK => ?_
        simp (config := { maxSteps := 1000000 }) [ty30, ty3, ty25, ty23, hs0, hn0, hk0]
        refine callP (h44) (by first | (simp; done) | (simp [*]; done)) ?_
        simp (config := { maxSteps := 1000000 }) [ty30, ty3, ty25, ty23, u1, hn0]
        refine callP (h45) (by first | (simp; done) | (simp [*]; done)) ?_
        simp (config := { maxSteps := 1000000 }) [ty30, ty3, ty25, ty23, u2]
        refine callP (h46) (by first | (simp; done) | (simp [*]; done)) ?_
        simp (config := { maxSteps := 1000000 }) [ty30, ty3, ty25, ty23, u3, u4, u5]
        refine hK _ ?_
        clear hK K
        first | show AWP _ _ _ _ _ | show ∃ _, _ | skip
        repeat refine awp_seq ?_
        refine awp_cond (by simp; rfl) (by rw [hx]; simp) (fun hd => ?_) (fun hd => ?_)
        · simp at hd
        clear hd
        refine awp_skip ?_
        first | show AWP _ _ _ _ _ | show ∃ _, _ | skip
        repeat refine awp_seq ?_
        refine awp_reg1 (by rw [hx]; kernel_rfl) fun K hK => ?_
        simp (config := { maxSteps := 1000000 }) []
        refine hK _ ?_
        clear hK K
        first | show AWP _ _ _ _ _ | show ∃ _, _ | skip
        repeat refine awp_seq ?_
        refine awp_block ?_
        refine awp_loop (fun i : Nat => ⟨ofL [(1, .sl nl false (l.map cI)), (2, .ptr 2 3 0 0), (11, .sl F.isEmpty false (F.map cI)), (15, encI i)], stoT [(2, 2, .live (obPlat p))]⟩)
          (fun i => i ≤ l.length) (fun i => l.length - i) 0 (by simp) ?_ ?_
        · refine wk_shape (shp0 hσ (by simp) (by simp) ?_) ?_
          · simp [SlotOk]
            exact .same (plat_pure p)
          · simp [mtc, mtl, mT, C.isPure, purel]
        · intro i hi
          repeat refine awp_seq ?_
          refine awp_reg1 (by rw [hx]; kernel_rfl) fun K hK => ?_
          simp (config := { maxSteps := 1000000 }) [ty23, ty3]
          refine hK _ ?_
          clear hK K
          first | show AWP _ _ _ _ _ | show ∃ _, _ | skip
          repeat refine awp_seq ?_
          refine awp_cond (by simp; rfl) (by rw [hx]; simp) (fun hc => ?_) (fun hc => ?_)
          · simp at hc
            have hR := hab i (by omega)
            have h21 := range_c p hp hn.pn i (by omega) _ _ hR
            have hgi : l[i] = Flow.gi l i := by simp [Flow.gi, hc]
            have hr := hR.2.2 l hI
            rw [← hgi] at hr
            have v1 : ¬ l[i] < a i := by omega
            have v2 : ¬ b i < l[i] := by omega
            have h47 := in47 F.isEmpty false F i (by omega)
            have hmem : decide ((i : Int) ∈ F) = (a i == b i) := by
              have hm := fixTo_mem (fun k => a k == b k) i p.ps.length
              rw [← hF] at hm
              by_cases e : a i = b i
              · rw [decide_eq_true (hm.2 ⟨i, by omega, by simpa using e, rfl⟩)]; simp [e]
              · rw [decide_eq_false (fun h => by obtain ⟨j, h1, h2, h3⟩ := hm.1 h; have : i = j := by omega
                                                 subst this; exact e (by simpa using h2))]
                simp [e]
            rw [hmem] at h47
            refine awp_skip ?_
            first | show AWP _ _ _ _ _ | show ∃ _, _ | skip
            repeat refine awp_seq ?_
            refine awp_block ?_
            repeat refine awp_seq ?_
            refine awp_reg1 (by rw [hx]; kernel_rfl) fun K hK => ?_
            simp (config := { maxSteps := 1000000 }) [ty25]
            refine callP (h21) (by first | (simp; done) | (simp [*]; done)) ?_
            simp (config := { maxSteps := 1000000 }) [ty41, ty3]
            refine hK _ ?_
            clear hK K
            first | show AWP _ _ _ _ _ | show ∃ _, _ | skip
            repeat refine awp_seq ?_
            refine awp_drw3 [] [0, 1, 2, 3, 4, 5, 6, 7, 8, 9, 10, 11, 12, 13, 14, 15, 16, 17, 18, 19, 20, 21, 22, 23, 24, 25, 26, 27, 28, 29, 30] (by rw [hx]; kernel_rfl) (by kernel_rfl) (by kernel_rfl) (by kernel_rfl) fun K hK => ?_
            simp (config := { maxSteps := 1000000 }) [ty30, ty23, ty3, ty41, ty4, hc, v1, v2]
            refine callPD (h47) (by first | (simp; done) | (simp [*]; done)) (by simp) ?_
            simp (config := { maxSteps := 1000000 }) [ty30, ty23, ty3, ty41, ty4, hc, v1, v2]
            refine hK _ ?_
            clear hK K
            first | show AWP _ _ _ _ _ | show ∃ _, _ | skip
            repeat refine awp_seq ?_
            refine awp_cond (by simp; rfl) (by rw [hx]; simp) (fun hd => ?_) (fun hd => ?_)
            · simp at hd
            clear hd
            refine awp_skip ?_
            first | show AWP _ _ _ _ _ | show ∃ _, _ | skip
            repeat refine awp_seq ?_
            refine awp_reg1 (by rw [hx]; kernel_rfl) fun K hK => ?_
            simp (config := { maxSteps := 1000000 }) [ty3]
            refine hK _ ?_
            clear hK K
            first | show AWP _ _ _ _ _ | show ∃ _, _ | skip
            refine ⟨i + 1, by omega, by omega, ?_⟩
            refine wk_shape (T := [(2, 2, .live (obPlat p))]) (shp0 hσ (by simp) (by simp) ?_) ?_
            · simp [SlotOk]
              exact .same (plat_pure p)
            · simp [mtc, mtl, mT, C.isPure, purel]
              simp (disch := omega) [wrap_id]
          · simp at hc
            repeat refine awp_seq ?_
            refine awp_exit ?_
            first | show AWP _ _ _ _ _ | show ∃ _, _ | skip
            repeat refine awp_seq ?_
            refine awp_reg1 (by rw [hx]; kernel_rfl) fun K hK => ?_
            simp (config := { maxSteps := 1000000 }) []
            refine callP (works14) (by first | (simp; done) | (simp [*]; done)) ?_
            simp (config := { maxSteps := 1000000 }) []
            refine hK _ ?_
            clear hK K
            first | show AWP _ _ _ _ _ | show ∃ _, _ | skip
            repeat refine awp_seq ?_
            refine awp_ret ?_
            refine And.intro (Or.inr rfl) ?_
            simp [retC, resC, viewC, mapO]
      · have h19 := is_c p nl false l hp (by omega) false (by simp [hI])
        refine pure_of (fn := Try.f12) [.tmp 4] ⟨Try.func12, rfl, by kernel_rfl⟩ (by kernel_rfl) (by kernel_rfl) (by kernel_rfl) fun x hx hσ => ?_
        repeat refine awp_seq ?_
        refine awp_reg1 (by rw [hx]; kernel_rfl) fun K hK => ?_
        simp (config := { maxSteps := 1000000 }) [ty25]
        refine hK _ ?_
        clear hK K
        first | show AWP _ _ _ _ _ | show ∃ _, _ | skip
        repeat refine awp_seq ?_
        refine awp_reg1 (by rw [hx]; kernel_rfl) fun K hK => ?_
        simp (config := { maxSteps := 1000000 }) [ty25, ty23, ty3, g1, g2]
        refine callP (hr13) (by first | (simp; done) | (simp [*]; done)) ?_
        simp (config := { maxSteps := 1000000 }) [ty25, ty23, ty3, g1, g2]
        refine callP (h19) (by first | (simp; done) | (simp [*]; done)) ?_
        simp (config := { maxSteps := 1000000 }) [ty25, ty23, ty3, g1, g2]
        refine hK _ ?_
        clear hK K
        first | show AWP _ _ _ _ _ | show ∃ _, _ | skip
        repeat refine awp_seq ?_
        refine awp_cond (by simp; rfl) (by rw [hx]; simp) (fun hd => ?_) (fun hd => ?_)
        · repeat refine awp_seq ?_
          refine awp_reg1 (by rw [hx]; kernel_rfl) fun K hK => ?_
          simp (config := { maxSteps := 1000000 }) []
          refine callP (works14) (by first | (simp; done) | (simp [*]; done)) ?_
          simp (config := { maxSteps := 1000000 }) []
          refine hK _ ?_
          clear hK K
          first | show AWP _ _ _ _ _ | show ∃ _, _ | skip
          repeat refine awp_seq ?_
          refine awp_ret ?_
          refine And.intro (Or.inr rfl) ?_
          simp [retC, resC, viewC, mapO]
        · simp at hd
    · have g1 : ((40 : Int) < l.length) := by omega
      have g2 : (40 < l.length) := by omega
      refine pure_of (fn := Try.f12) [.tmp 4] ⟨Try.func12, rfl, by kernel_rfl⟩ (by kernel_rfl) (by kernel_rfl) (by kernel_rfl) fun x hx hσ => ?_
      repeat refine awp_seq ?_
      refine awp_reg1 (by rw [hx]; kernel_rfl) fun K hK => ?_
      simp (config := { maxSteps := 1000000 }) [ty25]
      refine hK _ ?_
      clear hK K
      first | show AWP _ _ _ _ _ | show ∃ _, _ | skip
      repeat refine awp_seq ?_
      refine awp_reg1 (by rw [hx]; kernel_rfl) fun K hK => ?_
      simp (config := { maxSteps := 1000000 }) [ty25, ty23, ty3, g1, g2]
      refine callP (hr13) (by first | (simp; done) | (simp [*]; done)) ?_
      simp (config := { maxSteps := 1000000 }) [ty25, ty23, ty3, g1, g2]
      refine hK _ ?_
      clear hK K
      first | show AWP _ _ _ _ _ | show ∃ _, _ | skip
      repeat refine awp_seq ?_
      refine awp_cond (by simp; rfl) (by rw [hx]; simp) (fun hd => ?_) (fun hd => ?_)
      · repeat refine awp_seq ?_
        refine awp_reg1 (by rw [hx]; kernel_rfl) fun K hK => ?_
        simp (config := { maxSteps := 1000000 }) []
        refine callP (works14) (by first | (simp; done) | (simp [*]; done)) ?_
        simp (config := { maxSteps := 1000000 }) []
        refine hK _ ?_
        clear hK K
        first | show AWP _ _ _ _ _ | show ∃ _, _ | skip
        repeat refine awp_seq ?_
        refine awp_ret ?_
        refine And.intro (Or.inr rfl) ?_
        simp [retC, resC, viewC, mapO]
      · simp at hd
  · have hr13 := ready_no hrd
    refine pure_of (fn := Try.f12) [.tmp 4] ⟨Try.func12, rfl, by kernel_rfl⟩ (by kernel_rfl) (by kernel_rfl) (by kernel_rfl) fun x hx hσ => ?_
    repeat refine awp_seq ?_
    refine awp_reg1 (by rw [hx]; kernel_rfl) fun K hK => ?_
    simp (config := { maxSteps := 1000000 }) [ty25]
    refine hK _ ?_
    clear hK K
    first | show AWP _ _ _ _ _ | show ∃ _, _ | skip
    repeat refine awp_seq ?_
    refine awp_reg1 (by rw [hx]; kernel_rfl) fun K hK => ?_
    simp (config := { maxSteps := 1000000 }) [ty25, ty23, ty3]
    refine callP (hr13) (by first | (simp; done) | (simp [*]; done)) ?_
    simp (config := { maxSteps := 1000000 }) [ty25, ty23, ty3]
    refine hK _ ?_
    clear hK K
    first | show AWP _ _ _ _ _ | show ∃ _, _ | skip
    repeat refine awp_seq ?_
    refine awp_cond (by simp; rfl) (by rw [hx]; simp) (fun hd => ?_) (fun hd => ?_)
    · repeat refine awp_seq ?_
      refine awp_reg1 (by rw [hx]; kernel_rfl) fun K hK => ?_
      simp (config := { maxSteps := 1000000 }) []
      refine callP (works14) (by first | (simp; done) | (simp [*]; done)) ?_
      simp (config := { maxSteps := 1000000 }) []
      refine hK _ ?_
      clear hK K
      first | show AWP _ _ _ _ _ | show ∃ _, _ | skip
      repeat refine awp_seq ?_
      refine awp_ret ?_
      refine And.intro (Or.inr rfl) ?_
      simp [retC, resC, viewC, mapO]
    · simp at hd

end Go.Proofs.Ytgcmjidphcafnaa

namespace Go.Proofs.Ytgcmjidphcafnaa
open Go Go.Abs

set_option maxHeartbeats 4000000
set_option maxRecDepth 100000

/-- What the parcels so far have in the strip of parcel i. -/
def rowZ (p : Plat) (l : List Int) (i j : Nat) : Int := if (pcA p j).row = (pcA p i).row then Flow.gi l j else 0
def colZ (p : Plat) (l : List Int) (i j : Nat) : Int := if (pcA p j).col = (pcA p i).col then Flow.gi l j else 0

/-- A strip of parcel i holds too much. -/
def OverAt (p : Plat) (l : List Int) (i : Nat) : Prop :=
  (0 ≤ (pcA p i).row ∧ Flow.gi p.rows (pcA p i).row.toNat < sumTo (rowZ p l i) l.length) ∨ (0 ≤ (pcA p i).col ∧ Flow.gi p.cols (pcA p i).col.toNat < sumTo (colZ p l i) l.length)

def OverP (p : Plat) (l : List Int) : Prop := ∃ i, i < l.length ∧ OverAt p l i





theorem over92 (p : Plat) (hp : PlatOk p) (nl fu : Bool) (l : List Int) (hl : l.length ≤ p.ps.length) (hb : Bd l) (b : Bool) (hB : b = true ↔ OverP p l) : Pure Try.prog 92 [encPlat p, .sl nl fu (l.map cI)] (.bool b) := by
  have h8 := hp.n8
  refine pure_of (fn := Try.f92) [.tmp 4] ⟨Try.func92, rfl, by kernel_rfl⟩ (by kernel_rfl) (by kernel_rfl) (by kernel_rfl) fun x hx hσ => ?_
  repeat refine awp_seq ?_
  refine awp_reg1 (by rw [hx]; kernel_rfl) fun K hK => ?_
  simp (config := { maxSteps := 1000000 }) [ty25]
  refine hK _ ?_
  clear hK K
  first | show AWP _ _ _ _ _ | show ∃ _, _ | skip
  repeat refine awp_seq ?_
  refine awp_reg1 (by rw [hx]; kernel_rfl) fun K hK => ?_
  simp (config := { maxSteps := 1000000 }) []
  refine hK _ ?_
  clear hK K
  first | show AWP _ _ _ _ _ | show ∃ _, _ | skip
  repeat refine awp_seq ?_
  refine awp_block ?_
  refine awp_loop (fun i : Nat => ⟨ofL [(1, .sl nl fu (l.map cI)), (2, .ptr 2 3 0 0), (5, encI i)], stoT [(2, 2, .live (obPlat p))]⟩)
    (fun i => i ≤ l.length ∧ ∀ j, j < i → ¬ OverAt p l j) (fun i => l.length - i) 0 (by simp) ?_ ?_
  · refine wk_shape (shp0 hσ (by simp) (by simp) ?_) ?_
    · simp [SlotOk]; exact .same (plat_pure p)
    · simp [mtc, mtl, mT, C.isPure, purel]
  · intro i ⟨hi, hno⟩
    repeat refine awp_seq ?_
    refine awp_reg1 (by rw [hx]; kernel_rfl) fun K hK => ?_
    simp (config := { maxSteps := 1000000 }) [ty23, ty3]
    refine hK _ ?_
    clear hK K
    first | show AWP _ _ _ _ _ | show ∃ _, _ | skip
    repeat refine awp_seq ?_
    refine awp_cond (by simp; rfl) (by rw [hx]; simp) (fun hc => ?_) (fun hc => ?_)
    · simp at hc
      have hci : i < p.ps.length := by omega
      have hne : p.ps ≠ [] := by intro h; rw [h] at hci; simp at hci
      refine awp_skip ?_
      first | show AWP _ _ _ _ _ | show ∃ _, _ | skip
      repeat refine awp_seq ?_
      refine awp_block ?_
      repeat refine awp_seq ?_
      refine awp_reg1 (by rw [hx]; kernel_rfl) fun K hK => ?_
      simp (config := { maxSteps := 1000000 }) []
      refine hK _ ?_
      clear hK K
      first | show AWP _ _ _ _ _ | show ∃ _, _ | skip
      repeat refine awp_seq ?_
      refine awp_reg1 (by rw [hx]; kernel_rfl) fun K hK => ?_
      simp (config := { maxSteps := 1000000 }) []
      refine hK _ ?_
      clear hK K
      first | show AWP _ _ _ _ _ | show ∃ _, _ | skip
      repeat refine awp_seq ?_
      refine awp_block ?_
      refine awp_loop (fun j : Nat => ⟨ofL [(1, .sl nl fu (l.map cI)), (2, .ptr 2 3 0 0), (5, encI i), (6, encI (sumTo (rowZ p l i) j)), (7, encI (sumTo (colZ p l i) j)), (8, encI j)], stoT [(2, 2, .live (obPlat p))]⟩)
        (fun j => j ≤ l.length) (fun j => l.length - j) 0 (by simp) ?_ ?_
      · refine wk_shape (shp0 hσ (by simp) (by simp) ?_) ?_
        · simp [SlotOk]; exact .same (plat_pure p)
        · simp [mtc, mtl, mT, C.isPure, purel, sumTo]
      · intro j hj
        repeat refine awp_seq ?_
        refine awp_reg1 (by rw [hx]; kernel_rfl) fun K hK => ?_
        simp (config := { maxSteps := 1000000 }) [ty23, ty3]
        refine hK _ ?_
        clear hK K
        first | show AWP _ _ _ _ _ | show ∃ _, _ | skip
        repeat refine awp_seq ?_
        refine awp_cond (by simp; rfl) (by rw [hx]; simp) (fun hd => ?_) (fun hd => ?_)
        · simp at hd
          have hcj : j < p.ps.length := by omega
          refine awp_skip ?_
          first | show AWP _ _ _ _ _ | show ∃ _, _ | skip
          repeat refine awp_seq ?_
          refine awp_block ?_
          have erj : pcA p j = p.ps[j] := by simp [pcA, hcj]
          have eri : pcA p i = p.ps[i] := by simp [pcA, hci]
          have elj : Flow.gi l j = l[j] := by simp [Flow.gi, hd]
          have bl := hb.get j
          have blj : -9999 ≤ l[j] ∧ l[j] ≤ 9999 := hb _ (List.getElem_mem hd)
          have b6 := sumTo_le (f := rowZ p l i) (b := 9999) (n := j) fun x hx => by unfold rowZ; have := hb.get x; unfold Flow.gi; split <;> omega
          have b7 := sumTo_le (f := colZ p l i) (b := 9999) (n := j) fun x hx => by unfold colZ; have := hb.get x; unfold Flow.gi; split <;> omega
          have w6 : IntKind.i64.wrap (sumTo (rowZ p l i) j + l[j]) = sumTo (rowZ p l i) j + l[j] := wrap_id (by omega) (by omega)
          have w7 : IntKind.i64.wrap (sumTo (colZ p l i) j + l[j]) = sumTo (colZ p l i) j + l[j] := wrap_id (by omega) (by omega)
          have w8 : IntKind.i64.wrap ((j : Int) + 1) = (j : Int) + 1 := wrap_id (by omega) (by omega)
          repeat refine awp_seq ?_
          refine awp_drw3 [] [0, 1, 2, 3, 4, 5, 6, 7, 8, 9, 10, 11, 12] (by rw [hx]; kernel_rfl) (by kernel_rfl) (by kernel_rfl) (by kernel_rfl) fun K hK => ?_
          simp (config := { maxSteps := 1000000 }) [ty25, ty22, ty45, ty3, hci, hcj, hne]
          refine hK _ ?_
          clear hK K
          first | show AWP _ _ _ _ _ | show ∃ _, _ | skip
          repeat refine awp_seq ?_
          refine awp_cond (by simp; rfl) (by rw [hx]; simp) (fun he => ?_) (fun he => ?_)
          · have e6 : sumTo (rowZ p l i) (j + 1) = sumTo (rowZ p l i) j + l[j] := by
              simp only [sumTo, rowZ, erj, eri]; rw [if_pos (by simpa using he), elj]
            repeat refine awp_seq ?_
            refine awp_reg1 (by rw [hx]; kernel_rfl) fun K hK => ?_
            simp (config := { maxSteps := 1000000 }) [ty23, ty3, hd, w6]
            refine hK _ ?_
            clear hK K
            first | show AWP _ _ _ _ _ | show ∃ _, _ | skip
            repeat refine awp_seq ?_
            refine awp_drw3 [] [0, 1, 2, 3, 4, 5, 6, 7, 8, 9, 10, 11, 12] (by rw [hx]; kernel_rfl) (by kernel_rfl) (by kernel_rfl) (by kernel_rfl) fun K hK => ?_
            simp (config := { maxSteps := 1000000 }) [ty25, ty22, ty45, ty3, hci, hcj, hne]
            refine hK _ ?_
            clear hK K
            first | show AWP _ _ _ _ _ | show ∃ _, _ | skip
            repeat refine awp_seq ?_
            refine awp_cond (by simp; rfl) (by rw [hx]; simp) (fun hf => ?_) (fun hf => ?_)
            · have e7 : sumTo (colZ p l i) (j + 1) = sumTo (colZ p l i) j + l[j] := by
                simp only [sumTo, colZ, erj, eri]; rw [if_pos (by simpa using hf), elj]
              repeat refine awp_seq ?_
              refine awp_reg1 (by rw [hx]; kernel_rfl) fun K hK => ?_
              simp (config := { maxSteps := 1000000 }) [ty23, ty3, hd, w7]
              refine hK _ ?_
              clear hK K
              first | show AWP _ _ _ _ _ | show ∃ _, _ | skip
              repeat refine awp_seq ?_
              refine awp_reg1 (by rw [hx]; kernel_rfl) fun K hK => ?_
              simp (config := { maxSteps := 1000000 }) [ty3]
              refine hK _ ?_
              clear hK K
              first | show AWP _ _ _ _ _ | show ∃ _, _ | skip
              refine ⟨j + 1, by omega, by omega, ?_⟩
              refine wk_shape (T := [(2, 2, .live (obPlat p))]) (shp0 hσ (by simp) (by simp) ?_) ?_
              · simp [SlotOk]; exact .same (plat_pure p)
              · simp [mtc, mtl, mT, C.isPure, purel, e6, e7, w8]
            · have e7 : sumTo (colZ p l i) (j + 1) = sumTo (colZ p l i) j := by
                simp only [sumTo, colZ, erj, eri]; rw [if_neg (by simpa using hf)]; simp [colZ]
              refine awp_skip ?_
              first | show AWP _ _ _ _ _ | show ∃ _, _ | skip
              repeat refine awp_seq ?_
              refine awp_reg1 (by rw [hx]; kernel_rfl) fun K hK => ?_
              simp (config := { maxSteps := 1000000 }) [ty3]
              refine hK _ ?_
              clear hK K
              first | show AWP _ _ _ _ _ | show ∃ _, _ | skip
              refine ⟨j + 1, by omega, by omega, ?_⟩
              refine wk_shape (T := [(2, 2, .live (obPlat p))]) (shp0 hσ (by simp) (by simp) ?_) ?_
              · simp [SlotOk]; exact .same (plat_pure p)
              · simp [mtc, mtl, mT, C.isPure, purel, e6, e7, w8]
          · have e6 : sumTo (rowZ p l i) (j + 1) = sumTo (rowZ p l i) j := by
              simp only [sumTo, rowZ, erj, eri]; rw [if_neg (by simpa using he)]; simp [rowZ]
            refine awp_skip ?_
            first | show AWP _ _ _ _ _ | show ∃ _, _ | skip
            repeat refine awp_seq ?_
            refine awp_drw3 [] [0, 1, 2, 3, 4, 5, 6, 7, 8, 9, 10, 11, 12] (by rw [hx]; kernel_rfl) (by kernel_rfl) (by kernel_rfl) (by kernel_rfl) fun K hK => ?_
            simp (config := { maxSteps := 1000000 }) [ty25, ty22, ty45, ty3, hci, hcj, hne]
            refine hK _ ?_
            clear hK K
            first | show AWP _ _ _ _ _ | show ∃ _, _ | skip
            repeat refine awp_seq ?_
            refine awp_cond (by simp; rfl) (by rw [hx]; simp) (fun hf => ?_) (fun hf => ?_)
            · have e7 : sumTo (colZ p l i) (j + 1) = sumTo (colZ p l i) j + l[j] := by
                simp only [sumTo, colZ, erj, eri]; rw [if_pos (by simpa using hf), elj]
              repeat refine awp_seq ?_
              refine awp_reg1 (by rw [hx]; kernel_rfl) fun K hK => ?_
              simp (config := { maxSteps := 1000000 }) [ty23, ty3, hd, w7]
              refine hK _ ?_
              clear hK K
              first | show AWP _ _ _ _ _ | show ∃ _, _ | skip
              repeat refine awp_seq ?_
              refine awp_reg1 (by rw [hx]; kernel_rfl) fun K hK => ?_
              simp (config := { maxSteps := 1000000 }) [ty3]
              refine hK _ ?_
              clear hK K
              first | show AWP _ _ _ _ _ | show ∃ _, _ | skip
              refine ⟨j + 1, by omega, by omega, ?_⟩
              refine wk_shape (T := [(2, 2, .live (obPlat p))]) (shp0 hσ (by simp) (by simp) ?_) ?_
              · simp [SlotOk]; exact .same (plat_pure p)
              · simp [mtc, mtl, mT, C.isPure, purel, e6, e7, w8]
            · have e7 : sumTo (colZ p l i) (j + 1) = sumTo (colZ p l i) j := by
                simp only [sumTo, colZ, erj, eri]; rw [if_neg (by simpa using hf)]; simp [colZ]
              refine awp_skip ?_
              first | show AWP _ _ _ _ _ | show ∃ _, _ | skip
              repeat refine awp_seq ?_
              refine awp_reg1 (by rw [hx]; kernel_rfl) fun K hK => ?_
              simp (config := { maxSteps := 1000000 }) [ty3]
              refine hK _ ?_
              clear hK K
              first | show AWP _ _ _ _ _ | show ∃ _, _ | skip
              refine ⟨j + 1, by omega, by omega, ?_⟩
              refine wk_shape (T := [(2, 2, .live (obPlat p))]) (shp0 hσ (by simp) (by simp) ?_) ?_
              · simp [SlotOk]; exact .same (plat_pure p)
              · simp [mtc, mtl, mT, C.isPure, purel, e6, e7, w8]
        · simp at hd
          repeat refine awp_seq ?_
          refine awp_exit ?_
          first | show AWP _ _ _ _ _ | show ∃ _, _ | skip
          obtain rfl : j = l.length := by omega
          have eri : pcA p i = p.ps[i] := by simp [pcA, hci]
          have hq := hp.ps _ (List.getElem_mem hci)
          have hrr := hp.rr _ (List.getElem_mem hci)
          have hcc := hp.cc _ (List.getElem_mem hci)
          unfold PcOk at hq
          have hov : OverAt p l i ↔ (0 ≤ p.ps[i].row ∧ Flow.gi p.rows p.ps[i].row.toNat < sumTo (rowZ p l i) l.length) ∨ (0 ≤ p.ps[i].col ∧ Flow.gi p.cols p.ps[i].col.toNat < sumTo (colZ p l i) l.length) := by
            unfold OverAt; rw [eri]
          by_cases hr0 : 0 ≤ p.ps[i].row
          · obtain ⟨r, hr⟩ : ∃ r : Nat, p.ps[i].row = r := ⟨p.ps[i].row.toNat, by omega⟩
            have hrl : r < p.rows.length := by omega
            have egr : Flow.gi p.rows p.ps[i].row.toNat = p.rows[r] := by rw [hr]; simp [Flow.gi, hrl]
            have hnr : p.rows ≠ [] := by intro h; rw [h] at hrl; simp at hrl
            by_cases hov1 : p.rows[r] < sumTo (rowZ p l i) l.length
            · have ho : OverAt p l i := hov.2 (.inl ⟨hr0, by rw [egr]; exact hov1⟩)
              repeat refine awp_seq ?_
              refine awp_drw3 [] [0, 1, 2, 3, 4, 5, 6, 7, 8, 9, 10, 11, 12, 13, 14, 15, 16, 17, 18, 19, 20, 21, 22, 23, 24, 25, 26, 27, 28, 29, 30, 31, 32, 33, 34, 35, 36, 37, 38, 39, 40, 41, 42, 43] (by rw [hx]; kernel_rfl) (by kernel_rfl) (by kernel_rfl) (by kernel_rfl) fun K hK => ?_
              simp (config := { maxSteps := 1000000 }) [ty25, ty22, ty45, ty23, ty3, hci, hne, hr,hrl,hov1,hnr]
              refine hK _ ?_
              clear hK K
              first | show AWP _ _ _ _ _ | show ∃ _, _ | skip
              repeat refine awp_seq ?_
              refine awp_cond (by simp; rfl) (by rw [hx]; simp) (fun hz => ?_) (fun hz => ?_)
              · repeat refine awp_seq ?_
                refine awp_reg1 (by rw [hx]; kernel_rfl) fun K hK => ?_
                simp (config := { maxSteps := 1000000 }) []
                refine hK _ ?_
                clear hK K
                first | show AWP _ _ _ _ _ | show ∃ _, _ | skip
                repeat refine awp_seq ?_
                refine awp_ret ?_
                refine And.intro (Or.inr rfl) ?_
                have hbt : b = true := hB.2 ⟨i, hc, ho⟩
                subst hbt
                simp [retC, resC, viewC, mapO]
              · simp at hz
            · have hno1 : ¬ (0 ≤ p.ps[i].row ∧ Flow.gi p.rows p.ps[i].row.toNat < sumTo (rowZ p l i) l.length) := by rw [egr]; exact fun h => hov1 h.2
              by_cases hc0 : 0 ≤ p.ps[i].col
              · obtain ⟨c, hcl⟩ : ∃ c : Nat, p.ps[i].col = c := ⟨p.ps[i].col.toNat, by omega⟩
                have hcl' : c < p.cols.length := by omega
                have egc : Flow.gi p.cols p.ps[i].col.toNat = p.cols[c] := by rw [hcl]; simp [Flow.gi, hcl']
                have hnc : p.cols ≠ [] := by intro h; rw [h] at hcl'; simp at hcl'
                by_cases hov2 : p.cols[c] < sumTo (colZ p l i) l.length
                · have ho : OverAt p l i := hov.2 (.inr ⟨hc0, by rw [egc]; exact hov2⟩)
                  repeat refine awp_seq ?_
                  refine awp_drw3 [] [0, 1, 2, 3, 4, 5, 6, 7, 8, 9, 10, 11, 12, 13, 14, 15, 16, 17, 18, 19, 20, 21, 22, 23, 24, 25, 26, 27, 28, 29, 30, 31, 32, 33, 34, 35, 36, 37, 38, 39, 40, 41, 42, 43] (by rw [hx]; kernel_rfl) (by kernel_rfl) (by kernel_rfl) (by kernel_rfl) fun K hK => ?_
                  simp (config := { maxSteps := 1000000 }) [ty25, ty22, ty45, ty23, ty3, hci, hne, hr,hrl,hov1,hnr,hcl,hcl',hov2,hnc]
                  refine hK _ ?_
                  clear hK K
                  first | show AWP _ _ _ _ _ | show ∃ _, _ | skip
                  repeat refine awp_seq ?_
                  refine awp_cond (by simp; rfl) (by rw [hx]; simp) (fun hz => ?_) (fun hz => ?_)
                  · repeat refine awp_seq ?_
                    refine awp_reg1 (by rw [hx]; kernel_rfl) fun K hK => ?_
                    simp (config := { maxSteps := 1000000 }) []
                    refine hK _ ?_
                    clear hK K
                    first | show AWP _ _ _ _ _ | show ∃ _, _ | skip
                    repeat refine awp_seq ?_
                    refine awp_ret ?_
                    refine And.intro (Or.inr rfl) ?_
                    have hbt : b = true := hB.2 ⟨i, hc, ho⟩
                    subst hbt
                    simp [retC, resC, viewC, mapO]
                  · simp at hz
                · have hno2 : ¬ (0 ≤ p.ps[i].col ∧ Flow.gi p.cols p.ps[i].col.toNat < sumTo (colZ p l i) l.length) := by rw [egc]; exact fun h => hov2 h.2
                  have ho : ¬ OverAt p l i := fun h => by
                    rcases hov.1 h with h | h
                    · exact hno1 h
                    · exact hno2 h
                  repeat refine awp_seq ?_
                  refine awp_drw3 [] [0, 1, 2, 3, 4, 5, 6, 7, 8, 9, 10, 11, 12, 13, 14, 15, 16, 17, 18, 19, 20, 21, 22, 23, 24, 25, 26, 27, 28, 29, 30, 31, 32, 33, 34, 35, 36, 37, 38, 39, 40, 41, 42, 43] (by rw [hx]; kernel_rfl) (by kernel_rfl) (by kernel_rfl) (by kernel_rfl) fun K hK => ?_
                  simp (config := { maxSteps := 1000000 }) [ty25, ty22, ty45, ty23, ty3, hci, hne, hr,hrl,hov1,hnr,hcl,hcl',hov2,hnc]
                  refine hK _ ?_
                  clear hK K
                  first | show AWP _ _ _ _ _ | show ∃ _, _ | skip
                  repeat refine awp_seq ?_
                  refine awp_cond (by simp; rfl) (by rw [hx]; simp) (fun hz => ?_) (fun hz => ?_)
                  · simp at hz
                  · refine awp_skip ?_
                    first | show AWP _ _ _ _ _ | show ∃ _, _ | skip
                    repeat refine awp_seq ?_
                    refine awp_reg1 (by rw [hx]; kernel_rfl) fun K hK => ?_
                    simp (config := { maxSteps := 1000000 }) [ty3]
                    refine hK _ ?_
                    clear hK K
                    first | show AWP _ _ _ _ _ | show ∃ _, _ | skip
                    refine ⟨i + 1, ⟨by omega, fun j hj => ?_⟩, by omega, ?_⟩
                    · by_cases e : j = i
                      · rw [e]; exact ho
                      · exact hno j (by omega)
                    · refine wk_shape (T := [(2, 2, .live (obPlat p))]) (shp0 hσ (by simp) (by simp) ?_) ?_
                      · simp [SlotOk]; exact .same (plat_pure p)
                      · simp [mtc, mtl, mT, C.isPure, purel]
                        simp (disch := omega) [wrap_id]
              · have hno2 : ¬ (0 ≤ p.ps[i].col ∧ Flow.gi p.cols p.ps[i].col.toNat < sumTo (colZ p l i) l.length) := fun h => hc0 h.1
                have ho : ¬ OverAt p l i := fun h => by
                  rcases hov.1 h with h | h
                  · exact hno1 h
                  · exact hno2 h
                repeat refine awp_seq ?_
                refine awp_drw3 [] [0, 1, 2, 3, 4, 5, 6, 7, 8, 9, 10, 11, 12, 13, 14, 15, 16, 17, 18, 19, 20, 21, 22, 23, 24, 25, 26, 27, 28, 29, 30, 31, 32, 33, 34, 35, 36, 37, 38, 39, 40, 41, 42, 43] (by rw [hx]; kernel_rfl) (by kernel_rfl) (by kernel_rfl) (by kernel_rfl) fun K hK => ?_
                simp (config := { maxSteps := 1000000 }) [ty25, ty22, ty45, ty23, ty3, hci, hne, hr,hrl,hov1,hnr,hc0]
                refine hK _ ?_
                clear hK K
                first | show AWP _ _ _ _ _ | show ∃ _, _ | skip
                repeat refine awp_seq ?_
                refine awp_cond (by simp; rfl) (by rw [hx]; simp) (fun hz => ?_) (fun hz => ?_)
                · simp at hz
                · refine awp_skip ?_
                  first | show AWP _ _ _ _ _ | show ∃ _, _ | skip
                  repeat refine awp_seq ?_
                  refine awp_reg1 (by rw [hx]; kernel_rfl) fun K hK => ?_
                  simp (config := { maxSteps := 1000000 }) [ty3]
                  refine hK _ ?_
                  clear hK K
                  first | show AWP _ _ _ _ _ | show ∃ _, _ | skip
                  refine ⟨i + 1, ⟨by omega, fun j hj => ?_⟩, by omega, ?_⟩
                  · by_cases e : j = i
                    · rw [e]; exact ho
                    · exact hno j (by omega)
                  · refine wk_shape (T := [(2, 2, .live (obPlat p))]) (shp0 hσ (by simp) (by simp) ?_) ?_
                    · simp [SlotOk]; exact .same (plat_pure p)
                    · simp [mtc, mtl, mT, C.isPure, purel]
                      simp (disch := omega) [wrap_id]
          · have hno1 : ¬ (0 ≤ p.ps[i].row ∧ Flow.gi p.rows p.ps[i].row.toNat < sumTo (rowZ p l i) l.length) := fun h => hr0 h.1
            by_cases hc0 : 0 ≤ p.ps[i].col
            · obtain ⟨c, hcl⟩ : ∃ c : Nat, p.ps[i].col = c := ⟨p.ps[i].col.toNat, by omega⟩
              have hcl' : c < p.cols.length := by omega
              have egc : Flow.gi p.cols p.ps[i].col.toNat = p.cols[c] := by rw [hcl]; simp [Flow.gi, hcl']
              have hnc : p.cols ≠ [] := by intro h; rw [h] at hcl'; simp at hcl'
              by_cases hov2 : p.cols[c] < sumTo (colZ p l i) l.length
              · have ho : OverAt p l i := hov.2 (.inr ⟨hc0, by rw [egc]; exact hov2⟩)
                repeat refine awp_seq ?_
                refine awp_drw3 [] [0, 1, 2, 3, 4, 5, 6, 7, 8, 9, 10, 11, 12, 13, 14, 15, 16, 17, 18, 19, 20, 21, 22, 23, 24, 25, 26, 27, 28, 29, 30, 31, 32, 33, 34, 35, 36, 37, 38, 39, 40, 41, 42, 43] (by rw [hx]; kernel_rfl) (by kernel_rfl) (by kernel_rfl) (by kernel_rfl) fun K hK => ?_
                simp (config := { maxSteps := 1000000 }) [ty25, ty22, ty45, ty23, ty3, hci, hne, hr0,hcl,hcl',hov2,hnc]
                refine hK _ ?_
                clear hK K
                first | show AWP _ _ _ _ _ | show ∃ _, _ | skip
                repeat refine awp_seq ?_
                refine awp_cond (by simp; rfl) (by rw [hx]; simp) (fun hz => ?_) (fun hz => ?_)
                · repeat refine awp_seq ?_
                  refine awp_reg1 (by rw [hx]; kernel_rfl) fun K hK => ?_
                  simp (config := { maxSteps := 1000000 }) []
                  refine hK _ ?_
                  clear hK K
                  first | show AWP _ _ _ _ _ | show ∃ _, _ | skip
                  repeat refine awp_seq ?_
                  refine awp_ret ?_
                  refine And.intro (Or.inr rfl) ?_
                  have hbt : b = true := hB.2 ⟨i, hc, ho⟩
                  subst hbt
                  simp [retC, resC, viewC, mapO]
                · simp at hz
              · have hno2 : ¬ (0 ≤ p.ps[i].col ∧ Flow.gi p.cols p.ps[i].col.toNat < sumTo (colZ p l i) l.length) := by rw [egc]; exact fun h => hov2 h.2
                have ho : ¬ OverAt p l i := fun h => by
                  rcases hov.1 h with h | h
                  · exact hno1 h
                  · exact hno2 h
                repeat refine awp_seq ?_
                refine awp_drw3 [] [0, 1, 2, 3, 4, 5, 6, 7, 8, 9, 10, 11, 12, 13, 14, 15, 16, 17, 18, 19, 20, 21, 22, 23, 24, 25, 26, 27, 28, 29, 30, 31, 32, 33, 34, 35, 36, 37, 38, 39, 40, 41, 42, 43] (by rw [hx]; kernel_rfl) (by kernel_rfl) (by kernel_rfl) (by kernel_rfl) fun K hK => ?_
                simp (config := { maxSteps := 1000000 }) [ty25, ty22, ty45, ty23, ty3, hci, hne, hr0,hcl,hcl',hov2,hnc]
                refine hK _ ?_
                clear hK K
                first | show AWP _ _ _ _ _ | show ∃ _, _ | skip
                repeat refine awp_seq ?_
                refine awp_cond (by simp; rfl) (by rw [hx]; simp) (fun hz => ?_) (fun hz => ?_)
                · simp at hz
                · refine awp_skip ?_
                  first | show AWP _ _ _ _ _ | show ∃ _, _ | skip
                  repeat refine awp_seq ?_
                  refine awp_reg1 (by rw [hx]; kernel_rfl) fun K hK => ?_
                  simp (config := { maxSteps := 1000000 }) [ty3]
                  refine hK _ ?_
                  clear hK K
                  first | show AWP _ _ _ _ _ | show ∃ _, _ | skip
                  refine ⟨i + 1, ⟨by omega, fun j hj => ?_⟩, by omega, ?_⟩
                  · by_cases e : j = i
                    · rw [e]; exact ho
                    · exact hno j (by omega)
                  · refine wk_shape (T := [(2, 2, .live (obPlat p))]) (shp0 hσ (by simp) (by simp) ?_) ?_
                    · simp [SlotOk]; exact .same (plat_pure p)
                    · simp [mtc, mtl, mT, C.isPure, purel]
                      simp (disch := omega) [wrap_id]
            · have hno2 : ¬ (0 ≤ p.ps[i].col ∧ Flow.gi p.cols p.ps[i].col.toNat < sumTo (colZ p l i) l.length) := fun h => hc0 h.1
              have ho : ¬ OverAt p l i := fun h => by
                rcases hov.1 h with h | h
                · exact hno1 h
                · exact hno2 h
              repeat refine awp_seq ?_
              refine awp_drw3 [] [0, 1, 2, 3, 4, 5, 6, 7, 8, 9, 10, 11, 12, 13, 14, 15, 16, 17, 18, 19, 20, 21, 22, 23, 24, 25, 26, 27, 28, 29, 30, 31, 32, 33, 34, 35, 36, 37, 38, 39, 40, 41, 42, 43] (by rw [hx]; kernel_rfl) (by kernel_rfl) (by kernel_rfl) (by kernel_rfl) fun K hK => ?_
              simp (config := { maxSteps := 1000000 }) [ty25, ty22, ty45, ty23, ty3, hci, hne, hr0,hc0]
              refine hK _ ?_
              clear hK K
              first | show AWP _ _ _ _ _ | show ∃ _, _ | skip
              repeat refine awp_seq ?_
              refine awp_cond (by simp; rfl) (by rw [hx]; simp) (fun hz => ?_) (fun hz => ?_)
              · simp at hz
              · refine awp_skip ?_
                first | show AWP _ _ _ _ _ | show ∃ _, _ | skip
                repeat refine awp_seq ?_
                refine awp_reg1 (by rw [hx]; kernel_rfl) fun K hK => ?_
                simp (config := { maxSteps := 1000000 }) [ty3]
                refine hK _ ?_
                clear hK K
                first | show AWP _ _ _ _ _ | show ∃ _, _ | skip
                refine ⟨i + 1, ⟨by omega, fun j hj => ?_⟩, by omega, ?_⟩
                · by_cases e : j = i
                  · rw [e]; exact ho
                  · exact hno j (by omega)
                · refine wk_shape (T := [(2, 2, .live (obPlat p))]) (shp0 hσ (by simp) (by simp) ?_) ?_
                  · simp [SlotOk]; exact .same (plat_pure p)
                  · simp [mtc, mtl, mT, C.isPure, purel]
                    simp (disch := omega) [wrap_id]
    · simp at hc
      repeat refine awp_seq ?_
      refine awp_exit ?_
      first | show AWP _ _ _ _ _ | show ∃ _, _ | skip
      repeat refine awp_seq ?_
      refine awp_reg1 (by rw [hx]; kernel_rfl) fun K hK => ?_
      simp (config := { maxSteps := 1000000 }) []
      refine hK _ ?_
      clear hK K
      first | show AWP _ _ _ _ _ | show ∃ _, _ | skip
      repeat refine awp_seq ?_
      refine awp_ret ?_
      refine And.intro (Or.inr rfl) ?_
      have hbf : b = false := by
        cases b with
        | false => rfl
        | true => obtain ⟨x, h1, h2⟩ := hB.1 rfl; exact absurd h2 (hno x (by omega))
      subst hbf
      simp [retC, resC, viewC, mapO]

end Go.Proofs.Ytgcmjidphcafnaa

namespace Go.Proofs.Ytgcmjidphcafnaa
open Go Go.Abs

set_option maxHeartbeats 2000000

-- all the adjustments that the search lists

open Classical in
/-- The lists that the search gives from a beginning, with d parcels still open; at each parcel the areas from low on, m of them. -/
noncomputable def allL (p : Plat) : Nat → List Int → List (List Int)
  | 0, l => if OverP p l then [] else if FullP p l then [l] else []
  | d + 1, l => if OverP p l then [] else (List.range (highI (pcA p l.length) - lowI (pcA p l.length) + 1).toNat).flatMap fun x : Nat => allL p d (l ++ [lowI (pcA p l.length) + (x : Int)])

/-- A beginning within its ends. -/
def InP (p : Plat) (l : List Int) : Prop := l.length ≤ p.ps.length ∧ ∀ i, i < l.length → lowI (pcA p i) ≤ Flow.gi l i ∧ Flow.gi l i ≤ highI (pcA p i)

theorem gi_app_lt {l m : List Int} {i : Nat} (h : i < l.length) : Flow.gi (l ++ m) i = Flow.gi l i := by
  simp [Flow.gi, List.getElem?_append_left h]

theorem gi_app_eq {l : List Int} {a : Int} : Flow.gi (l ++ [a]) l.length = a := by
  simp [Flow.gi]

theorem inP_app {p : Plat} {l : List Int} (h : InP p l) (hl : l.length < p.ps.length) {a : Int} (h1 : lowI (pcA p l.length) ≤ a) (h2 : a ≤ highI (pcA p l.length)) : InP p (l ++ [a]) := by
  refine ⟨by simp; omega, fun i hi => ?_⟩
  by_cases e : i < l.length
  · rw [gi_app_lt e]; exact h.2 i e
  · have : i = l.length := by simp at hi; omega
    subst this
    rw [gi_app_eq]; exact ⟨h1, h2⟩

theorem sumTo_mono {f : Nat → Int} (h : ∀ i, 0 ≤ f i) : ∀ {a b : Nat}, a ≤ b → sumTo f a ≤ sumTo f b
  | a, 0, hab => by rw [Nat.le_zero.1 hab]; exact Int.le_refl _
  | a, b + 1, hab => by
    by_cases e : a = b + 1
    · subst e; exact Int.le_refl _
    · have := sumTo_mono h (a := a) (b := b) (by omega)
      have := h b
      simp only [sumTo]; omega

theorem isP_nn {p : Plat} {l : List Int} (h : IsP p l) (i : Nat) : 0 ≤ Flow.gi l i := by
  by_cases hi : i < l.length
  · have := h.2.1 i hi
    have h0 := low_nn (pcA p i)
    have e : lowI (pcA p i) ≤ Flow.gi l i := this.1
    omega
  · simp [Flow.gi, List.getElem?_eq_none (Nat.le_of_not_lt hi)]

/-- A beginning that holds too much has no adjustment. -/
theorem over_none {p : Plat} (hp : PlatOk p) {l m : List Int} (ho : OverP p l) (h : IsP p (l ++ m)) : False := by
  obtain ⟨i, hi, ho⟩ := ho
  have hl := h.1
  have hip : i < p.ps.length := by simp at hl; omega
  have eri : pcA p i = p.ps[i] := by simp [pcA, hip]
  have hrr := hp.rr _ (List.getElem_mem hip)
  have hcc := hp.cc _ (List.getElem_mem hip)
  have hle : l.length ≤ (l ++ m).length := by simp
  rcases ho with ⟨h0, h1⟩ | ⟨h0, h1⟩
  · obtain ⟨r, hr⟩ : ∃ r : Nat, (pcA p i).row = r := ⟨(pcA p i).row.toNat, by omega⟩
    have hrl : r < p.rows.length := by rw [eri] at hr; omega
    have hf := h.2.2.1 r hrl
    have e1 : sumTo (rowZ p l i) l.length = sumTo (rowF p (l ++ m) r) l.length := sumTo_congr fun j hj => by
      unfold rowZ rowF
      rw [hr, ← gi_app_lt (m := m) hj]
    have e2 := sumTo_mono (f := rowF p (l ++ m) r) (fun j => by unfold rowF; split; exact isP_nn h j; exact Int.le_refl _) hle
    rw [hr, e1] at h1
    have e3 : Flow.gi p.rows r = p.rows[r]?.getD 0 := rfl
    have e4 : ((r : Nat) : Int).toNat = r := by simp
    rw [e4, e3] at h1
    omega
  · obtain ⟨r, hr⟩ : ∃ r : Nat, (pcA p i).col = r := ⟨(pcA p i).col.toNat, by omega⟩
    have hrl : r < p.cols.length := by rw [eri] at hr; omega
    have hf := h.2.2.2 r hrl
    have e1 : sumTo (colZ p l i) l.length = sumTo (colF p (l ++ m) r) l.length := sumTo_congr fun j hj => by
      unfold colZ colF
      rw [hr, ← gi_app_lt (m := m) hj]
    have e2 := sumTo_mono (f := colF p (l ++ m) r) (fun j => by unfold colF; split; exact isP_nn h j; exact Int.le_refl _) hle
    rw [hr, e1] at h1
    have e3 : Flow.gi p.cols r = p.cols[r]?.getD 0 := rfl
    have e4 : ((r : Nat) : Int).toNat = r := by simp
    rw [e4, e3] at h1
    omega

theorem allL_mem {p : Plat} (hp : PlatOk p) : ∀ (d : Nat) (l l' : List Int), InP p l → l.length + d = p.ps.length → (l' ∈ allL p d l ↔ IsP p l' ∧ ∃ m, l' = l ++ m)
  | 0, l, l', hI, hd => by
    classical
    simp only [allL]
    by_cases ho : OverP p l
    · rw [if_pos ho]
      constructor
      · intro h; simp at h
      · rintro ⟨h, m, rfl⟩; exact (over_none hp ho h).elim
    · rw [if_neg ho]
      have key : IsP p l ↔ FullP p l := ⟨fun h => h.2.2, fun h => ⟨by omega, hI.2, h⟩⟩
      by_cases hf : FullP p l
      · rw [if_pos hf]
        constructor
        · intro h
          have : l' = l := by simpa using h
          subst this
          exact ⟨key.2 hf, [], by simp⟩
        · rintro ⟨h, m, rfl⟩
          have h1 := h.1
          have : m = [] := List.eq_nil_of_length_eq_zero (by simp at h1; omega)
          subst this; simp
      · rw [if_neg hf]
        constructor
        · intro h; simp at h
        · rintro ⟨h, m, rfl⟩
          have h1 := h.1
          have : m = [] := List.eq_nil_of_length_eq_zero (by simp at h1; omega)
          subst this
          simp at h
          exact absurd (key.1 h) hf
  | d + 1, l, l', hI, hd => by
    classical
    simp only [allL]
    by_cases ho : OverP p l
    · rw [if_pos ho]
      constructor
      · intro h; simp at h
      · rintro ⟨h, m, rfl⟩; exact (over_none hp ho h).elim
    · rw [if_neg ho, List.mem_flatMap]
      constructor
      · rintro ⟨x, h1, h2⟩
        rw [List.mem_range] at h1
        obtain ⟨h3, m, rfl⟩ := (allL_mem hp d _ _ (inP_app hI (by omega) (by omega) (by omega)) (by simp; omega)).1 h2
        exact ⟨h3, [lowI (pcA p l.length) + x] ++ m, by simp⟩
      · rintro ⟨h, m, rfl⟩
        have h1 := h.1
        cases m with
        | nil => simp at h1; omega
        | cons a m =>
          have hb := h.2.1 l.length (by simp)
          have ea : Flow.gi (l ++ a :: m) l.length = a := by simp [Flow.gi]
          have hb' : lowI (pcA p l.length) ≤ Flow.gi (l ++ a :: m) l.length ∧ Flow.gi (l ++ a :: m) l.length ≤ highI (pcA p l.length) := hb
          rw [ea] at hb'
          refine ⟨(a - lowI (pcA p l.length)).toNat, by rw [List.mem_range]; omega, ?_⟩
          have e : lowI (pcA p l.length) + ((a - lowI (pcA p l.length)).toNat : Int) = a := by omega
          rw [e]
          exact (allL_mem hp d _ _ (inP_app hI (by omega) (by omega) (by omega)) (by simp; omega)).2 ⟨h, m, by simp⟩

/-- The product of the ways of the parcels from k on, d of them. -/
def prodW (p : Plat) : Nat → Nat → Nat
  | _, 0 => 1
  | k, d + 1 => (highI (pcA p k) - lowI (pcA p k) + 1).toNat * prodW p (k + 1) d

theorem flat_len {α : Type} {f : Nat → List α} {b : Nat} : ∀ n, (∀ x, x < n → (f x).length ≤ b) → ((List.range n).flatMap f).length ≤ n * b
  | 0, _ => by simp
  | n + 1, h => by
    have ih := flat_len n fun x hx => h x (by omega)
    have h1 := h n (by omega)
    rw [List.range_succ, List.flatMap_append, List.length_append, Nat.succ_mul]
    simp only [List.flatMap_cons, List.flatMap_nil, List.append_nil]
    omega

theorem allL_len (p : Plat) : ∀ (d : Nat) (l : List Int), (allL p d l).length ≤ prodW p l.length d
  | 0, l => by
    classical
    simp only [allL, prodW]
    split
    · simp
    · split <;> simp
  | d + 1, l => by
    classical
    simp only [allL, prodW]
    split
    · simp
    · exact flat_len _ fun x _ => by have := allL_len p d (l ++ [lowI (pcA p l.length) + (x : Int)]); simpa using this

theorem waysF_pos {p : Plat} (hp : PlatOk p) (i : Nat) (hi : i < p.ps.length) : 1 ≤ waysF p i := by
  have hq := pcA_ok hp hi
  have e : waysF p i = highI (pcA p i) - lowI (pcA p i) + 1 := rfl
  unfold PcOk at hq
  rw [e]; unfold highI lowI; omega

theorem prodW_mul {p : Plat} (hp : PlatOk p) : ∀ (d k : Nat), k + d ≤ p.ps.length → prodTo (waysF p) k * (prodW p k d : Int) = prodTo (waysF p) (k + d)
  | 0, k, _ => by simp [prodW]
  | d + 1, k, h => by
    have ih := prodW_mul hp d (k + 1) (by omega)
    have hw := waysF_pos hp k (by omega)
    have e : waysF p k = highI (pcA p k) - lowI (pcA p k) + 1 := rfl
    have e2 : ((highI (pcA p k) - lowI (pcA p k) + 1).toNat : Int) = waysF p k := by rw [e] at hw ⊢; omega
    simp only [prodW]
    rw [Int.natCast_mul, e2, ← Int.mul_assoc]
    have e3 : prodTo (waysF p) (k + 1) = prodTo (waysF p) k * waysF p k := rfl
    rw [← e3, ih]
    congr 1; omega

theorem prodTo_pos {p : Plat} (hp : PlatOk p) : ∀ k, k ≤ p.ps.length → 1 ≤ prodTo (waysF p) k
  | 0, _ => by simp [prodTo]
  | k + 1, h => by
    have ih := prodTo_pos hp k (by omega)
    have hw := waysF_pos hp k (by omega)
    simp only [prodTo]
    have := Int.mul_le_mul ih hw (by omega) (by omega)
    simpa using this

theorem prodW_le {p : Plat} (hp : PlatOk p) (hf : ¬ FarP p) (k d : Nat) (h : k + d ≤ p.ps.length) : prodW p k d ≤ 1500 := by
  have h1 := prodW_mul hp d k h
  have h2 := prodTo_pos hp k (by omega)
  have h3 : prodTo (waysF p) (k + d) ≤ 1500 := by
    apply Classical.byContradiction
    intro hc
    exact hf (.inr ⟨hp, k + d, h, by omega⟩)
  have h4 : (prodW p k d : Int) ≤ prodTo (waysF p) k * (prodW p k d : Int) := by
    have := Int.mul_le_mul_of_nonneg_right h2 (c := (prodW p k d : Int)) (by omega)
    simpa using this
  omega

end Go.Proofs.Ytgcmjidphcafnaa

/- A call to which an object is given that becomes data. No condition. -/
namespace Go.Abs

/-- Refs into an object that becomes data, one by one. -/
inductive FzL (k : Nat) (o : Ob) : List C → List C → Prop
  | nil : FzL k o [] []
  | cons {c c' : C} {l l' : List C} (h : FzC k o c c') (t : FzL k o l l') : FzL k o (c :: l) (c' :: l')

theorem FzL.get {k : Nat} {o : Ob} {l l' : List C} (h : FzL k o l l') : l'.length = l.length ∧ ∀ (i : Nat) (c' : C), l'[i]? = some c' → ∃ c, l[i]? = some c ∧ FzC k o c c' := by
  induction h with
  | nil => exact ⟨rfl, fun i c' h => by simp at h⟩
  | cons h t ih =>
    refine ⟨by simp [ih.1], fun i c' hi => ?_⟩
    cases i with
    | zero => simp at hi; subst hi; exact ⟨_, rfl, h⟩
    | succ i => simp at hi ⊢; exact ih.2 i c' hi

theorem does_frz {P : Program} {f : FuncId} {args args' : List C} {r : C} {σ : Nat → Slot} (k : Nat) {o : Ob} (hk : σ k = .live o) (hp : o.rows.all purel = true) (hfz : FzL k o args args') (hpl : purel args' = true)
    (h : Pure P f args' r) (hr : r.isPure = true) : Does P f σ args r (upd σ k .dead) := by
  refine { h.toCallable with calls := fun x ρ w vs hF hC => ?_ }
  obtain ⟨hK, hF2, hmap⟩ := hF.freeze hk hp
  have hg := hfz.get
  have hC2 : CL (x.Gd ρ (upd σ k .dead)) ρ (upd σ k .dead) w args' vs := by
    refine ⟨by rw [hg.1]; exact hC.1, fun i c' hi => ?_⟩
    obtain ⟨c, h1, h2⟩ := hg.2 i c' hi
    exact hmap c c' _ h2 (hC.2 i c h1)
  refine (h.calls _ w _ (CL_pure hC2 hpl)).mono ?_
  rintro e w' ⟨v, rfl, hpr, hgr⟩
  obtain ⟨hK2, hF3⟩ := hF2.grew hgr
  refine ⟨v, ρ, rfl, hK.trans hK2, hF3, .pure (hpr.mono fun b hb hlt => ⟨?_, hlt, rfl⟩)⟩
  rcases hb with hb | hb
  · exact hb
  · refine ⟨.inr (.inr (Nat.le_trans hF2.size hb)), ?_⟩
    rintro ⟨k', o', h1, h2, rfl⟩
    have := (hF2.sto.ob k' o' h1 h2).lt
    omega

end Go.Abs

namespace Go.Proofs.Ytgcmjidphcafnaa
open Go Go.Abs

set_option maxHeartbeats 4000000
set_option maxRecDepth 100000

theorem bd_inP {p : Plat} (hp : PlatOk p) {l : List Int} (h : InP p l) : Bd l := by
  intro a ha
  obtain ⟨i, hi, rfl⟩ := List.getElem_of_mem ha
  have h1 := h.2 i hi
  have hq := pcA_ok hp (i := i) (by have := h.1; omega)
  have e : Flow.gi l i = l[i] := by simp [Flow.gi, hi]
  rw [e] at h1
  unfold PcOk at hq
  unfold lowI highI at h1
  omega

/-- A call that works on the objects that there are, where the order is open. -/
theorem doesD {P : Program} {ops : Array Oper} {na : List Nat} {l : List (Nat × Oper)} {K : AS → Prop} {s : AS} {d : Option Nat} {f : FuncId} {args : List C} {r : C} {σ' : Nat → Slot} (hp : Does P f s.sto args r σ')
    (h : evalD P ops na l ⟨putE s.env d r, σ'⟩ K) : contCD P ops na l K s d 0 f args :=
  .inr (.inr (.inl ⟨.inl rfl, r, σ', hp, fun h => by simp at h, h⟩))

/-- The cells of lists that a list has. -/
abbrev LL := List (Bool × Bool × List Int)

theorem cS_pure (ls : LL) : (ls.map cS).all purel = true := by
  simp [purel, C.isPure]

/-- The lists of the first x areas. -/
def accL (F : Nat → Bool × Bool × LL) (x : Nat) : LL := (List.range x).flatMap fun y => (F y).2.2

theorem accL_succ (F : Nat → Bool × Bool × LL) (x : Nat) : accL F (x + 1) = accL F x ++ (F x).2.2 := by
  simp [accL, List.range_succ]

theorem isE_app {α : Type} (a b : List α) : (a ++ b).isEmpty = (a.isEmpty && b.isEmpty) := by cases a <;> simp

theorem all80 (p : Plat) (hp : PlatOk p) (hf : ¬ FarP p) : ∀ (d : Nat) (l : List Int), l.length + d = p.ps.length → InP p l → ∀ (a b : Bool), ∃ (nl fu : Bool) (fl : LL), fl.map (·.2.2) = allL p d l ∧ Pure Try.prog 80 [encPlat p, .sl a b (l.map cI)] (.sl nl fu (fl.map cS)) := by
  classical
  intro d
  induction d with
  | zero =>
    intro l hd hI a b
    have hbd := bd_inP hp hI
    have h8 := hp.n8
    have hrw := hp.r4
    have hcw := hp.c4
    by_cases ho : OverP p l
    · refine ⟨true, true, [], by simp [allL, ho], ?_⟩
      refine pure_of (fn := Try.f80) [.tmp 4] ⟨Try.func80, rfl, by kernel_rfl⟩ (by kernel_rfl) (by kernel_rfl) (by kernel_rfl) fun x hx hσ => ?_
      repeat refine awp_seq ?_
      refine awp_reg1 (by rw [hx]; kernel_rfl) fun K hK => ?_
      simp (config := { maxSteps := 1000000 }) [ty25]
      refine hK _ ?_
      clear hK K
      first | show AWP _ _ _ _ _ | show ∃ _, _ | skip
      repeat refine awp_seq ?_
      refine awp_reg1 (by rw [hx]; kernel_rfl) fun K hK => ?_
      simp (config := { maxSteps := 1000000 }) [ty25]
      refine callP (over92 p hp a b l hI.1 hbd true (by simp [ho])) (by first | (simp; done) | (simp [*]; done)) ?_
      simp (config := { maxSteps := 1000000 }) []
      refine hK _ ?_
      clear hK K
      first | show AWP _ _ _ _ _ | show ∃ _, _ | skip
      repeat refine awp_seq ?_
      refine awp_cond (by simp; rfl) (by rw [hx]; simp) (fun hd => ?_) (fun hd => ?_)
      · repeat refine awp_seq ?_
        refine awp_reg1 (by rw [hx]; kernel_rfl) fun K hK => ?_
        simp (config := { maxSteps := 1000000 }) []
        refine hK _ ?_
        clear hK K
        first | show AWP _ _ _ _ _ | show ∃ _, _ | skip
        repeat refine awp_seq ?_
        refine awp_ret ?_
        refine And.intro (Or.inr rfl) ?_
        simp [retC, resC, viewC, mapO]
      · simp at hd
    · by_cases hfu : FullP p l
      · refine ⟨false, true, [(a, b, l)], by simp [allL, ho, hfu], ?_⟩
        refine pure_of (fn := Try.f80) [.tmp 4] ⟨Try.func80, rfl, by kernel_rfl⟩ (by kernel_rfl) (by kernel_rfl) (by kernel_rfl) fun x hx hσ => ?_
        repeat refine awp_seq ?_
        refine awp_reg1 (by rw [hx]; kernel_rfl) fun K hK => ?_
        simp (config := { maxSteps := 1000000 }) [ty25]
        refine hK _ ?_
        clear hK K
        first | show AWP _ _ _ _ _ | show ∃ _, _ | skip
        repeat refine awp_seq ?_
        refine awp_reg1 (by rw [hx]; kernel_rfl) fun K hK => ?_
        simp (config := { maxSteps := 1000000 }) [ty25]
        refine callP (over92 p hp a b l hI.1 hbd false (by simp [ho])) (by first | (simp; done) | (simp [*]; done)) ?_
        simp (config := { maxSteps := 1000000 }) []
        refine hK _ ?_
        clear hK K
        first | show AWP _ _ _ _ _ | show ∃ _, _ | skip
        repeat refine awp_seq ?_
        refine awp_cond (by simp; rfl) (by rw [hx]; simp) (fun hd => ?_) (fun hd => ?_)
        · simp at hd
        refine awp_skip ?_
        first | show AWP _ _ _ _ _ | show ∃ _, _ | skip
        repeat refine awp_seq ?_
        refine awp_reg1 (by rw [hx]; kernel_rfl) fun K hK => ?_
        simp (config := { maxSteps := 1000000 }) [ty25, ty22, ty23, ty3]
        refine hK _ ?_
        clear hK K
        first | show AWP _ _ _ _ _ | show ∃ _, _ | skip
        repeat refine awp_seq ?_
        refine awp_cond (by simp; rfl) (by rw [hx]; simp) (fun he => ?_) (fun he => ?_)
        · repeat refine awp_seq ?_
          refine awp_reg1 (by rw [hx]; kernel_rfl) fun K hK => ?_
          simp (config := { maxSteps := 1000000 }) [ty25]
          refine callP (full_c p a b l hI.1 (by omega) (by omega) (by omega) hbd true (by simp [hfu])) (by first | (simp; done) | (simp [*]; done)) ?_
          simp (config := { maxSteps := 1000000 }) []
          refine hK _ ?_
          clear hK K
          first | show AWP _ _ _ _ _ | show ∃ _, _ | skip
          repeat refine awp_seq ?_
          refine awp_cond (by simp; rfl) (by rw [hx]; simp) (fun hg => ?_) (fun hg => ?_)
          · repeat refine awp_seq ?_
            refine awp_reg1 (by rw [hx]; kernel_rfl) fun K hK => ?_
            simp (config := { maxSteps := 1000000 }) [ty73, ty23]
            refine hK _ ?_
            clear hK K
            first | show AWP _ _ _ _ _ | show ∃ _, _ | skip
            repeat refine awp_seq ?_
            refine awp_ret ?_
            refine And.intro (Or.inr rfl) ?_
            simp [retC, resC, viewC, mapO]
          · simp at hg
        · simp at he
          omega
      · refine ⟨true, true, [], by simp [allL, ho, hfu], ?_⟩
        refine pure_of (fn := Try.f80) [.tmp 4] ⟨Try.func80, rfl, by kernel_rfl⟩ (by kernel_rfl) (by kernel_rfl) (by kernel_rfl) fun x hx hσ => ?_
        repeat refine awp_seq ?_
        refine awp_reg1 (by rw [hx]; kernel_rfl) fun K hK => ?_
        simp (config := { maxSteps := 1000000 }) [ty25]
        refine hK _ ?_
        clear hK K
        first | show AWP _ _ _ _ _ | show ∃ _, _ | skip
        repeat refine awp_seq ?_
        refine awp_reg1 (by rw [hx]; kernel_rfl) fun K hK => ?_
        simp (config := { maxSteps := 1000000 }) [ty25]
        refine callP (over92 p hp a b l hI.1 hbd false (by simp [ho])) (by first | (simp; done) | (simp [*]; done)) ?_
        simp (config := { maxSteps := 1000000 }) []
        refine hK _ ?_
        clear hK K
        first | show AWP _ _ _ _ _ | show ∃ _, _ | skip
        repeat refine awp_seq ?_
        refine awp_cond (by simp; rfl) (by rw [hx]; simp) (fun hd => ?_) (fun hd => ?_)
        · simp at hd
        refine awp_skip ?_
        first | show AWP _ _ _ _ _ | show ∃ _, _ | skip
        repeat refine awp_seq ?_
        refine awp_reg1 (by rw [hx]; kernel_rfl) fun K hK => ?_
        simp (config := { maxSteps := 1000000 }) [ty25, ty22, ty23, ty3]
        refine hK _ ?_
        clear hK K
        first | show AWP _ _ _ _ _ | show ∃ _, _ | skip
        repeat refine awp_seq ?_
        refine awp_cond (by simp; rfl) (by rw [hx]; simp) (fun he => ?_) (fun he => ?_)
        · repeat refine awp_seq ?_
          refine awp_reg1 (by rw [hx]; kernel_rfl) fun K hK => ?_
          simp (config := { maxSteps := 1000000 }) [ty25]
          refine callP (full_c p a b l hI.1 (by omega) (by omega) (by omega) hbd false (by simp [hfu])) (by first | (simp; done) | (simp [*]; done)) ?_
          simp (config := { maxSteps := 1000000 }) []
          refine hK _ ?_
          clear hK K
          first | show AWP _ _ _ _ _ | show ∃ _, _ | skip
          repeat refine awp_seq ?_
          refine awp_cond (by simp; rfl) (by rw [hx]; simp) (fun hg => ?_) (fun hg => ?_)
          · simp at hg
          · refine awp_skip ?_
            first | show AWP _ _ _ _ _ | show ∃ _, _ | skip
            repeat refine awp_seq ?_
            refine awp_reg1 (by rw [hx]; kernel_rfl) fun K hK => ?_
            simp (config := { maxSteps := 1000000 }) []
            refine hK _ ?_
            clear hK K
            first | show AWP _ _ _ _ _ | show ∃ _, _ | skip
            repeat refine awp_seq ?_
            refine awp_ret ?_
            refine And.intro (Or.inr rfl) ?_
            simp [retC, resC, viewC, mapO]
        · simp at he
          omega
  | succ d ih =>
    intro l hd hI a b
    have hbd := bd_inP hp hI
    have h8 := hp.n8
    by_cases ho : OverP p l
    · refine ⟨true, true, [], by simp [allL, ho], ?_⟩
      refine pure_of (fn := Try.f80) [.tmp 4] ⟨Try.func80, rfl, by kernel_rfl⟩ (by kernel_rfl) (by kernel_rfl) (by kernel_rfl) fun x hx hσ => ?_
      repeat refine awp_seq ?_
      refine awp_reg1 (by rw [hx]; kernel_rfl) fun K hK => ?_
      simp (config := { maxSteps := 1000000 }) [ty25]
      refine hK _ ?_
      clear hK K
      first | show AWP _ _ _ _ _ | show ∃ _, _ | skip
      repeat refine awp_seq ?_
      refine awp_reg1 (by rw [hx]; kernel_rfl) fun K hK => ?_
      simp (config := { maxSteps := 1000000 }) [ty25]
      refine callP (over92 p hp a b l hI.1 hbd true (by simp [ho])) (by first | (simp; done) | (simp [*]; done)) ?_
      simp (config := { maxSteps := 1000000 }) []
      refine hK _ ?_
      clear hK K
      first | show AWP _ _ _ _ _ | show ∃ _, _ | skip
      repeat refine awp_seq ?_
      refine awp_cond (by simp; rfl) (by rw [hx]; simp) (fun hd => ?_) (fun hd => ?_)
      · repeat refine awp_seq ?_
        refine awp_reg1 (by rw [hx]; kernel_rfl) fun K hK => ?_
        simp (config := { maxSteps := 1000000 }) []
        refine hK _ ?_
        clear hK K
        first | show AWP _ _ _ _ _ | show ∃ _, _ | skip
        repeat refine awp_seq ?_
        refine awp_ret ?_
        refine And.intro (Or.inr rfl) ?_
        simp [retC, resC, viewC, mapO]
      · simp at hd
    · have hlt : l.length < p.ps.length := by omega
      have hne : p.ps ≠ [] := by intro h; rw [h] at hlt; simp at hlt
      have epc : pcA p l.length = p.ps[l.length] := by simp [pcA, hlt]
      have hq := pcA_ok hp hlt
      have hq' := hq
      rw [epc] at hq'
      have hlo := low_c _ hq'
      have hhi := high_c _ hq'
      unfold PcOk at hq
      obtain ⟨lo, hlo0⟩ : ∃ lo, lo = lowI (pcA p l.length) := ⟨_, rfl⟩
      obtain ⟨hi, hhi0⟩ : ∃ hi, hi = highI (pcA p l.length) := ⟨_, rfl⟩
      rw [← epc, ← hlo0] at hlo
      rw [← epc, ← hhi0] at hhi
      have hb : -9999 ≤ lo ∧ lo ≤ hi ∧ hi ≤ 9999 := by rw [hlo0, hhi0]; unfold lowI highI; omega
      obtain ⟨m, hm⟩ : ∃ m : Nat, m = (hi - lo + 1).toNat := ⟨_, rfl⟩
      have hex : ∀ x : Nat, ∃ r : Bool × Bool × LL, x < m → r.2.2.map (·.2.2) = allL p d (l ++ [lo + (x : Int)]) ∧ Pure Try.prog 80 [encPlat p, .sl false false ((l ++ [lo + (x : Int)]).map cI)] (.sl r.1 r.2.1 (r.2.2.map cS)) := by
        intro x
        by_cases hx : x < m
        · obtain ⟨nl, fu, fl, h1, h2⟩ := ih (l ++ [lo + (x : Int)]) (by simp; omega) (inP_app hI hlt (by omega) (by omega)) false false
          exact ⟨(nl, fu, fl), fun _ => ⟨h1, h2⟩⟩
        · exact ⟨(false, false, []), fun h => absurd h hx⟩
      obtain ⟨F, hF⟩ := Classical.axiomOfChoice hex
      have hacc : ∀ x, x ≤ m → (accL F x).map (·.2.2) = (List.range x).flatMap fun y : Nat => allL p d (l ++ [lo + (y : Int)]) := by
        intro x
        induction x with
        | zero => intro _; simp [accL]
        | succ x ihx =>
          intro hx
          rw [accL_succ, List.map_append, ihx (by omega), (hF x (by omega)).1, List.range_succ, List.flatMap_append]
          simp
      have hlen : ∀ x, x ≤ m → (accL F x).length ≤ 1500 := by
        intro x hx
        have h1 : (accL F x).length = ((List.range x).flatMap fun y : Nat => allL p d (l ++ [lo + (y : Int)])).length := by rw [← hacc x hx, List.length_map]
        have h2 := flat_len (f := fun y : Nat => allL p d (l ++ [lo + (y : Int)])) (b := prodW p (l.length + 1) d) x fun y _ => by have := allL_len p d (l ++ [lo + (y : Int)]); simpa using this
        have h3 := prodW_le hp hf l.length (d + 1) (by omega)
        have h4 : prodW p l.length (d + 1) = m * prodW p (l.length + 1) d := by rw [hm, hlo0, hhi0]; rfl
        have h5 := Nat.mul_le_mul_right (prodW p (l.length + 1) d) hx
        omega
      refine ⟨(accL F m).isEmpty, false, accL F m, by rw [hacc m (Nat.le_refl _)]; simp only [allL]; rw [if_neg ho, ← hlo0, ← hhi0, ← hm], ?_⟩
      refine pure_of (fn := Try.f80) [.tmp 4] ⟨Try.func80, rfl, by kernel_rfl⟩ (by kernel_rfl) (by kernel_rfl) (by kernel_rfl) fun x hx hσ => ?_
      repeat refine awp_seq ?_
      refine awp_reg1 (by rw [hx]; kernel_rfl) fun K hK => ?_
      simp (config := { maxSteps := 1000000 }) [ty25]
      refine hK _ ?_
      clear hK K
      first | show AWP _ _ _ _ _ | show ∃ _, _ | skip
      repeat refine awp_seq ?_
      refine awp_reg1 (by rw [hx]; kernel_rfl) fun K hK => ?_
      simp (config := { maxSteps := 1000000 }) [ty25]
      refine callP (over92 p hp a b l hI.1 hbd false (by simp [ho])) (by first | (simp; done) | (simp [*]; done)) ?_
      simp (config := { maxSteps := 1000000 }) []
      refine hK _ ?_
      clear hK K
      first | show AWP _ _ _ _ _ | show ∃ _, _ | skip
      repeat refine awp_seq ?_
      refine awp_cond (by simp; rfl) (by rw [hx]; simp) (fun hd => ?_) (fun hd => ?_)
      · simp at hd
      refine awp_skip ?_
      first | show AWP _ _ _ _ _ | show ∃ _, _ | skip
      repeat refine awp_seq ?_
      refine awp_reg1 (by rw [hx]; kernel_rfl) fun K hK => ?_
      simp (config := { maxSteps := 1000000 }) [ty25, ty22, ty23, ty3]
      refine hK _ ?_
      clear hK K
      first | show AWP _ _ _ _ _ | show ∃ _, _ | skip
      repeat refine awp_seq ?_
      refine awp_cond (by simp; rfl) (by rw [hx]; simp) (fun he => ?_) (fun he => ?_)
      · simp at he
        omega
      refine awp_skip ?_
      first | show AWP _ _ _ _ _ | show ∃ _, _ | skip
      repeat refine awp_seq ?_
      refine awp_reg1 (by rw [hx]; kernel_rfl) fun K hK => ?_
      simp (config := { maxSteps := 1000000 }) []
      refine hK _ ?_
      clear hK K
      first | show AWP _ _ _ _ _ | show ∃ _, _ | skip
      repeat refine awp_seq ?_
      refine awp_reg1 (by rw [hx]; kernel_rfl) fun K hK => ?_
      simp (config := { maxSteps := 1000000 }) [ty25, ty22, ty23, ty45, hlt, hne]
      refine hK _ ?_
      clear hK K
      first | show AWP _ _ _ _ _ | show ∃ _, _ | skip
      repeat refine awp_seq ?_
      refine awp_reg1 (by rw [hx]; kernel_rfl) fun K hK => ?_
      simp (config := { maxSteps := 1000000 }) [ty45]
      rw [epc] at hlo hhi
      refine callP (hlo) (by first | (simp; done) | (simp [*]; done)) ?_
      simp (config := { maxSteps := 1000000 }) [ty45]
      refine hK _ ?_
      clear hK K
      first | show AWP _ _ _ _ _ | show ∃ _, _ | skip
      repeat refine awp_seq ?_
      refine awp_block ?_
      refine AWP.weak ?_ (wk_nil 5 5 1 (fu := true) (by simp) (by simp))
      refine awp_loop (fun x : Nat => ⟨ofL [(1, .sl a b (l.map cI)), (2, .ptr 2 3 0 0), (5, .own 5 1 0 (accL F x).length), (6, .ptr 6 4 0 0), (7, encI (lo + (x : Int)))], stoT [(2, 2, .live (obPlat p)), (5, 5, .live ⟨(accL F x).isEmpty, false, 1, (accL F x).map cS⟩), (6, 6, .live (obPc p.ps[l.length]))]⟩)
        (fun x => x ≤ m) (fun x => m - x) 0 (by simp) ?_ ?_
      · refine wk_shape (shp0 hσ (by simp) (by simp) ?_) ?_
        · simp [SlotOk, accL]; exact ⟨.same (plat_pure p), .same rfl, .same (by simp [purel, C.isPure])⟩
        · simp [mtc, mtl, mT, C.isPure, purel, accL]
      · intro x hxm0
        have hlx := hlen x hxm0
        repeat refine awp_seq ?_
        refine awp_reg1 (by rw [hx]; kernel_rfl) fun K hK => ?_
        simp (config := { maxSteps := 1000000 }) [ty45, ty3]
        refine callP (hhi) (by first | (simp; done) | (simp [*]; done)) ?_
        simp (config := { maxSteps := 1000000 }) [ty45, ty3]
        refine hK _ ?_
        clear hK K
        first | show AWP _ _ _ _ _ | show ∃ _, _ | skip
        repeat refine awp_seq ?_
        refine awp_cond (by simp; rfl) (by rw [hx]; simp) (fun hc => ?_) (fun hc => ?_)
        · simp at hc
          have hxm : x < m := by omega
          have hly := hlen (x + 1) (by omega)
          refine awp_skip ?_
          first | show AWP _ _ _ _ _ | show ∃ _, _ | skip
          repeat refine awp_seq ?_
          refine awp_block ?_
          repeat refine awp_seq ?_
          refine awp_drw3 [4, 1001, 5007, 4008, 10040] [0, 1, 2, 3, 4, 5, 6, 7, 8, 9, 10] (by rw [hx]; kernel_rfl) (by kernel_rfl) (by kernel_rfl) (by kernel_rfl) fun K hK => ?_
          simp (config := { maxSteps := 1000000 }) [ty25, ty23, ty3, ty73]
          refine ⟨⟨by omega, by omega⟩, ⟨by omega, by omega⟩, ?_⟩
          refine doesD (does_frz 43 (args' := [encPlat p, .sl false false ((l ++ [lo + (x : Int)]).map cI)]) (by simp; rfl) ?_ (.cons (.inl rfl) (.cons ?_ .nil)) ?_ (hF x hxm).2 ?_) ?_
          · simp [purel, C.isPure]
          · have := fz_own (k := 43) (sz := 1) (n := l.length + 1) (b := false) (o := ⟨false, true, 1, l.map cI ++ [[encI (lo + (x : Int))]]⟩) rfl (by simp) rfl
            simpa using this
          · simp [purel, C.isPure]
          · simp [C.isPure]
          simp [ty73, ty23]
          have hls : (accL F (x + 1)).length = (accL F x).length + (F x).2.2.length := by rw [accL_succ, List.length_append]
          refine ⟨⟨by omega, by omega⟩, ?_⟩
          refine hK _ ?_
          clear hK K
          first | show AWP _ _ _ _ _ | show ∃ _, _ | skip
          repeat refine awp_seq ?_
          refine awp_reg1 (by rw [hx]; kernel_rfl) fun K hK => ?_
          simp (config := { maxSteps := 1000000 }) [ty3]
          refine hK _ ?_
          clear hK K
          first | show AWP _ _ _ _ _ | show ∃ _, _ | skip
          refine ⟨x + 1, by omega, by omega, ?_⟩
          refine wk_shape (T := [(2, 2, .live (obPlat p)), (5, 45, .live ⟨(accL F (x + 1)).isEmpty, false, 1, (accL F (x + 1)).map cS⟩), (6, 6, .live (obPc p.ps[l.length]))]) (shp0 hσ (by simp) (by simp) ?_) ?_
          · simp [SlotOk, accL_succ]
            exact ⟨.same (plat_pure p), ⟨isE_app _ _, .same (by simp [purel, C.isPure])⟩, .same (by simp [purel, C.isPure])⟩
          · simp [mtc, mtl, mT, C.isPure, purel, accL_succ]
            rw [wrap_id (by omega) (by omega)]
            omega
        · simp at hc
          repeat refine awp_seq ?_
          refine awp_exit ?_
          first | show AWP _ _ _ _ _ | show ∃ _, _ | skip
          obtain rfl : x = m := by omega
          repeat refine awp_seq ?_
          refine awp_reg1 (by rw [hx]; kernel_rfl) fun K hK => ?_
          simp (config := { maxSteps := 1000000 }) []
          refine hK _ ?_
          clear hK K
          first | show AWP _ _ _ _ _ | show ∃ _, _ | skip
          repeat refine awp_seq ?_
          refine awp_ret ?_
          refine And.intro (Or.inr rfl) ?_
          refine ⟨_, by simp [retC, resC]; rfl, ?_⟩
          refine (viewC_own (o := ⟨(accL F x).isEmpty, false, 1, (accL F x).map cS⟩) (by simp) rfl (by simp) (cS_pure _)).trans ?_
          simp

end Go.Proofs.Ytgcmjidphcafnaa

namespace Go.Proofs.Ytgcmjidphcafnaa
open Go Go.Abs

set_option maxHeartbeats 4000000
set_option maxRecDepth 100000

theorem far_40 {p : Plat} (hf : ¬ FarP p) : p.ps.length ≤ 40 ∧ p.rows.length ≤ 40 ∧ p.cols.length ≤ 40 := by
  unfold FarP at hf
  omega

theorem inP_nil (p : Plat) : InP p [] := ⟨by simp, fun i hi => by simp at hi⟩

theorem allL_nil {p : Plat} (hp : PlatOk p) (l : List Int) : l ∈ allL p p.ps.length [] ↔ IsP p l := by
  rw [allL_mem hp _ _ _ (inP_nil p) (by simp)]
  exact ⟨fun h => h.1, fun h => ⟨h, l, by simp⟩⟩

theorem kn_bad (p : Plat) (h : p.ps.length ≤ 40 ∧ p.rows.length ≤ 40 ∧ p.cols.length ≤ 40) (hp : ¬ PlatOk p) (b : Bool) : Pure Try.prog 60 [encPlat p, .bool b] (.tup [.sl true true [], encI 60]) := by
  have hck := check34 p (by omega) (by omega) (by omega)
  rw [if_neg hp] at hck
  refine pure_of (fn := Try.f60) [.tmp 4, .tmp 5] ⟨Try.func60, rfl, by kernel_rfl⟩ (by kernel_rfl) (by kernel_rfl) (by kernel_rfl) fun x hx hσ => ?_
  repeat refine awp_seq ?_
  refine awp_reg1 (by rw [hx]; kernel_rfl) fun K hK => ?_
  simp (config := { maxSteps := 1000000 }) [ty25, ty30, ty3]
  refine hK _ ?_
  clear hK K
  first | show AWP _ _ _ _ _ | show ∃ _, _ | skip
  repeat refine awp_seq ?_
  refine awp_reg1 (by rw [hx]; kernel_rfl) fun K hK => ?_
  simp (config := { maxSteps := 1000000 }) [ty25]
  refine callP (hck) (by first | (simp; done) | (simp [*]; done)) ?_
  simp (config := { maxSteps := 1000000 }) []
  refine hK _ ?_
  clear hK K
  first | show AWP _ _ _ _ _ | show ∃ _, _ | skip
  repeat refine awp_seq ?_
  refine awp_reg1 (by rw [hx]; kernel_rfl) fun K hK => ?_
  simp (config := { maxSteps := 1000000 }) [ty30, ty3]
  refine hK _ ?_
  clear hK K
  first | show AWP _ _ _ _ _ | show ∃ _, _ | skip
  repeat refine awp_seq ?_
  refine awp_cond (by simp; rfl) (by rw [hx]; simp) (fun hc => ?_) (fun hc => ?_)
  · repeat refine awp_seq ?_
    refine awp_reg1 (by rw [hx]; kernel_rfl) fun K hK => ?_
    simp (config := { maxSteps := 1000000 }) []
    refine hK _ ?_
    clear hK K
    first | show AWP _ _ _ _ _ | show ∃ _, _ | skip
    repeat refine awp_seq ?_
    refine awp_ret ?_
    refine And.intro (Or.inr rfl) ?_
    simp [retC, resC, viewC, mapO]
  · simp at hc

theorem kn_arg (p : Plat) (hp : PlatOk p) : Pure Try.prog 60 [encPlat p, .bool false] (.tup [.sl true true [], encI 1]) := by
  have h8 := hp.n8
  have h4 := hp.r4
  have h5 := hp.c4
  have hck := check34 p (by omega) (by omega) (by omega)
  rw [if_pos hp] at hck
  refine pure_of (fn := Try.f60) [.tmp 4, .tmp 5] ⟨Try.func60, rfl, by kernel_rfl⟩ (by kernel_rfl) (by kernel_rfl) (by kernel_rfl) fun x hx hσ => ?_
  repeat refine awp_seq ?_
  refine awp_reg1 (by rw [hx]; kernel_rfl) fun K hK => ?_
  simp (config := { maxSteps := 1000000 }) [ty25, ty30, ty3]
  refine hK _ ?_
  clear hK K
  first | show AWP _ _ _ _ _ | show ∃ _, _ | skip
  repeat refine awp_seq ?_
  refine awp_reg1 (by rw [hx]; kernel_rfl) fun K hK => ?_
  simp (config := { maxSteps := 1000000 }) [ty25]
  refine callP (hck) (by first | (simp; done) | (simp [*]; done)) ?_
  simp (config := { maxSteps := 1000000 }) []
  refine hK _ ?_
  clear hK K
  first | show AWP _ _ _ _ _ | show ∃ _, _ | skip
  repeat refine awp_seq ?_
  refine awp_reg1 (by rw [hx]; kernel_rfl) fun K hK => ?_
  simp (config := { maxSteps := 1000000 }) [ty30, ty3]
  refine hK _ ?_
  clear hK K
  first | show AWP _ _ _ _ _ | show ∃ _, _ | skip
  repeat refine awp_seq ?_
  refine awp_cond (by simp; rfl) (by rw [hx]; simp) (fun hc => ?_) (fun hc => ?_)
  · simp at hc
  refine awp_skip ?_
  first | show AWP _ _ _ _ _ | show ∃ _, _ | skip
  repeat refine awp_seq ?_
  refine awp_reg1 (by rw [hx]; kernel_rfl) fun K hK => ?_
  simp (config := { maxSteps := 1000000 }) []
  refine hK _ ?_
  clear hK K
  first | show AWP _ _ _ _ _ | show ∃ _, _ | skip
  repeat refine awp_seq ?_
  refine awp_cond (by simp; rfl) (by rw [hx]; simp) (fun hd => ?_) (fun hd => ?_)
  · repeat refine awp_seq ?_
    refine awp_reg1 (by rw [hx]; kernel_rfl) fun K hK => ?_
    simp (config := { maxSteps := 1000000 }) []
    refine hK _ ?_
    clear hK K
    first | show AWP _ _ _ _ _ | show ∃ _, _ | skip
    repeat refine awp_seq ?_
    refine awp_ret ?_
    refine And.intro (Or.inr rfl) ?_
    simp [retC, resC, viewC, mapO]
  · simp at hd

theorem kn_no (p : Plat) (hp : PlatOk p) (hf : ¬ FarP p) (hn : ¬ Fe p) : Pure Try.prog 60 [encPlat p, .bool true] (.tup [.sl true true [], encI 3]) := by
  have h8 := hp.n8
  have h4 := hp.r4
  have h5 := hp.c4
  have hck := check34 p (by omega) (by omega) (by omega)
  rw [if_pos hp] at hck
  obtain ⟨nl, fu, fl, e1, e2⟩ := all80 p hp hf p.ps.length [] (by simp) (inP_nil p) true true
  have hfl : fl = [] := by
    cases fl with
    | nil => rfl
    | cons q fl =>
      have : q.2.2 ∈ allL p p.ps.length [] := by rw [← e1]; simp
      exact absurd ⟨_, (allL_nil hp _).1 this⟩ hn
  subst hfl
  simp only [List.map_nil] at e2
  refine pure_of (fn := Try.f60) [.tmp 4, .tmp 5] ⟨Try.func60, rfl, by kernel_rfl⟩ (by kernel_rfl) (by kernel_rfl) (by kernel_rfl) fun x hx hσ => ?_
  repeat refine awp_seq ?_
  refine awp_reg1 (by rw [hx]; kernel_rfl) fun K hK => ?_
  simp (config := { maxSteps := 1000000 }) [ty25, ty30, ty3]
  refine hK _ ?_
  clear hK K
  first | show AWP _ _ _ _ _ | show ∃ _, _ | skip
  repeat refine awp_seq ?_
  refine awp_reg1 (by rw [hx]; kernel_rfl) fun K hK => ?_
  simp (config := { maxSteps := 1000000 }) [ty25]
  refine callP (hck) (by first | (simp; done) | (simp [*]; done)) ?_
  simp (config := { maxSteps := 1000000 }) []
  refine hK _ ?_
  clear hK K
  first | show AWP _ _ _ _ _ | show ∃ _, _ | skip
  repeat refine awp_seq ?_
  refine awp_reg1 (by rw [hx]; kernel_rfl) fun K hK => ?_
  simp (config := { maxSteps := 1000000 }) [ty30, ty3]
  refine hK _ ?_
  clear hK K
  first | show AWP _ _ _ _ _ | show ∃ _, _ | skip
  repeat refine awp_seq ?_
  refine awp_cond (by simp; rfl) (by rw [hx]; simp) (fun hc => ?_) (fun hc => ?_)
  · simp at hc
  refine awp_skip ?_
  first | show AWP _ _ _ _ _ | show ∃ _, _ | skip
  repeat refine awp_seq ?_
  refine awp_reg1 (by rw [hx]; kernel_rfl) fun K hK => ?_
  simp (config := { maxSteps := 1000000 }) []
  refine hK _ ?_
  clear hK K
  first | show AWP _ _ _ _ _ | show ∃ _, _ | skip
  repeat refine awp_seq ?_
  refine awp_cond (by simp; rfl) (by rw [hx]; simp) (fun hd => ?_) (fun hd => ?_)
  · simp at hd
  refine awp_skip ?_
  first | show AWP _ _ _ _ _ | show ∃ _, _ | skip
  repeat refine awp_seq ?_
  refine awp_reg1 (by rw [hx]; kernel_rfl) fun K hK => ?_
  simp (config := { maxSteps := 1000000 }) [ty25]
  refine callP (e2) (by first | (simp; done) | (simp [*]; done)) ?_
  simp (config := { maxSteps := 1000000 }) []
  refine hK _ ?_
  clear hK K
  first | show AWP _ _ _ _ _ | show ∃ _, _ | skip
  repeat refine awp_seq ?_
  refine awp_reg1 (by rw [hx]; kernel_rfl) fun K hK => ?_
  simp (config := { maxSteps := 1000000 }) [ty73, ty3]
  refine hK _ ?_
  clear hK K
  first | show AWP _ _ _ _ _ | show ∃ _, _ | skip
  repeat refine awp_seq ?_
  refine awp_cond (by simp; rfl) (by rw [hx]; simp) (fun he => ?_) (fun he => ?_)
  · repeat refine awp_seq ?_
    refine awp_reg1 (by rw [hx]; kernel_rfl) fun K hK => ?_
    simp (config := { maxSteps := 1000000 }) []
    refine hK _ ?_
    clear hK K
    first | show AWP _ _ _ _ _ | show ∃ _, _ | skip
    repeat refine awp_seq ?_
    refine awp_ret ?_
    refine And.intro (Or.inr rfl) ?_
    simp [retC, resC, viewC, mapO]
  · simp at he

theorem kn_fe (p : Plat) (hp : PlatOk p) (hf : ¬ FarP p) (hn : Fe p) : ∃ (nl fu : Bool) (fl : LL), 0 < fl.length ∧ fl.length ≤ 1500 ∧ (∀ l, IsP p l ↔ ∃ i : Nat, ∃ h : i < fl.length, (fl[i]).2.2 = l) ∧
    Pure Try.prog 60 [encPlat p, .bool true] (.tup [.sl nl fu (fl.map cS), encI 0]) := by
  have h8 := hp.n8
  have h4 := hp.r4
  have h5 := hp.c4
  have hck := check34 p (by omega) (by omega) (by omega)
  rw [if_pos hp] at hck
  obtain ⟨nl, fu, fl, e1, e2⟩ := all80 p hp hf p.ps.length [] (by simp) (inP_nil p) true true
  have hmem : ∀ l, IsP p l ↔ ∃ i : Nat, ∃ h : i < fl.length, (fl[i]).2.2 = l := by
    intro l
    rw [← allL_nil hp, ← e1, List.mem_map]
    constructor
    · rintro ⟨q, h1, h2⟩
      obtain ⟨i, hi, rfl⟩ := List.getElem_of_mem h1
      exact ⟨i, hi, h2⟩
    · rintro ⟨i, hi, h⟩
      exact ⟨_, List.getElem_mem hi, h⟩
  have hlen : fl.length ≤ 1500 := by
    have h1 : fl.length = (allL p p.ps.length []).length := by rw [← e1, List.length_map]
    have h2 := allL_len p p.ps.length []
    have h3 := prodW_le hp hf 0 p.ps.length (by omega)
    simp only [List.length_nil] at h2
    omega
  have hpos : 0 < fl.length := by
    obtain ⟨l, hl⟩ := hn
    obtain ⟨i, hi, _⟩ := (hmem l).1 hl
    omega
  refine ⟨nl, fu, fl, hpos, hlen, hmem, ?_⟩
  simp only [List.map_nil] at e2
  have hz : ¬ fl = [] := by intro h; rw [h] at hpos; simp at hpos
  refine pure_of (fn := Try.f60) [.tmp 4, .tmp 5] ⟨Try.func60, rfl, by kernel_rfl⟩ (by kernel_rfl) (by kernel_rfl) (by kernel_rfl) fun x hx hσ => ?_
  repeat refine awp_seq ?_
  refine awp_reg1 (by rw [hx]; kernel_rfl) fun K hK => ?_
  simp (config := { maxSteps := 1000000 }) [ty25, ty30, ty3]
  refine hK _ ?_
  clear hK K
  first | show AWP _ _ _ _ _ | show ∃ _, _ | skip
  repeat refine awp_seq ?_
  refine awp_reg1 (by rw [hx]; kernel_rfl) fun K hK => ?_
  simp (config := { maxSteps := 1000000 }) [ty25]
  refine callP (hck) (by first | (simp; done) | (simp [*]; done)) ?_
  simp (config := { maxSteps := 1000000 }) []
  refine hK _ ?_
  clear hK K
  first | show AWP _ _ _ _ _ | show ∃ _, _ | skip
  repeat refine awp_seq ?_
  refine awp_reg1 (by rw [hx]; kernel_rfl) fun K hK => ?_
  simp (config := { maxSteps := 1000000 }) [ty30, ty3]
  refine hK _ ?_
  clear hK K
  first | show AWP _ _ _ _ _ | show ∃ _, _ | skip
  repeat refine awp_seq ?_
  refine awp_cond (by simp; rfl) (by rw [hx]; simp) (fun hc => ?_) (fun hc => ?_)
  · simp at hc
  refine awp_skip ?_
  first | show AWP _ _ _ _ _ | show ∃ _, _ | skip
  repeat refine awp_seq ?_
  refine awp_reg1 (by rw [hx]; kernel_rfl) fun K hK => ?_
  simp (config := { maxSteps := 1000000 }) []
  refine hK _ ?_
  clear hK K
  first | show AWP _ _ _ _ _ | show ∃ _, _ | skip
  repeat refine awp_seq ?_
  refine awp_cond (by simp; rfl) (by rw [hx]; simp) (fun hd => ?_) (fun hd => ?_)
  · simp at hd
  refine awp_skip ?_
  first | show AWP _ _ _ _ _ | show ∃ _, _ | skip
  repeat refine awp_seq ?_
  refine awp_reg1 (by rw [hx]; kernel_rfl) fun K hK => ?_
  simp (config := { maxSteps := 1000000 }) [ty25]
  refine callP (e2) (by first | (simp; done) | (simp [*]; done)) ?_
  simp (config := { maxSteps := 1000000 }) []
  refine hK _ ?_
  clear hK K
  first | show AWP _ _ _ _ _ | show ∃ _, _ | skip
  repeat refine awp_seq ?_
  refine awp_reg1 (by rw [hx]; kernel_rfl) fun K hK => ?_
  simp (config := { maxSteps := 1000000 }) [ty73, ty3]
  refine hK _ ?_
  clear hK K
  first | show AWP _ _ _ _ _ | show ∃ _, _ | skip
  repeat refine awp_seq ?_
  refine awp_cond (by simp; rfl) (by rw [hx]; simp) (fun he => ?_) (fun he => ?_)
  · simp at he
    exact absurd he hz
  · refine awp_skip ?_
    first | show AWP _ _ _ _ _ | show ∃ _, _ | skip
    repeat refine awp_seq ?_
    refine awp_reg1 (by rw [hx]; kernel_rfl) fun K hK => ?_
    simp (config := { maxSteps := 1000000 }) []
    refine hK _ ?_
    clear hK K
    first | show AWP _ _ _ _ _ | show ∃ _, _ | skip
    repeat refine awp_seq ?_
    refine awp_ret ?_
    refine And.intro (Or.inr rfl) ?_
    simp [retC, resC, viewC, mapO]

theorem known28 (p : Plat) (r : C) (e : Int) (h : Pure Try.prog 60 [encPlat p, .bool true] (.tup [r, encI e])) (hr : r.isPure = true) : Pure Try.prog 28 [encPlat p] (encI e) := by
  refine pure_of (fn := Try.f28) [.tmp 2] ⟨Try.func28, rfl, by kernel_rfl⟩ (by kernel_rfl) (by kernel_rfl) (by kernel_rfl) fun x hx hσ => ?_
  repeat refine awp_seq ?_
  refine awp_reg1 (by rw [hx]; kernel_rfl) fun K hK => ?_
  simp (config := { maxSteps := 1000000 }) [ty25, ty30, ty3]
  refine hK _ ?_
  clear hK K
  first | show AWP _ _ _ _ _ | show ∃ _, _ | skip
  repeat refine awp_seq ?_
  refine awp_reg1 (by rw [hx]; kernel_rfl) fun K hK => ?_
  simp (config := { maxSteps := 1000000 }) [ty25]
  refine callP (h) (by first | (simp; done) | (simp [*]; done)) ?_
  simp (config := { maxSteps := 1000000 }) []
  refine hK _ ?_
  clear hK K
  first | show AWP _ _ _ _ _ | show ∃ _, _ | skip
  repeat refine awp_seq ?_
  refine awp_reg1 (by rw [hx]; kernel_rfl) fun K hK => ?_
  simp (config := { maxSteps := 1000000 }) []
  refine hK _ ?_
  clear hK K
  first | show AWP _ _ _ _ _ | show ∃ _, _ | skip
  repeat refine awp_seq ?_
  refine awp_ret ?_
  refine And.intro (Or.inr rfl) ?_
  simp [retC, resC, viewC, mapO]

end Go.Proofs.Ytgcmjidphcafnaa

namespace Go.Proofs.Ytgcmjidphcafnaa
open Go Go.Abs

set_option maxHeartbeats 4000000
set_option maxRecDepth 100000

/-- The least one of the first n lists. -/
def bestTo (v : List Int → Int) (fl : LL) : Nat → Int
  | 0 => 0
  | n + 1 => if n = 0 ∨ v (fl[n]?.getD (false, false, [])).2.2 < bestTo v fl n then v (fl[n]?.getD (false, false, [])).2.2 else bestTo v fl n

theorem bestTo_min (v : List Int → Int) (fl : LL) : ∀ n, 0 < n → n ≤ fl.length → (∃ i, ∃ h : i < fl.length, v (fl[i]).2.2 = bestTo v fl n) ∧ ∀ i, i < n → ∀ h : i < fl.length, bestTo v fl n ≤ v (fl[i]).2.2
  | 0, h, _ => by omega
  | n + 1, _, hn => by
    have en : (fl[n]?.getD (false, false, [])) = fl[n] := by simp [show n < fl.length from by omega]
    simp only [bestTo, en]
    by_cases h0 : n = 0
    · rw [if_pos (.inl h0)]
      refine ⟨⟨n, by omega, rfl⟩, fun i hi h => ?_⟩
      have : i = n := by omega
      subst this
      exact Int.le_refl _
    · obtain ⟨ih1, ih2⟩ := bestTo_min v fl n (by omega) (by omega)
      by_cases h1 : v (fl[n]).2.2 < bestTo v fl n
      · rw [if_pos (.inr h1)]
        refine ⟨⟨n, by omega, rfl⟩, fun i hi h => ?_⟩
        by_cases hin : i = n
        · subst hin; exact Int.le_refl _
        · have := ih2 i (by omega) h
          omega
      · rw [if_neg (by omega)]
        refine ⟨ih1, fun i hi h => ?_⟩
        by_cases hin : i = n
        · subst hin; omega
        · exact ih2 i (by omega) h


theorem loop40 (p : Plat) (nl fu : Bool) (fl : LL) (v : List Int → Int) (hfl : fl.length ≤ 1500) (h : Pure Try.prog 60 [encPlat p, .bool true] (.tup [.sl nl fu (fl.map cS), encI 0]))
    (hval : ∀ i, ∀ h : i < fl.length, Pure Try.prog 44 [encPlat p, .sl (fl[i]).1 (fl[i]).2.1 ((fl[i]).2.2.map cI)] (encI (v (fl[i]).2.2))) : Pure Try.prog 40 [encPlat p] (.tup [encI (bestTo v fl fl.length), encI 0]) := by
  refine pure_of (fn := Try.f40) [.tmp 2, .tmp 3] ⟨Try.func40, rfl, by kernel_rfl⟩ (by kernel_rfl) (by kernel_rfl) (by kernel_rfl) fun x hx hσ => ?_
  repeat refine awp_seq ?_
  refine awp_reg1 (by rw [hx]; kernel_rfl) fun K hK => ?_
  simp (config := { maxSteps := 1000000 }) [ty25, ty30, ty3]
  refine hK _ ?_
  clear hK K
  first | show AWP _ _ _ _ _ | show ∃ _, _ | skip
  repeat refine awp_seq ?_
  refine awp_reg1 (by rw [hx]; kernel_rfl) fun K hK => ?_
  simp (config := { maxSteps := 1000000 }) [ty25]
  refine callP (h) (by first | (simp; done) | (simp [*]; done)) ?_
  simp (config := { maxSteps := 1000000 }) []
  refine hK _ ?_
  clear hK K
  first | show AWP _ _ _ _ _ | show ∃ _, _ | skip
  repeat refine awp_seq ?_
  refine awp_reg1 (by rw [hx]; kernel_rfl) fun K hK => ?_
  simp (config := { maxSteps := 1000000 }) []
  refine hK _ ?_
  clear hK K
  first | show AWP _ _ _ _ _ | show ∃ _, _ | skip
  repeat refine awp_seq ?_
  refine awp_reg1 (by rw [hx]; kernel_rfl) fun K hK => ?_
  simp (config := { maxSteps := 1000000 }) []
  refine hK _ ?_
  clear hK K
  first | show AWP _ _ _ _ _ | show ∃ _, _ | skip
  repeat refine awp_seq ?_
  refine awp_block ?_
  refine awp_loop (fun i : Nat => ⟨ofL [(1, .ptr 1 3 0 0), (4, .sl nl fu (fl.map cS)), (5, encI 0), (6, encI (bestTo v fl i)), (7, encI i)], stoT [(1, 1, .live (obPlat p))]⟩)
    (fun i => i ≤ fl.length) (fun i => fl.length - i) 0 (by simp) ?_ ?_
  · refine wk_shape (shp0 hσ (by simp) (by simp) ?_) ?_
    · simp [SlotOk]; exact .same (plat_pure p)
    · simp [mtc, mtl, mT, C.isPure, purel, bestTo]
  · intro i hi
    repeat refine awp_seq ?_
    refine awp_reg1 (by rw [hx]; kernel_rfl) fun K hK => ?_
    simp (config := { maxSteps := 1000000 }) [ty73, ty3]
    refine hK _ ?_
    clear hK K
    first | show AWP _ _ _ _ _ | show ∃ _, _ | skip
    repeat refine awp_seq ?_
    refine awp_cond (by simp; rfl) (by rw [hx]; simp) (fun hc => ?_) (fun hc => ?_)
    · simp at hc
      have en : (fl[i]?.getD (false, false, [])) = fl[i] := by simp [hc]
      have hv := hval i hc
      refine awp_skip ?_
      first | show AWP _ _ _ _ _ | show ∃ _, _ | skip
      repeat refine awp_seq ?_
      refine awp_block ?_
      repeat refine awp_seq ?_
      refine awp_drw3 [] [0, 1, 2, 3, 4, 5, 6] (by rw [hx]; kernel_rfl) (by kernel_rfl) (by kernel_rfl) (by kernel_rfl) fun K hK => ?_
      simp (config := { maxSteps := 1000000 }) [ty25, ty73, ty23, ty3, hc]
      refine callPD (hv) (by first | (simp; done) | (simp [*]; done)) (by simp) ?_
      simp (config := { maxSteps := 1000000 }) [ty25]
      refine hK _ ?_
      clear hK K
      first | show AWP _ _ _ _ _ | show ∃ _, _ | skip
      by_cases hb : i = 0 ∨ v (fl[i]).2.2 < bestTo v fl i
      · have e1 : bestTo v fl (i + 1) = v (fl[i]).2.2 := by simp only [bestTo, en]; rw [if_pos hb]
        by_cases h0 : i = 0
        · have hi0 : ((i : Int) == 0) = true := by simp [h0]
          repeat refine awp_seq ?_
          refine awp_reg1 (by rw [hx]; kernel_rfl) fun K hK => ?_
          simp (config := { maxSteps := 1000000 }) [ty3, hi0]
          refine hK _ ?_
          clear hK K
          first | show AWP _ _ _ _ _ | show ∃ _, _ | skip
          repeat refine awp_seq ?_
          refine awp_cond (by simp; rfl) (by rw [hx]; simp) (fun hd => ?_) (fun hd => ?_)
          · repeat refine awp_seq ?_
            refine awp_reg1 (by rw [hx]; kernel_rfl) fun K hK => ?_
            simp (config := { maxSteps := 1000000 }) []
            refine hK _ ?_
            clear hK K
            first | show AWP _ _ _ _ _ | show ∃ _, _ | skip
            repeat refine awp_seq ?_
            refine awp_reg1 (by rw [hx]; kernel_rfl) fun K hK => ?_
            simp (config := { maxSteps := 1000000 }) [ty3]
            refine hK _ ?_
            clear hK K
            first | show AWP _ _ _ _ _ | show ∃ _, _ | skip
            refine ⟨i + 1, by omega, by omega, ?_⟩
            refine wk_shape (shp0 hσ (by simp) (by simp) ?_) ?_
            · simp [SlotOk]; exact .same (plat_pure p)
            · simp [mtc, mtl, mT, C.isPure, purel, e1]
              rw [wrap_id (by omega) (by omega)]
          · simp at hd
        · have hi0 : ((i : Int) == 0) = false := by simp; omega
          have hb' : v (fl[i]).2.2 < bestTo v fl i := by rcases hb with hb | hb; exact absurd hb h0; exact hb
          repeat refine awp_seq ?_
          refine awp_reg1 (by rw [hx]; kernel_rfl) fun K hK => ?_
          simp (config := { maxSteps := 1000000 }) [ty3, hi0, hb']
          refine hK _ ?_
          clear hK K
          first | show AWP _ _ _ _ _ | show ∃ _, _ | skip
          repeat refine awp_seq ?_
          refine awp_cond (by simp; rfl) (by rw [hx]; simp) (fun hd => ?_) (fun hd => ?_)
          · repeat refine awp_seq ?_
            refine awp_reg1 (by rw [hx]; kernel_rfl) fun K hK => ?_
            simp (config := { maxSteps := 1000000 }) []
            refine hK _ ?_
            clear hK K
            first | show AWP _ _ _ _ _ | show ∃ _, _ | skip
            repeat refine awp_seq ?_
            refine awp_reg1 (by rw [hx]; kernel_rfl) fun K hK => ?_
            simp (config := { maxSteps := 1000000 }) [ty3]
            refine hK _ ?_
            clear hK K
            first | show AWP _ _ _ _ _ | show ∃ _, _ | skip
            refine ⟨i + 1, by omega, by omega, ?_⟩
            refine wk_shape (shp0 hσ (by simp) (by simp) ?_) ?_
            · simp [SlotOk]; exact .same (plat_pure p)
            · simp [mtc, mtl, mT, C.isPure, purel, e1]
              rw [wrap_id (by omega) (by omega)]
          · simp at hd
      · have e1 : bestTo v fl (i + 1) = bestTo v fl i := by simp only [bestTo, en]; rw [if_neg hb]
        have hi0 : ((i : Int) == 0) = false := by simp; omega
        have hb' : ¬ v (fl[i]).2.2 < bestTo v fl i := fun h => hb (.inr h)
        repeat refine awp_seq ?_
        refine awp_reg1 (by rw [hx]; kernel_rfl) fun K hK => ?_
        simp (config := { maxSteps := 1000000 }) [ty3, hi0, hb']
        refine hK _ ?_
        clear hK K
        first | show AWP _ _ _ _ _ | show ∃ _, _ | skip
        repeat refine awp_seq ?_
        refine awp_cond (by simp; rfl) (by rw [hx]; simp) (fun hd => ?_) (fun hd => ?_)
        · simp at hd
        · refine awp_skip ?_
          first | show AWP _ _ _ _ _ | show ∃ _, _ | skip
          repeat refine awp_seq ?_
          refine awp_reg1 (by rw [hx]; kernel_rfl) fun K hK => ?_
          simp (config := { maxSteps := 1000000 }) [ty3]
          refine hK _ ?_
          clear hK K
          first | show AWP _ _ _ _ _ | show ∃ _, _ | skip
          refine ⟨i + 1, by omega, by omega, ?_⟩
          refine wk_shape (shp0 hσ (by simp) (by simp) ?_) ?_
          · simp [SlotOk]; exact .same (plat_pure p)
          · simp [mtc, mtl, mT, C.isPure, purel, e1]
            rw [wrap_id (by omega) (by omega)]
    · simp at hc
      repeat refine awp_seq ?_
      refine awp_exit ?_
      first | show AWP _ _ _ _ _ | show ∃ _, _ | skip
      have : i = fl.length := by omega
      subst this
      repeat refine awp_seq ?_
      refine awp_reg1 (by rw [hx]; kernel_rfl) fun K hK => ?_
      simp (config := { maxSteps := 1000000 }) []
      refine hK _ ?_
      clear hK K
      first | show AWP _ _ _ _ _ | show ∃ _, _ | skip
      repeat refine awp_seq ?_
      refine awp_ret ?_
      refine And.intro (Or.inr rfl) ?_
      simp [retC, resC, viewC, mapO]

theorem loop41 (p : Plat) (nl fu : Bool) (fl : LL) (v : List Int → Int) (hfl : fl.length ≤ 1500) (h : Pure Try.prog 60 [encPlat p, .bool true] (.tup [.sl nl fu (fl.map cS), encI 0]))
    (hval : ∀ i, ∀ h : i < fl.length, Pure Try.prog 45 [encPlat p, .sl (fl[i]).1 (fl[i]).2.1 ((fl[i]).2.2.map cI)] (encI (v (fl[i]).2.2))) : Pure Try.prog 41 [encPlat p] (.tup [encI (bestTo v fl fl.length), encI 0]) := by
  refine pure_of (fn := Try.f41) [.tmp 2, .tmp 3] ⟨Try.func41, rfl, by kernel_rfl⟩ (by kernel_rfl) (by kernel_rfl) (by kernel_rfl) fun x hx hσ => ?_
  repeat refine awp_seq ?_
  refine awp_reg1 (by rw [hx]; kernel_rfl) fun K hK => ?_
  simp (config := { maxSteps := 1000000 }) [ty25, ty30, ty3]
  refine hK _ ?_
  clear hK K
  first | show AWP _ _ _ _ _ | show ∃ _, _ | skip
  repeat refine awp_seq ?_
  refine awp_reg1 (by rw [hx]; kernel_rfl) fun K hK => ?_
  simp (config := { maxSteps := 1000000 }) [ty25]
  refine callP (h) (by first | (simp; done) | (simp [*]; done)) ?_
  simp (config := { maxSteps := 1000000 }) []
  refine hK _ ?_
  clear hK K
  first | show AWP _ _ _ _ _ | show ∃ _, _ | skip
  repeat refine awp_seq ?_
  refine awp_reg1 (by rw [hx]; kernel_rfl) fun K hK => ?_
  simp (config := { maxSteps := 1000000 }) []
  refine hK _ ?_
  clear hK K
  first | show AWP _ _ _ _ _ | show ∃ _, _ | skip
  repeat refine awp_seq ?_
  refine awp_reg1 (by rw [hx]; kernel_rfl) fun K hK => ?_
  simp (config := { maxSteps := 1000000 }) []
  refine hK _ ?_
  clear hK K
  first | show AWP _ _ _ _ _ | show ∃ _, _ | skip
  repeat refine awp_seq ?_
  refine awp_block ?_
  refine awp_loop (fun i : Nat => ⟨ofL [(1, .ptr 1 3 0 0), (4, .sl nl fu (fl.map cS)), (5, encI 0), (6, encI (bestTo v fl i)), (7, encI i)], stoT [(1, 1, .live (obPlat p))]⟩)
    (fun i => i ≤ fl.length) (fun i => fl.length - i) 0 (by simp) ?_ ?_
  · refine wk_shape (shp0 hσ (by simp) (by simp) ?_) ?_
    · simp [SlotOk]; exact .same (plat_pure p)
    · simp [mtc, mtl, mT, C.isPure, purel, bestTo]
  · intro i hi
    repeat refine awp_seq ?_
    refine awp_reg1 (by rw [hx]; kernel_rfl) fun K hK => ?_
    simp (config := { maxSteps := 1000000 }) [ty73, ty3]
    refine hK _ ?_
    clear hK K
    first | show AWP _ _ _ _ _ | show ∃ _, _ | skip
    repeat refine awp_seq ?_
    refine awp_cond (by simp; rfl) (by rw [hx]; simp) (fun hc => ?_) (fun hc => ?_)
    · simp at hc
      have en : (fl[i]?.getD (false, false, [])) = fl[i] := by simp [hc]
      have hv := hval i hc
      refine awp_skip ?_
      first | show AWP _ _ _ _ _ | show ∃ _, _ | skip
      repeat refine awp_seq ?_
      refine awp_block ?_
      repeat refine awp_seq ?_
      refine awp_drw3 [] [0, 1, 2, 3, 4, 5, 6] (by rw [hx]; kernel_rfl) (by kernel_rfl) (by kernel_rfl) (by kernel_rfl) fun K hK => ?_
      simp (config := { maxSteps := 1000000 }) [ty25, ty73, ty23, ty3, hc]
      refine callPD (hv) (by first | (simp; done) | (simp [*]; done)) (by simp) ?_
      simp (config := { maxSteps := 1000000 }) [ty25]
      refine hK _ ?_
      clear hK K
      first | show AWP _ _ _ _ _ | show ∃ _, _ | skip
      by_cases hb : i = 0 ∨ v (fl[i]).2.2 < bestTo v fl i
      · have e1 : bestTo v fl (i + 1) = v (fl[i]).2.2 := by simp only [bestTo, en]; rw [if_pos hb]
        by_cases h0 : i = 0
        · have hi0 : ((i : Int) == 0) = true := by simp [h0]
          repeat refine awp_seq ?_
          refine awp_reg1 (by rw [hx]; kernel_rfl) fun K hK => ?_
          simp (config := { maxSteps := 1000000 }) [ty3, hi0]
          refine hK _ ?_
          clear hK K
          first | show AWP _ _ _ _ _ | show ∃ _, _ | skip
          repeat refine awp_seq ?_
          refine awp_cond (by simp; rfl) (by rw [hx]; simp) (fun hd => ?_) (fun hd => ?_)
          · repeat refine awp_seq ?_
            refine awp_reg1 (by rw [hx]; kernel_rfl) fun K hK => ?_
            simp (config := { maxSteps := 1000000 }) []
            refine hK _ ?_
            clear hK K
            first | show AWP _ _ _ _ _ | show ∃ _, _ | skip
            repeat refine awp_seq ?_
            refine awp_reg1 (by rw [hx]; kernel_rfl) fun K hK => ?_
            simp (config := { maxSteps := 1000000 }) [ty3]
            refine hK _ ?_
            clear hK K
            first | show AWP _ _ _ _ _ | show ∃ _, _ | skip
            refine ⟨i + 1, by omega, by omega, ?_⟩
            refine wk_shape (shp0 hσ (by simp) (by simp) ?_) ?_
            · simp [SlotOk]; exact .same (plat_pure p)
            · simp [mtc, mtl, mT, C.isPure, purel, e1]
              rw [wrap_id (by omega) (by omega)]
          · simp at hd
        · have hi0 : ((i : Int) == 0) = false := by simp; omega
          have hb' : v (fl[i]).2.2 < bestTo v fl i := by rcases hb with hb | hb; exact absurd hb h0; exact hb
          repeat refine awp_seq ?_
          refine awp_reg1 (by rw [hx]; kernel_rfl) fun K hK => ?_
          simp (config := { maxSteps := 1000000 }) [ty3, hi0, hb']
          refine hK _ ?_
          clear hK K
          first | show AWP _ _ _ _ _ | show ∃ _, _ | skip
          repeat refine awp_seq ?_
          refine awp_cond (by simp; rfl) (by rw [hx]; simp) (fun hd => ?_) (fun hd => ?_)
          · repeat refine awp_seq ?_
            refine awp_reg1 (by rw [hx]; kernel_rfl) fun K hK => ?_
            simp (config := { maxSteps := 1000000 }) []
            refine hK _ ?_
            clear hK K
            first | show AWP _ _ _ _ _ | show ∃ _, _ | skip
            repeat refine awp_seq ?_
            refine awp_reg1 (by rw [hx]; kernel_rfl) fun K hK => ?_
            simp (config := { maxSteps := 1000000 }) [ty3]
            refine hK _ ?_
            clear hK K
            first | show AWP _ _ _ _ _ | show ∃ _, _ | skip
            refine ⟨i + 1, by omega, by omega, ?_⟩
            refine wk_shape (shp0 hσ (by simp) (by simp) ?_) ?_
            · simp [SlotOk]; exact .same (plat_pure p)
            · simp [mtc, mtl, mT, C.isPure, purel, e1]
              rw [wrap_id (by omega) (by omega)]
          · simp at hd
      · have e1 : bestTo v fl (i + 1) = bestTo v fl i := by simp only [bestTo, en]; rw [if_neg hb]
        have hi0 : ((i : Int) == 0) = false := by simp; omega
        have hb' : ¬ v (fl[i]).2.2 < bestTo v fl i := fun h => hb (.inr h)
        repeat refine awp_seq ?_
        refine awp_reg1 (by rw [hx]; kernel_rfl) fun K hK => ?_
        simp (config := { maxSteps := 1000000 }) [ty3, hi0, hb']
        refine hK _ ?_
        clear hK K
        first | show AWP _ _ _ _ _ | show ∃ _, _ | skip
        repeat refine awp_seq ?_
        refine awp_cond (by simp; rfl) (by rw [hx]; simp) (fun hd => ?_) (fun hd => ?_)
        · simp at hd
        · refine awp_skip ?_
          first | show AWP _ _ _ _ _ | show ∃ _, _ | skip
          repeat refine awp_seq ?_
          refine awp_reg1 (by rw [hx]; kernel_rfl) fun K hK => ?_
          simp (config := { maxSteps := 1000000 }) [ty3]
          refine hK _ ?_
          clear hK K
          first | show AWP _ _ _ _ _ | show ∃ _, _ | skip
          refine ⟨i + 1, by omega, by omega, ?_⟩
          refine wk_shape (shp0 hσ (by simp) (by simp) ?_) ?_
          · simp [SlotOk]; exact .same (plat_pure p)
          · simp [mtc, mtl, mT, C.isPure, purel, e1]
            rw [wrap_id (by omega) (by omega)]
    · simp at hc
      repeat refine awp_seq ?_
      refine awp_exit ?_
      first | show AWP _ _ _ _ _ | show ∃ _, _ | skip
      have : i = fl.length := by omega
      subst this
      repeat refine awp_seq ?_
      refine awp_reg1 (by rw [hx]; kernel_rfl) fun K hK => ?_
      simp (config := { maxSteps := 1000000 }) []
      refine hK _ ?_
      clear hK K
      first | show AWP _ _ _ _ _ | show ∃ _, _ | skip
      repeat refine awp_seq ?_
      refine awp_ret ?_
      refine And.intro (Or.inr rfl) ?_
      simp [retC, resC, viewC, mapO]

theorem loop42 (p : Plat) (nl fu : Bool) (fl : LL) (v : List Int → Int) (hfl : fl.length ≤ 1500) (h : Pure Try.prog 60 [encPlat p, .bool true] (.tup [.sl nl fu (fl.map cS), encI 0]))
    (hval : ∀ i, ∀ h : i < fl.length, Pure Try.prog 46 [encPlat p, .sl (fl[i]).1 (fl[i]).2.1 ((fl[i]).2.2.map cI)] (encI (v (fl[i]).2.2))) : Pure Try.prog 42 [encPlat p] (.tup [encI (bestTo v fl fl.length), encI 0]) := by
  refine pure_of (fn := Try.f42) [.tmp 2, .tmp 3] ⟨Try.func42, rfl, by kernel_rfl⟩ (by kernel_rfl) (by kernel_rfl) (by kernel_rfl) fun x hx hσ => ?_
  repeat refine awp_seq ?_
  refine awp_reg1 (by rw [hx]; kernel_rfl) fun K hK => ?_
  simp (config := { maxSteps := 1000000 }) [ty25, ty30, ty3]
  refine hK _ ?_
  clear hK K
  first | show AWP _ _ _ _ _ | show ∃ _, _ | skip
  repeat refine awp_seq ?_
  refine awp_reg1 (by rw [hx]; kernel_rfl) fun K hK => ?_
  simp (config := { maxSteps := 1000000 }) [ty25]
  refine callP (h) (by first | (simp; done) | (simp [*]; done)) ?_
  simp (config := { maxSteps := 1000000 }) []
  refine hK _ ?_
  clear hK K
  first | show AWP _ _ _ _ _ | show ∃ _, _ | skip
  repeat refine awp_seq ?_
  refine awp_reg1 (by rw [hx]; kernel_rfl) fun K hK => ?_
  simp (config := { maxSteps := 1000000 }) []
  refine hK _ ?_
  clear hK K
  first | show AWP _ _ _ _ _ | show ∃ _, _ | skip
  repeat refine awp_seq ?_
  refine awp_reg1 (by rw [hx]; kernel_rfl) fun K hK => ?_
  simp (config := { maxSteps := 1000000 }) []
  refine hK _ ?_
  clear hK K
  first | show AWP _ _ _ _ _ | show ∃ _, _ | skip
  repeat refine awp_seq ?_
  refine awp_block ?_
  refine awp_loop (fun i : Nat => ⟨ofL [(1, .ptr 1 3 0 0), (4, .sl nl fu (fl.map cS)), (5, encI 0), (6, encI (bestTo v fl i)), (7, encI i)], stoT [(1, 1, .live (obPlat p))]⟩)
    (fun i => i ≤ fl.length) (fun i => fl.length - i) 0 (by simp) ?_ ?_
  · refine wk_shape (shp0 hσ (by simp) (by simp) ?_) ?_
    · simp [SlotOk]; exact .same (plat_pure p)
    · simp [mtc, mtl, mT, C.isPure, purel, bestTo]
  · intro i hi
    repeat refine awp_seq ?_
    refine awp_reg1 (by rw [hx]; kernel_rfl) fun K hK => ?_
    simp (config := { maxSteps := 1000000 }) [ty73, ty3]
    refine hK _ ?_
    clear hK K
    first | show AWP _ _ _ _ _ | show ∃ _, _ | skip
    repeat refine awp_seq ?_
    refine awp_cond (by simp; rfl) (by rw [hx]; simp) (fun hc => ?_) (fun hc => ?_)
    · simp at hc
      have en : (fl[i]?.getD (false, false, [])) = fl[i] := by simp [hc]
      have hv := hval i hc
      refine awp_skip ?_
      first | show AWP _ _ _ _ _ | show ∃ _, _ | skip
      repeat refine awp_seq ?_
      refine awp_block ?_
      repeat refine awp_seq ?_
      refine awp_drw3 [] [0, 1, 2, 3, 4, 5, 6] (by rw [hx]; kernel_rfl) (by kernel_rfl) (by kernel_rfl) (by kernel_rfl) fun K hK => ?_
      simp (config := { maxSteps := 1000000 }) [ty25, ty73, ty23, ty3, hc]
      refine callPD (hv) (by first | (simp; done) | (simp [*]; done)) (by simp) ?_
      simp (config := { maxSteps := 1000000 }) [ty25]
      refine hK _ ?_
      clear hK K
      first | show AWP _ _ _ _ _ | show ∃ _, _ | skip
      by_cases hb : i = 0 ∨ v (fl[i]).2.2 < bestTo v fl i
      · have e1 : bestTo v fl (i + 1) = v (fl[i]).2.2 := by simp only [bestTo, en]; rw [if_pos hb]
        by_cases h0 : i = 0
        · have hi0 : ((i : Int) == 0) = true := by simp [h0]
          repeat refine awp_seq ?_
          refine awp_reg1 (by rw [hx]; kernel_rfl) fun K hK => ?_
          simp (config := { maxSteps := 1000000 }) [ty3, hi0]
          refine hK _ ?_
          clear hK K
          first | show AWP _ _ _ _ _ | show ∃ _, _ | skip
          repeat refine awp_seq ?_
          refine awp_cond (by simp; rfl) (by rw [hx]; simp) (fun hd => ?_) (fun hd => ?_)
          · repeat refine awp_seq ?_
            refine awp_reg1 (by rw [hx]; kernel_rfl) fun K hK => ?_
            simp (config := { maxSteps := 1000000 }) []
            refine hK _ ?_
            clear hK K
            first | show AWP _ _ _ _ _ | show ∃ _, _ | skip
            repeat refine awp_seq ?_
            refine awp_reg1 (by rw [hx]; kernel_rfl) fun K hK => ?_
            simp (config := { maxSteps := 1000000 }) [ty3]
            refine hK _ ?_
            clear hK K
            first | show AWP _ _ _ _ _ | show ∃ _, _ | skip
            refine ⟨i + 1, by omega, by omega, ?_⟩
            refine wk_shape (shp0 hσ (by simp) (by simp) ?_) ?_
            · simp [SlotOk]; exact .same (plat_pure p)
            · simp [mtc, mtl, mT, C.isPure, purel, e1]
              rw [wrap_id (by omega) (by omega)]
          · simp at hd
        · have hi0 : ((i : Int) == 0) = false := by simp; omega
          have hb' : v (fl[i]).2.2 < bestTo v fl i := by rcases hb with hb | hb; exact absurd hb h0; exact hb
          repeat refine awp_seq ?_
          refine awp_reg1 (by rw [hx]; kernel_rfl) fun K hK => ?_
          simp (config := { maxSteps := 1000000 }) [ty3, hi0, hb']
          refine hK _ ?_
          clear hK K
          first | show AWP _ _ _ _ _ | show ∃ _, _ | skip
          repeat refine awp_seq ?_
          refine awp_cond (by simp; rfl) (by rw [hx]; simp) (fun hd => ?_) (fun hd => ?_)
          · repeat refine awp_seq ?_
            refine awp_reg1 (by rw [hx]; kernel_rfl) fun K hK => ?_
            simp (config := { maxSteps := 1000000 }) []
            refine hK _ ?_
            clear hK K
            first | show AWP _ _ _ _ _ | show ∃ _, _ | skip
            repeat refine awp_seq ?_
            refine awp_reg1 (by rw [hx]; kernel_rfl) fun K hK => ?_
            simp (config := { maxSteps := 1000000 }) [ty3]
            refine hK _ ?_
            clear hK K
            first | show AWP _ _ _ _ _ | show ∃ _, _ | skip
            refine ⟨i + 1, by omega, by omega, ?_⟩
            refine wk_shape (shp0 hσ (by simp) (by simp) ?_) ?_
            · simp [SlotOk]; exact .same (plat_pure p)
            · simp [mtc, mtl, mT, C.isPure, purel, e1]
              rw [wrap_id (by omega) (by omega)]
          · simp at hd
      · have e1 : bestTo v fl (i + 1) = bestTo v fl i := by simp only [bestTo, en]; rw [if_neg hb]
        have hi0 : ((i : Int) == 0) = false := by simp; omega
        have hb' : ¬ v (fl[i]).2.2 < bestTo v fl i := fun h => hb (.inr h)
        repeat refine awp_seq ?_
        refine awp_reg1 (by rw [hx]; kernel_rfl) fun K hK => ?_
        simp (config := { maxSteps := 1000000 }) [ty3, hi0, hb']
        refine hK _ ?_
        clear hK K
        first | show AWP _ _ _ _ _ | show ∃ _, _ | skip
        repeat refine awp_seq ?_
        refine awp_cond (by simp; rfl) (by rw [hx]; simp) (fun hd => ?_) (fun hd => ?_)
        · simp at hd
        · refine awp_skip ?_
          first | show AWP _ _ _ _ _ | show ∃ _, _ | skip
          repeat refine awp_seq ?_
          refine awp_reg1 (by rw [hx]; kernel_rfl) fun K hK => ?_
          simp (config := { maxSteps := 1000000 }) [ty3]
          refine hK _ ?_
          clear hK K
          first | show AWP _ _ _ _ _ | show ∃ _, _ | skip
          refine ⟨i + 1, by omega, by omega, ?_⟩
          refine wk_shape (shp0 hσ (by simp) (by simp) ?_) ?_
          · simp [SlotOk]; exact .same (plat_pure p)
          · simp [mtc, mtl, mT, C.isPure, purel, e1]
            rw [wrap_id (by omega) (by omega)]
    · simp at hc
      repeat refine awp_seq ?_
      refine awp_exit ?_
      first | show AWP _ _ _ _ _ | show ∃ _, _ | skip
      have : i = fl.length := by omega
      subst this
      repeat refine awp_seq ?_
      refine awp_reg1 (by rw [hx]; kernel_rfl) fun K hK => ?_
      simp (config := { maxSteps := 1000000 }) []
      refine hK _ ?_
      clear hK K
      first | show AWP _ _ _ _ _ | show ∃ _, _ | skip
      repeat refine awp_seq ?_
      refine awp_ret ?_
      refine And.intro (Or.inr rfl) ?_
      simp [retC, resC, viewC, mapO]


theorem no40 (p : Plat) (e : Int) (h : Pure Try.prog 60 [encPlat p, .bool true] (.tup [.sl true true [], encI e])) : Pure Try.prog 40 [encPlat p] (.tup [encI 0, encI e]) := by
  refine pure_of (fn := Try.f40) [.tmp 2, .tmp 3] ⟨Try.func40, rfl, by kernel_rfl⟩ (by kernel_rfl) (by kernel_rfl) (by kernel_rfl) fun x hx hσ => ?_
  repeat refine awp_seq ?_
  refine awp_reg1 (by rw [hx]; kernel_rfl) fun K hK => ?_
  simp (config := { maxSteps := 1000000 }) [ty25, ty30, ty3]
  refine hK _ ?_
  clear hK K
  first | show AWP _ _ _ _ _ | show ∃ _, _ | skip
  repeat refine awp_seq ?_
  refine awp_reg1 (by rw [hx]; kernel_rfl) fun K hK => ?_
  simp (config := { maxSteps := 1000000 }) [ty25]
  refine callP (h) (by first | (simp; done) | (simp [*]; done)) ?_
  simp (config := { maxSteps := 1000000 }) []
  refine hK _ ?_
  clear hK K
  first | show AWP _ _ _ _ _ | show ∃ _, _ | skip
  repeat refine awp_seq ?_
  refine awp_reg1 (by rw [hx]; kernel_rfl) fun K hK => ?_
  simp (config := { maxSteps := 1000000 }) []
  refine hK _ ?_
  clear hK K
  first | show AWP _ _ _ _ _ | show ∃ _, _ | skip
  repeat refine awp_seq ?_
  refine awp_reg1 (by rw [hx]; kernel_rfl) fun K hK => ?_
  simp (config := { maxSteps := 1000000 }) []
  refine hK _ ?_
  clear hK K
  first | show AWP _ _ _ _ _ | show ∃ _, _ | skip
  repeat refine awp_seq ?_
  refine awp_block ?_
  refine awp_loop (fun _ : Nat => ⟨ofL [(1, .ptr 1 3 0 0), (4, .sl true true []), (5, encI e), (6, encI 0), (7, encI 0)], stoT [(1, 1, .live (obPlat p))]⟩)
    (fun _ => True) (fun _ => 0) 0 (by simp) ?_ ?_
  · refine wk_shape (shp0 hσ (by simp) (by simp) ?_) ?_
    · simp [SlotOk]; exact .same (plat_pure p)
    · simp [mtc, mtl, mT, C.isPure, purel]
  · intro i hi
    repeat refine awp_seq ?_
    refine awp_reg1 (by rw [hx]; kernel_rfl) fun K hK => ?_
    simp (config := { maxSteps := 1000000 }) [ty73, ty3]
    refine hK _ ?_
    clear hK K
    first | show AWP _ _ _ _ _ | show ∃ _, _ | skip
    repeat refine awp_seq ?_
    refine awp_cond (by simp; rfl) (by rw [hx]; simp) (fun hc => ?_) (fun hc => ?_)
    · simp at hc
    · repeat refine awp_seq ?_
      refine awp_exit ?_
      first | show AWP _ _ _ _ _ | show ∃ _, _ | skip
      repeat refine awp_seq ?_
      refine awp_reg1 (by rw [hx]; kernel_rfl) fun K hK => ?_
      simp (config := { maxSteps := 1000000 }) []
      refine hK _ ?_
      clear hK K
      first | show AWP _ _ _ _ _ | show ∃ _, _ | skip
      repeat refine awp_seq ?_
      refine awp_ret ?_
      refine And.intro (Or.inr rfl) ?_
      simp [retC, resC, viewC, mapO]
theorem no41 (p : Plat) (e : Int) (h : Pure Try.prog 60 [encPlat p, .bool true] (.tup [.sl true true [], encI e])) : Pure Try.prog 41 [encPlat p] (.tup [encI 0, encI e]) := by
  refine pure_of (fn := Try.f41) [.tmp 2, .tmp 3] ⟨Try.func41, rfl, by kernel_rfl⟩ (by kernel_rfl) (by kernel_rfl) (by kernel_rfl) fun x hx hσ => ?_
  repeat refine awp_seq ?_
  refine awp_reg1 (by rw [hx]; kernel_rfl) fun K hK => ?_
  simp (config := { maxSteps := 1000000 }) [ty25, ty30, ty3]
  refine hK _ ?_
  clear hK K
  first | show AWP _ _ _ _ _ | show ∃ _, _ | skip
  repeat refine awp_seq ?_
  refine awp_reg1 (by rw [hx]; kernel_rfl) fun K hK => ?_
  simp (config := { maxSteps := 1000000 }) [ty25]
  refine callP (h) (by first | (simp; done) | (simp [*]; done)) ?_
  simp (config := { maxSteps := 1000000 }) []
  refine hK _ ?_
  clear hK K
  first | show AWP _ _ _ _ _ | show ∃ _, _ | skip
  repeat refine awp_seq ?_
  refine awp_reg1 (by rw [hx]; kernel_rfl) fun K hK => ?_
  simp (config := { maxSteps := 1000000 }) []
  refine hK _ ?_
  clear hK K
  first | show AWP _ _ _ _ _ | show ∃ _, _ | skip
  repeat refine awp_seq ?_
  refine awp_reg1 (by rw [hx]; kernel_rfl) fun K hK => ?_
  simp (config := { maxSteps := 1000000 }) []
  refine hK _ ?_
  clear hK K
  first | show AWP _ _ _ _ _ | show ∃ _, _ | skip
  repeat refine awp_seq ?_
  refine awp_block ?_
  refine awp_loop (fun _ : Nat => ⟨ofL [(1, .ptr 1 3 0 0), (4, .sl true true []), (5, encI e), (6, encI 0), (7, encI 0)], stoT [(1, 1, .live (obPlat p))]⟩)
    (fun _ => True) (fun _ => 0) 0 (by simp) ?_ ?_
  · refine wk_shape (shp0 hσ (by simp) (by simp) ?_) ?_
    · simp [SlotOk]; exact .same (plat_pure p)
    · simp [mtc, mtl, mT, C.isPure, purel]
  · intro i hi
    repeat refine awp_seq ?_
    refine awp_reg1 (by rw [hx]; kernel_rfl) fun K hK => ?_
    simp (config := { maxSteps := 1000000 }) [ty73, ty3]
    refine hK _ ?_
    clear hK K
    first | show AWP _ _ _ _ _ | show ∃ _, _ | skip
    repeat refine awp_seq ?_
    refine awp_cond (by simp; rfl) (by rw [hx]; simp) (fun hc => ?_) (fun hc => ?_)
    · simp at hc
    · repeat refine awp_seq ?_
      refine awp_exit ?_
      first | show AWP _ _ _ _ _ | show ∃ _, _ | skip
      repeat refine awp_seq ?_
      refine awp_reg1 (by rw [hx]; kernel_rfl) fun K hK => ?_
      simp (config := { maxSteps := 1000000 }) []
      refine hK _ ?_
      clear hK K
      first | show AWP _ _ _ _ _ | show ∃ _, _ | skip
      repeat refine awp_seq ?_
      refine awp_ret ?_
      refine And.intro (Or.inr rfl) ?_
      simp [retC, resC, viewC, mapO]
theorem no42 (p : Plat) (e : Int) (h : Pure Try.prog 60 [encPlat p, .bool true] (.tup [.sl true true [], encI e])) : Pure Try.prog 42 [encPlat p] (.tup [encI 0, encI e]) := by
  refine pure_of (fn := Try.f42) [.tmp 2, .tmp 3] ⟨Try.func42, rfl, by kernel_rfl⟩ (by kernel_rfl) (by kernel_rfl) (by kernel_rfl) fun x hx hσ => ?_
  repeat refine awp_seq ?_
  refine awp_reg1 (by rw [hx]; kernel_rfl) fun K hK => ?_
  simp (config := { maxSteps := 1000000 }) [ty25, ty30, ty3]
  refine hK _ ?_
  clear hK K
  first | show AWP _ _ _ _ _ | show ∃ _, _ | skip
  repeat refine awp_seq ?_
  refine awp_reg1 (by rw [hx]; kernel_rfl) fun K hK => ?_
  simp (config := { maxSteps := 1000000 }) [ty25]
  refine callP (h) (by first | (simp; done) | (simp [*]; done)) ?_
  simp (config := { maxSteps := 1000000 }) []
  refine hK _ ?_
  clear hK K
  first | show AWP _ _ _ _ _ | show ∃ _, _ | skip
  repeat refine awp_seq ?_
  refine awp_reg1 (by rw [hx]; kernel_rfl) fun K hK => ?_
  simp (config := { maxSteps := 1000000 }) []
  refine hK _ ?_
  clear hK K
  first | show AWP _ _ _ _ _ | show ∃ _, _ | skip
  repeat refine awp_seq ?_
  refine awp_reg1 (by rw [hx]; kernel_rfl) fun K hK => ?_
  simp (config := { maxSteps := 1000000 }) []
  refine hK _ ?_
  clear hK K
  first | show AWP _ _ _ _ _ | show ∃ _, _ | skip
  repeat refine awp_seq ?_
  refine awp_block ?_
  refine awp_loop (fun _ : Nat => ⟨ofL [(1, .ptr 1 3 0 0), (4, .sl true true []), (5, encI e), (6, encI 0), (7, encI 0)], stoT [(1, 1, .live (obPlat p))]⟩)
    (fun _ => True) (fun _ => 0) 0 (by simp) ?_ ?_
  · refine wk_shape (shp0 hσ (by simp) (by simp) ?_) ?_
    · simp [SlotOk]; exact .same (plat_pure p)
    · simp [mtc, mtl, mT, C.isPure, purel]
  · intro i hi
    repeat refine awp_seq ?_
    refine awp_reg1 (by rw [hx]; kernel_rfl) fun K hK => ?_
    simp (config := { maxSteps := 1000000 }) [ty73, ty3]
    refine hK _ ?_
    clear hK K
    first | show AWP _ _ _ _ _ | show ∃ _, _ | skip
    repeat refine awp_seq ?_
    refine awp_cond (by simp; rfl) (by rw [hx]; simp) (fun hc => ?_) (fun hc => ?_)
    · simp at hc
    · repeat refine awp_seq ?_
      refine awp_exit ?_
      first | show AWP _ _ _ _ _ | show ∃ _, _ | skip
      repeat refine awp_seq ?_
      refine awp_reg1 (by rw [hx]; kernel_rfl) fun K hK => ?_
      simp (config := { maxSteps := 1000000 }) []
      refine hK _ ?_
      clear hK K
      first | show AWP _ _ _ _ _ | show ∃ _, _ | skip
      repeat refine awp_seq ?_
      refine awp_ret ?_
      refine And.intro (Or.inr rfl) ?_
      simp [retC, resC, viewC, mapO]

end Go.Proofs.Ytgcmjidphcafnaa

namespace Go.Proofs.Ytgcmjidphcafnaa
open Go Go.Abs

set_option maxHeartbeats 4000000
set_option maxRecDepth 100000

abbrev spOb (a b : Int) : Ob := ⟨false, false, 2, [[encI a, encI b]]⟩


theorem range29_fe (p : Plat) (k : Nat) (hk : k < p.ps.length) (hp : PlatOk p) (nl fu : Bool) (fl : LL) (hfl : fl.length ≤ 1500) (hlen : ∀ i, ∀ h : i < fl.length, (fl[i]).2.2.length = p.ps.length)
    (h : Pure Try.prog 60 [encPlat p, .bool true] (.tup [.sl nl fu (fl.map cS), encI 0])) :
    Pure Try.prog 29 [encPlat p, encI k] (.tup [.agg [encI (bestTo (fun l => Flow.gi l k) fl fl.length), encI (-(bestTo (fun l => -Flow.gi l k) fl fl.length))], encI 0]) := by
  have h8 := hp.n8
  have hpc := isParcel_c p k (by omega)
  rw [decide_eq_true (by omega)] at hpc
  refine pure_of (fn := Try.f29) [.cell 4 41, .tmp 5] ⟨Try.func29, rfl, by kernel_rfl⟩ (by kernel_rfl) (by kernel_rfl) (by kernel_rfl) fun x hx hσ => ?_
  repeat refine awp_seq ?_
  refine awp_reg1 (by rw [hx]; kernel_rfl) fun K hK => ?_
  simp (config := { maxSteps := 1000000 }) [ty25, ty41, ty30, ty3]
  refine hK _ ?_
  clear hK K
  first | show AWP _ _ _ _ _ | show ∃ _, _ | skip
  repeat refine awp_seq ?_
  refine awp_drw3 [] [0, 1, 2, 3, 4, 5, 6, 7, 8, 9] (by rw [hx]; kernel_rfl) (by kernel_rfl) (by kernel_rfl) (by kernel_rfl) fun K hK => ?_
  simp (config := { maxSteps := 1000000 }) [ty25, ty3]
  refine callPD (hpc) (by first | (simp; done) | (simp [*]; done)) (by simp) ?_
  simp (config := { maxSteps := 1000000 }) [ty25]
  refine callPD (h) (by first | (simp; done) | (simp [*]; done)) (by simp) ?_
  simp (config := { maxSteps := 1000000 }) [ty25]
  refine hK _ ?_
  clear hK K
  first | show AWP _ _ _ _ _ | show ∃ _, _ | skip
  repeat refine awp_seq ?_
  refine awp_reg1 (by rw [hx]; kernel_rfl) fun K hK => ?_
  simp (config := { maxSteps := 1000000 }) [ty41]
  refine hK _ ?_
  clear hK K
  first | show AWP _ _ _ _ _ | show ∃ _, _ | skip
  repeat refine awp_seq ?_
  refine awp_reg1 (by rw [hx]; kernel_rfl) fun K hK => ?_
  simp (config := { maxSteps := 1000000 }) [ty3]
  refine hK _ ?_
  clear hK K
  first | show AWP _ _ _ _ _ | show ∃ _, _ | skip
  repeat refine awp_seq ?_
  refine awp_block ?_
  refine awp_loop (fun i : Nat => ⟨ofL [(1, encI k), (2, .ptr 2 3 0 0), (4, .ptr 4 2 0 0), (6, .sl nl fu (fl.map cS)), (7, encI 0), (8, .ptr 8 2 0 0), (9, encI i)], stoT [(2, 2, .live (obPlat p)), (4, 4, .live (spOb 0 0)), (8, 8, .live (spOb (bestTo (fun l => Flow.gi l k) fl i) (-(bestTo (fun l => -Flow.gi l k) fl i))))]⟩)
    (fun i => i ≤ fl.length) (fun i => fl.length - i) 0 (by simp) ?_ ?_
  · refine wk_shape (shp0 hσ (by simp) (by simp) ?_) ?_
    · simp [SlotOk, bestTo]; exact ⟨.same (plat_pure p), .same rfl⟩
    · simp [mtc, mtl, mT, C.isPure, purel]
  · intro i hi
    repeat refine awp_seq ?_
    refine awp_reg1 (by rw [hx]; kernel_rfl) fun K hK => ?_
    simp (config := { maxSteps := 1000000 }) [ty73, ty3]
    refine hK _ ?_
    clear hK K
    first | show AWP _ _ _ _ _ | show ∃ _, _ | skip
    repeat refine awp_seq ?_
    refine awp_cond (by simp; rfl) (by rw [hx]; simp) (fun hc => ?_) (fun hc => ?_)
    · simp at hc
      have en : (fl[i]?.getD (false, false, [])) = fl[i] := by simp [hc]
      have hkl : k < (fl[i]).2.2.length := by rw [hlen i hc]; exact hk
      have ev : Flow.gi (fl[i]).2.2 k = (fl[i]).2.2[k] := by simp [Flow.gi, hkl]
      refine awp_skip ?_
      first | show AWP _ _ _ _ _ | show ∃ _, _ | skip
      repeat refine awp_seq ?_
      refine awp_block ?_
      by_cases h0 : i = 0
      · have hi0 : ((i : Int) == 0) = true := by simp [h0]
        have e1 : bestTo (fun l => Flow.gi l k) fl (i + 1) = (fl[i]).2.2[k] := by simp only [bestTo, en]; rw [if_pos (.inl h0), ev]
        have e2 : -(bestTo (fun l => -Flow.gi l k) fl (i + 1)) = (fl[i]).2.2[k] := by simp only [bestTo, en]; rw [if_pos (.inl h0), ev]; omega
        repeat refine awp_seq ?_
        refine awp_reg1 (by rw [hx]; kernel_rfl) fun K hK => ?_
        simp (config := { maxSteps := 1000000 }) [ty3, hi0]
        refine hK _ ?_
        clear hK K
        first | show AWP _ _ _ _ _ | show ∃ _, _ | skip
        repeat refine awp_seq ?_
        refine awp_cond (by simp; rfl) (by rw [hx]; simp) (fun hd => ?_) (fun hd => ?_)
        · repeat refine awp_seq ?_
          refine awp_drw3 [] [0, 1, 2, 3, 4, 5, 6, 7, 8, 9, 10, 11, 12, 13, 14, 15] (by rw [hx]; kernel_rfl) (by kernel_rfl) (by kernel_rfl) (by kernel_rfl) fun K hK => ?_
          simp (config := { maxSteps := 1000000 }) [ty73, ty23, ty41, ty3, hc, hkl]
          refine hK _ ?_
          clear hK K
          first | show AWP _ _ _ _ _ | show ∃ _, _ | skip
          repeat refine awp_seq ?_
          refine awp_drw3 [] [0, 1, 2, 3, 4, 5, 6, 7, 8, 9, 10, 11, 12, 13, 14, 15, 16, 17, 18, 19, 20, 21] (by rw [hx]; kernel_rfl) (by kernel_rfl) (by kernel_rfl) (by kernel_rfl) fun K hK => ?_
          simp (config := { maxSteps := 1000000 }) [ty73, ty23, ty41, ty3, hc, hkl]
          refine hK _ ?_
          clear hK K
          first | show AWP _ _ _ _ _ | show ∃ _, _ | skip
          repeat refine awp_seq ?_
          refine awp_reg1 (by rw [hx]; kernel_rfl) fun K hK => ?_
          simp (config := { maxSteps := 1000000 }) [ty3]
          refine hK _ ?_
          clear hK K
          first | show AWP _ _ _ _ _ | show ∃ _, _ | skip
          refine ⟨i + 1, by omega, by omega, ?_⟩
          refine wk_shape (T := [(2, 2, .live (obPlat p)), (4, 4, .live (spOb 0 0)), (8, 8, .live (spOb (bestTo (fun l => Flow.gi l k) fl (i + 1)) (-(bestTo (fun l => -Flow.gi l k) fl (i + 1)))))]) (shp0 hσ (by simp) (by simp) ?_) ?_
          · simp [SlotOk, e1, e2]
            (repeat' (first | exact .same (plat_pure p) | exact .same rfl | exact .same (by simp [purel, C.isPure]) | refine And.intro ?_ ?_))
          · simp [mtc, mtl, mT, C.isPure, purel]
            rw [wrap_id (by omega) (by omega)]
        · simp at hd
      · have hi0 : ((i : Int) == 0) = false := by simp; omega
        obtain ⟨v, hv⟩ : ∃ v, v = (fl[i]).2.2[k] := ⟨_, rfl⟩
        obtain ⟨lo, hlo⟩ : ∃ lo, lo = bestTo (fun l => Flow.gi l k) fl i := ⟨_, rfl⟩
        obtain ⟨hh, hhh⟩ : ∃ hh, hh = -(bestTo (fun l => -Flow.gi l k) fl i) := ⟨_, rfl⟩
        have e1 : bestTo (fun l => Flow.gi l k) fl (i + 1) = if v < lo then v else lo := by
          simp only [bestTo, en]
          rw [ev, ← hv, ← hlo]
          by_cases hx : v < lo
          · rw [if_pos (.inr hx), if_pos hx]
          · rw [if_neg (by omega), if_neg hx]
        have e2 : -(bestTo (fun l => -Flow.gi l k) fl (i + 1)) = if hh < v then v else hh := by
          simp only [bestTo, en]
          rw [ev, ← hv]
          have : bestTo (fun l => -Flow.gi l k) fl i = -hh := by omega
          rw [this]
          by_cases hx : hh < v
          · rw [if_pos (.inr (by omega)), if_pos hx]; omega
          · rw [if_neg (by omega), if_neg hx]; omega
        rw [← hlo, ← hhh]
        repeat refine awp_seq ?_
        refine awp_reg1 (by rw [hx]; kernel_rfl) fun K hK => ?_
        simp (config := { maxSteps := 1000000 }) [ty3, hi0]
        refine hK _ ?_
        clear hK K
        first | show AWP _ _ _ _ _ | show ∃ _, _ | skip
        repeat refine awp_seq ?_
        refine awp_cond (by simp; rfl) (by rw [hx]; simp) (fun hd => ?_) (fun hd => ?_)
        · simp at hd
        · refine awp_skip ?_
          first | show AWP _ _ _ _ _ | show ∃ _, _ | skip
          repeat refine awp_seq ?_
          refine awp_drw3 [] [0, 1, 2, 3, 4, 5, 6, 7, 8, 9, 10, 11, 12, 13, 14, 15, 16, 17, 18, 19, 20, 21] (by rw [hx]; kernel_rfl) (by kernel_rfl) (by kernel_rfl) (by kernel_rfl) fun K hK => ?_
          simp (config := { maxSteps := 1000000 }) [ty73, ty23, ty41, ty3, hc, hkl]
          rw [← hv]
          refine hK _ ?_
          clear hK K
          first | show AWP _ _ _ _ _ | show ∃ _, _ | skip
          repeat refine awp_seq ?_
          refine awp_reg1 (by rw [hx]; kernel_rfl) fun K hK => ?_
          simp (config := { maxSteps := 1000000 }) [ty3]
          refine hK _ ?_
          clear hK K
          first | show AWP _ _ _ _ _ | show ∃ _, _ | skip
          refine ⟨i + 1, by omega, by omega, ?_⟩
          refine wk_shape (T := [(2, 2, .live (obPlat p)), (4, 4, .live (spOb 0 0)), (8, 8, .live (spOb (bestTo (fun l => Flow.gi l k) fl (i + 1)) (-(bestTo (fun l => -Flow.gi l k) fl (i + 1)))))]) (shp0 hσ (by simp) (by simp) ?_) ?_
          · simp [SlotOk, e1, e2]
            (repeat' (first | exact .same (plat_pure p) | exact .same rfl | exact .same (by simp [purel, C.isPure]) | refine And.intro ?_ ?_))
          · simp [mtc, mtl, mT, C.isPure, purel]
            rw [wrap_id (by omega) (by omega)]
    · simp at hc
      repeat refine awp_seq ?_
      refine awp_exit ?_
      first | show AWP _ _ _ _ _ | show ∃ _, _ | skip
      have : i = fl.length := by omega
      subst this
      repeat refine awp_seq ?_
      refine awp_reg1 (by rw [hx]; kernel_rfl) fun K hK => ?_
      simp (config := { maxSteps := 1000000 }) [ty41]
      refine hK _ ?_
      clear hK K
      first | show AWP _ _ _ _ _ | show ∃ _, _ | skip
      repeat refine awp_seq ?_
      refine awp_ret ?_
      refine And.intro (Or.inr rfl) ?_
      simp [retC, resC, viewC, mapO, ty41]

end Go.Proofs.Ytgcmjidphcafnaa

namespace Go.Proofs.Ytgcmjidphcafnaa
open Go Go.Abs

set_option maxHeartbeats 4000000
set_option maxRecDepth 100000

theorem range29_no (p : Plat) (k : Int) (h8 : p.ps.length ≤ 40) (e : Int) (b : Bool) (hb : b = decide (0 ≤ k ∧ k < p.ps.length)) (h : Pure Try.prog 60 [encPlat p, .bool b] (.tup [.sl true true [], encI e])) :
    Pure Try.prog 29 [encPlat p, encI k] (.tup [.agg [encI 0, encI 0], encI e]) := by
  have hpc := isParcel_c p k (by omega)
  rw [← hb] at hpc
  refine pure_of (fn := Try.f29) [.cell 4 41, .tmp 5] ⟨Try.func29, rfl, by kernel_rfl⟩ (by kernel_rfl) (by kernel_rfl) (by kernel_rfl) fun x hx hσ => ?_
  repeat refine awp_seq ?_
  refine awp_reg1 (by rw [hx]; kernel_rfl) fun K hK => ?_
  simp (config := { maxSteps := 1000000 }) [ty25, ty41, ty30, ty3]
  refine hK _ ?_
  clear hK K
  first | show AWP _ _ _ _ _ | show ∃ _, _ | skip
  repeat refine awp_seq ?_
  refine awp_drw3 [] [0, 1, 2, 3, 4, 5, 6, 7, 8, 9] (by rw [hx]; kernel_rfl) (by kernel_rfl) (by kernel_rfl) (by kernel_rfl) fun K hK => ?_
  simp (config := { maxSteps := 1000000 }) [ty25, ty3]
  refine callPD (hpc) (by first | (simp; done) | (simp [*]; done)) (by simp) ?_
  simp (config := { maxSteps := 1000000 }) [ty25]
  refine callPD (h) (by first | (simp; done) | (simp [*]; done)) (by simp) ?_
  simp (config := { maxSteps := 1000000 }) [ty25]
  refine hK _ ?_
  clear hK K
  first | show AWP _ _ _ _ _ | show ∃ _, _ | skip
  repeat refine awp_seq ?_
  refine awp_reg1 (by rw [hx]; kernel_rfl) fun K hK => ?_
  simp (config := { maxSteps := 1000000 }) [ty41]
  refine hK _ ?_
  clear hK K
  first | show AWP _ _ _ _ _ | show ∃ _, _ | skip
  repeat refine awp_seq ?_
  refine awp_reg1 (by rw [hx]; kernel_rfl) fun K hK => ?_
  simp (config := { maxSteps := 1000000 }) [ty3]
  refine hK _ ?_
  clear hK K
  first | show AWP _ _ _ _ _ | show ∃ _, _ | skip
  repeat refine awp_seq ?_
  refine awp_block ?_
  refine awp_loop (fun i : Nat => ⟨ofL [(1, encI k), (2, .ptr 2 3 0 0), (4, .ptr 4 2 0 0), (6, .sl true true []), (7, encI e), (8, .ptr 8 2 0 0), (9, encI 0)], stoT [(2, 2, .live (obPlat p)), (4, 4, .live (spOb 0 0)), (8, 8, .live (spOb 0 0))]⟩)
    (fun i => True) (fun i => 0) 0 (by simp) ?_ ?_
  · refine wk_shape (shp0 hσ (by simp) (by simp) ?_) ?_
    · simp [SlotOk]; exact ⟨.same (plat_pure p), .same rfl⟩
    · simp [mtc, mtl, mT, C.isPure, purel]
  · intro i hi
    repeat refine awp_seq ?_
    refine awp_reg1 (by rw [hx]; kernel_rfl) fun K hK => ?_
    simp (config := { maxSteps := 1000000 }) [ty73, ty3]
    refine hK _ ?_
    clear hK K
    first | show AWP _ _ _ _ _ | show ∃ _, _ | skip
    repeat refine awp_seq ?_
    refine awp_cond (by simp; rfl) (by rw [hx]; simp) (fun hc => ?_) (fun hc => ?_)
    · simp at hc
    · repeat refine awp_seq ?_
      refine awp_exit ?_
      first | show AWP _ _ _ _ _ | show ∃ _, _ | skip
      repeat refine awp_seq ?_
      refine awp_reg1 (by rw [hx]; kernel_rfl) fun K hK => ?_
      simp (config := { maxSteps := 1000000 }) [ty41]
      refine hK _ ?_
      clear hK K
      first | show AWP _ _ _ _ _ | show ∃ _, _ | skip
      repeat refine awp_seq ?_
      refine awp_ret ?_
      refine And.intro (Or.inr rfl) ?_
      simp [retC, resC, viewC, mapO, ty41]

/-- Have the first i lists the same area of parcel k as the first one? -/
def sameTo (fl : LL) (k : Nat) : Nat → Bool
  | 0 => true
  | i + 1 => sameTo fl k i && (Flow.gi (fl[i]?.getD (false, false, [])).2.2 k == Flow.gi (fl[0]?.getD (false, false, [])).2.2 k)

theorem sameTo_iff (fl : LL) (k : Nat) : ∀ n, sameTo fl k n = true ↔ ∀ i, i < n → Flow.gi (fl[i]?.getD (false, false, [])).2.2 k = Flow.gi (fl[0]?.getD (false, false, [])).2.2 k
  | 0 => by simp [sameTo]
  | n + 1 => by
    have ih := sameTo_iff fl k n
    simp only [sameTo, Bool.and_eq_true, beq_iff_eq, ih]
    constructor
    · rintro ⟨h1, h2⟩ i hi
      by_cases e : i = n
      · subst e; exact h2
      · exact h1 i (by omega)
    · intro h
      exact ⟨fun i hi => h i (by omega), h n (by omega)⟩

theorem fixed31_fe (p : Plat) (hp : PlatOk p) (nl fu : Bool) (fl : LL) (hf0 : 0 < fl.length) (hfl : fl.length ≤ 1500) (hlen : ∀ i, ∀ h : i < fl.length, (fl[i]).2.2.length = p.ps.length)
    (h : Pure Try.prog 60 [encPlat p, .bool true] (.tup [.sl nl fu (fl.map cS), encI 0])) :
    Pure Try.prog 31 [encPlat p] (.tup [.sl (fixTo (fun k => sameTo fl k fl.length) p.ps.length).isEmpty false ((fixTo (fun k => sameTo fl k fl.length) p.ps.length).map cI), encI 0]) := by
  have h8 := hp.n8
  generalize hq : (fun k => sameTo fl k fl.length) = q
  have hqk : ∀ k, sameTo fl k fl.length = q k := fun k => by rw [← hq]
  refine pure_of (fn := Try.f31) [.tmp 2, .tmp 3] ⟨Try.func31, rfl, by kernel_rfl⟩ (by kernel_rfl) (by kernel_rfl) (by kernel_rfl) fun x hx hσ => ?_
  repeat refine awp_seq ?_
  refine awp_reg1 (by rw [hx]; kernel_rfl) fun K hK => ?_
  simp (config := { maxSteps := 1000000 }) [ty25, ty30, ty3]
  refine hK _ ?_
  clear hK K
  first | show AWP _ _ _ _ _ | show ∃ _, _ | skip
  repeat refine awp_seq ?_
  refine awp_reg1 (by rw [hx]; kernel_rfl) fun K hK => ?_
  simp (config := { maxSteps := 1000000 }) [ty25]
  refine callP (h) (by first | (simp; done) | (simp [*]; done)) ?_
  simp (config := { maxSteps := 1000000 }) []
  refine hK _ ?_
  clear hK K
  first | show AWP _ _ _ _ _ | show ∃ _, _ | skip
  repeat refine awp_seq ?_
  refine awp_reg1 (by rw [hx]; kernel_rfl) fun K hK => ?_
  simp (config := { maxSteps := 1000000 }) [ty30]
  refine hK _ ?_
  clear hK K
  first | show AWP _ _ _ _ _ | show ∃ _, _ | skip
  repeat refine awp_seq ?_
  refine awp_cond (by simp; rfl) (by rw [hx]; simp) (fun hd => ?_) (fun hd => ?_)
  · simp at hd
  clear hd
  refine awp_skip ?_
  first | show AWP _ _ _ _ _ | show ∃ _, _ | skip
  repeat refine awp_seq ?_
  refine awp_reg1 (by rw [hx]; kernel_rfl) fun K hK => ?_
  simp (config := { maxSteps := 1000000 }) []
  refine hK _ ?_
  clear hK K
  first | show AWP _ _ _ _ _ | show ∃ _, _ | skip
  repeat refine awp_seq ?_
  refine awp_reg1 (by rw [hx]; kernel_rfl) fun K hK => ?_
  simp (config := { maxSteps := 1000000 }) []
  refine hK _ ?_
  clear hK K
  first | show AWP _ _ _ _ _ | show ∃ _, _ | skip
  repeat refine awp_seq ?_
  refine awp_block ?_
  refine AWP.weak ?_ (wk_nil 6 6 1 (fu := true) (by simp) (by simp))
  refine awp_loop (fun k : Nat => ⟨ofL [(1, .ptr 1 3 0 0), (4, .sl nl fu (fl.map cS)), (5, encI 0), (6, .own 6 1 0 (fixTo q k).length), (7, encI k)], stoT [(1, 1, .live (obPlat p)), (6, 6, .live ⟨(fixTo q k).isEmpty, false, 1, (fixTo q k).map cI⟩)]⟩)
    (fun k => k ≤ p.ps.length) (fun k => p.ps.length - k) 0 (by simp) ?_ ?_
  · refine wk_shape (shp0 hσ (by simp) (by simp) ?_) ?_
    · simp [SlotOk, fixTo]; exact ⟨.same (plat_pure p), .same rfl⟩
    · simp [mtc, mtl, mT, C.isPure, purel, fixTo]
  · intro k hk
    have hlen2 := fixTo_len q k
    repeat refine awp_seq ?_
    refine awp_reg1 (by rw [hx]; kernel_rfl) fun K hK => ?_
    simp (config := { maxSteps := 1000000 }) [ty25, ty22, ty3]
    refine hK _ ?_
    clear hK K
    first | show AWP _ _ _ _ _ | show ∃ _, _ | skip
    repeat refine awp_seq ?_
    refine awp_cond (by simp; rfl) (by rw [hx]; simp) (fun hc => ?_) (fun hc => ?_)
    · simp at hc
      refine awp_skip ?_
      first | show AWP _ _ _ _ _ | show ∃ _, _ | skip
      repeat refine awp_seq ?_
      refine awp_block ?_
      repeat refine awp_seq ?_
      refine awp_reg1 (by rw [hx]; kernel_rfl) fun K hK => ?_
      simp (config := { maxSteps := 1000000 }) []
      refine hK _ ?_
      clear hK K
      first | show AWP _ _ _ _ _ | show ∃ _, _ | skip
      repeat refine awp_seq ?_
      refine awp_reg1 (by rw [hx]; kernel_rfl) fun K hK => ?_
      simp (config := { maxSteps := 1000000 }) []
      refine hK _ ?_
      clear hK K
      first | show AWP _ _ _ _ _ | show ∃ _, _ | skip
      repeat refine awp_seq ?_
      refine awp_block ?_
      refine awp_loop (fun i : Nat => ⟨ofL [(1, .ptr 1 3 0 0), (4, .sl nl fu (fl.map cS)), (5, encI 0), (6, .own 6 1 0 (fixTo q k).length), (7, encI k), (8, .bool (sameTo fl k i)), (9, encI i)], stoT [(1, 1, .live (obPlat p)), (6, 6, .live ⟨(fixTo q k).isEmpty, false, 1, (fixTo q k).map cI⟩)]⟩)
        (fun i => i ≤ fl.length) (fun i => fl.length - i) 0 (by simp) ?_ ?_
      · refine wk_shape (shp0 hσ (by simp) (by simp) ?_) ?_
        · simp [SlotOk]; exact ⟨.same (plat_pure p), .same (ints_pure _)⟩
        · simp [mtc, mtl, mT, C.isPure, purel, sameTo]
      · intro i hi
        repeat refine awp_seq ?_
        refine awp_reg1 (by rw [hx]; kernel_rfl) fun K hK => ?_
        simp (config := { maxSteps := 1000000 }) [ty73, ty3]
        refine hK _ ?_
        clear hK K
        first | show AWP _ _ _ _ _ | show ∃ _, _ | skip
        repeat refine awp_seq ?_
        refine awp_cond (by simp; rfl) (by rw [hx]; simp) (fun hd => ?_) (fun hd => ?_)
        · simp at hd
          refine awp_skip ?_
          first | show AWP _ _ _ _ _ | show ∃ _, _ | skip
          repeat refine awp_seq ?_
          refine awp_block ?_
          have en : (fl[i]?.getD (false, false, [])) = fl[i] := by simp [hd]
          have e0 : (fl[0]?.getD (false, false, [])) = fl[0] := by simp [hf0]
          have hkl : k < (fl[i]).2.2.length := by rw [hlen i hd]; exact hc
          have hk0 : k < (fl[0]).2.2.length := by rw [hlen 0 hf0]; exact hc
          have ev : Flow.gi (fl[i]).2.2 k = (fl[i]).2.2[k] := by simp [Flow.gi, hkl]
          have ev0 : Flow.gi (fl[0]).2.2 k = (fl[0]).2.2[k] := by simp [Flow.gi, hk0]
          have es : sameTo fl k (i + 1) = (sameTo fl k i && ((fl[i]).2.2[k] == (fl[0]).2.2[k])) := by simp only [sameTo, en, e0, ev, ev0]
          cases hs : sameTo fl k i with
          | true =>
            rw [hs] at es
            repeat refine awp_seq ?_
            refine awp_drw3 [] [0, 1, 2, 3, 4, 5, 6, 7, 8, 9, 10, 11, 12, 13, 14, 15, 16, 17] (by rw [hx]; kernel_rfl) (by kernel_rfl) (by kernel_rfl) (by kernel_rfl) fun K hK => ?_
            simp (config := { maxSteps := 1000000 }) [ty73, ty23, ty3, hd, hkl, hk0, hf0]
            refine hK _ ?_
            clear hK K
            first | show AWP _ _ _ _ _ | show ∃ _, _ | skip
            repeat refine awp_seq ?_
            refine awp_reg1 (by rw [hx]; kernel_rfl) fun K hK => ?_
            simp (config := { maxSteps := 1000000 }) [ty3]
            refine hK _ ?_
            clear hK K
            first | show AWP _ _ _ _ _ | show ∃ _, _ | skip
            refine ⟨i + 1, by omega, by omega, ?_⟩
            refine wk_shape (shp0 hσ (by simp) (by simp) ?_) ?_
            · simp [SlotOk]; exact ⟨.same (plat_pure p), .same (ints_pure _)⟩
            · simp [mtc, mtl, mT, C.isPure, purel, es]
              rw [wrap_id (by omega) (by omega)]
          | false =>
            rw [hs] at es
            repeat refine awp_seq ?_
            refine awp_drw3 [] [0, 1, 2, 3, 4, 5, 6, 7, 8, 9, 10, 11, 12, 13, 14, 15, 16, 17] (by rw [hx]; kernel_rfl) (by kernel_rfl) (by kernel_rfl) (by kernel_rfl) fun K hK => ?_
            simp (config := { maxSteps := 1000000 }) [ty73, ty23, ty3, hd, hkl, hk0, hf0]
            refine hK _ ?_
            clear hK K
            first | show AWP _ _ _ _ _ | show ∃ _, _ | skip
            repeat refine awp_seq ?_
            refine awp_reg1 (by rw [hx]; kernel_rfl) fun K hK => ?_
            simp (config := { maxSteps := 1000000 }) [ty3]
            refine hK _ ?_
            clear hK K
            first | show AWP _ _ _ _ _ | show ∃ _, _ | skip
            refine ⟨i + 1, by omega, by omega, ?_⟩
            refine wk_shape (shp0 hσ (by simp) (by simp) ?_) ?_
            · simp [SlotOk]; exact ⟨.same (plat_pure p), .same (ints_pure _)⟩
            · simp [mtc, mtl, mT, C.isPure, purel, es]
              rw [wrap_id (by omega) (by omega)]
        · simp at hd
          repeat refine awp_seq ?_
          refine awp_exit ?_
          first | show AWP _ _ _ _ _ | show ∃ _, _ | skip
          have : i = fl.length := by omega
          subst this
          rw [hqk]
          repeat refine awp_seq ?_
          refine awp_reg1 (by rw [hx]; kernel_rfl) fun K hK => ?_
          simp (config := { maxSteps := 1000000 }) []
          refine hK _ ?_
          clear hK K
          first | show AWP _ _ _ _ _ | show ∃ _, _ | skip
          cases hqv : q k with
          | true =>
            repeat refine awp_seq ?_
            refine awp_cond (by simp; rfl) (by rw [hx]; simp) (fun hg => ?_) (fun hg => ?_)
            · repeat refine awp_seq ?_
              refine awp_reg1 (by rw [hx]; kernel_rfl) fun K hK => ?_
              simp (config := { maxSteps := 1000000 }) [ty23, ty3]
              refine ⟨by omega, ?_⟩
              refine hK _ ?_
              clear hK K
              first | show AWP _ _ _ _ _ | show ∃ _, _ | skip
              repeat refine awp_seq ?_
              refine awp_reg1 (by rw [hx]; kernel_rfl) fun K hK => ?_
              simp (config := { maxSteps := 1000000 }) [ty3]
              refine hK _ ?_
              clear hK K
              first | show AWP _ _ _ _ _ | show ∃ _, _ | skip
              refine ⟨k + 1, by omega, by omega, ?_⟩
              refine wk_shape (T := [(1, 1, .live (obPlat p)), (6, 52, .live ⟨(fixTo q (k+1)).isEmpty, false, 1, (fixTo q (k+1)).map cI⟩)]) (shp0 hσ (by simp) (by simp) ?_) ?_
              · simp [SlotOk, fixTo, hqv]
                exact ⟨.same (plat_pure p), .same (by simp [purel, C.isPure])⟩
              · simp [mtc, mtl, mT, C.isPure, fixTo, hqv]
                rw [wrap_id (by omega) (by omega)]
            · simp at hg
          | false =>
            repeat refine awp_seq ?_
            refine awp_cond (by simp; rfl) (by rw [hx]; simp) (fun hg => ?_) (fun hg => ?_)
            · simp at hg
            · refine awp_skip ?_
              first | show AWP _ _ _ _ _ | show ∃ _, _ | skip
              repeat refine awp_seq ?_
              refine awp_reg1 (by rw [hx]; kernel_rfl) fun K hK => ?_
              simp (config := { maxSteps := 1000000 }) [ty3]
              refine hK _ ?_
              clear hK K
              first | show AWP _ _ _ _ _ | show ∃ _, _ | skip
              refine ⟨k + 1, by omega, by omega, ?_⟩
              refine wk_shape (T := [(1, 1, .live (obPlat p)), (6, 6, .live ⟨(fixTo q (k+1)).isEmpty, false, 1, (fixTo q (k+1)).map cI⟩)]) (shp0 hσ (by simp) (by simp) ?_) ?_
              · simp [SlotOk, fixTo, hqv]
                exact ⟨.same (plat_pure p), .same (by simp [purel, C.isPure])⟩
              · simp [mtc, mtl, mT, C.isPure, fixTo, hqv]
                rw [wrap_id (by omega) (by omega)]
    · simp at hc
      repeat refine awp_seq ?_
      refine awp_exit ?_
      first | show AWP _ _ _ _ _ | show ∃ _, _ | skip
      have : k = p.ps.length := by omega
      subst this
      repeat refine awp_seq ?_
      refine awp_reg1 (by rw [hx]; kernel_rfl) fun K hK => ?_
      simp (config := { maxSteps := 1000000 }) []
      refine hK _ ?_
      clear hK K
      first | show AWP _ _ _ _ _ | show ∃ _, _ | skip
      repeat refine awp_seq ?_
      refine awp_ret ?_
      refine And.intro (Or.inr rfl) ?_
      refine ⟨_, by simp [retC, resC]; rfl, ?_⟩
      unfold viewC
      rw [if_neg (by simp [C.isPure, purel])]
      simp only [mapO]
      rw [viewC_own (o := ⟨(fixTo q p.ps.length).isEmpty, false, 1, (fixTo q p.ps.length).map cI⟩) (by simp) rfl (by simp) (ints_pure _), viewC_self rfl]
      simp

theorem fixed31_no (p : Plat) (e : Int) (he : e ≠ 0) (h : Pure Try.prog 60 [encPlat p, .bool true] (.tup [.sl true true [], encI e])) : Pure Try.prog 31 [encPlat p] (.tup [.sl true true [], encI e]) := by
  have he' : (e == 0) = false := by simp [he]
  refine pure_of (fn := Try.f31) [.tmp 2, .tmp 3] ⟨Try.func31, rfl, by kernel_rfl⟩ (by kernel_rfl) (by kernel_rfl) (by kernel_rfl) fun x hx hσ => ?_
  repeat refine awp_seq ?_
  refine awp_reg1 (by rw [hx]; kernel_rfl) fun K hK => ?_
  simp (config := { maxSteps := 1000000 }) [ty25, ty30, ty3]
  refine hK _ ?_
  clear hK K
  first | show AWP _ _ _ _ _ | show ∃ _, _ | skip
  repeat refine awp_seq ?_
  refine awp_reg1 (by rw [hx]; kernel_rfl) fun K hK => ?_
  simp (config := { maxSteps := 1000000 }) [ty25]
  refine callP (h) (by first | (simp; done) | (simp [*]; done)) ?_
  simp (config := { maxSteps := 1000000 }) []
  refine hK _ ?_
  clear hK K
  first | show AWP _ _ _ _ _ | show ∃ _, _ | skip
  repeat refine awp_seq ?_
  refine awp_reg1 (by rw [hx]; kernel_rfl) fun K hK => ?_
  simp (config := { maxSteps := 1000000 }) [ty30, he']
  refine hK _ ?_
  clear hK K
  first | show AWP _ _ _ _ _ | show ∃ _, _ | skip
  repeat refine awp_seq ?_
  refine awp_cond (by simp; rfl) (by rw [hx]; simp) (fun hd => ?_) (fun hd => ?_)
  · repeat refine awp_seq ?_
    refine awp_reg1 (by rw [hx]; kernel_rfl) fun K hK => ?_
    simp (config := { maxSteps := 1000000 }) []
    refine hK _ ?_
    clear hK K
    first | show AWP _ _ _ _ _ | show ∃ _, _ | skip
    repeat refine awp_seq ?_
    refine awp_ret ?_
    refine And.intro (Or.inr rfl) ?_
    simp [retC, resC, viewC, mapO]
  · simp [he] at hd

end Go.Proofs.Ytgcmjidphcafnaa

namespace Go.Proofs.Ytgcmjidphcafnaa
open Go Go.Abs

set_option maxHeartbeats 4000000
set_option maxRecDepth 100000


theorem three11 (p : Plat) (hn : NlOk p) : Pure Try.prog 11 [encPlat p] (.bool true) := by
  by_cases hrd : ¬ FarP p ∧ PlatOk p
  · have hp := hrd.2
    obtain ⟨b, hb⟩ : ∃ b : Bool, b = true ↔ IsP p (areasTo p p.ps.length) := ⟨@decide (IsP p (areasTo p p.ps.length)) (Classical.propDecidable _), by simp⟩
    have h8 := hp.n8
    have hr13 := ready_yes hrd
    by_cases hf : Fe p
    · obtain ⟨s, n, kk, R⟩ := res4_fe p hp hn.pn hf
      have h25 := R.p25
      have h37 := R.p37
      have h38 := R.p38
      have hk17 := known_ok
      refine pure_of (fn := Try.f11) [.tmp 2] ⟨Try.func11, rfl, by kernel_rfl⟩ (by kernel_rfl) (by kernel_rfl) (by kernel_rfl) fun x hx hσ => ?_
      repeat refine awp_seq ?_
      refine awp_reg1 (by rw [hx]; kernel_rfl) fun K hK => ?_
      simp (config := { maxSteps := 1000000 }) [ty25]
      refine hK _ ?_
      clear hK K
      first | show AWP _ _ _ _ _ | show ∃ _, _ | skip
      repeat refine awp_seq ?_
      refine awp_reg1 (by rw [hx]; kernel_rfl) fun K hK => ?_
      simp (config := { maxSteps := 1000000 }) [ty25]
      refine callP (hr13) (by first | (simp; done) | (simp [*]; done)) ?_
      simp (config := { maxSteps := 1000000 }) []
      refine hK _ ?_
      clear hK K
      first | show AWP _ _ _ _ _ | show ∃ _, _ | skip
      repeat refine awp_seq ?_
      refine awp_cond (by simp; rfl) (by rw [hx]; simp) (fun hd => ?_) (fun hd => ?_)
      · simp at hd
      clear hd
      refine awp_skip ?_
      first | show AWP _ _ _ _ _ | show ∃ _, _ | skip
      repeat refine awp_seq ?_
      refine awp_reg1 (by rw [hx]; kernel_rfl) fun K hK => ?_
      simp (config := { maxSteps := 1000000 }) [ty25]
      refine callP (h25) (by first | (simp; done) | (simp [*]; done)) ?_
      simp (config := { maxSteps := 1000000 }) []
      refine hK _ ?_
      clear hK K
      first | show AWP _ _ _ _ _ | show ∃ _, _ | skip
      repeat refine awp_seq ?_
      refine awp_reg1 (by rw [hx]; kernel_rfl) fun K hK => ?_
      simp (config := { maxSteps := 1000000 }) [ty25]
      refine callP (h37) (by first | (simp; done) | (simp [*]; done)) ?_
      simp (config := { maxSteps := 1000000 }) []
      refine hK _ ?_
      clear hK K
      first | show AWP _ _ _ _ _ | show ∃ _, _ | skip
      repeat refine awp_seq ?_
      refine awp_reg1 (by rw [hx]; kernel_rfl) fun K hK => ?_
      simp (config := { maxSteps := 1000000 }) [ty25]
      refine callP (h38) (by first | (simp; done) | (simp [*]; done)) ?_
      simp (config := { maxSteps := 1000000 }) []
      refine hK _ ?_
      clear hK K
      first | show AWP _ _ _ _ _ | show ∃ _, _ | skip
      repeat refine awp_seq ?_
      refine awp_reg1 (by rw [hx]; kernel_rfl) fun K hK => ?_
      simp (config := { maxSteps := 1000000 }) [ty30]
      refine callP (hk17) (by first | (simp; done) | (simp [*]; done)) ?_
      simp (config := { maxSteps := 1000000 }) [ty30]
      refine hK _ ?_
      clear hK K
      first | show AWP _ _ _ _ _ | show ∃ _, _ | skip
      repeat refine awp_seq ?_
      refine awp_cond (by simp; rfl) (by rw [hx]; simp) (fun hd => ?_) (fun hd => ?_)
      · simp at hd
      clear hd
      refine awp_skip ?_
      first | show AWP _ _ _ _ _ | show ∃ _, _ | skip
      repeat refine awp_seq ?_
      refine awp_reg1 (by rw [hx]; kernel_rfl) fun K hK => ?_
      simp (config := { maxSteps := 1000000 }) []
      refine hK _ ?_
      clear hK K
      first | show AWP _ _ _ _ _ | show ∃ _, _ | skip
      repeat refine awp_seq ?_
      refine awp_reg1 (by rw [hx]; kernel_rfl) fun K hK => ?_
      simp (config := { maxSteps := 1000000 }) []
      refine hK _ ?_
      clear hK K
      first | show AWP _ _ _ _ _ | show ∃ _, _ | skip
      refine AWP.weak ?_ (wk_nil 9 3001 1 (fu := true) (by simp) (by simp))
      repeat refine awp_seq ?_
      refine awp_block ?_
      refine awp_loop (fun i : Nat => ⟨ofL [(1, .ptr 1 3 0 0), (3, encI s), (4, encI 0), (5, encI n), (7, encI kk), (9, .own 3001 1 0 (areasTo p i).length), (10, encI i)], stoT [(1, 1, .live (obPlat p)), (3001, 3001, .live ⟨(areasTo p i).isEmpty, false, 1, (areasTo p i).map cI⟩)]⟩)
        (fun i => i ≤ p.ps.length) (fun i => p.ps.length - i) 0 (by simp) ?_ ?_
      · refine wk_shape (shp0 hσ (by simp) (by simp) ?_) ?_
        · simp [SlotOk, areasTo]; exact ⟨.same (plat_pure p), .same rfl⟩
        · simp [mtc, mtl, mT, C.isPure, areasTo]
      · intro i hi
        repeat refine awp_seq ?_
        refine awp_reg1 (by rw [hx]; kernel_rfl) fun K hK => ?_
        simp (config := { maxSteps := 1000000 }) [ty25, ty22, ty3]
        refine hK _ ?_
        clear hK K
        first | show AWP _ _ _ _ _ | show ∃ _, _ | skip
        repeat refine awp_seq ?_
        refine awp_cond (by simp; rfl) (by rw [hx]; simp) (fun hc => ?_) (fun hc => ?_)
        · simp at hc
          have hal := areasTo_len p i (by omega)
          have hne : p.ps ≠ [] := by intro h; rw [h] at hc; simp at hc
          refine awp_skip ?_
          first | show AWP _ _ _ _ _ | show ∃ _, _ | skip
          repeat refine awp_seq ?_
          refine awp_block ?_
          repeat refine awp_seq ?_
          refine awp_reg1 (by rw [hx]; kernel_rfl) fun K hK => ?_
          simp (config := { maxSteps := 1000000 }) [ty25, ty22, ty45, ty23, ty3, hc, hne]
          refine ⟨by omega, ?_⟩
          have ea : (areasTo p i).map cI ++ [[C.int IntKind.i64 p.ps[i].area]] = (areasTo p (i + 1)).map cI := by rw [areasTo_succ p i hc]; simp
          have hal2 := areasTo_len p (i + 1) (by omega)
          have hem : (areasTo p (i + 1)).isEmpty = false := by cases h : areasTo p (i + 1) with | nil => rw [h] at hal2; simp at hal2 | cons a b => rfl
          simp [ea, hal]
          refine hK _ ?_
          clear hK K
          first | show AWP _ _ _ _ _ | show ∃ _, _ | skip
          repeat refine awp_seq ?_
          refine awp_reg1 (by rw [hx]; kernel_rfl) fun K hK => ?_
          simp (config := { maxSteps := 1000000 }) [ty3]
          refine hK _ ?_
          clear hK K
          first | show AWP _ _ _ _ _ | show ∃ _, _ | skip
          refine ⟨i + 1, by omega, by omega, ?_⟩
          refine wk_shape (T := [(1, 1, .live (obPlat p)), (3001, 60, .live ⟨(areasTo p (i + 1)).isEmpty, false, 1, (areasTo p (i + 1)).map cI⟩)]) (shp0 hσ (by simp) (by simp) ?_) ?_
          · simp [SlotOk, hem]
            exact ⟨.same (plat_pure p), .same (ints_pure _)⟩
          · simp [mtc, mtl, mT, C.isPure, purel, hal2]
            simp (disch := omega) [wrap_id]
        · simp at hc
          repeat refine awp_seq ?_
          refine awp_exit ?_
          first | show AWP _ _ _ _ _ | show ∃ _, _ | skip
          obtain rfl : i = p.ps.length := by omega
          have hal := areasTo_len p p.ps.length (Nat.le_refl _)
          repeat refine awp_seq ?_
          refine awp_reg1 (by rw [hx]; kernel_rfl) fun K hK => ?_
          simp (config := { maxSteps := 1000000 }) [ty25]
          refine callL (fills35 p ((areasTo p p.ps.length).isEmpty && !false) (areasTo p p.ps.length) (by omega) (by have := hp.r4; omega) (by have := hp.c4; omega) hn.rn hn.cn 0 b (.inr (.inr ⟨by simp [hp], hal, rfl, hb⟩))) ?_ (.inr rfl) ?_
          · refine mapO_two (viewC_self (plat_pure1 p)) (viewC_own (m := (areasTo p p.ps.length).length) (o := ⟨(areasTo p p.ps.length).isEmpty, false, 1, (areasTo p p.ps.length).map cI⟩) rfl rfl (by simp) (ints_pure _))
          simp
          refine hK _ ?_
          clear hK K
          first | show AWP _ _ _ _ _ | show ∃ _, _ | skip
          repeat refine awp_seq ?_
          refine awp_reg1 (by rw [hx]; kernel_rfl) fun K hK => ?_
          simp (config := { maxSteps := 1000000 }) [ty30]
          refine hK _ ?_
          clear hK K
          first | show AWP _ _ _ _ _ | show ∃ _, _ | skip
          repeat refine awp_seq ?_
          refine awp_cond (by simp; rfl) (by rw [hx]; simp) (fun hd => ?_) (fun hd => ?_)
          · simp at hd
          clear hd
          refine awp_skip ?_
          first | show AWP _ _ _ _ _ | show ∃ _, _ | skip
          repeat refine awp_seq ?_
          refine awp_reg1 (by rw [hx]; kernel_rfl) fun K hK => ?_
          simp (config := { maxSteps := 1000000 }) [ty30]
          refine hK _ ?_
          clear hK K
          first | show AWP _ _ _ _ _ | show ∃ _, _ | skip
          repeat refine awp_seq ?_
          refine awp_cond (by simp; rfl) (by rw [hx]; simp) (fun hd => ?_) (fun hd => ?_)
          · simp at hd
          clear hd
          refine awp_skip ?_
          first | show AWP _ _ _ _ _ | show ∃ _, _ | skip
          obtain ⟨g0, g1, g2, g3, g4, g5, g6, g7, g8⟩ := three_law hp R.hs R.hw R.hf R.k8 R.n99
          rw [← hb] at g6 g7 g8
          have hk8 := R.k8
          have u1 : ¬ s < n := by omega
          have m1 : ¬ (if (kk : Int) < if n < s then n else s then (kk : Int) else if n < s then n else s) < 0 := by repeat' split <;> omega
          have m2 : ¬ 792 < (if (if s < n then n else s) < (kk : Int) then (kk : Int) else if s < n then n else s) := by repeat' split <;> omega
          have m3 : ¬ 792 < s := by omega
          have u2 : ¬ s < (kk : Int) := by omega
          have hnl : n * (p.ps.length : Int) ≤ 99 * p.ps.length := Int.mul_le_mul_of_nonneg_right R.n99 (by omega)
          have wnl : IntKind.i64.wrap (n * (p.ps.length : Int)) = n * (p.ps.length : Int) := wrap_id (by omega) (by omega)
          have u3 : ¬ n * (p.ps.length : Int) < s := by omega
          have u4 : ¬ p.ps.length < kk := by omega
          repeat refine awp_seq ?_
          refine awp_reg1 (by rw [hx]; kernel_rfl) fun K hK => ?_
          simp (config := { maxSteps := 1000000 }) [ty25, ty22, ty3, m1, m2, u1, u2, wnl, u3, u4, m3]
          refine hK _ ?_
          clear hK K
          first | show AWP _ _ _ _ _ | show ∃ _, _ | skip
          repeat refine awp_seq ?_
          refine awp_cond (by simp; rfl) (by rw [hx]; simp) (fun he => ?_) (fun he => ?_)
          · simp at he
          clear he
          refine awp_skip ?_
          first | show AWP _ _ _ _ _ | show ∃ _, _ | skip
          cases b with
          | true =>
            have z1 : s = 0 := g6.2 rfl
            have z2 : n = 0 := g7.2 rfl
            have z3 : kk = 0 := g8.2 rfl
            repeat refine awp_seq ?_
            refine awp_reg1 (by rw [hx]; kernel_rfl) fun K hK => ?_
            simp (config := { maxSteps := 1000000 }) [z1, z2, z3, ty3, ty4]
            refine callP (works14) (by first | (simp; done) | (simp [*]; done)) ?_
            simp (config := { maxSteps := 1000000 }) [ty3, ty4]
            refine hK _ ?_
            clear hK K
            first | show AWP _ _ _ _ _ | show ∃ _, _ | skip
            repeat refine awp_seq ?_
            refine awp_ret ?_
            refine And.intro (Or.inr rfl) ?_
            simp [retC, resC, viewC, mapO]
          | false =>
            have z1 : ¬ s = 0 := fun h => by have := g6.1 h; simp at this
            have z2 : ¬ n = 0 := fun h => by have := g7.1 h; simp at this
            have z3 : ¬ (kk : Int) = 0 := fun h => by have := g8.1 (by omega); simp at this
            have z4 : ¬ kk = 0 := by omega
            have y1 : (s == 0) = false := by simpa using z1
            have y2 : (n == 0) = false := by simpa using z2
            have y3 : ((kk : Int) == 0) = false := by simpa using z4
            repeat refine awp_seq ?_
            refine awp_reg1 (by rw [hx]; kernel_rfl) fun K hK => ?_
            simp (config := { maxSteps := 1000000 }) [y1, y2, y3, ty3, ty4]
            refine callP (works14) (by first | (simp; done) | (simp [*]; done)) ?_
            simp (config := { maxSteps := 1000000 }) [ty3, ty4]
            refine hK _ ?_
            clear hK K
            first | show AWP _ _ _ _ _ | show ∃ _, _ | skip
            repeat refine awp_seq ?_
            refine awp_ret ?_
            refine And.intro (Or.inr rfl) ?_
            simp [retC, resC, viewC, mapO]
    · obtain ⟨h25, h37, h38⟩ := res4_no p hp hn.pn hf
      have hk17 := known_none
      refine pure_of (fn := Try.f11) [.tmp 2] ⟨Try.func11, rfl, by kernel_rfl⟩ (by kernel_rfl) (by kernel_rfl) (by kernel_rfl) fun x hx hσ => ?_
      repeat refine awp_seq ?_
      refine awp_reg1 (by rw [hx]; kernel_rfl) fun K hK => ?_
      simp (config := { maxSteps := 1000000 }) [ty25]
      refine hK _ ?_
      clear hK K
      first | show AWP _ _ _ _ _ | show ∃ _, _ | skip
      repeat refine awp_seq ?_
      refine awp_reg1 (by rw [hx]; kernel_rfl) fun K hK => ?_
      simp (config := { maxSteps := 1000000 }) [ty25]
      refine callP (hr13) (by first | (simp; done) | (simp [*]; done)) ?_
      simp (config := { maxSteps := 1000000 }) []
      refine hK _ ?_
      clear hK K
      first | show AWP _ _ _ _ _ | show ∃ _, _ | skip
      repeat refine awp_seq ?_
      refine awp_cond (by simp; rfl) (by rw [hx]; simp) (fun hd => ?_) (fun hd => ?_)
      · simp at hd
      clear hd
      refine awp_skip ?_
      first | show AWP _ _ _ _ _ | show ∃ _, _ | skip
      repeat refine awp_seq ?_
      refine awp_reg1 (by rw [hx]; kernel_rfl) fun K hK => ?_
      simp (config := { maxSteps := 1000000 }) [ty25]
      refine callP (h25) (by first | (simp; done) | (simp [*]; done)) ?_
      simp (config := { maxSteps := 1000000 }) []
      refine hK _ ?_
      clear hK K
      first | show AWP _ _ _ _ _ | show ∃ _, _ | skip
      repeat refine awp_seq ?_
      refine awp_reg1 (by rw [hx]; kernel_rfl) fun K hK => ?_
      simp (config := { maxSteps := 1000000 }) [ty25]
      refine callP (h37) (by first | (simp; done) | (simp [*]; done)) ?_
      simp (config := { maxSteps := 1000000 }) []
      refine hK _ ?_
      clear hK K
      first | show AWP _ _ _ _ _ | show ∃ _, _ | skip
      repeat refine awp_seq ?_
      refine awp_reg1 (by rw [hx]; kernel_rfl) fun K hK => ?_
      simp (config := { maxSteps := 1000000 }) [ty25]
      refine callP (h38) (by first | (simp; done) | (simp [*]; done)) ?_
      simp (config := { maxSteps := 1000000 }) []
      refine hK _ ?_
      clear hK K
      first | show AWP _ _ _ _ _ | show ∃ _, _ | skip
      repeat refine awp_seq ?_
      refine awp_reg1 (by rw [hx]; kernel_rfl) fun K hK => ?_
      simp (config := { maxSteps := 1000000 }) [ty30]
      refine callP (hk17) (by first | (simp; done) | (simp [*]; done)) ?_
      simp (config := { maxSteps := 1000000 }) [ty30]
      refine hK _ ?_
      clear hK K
      first | show AWP _ _ _ _ _ | show ∃ _, _ | skip
      repeat refine awp_seq ?_
      refine awp_cond (by simp; rfl) (by rw [hx]; simp) (fun hd => ?_) (fun hd => ?_)
      · simp at hd
      clear hd
      refine awp_skip ?_
      first | show AWP _ _ _ _ _ | show ∃ _, _ | skip
      repeat refine awp_seq ?_
      refine awp_reg1 (by rw [hx]; kernel_rfl) fun K hK => ?_
      simp (config := { maxSteps := 1000000 }) []
      refine hK _ ?_
      clear hK K
      first | show AWP _ _ _ _ _ | show ∃ _, _ | skip
      repeat refine awp_seq ?_
      refine awp_reg1 (by rw [hx]; kernel_rfl) fun K hK => ?_
      simp (config := { maxSteps := 1000000 }) []
      refine hK _ ?_
      clear hK K
      first | show AWP _ _ _ _ _ | show ∃ _, _ | skip
      refine AWP.weak ?_ (wk_nil 9 3001 1 (fu := true) (by simp) (by simp))
      repeat refine awp_seq ?_
      refine awp_block ?_
      refine awp_loop (fun i : Nat => ⟨ofL [(1, .ptr 1 3 0 0), (3, encI 0), (4, encI 3), (5, encI 0), (7, encI 0), (9, .own 3001 1 0 (areasTo p i).length), (10, encI i)], stoT [(1, 1, .live (obPlat p)), (3001, 3001, .live ⟨(areasTo p i).isEmpty, false, 1, (areasTo p i).map cI⟩)]⟩)
        (fun i => i ≤ p.ps.length) (fun i => p.ps.length - i) 0 (by simp) ?_ ?_
      · refine wk_shape (shp0 hσ (by simp) (by simp) ?_) ?_
        · simp [SlotOk, areasTo]; exact ⟨.same (plat_pure p), .same rfl⟩
        · simp [mtc, mtl, mT, C.isPure, areasTo]
      · intro i hi
        repeat refine awp_seq ?_
        refine awp_reg1 (by rw [hx]; kernel_rfl) fun K hK => ?_
        simp (config := { maxSteps := 1000000 }) [ty25, ty22, ty3]
        refine hK _ ?_
        clear hK K
        first | show AWP _ _ _ _ _ | show ∃ _, _ | skip
        repeat refine awp_seq ?_
        refine awp_cond (by simp; rfl) (by rw [hx]; simp) (fun hc => ?_) (fun hc => ?_)
        · simp at hc
          have hal := areasTo_len p i (by omega)
          have hne : p.ps ≠ [] := by intro h; rw [h] at hc; simp at hc
          refine awp_skip ?_
          first | show AWP _ _ _ _ _ | show ∃ _, _ | skip
          repeat refine awp_seq ?_
          refine awp_block ?_
          repeat refine awp_seq ?_
          refine awp_reg1 (by rw [hx]; kernel_rfl) fun K hK => ?_
          simp (config := { maxSteps := 1000000 }) [ty25, ty22, ty45, ty23, ty3, hc, hne]
          refine ⟨by omega, ?_⟩
          have ea : (areasTo p i).map cI ++ [[C.int IntKind.i64 p.ps[i].area]] = (areasTo p (i + 1)).map cI := by rw [areasTo_succ p i hc]; simp
          have hal2 := areasTo_len p (i + 1) (by omega)
          have hem : (areasTo p (i + 1)).isEmpty = false := by cases h : areasTo p (i + 1) with | nil => rw [h] at hal2; simp at hal2 | cons a b => rfl
          simp [ea, hal]
          refine hK _ ?_
          clear hK K
          first | show AWP _ _ _ _ _ | show ∃ _, _ | skip
          repeat refine awp_seq ?_
          refine awp_reg1 (by rw [hx]; kernel_rfl) fun K hK => ?_
          simp (config := { maxSteps := 1000000 }) [ty3]
          refine hK _ ?_
          clear hK K
          first | show AWP _ _ _ _ _ | show ∃ _, _ | skip
          refine ⟨i + 1, by omega, by omega, ?_⟩
          refine wk_shape (T := [(1, 1, .live (obPlat p)), (3001, 60, .live ⟨(areasTo p (i + 1)).isEmpty, false, 1, (areasTo p (i + 1)).map cI⟩)]) (shp0 hσ (by simp) (by simp) ?_) ?_
          · simp [SlotOk, hem]
            exact ⟨.same (plat_pure p), .same (ints_pure _)⟩
          · simp [mtc, mtl, mT, C.isPure, purel, hal2]
            simp (disch := omega) [wrap_id]
        · simp at hc
          repeat refine awp_seq ?_
          refine awp_exit ?_
          first | show AWP _ _ _ _ _ | show ∃ _, _ | skip
          obtain rfl : i = p.ps.length := by omega
          have hal := areasTo_len p p.ps.length (Nat.le_refl _)
          repeat refine awp_seq ?_
          refine awp_reg1 (by rw [hx]; kernel_rfl) fun K hK => ?_
          simp (config := { maxSteps := 1000000 }) [ty25]
          refine callL (fills35 p ((areasTo p p.ps.length).isEmpty && !false) (areasTo p p.ps.length) (by omega) (by have := hp.r4; omega) (by have := hp.c4; omega) hn.rn hn.cn 0 b (.inr (.inr ⟨by simp [hp], hal, rfl, hb⟩))) ?_ (.inr rfl) ?_
          · refine mapO_two (viewC_self (plat_pure1 p)) (viewC_own (m := (areasTo p p.ps.length).length) (o := ⟨(areasTo p p.ps.length).isEmpty, false, 1, (areasTo p p.ps.length).map cI⟩) rfl rfl (by simp) (ints_pure _))
          simp
          refine hK _ ?_
          clear hK K
          first | show AWP _ _ _ _ _ | show ∃ _, _ | skip
          repeat refine awp_seq ?_
          refine awp_reg1 (by rw [hx]; kernel_rfl) fun K hK => ?_
          simp (config := { maxSteps := 1000000 }) [ty30]
          refine hK _ ?_
          clear hK K
          first | show AWP _ _ _ _ _ | show ∃ _, _ | skip
          repeat refine awp_seq ?_
          refine awp_cond (by simp; rfl) (by rw [hx]; simp) (fun hd => ?_) (fun hd => ?_)
          · simp at hd
          clear hd
          refine awp_skip ?_
          first | show AWP _ _ _ _ _ | show ∃ _, _ | skip
          repeat refine awp_seq ?_
          refine awp_reg1 (by rw [hx]; kernel_rfl) fun K hK => ?_
          simp (config := { maxSteps := 1000000 }) [ty30]
          refine hK _ ?_
          clear hK K
          first | show AWP _ _ _ _ _ | show ∃ _, _ | skip
          repeat refine awp_seq ?_
          refine awp_cond (by simp; rfl) (by rw [hx]; simp) (fun hd => ?_) (fun hd => ?_)
          · have hno : b = false := by cases b with | false => rfl | true => exact absurd ⟨_, hb.1 rfl⟩ hf
            subst hno
            repeat refine awp_seq ?_
            refine awp_reg1 (by rw [hx]; kernel_rfl) fun K hK => ?_
            simp (config := { maxSteps := 1000000 }) []
            refine callP (works14) (by first | (simp; done) | (simp [*]; done)) ?_
            simp (config := { maxSteps := 1000000 }) [ty3, ty4]
            refine hK _ ?_
            clear hK K
            first | show AWP _ _ _ _ _ | show ∃ _, _ | skip
            repeat refine awp_seq ?_
            refine awp_ret ?_
            refine And.intro (Or.inr rfl) ?_
            simp [retC, resC, viewC, mapO]
          · simp at hd
  · have hr13 := ready_no hrd
    refine pure_of (fn := Try.f11) [.tmp 2] ⟨Try.func11, rfl, by kernel_rfl⟩ (by kernel_rfl) (by kernel_rfl) (by kernel_rfl) fun x hx hσ => ?_
    repeat refine awp_seq ?_
    refine awp_reg1 (by rw [hx]; kernel_rfl) fun K hK => ?_
    simp (config := { maxSteps := 1000000 }) [ty25]
    refine hK _ ?_
    clear hK K
    first | show AWP _ _ _ _ _ | show ∃ _, _ | skip
    repeat refine awp_seq ?_
    refine awp_reg1 (by rw [hx]; kernel_rfl) fun K hK => ?_
    simp (config := { maxSteps := 1000000 }) [ty25]
    refine callP (hr13) (by first | (simp; done) | (simp [*]; done)) ?_
    simp (config := { maxSteps := 1000000 }) []
    refine hK _ ?_
    clear hK K
    first | show AWP _ _ _ _ _ | show ∃ _, _ | skip
    repeat refine awp_seq ?_
    refine awp_cond (by simp; rfl) (by rw [hx]; simp) (fun hd => ?_) (fun hd => ?_)
    · repeat refine awp_seq ?_
      refine awp_reg1 (by rw [hx]; kernel_rfl) fun K hK => ?_
      simp (config := { maxSteps := 1000000 }) []
      refine callP (works14) (by first | (simp; done) | (simp [*]; done)) ?_
      simp (config := { maxSteps := 1000000 }) []
      refine hK _ ?_
      clear hK K
      first | show AWP _ _ _ _ _ | show ∃ _, _ | skip
      repeat refine awp_seq ?_
      refine awp_ret ?_
      refine And.intro (Or.inr rfl) ?_
      simp [retC, resC, viewC, mapO]
    · simp at hd

end Go.Proofs.Ytgcmjidphcafnaa

namespace Go.Proofs.Ytgcmjidphcafnaa
open Go Go.Abs

set_option maxHeartbeats 4000000
set_option maxRecDepth 100000

theorem same32 (n1 f1 n2 f2 : Bool) (l : List Int) (hl : l.length ≤ 1000) : Pure Try.prog 32 [.sl n1 f1 (l.map cI), .sl n2 f2 (l.map cI)] (.bool true) := by
  refine pure_of (fn := Try.f32) [.tmp 4] ⟨Try.func32, rfl, by kernel_rfl⟩ (by kernel_rfl) (by kernel_rfl) (by kernel_rfl) fun x hx hσ => ?_
  repeat refine awp_seq ?_
  refine awp_reg1 (by rw [hx]; kernel_rfl) fun K hK => ?_
  simp (config := { maxSteps := 1000000 }) []
  refine hK _ ?_
  clear hK K
  first | show AWP _ _ _ _ _ | show ∃ _, _ | skip
  repeat refine awp_seq ?_
  refine awp_reg1 (by rw [hx]; kernel_rfl) fun K hK => ?_
  simp (config := { maxSteps := 1000000 }) [ty23, ty3]
  refine hK _ ?_
  clear hK K
  first | show AWP _ _ _ _ _ | show ∃ _, _ | skip
  repeat refine awp_seq ?_
  refine awp_cond (by simp; rfl) (by rw [hx]; simp) (fun hd => ?_) (fun hd => ?_)
  · simp at hd
  clear hd
  refine awp_skip ?_
  first | show AWP _ _ _ _ _ | show ∃ _, _ | skip
  repeat refine awp_seq ?_
  refine awp_reg1 (by rw [hx]; kernel_rfl) fun K hK => ?_
  simp (config := { maxSteps := 1000000 }) []
  refine hK _ ?_
  clear hK K
  first | show AWP _ _ _ _ _ | show ∃ _, _ | skip
  repeat refine awp_seq ?_
  refine awp_block ?_
  refine awp_loop (fun i : Nat => ⟨ofL [(0, .sl n1 f1 (l.map cI)), (1, .sl n2 f2 (l.map cI)), (5, encI i)], stoT []⟩)
    (fun i => i ≤ l.length) (fun i => l.length - i) 0 (by simp) ?_ ?_
  · refine wk_shape (shp0 hσ (by simp) (by simp) ?_) ?_
    · simp [SlotOk] <;> (repeat' (first | exact .same (by simp [purel, C.isPure]) | refine And.intro ?_ ?_))
    · simp [mtc, mtl, mT, C.isPure, purel] <;> (try simp (disch := omega) [wrap_id])
  · intro i hi
    repeat refine awp_seq ?_
    refine awp_reg1 (by rw [hx]; kernel_rfl) fun K hK => ?_
    simp (config := { maxSteps := 1000000 }) [ty23, ty3]
    refine hK _ ?_
    clear hK K
    first | show AWP _ _ _ _ _ | show ∃ _, _ | skip
    repeat refine awp_seq ?_
    refine awp_cond (by simp; rfl) (by rw [hx]; simp) (fun hc => ?_) (fun hc => ?_)
    · simp at hc
      refine awp_skip ?_
      first | show AWP _ _ _ _ _ | show ∃ _, _ | skip
      repeat refine awp_seq ?_
      refine awp_block ?_
      repeat refine awp_seq ?_
      refine awp_drw3 [] [0, 1, 2, 3, 4, 5, 6, 7, 8] (by rw [hx]; kernel_rfl) (by kernel_rfl) (by kernel_rfl) (by kernel_rfl) fun K hK => ?_
      simp (config := { maxSteps := 1000000 }) [ty23, ty3, hc]
      refine hK _ ?_
      clear hK K
      first | show AWP _ _ _ _ _ | show ∃ _, _ | skip
      repeat refine awp_seq ?_
      refine awp_cond (by simp; rfl) (by rw [hx]; simp) (fun hd => ?_) (fun hd => ?_)
      · simp at hd
      clear hd
      refine awp_skip ?_
      first | show AWP _ _ _ _ _ | show ∃ _, _ | skip
      repeat refine awp_seq ?_
      refine awp_reg1 (by rw [hx]; kernel_rfl) fun K hK => ?_
      simp (config := { maxSteps := 1000000 }) [ty3]
      refine hK _ ?_
      clear hK K
      first | show AWP _ _ _ _ _ | show ∃ _, _ | skip
      refine ⟨i + 1, by omega, by omega, ?_⟩
      refine wk_shape (shp0 hσ (by simp) (by simp) ?_) ?_
      · simp [SlotOk] <;> (repeat' (first | exact .same (by simp [purel, C.isPure]) | refine And.intro ?_ ?_))
      · simp [mtc, mtl, mT, C.isPure, purel] <;> (try simp (disch := omega) [wrap_id])
    · simp at hc
      repeat refine awp_seq ?_
      refine awp_exit ?_
      first | show AWP _ _ _ _ _ | show ∃ _, _ | skip
      repeat refine awp_seq ?_
      refine awp_reg1 (by rw [hx]; kernel_rfl) fun K hK => ?_
      simp (config := { maxSteps := 1000000 }) []
      refine hK _ ?_
      clear hK K
      first | show AWP _ _ _ _ _ | show ∃ _, _ | skip
      repeat refine awp_seq ?_
      refine awp_ret ?_
      refine And.intro (Or.inr rfl) ?_
      simp [retC, resC, viewC, mapO]

theorem same27 (p : Plat) (a b c : Bool) (h0 : p.ps.length ≤ 1000) (h1 : p.rows.length ≤ 1000) (h2 : p.cols.length ≤ 1000) : Pure Try.prog 27 [encPlat ⟨a, b, c, p.ps, p.rows, p.cols⟩, encPlat p] (.bool true) := by
  have s1 := same32 b false p.rn false p.rows h1
  have s2 := same32 c false p.cn false p.cols h2
  refine pure_of (fn := Try.f27) [.tmp 4] ⟨Try.func27, rfl, by kernel_rfl⟩ (by kernel_rfl) (by kernel_rfl) (by kernel_rfl) fun x hx hσ => ?_
  repeat refine awp_seq ?_
  refine awp_reg1 (by rw [hx]; kernel_rfl) fun K hK => ?_
  simp (config := { maxSteps := 1000000 }) [ty25]
  refine hK _ ?_
  clear hK K
  first | show AWP _ _ _ _ _ | show ∃ _, _ | skip
  repeat refine awp_seq ?_
  refine awp_reg1 (by rw [hx]; kernel_rfl) fun K hK => ?_
  simp (config := { maxSteps := 1000000 }) [ty25, ty22, ty23, ty3]
  refine callP (s1) (by first | (simp; done) | (simp [*]; done)) ?_
  simp (config := { maxSteps := 1000000 }) [ty25, ty22, ty23, ty3]
  refine callP (s2) (by first | (simp; done) | (simp [*]; done)) ?_
  simp (config := { maxSteps := 1000000 }) [ty25, ty22, ty23, ty3]
  refine hK _ ?_
  clear hK K
  first | show AWP _ _ _ _ _ | show ∃ _, _ | skip
  repeat refine awp_seq ?_
  refine awp_cond (by simp; rfl) (by rw [hx]; simp) (fun hd => ?_) (fun hd => ?_)
  · simp at hd
  clear hd
  refine awp_skip ?_
  first | show AWP _ _ _ _ _ | show ∃ _, _ | skip
  repeat refine awp_seq ?_
  refine awp_reg1 (by rw [hx]; kernel_rfl) fun K hK => ?_
  simp (config := { maxSteps := 1000000 }) []
  refine hK _ ?_
  clear hK K
  first | show AWP _ _ _ _ _ | show ∃ _, _ | skip
  repeat refine awp_seq ?_
  refine awp_block ?_
  refine awp_loop (fun i : Nat => ⟨ofL [(2, .ptr 2 3 0 0), (3, .ptr 3 3 0 0), (5, encI i)], stoT [(2, 2, .live (obPlat ⟨a, b, c, p.ps, p.rows, p.cols⟩)), (3, 3, .live (obPlat p))]⟩)
    (fun i => i ≤ p.ps.length) (fun i => p.ps.length - i) 0 (by simp) ?_ ?_
  · refine wk_shape (shp0 hσ (by simp) (by simp) ?_) ?_
    · simp [SlotOk]
      exact ⟨.same (plat_pure ⟨a, b, c, p.ps, p.rows, p.cols⟩), .same (plat_pure p)⟩
    · simp [mtc, mtl, mT, C.isPure, purel]
  · intro i hi
    repeat refine awp_seq ?_
    refine awp_reg1 (by rw [hx]; kernel_rfl) fun K hK => ?_
    simp (config := { maxSteps := 1000000 }) [ty25, ty22, ty3]
    refine hK _ ?_
    clear hK K
    first | show AWP _ _ _ _ _ | show ∃ _, _ | skip
    repeat refine awp_seq ?_
    refine awp_cond (by simp; rfl) (by rw [hx]; simp) (fun hc => ?_) (fun hc => ?_)
    · simp at hc
      have hne : p.ps ≠ [] := by intro h; rw [h] at hc; simp at hc
      refine awp_skip ?_
      first | show AWP _ _ _ _ _ | show ∃ _, _ | skip
      repeat refine awp_seq ?_
      refine awp_block ?_
      repeat refine awp_seq ?_
      refine awp_drw3 [] [0, 1, 2, 3, 4, 5, 6, 7, 8, 9, 10] (by rw [hx]; kernel_rfl) (by kernel_rfl) (by kernel_rfl) (by kernel_rfl) fun K hK => ?_
      simp (config := { maxSteps := 1000000 }) [ty25, ty22, ty45, ty3, hc, hne, fe45, eqInts]
      refine hK _ ?_
      clear hK K
      first | show AWP _ _ _ _ _ | show ∃ _, _ | skip
      repeat refine awp_seq ?_
      refine awp_cond (by simp; rfl) (by rw [hx]; simp) (fun hd => ?_) (fun hd => ?_)
      · simp at hd
      clear hd
      refine awp_skip ?_
      first | show AWP _ _ _ _ _ | show ∃ _, _ | skip
      repeat refine awp_seq ?_
      refine awp_reg1 (by rw [hx]; kernel_rfl) fun K hK => ?_
      simp (config := { maxSteps := 1000000 }) [ty3]
      refine hK _ ?_
      clear hK K
      first | show AWP _ _ _ _ _ | show ∃ _, _ | skip
      refine ⟨i + 1, by omega, by omega, ?_⟩
      refine wk_shape (T := [(2, 2, .live (obPlat ⟨a, b, c, p.ps, p.rows, p.cols⟩)), (3, 3, .live (obPlat p))]) (shp0 hσ (by simp) (by simp) ?_) ?_
      · simp [SlotOk]
        exact ⟨.same (plat_pure ⟨a, b, c, p.ps, p.rows, p.cols⟩), .same (plat_pure p)⟩
      · simp [mtc, mtl, mT, C.isPure, purel]
        simp (disch := omega) [wrap_id]
    · simp at hc
      repeat refine awp_seq ?_
      refine awp_exit ?_
      first | show AWP _ _ _ _ _ | show ∃ _, _ | skip
      repeat refine awp_seq ?_
      refine awp_reg1 (by rw [hx]; kernel_rfl) fun K hK => ?_
      simp (config := { maxSteps := 1000000 }) []
      refine hK _ ?_
      clear hK K
      first | show AWP _ _ _ _ _ | show ∃ _, _ | skip
      repeat refine awp_seq ?_
      refine awp_ret ?_
      refine And.intro (Or.inr rfl) ?_
      simp [retC, resC, viewC, mapO]

theorem ok_cp {p : Plat} : PlatOk (cpP p.ps p.rows p.cols) ↔ PlatOk p :=
  ⟨fun h => ⟨h.n8, h.r4, h.c4, h.rows, h.cols, h.ps, h.rr, h.cc⟩, fun h => ⟨h.n8, h.r4, h.c4, h.rows, h.cols, h.ps, h.rr, h.cc⟩⟩

open Classical in
theorem encF_ex (p : Plat) (l : List Int) : ∃ e b, encFills p l (decide (PlatOk p)) e b ∧ encFills (cpP p.ps p.rows p.cols) l (decide (PlatOk (cpP p.ps p.rows p.cols))) e b := by
  have hd : decide (PlatOk (cpP p.ps p.rows p.cols)) = decide (PlatOk p) := by rw [decide_eq_decide]; exact ok_cp
  rw [hd]
  by_cases h : PlatOk p
  · by_cases hl : l.length = p.ps.length
    · exact ⟨0, decide (IsP p l), .inr (.inr ⟨by simp [h], hl, rfl, by simp⟩), .inr (.inr ⟨by simp [h], hl, rfl, by simp; exact Iff.rfl⟩)⟩
    · exact ⟨1, false, .inr (.inl ⟨by simp [h], hl, rfl, rfl⟩), .inr (.inl ⟨by simp [h], hl, rfl, rfl⟩)⟩
  · exact ⟨60, false, .inl ⟨by simp [h], rfl, rfl⟩, .inl ⟨by simp [h], rfl, rfl⟩⟩

open Classical in
theorem fills7 (p : Plat) (hn : NlOk p) (nl : Bool) (l : List Int) : Pure Try.prog 7 [encPlat p, .sl nl false (l.map cI)] (.bool true) := by
  by_cases hfar : FarP p
  · have hf := far26 p true (by simp [hfar])
    refine pure_of (fn := Try.f7) [.tmp 4] ⟨Try.func7, rfl, by kernel_rfl⟩ (by kernel_rfl) (by kernel_rfl) (by kernel_rfl) fun x hx hσ => ?_
    repeat refine awp_seq ?_
    refine awp_reg1 (by rw [hx]; kernel_rfl) fun K hK => ?_
    simp (config := { maxSteps := 1000000 }) [ty25]
    refine hK _ ?_
    clear hK K
    first | show AWP _ _ _ _ _ | show ∃ _, _ | skip
    repeat refine awp_seq ?_
    refine awp_reg1 (by rw [hx]; kernel_rfl) fun K hK => ?_
    simp (config := { maxSteps := 1000000 }) [ty25, ty23, ty3]
    refine callP (hf) (by first | (simp; done) | (simp [*]; done)) ?_
    simp (config := { maxSteps := 1000000 }) [ty25, ty23, ty3]
    refine hK _ ?_
    clear hK K
    first | show AWP _ _ _ _ _ | show ∃ _, _ | skip
    repeat refine awp_seq ?_
    refine awp_cond (by simp; rfl) (by rw [hx]; simp) (fun hd => ?_) (fun hd => ?_)
    · repeat refine awp_seq ?_
      refine awp_reg1 (by rw [hx]; kernel_rfl) fun K hK => ?_
      simp (config := { maxSteps := 1000000 }) []
      refine callP (works14) (by first | (simp; done) | (simp [*]; done)) ?_
      simp (config := { maxSteps := 1000000 }) []
      refine hK _ ?_
      clear hK K
      first | show AWP _ _ _ _ _ | show ∃ _, _ | skip
      repeat refine awp_seq ?_
      refine awp_ret ?_
      refine And.intro (Or.inr rfl) ?_
      simp [retC, resC, viewC, mapO]
    · simp at hd
  · have hf := far26 p false (by simp [hfar])
    have h0 : p.ps.length ≤ 40 ∧ p.rows.length ≤ 40 ∧ p.cols.length ≤ 40 := by unfold FarP at hfar; simp only [not_or, Nat.not_lt] at hfar; exact hfar.1
    by_cases hl : l.length ≤ 40
    · have g1 : ¬ ((40 : Int) < l.length) := by omega
      have g2 : ¬ (40 < l.length) := by omega
      have hcp := copy24 p (by omega) (by omega) (by omega)
      refine pure_of (fn := Try.f7) [.tmp 4] ⟨Try.func7, rfl, by kernel_rfl⟩ (by kernel_rfl) (by kernel_rfl) (by kernel_rfl) fun x hx hσ => ?_
      repeat refine awp_seq ?_
      refine awp_reg1 (by rw [hx]; kernel_rfl) fun K hK => ?_
      simp (config := { maxSteps := 1000000 }) [ty25]
      refine hK _ ?_
      clear hK K
      first | show AWP _ _ _ _ _ | show ∃ _, _ | skip
      repeat refine awp_seq ?_
      refine awp_reg1 (by rw [hx]; kernel_rfl) fun K hK => ?_
      simp (config := { maxSteps := 1000000 }) [ty25, ty23, ty3, g1, g2]
      refine callP (hf) (by first | (simp; done) | (simp [*]; done)) ?_
      simp (config := { maxSteps := 1000000 }) [ty25, ty23, ty3, g1, g2]
      refine hK _ ?_
      clear hK K
      first | show AWP _ _ _ _ _ | show ∃ _, _ | skip
      repeat refine awp_seq ?_
      refine awp_cond (by simp; rfl) (by rw [hx]; simp) (fun hd => ?_) (fun hd => ?_)
      · simp at hd
      clear hd
      refine awp_skip ?_
      first | show AWP _ _ _ _ _ | show ∃ _, _ | skip
      repeat refine awp_seq ?_
      refine awp_reg1 (by rw [hx]; kernel_rfl) fun K hK => ?_
      simp (config := { maxSteps := 1000000 }) [ty25, ty23, ty3]
      refine makesL 5001 hcp ?_ ?_
      · intro q h1 h2
        have e1 : q ≠ 2 := by omega
        simp [e1]
      simp [ty25, ty23, ty3]
      refine ⟨by omega, ?_⟩
      refine hK _ ?_
      clear hK K
      first | show AWP _ _ _ _ _ | show ∃ _, _ | skip
      refine AWP.weak (t := ⟨ofL [(1, .sl nl false (l.map cI)), (2, .ptr 2 3 0 0), (5, .ptr 5 3 0 0), (6, .own 23 1 0 l.length)],
        stoT [(2, 2, .live (obPlat p)), (5, 5, .live (platBox 5001 p)), (23, 23, .live (clOb l true)), (5001, 5001, .live (pcsOb true p.ps)), (5002, 5002, .live (clOb p.rows true)), (5003, 5003, .live (clOb p.cols true))]⟩) ?_ ?_
      rotate_left
      · refine wk_shape (shp0 hσ (by simp) (by simp) ?_) ?_
        · simp [SlotOk]
          refine ⟨.same (plat_pure p), rowsOk_box (by simp [mtc, mT]) (by simp [mtc, mT]) (by simp [mtc, mT]) rfl rfl rfl, .same (ints_pure _), .same (pcs_pure _), .same (ints_pure _), .same (ints_pure _)⟩
        · simp [mtc, mtl, mT, C.isPure, purel]
      have c33 := check33 (cpP p.ps p.rows p.cols) (by simp; omega) (by simp; omega) (by simp; omega)
      have c34 := check34 p (by omega) (by omega) (by omega)
      have eif : (if PlatOk (cpP p.ps p.rows p.cols) then (0 : Int) else 60) = if PlatOk p then 0 else 60 := by
        by_cases h : PlatOk p
        · rw [if_pos h, if_pos (ok_cp.2 h)]
        · rw [if_neg h, if_neg (fun h' => h (ok_cp.1 h'))]
      rw [eif] at c33
      obtain ⟨ck, hck⟩ : ∃ ck, ck = (if PlatOk p then (0 : Int) else 60) := ⟨_, rfl⟩
      rw [← hck] at c33 c34
      repeat refine awp_seq ?_
      refine awp_drw3 [] [0, 1, 2, 3, 4] (by rw [hx]; kernel_rfl) (by kernel_rfl) (by kernel_rfl) (by kernel_rfl) fun K hK => ?_
      simp (config := { maxSteps := 1000000 }) [ty25]
      refine callD c33 ?_ (.inr rfl) (by simp) ?_
      · refine mapO_one (viewC_plat rfl rfl rfl (by simp) rfl rfl)
      simp [ty25]
      refine callPD (c34) (by first | (simp; done) | (simp [*]; done)) (by simp) ?_
      simp (config := { maxSteps := 1000000 }) [ty25, ty30]
      refine hK _ ?_
      clear hK K
      first | show AWP _ _ _ _ _ | show ∃ _, _ | skip
      repeat refine awp_seq ?_
      refine awp_cond (by simp; rfl) (by rw [hx]; simp) (fun hd => ?_) (fun hd => ?_)
      · simp at hd
      clear hd
      refine awp_skip ?_
      first | show AWP _ _ _ _ _ | show ∃ _, _ | skip
      obtain ⟨e, b, hF, hFc⟩ := encF_ex p l
      repeat refine awp_seq ?_
      refine awp_reg1 (by rw [hx]; kernel_rfl) fun K hK => ?_
      simp (config := { maxSteps := 1000000 }) [ty25]
      refine callL (fills35 (cpP p.ps p.rows p.cols) (l.isEmpty && !true) l (by simp; omega) (by simp; omega) (by simp; omega) (by simp) (by simp) e b hFc) ?_ (.inr rfl) ?_
      · refine mapO_two (viewC_plat rfl rfl rfl (by simp) rfl rfl) (viewC_own (m := l.length) (o := clOb l true) rfl rfl (by simp) (ints_pure _))
      simp
      refine hK _ ?_
      clear hK K
      first | show AWP _ _ _ _ _ | show ∃ _, _ | skip
      have h36 := fills36 p nl l (by omega) (by omega) (by omega) (by omega) e b hF
      repeat refine awp_seq ?_
      refine awp_reg1 (by rw [hx]; kernel_rfl) fun K hK => ?_
      simp (config := { maxSteps := 1000000 }) [ty25]
      refine callP (h36) (by first | (simp; done) | (simp [*]; done)) ?_
      simp (config := { maxSteps := 1000000 }) []
      refine hK _ ?_
      clear hK K
      first | show AWP _ _ _ _ _ | show ∃ _, _ | skip
      repeat refine awp_seq ?_
      refine awp_reg1 (by rw [hx]; kernel_rfl) fun K hK => ?_
      simp (config := { maxSteps := 1000000 }) [ty25, ty4, ty30]
      refine callL (same27 p false false false (by omega) (by omega) (by omega)) ?_ (.inr rfl) ?_
      · refine mapO_two (viewC_plat rfl rfl rfl (by simp) rfl rfl) (viewC_self (plat_pure1 p))
      simp [ty25]
      refine callL (same32 (l.isEmpty && !true) false nl false l (by omega)) ?_ (.inr rfl) ?_
      · refine mapO_two (viewC_own (m := l.length) (o := clOb l true) rfl rfl (by simp) (ints_pure _)) (viewC_self (by simp [C.isPure]))
      simp [ty25]
      refine callP (works14) (by first | (simp; done) | (simp [*]; done)) ?_
      simp (config := { maxSteps := 1000000 }) []
      refine hK _ ?_
      clear hK K
      first | show AWP _ _ _ _ _ | show ∃ _, _ | skip
      repeat refine awp_seq ?_
      refine awp_ret ?_
      refine And.intro (Or.inr rfl) ?_
      simp [retC, resC, viewC, mapO]
    · have g1 : ((40 : Int) < l.length) := by omega
      have g2 : (40 < l.length) := by omega
      refine pure_of (fn := Try.f7) [.tmp 4] ⟨Try.func7, rfl, by kernel_rfl⟩ (by kernel_rfl) (by kernel_rfl) (by kernel_rfl) fun x hx hσ => ?_
      repeat refine awp_seq ?_
      refine awp_reg1 (by rw [hx]; kernel_rfl) fun K hK => ?_
      simp (config := { maxSteps := 1000000 }) [ty25]
      refine hK _ ?_
      clear hK K
      first | show AWP _ _ _ _ _ | show ∃ _, _ | skip
      repeat refine awp_seq ?_
      refine awp_reg1 (by rw [hx]; kernel_rfl) fun K hK => ?_
      simp (config := { maxSteps := 1000000 }) [ty25, ty23, ty3, g1, g2]
      refine callP (hf) (by first | (simp; done) | (simp [*]; done)) ?_
      simp (config := { maxSteps := 1000000 }) [ty25, ty23, ty3, g1, g2]
      refine hK _ ?_
      clear hK K
      first | show AWP _ _ _ _ _ | show ∃ _, _ | skip
      repeat refine awp_seq ?_
      refine awp_cond (by simp; rfl) (by rw [hx]; simp) (fun hd => ?_) (fun hd => ?_)
      · repeat refine awp_seq ?_
        refine awp_reg1 (by rw [hx]; kernel_rfl) fun K hK => ?_
        simp (config := { maxSteps := 1000000 }) []
        refine callP (works14) (by first | (simp; done) | (simp [*]; done)) ?_
        simp (config := { maxSteps := 1000000 }) []
        refine hK _ ?_
        clear hK K
        first | show AWP _ _ _ _ _ | show ∃ _, _ | skip
        repeat refine awp_seq ?_
        refine awp_ret ?_
        refine And.intro (Or.inr rfl) ?_
        simp [retC, resC, viewC, mapO]
      · simp at hd

end Go.Proofs.Ytgcmjidphcafnaa

namespace Go.Proofs.Ytgcmjidphcafnaa
open Go Go.Abs

set_option maxHeartbeats 2000000

-- plats that answer alike

/-- An adjustment of one plat and one of another that changes as much. -/
def Rel (p q : Plat) (i j : Nat) (l l' : List Int) : Prop :=
  IsP q l' ∧ sumC q l' = sumC p l ∧ manyC q l' = manyC p l ∧ (∀ n, (∀ x, x < p.ps.length → chgF p l x ≤ n) → ∀ x, x < q.ps.length → chgF q l' x ≤ n) ∧ Flow.gi l' j = Flow.gi l i

theorem rel_le {p q : Plat} {i j : Nat} (h : ∀ l, IsP p l → ∃ l', Rel p q i j l l') {s s2 n n2 : Int} {kk k2 : Nat} {a b c d : Int}
    (h1 : MinS p s) (h2 : MinW p n) (h3 : MinF p kk) (h4 : RangeP p i a b) (g1 : MinS q s2) (g2 : MinW q n2) (g3 : MinF q k2) (g4 : RangeP q j c d) :
    s2 ≤ s ∧ n2 ≤ n ∧ k2 ≤ kk ∧ c ≤ a ∧ b ≤ d := by
  obtain ⟨⟨l1, e1, e1'⟩, _⟩ := h1
  obtain ⟨hn0, ⟨l2, e2, e2'⟩, _⟩ := h2
  obtain ⟨⟨l3, e3, e3'⟩, _⟩ := h3
  obtain ⟨⟨l4, e4, e4'⟩, ⟨l5, e5, e5'⟩, _⟩ := h4
  obtain ⟨m1, r1⟩ := h l1 e1
  obtain ⟨m2, r2⟩ := h l2 e2
  obtain ⟨m3, r3⟩ := h l3 e3
  obtain ⟨m4, r4⟩ := h l4 e4
  obtain ⟨m5, r5⟩ := h l5 e5
  refine ⟨?_, ?_, ?_, ?_, ?_⟩
  · have := g1.2 m1 r1.1; have := r1.2.1; omega
  · exact g2.2.2 m2 n r2.1 hn0 (r2.2.2.2.1 n e2')
  · have := g3.2 m3 r3.1; have := r3.2.2.1; omega
  · have := g4.2.2 m4 r4.1; have := r4.2.2.2.2; omega
  · have := g4.2.2 m5 r5.1; have := r5.2.2.2.2; omega

theorem rel_fe {p q : Plat} {i j : Nat} (h : ∀ l, IsP p l → ∃ l', Rel p q i j l l') (hf : Fe p) : Fe q := by
  obtain ⟨l, hl⟩ := hf
  obtain ⟨l', hr⟩ := h l hl
  exact ⟨l', hr.1⟩

theorem chain_fe (p : Plat) (hp : PlatOk p) (hf : Fe p) : Pure Try.prog 15 [encPlat p] (.tup [.sl true true [], .sl true true [], encI 3]) := by
  obtain ⟨o, h1, h2⟩ := chain_c p hp
  match o, h1, h2 with
  | none, h1, _ => exact h1
  | some (r, c), _, h2 =>
    obtain ⟨l, hl⟩ := hf
    exact (set_none hp.w h2.2.2 hl).elim

theorem chain_no (p : Plat) (hp : PlatOk p) (hf : ¬ Fe p) : ∃ r c, Pure Try.prog 15 [encPlat p] (.tup [encSet r, encSet c, encI 0]) := by
  obtain ⟨o, h1, h2⟩ := chain_c p hp
  match o, h1, h2 with
  | some (r, c), h1, _ => exact ⟨r, c, h1⟩
  | none, _, h2 =>
    obtain ⟨r, _, hr⟩ := settle_c p hp.w
    cases r with
    | some l => exact absurd ⟨l, hr.1⟩ hf
    | none =>
      obtain ⟨⟨r, c, e1, e2, e3⟩, _⟩ := hr
      exact absurd e3 (h2 r e1 c e2)

-- rows and columns change places

def swapC (q : Pc) : Pc := ⟨q.col, q.row, q.area, q.off⟩
theorem swapC_swapC (q : Pc) : swapC (swapC q) = q := rfl

theorem pcA_flip {p q : Plat} (h : q.ps = p.ps.map swapC) (i : Nat) : pcA q i = swapC (pcA p i) := by
  simp only [pcA, h, List.getElem?_map]
  cases p.ps[i]? <;> rfl

theorem rel_flip {p q : Plat} (h : q.ps = p.ps.map swapC) (h2 : q.rows = p.cols) (h3 : q.cols = p.rows) (i : Nat) (l : List Int) (hl : IsP p l) : Rel p q i i l l := by
  have elen : q.ps.length = p.ps.length := by rw [h]; simp
  have ec : ∀ x, chgF q l x = chgF p l x := fun x => by rw [chgF_eq, chgF_eq, pcA_flip h]; rfl
  have ef : chgF q l = chgF p l := funext ec
  refine ⟨⟨by rw [elen]; exact hl.1, fun x hx => ?_, ?_, ?_⟩, ?_, ?_, ?_, rfl⟩
  · have := hl.2.1 x hx
    have e := pcA_flip h x
    simp only [pcA] at e
    rw [e]; exact this
  · intro r hr
    rw [h2] at hr ⊢
    rw [← hl.2.2.2 r hr]
    refine sumTo_congr fun x _ => ?_
    have e := pcA_flip h x
    simp only [pcA] at e
    unfold rowF colF
    rw [e]; rfl
  · intro r hr
    rw [h3] at hr ⊢
    rw [← hl.2.2.1 r hr]
    refine sumTo_congr fun x _ => ?_
    have e := pcA_flip h x
    simp only [pcA] at e
    unfold rowF colF
    rw [e]; rfl
  · unfold sumC; rw [elen, ef]
  · unfold manyC; rw [elen, ef]
  · intro n hn x hx; rw [ef]; exact hn x (by omega)

-- the parcels move round

theorem sumTo_add {f : Nat → Int} (a : Nat) : ∀ b, sumTo f (a + b) = sumTo f a + sumTo (fun x => f (a + x)) b
  | 0 => by simp [sumTo]
  | b + 1 => by
    have := sumTo_add (f := f) a b
    show sumTo f (a + b) + f (a + b) = _
    simp only [sumTo]
    omega

theorem sum_rot (f : Nat → Int) (N t : Nat) : sumTo (fun x => f ((x + t) % N)) N = sumTo f N := by
  by_cases hN : N = 0
  · subst hN; rfl
  · obtain ⟨u, hu⟩ : ∃ u, u = t % N := ⟨_, rfl⟩
    have hlt : u < N := by rw [hu]; exact Nat.mod_lt _ (by omega)
    have e : ∀ x, f ((x + t) % N) = f ((x + u) % N) := fun x => by rw [hu, Nat.add_mod_mod]
    have e1 : sumTo (fun x => f ((x + t) % N)) N = sumTo (fun x => f ((x + u) % N)) ((N - u) + u) := by
      rw [show (N - u) + u = N by omega]
      exact sumTo_congr fun x _ => e x
    rw [e1, sumTo_add]
    have a1 : sumTo (fun x => f ((x + u) % N)) (N - u) = sumTo (fun x => f (u + x)) (N - u) := sumTo_congr fun x hx => by
      rw [Nat.mod_eq_of_lt (by omega), Nat.add_comm]
    have a2 : sumTo (fun x => f ((N - u + x + u) % N)) u = sumTo f u := sumTo_congr fun x hx => by
      have : (N - u + x + u) % N = x := by
        rw [show N - u + x + u = x + N by omega, Nat.add_mod_right, Nat.mod_eq_of_lt (by omega)]
      rw [this]
    rw [a1, a2]
    have := sumTo_add (f := f) u (N - u)
    rw [show u + (N - u) = N by omega] at this
    omega

def rotL (l : List Int) (N t : Nat) : List Int := (List.range N).map fun x => Flow.gi l ((x + t) % N)

theorem rotL_get {l : List Int} {N t x : Nat} (hx : x < N) : Flow.gi (rotL l N t) x = Flow.gi l ((x + t) % N) := by
  simp only [rotL]
  simp [Flow.gi, hx]

theorem rel_rot {p q : Plat} (hp : PlatOk p) (hq : PlatOk q) {t : Nat} (hlen : q.ps.length = p.ps.length) (h : ∀ x, x < p.ps.length → pcA q x = pcA p ((x + t) % p.ps.length)) (h2 : q.rows = p.rows) (h3 : q.cols = p.cols) {j : Nat} (hj : j < p.ps.length)
    (l : List Int) (hl : IsP p l) : Rel p q ((j + t) % p.ps.length) j l (rotL l p.ps.length t) := by
  have hl1 : (rotL l p.ps.length t).length = p.ps.length := by simp [rotL]
  have hmod : ∀ x, x < p.ps.length → (x + t) % p.ps.length < p.ps.length := fun x hx => Nat.mod_lt _ (by omega)
  have hg : ∀ x, x < p.ps.length → (rotL l p.ps.length t)[x]?.getD 0 = l[(x + t) % p.ps.length]?.getD 0 := fun x hx => rotL_get hx
  have ec : ∀ x, x < p.ps.length → chgF q (rotL l p.ps.length t) x = chgF p l ((x + t) % p.ps.length) := fun x hx => by
    rw [chgF_eq, chgF_eq, h x hx, rotL_get hx]
  have hI : IsP q (rotL l p.ps.length t) := by
    refine ⟨by rw [hl1, hlen], fun x hx => ?_, ?_, ?_⟩
    · rw [hl1] at hx
      have := hl.2.1 ((x + t) % p.ps.length) (by rw [hl.1]; exact hmod x hx)
      have e := h x hx
      simp only [pcA] at e
      rw [e, hg x hx]; exact this
    · intro r hr
      rw [h2] at hr ⊢
      rw [← hl.2.2.1 r hr, hl1, hl.1, ← sum_rot (rowF p l r) p.ps.length t]
      refine sumTo_congr fun x hx => ?_
      have e := h x hx
      simp only [pcA] at e
      unfold rowF
      rw [e, hg x hx]
    · intro r hr
      rw [h3] at hr ⊢
      rw [← hl.2.2.2 r hr, hl1, hl.1, ← sum_rot (colF p l r) p.ps.length t]
      refine sumTo_congr fun x hx => ?_
      have e := h x hx
      simp only [pcA] at e
      unfold colF
      rw [e, hg x hx]
  refine ⟨hI, ?_, ?_, ?_, rotL_get hj⟩
  · unfold sumC
    rw [hlen, ← sum_rot (chgF p l) p.ps.length t]
    exact sumTo_congr ec
  · have a1 := many_sum hq hI
    have a2 := many_sum hp hl
    rw [hl1] at a1
    rw [hl.1, ← sum_rot (manyF p l) p.ps.length t] at a2
    have : sumTo (manyF q (rotL l p.ps.length t)) p.ps.length = sumTo (fun x => manyF p l ((x + t) % p.ps.length)) p.ps.length := sumTo_congr fun x hx => by
      unfold manyF; rw [ec x hx]
    rw [this] at a1
    omega
  · intro n hn x hx
    rw [hlen] at hx
    rw [ec x hx]
    exact hn _ (hmod x hx)

theorem rot_back {N t x : Nat} (hx : x < N) : ((x + (N - t % N)) % N + t) % N = x := by
  have ht : t % N < N := Nat.mod_lt _ (by omega)
  have h1 : ((x + (N - t % N)) % N + t) % N = (x + (N - t % N) + t) % N := Nat.mod_add_mod _ _ _
  have h2 : t = N * (t / N) + t % N := (Nat.div_add_mod t N).symm
  rw [h1]
  have h3 : x + (N - t % N) + t = x + N + N * (t / N) := by omega
  rw [h3, Nat.add_mul_mod_self_left, Nat.add_mod_right, Nat.mod_eq_of_lt hx]

end Go.Proofs.Ytgcmjidphcafnaa

namespace Go.Proofs.Ytgcmjidphcafnaa
open Go Go.Abs

set_option maxHeartbeats 4000000
set_option maxRecDepth 100000

theorem least25_bad (p : Plat) (h0 : p.ps.length ≤ 1000) (h1 : p.rows.length ≤ 1000) (h2 : p.cols.length ≤ 1000) (hp : ¬ PlatOk p) : Pure Try.prog 25 [encPlat p] (.tup [encI 0, encI 60]) := by
  have h := adjust_bad p h0 h1 h2 hp
  refine pure_of (fn := Try.f25) [.tmp 2, .tmp 3] ⟨Try.func25, rfl, by kernel_rfl⟩ (by kernel_rfl) (by kernel_rfl) (by kernel_rfl) fun x hx hσ => ?_
  repeat refine awp_seq ?_
  refine awp_reg1 (by rw [hx]; kernel_rfl) fun K hK => ?_
  simp (config := { maxSteps := 1000000 }) [ty25, ty30, ty3]
  refine hK _ ?_
  clear hK K
  first | show AWP _ _ _ _ _ | show ∃ _, _ | skip
  repeat refine awp_seq ?_
  refine awp_reg1 (by rw [hx]; kernel_rfl) fun K hK => ?_
  simp (config := { maxSteps := 1000000 }) [ty25]
  refine callP (h) (by first | (simp; done) | (simp [*]; done)) ?_
  simp (config := { maxSteps := 1000000 }) []
  refine hK _ ?_
  clear hK K
  first | show AWP _ _ _ _ _ | show ∃ _, _ | skip
  repeat refine awp_seq ?_
  refine awp_reg1 (by rw [hx]; kernel_rfl) fun K hK => ?_
  simp (config := { maxSteps := 1000000 }) [ty23]
  refine hK _ ?_
  clear hK K
  first | show AWP _ _ _ _ _ | show ∃ _, _ | skip
  repeat refine awp_seq ?_
  refine awp_block ?_
  refine awp_loop (fun _ : Nat => ⟨ofL [(1, .ptr 1 3 0 0), (2, encI 0), (3, encI 60), (12, .sl true true []), (13, encI 0), (14, encI 0)], stoT [(1, 1, .live (obPlat p))]⟩)
    (fun _ => True) (fun _ => 0) 0 (by simp) ?_ ?_
  · refine wk_shape (shp0 hσ (by simp) (by simp) ?_) ?_
    · simp [SlotOk]; exact .same (plat_pure p)
    · simp [mtc, mtl, mT, C.isPure, purel]
  · intro i hi
    repeat refine awp_seq ?_
    refine awp_reg1 (by rw [hx]; kernel_rfl) fun K hK => ?_
    simp (config := { maxSteps := 1000000 }) [ty3]
    refine hK _ ?_
    clear hK K
    first | show AWP _ _ _ _ _ | show ∃ _, _ | skip
    repeat refine awp_seq ?_
    refine awp_cond (by simp; rfl) (by rw [hx]; simp) (fun hc => ?_) (fun hc => ?_)
    · simp at hc
    · repeat refine awp_seq ?_
      refine awp_exit ?_
      first | show AWP _ _ _ _ _ | show ∃ _, _ | skip
      repeat refine awp_seq ?_
      refine awp_reg1 (by rw [hx]; kernel_rfl) fun K hK => ?_
      simp (config := { maxSteps := 1000000 }) []
      refine hK _ ?_
      clear hK K
      first | show AWP _ _ _ _ _ | show ∃ _, _ | skip
      repeat refine awp_seq ?_
      refine awp_ret ?_
      refine And.intro (Or.inr rfl) ?_
      simp [retC, resC, viewC, mapO]

theorem even67_bad (p : Plat) (h0 : p.ps.length ≤ 1000) (h1 : p.rows.length ≤ 1000) (h2 : p.cols.length ≤ 1000) (hp : ¬ PlatOk p) : Pure Try.prog 67 [encPlat p] (.tup [encI 0, .sl true true [], encI 60]) := by
  have hc := check33 p h0 h1 h2
  rw [if_neg hp] at hc
  refine pure_of (fn := Try.f67) [.tmp 2, .tmp 3, .tmp 4] ⟨Try.func67, rfl, by kernel_rfl⟩ (by kernel_rfl) (by kernel_rfl) (by kernel_rfl) fun x hx hσ => ?_
  repeat refine awp_seq ?_
  refine awp_reg1 (by rw [hx]; kernel_rfl) fun K hK => ?_
  simp (config := { maxSteps := 1000000 }) [ty25, ty30, ty3]
  refine hK _ ?_
  clear hK K
  first | show AWP _ _ _ _ _ | show ∃ _, _ | skip
  repeat refine awp_seq ?_
  refine awp_reg1 (by rw [hx]; kernel_rfl) fun K hK => ?_
  simp (config := { maxSteps := 1000000 }) [ty25]
  refine callP (hc) (by first | (simp; done) | (simp [*]; done)) ?_
  simp (config := { maxSteps := 1000000 }) []
  refine hK _ ?_
  clear hK K
  first | show AWP _ _ _ _ _ | show ∃ _, _ | skip
  repeat refine awp_seq ?_
  refine awp_reg1 (by rw [hx]; kernel_rfl) fun K hK => ?_
  simp (config := { maxSteps := 1000000 }) [ty30, ty3]
  refine hK _ ?_
  clear hK K
  first | show AWP _ _ _ _ _ | show ∃ _, _ | skip
  repeat refine awp_seq ?_
  refine awp_cond (by simp; rfl) (by rw [hx]; simp) (fun hd => ?_) (fun hd => ?_)
  · repeat refine awp_seq ?_
    refine awp_reg1 (by rw [hx]; kernel_rfl) fun K hK => ?_
    simp (config := { maxSteps := 1000000 }) []
    refine hK _ ?_
    clear hK K
    first | show AWP _ _ _ _ _ | show ∃ _, _ | skip
    repeat refine awp_seq ?_
    refine awp_ret ?_
    refine And.intro (Or.inr rfl) ?_
    simp [retC, resC, viewC, mapO]
  · simp at hd

theorem few38_bad (p : Plat) (h0 : p.ps.length ≤ 1000) (h1 : p.rows.length ≤ 1000) (h2 : p.cols.length ≤ 1000) (hp : ¬ PlatOk p) : Pure Try.prog 38 [encPlat p] (.tup [encI 0, encI 60]) := by
  have hc := check33 p h0 h1 h2
  rw [if_neg hp] at hc
  refine pure_of (fn := Try.f38) [.tmp 2, .tmp 3] ⟨Try.func38, rfl, by kernel_rfl⟩ (by kernel_rfl) (by kernel_rfl) (by kernel_rfl) fun x hx hσ => ?_
  repeat refine awp_seq ?_
  refine awp_reg1 (by rw [hx]; kernel_rfl) fun K hK => ?_
  simp (config := { maxSteps := 1000000 }) [ty25, ty30, ty3]
  refine hK _ ?_
  clear hK K
  first | show AWP _ _ _ _ _ | show ∃ _, _ | skip
  repeat refine awp_seq ?_
  refine awp_reg1 (by rw [hx]; kernel_rfl) fun K hK => ?_
  simp (config := { maxSteps := 1000000 }) [ty25]
  refine callP (hc) (by first | (simp; done) | (simp [*]; done)) ?_
  simp (config := { maxSteps := 1000000 }) []
  refine hK _ ?_
  clear hK K
  first | show AWP _ _ _ _ _ | show ∃ _, _ | skip
  repeat refine awp_seq ?_
  refine awp_reg1 (by rw [hx]; kernel_rfl) fun K hK => ?_
  simp (config := { maxSteps := 1000000 }) [ty30, ty3]
  refine hK _ ?_
  clear hK K
  first | show AWP _ _ _ _ _ | show ∃ _, _ | skip
  repeat refine awp_seq ?_
  refine awp_cond (by simp; rfl) (by rw [hx]; simp) (fun hd => ?_) (fun hd => ?_)
  · repeat refine awp_seq ?_
    refine awp_reg1 (by rw [hx]; kernel_rfl) fun K hK => ?_
    simp (config := { maxSteps := 1000000 }) []
    refine hK _ ?_
    clear hK K
    first | show AWP _ _ _ _ _ | show ∃ _, _ | skip
    repeat refine awp_seq ?_
    refine awp_ret ?_
    refine And.intro (Or.inr rfl) ?_
    simp [retC, resC, viewC, mapO]
  · simp at hd

theorem maxTo_le {f : Nat → Int} {b : Int} (hb : 0 ≤ b) : ∀ {n : Nat}, (∀ i, i < n → f i ≤ b) → maxTo f n ≤ b
  | 0, _ => hb
  | n + 1, h => by
    have ih := maxTo_le hb (n := n) fun i hi => h i (by omega)
    have := h n (by omega)
    simp only [maxTo]; omega

theorem isP_Bd {p : Plat} (hp : PlatOk p) {l : List Int} (h : IsP p l) : Bd l := bd_of_ends hp h.1 fun i hi => h.2.1 i hi

/-- Least, Worst and Few of the reference, of a plat that can be settled. -/
theorem ref3_fe (p : Plat) (hp : PlatOk p) (hf : ¬ FarP p) (hn : Fe p) {s n : Int} {k : Nat} (hs : MinS p s) (hw : MinW p n) (hk : MinF p k) :
    Pure Try.prog 40 [encPlat p] (.tup [encI s, encI 0]) ∧ Pure Try.prog 41 [encPlat p] (.tup [encI n, encI 0]) ∧ Pure Try.prog 42 [encPlat p] (.tup [encI k, encI 0]) := by
  obtain ⟨nl, fu, fl, h1, h2, h3, h4⟩ := kn_fe p hp hf hn
  have h8 := hp.n8
  have hP : ∀ i, ∀ h : i < fl.length, IsP p (fl[i]).2.2 := fun i h => (h3 _).2 ⟨i, h, rfl⟩
  have a40 := loop40 p nl fu fl (fun l => sumTo (chgF p l) l.length) h2 h4 fun i h => sum_c p _ _ _ (by have := (hP i h).1; omega) (by omega) hp.ps (isP_Bd hp (hP i h))
  have a41 := loop41 p nl fu fl (fun l => maxTo (chgF p l) l.length) h2 h4 fun i h => most_c p _ _ _ (by have := (hP i h).1; omega) (by omega) hp.ps (isP_Bd hp (hP i h))
  have a42 := loop42 p nl fu fl (fun l => sumTo (manyF p l) l.length) h2 h4 fun i h => many_c p _ _ _ (by have := (hP i h).1; omega) (by omega) hp.ps (isP_Bd hp (hP i h))
  have eS : ∀ l, IsP p l → sumTo (chgF p l) l.length = sumC p l := fun l hl => by unfold sumC; rw [hl.1]
  refine ⟨?_, ?_, ?_⟩
  · obtain ⟨⟨i, hi, e⟩, g⟩ := bestTo_min (fun l => sumTo (chgF p l) l.length) fl fl.length h1 (Nat.le_refl _)
    have : bestTo (fun l => sumTo (chgF p l) l.length) fl fl.length = s := by
      rw [← e]
      obtain ⟨⟨l, hl, hls⟩, hmin⟩ := hs
      obtain ⟨j, hj, rfl⟩ := (h3 l).1 hl
      have g1 := g j hj hj
      have g2 := hmin _ (hP i hi)
      rw [← e] at g1
      try simp only at g1 ⊢
      rw [eS _ (hP i hi)] at g1 ⊢
      rw [eS _ hl] at g1
      omega
    rw [this] at a40
    exact a40
  · obtain ⟨⟨i, hi, e⟩, g⟩ := bestTo_min (fun l => maxTo (chgF p l) l.length) fl fl.length h1 (Nat.le_refl _)
    have : bestTo (fun l => maxTo (chgF p l) l.length) fl fl.length = n := by
      rw [← e]
      obtain ⟨hn0, ⟨l, hl, hls⟩, hmin⟩ := hw
      obtain ⟨j, hj, rfl⟩ := (h3 l).1 hl
      have g1 := g j hj hj
      rw [← e] at g1
      try simp only at g1 ⊢
      have g2 := hmin _ (maxTo (chgF p (fl[i]).2.2) (fl[i]).2.2.length) (hP i hi) (maxTo_nn _) fun x hx => (maxTo_ge (f := chgF p (fl[i]).2.2) (by rw [(hP i hi).1]; exact hx)).1
      have g3 := maxTo_le (f := chgF p (fl[j]).2.2) (b := n) hn0 (n := (fl[j]).2.2.length) fun x hx => hls x (by rw [hl.1] at hx; exact hx)
      omega
    rw [this] at a41
    exact a41
  · obtain ⟨⟨i, hi, e⟩, g⟩ := bestTo_min (fun l => sumTo (manyF p l) l.length) fl fl.length h1 (Nat.le_refl _)
    have : bestTo (fun l => sumTo (manyF p l) l.length) fl fl.length = k := by
      rw [← e]
      obtain ⟨⟨l, hl, hls⟩, hmin⟩ := hk
      obtain ⟨j, hj, rfl⟩ := (h3 l).1 hl
      have g1 := g j hj hj
      have g2 := hmin _ (hP i hi)
      rw [← e] at g1
      try simp only at g1 ⊢
      rw [many_sum hp (hP i hi)] at g1 ⊢
      rw [many_sum hp hl] at g1
      omega
    rw [this] at a42
    exact a42

theorem ref3_no (p : Plat) (e : Int) (h : Pure Try.prog 60 [encPlat p, .bool true] (.tup [.sl true true [], encI e])) :
    Pure Try.prog 40 [encPlat p] (.tup [encI 0, encI e]) ∧ Pure Try.prog 41 [encPlat p] (.tup [encI 0, encI e]) ∧ Pure Try.prog 42 [encPlat p] (.tup [encI 0, encI e]) := ⟨no40 p e h, no41 p e h, no42 p e h⟩

/-- Range and Fixed of the reference. -/
theorem ref_range (p : Plat) (hp : PlatOk p) (hf : ¬ FarP p) (k : Nat) (hk : k < p.ps.length) (a b : Int) (h : RangeP p k a b) : Pure Try.prog 29 [encPlat p, encI k] (.tup [.agg [encI a, encI b], encI 0]) := by
  have hn : Fe p := by obtain ⟨l, hl, _⟩ := h.1; exact ⟨l, hl⟩
  obtain ⟨nl, fu, fl, h1, h2, h3, h4⟩ := kn_fe p hp hf hn
  have hP : ∀ i, ∀ h : i < fl.length, IsP p (fl[i]).2.2 := fun i h => (h3 _).2 ⟨i, h, rfl⟩
  have h29 := range29_fe p k hk hp nl fu fl h2 (fun i h => (hP i h).1) h4
  have eA : bestTo (fun l => Flow.gi l k) fl fl.length = a := by
    obtain ⟨⟨i, hi, e⟩, g⟩ := bestTo_min (fun l => Flow.gi l k) fl fl.length h1 (Nat.le_refl _)
    obtain ⟨l, hl, hla⟩ := h.1
    obtain ⟨j, hj, rfl⟩ := (h3 l).1 hl
    have g1 := g j hj hj
    have g2 := (h.2.2 _ (hP i hi)).1
    try simp only at g1 e
    omega
  have eB : -(bestTo (fun l => -Flow.gi l k) fl fl.length) = b := by
    obtain ⟨⟨i, hi, e⟩, g⟩ := bestTo_min (fun l => -Flow.gi l k) fl fl.length h1 (Nat.le_refl _)
    obtain ⟨l, hl, hla⟩ := h.2.1
    obtain ⟨j, hj, rfl⟩ := (h3 l).1 hl
    have g1 := g j hj hj
    have g2 := (h.2.2 _ (hP i hi)).2
    try simp only at g1 e
    omega
  rw [eA, eB] at h29
  exact h29

theorem ref_fixed (p : Plat) (hp : PlatOk p) (hf : ¬ FarP p) (hn : Fe p) (a b : Nat → Int) (h : ∀ k, k < p.ps.length → RangeP p k (a k) (b k)) :
    Pure Try.prog 31 [encPlat p] (.tup [.sl (fixTo (fun k => a k == b k) p.ps.length).isEmpty false ((fixTo (fun k => a k == b k) p.ps.length).map cI), encI 0]) := by
  obtain ⟨nl, fu, fl, h1, h2, h3, h4⟩ := kn_fe p hp hf hn
  have hP : ∀ i, ∀ h : i < fl.length, IsP p (fl[i]).2.2 := fun i h => (h3 _).2 ⟨i, h, rfl⟩
  have h31 := fixed31_fe p hp nl fu fl h1 h2 (fun i h => (hP i h).1) h4
  have eq : ∀ n, n ≤ p.ps.length → fixTo (fun k => sameTo fl k fl.length) n = fixTo (fun k => a k == b k) n := by
    intro n
    induction n with
    | zero => intro _; rfl
    | succ n ih =>
      intro hn
      have e : sameTo fl n fl.length = (a n == b n) := by
        have hr := h n (by omega)
        have e0 : (fl[0]?.getD (false, false, [])) = fl[0] := by simp [h1]
        rw [Bool.eq_iff_iff, sameTo_iff, beq_iff_eq]
        constructor
        · intro hs
          obtain ⟨l, hl, hla⟩ := hr.1
          obtain ⟨j, hj, rfl⟩ := (h3 l).1 hl
          obtain ⟨l2, hl2, hlb⟩ := hr.2.1
          obtain ⟨j2, hj2, rfl⟩ := (h3 l2).1 hl2
          have q1 := hs j hj
          have q2 := hs j2 hj2
          have ej : (fl[j]?.getD (false, false, [])) = fl[j] := by simp [hj]
          have ej2 : (fl[j2]?.getD (false, false, [])) = fl[j2] := by simp [hj2]
          rw [ej] at q1
          rw [ej2] at q2
          omega
        · intro hab i hi
          have ei : (fl[i]?.getD (false, false, [])) = fl[i] := by simp [hi]
          rw [ei, e0]
          have q1 := hr.2.2 _ (hP i hi)
          have q2 := hr.2.2 _ (hP 0 h1)
          omega
      simp only [fixTo, e]
      rw [ih (by omega)]
  rw [eq _ (Nat.le_refl _)] at h31
  exact h31

end Go.Proofs.Ytgcmjidphcafnaa

namespace Go.Proofs.Ytgcmjidphcafnaa
open Go Go.Abs

set_option maxHeartbeats 8000000
set_option maxRecDepth 100000





theorem least10 (p : Plat) (hn : NlOk p) : Pure Try.prog 10 [encPlat p] (.bool true) := by
  by_cases hfar : FarP p
  · have hf := far26 p true (by simp [hfar])
    refine pure_of (fn := Try.f10) [.tmp 2] ⟨Try.func10, rfl, by kernel_rfl⟩ (by kernel_rfl) (by kernel_rfl) (by kernel_rfl) fun x hx hσ => ?_
    repeat refine awp_seq ?_
    refine awp_reg1 (by rw [hx]; kernel_rfl) fun K hK => ?_
    simp (config := { maxSteps := 1000000 }) [ty25]
    refine hK _ ?_
    clear hK K
    first | show AWP _ _ _ _ _ | show ∃ _, _ | skip
    repeat refine awp_seq ?_
    refine awp_reg1 (by rw [hx]; kernel_rfl) fun K hK => ?_
    simp (config := { maxSteps := 1000000 }) [ty25]
    refine callP (hf) (by first | (simp; done) | (simp [*]; done)) ?_
    simp (config := { maxSteps := 1000000 }) []
    refine hK _ ?_
    clear hK K
    first | show AWP _ _ _ _ _ | show ∃ _, _ | skip
    repeat refine awp_seq ?_
    refine awp_cond (by simp; rfl) (by rw [hx]; simp) (fun hd => ?_) (fun hd => ?_)
    · repeat refine awp_seq ?_
      refine awp_reg1 (by rw [hx]; kernel_rfl) fun K hK => ?_
      simp (config := { maxSteps := 1000000 }) []
      refine callP (works14) (by first | (simp; done) | (simp [*]; done)) ?_
      simp (config := { maxSteps := 1000000 }) []
      refine hK _ ?_
      clear hK K
      first | show AWP _ _ _ _ _ | show ∃ _, _ | skip
      repeat refine awp_seq ?_
      refine awp_ret ?_
      refine And.intro (Or.inr rfl) ?_
      simp [retC, resC, viewC, mapO]
    · simp at hd
  · have hf := far26 p false (by simp [hfar])
    have h0 := far_40 hfar
    have w0 : IntKind.i64.wrap 0 = 0 := wrap_id (by omega) (by omega)
    have hcp := copy24 p (by omega) (by omega) (by omega)
    have hsame := same27 p false false false (by omega) (by omega) (by omega)
    by_cases hp : PlatOk p
    · have hq : PlatOk (cpP p.ps p.rows p.cols) := ok_cp.2 hp
      have h8 := hp.n8
      by_cases hfe : Fe p
      · obtain ⟨s, n, m, R⟩ := res4_fe (cpP p.ps p.rows p.cols) hq (by simp) hfe
        have h25 := R.p25
        have h37 := R.p37
        have h38 := R.p38
        obtain ⟨h40, h41, h42⟩ := ref3_fe p hp hfar hfe (s := s) (n := n) (k := m) R.hs R.hw R.hf
        obtain ⟨l1, hl1, hmin, -, h16⟩ := least_fe (cpP p.ps p.rows p.cols) hq hfe
        have hl1' : IsP p l1 := hl1
        have es : sumC p l1 = s := by
          obtain ⟨⟨l, hl, e⟩, g⟩ := R.hs
          have q1 := hmin l hl
          have q2 := g l1 hl1
          have q3 : sumC (cpP p.ps p.rows p.cols) l1 = sumC p l1 := rfl
          omega
        obtain ⟨o, e1, e2⟩ := even_c (cpP p.ps p.rows p.cols) hq (by simp)
        obtain ⟨n', l2, rfl⟩ : ∃ n' l2, o = some (n', l2) := by
          cases o with
          | none => exact absurd (show Fe (cpP p.ps p.rows p.cols) from hfe) (even_none hq e2)
          | some x => exact ⟨x.1, x.2, rfl⟩
        have h43 := even43 (cpP p.ps p.rows p.cols) n' 0 (.sl l2.isEmpty false (l2.map cI)) (by simp [C.isPure]) e1
        have hmw := (minW_of hq e2).2
        have hev := (fe_even hq (n := n') (by have := e2.1; omega)).1 e2.2.1
        have en : (n' : Int) = n := by
          obtain ⟨a0, ⟨a1, a2, a3⟩, a4⟩ := R.hw
          obtain ⟨b0, ⟨b1, b2, b3⟩, b4⟩ := hmw
          have q1 := a4 b1 n' b2 b0 b3
          have q2 := b4 a1 n a2 a0 a3
          omega
        have hl2 : IsP p l2 := hev.1
        have hm2 : maxTo (chgF p l2) l2.length ≤ n := maxTo_le (by rw [← en]; omega) fun i hi => by
          have := hev.2 i (by have := hl2.1; simp; omega)
          rw [en] at this
          exact this
        have len1 : l1.length ≤ 40 := by have := hl1'.1; omega
        have len2 : l2.length ≤ 40 := by have := hl2.1; omega
        have hI1 := is_c p l1.isEmpty false l1 hp (by omega) true (iff_of_true rfl hl1')
        have hI2 := is_c p l2.isEmpty false l2 hp (by omega) true (iff_of_true rfl hl2)
        have hS := sum_c p l1.isEmpty false l1 (by have := hl1'.1; omega) (by omega) hp.ps (isP_Bd hp hl1')
        have eS : sumTo (chgF p l1) l1.length = s := by rw [← es]; unfold sumC; rw [hl1'.1]
        rw [eS] at hS
        have hM := most_c p l2.isEmpty false l2 (by have := hl2.1; omega) (by omega) hp.ps (isP_Bd hp hl2)
        obtain ⟨mm, hmm⟩ : ∃ mm, mm = maxTo (chgF p l2) l2.length := ⟨_, rfl⟩
        rw [← hmm] at hM hm2
        have g1 : ¬ 40 < (l1.length : Int) := by omega
        have g2 : ¬ 40 < (l2.length : Int) := by omega
        have g3 : ¬ 40 < l1.length := by omega
        have g4 : ¬ 40 < l2.length := by omega
        refine pure_of (fn := Try.f10) [.tmp 2] ⟨Try.func10, rfl, by kernel_rfl⟩ (by kernel_rfl) (by kernel_rfl) (by kernel_rfl) fun x hx hσ => ?_
        repeat refine awp_seq ?_
        refine awp_reg1 (by rw [hx]; kernel_rfl) fun K hK => ?_
        simp (config := { maxSteps := 1000000 }) [ty25]
        refine hK _ ?_
        clear hK K
        first | show AWP _ _ _ _ _ | show ∃ _, _ | skip
        repeat refine awp_seq ?_
        refine awp_reg1 (by rw [hx]; kernel_rfl) fun K hK => ?_
        simp (config := { maxSteps := 1000000 }) [ty25]
        refine callP (hf) (by first | (simp; done) | (simp [*]; done)) ?_
        simp (config := { maxSteps := 1000000 }) []
        refine hK _ ?_
        clear hK K
        first | show AWP _ _ _ _ _ | show ∃ _, _ | skip
        repeat refine awp_seq ?_
        refine awp_cond (by simp; rfl) (by rw [hx]; simp) (fun hd => ?_) (fun hd => ?_)
        · simp at hd
        clear hd
        refine awp_skip ?_
        first | show AWP _ _ _ _ _ | show ∃ _, _ | skip
        repeat refine awp_seq ?_
        refine awp_reg1 (by rw [hx]; kernel_rfl) fun K hK => ?_
        simp (config := { maxSteps := 1000000 }) [ty25]
        refine makesL 5001 hcp ?_ ?_
        · intro q h1 h2
          have e1 : q ≠ 1 := by omega
          simp [e1]
        simp [ty25]
        refine hK _ ?_
        clear hK K
        first | show AWP _ _ _ _ _ | show ∃ _, _ | skip
        refine AWP.weak (t := ⟨ofL [(1, .ptr 1 3 0 0), (3, .ptr 3 3 0 0)], stoT [(1, 1, .live (obPlat p)), (3, 3, .live (platBox 5001 p)), (5001, 5001, .live (pcsOb true p.ps)), (5002, 5002, .live (clOb p.rows true)), (5003, 5003, .live (clOb p.cols true))]⟩) ?_ ?_
        rotate_left
        · refine wk_shape (shp0 hσ (by simp) (by simp) ?_) ?_
          · simp [SlotOk]
            refine ⟨.same (plat_pure p), rowsOk_box (by simp [mtc, mT]) (by simp [mtc, mT]) (by simp [mtc, mT]) rfl rfl rfl, .same (pcs_pure _), .same (ints_pure _), .same (ints_pure _)⟩
          · simp [mtc, mtl, mT, C.isPure, purel]
        refine AWP.weak ?_ (wk_frzCell 5001 3 0 0 (o := pcsOb true p.ps) (oq := ⟨false, false, 3, [[.own 5001 4 0 p.ps.length, .own 5002 1 0 p.rows.length, .own 5003 1 0 p.cols.length]]⟩) (row := [.own 5001 4 0 p.ps.length, .own 5002 1 0 p.rows.length, .own 5003 1 0 p.cols.length]) (c := .own 5001 4 0 p.ps.length) (c' := .sl false false (p.ps.map cP)) (by simp) (pcs_pure _) (by simp) (by omega) rfl rfl rfl (fz_own rfl (by simp) (by simp)) rfl)
        refine AWP.weak ?_ (wk_frzCell 5002 3 0 1 (o := clOb p.rows true) (oq := ⟨false, false, 3, [[.sl false false (p.ps.map cP), .own 5002 1 0 p.rows.length, .own 5003 1 0 p.cols.length]]⟩) (row := [.sl false false (p.ps.map cP), .own 5002 1 0 p.rows.length, .own 5003 1 0 p.cols.length]) (c := .own 5002 1 0 p.rows.length) (c' := .sl false false (p.rows.map cI)) (by simp) (ints_pure _) (by simp) (by omega) rfl rfl rfl (fz_own rfl (by simp) (by simp)) rfl)
        refine AWP.weak ?_ (wk_frzCell 5003 3 0 2 (o := clOb p.cols true) (oq := ⟨false, false, 3, [[.sl false false (p.ps.map cP), .sl false false (p.rows.map cI), .own 5003 1 0 p.cols.length]]⟩) (row := [.sl false false (p.ps.map cP), .sl false false (p.rows.map cI), .own 5003 1 0 p.cols.length]) (c := .own 5003 1 0 p.cols.length) (c' := .sl false false (p.cols.map cI)) (by simp) (ints_pure _) (by simp) (by omega) rfl rfl rfl (fz_own rfl (by simp) (by simp)) rfl)
        refine AWP.weak (t := ⟨ofL [(1, .ptr 1 3 0 0), (3, .ptr 3 3 0 0)], stoT [(1, 1, .live (obPlat p)), (3, 3, .live (obPlat (cpP p.ps p.rows p.cols)))]⟩) ?_ ?_
        rotate_left
        · refine wk_shape (shp0 hσ (by simp) (by simp) ?_) ?_
          · simp [SlotOk]
            exact ⟨.same (plat_pure p), .same (plat_pure (cpP p.ps p.rows p.cols))⟩
          · simp [mtc, mtl, mT, C.isPure, purel]
        repeat refine awp_seq ?_
        refine awp_reg1 (by rw [hx]; kernel_rfl) fun K hK => ?_
        simp (config := { maxSteps := 1000000 }) [ty25]
        refine callP (h25) (by first | (simp; done) | (simp [*]; done)) ?_
        simp (config := { maxSteps := 1000000 }) []
        refine hK _ ?_
        clear hK K
        first | show AWP _ _ _ _ _ | show ∃ _, _ | skip
        repeat refine awp_seq ?_
        refine awp_reg1 (by rw [hx]; kernel_rfl) fun K hK => ?_
        simp (config := { maxSteps := 1000000 }) [ty25]
        refine callP (h40) (by first | (simp; done) | (simp [*]; done)) ?_
        simp (config := { maxSteps := 1000000 }) []
        refine hK _ ?_
        clear hK K
        first | show AWP _ _ _ _ _ | show ∃ _, _ | skip
        repeat refine awp_seq ?_
        refine awp_reg1 (by rw [hx]; kernel_rfl) fun K hK => ?_
        simp (config := { maxSteps := 1000000 }) [ty25]
        refine callP (h37) (by first | (simp; done) | (simp [*]; done)) ?_
        simp (config := { maxSteps := 1000000 }) []
        refine hK _ ?_
        clear hK K
        first | show AWP _ _ _ _ _ | show ∃ _, _ | skip
        repeat refine awp_seq ?_
        refine awp_reg1 (by rw [hx]; kernel_rfl) fun K hK => ?_
        simp (config := { maxSteps := 1000000 }) [ty25]
        refine callP (h41) (by first | (simp; done) | (simp [*]; done)) ?_
        simp (config := { maxSteps := 1000000 }) []
        refine hK _ ?_
        clear hK K
        first | show AWP _ _ _ _ _ | show ∃ _, _ | skip
        repeat refine awp_seq ?_
        refine awp_reg1 (by rw [hx]; kernel_rfl) fun K hK => ?_
        simp (config := { maxSteps := 1000000 }) [ty25]
        refine callP (h38) (by first | (simp; done) | (simp [*]; done)) ?_
        simp (config := { maxSteps := 1000000 }) []
        refine hK _ ?_
        clear hK K
        first | show AWP _ _ _ _ _ | show ∃ _, _ | skip
        repeat refine awp_seq ?_
        refine awp_reg1 (by rw [hx]; kernel_rfl) fun K hK => ?_
        simp (config := { maxSteps := 1000000 }) [ty25]
        refine callP (h42) (by first | (simp; done) | (simp [*]; done)) ?_
        simp (config := { maxSteps := 1000000 }) []
        refine hK _ ?_
        clear hK K
        first | show AWP _ _ _ _ _ | show ∃ _, _ | skip
        repeat refine awp_seq ?_
        refine awp_reg1 (by rw [hx]; kernel_rfl) fun K hK => ?_
        simp (config := { maxSteps := 1000000 }) [ty25]
        refine callP (h16) (by first | (simp; done) | (simp [*]; done)) ?_
        simp (config := { maxSteps := 1000000 }) []
        refine hK _ ?_
        clear hK K
        first | show AWP _ _ _ _ _ | show ∃ _, _ | skip
        repeat refine awp_seq ?_
        refine awp_reg1 (by rw [hx]; kernel_rfl) fun K hK => ?_
        simp (config := { maxSteps := 1000000 }) [ty25]
        refine callP (h43) (by first | (simp; done) | (simp [*]; done)) ?_
        simp (config := { maxSteps := 1000000 }) []
        refine hK _ ?_
        clear hK K
        first | show AWP _ _ _ _ _ | show ∃ _, _ | skip
        repeat refine awp_seq ?_
        refine awp_reg1 (by rw [hx]; kernel_rfl) fun K hK => ?_
        simp (config := { maxSteps := 1000000 }) [ty25, ty23, ty3, ty30, g1, g2, g3, g4]
        refine callP (hsame) (by first | (simp; done) | (simp [*]; done)) ?_
        simp (config := { maxSteps := 1000000 }) [ty25, ty4]
        refine hK _ ?_
        clear hK K
        first | show AWP _ _ _ _ _ | show ∃ _, _ | skip
        repeat refine awp_seq ?_
        refine awp_cond (by simp; rfl) (by rw [hx]; simp) (fun hd => ?_) (fun hd => ?_)
        · simp at hd
        clear hd
        refine awp_skip ?_
        first | show AWP _ _ _ _ _ | show ∃ _, _ | skip
        repeat refine awp_seq ?_
        refine awp_reg1 (by rw [hx]; kernel_rfl) fun K hK => ?_
        simp (config := { maxSteps := 1000000 }) [ty30]
        refine hK _ ?_
        clear hK K
        first | show AWP _ _ _ _ _ | show ∃ _, _ | skip
        repeat refine awp_seq ?_
        refine awp_cond (by simp; rfl) (by rw [hx]; simp) (fun hd => ?_) (fun hd => ?_)
        · simp at hd
        · refine awp_skip ?_
          first | show AWP _ _ _ _ _ | show ∃ _, _ | skip
          repeat refine awp_seq ?_
          refine awp_reg1 (by rw [hx]; kernel_rfl) fun K hK => ?_
          simp (config := { maxSteps := 1000000 }) [ty25, ty23, ty3, ty4]
          refine callP (hI1) (by first | (simp; done) | (simp [*]; done)) ?_
          simp (config := { maxSteps := 1000000 }) [ty25, ty23, ty3, ty4]
          refine callP (hS) (by first | (simp; done) | (simp [*]; done)) ?_
          simp (config := { maxSteps := 1000000 }) [ty25, ty23, ty3, ty4]
          refine callP (hI2) (by first | (simp; done) | (simp [*]; done)) ?_
          simp (config := { maxSteps := 1000000 }) [ty25, ty23, ty3, ty4]
          refine callP (hM) (by first | (simp; done) | (simp [*]; done)) ?_
          simp (config := { maxSteps := 1000000 }) [ty25, ty23, ty3, ty4, hm2]
          refine callP (works14) (by first | (simp; done) | (simp [*]; done)) ?_
          simp (config := { maxSteps := 1000000 }) []
          refine hK _ ?_
          clear hK K
          first | show AWP _ _ _ _ _ | show ∃ _, _ | skip
          repeat refine awp_seq ?_
          refine awp_ret ?_
          refine And.intro (Or.inr rfl) ?_
          simp [retC, resC, viewC, mapO]
      · obtain ⟨h25, h37, h38⟩ := res4_no (cpP p.ps p.rows p.cols) hq (by simp) hfe
        obtain ⟨h40, h41, h42⟩ := ref3_no p 3 (kn_no p hp hfar hfe)
        have h16 := (least_no (cpP p.ps p.rows p.cols) hq hfe).2
        obtain ⟨o, e1, e2⟩ := even_c (cpP p.ps p.rows p.cols) hq (by simp)
        obtain rfl : o = none := by
          cases o with
          | none => rfl
          | some x =>
            have := (fe_even hq (n := x.1) (by have := e2.1; omega)).1 e2.2.1
            exact absurd ⟨_, this.1⟩ hfe
        have h43 := even43 (cpP p.ps p.rows p.cols) 0 3 (.sl true true []) (by simp [C.isPure, purel]) e1
        refine pure_of (fn := Try.f10) [.tmp 2] ⟨Try.func10, rfl, by kernel_rfl⟩ (by kernel_rfl) (by kernel_rfl) (by kernel_rfl) fun x hx hσ => ?_
        repeat refine awp_seq ?_
        refine awp_reg1 (by rw [hx]; kernel_rfl) fun K hK => ?_
        simp (config := { maxSteps := 1000000 }) [ty25]
        refine hK _ ?_
        clear hK K
        first | show AWP _ _ _ _ _ | show ∃ _, _ | skip
        repeat refine awp_seq ?_
        refine awp_reg1 (by rw [hx]; kernel_rfl) fun K hK => ?_
        simp (config := { maxSteps := 1000000 }) [ty25]
        refine callP (hf) (by first | (simp; done) | (simp [*]; done)) ?_
        simp (config := { maxSteps := 1000000 }) []
        refine hK _ ?_
        clear hK K
        first | show AWP _ _ _ _ _ | show ∃ _, _ | skip
        repeat refine awp_seq ?_
        refine awp_cond (by simp; rfl) (by rw [hx]; simp) (fun hd => ?_) (fun hd => ?_)
        · simp at hd
        clear hd
        refine awp_skip ?_
        first | show AWP _ _ _ _ _ | show ∃ _, _ | skip
        repeat refine awp_seq ?_
        refine awp_reg1 (by rw [hx]; kernel_rfl) fun K hK => ?_
        simp (config := { maxSteps := 1000000 }) [ty25]
        refine makesL 5001 hcp ?_ ?_
        · intro q h1 h2
          have e1 : q ≠ 1 := by omega
          simp [e1]
        simp [ty25]
        refine hK _ ?_
        clear hK K
        first | show AWP _ _ _ _ _ | show ∃ _, _ | skip
        refine AWP.weak (t := ⟨ofL [(1, .ptr 1 3 0 0), (3, .ptr 3 3 0 0)], stoT [(1, 1, .live (obPlat p)), (3, 3, .live (platBox 5001 p)), (5001, 5001, .live (pcsOb true p.ps)), (5002, 5002, .live (clOb p.rows true)), (5003, 5003, .live (clOb p.cols true))]⟩) ?_ ?_
        rotate_left
        · refine wk_shape (shp0 hσ (by simp) (by simp) ?_) ?_
          · simp [SlotOk]
            refine ⟨.same (plat_pure p), rowsOk_box (by simp [mtc, mT]) (by simp [mtc, mT]) (by simp [mtc, mT]) rfl rfl rfl, .same (pcs_pure _), .same (ints_pure _), .same (ints_pure _)⟩
          · simp [mtc, mtl, mT, C.isPure, purel]
        refine AWP.weak ?_ (wk_frzCell 5001 3 0 0 (o := pcsOb true p.ps) (oq := ⟨false, false, 3, [[.own 5001 4 0 p.ps.length, .own 5002 1 0 p.rows.length, .own 5003 1 0 p.cols.length]]⟩) (row := [.own 5001 4 0 p.ps.length, .own 5002 1 0 p.rows.length, .own 5003 1 0 p.cols.length]) (c := .own 5001 4 0 p.ps.length) (c' := .sl false false (p.ps.map cP)) (by simp) (pcs_pure _) (by simp) (by omega) rfl rfl rfl (fz_own rfl (by simp) (by simp)) rfl)
        refine AWP.weak ?_ (wk_frzCell 5002 3 0 1 (o := clOb p.rows true) (oq := ⟨false, false, 3, [[.sl false false (p.ps.map cP), .own 5002 1 0 p.rows.length, .own 5003 1 0 p.cols.length]]⟩) (row := [.sl false false (p.ps.map cP), .own 5002 1 0 p.rows.length, .own 5003 1 0 p.cols.length]) (c := .own 5002 1 0 p.rows.length) (c' := .sl false false (p.rows.map cI)) (by simp) (ints_pure _) (by simp) (by omega) rfl rfl rfl (fz_own rfl (by simp) (by simp)) rfl)
        refine AWP.weak ?_ (wk_frzCell 5003 3 0 2 (o := clOb p.cols true) (oq := ⟨false, false, 3, [[.sl false false (p.ps.map cP), .sl false false (p.rows.map cI), .own 5003 1 0 p.cols.length]]⟩) (row := [.sl false false (p.ps.map cP), .sl false false (p.rows.map cI), .own 5003 1 0 p.cols.length]) (c := .own 5003 1 0 p.cols.length) (c' := .sl false false (p.cols.map cI)) (by simp) (ints_pure _) (by simp) (by omega) rfl rfl rfl (fz_own rfl (by simp) (by simp)) rfl)
        refine AWP.weak (t := ⟨ofL [(1, .ptr 1 3 0 0), (3, .ptr 3 3 0 0)], stoT [(1, 1, .live (obPlat p)), (3, 3, .live (obPlat (cpP p.ps p.rows p.cols)))]⟩) ?_ ?_
        rotate_left
        · refine wk_shape (shp0 hσ (by simp) (by simp) ?_) ?_
          · simp [SlotOk]
            exact ⟨.same (plat_pure p), .same (plat_pure (cpP p.ps p.rows p.cols))⟩
          · simp [mtc, mtl, mT, C.isPure, purel]
        repeat refine awp_seq ?_
        refine awp_reg1 (by rw [hx]; kernel_rfl) fun K hK => ?_
        simp (config := { maxSteps := 1000000 }) [ty25]
        refine callP (h25) (by first | (simp; done) | (simp [*]; done)) ?_
        simp (config := { maxSteps := 1000000 }) []
        refine hK _ ?_
        clear hK K
        first | show AWP _ _ _ _ _ | show ∃ _, _ | skip
        repeat refine awp_seq ?_
        refine awp_reg1 (by rw [hx]; kernel_rfl) fun K hK => ?_
        simp (config := { maxSteps := 1000000 }) [ty25]
        refine callP (h40) (by first | (simp; done) | (simp [*]; done)) ?_
        simp (config := { maxSteps := 1000000 }) []
        refine hK _ ?_
        clear hK K
        first | show AWP _ _ _ _ _ | show ∃ _, _ | skip
        repeat refine awp_seq ?_
        refine awp_reg1 (by rw [hx]; kernel_rfl) fun K hK => ?_
        simp (config := { maxSteps := 1000000 }) [ty25]
        refine callP (h37) (by first | (simp; done) | (simp [*]; done)) ?_
        simp (config := { maxSteps := 1000000 }) []
        refine hK _ ?_
        clear hK K
        first | show AWP _ _ _ _ _ | show ∃ _, _ | skip
        repeat refine awp_seq ?_
        refine awp_reg1 (by rw [hx]; kernel_rfl) fun K hK => ?_
        simp (config := { maxSteps := 1000000 }) [ty25]
        refine callP (h41) (by first | (simp; done) | (simp [*]; done)) ?_
        simp (config := { maxSteps := 1000000 }) []
        refine hK _ ?_
        clear hK K
        first | show AWP _ _ _ _ _ | show ∃ _, _ | skip
        repeat refine awp_seq ?_
        refine awp_reg1 (by rw [hx]; kernel_rfl) fun K hK => ?_
        simp (config := { maxSteps := 1000000 }) [ty25]
        refine callP (h38) (by first | (simp; done) | (simp [*]; done)) ?_
        simp (config := { maxSteps := 1000000 }) []
        refine hK _ ?_
        clear hK K
        first | show AWP _ _ _ _ _ | show ∃ _, _ | skip
        repeat refine awp_seq ?_
        refine awp_reg1 (by rw [hx]; kernel_rfl) fun K hK => ?_
        simp (config := { maxSteps := 1000000 }) [ty25]
        refine callP (h42) (by first | (simp; done) | (simp [*]; done)) ?_
        simp (config := { maxSteps := 1000000 }) []
        refine hK _ ?_
        clear hK K
        first | show AWP _ _ _ _ _ | show ∃ _, _ | skip
        repeat refine awp_seq ?_
        refine awp_reg1 (by rw [hx]; kernel_rfl) fun K hK => ?_
        simp (config := { maxSteps := 1000000 }) [ty25]
        refine callP (h16) (by first | (simp; done) | (simp [*]; done)) ?_
        simp (config := { maxSteps := 1000000 }) []
        refine hK _ ?_
        clear hK K
        first | show AWP _ _ _ _ _ | show ∃ _, _ | skip
        repeat refine awp_seq ?_
        refine awp_reg1 (by rw [hx]; kernel_rfl) fun K hK => ?_
        simp (config := { maxSteps := 1000000 }) [ty25]
        refine callP (h43) (by first | (simp; done) | (simp [*]; done)) ?_
        simp (config := { maxSteps := 1000000 }) []
        refine hK _ ?_
        clear hK K
        first | show AWP _ _ _ _ _ | show ∃ _, _ | skip
        repeat refine awp_seq ?_
        refine awp_reg1 (by rw [hx]; kernel_rfl) fun K hK => ?_
        simp (config := { maxSteps := 1000000 }) [ty25, ty23, ty3, ty30]
        refine callP (hsame) (by first | (simp; done) | (simp [*]; done)) ?_
        simp (config := { maxSteps := 1000000 }) [ty25, ty4]
        refine hK _ ?_
        clear hK K
        first | show AWP _ _ _ _ _ | show ∃ _, _ | skip
        repeat refine awp_seq ?_
        refine awp_cond (by simp; rfl) (by rw [hx]; simp) (fun hd => ?_) (fun hd => ?_)
        · simp at hd
        clear hd
        refine awp_skip ?_
        first | show AWP _ _ _ _ _ | show ∃ _, _ | skip
        repeat refine awp_seq ?_
        refine awp_reg1 (by rw [hx]; kernel_rfl) fun K hK => ?_
        simp (config := { maxSteps := 1000000 }) [ty30]
        refine hK _ ?_
        clear hK K
        first | show AWP _ _ _ _ _ | show ∃ _, _ | skip
        repeat refine awp_seq ?_
        refine awp_cond (by simp; rfl) (by rw [hx]; simp) (fun hd => ?_) (fun hd => ?_)
        · repeat refine awp_seq ?_
          refine awp_reg1 (by rw [hx]; kernel_rfl) fun K hK => ?_
          simp (config := { maxSteps := 1000000 }) [ty23, ty3, w0]
          refine callP (works14) (by first | (simp; done) | (simp [*]; done)) ?_
          simp (config := { maxSteps := 1000000 }) []
          refine hK _ ?_
          clear hK K
          first | show AWP _ _ _ _ _ | show ∃ _, _ | skip
          repeat refine awp_seq ?_
          refine awp_ret ?_
          refine And.intro (Or.inr rfl) ?_
          simp [retC, resC, viewC, mapO]
        · simp at hd
    · have hq : ¬ PlatOk (cpP p.ps p.rows p.cols) := fun h => hp (ok_cp.1 h)
      have h25 := least25_bad (cpP p.ps p.rows p.cols) (by simp; omega) (by simp; omega) (by simp; omega) hq
      have h67 := even67_bad (cpP p.ps p.rows p.cols) (by simp; omega) (by simp; omega) (by simp; omega) hq
      have h37 := worst37 _ 0 60 (.sl true true []) (by simp [C.isPure, purel]) h67
      have h43 := even43 _ 0 60 (.sl true true []) (by simp [C.isPure, purel]) h67
      have h38 := few38_bad (cpP p.ps p.rows p.cols) (by simp; omega) (by simp; omega) (by simp; omega) hq
      have h16 := adjust_bad (cpP p.ps p.rows p.cols) (by simp; omega) (by simp; omega) (by simp; omega) hq
      obtain ⟨h40, h41, h42⟩ := ref3_no p 60 (kn_bad p h0 hp true)
      refine pure_of (fn := Try.f10) [.tmp 2] ⟨Try.func10, rfl, by kernel_rfl⟩ (by kernel_rfl) (by kernel_rfl) (by kernel_rfl) fun x hx hσ => ?_
      repeat refine awp_seq ?_
      refine awp_reg1 (by rw [hx]; kernel_rfl) fun K hK => ?_
      simp (config := { maxSteps := 1000000 }) [ty25]
      refine hK _ ?_
      clear hK K
      first | show AWP _ _ _ _ _ | show ∃ _, _ | skip
      repeat refine awp_seq ?_
      refine awp_reg1 (by rw [hx]; kernel_rfl) fun K hK => ?_
      simp (config := { maxSteps := 1000000 }) [ty25]
      refine callP (hf) (by first | (simp; done) | (simp [*]; done)) ?_
      simp (config := { maxSteps := 1000000 }) []
      refine hK _ ?_
      clear hK K
      first | show AWP _ _ _ _ _ | show ∃ _, _ | skip
      repeat refine awp_seq ?_
      refine awp_cond (by simp; rfl) (by rw [hx]; simp) (fun hd => ?_) (fun hd => ?_)
      · simp at hd
      clear hd
      refine awp_skip ?_
      first | show AWP _ _ _ _ _ | show ∃ _, _ | skip
      repeat refine awp_seq ?_
      refine awp_reg1 (by rw [hx]; kernel_rfl) fun K hK => ?_
      simp (config := { maxSteps := 1000000 }) [ty25]
      refine makesL 5001 hcp ?_ ?_
      · intro q h1 h2
        have e1 : q ≠ 1 := by omega
        simp [e1]
      simp [ty25]
      refine hK _ ?_
      clear hK K
      first | show AWP _ _ _ _ _ | show ∃ _, _ | skip
      refine AWP.weak (t := ⟨ofL [(1, .ptr 1 3 0 0), (3, .ptr 3 3 0 0)], stoT [(1, 1, .live (obPlat p)), (3, 3, .live (platBox 5001 p)), (5001, 5001, .live (pcsOb true p.ps)), (5002, 5002, .live (clOb p.rows true)), (5003, 5003, .live (clOb p.cols true))]⟩) ?_ ?_
      rotate_left
      · refine wk_shape (shp0 hσ (by simp) (by simp) ?_) ?_
        · simp [SlotOk]
          refine ⟨.same (plat_pure p), rowsOk_box (by simp [mtc, mT]) (by simp [mtc, mT]) (by simp [mtc, mT]) rfl rfl rfl, .same (pcs_pure _), .same (ints_pure _), .same (ints_pure _)⟩
        · simp [mtc, mtl, mT, C.isPure, purel]
      refine AWP.weak ?_ (wk_frzCell 5001 3 0 0 (o := pcsOb true p.ps) (oq := ⟨false, false, 3, [[.own 5001 4 0 p.ps.length, .own 5002 1 0 p.rows.length, .own 5003 1 0 p.cols.length]]⟩) (row := [.own 5001 4 0 p.ps.length, .own 5002 1 0 p.rows.length, .own 5003 1 0 p.cols.length]) (c := .own 5001 4 0 p.ps.length) (c' := .sl false false (p.ps.map cP)) (by simp) (pcs_pure _) (by simp) (by omega) rfl rfl rfl (fz_own rfl (by simp) (by simp)) rfl)
      refine AWP.weak ?_ (wk_frzCell 5002 3 0 1 (o := clOb p.rows true) (oq := ⟨false, false, 3, [[.sl false false (p.ps.map cP), .own 5002 1 0 p.rows.length, .own 5003 1 0 p.cols.length]]⟩) (row := [.sl false false (p.ps.map cP), .own 5002 1 0 p.rows.length, .own 5003 1 0 p.cols.length]) (c := .own 5002 1 0 p.rows.length) (c' := .sl false false (p.rows.map cI)) (by simp) (ints_pure _) (by simp) (by omega) rfl rfl rfl (fz_own rfl (by simp) (by simp)) rfl)
      refine AWP.weak ?_ (wk_frzCell 5003 3 0 2 (o := clOb p.cols true) (oq := ⟨false, false, 3, [[.sl false false (p.ps.map cP), .sl false false (p.rows.map cI), .own 5003 1 0 p.cols.length]]⟩) (row := [.sl false false (p.ps.map cP), .sl false false (p.rows.map cI), .own 5003 1 0 p.cols.length]) (c := .own 5003 1 0 p.cols.length) (c' := .sl false false (p.cols.map cI)) (by simp) (ints_pure _) (by simp) (by omega) rfl rfl rfl (fz_own rfl (by simp) (by simp)) rfl)
      refine AWP.weak (t := ⟨ofL [(1, .ptr 1 3 0 0), (3, .ptr 3 3 0 0)], stoT [(1, 1, .live (obPlat p)), (3, 3, .live (obPlat (cpP p.ps p.rows p.cols)))]⟩) ?_ ?_
      rotate_left
      · refine wk_shape (shp0 hσ (by simp) (by simp) ?_) ?_
        · simp [SlotOk]
          exact ⟨.same (plat_pure p), .same (plat_pure (cpP p.ps p.rows p.cols))⟩
        · simp [mtc, mtl, mT, C.isPure, purel]
      repeat refine awp_seq ?_
      refine awp_reg1 (by rw [hx]; kernel_rfl) fun K hK => ?_
      simp (config := { maxSteps := 1000000 }) [ty25]
      refine callP (h25) (by first | (simp; done) | (simp [*]; done)) ?_
      simp (config := { maxSteps := 1000000 }) []
      refine hK _ ?_
      clear hK K
      first | show AWP _ _ _ _ _ | show ∃ _, _ | skip
      repeat refine awp_seq ?_
      refine awp_reg1 (by rw [hx]; kernel_rfl) fun K hK => ?_
      simp (config := { maxSteps := 1000000 }) [ty25]
      refine callP (h40) (by first | (simp; done) | (simp [*]; done)) ?_
      simp (config := { maxSteps := 1000000 }) []
      refine hK _ ?_
      clear hK K
      first | show AWP _ _ _ _ _ | show ∃ _, _ | skip
      repeat refine awp_seq ?_
      refine awp_reg1 (by rw [hx]; kernel_rfl) fun K hK => ?_
      simp (config := { maxSteps := 1000000 }) [ty25]
      refine callP (h37) (by first | (simp; done) | (simp [*]; done)) ?_
      simp (config := { maxSteps := 1000000 }) []
      refine hK _ ?_
      clear hK K
      first | show AWP _ _ _ _ _ | show ∃ _, _ | skip
      repeat refine awp_seq ?_
      refine awp_reg1 (by rw [hx]; kernel_rfl) fun K hK => ?_
      simp (config := { maxSteps := 1000000 }) [ty25]
      refine callP (h41) (by first | (simp; done) | (simp [*]; done)) ?_
      simp (config := { maxSteps := 1000000 }) []
      refine hK _ ?_
      clear hK K
      first | show AWP _ _ _ _ _ | show ∃ _, _ | skip
      repeat refine awp_seq ?_
      refine awp_reg1 (by rw [hx]; kernel_rfl) fun K hK => ?_
      simp (config := { maxSteps := 1000000 }) [ty25]
      refine callP (h38) (by first | (simp; done) | (simp [*]; done)) ?_
      simp (config := { maxSteps := 1000000 }) []
      refine hK _ ?_
      clear hK K
      first | show AWP _ _ _ _ _ | show ∃ _, _ | skip
      repeat refine awp_seq ?_
      refine awp_reg1 (by rw [hx]; kernel_rfl) fun K hK => ?_
      simp (config := { maxSteps := 1000000 }) [ty25]
      refine callP (h42) (by first | (simp; done) | (simp [*]; done)) ?_
      simp (config := { maxSteps := 1000000 }) []
      refine hK _ ?_
      clear hK K
      first | show AWP _ _ _ _ _ | show ∃ _, _ | skip
      repeat refine awp_seq ?_
      refine awp_reg1 (by rw [hx]; kernel_rfl) fun K hK => ?_
      simp (config := { maxSteps := 1000000 }) [ty25]
      refine callP (h16) (by first | (simp; done) | (simp [*]; done)) ?_
      simp (config := { maxSteps := 1000000 }) []
      refine hK _ ?_
      clear hK K
      first | show AWP _ _ _ _ _ | show ∃ _, _ | skip
      repeat refine awp_seq ?_
      refine awp_reg1 (by rw [hx]; kernel_rfl) fun K hK => ?_
      simp (config := { maxSteps := 1000000 }) [ty25]
      refine callP (h43) (by first | (simp; done) | (simp [*]; done)) ?_
      simp (config := { maxSteps := 1000000 }) []
      refine hK _ ?_
      clear hK K
      first | show AWP _ _ _ _ _ | show ∃ _, _ | skip
      repeat refine awp_seq ?_
      refine awp_reg1 (by rw [hx]; kernel_rfl) fun K hK => ?_
      simp (config := { maxSteps := 1000000 }) [ty25, ty23, ty3, ty30]
      refine callP (hsame) (by first | (simp; done) | (simp [*]; done)) ?_
      simp (config := { maxSteps := 1000000 }) [ty25, ty4]
      refine hK _ ?_
      clear hK K
      first | show AWP _ _ _ _ _ | show ∃ _, _ | skip
      repeat refine awp_seq ?_
      refine awp_cond (by simp; rfl) (by rw [hx]; simp) (fun hd => ?_) (fun hd => ?_)
      · simp at hd
      clear hd
      refine awp_skip ?_
      first | show AWP _ _ _ _ _ | show ∃ _, _ | skip
      repeat refine awp_seq ?_
      refine awp_reg1 (by rw [hx]; kernel_rfl) fun K hK => ?_
      simp (config := { maxSteps := 1000000 }) [ty30]
      refine hK _ ?_
      clear hK K
      first | show AWP _ _ _ _ _ | show ∃ _, _ | skip
      repeat refine awp_seq ?_
      refine awp_cond (by simp; rfl) (by rw [hx]; simp) (fun hd => ?_) (fun hd => ?_)
      · repeat refine awp_seq ?_
        refine awp_reg1 (by rw [hx]; kernel_rfl) fun K hK => ?_
        simp (config := { maxSteps := 1000000 }) [ty23, ty3, w0]
        refine callP (works14) (by first | (simp; done) | (simp [*]; done)) ?_
        simp (config := { maxSteps := 1000000 }) []
        refine hK _ ?_
        clear hK K
        first | show AWP _ _ _ _ _ | show ∃ _, _ | skip
        repeat refine awp_seq ?_
        refine awp_ret ?_
        refine And.intro (Or.inr rfl) ?_
        simp [retC, resC, viewC, mapO]
      · simp at hd

end Go.Proofs.Ytgcmjidphcafnaa

namespace Go.Proofs.Ytgcmjidphcafnaa
open Go Go.Abs
open Go.ChangeShapes Go.WideShapes Go.ChangeAt Go.RowKit

set_option maxRecDepth 100000 in
theorem parcelsLeast_lifted (os : Os) (started : os.Started) (H : Type) (enc : TypeId × Value → H) :
    ReturnsInHanded {} Try.checked os 10 .any (Rows.parcelsLeastSpec.pre6 enc Try.prog Try.f10 Rows.parcelsLeastRow.domain false) (Rows.parcelsLeastSpec.post enc Try.prog Try.f10 false true false false) := by
  refine returnsInHanded_of_change (C := Try.checked) J.own started (by kernel_rfl) Try.func10
    (ChangeSpec.witness6 (enc := enc) (C := Try.checked) false ⟨#[], #[.agg #[.slice none 0 0, .slice none 0 0, .slice none 0 0]], []⟩ 8 (by kernel_rfl) (by kernel_rfl) (by kernel_rfl) (by kernel_rfl)) ?_
  intro W base args ds gs before hval hW _ _
  refine law_contract (P := Try.prog) (tb := 4) (by kernel_rfl) J.ub rfl (fun ds hl => ?_) J.laid J.maps J.sized (by kernel_rfl) (by kernel_rfl) (fun cargs hc => ?_) W base args ds gs before hval hW
  · have h2 : ds.length = 1 := hl
    match ds, h2 with
    | [_], _ => rfl
  · rw [Try.params10] at hc
    obtain ⟨p, r, rfl, hn, hc1⟩ := arg25 hc
    obtain rfl := arg_end hc1
    exact least10 p hn

theorem parcelsLeast_holds : Rows.ParcelsLeastSaid :=
  OpenClaim.holds_of_wide 10 Try.f10 rfl rfl rfl rfl rfl rfl rfl ⟨rfl, rfl, rfl, rfl, rfl⟩ rfl rfl rfl rfl rfl (by kernel_rfl) Try.func10 (by kernel_rfl)
    (of_decide_eq_true (by kernel_rfl)) (by unfold Func.isWrapper; first | (rw [if_pos (by decide +kernel)]; kernel_rfl) | (rw [if_neg (by decide +kernel)]; exact ⟨rfl, rfl⟩))
    (fun os started H enc _ => parcelsLeast_lifted os started H enc)
#print axioms parcelsLeast_holds
end Go.Proofs.Ytgcmjidphcafnaa

