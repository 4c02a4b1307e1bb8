/- For every input the law ParcelsSmallest returns true, and each argument reads afterwards as it read before. No condition. -/
import Derived.Test.YtgcmjidphcafnaaB6

set_option linter.unusedSimpArgs false
set_option linter.unusedVariables false
set_option linter.constructorNameAsVariable false

namespace Go.Proofs.Ytgcmjidphcafnaa
open Go Go.Abs

set_option maxHeartbeats 4000000
set_option maxRecDepth 100000

theorem fixTo_mem (q : Nat → Bool) (z : Int) : ∀ n, z ∈ fixTo q n ↔ ∃ i : Nat, i < n ∧ q i = true ∧ z = i
  | 0 => by simp [fixTo]
  | n + 1 => by
    have ih := fixTo_mem q z n
    simp only [fixTo]
    by_cases h : q n = true
    · rw [if_pos h, List.mem_append, ih]
      constructor
      · rintro (⟨i, h1, h2, h3⟩ | h1)
        · exact ⟨i, by omega, h2, h3⟩
        · exact ⟨n, by omega, h, by simpa using h1⟩
      · rintro ⟨i, h1, h2, h3⟩
        by_cases e : i = n
        · subst e; exact .inr (by simp [h3])
        · exact .inl ⟨i, by omega, h2, h3⟩
    · rw [if_neg h, ih]
      constructor
      · rintro ⟨i, h1, h2, h3⟩; exact ⟨i, by omega, h2, h3⟩
      · rintro ⟨i, h1, h2, h3⟩
        by_cases e : i = n
        · subst e; exact absurd h2 h
        · exact ⟨i, by omega, h2, h3⟩

theorem many_sum {p : Plat} (hp : PlatOk p) {l : List Int} (h : IsP p l) : sumTo (manyF p l) l.length = manyC p l := by
  rw [h.1]
  unfold manyC
  have key : ∀ m, m ≤ p.ps.length → sumTo (manyF p l) m = Flow.cnt (fun i => decide (chgF p l i ≠ 0)) m := by
    intro m
    induction m with
    | zero => intro _; simp [sumTo, Flow.cnt]
    | succ m ih =>
      intro hm
      have ih := ih (by omega)
      have h1 := chgF_off hp h (i := m) (by omega)
      simp only [sumTo, Flow.cnt, ih, manyF]
      by_cases e : chgF p l m = 0
      · rw [if_neg (by simp [e])]; omega
      · rw [if_pos (by simp [e])]; omega
  exact key _ (Nat.le_refl _)

theorem maxTo_ge {f : Nat → Int} : ∀ {n i : Nat}, i < n → f i ≤ maxTo f n ∧ 0 ≤ maxTo f n
  | 0, i, h => by omega
  | n + 1, i, h => by
    simp only [maxTo]
    have h0 : 0 ≤ maxTo f n := by
      clear h
      induction n with
      | zero => simp [maxTo]
      | succ n ih => simp only [maxTo]; omega
    by_cases e : i = n
    · subst e; omega
    · have := (maxTo_ge (f := f) (n := n) (i := i) (by omega)).1; omega

theorem maxTo_nn {f : Nat → Int} (n : Nat) : 0 ≤ maxTo f n := by
  induction n with
  | zero => simp [maxTo]
  | succ n ih => simp only [maxTo]; omega

theorem smallest12 (p : Plat) (hn : NlOk p) (nl : Bool) (l : List Int) : Pure Try.prog 12 [encPlat p, .sl nl false (l.map cI)] (.bool true) := by
  by_cases hrd : ¬ FarP p ∧ PlatOk p
  · have hp := hrd.2
    have h8 := hp.n8
    have hr13 := ready_yes hrd
    by_cases hl : l.length ≤ 40
    · have g1 : ¬ ((40 : Int) < l.length) := by omega
      have g2 : ¬ (40 < l.length) := by omega
      by_cases hI : IsP p l
      · have h19 := is_c p nl false l hp (by omega) true (by simp [hI])
        have hll := hI.1
        have hf : Fe p := ⟨l, hI⟩
        obtain ⟨s, n, kk, R⟩ := res4_fe p hp hn.pn hf
        have h25 := R.p25
        have h37 := R.p37
        have h38 := R.p38
        have hab : ∃ a b : Nat → Int, ∀ k, k < p.ps.length → RangeP p k (a k) (b k) := by
          have h1 : ∀ k, ∃ ab : Int × Int, k < p.ps.length → RangeP p k ab.1 ab.2 := fun k => by
            by_cases hk : k < p.ps.length
            · obtain ⟨a, b, h⟩ := range_ex hf hk; exact ⟨(a, b), fun _ => h⟩
            · exact ⟨(0, 0), fun h => absurd h hk⟩
          exact ⟨fun k => (Classical.choose (h1 k)).1, fun k => (Classical.choose (h1 k)).2, fun k hk => Classical.choose_spec (h1 k) hk⟩
        obtain ⟨a, b, hab⟩ := hab
        have h30 := fixed_c p hp hn.pn hf a b hab
        obtain ⟨F, hF⟩ : ∃ F, F = fixTo (fun k => a k == b k) p.ps.length := ⟨_, rfl⟩
        rw [← hF] at h30
        have hFl : F.length ≤ 8 := by rw [hF]; have := fixTo_len (fun k => a k == b k) p.ps.length; omega
        have h35 := fills35 p nl l (by omega) (by have := hp.r4; omega) (by have := hp.c4; omega) hn.rn hn.cn 0 true (.inr (.inr ⟨by simp [hp], hll, rfl, by simp [hI]⟩))
        have hbd : Bd l := bd_of_ends hp hll hI.2.1
        have h44 := sum_c p nl false l (by omega) (by omega) hp.ps hbd
        have h45 := most_c p nl false l (by omega) (by omega) hp.ps hbd
        have h46 := many_c p nl false l (by omega) (by omega) hp.ps hbd
        have es : s ≤ sumTo (chgF p l) l.length := by have := R.hs.2 l hI; unfold sumC at this; rw [hll]; exact this
        have en : n ≤ maxTo (chgF p l) l.length := R.hw.2.2 l _ hI (maxTo_nn _) fun i hi => (maxTo_ge (by omega)).1
        have ek : (kk : Int) ≤ sumTo (manyF p l) l.length := by rw [many_sum hp hI]; have := R.hf.2 l hI; omega
        obtain ⟨S, hS⟩ : ∃ S, S = sumTo (chgF p l) l.length := ⟨_, rfl⟩
        obtain ⟨M, hM⟩ : ∃ M, M = maxTo (chgF p l) l.length := ⟨_, rfl⟩
        obtain ⟨K', hK'⟩ : ∃ K', K' = sumTo (manyF p l) l.length := ⟨_, rfl⟩
        rw [← hS] at h44 es
        rw [← hM] at h45 en
        rw [← hK'] at h46 ek
        have hs0 : ¬ s < 0 := by have := three_law hp R.hs R.hw R.hf R.k8 R.n99; omega
        have hn0 : ¬ n < 0 := by have := R.hw.1; omega
        have hk0 : ¬ (kk : Int) < 0 := by omega
        have u1 : ¬ S < s := by omega
        have u2 : ¬ M < n := by omega
        have u3 : ¬ K' < (kk : Int) := by omega
        have u4 : ¬ (40 : Int) < F.length := by omega
        have u5 : ¬ 40 < F.length := by omega
        refine pure_of (fn := Try.f12) [.tmp 4] ⟨Try.func12, rfl, by kernel_rfl⟩ (by kernel_rfl) (by kernel_rfl) (by kernel_rfl) fun x hx hσ => ?_
        repeat refine awp_seq ?_
        refine awp_reg1 (by rw [hx]; kernel_rfl) fun K hK => ?_
        simp (config := { maxSteps := 1000000 }) [ty25]
        refine hK _ ?_
        clear hK K
        first | show AWP _ _ _ _ _ | show ∃ _, _ | skip
        repeat refine awp_seq ?_
        refine awp_reg1 (by rw [hx]; kernel_rfl) fun K hK => ?_
        simp (config := { maxSteps := 1000000 }) [ty25, ty23, ty3, g1, g2]
        refine callP (hr13) (by first | (simp; done) | (simp [*]; done)) ?_
        simp (config := { maxSteps := 1000000 }) [ty25, ty23, ty3, g1, g2]
        refine callP (h19) (by first | (simp; done) | (simp [*]; done)) ?_
        simp (config := { maxSteps := 1000000 }) [ty25, ty23, ty3, g1, g2]
        refine hK _ ?_
        clear hK K
        first | show AWP _ _ _ _ _ | show ∃ _, _ | skip
        repeat refine awp_seq ?_
        refine awp_cond (by simp; rfl) (by rw [hx]; simp) (fun hd => ?_) (fun hd => ?_)
        · simp at hd
        clear hd
        refine awp_skip ?_
        first | show AWP _ _ _ _ _ | show ∃ _, _ | skip
        repeat refine awp_seq ?_
        refine awp_reg1 (by rw [hx]; kernel_rfl) fun K hK => ?_
        simp (config := { maxSteps := 1000000 }) [ty25]
        refine callP (h25) (by first | (simp; done) | (simp [*]; done)) ?_
        simp (config := { maxSteps := 1000000 }) []
        refine hK _ ?_
        clear hK K
        first | show AWP _ _ _ _ _ | show ∃ _, _ | skip
        repeat refine awp_seq ?_
        refine awp_reg1 (by rw [hx]; kernel_rfl) fun K hK => ?_
        simp (config := { maxSteps := 1000000 }) [ty25]
        refine callP (h37) (by first | (simp; done) | (simp [*]; done)) ?_
        simp (config := { maxSteps := 1000000 }) []
        refine hK _ ?_
        clear hK K
        first | show AWP _ _ _ _ _ | show ∃ _, _ | skip
        repeat refine awp_seq ?_
        refine awp_reg1 (by rw [hx]; kernel_rfl) fun K hK => ?_
        simp (config := { maxSteps := 1000000 }) [ty25]
        refine callP (h38) (by first | (simp; done) | (simp [*]; done)) ?_
        simp (config := { maxSteps := 1000000 }) []
        refine hK _ ?_
        clear hK K
        first | show AWP _ _ _ _ _ | show ∃ _, _ | skip
        repeat refine awp_seq ?_
        refine awp_reg1 (by rw [hx]; kernel_rfl) fun K hK => ?_
        simp (config := { maxSteps := 1000000 }) [ty25]
        refine callP (h30) (by first | (simp; done) | (simp [*]; done)) ?_
        simp (config := { maxSteps := 1000000 }) []
        refine hK _ ?_
        clear hK K
        first | show AWP _ _ _ _ _ | show ∃ _, _ | skip
        repeat refine awp_seq ?_
        refine awp_reg1 (by rw [hx]; kernel_rfl) fun K hK => ?_
        simp (config := { maxSteps := 1000000 }) [ty25]
        refine callP (h35) (by first | (simp; done) | (simp [*]; done)) ?_
        simp (config := { maxSteps := 1000000 }) []
        refine hK _ ?_
        clear hK K
        first | show AWP _ _ _ _ _ | show ∃ _, _ | skip
        repeat refine awp_seq ?_
        refine awp_reg1 (by rw [hx]; kernel_rfl) fun K hK => ?_
        simp (config := { maxSteps := 1000000 }) [ty30, ty3, ty25, ty23, hs0, hn0, hk0]
        refine callP (h44) (by first | (simp; done) | (simp [*]; done)) ?_
        simp (config := { maxSteps := 1000000 }) [ty30, ty3, ty25, ty23, u1, hn0]
        refine callP (h45) (by first | (simp; done) | (simp [*]; done)) ?_
        simp (config := { maxSteps := 1000000 }) [ty30, ty3, ty25, ty23, u2]
        refine callP (h46) (by first | (simp; done) | (simp [*]; done)) ?_
        simp (config := { maxSteps := 1000000 }) [ty30, ty3, ty25, ty23, u3, u4, u5]
        refine hK _ ?_
        clear hK K
        first | show AWP _ _ _ _ _ | show ∃ _, _ | skip
        repeat refine awp_seq ?_
        refine awp_cond (by simp; rfl) (by rw [hx]; simp) (fun hd => ?_) (fun hd => ?_)
        · simp at hd
        clear hd
        refine awp_skip ?_
        first | show AWP _ _ _ _ _ | show ∃ _, _ | skip
        repeat refine awp_seq ?_
        refine awp_reg1 (by rw [hx]; kernel_rfl) fun K hK => ?_
        simp (config := { maxSteps := 1000000 }) []
        refine hK _ ?_
        clear hK K
        first | show AWP _ _ _ _ _ | show ∃ _, _ | skip
        repeat refine awp_seq ?_
        refine awp_block ?_
        refine awp_loop (fun i : Nat => ⟨ofL [(1, .sl nl false (l.map cI)), (2, .ptr 2 3 0 0), (11, .sl F.isEmpty false (F.map cI)), (15, encI i)], stoT [(2, 2, .live (obPlat p))]⟩)
          (fun i => i ≤ l.length) (fun i => l.length - i) 0 (by simp) ?_ ?_
        · refine wk_shape (shp0 hσ (by simp) (by simp) ?_) ?_
          · simp [SlotOk]
            exact .same (plat_pure p)
          · simp [mtc, mtl, mT, C.isPure, purel]
        · intro i hi
          repeat refine awp_seq ?_
          refine awp_reg1 (by rw [hx]; kernel_rfl) fun K hK => ?_
          simp (config := { maxSteps := 1000000 }) [ty23, ty3]
          refine hK _ ?_
          clear hK K
          first | show AWP _ _ _ _ _ | show ∃ _, _ | skip
          repeat refine awp_seq ?_
          refine awp_cond (by simp; rfl) (by rw [hx]; simp) (fun hc => ?_) (fun hc => ?_)
          · simp at hc
            have hR := hab i (by omega)
            have h21 := range_c p hp hn.pn i (by omega) _ _ hR
            have hgi : l[i] = Flow.gi l i := by simp [Flow.gi, hc]
            have hr := hR.2.2 l hI
            rw [← hgi] at hr
            have v1 : ¬ l[i] < a i := by omega
            have v2 : ¬ b i < l[i] := by omega
            have h47 := in47 F.isEmpty false F i (by omega)
            have hmem : decide ((i : Int) ∈ F) = (a i == b i) := by
              have hm := fixTo_mem (fun k => a k == b k) i p.ps.length
              rw [← hF] at hm
              by_cases e : a i = b i
              · rw [decide_eq_true (hm.2 ⟨i, by omega, by simpa using e, rfl⟩)]; simp [e]
              · rw [decide_eq_false (fun h => by obtain ⟨j, h1, h2, h3⟩ := hm.1 h; have : i = j := by omega
                                                 subst this; exact e (by simpa using h2))]
                simp [e]
            rw [hmem] at h47
            refine awp_skip ?_
            first | show AWP _ _ _ _ _ | show ∃ _, _ | skip
            repeat refine awp_seq ?_
            refine awp_block ?_
            repeat refine awp_seq ?_
            refine awp_reg1 (by rw [hx]; kernel_rfl) fun K hK => ?_
            simp (config := { maxSteps := 1000000 }) [ty25]
            refine callP (h21) (by first | (simp; done) | (simp [*]; done)) ?_
            simp (config := { maxSteps := 1000000 }) [ty41, ty3]
            refine hK _ ?_
            clear hK K
            first | show AWP _ _ _ _ _ | show ∃ _, _ | skip
            repeat refine awp_seq ?_
            refine awp_drw3 [] [0, 1, 2, 3, 4, 5, 6, 7, 8, 9, 10, 11, 12, 13, 14, 15, 16, 17, 18, 19, 20, 21, 22, 23, 24, 25, 26, 27, 28, 29, 30] (by rw [hx]; kernel_rfl) (by kernel_rfl) (by kernel_rfl) (by kernel_rfl) fun K hK => ?_
            simp (config := { maxSteps := 1000000 }) [ty30, ty23, ty3, ty41, ty4, hc, v1, v2]
            refine callPD (h47) (by first | (simp; done) | (simp [*]; done)) (by simp) ?_
            simp (config := { maxSteps := 1000000 }) [ty30, ty23, ty3, ty41, ty4, hc, v1, v2]
            refine hK _ ?_
            clear hK K
            first | show AWP _ _ _ _ _ | show ∃ _, _ | skip
            repeat refine awp_seq ?_
            refine awp_cond (by simp; rfl) (by rw [hx]; simp) (fun hd => ?_) (fun hd => ?_)
            · simp at hd
            clear hd
            refine awp_skip ?_
            first | show AWP _ _ _ _ _ | show ∃ _, _ | skip
            repeat refine awp_seq ?_
            refine awp_reg1 (by rw [hx]; kernel_rfl) fun K hK => ?_
            simp (config := { maxSteps := 1000000 }) [ty3]
            refine hK _ ?_
            clear hK K
            first | show AWP _ _ _ _ _ | show ∃ _, _ | skip
            refine ⟨i + 1, by omega, by omega, ?_⟩
            refine wk_shape (T := [(2, 2, .live (obPlat p))]) (shp0 hσ (by simp) (by simp) ?_) ?_
            · simp [SlotOk]
              exact .same (plat_pure p)
            · simp [mtc, mtl, mT, C.isPure, purel]
              simp (disch := omega) [wrap_id]
          · simp at hc
            repeat refine awp_seq ?_
            refine awp_exit ?_
            first | show AWP _ _ _ _ _ | show ∃ _, _ | skip
            repeat refine awp_seq ?_
            refine awp_reg1 (by rw [hx]; kernel_rfl) fun K hK => ?_
            simp (config := { maxSteps := 1000000 }) []
            refine callP (works14) (by first | (simp; done) | (simp [*]; done)) ?_
            simp (config := { maxSteps := 1000000 }) []
            refine hK _ ?_
            clear hK K
            first | show AWP _ _ _ _ _ | show ∃ _, _ | skip
            repeat refine awp_seq ?_
            refine awp_ret ?_
            refine And.intro (Or.inr rfl) ?_
            simp [retC, resC, viewC, mapO]
      · have h19 := is_c p nl false l hp (by omega) false (by simp [hI])
        refine pure_of (fn := Try.f12) [.tmp 4] ⟨Try.func12, rfl, by kernel_rfl⟩ (by kernel_rfl) (by kernel_rfl) (by kernel_rfl) fun x hx hσ => ?_
        repeat refine awp_seq ?_
        refine awp_reg1 (by rw [hx]; kernel_rfl) fun K hK => ?_
        simp (config := { maxSteps := 1000000 }) [ty25]
        refine hK _ ?_
        clear hK K
        first | show AWP _ _ _ _ _ | show ∃ _, _ | skip
        repeat refine awp_seq ?_
        refine awp_reg1 (by rw [hx]; kernel_rfl) fun K hK => ?_
        simp (config := { maxSteps := 1000000 }) [ty25, ty23, ty3, g1, g2]
        refine callP (hr13) (by first | (simp; done) | (simp [*]; done)) ?_
        simp (config := { maxSteps := 1000000 }) [ty25, ty23, ty3, g1, g2]
        refine callP (h19) (by first | (simp; done) | (simp [*]; done)) ?_
        simp (config := { maxSteps := 1000000 }) [ty25, ty23, ty3, g1, g2]
        refine hK _ ?_
        clear hK K
        first | show AWP _ _ _ _ _ | show ∃ _, _ | skip
        repeat refine awp_seq ?_
        refine awp_cond (by simp; rfl) (by rw [hx]; simp) (fun hd => ?_) (fun hd => ?_)
        · repeat refine awp_seq ?_
          refine awp_reg1 (by rw [hx]; kernel_rfl) fun K hK => ?_
          simp (config := { maxSteps := 1000000 }) []
          refine callP (works14) (by first | (simp; done) | (simp [*]; done)) ?_
          simp (config := { maxSteps := 1000000 }) []
          refine hK _ ?_
          clear hK K
          first | show AWP _ _ _ _ _ | show ∃ _, _ | skip
          repeat refine awp_seq ?_
          refine awp_ret ?_
          refine And.intro (Or.inr rfl) ?_
          simp [retC, resC, viewC, mapO]
        · simp at hd
    · have g1 : ((40 : Int) < l.length) := by omega
      have g2 : (40 < l.length) := by omega
      refine pure_of (fn := Try.f12) [.tmp 4] ⟨Try.func12, rfl, by kernel_rfl⟩ (by kernel_rfl) (by kernel_rfl) (by kernel_rfl) fun x hx hσ => ?_
      repeat refine awp_seq ?_
      refine awp_reg1 (by rw [hx]; kernel_rfl) fun K hK => ?_
      simp (config := { maxSteps := 1000000 }) [ty25]
      refine hK _ ?_
      clear hK K
      first | show AWP _ _ _ _ _ | show ∃ _, _ | skip
      repeat refine awp_seq ?_
      refine awp_reg1 (by rw [hx]; kernel_rfl) fun K hK => ?_
      simp (config := { maxSteps := 1000000 }) [ty25, ty23, ty3, g1, g2]
      refine callP (hr13) (by first | (simp; done) | (simp [*]; done)) ?_
      simp (config := { maxSteps := 1000000 }) [ty25, ty23, ty3, g1, g2]
      refine hK _ ?_
      clear hK K
      first | show AWP _ _ _ _ _ | show ∃ _, _ | skip
      repeat refine awp_seq ?_
      refine awp_cond (by simp; rfl) (by rw [hx]; simp) (fun hd => ?_) (fun hd => ?_)
      · repeat refine awp_seq ?_
        refine awp_reg1 (by rw [hx]; kernel_rfl) fun K hK => ?_
        simp (config := { maxSteps := 1000000 }) []
        refine callP (works14) (by first | (simp; done) | (simp [*]; done)) ?_
        simp (config := { maxSteps := 1000000 }) []
        refine hK _ ?_
        clear hK K
        first | show AWP _ _ _ _ _ | show ∃ _, _ | skip
        repeat refine awp_seq ?_
        refine awp_ret ?_
        refine And.intro (Or.inr rfl) ?_
        simp [retC, resC, viewC, mapO]
      · simp at hd
  · have hr13 := ready_no hrd
    refine pure_of (fn := Try.f12) [.tmp 4] ⟨Try.func12, rfl, by kernel_rfl⟩ (by kernel_rfl) (by kernel_rfl) (by kernel_rfl) fun x hx hσ => ?_
    repeat refine awp_seq ?_
    refine awp_reg1 (by rw [hx]; kernel_rfl) fun K hK => ?_
    simp (config := { maxSteps := 1000000 }) [ty25]
    refine hK _ ?_
    clear hK K
    first | show AWP _ _ _ _ _ | show ∃ _, _ | skip
    repeat refine awp_seq ?_
    refine awp_reg1 (by rw [hx]; kernel_rfl) fun K hK => ?_
    simp (config := { maxSteps := 1000000 }) [ty25, ty23, ty3]
    refine callP (hr13) (by first | (simp; done) | (simp [*]; done)) ?_
    simp (config := { maxSteps := 1000000 }) [ty25, ty23, ty3]
    refine hK _ ?_
    clear hK K
    first | show AWP _ _ _ _ _ | show ∃ _, _ | skip
    repeat refine awp_seq ?_
    refine awp_cond (by simp; rfl) (by rw [hx]; simp) (fun hd => ?_) (fun hd => ?_)
    · repeat refine awp_seq ?_
      refine awp_reg1 (by rw [hx]; kernel_rfl) fun K hK => ?_
      simp (config := { maxSteps := 1000000 }) []
      refine callP (works14) (by first | (simp; done) | (simp [*]; done)) ?_
      simp (config := { maxSteps := 1000000 }) []
      refine hK _ ?_
      clear hK K
      first | show AWP _ _ _ _ _ | show ∃ _, _ | skip
      repeat refine awp_seq ?_
      refine awp_ret ?_
      refine And.intro (Or.inr rfl) ?_
      simp [retC, resC, viewC, mapO]
    · simp at hd

end Go.Proofs.Ytgcmjidphcafnaa

namespace Go.Proofs.Ytgcmjidphcafnaa
open Go Go.Abs
open Go.ChangeShapes Go.WideShapes Go.ChangeAt Go.RowKit

set_option maxRecDepth 100000 in
theorem parcelsSmallest_lifted (os : Os) (started : os.Started) (H : Type) (enc : TypeId × Value → H) :
    ReturnsInHanded {} Try.checked os 12 .any (Rows.parcelsSmallestSpec.pre6 enc Try.prog Try.f12 Rows.parcelsSmallestRow.domain false) (Rows.parcelsSmallestSpec.post enc Try.prog Try.f12 false true false false) := by
  refine returnsInHanded_of_change (C := Try.checked) J.own started (by kernel_rfl) Try.func12
    (ChangeSpec.witness6 (enc := enc) (C := Try.checked) false ⟨#[], #[.agg #[.slice none 0 0, .slice none 0 0, .slice none 0 0], .slice none 0 0], []⟩ 8 (by kernel_rfl) (by kernel_rfl) (by kernel_rfl) (by kernel_rfl)) ?_
  intro W base args ds gs before hval hW _ _
  refine law_contract (P := Try.prog) (tb := 4) (by kernel_rfl) J.ub rfl (fun ds hl => ?_) J.laid J.maps J.sized (by kernel_rfl) (by kernel_rfl) (fun cargs hc => ?_) W base args ds gs before hval hW
  · have h2 : ds.length = 2 := hl
    match ds, h2 with
    | [_, _], _ => rfl
  · rw [Try.params12] at hc
    obtain ⟨p, r, rfl, hn, hc1⟩ := arg25 hc
    obtain ⟨nl, l, r, rfl, hnl, hc2⟩ := arg23 hc1
    obtain rfl := arg_end hc2
    exact smallest12 p hn nl l

theorem parcelsSmallest_holds : Rows.ParcelsSmallestSaid :=
  OpenClaim.holds_of_wide 12 Try.f12 rfl rfl rfl rfl rfl rfl rfl ⟨rfl, rfl, rfl, rfl, rfl⟩ rfl rfl rfl rfl rfl (by kernel_rfl) Try.func12 (by kernel_rfl)
    (of_decide_eq_true (by kernel_rfl)) (by unfold Func.isWrapper; first | (rw [if_pos (by decide +kernel)]; kernel_rfl) | (rw [if_neg (by decide +kernel)]; exact ⟨rfl, rfl⟩))
    (fun os started H enc _ => parcelsSmallest_lifted os started H enc)
#print axioms parcelsSmallest_holds
end Go.Proofs.Ytgcmjidphcafnaa

