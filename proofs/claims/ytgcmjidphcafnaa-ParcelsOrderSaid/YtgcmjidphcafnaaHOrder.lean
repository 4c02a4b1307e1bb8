/- For every input the law ParcelsOrder returns true, and each argument reads afterwards as it read before. No condition. -/
import Derived.Test.YtgcmjidphcafnaaB6

set_option linter.unusedSimpArgs false
set_option linter.unusedVariables false
set_option linter.constructorNameAsVariable false

namespace Go.Proofs.Ytgcmjidphcafnaa
open Go Go.Abs

set_option maxHeartbeats 4000000
set_option maxRecDepth 100000

theorem fixTo_mem (q : Nat → Bool) (z : Int) : ∀ n, z ∈ fixTo q n ↔ ∃ i : Nat, i < n ∧ q i = true ∧ z = i
  | 0 => by simp [fixTo]
  | n + 1 => by
    have ih := fixTo_mem q z n
    simp only [fixTo]
    by_cases h : q n = true
    · rw [if_pos h, List.mem_append, ih]
      constructor
      · rintro (⟨i, h1, h2, h3⟩ | h1)
        · exact ⟨i, by omega, h2, h3⟩
        · exact ⟨n, by omega, h, by simpa using h1⟩
      · rintro ⟨i, h1, h2, h3⟩
        by_cases e : i = n
        · subst e; exact .inr (by simp [h3])
        · exact .inl ⟨i, by omega, h2, h3⟩
    · rw [if_neg h, ih]
      constructor
      · rintro ⟨i, h1, h2, h3⟩; exact ⟨i, by omega, h2, h3⟩
      · rintro ⟨i, h1, h2, h3⟩
        by_cases e : i = n
        · subst e; exact absurd h2 h
        · exact ⟨i, by omega, h2, h3⟩

theorem many_sum {p : Plat} (hp : PlatOk p) {l : List Int} (h : IsP p l) : sumTo (manyF p l) l.length = manyC p l := by
  rw [h.1]
  unfold manyC
  have key : ∀ m, m ≤ p.ps.length → sumTo (manyF p l) m = Flow.cnt (fun i => decide (chgF p l i ≠ 0)) m := by
    intro m
    induction m with
    | zero => intro _; simp [sumTo, Flow.cnt]
    | succ m ih =>
      intro hm
      have ih := ih (by omega)
      have h1 := chgF_off hp h (i := m) (by omega)
      simp only [sumTo, Flow.cnt, ih, manyF]
      by_cases e : chgF p l m = 0
      · rw [if_neg (by simp [e])]; omega
      · rw [if_pos (by simp [e])]; omega
  exact key _ (Nat.le_refl _)

theorem maxTo_ge {f : Nat → Int} : ∀ {n i : Nat}, i < n → f i ≤ maxTo f n ∧ 0 ≤ maxTo f n
  | 0, i, h => by omega
  | n + 1, i, h => by
    simp only [maxTo]
    have h0 : 0 ≤ maxTo f n := by
      clear h
      induction n with
      | zero => simp [maxTo]
      | succ n ih => simp only [maxTo]; omega
    by_cases e : i = n
    · subst e; omega
    · have := (maxTo_ge (f := f) (n := n) (i := i) (by omega)).1; omega

theorem maxTo_nn {f : Nat → Int} (n : Nat) : 0 ≤ maxTo f n := by
  induction n with
  | zero => simp [maxTo]
  | succ n ih => simp only [maxTo]; omega

theorem smallest12 (p : Plat) (hn : NlOk p) (nl : Bool) (l : List Int) : Pure Try.prog 12 [encPlat p, .sl nl false (l.map cI)] (.bool true) := by
  by_cases hrd : ¬ FarP p ∧ PlatOk p
  · have hp := hrd.2
    have h8 := hp.n8
    have hr13 := ready_yes hrd
    by_cases hl : l.length ≤ 40
    · have g1 : ¬ ((40 : Int) < l.length) := by omega
      have g2 : ¬ (40 < l.length) := by omega
      by_cases hI : IsP p l
      · have h19 := is_c p nl false l hp (by omega) true (by simp [hI])
        have hll := hI.1
        have hf : Fe p := ⟨l, hI⟩
        obtain ⟨s, n, kk, R⟩ := res4_fe p hp hn.pn hf
        have h25 := R.p25
        have h37 := R.p37
        have h38 := R.p38
        have hab : ∃ a b : Nat → Int, ∀ k, k < p.ps.length → RangeP p k (a k) (b k) := by
          have h1 : ∀ k, ∃ ab : Int × Int, k < p.ps.length → RangeP p k ab.1 ab.2 := fun k => by
            by_cases hk : k < p.ps.length
            · obtain ⟨a, b, h⟩ := range_ex hf hk; exact ⟨(a, b), fun _ => h⟩
            · exact ⟨(0, 0), fun h => absurd h hk⟩
          exact ⟨fun k => (Classical.choose (h1 k)).1, fun k => (Classical.choose (h1 k)).2, fun k hk => Classical.choose_spec (h1 k) hk⟩
        obtain ⟨a, b, hab⟩ := hab
        have h30 := fixed_c p hp hn.pn hf a b hab
        obtain ⟨F, hF⟩ : ∃ F, F = fixTo (fun k => a k == b k) p.ps.length := ⟨_, rfl⟩
        rw [← hF] at h30
        have hFl : F.length ≤ 8 := by rw [hF]; have := fixTo_len (fun k => a k == b k) p.ps.length; omega
        have h35 := fills35 p nl l (by omega) (by have := hp.r4; omega) (by have := hp.c4; omega) hn.rn hn.cn 0 true (.inr (.inr ⟨by simp [hp], hll, rfl, by simp [hI]⟩))
        have hbd : Bd l := bd_of_ends hp hll hI.2.1
        have h44 := sum_c p nl false l (by omega) (by omega) hp.ps hbd
        have h45 := most_c p nl false l (by omega) (by omega) hp.ps hbd
        have h46 := many_c p nl false l (by omega) (by omega) hp.ps hbd
        have es : s ≤ sumTo (chgF p l) l.length := by have := R.hs.2 l hI; unfold sumC at this; rw [hll]; exact this
        have en : n ≤ maxTo (chgF p l) l.length := R.hw.2.2 l _ hI (maxTo_nn _) fun i hi => (maxTo_ge (by omega)).1
        have ek : (kk : Int) ≤ sumTo (manyF p l) l.length := by rw [many_sum hp hI]; have := R.hf.2 l hI; omega
        obtain ⟨S, hS⟩ : ∃ S, S = sumTo (chgF p l) l.length := ⟨_, rfl⟩
        obtain ⟨M, hM⟩ : ∃ M, M = maxTo (chgF p l) l.length := ⟨_, rfl⟩
        obtain ⟨K', hK'⟩ : ∃ K', K' = sumTo (manyF p l) l.length := ⟨_, rfl⟩
        rw [← hS] at h44 es
        rw [← hM] at h45 en
        rw [← hK'] at h46 ek
        have hs0 : ¬ s < 0 := by have := three_law hp R.hs R.hw R.hf R.k8 R.n99; omega
        have hn0 : ¬ n < 0 := by have := R.hw.1; omega
        have hk0 : ¬ (kk : Int) < 0 := by omega
        have u1 : ¬ S < s := by omega
        have u2 : ¬ M < n := by omega
        have u3 : ¬ K' < (kk : Int) := by omega
        have u4 : ¬ (40 : Int) < F.length := by omega
        have u5 : ¬ 40 < F.length := by omega
        refine pure_of (fn := Try.f12) [.tmp 4] ⟨Try.func12, rfl, by kernel_rfl⟩ (by kernel_rfl) (by kernel_rfl) (by kernel_rfl) fun x hx hσ => ?_
        repeat refine awp_seq ?_
        refine awp_reg1 (by rw [hx]; kernel_rfl) fun K hK => ?_
        simp (config := { maxSteps := 1000000 }) [ty25]
        refine hK _ ?_
        clear hK K
        first | show AWP _ _ _ _ _ | show ∃ _, _ | skip
        repeat refine awp_seq ?_
        refine awp_reg1 (by rw [hx]; kernel_rfl) fun K hK => ?_
        simp (config := { maxSteps := 1000000 }) [ty25, ty23, ty3, g1, g2]
        refine callP (hr13) (by first | (simp; done) | (simp [*]; done)) ?_
        simp (config := { maxSteps := 1000000 }) [ty25, ty23, ty3, g1, g2]
        refine callP (h19) (by first | (simp; done) | (simp [*]; done)) ?_
        simp (config := { maxSteps := 1000000 }) [ty25, ty23, ty3, g1, g2]
        refine hK _ ?_
        clear hK K
        first | show AWP _ _ _ _ _ | show ∃ _, _ | skip
        repeat refine awp_seq ?_
        refine awp_cond (by simp; rfl) (by rw [hx]; simp) (fun hd => ?_) (fun hd => ?_)
        · simp at hd
        clear hd
        refine awp_skip ?_
        first | show AWP _ _ _ _ _ | show ∃ _, _ | skip
        repeat refine awp_seq ?_
        refine awp_reg1 (by rw [hx]; kernel_rfl) fun K hK => ?_
        simp (config := { maxSteps := 1000000 }) [ty25]
        refine callP (h25) (by first | (simp; done) | (simp [*]; done)) ?_
        simp (config := { maxSteps := 1000000 }) []
        refine hK _ ?_
        clear hK K
        first | show AWP _ _ _ _ _ | show ∃ _, _ | skip
        repeat refine awp_seq ?_
        refine awp_reg1 (by rw [hx]; kernel_rfl) fun K hK => ?_
        simp (config := { maxSteps := 1000000 }) [ty25]
        refine callP (h37) (by first | (simp; done) | (simp [*]; done)) ?_
        simp (config := { maxSteps := 1000000 }) []
        refine hK _ ?_
        clear hK K
        first | show AWP _ _ _ _ _ | show ∃ _, _ | skip
        repeat refine awp_seq ?_
        refine awp_reg1 (by rw [hx]; kernel_rfl) fun K hK => ?_
        simp (config := { maxSteps := 1000000 }) [ty25]
        refine callP (h38) (by first | (simp; done) | (simp [*]; done)) ?_
        simp (config := { maxSteps := 1000000 }) []
        refine hK _ ?_
        clear hK K
        first | show AWP _ _ _ _ _ | show ∃ _, _ | skip
        repeat refine awp_seq ?_
        refine awp_reg1 (by rw [hx]; kernel_rfl) fun K hK => ?_
        simp (config := { maxSteps := 1000000 }) [ty25]
        refine callP (h30) (by first | (simp; done) | (simp [*]; done)) ?_
        simp (config := { maxSteps := 1000000 }) []
        refine hK _ ?_
        clear hK K
        first | show AWP _ _ _ _ _ | show ∃ _, _ | skip
        repeat refine awp_seq ?_
        refine awp_reg1 (by rw [hx]; kernel_rfl) fun K hK => ?_
        simp (config := { maxSteps := 1000000 }) [ty25]
        refine callP (h35) (by first | (simp; done) | (simp [*]; done)) ?_
        simp (config := { maxSteps := 1000000 }) []
        refine hK _ ?_
        clear hK K
        first | show AWP _ _ _ _ _ | show ∃ _, _ | skip
        repeat refine awp_seq ?_
        refine awp_reg1 (by rw [hx]; kernel_rfl) fun K hK => ?_
        simp (config := { maxSteps := 1000000 }) [ty30, ty3, ty25, ty23, hs0, hn0, hk0]
        refine callP (h44) (by first | (simp; done) | (simp [*]; done)) ?_
        simp (config := { maxSteps := 1000000 }) [ty30, ty3, ty25, ty23, u1, hn0]
        refine callP (h45) (by first | (simp; done) | (simp [*]; done)) ?_
        simp (config := { maxSteps := 1000000 }) [ty30, ty3, ty25, ty23, u2]
        refine callP (h46) (by first | (simp; done) | (simp [*]; done)) ?_
        simp (config := { maxSteps := 1000000 }) [ty30, ty3, ty25, ty23, u3, u4, u5]
        refine hK _ ?_
        clear hK K
        first | show AWP _ _ _ _ _ | show ∃ _, _ | skip
        repeat refine awp_seq ?_
        refine awp_cond (by simp; rfl) (by rw [hx]; simp) (fun hd => ?_) (fun hd => ?_)
        · simp at hd
        clear hd
        refine awp_skip ?_
        first | show AWP _ _ _ _ _ | show ∃ _, _ | skip
        repeat refine awp_seq ?_
        refine awp_reg1 (by rw [hx]; kernel_rfl) fun K hK => ?_
        simp (config := { maxSteps := 1000000 }) []
        refine hK _ ?_
        clear hK K
        first | show AWP _ _ _ _ _ | show ∃ _, _ | skip
        repeat refine awp_seq ?_
        refine awp_block ?_
        refine awp_loop (fun i : Nat => ⟨ofL [(1, .sl nl false (l.map cI)), (2, .ptr 2 3 0 0), (11, .sl F.isEmpty false (F.map cI)), (15, encI i)], stoT [(2, 2, .live (obPlat p))]⟩)
          (fun i => i ≤ l.length) (fun i => l.length - i) 0 (by simp) ?_ ?_
        · refine wk_shape (shp0 hσ (by simp) (by simp) ?_) ?_
          · simp [SlotOk]
            exact .same (plat_pure p)
          · simp [mtc, mtl, mT, C.isPure, purel]
        · intro i hi
          repeat refine awp_seq ?_
          refine awp_reg1 (by rw [hx]; kernel_rfl) fun K hK => ?_
          simp (config := { maxSteps := 1000000 }) [ty23, ty3]
          refine hK _ ?_
          clear hK K
          first | show AWP _ _ _ _ _ | show ∃ _, _ | skip
          repeat refine awp_seq ?_
          refine awp_cond (by simp; rfl) (by rw [hx]; simp) (fun hc => ?_) (fun hc => ?_)
          · simp at hc
            have hR := hab i (by omega)
            have h21 := range_c p hp hn.pn i (by omega) _ _ hR
            have hgi : l[i] = Flow.gi l i := by simp [Flow.gi, hc]
            have hr := hR.2.2 l hI
            rw [← hgi] at hr
            have v1 : ¬ l[i] < a i := by omega
            have v2 : ¬ b i < l[i] := by omega
            have h47 := in47 F.isEmpty false F i (by omega)
            have hmem : decide ((i : Int) ∈ F) = (a i == b i) := by
              have hm := fixTo_mem (fun k => a k == b k) i p.ps.length
              rw [← hF] at hm
              by_cases e : a i = b i
              · rw [decide_eq_true (hm.2 ⟨i, by omega, by simpa using e, rfl⟩)]; simp [e]
              · rw [decide_eq_false (fun h => by obtain ⟨j, h1, h2, h3⟩ := hm.1 h; have : i = j := by omega
                                                 subst this; exact e (by simpa using h2))]
                simp [e]
            rw [hmem] at h47
            refine awp_skip ?_
            first | show AWP _ _ _ _ _ | show ∃ _, _ | skip
            repeat refine awp_seq ?_
            refine awp_block ?_
            repeat refine awp_seq ?_
            refine awp_reg1 (by rw [hx]; kernel_rfl) fun K hK => ?_
            simp (config := { maxSteps := 1000000 }) [ty25]
            refine callP (h21) (by first | (simp; done) | (simp [*]; done)) ?_
            simp (config := { maxSteps := 1000000 }) [ty41, ty3]
            refine hK _ ?_
            clear hK K
            first | show AWP _ _ _ _ _ | show ∃ _, _ | skip
            repeat refine awp_seq ?_
            refine awp_drw3 [] [0, 1, 2, 3, 4, 5, 6, 7, 8, 9, 10, 11, 12, 13, 14, 15, 16, 17, 18, 19, 20, 21, 22, 23, 24, 25, 26, 27, 28, 29, 30] (by rw [hx]; kernel_rfl) (by kernel_rfl) (by kernel_rfl) (by kernel_rfl) fun K hK => ?_
            simp (config := { maxSteps := 1000000 }) [ty30, ty23, ty3, ty41, ty4, hc, v1, v2]
            refine callPD (h47) (by first | (simp; done) | (simp [*]; done)) (by simp) ?_
            simp (config := { maxSteps := 1000000 }) [ty30, ty23, ty3, ty41, ty4, hc, v1, v2]
            refine hK _ ?_
            clear hK K
            first | show AWP _ _ _ _ _ | show ∃ _, _ | skip
            repeat refine awp_seq ?_
            refine awp_cond (by simp; rfl) (by rw [hx]; simp) (fun hd => ?_) (fun hd => ?_)
            · simp at hd
            clear hd
            refine awp_skip ?_
            first | show AWP _ _ _ _ _ | show ∃ _, _ | skip
            repeat refine awp_seq ?_
            refine awp_reg1 (by rw [hx]; kernel_rfl) fun K hK => ?_
            simp (config := { maxSteps := 1000000 }) [ty3]
            refine hK _ ?_
            clear hK K
            first | show AWP _ _ _ _ _ | show ∃ _, _ | skip
            refine ⟨i + 1, by omega, by omega, ?_⟩
            refine wk_shape (T := [(2, 2, .live (obPlat p))]) (shp0 hσ (by simp) (by simp) ?_) ?_
            · simp [SlotOk]
              exact .same (plat_pure p)
            · simp [mtc, mtl, mT, C.isPure, purel]
              simp (disch := omega) [wrap_id]
          · simp at hc
            repeat refine awp_seq ?_
            refine awp_exit ?_
            first | show AWP _ _ _ _ _ | show ∃ _, _ | skip
            repeat refine awp_seq ?_
            refine awp_reg1 (by rw [hx]; kernel_rfl) fun K hK => ?_
            simp (config := { maxSteps := 1000000 }) []
            refine callP (works14) (by first | (simp; done) | (simp [*]; done)) ?_
            simp (config := { maxSteps := 1000000 }) []
            refine hK _ ?_
            clear hK K
            first | show AWP _ _ _ _ _ | show ∃ _, _ | skip
            repeat refine awp_seq ?_
            refine awp_ret ?_
            refine And.intro (Or.inr rfl) ?_
            simp [retC, resC, viewC, mapO]
      · have h19 := is_c p nl false l hp (by omega) false (by simp [hI])
        refine pure_of (fn := Try.f12) [.tmp 4] ⟨Try.func12, rfl, by kernel_rfl⟩ (by kernel_rfl) (by kernel_rfl) (by kernel_rfl) fun x hx hσ => ?_
        repeat refine awp_seq ?_
        refine awp_reg1 (by rw [hx]; kernel_rfl) fun K hK => ?_
        simp (config := { maxSteps := 1000000 }) [ty25]
        refine hK _ ?_
        clear hK K
        first | show AWP _ _ _ _ _ | show ∃ _, _ | skip
        repeat refine awp_seq ?_
        refine awp_reg1 (by rw [hx]; kernel_rfl) fun K hK => ?_
        simp (config := { maxSteps := 1000000 }) [ty25, ty23, ty3, g1, g2]
        refine callP (hr13) (by first | (simp; done) | (simp [*]; done)) ?_
        simp (config := { maxSteps := 1000000 }) [ty25, ty23, ty3, g1, g2]
        refine callP (h19) (by first | (simp; done) | (simp [*]; done)) ?_
        simp (config := { maxSteps := 1000000 }) [ty25, ty23, ty3, g1, g2]
        refine hK _ ?_
        clear hK K
        first | show AWP _ _ _ _ _ | show ∃ _, _ | skip
        repeat refine awp_seq ?_
        refine awp_cond (by simp; rfl) (by rw [hx]; simp) (fun hd => ?_) (fun hd => ?_)
        · repeat refine awp_seq ?_
          refine awp_reg1 (by rw [hx]; kernel_rfl) fun K hK => ?_
          simp (config := { maxSteps := 1000000 }) []
          refine callP (works14) (by first | (simp; done) | (simp [*]; done)) ?_
          simp (config := { maxSteps := 1000000 }) []
          refine hK _ ?_
          clear hK K
          first | show AWP _ _ _ _ _ | show ∃ _, _ | skip
          repeat refine awp_seq ?_
          refine awp_ret ?_
          refine And.intro (Or.inr rfl) ?_
          simp [retC, resC, viewC, mapO]
        · simp at hd
    · have g1 : ((40 : Int) < l.length) := by omega
      have g2 : (40 < l.length) := by omega
      refine pure_of (fn := Try.f12) [.tmp 4] ⟨Try.func12, rfl, by kernel_rfl⟩ (by kernel_rfl) (by kernel_rfl) (by kernel_rfl) fun x hx hσ => ?_
      repeat refine awp_seq ?_
      refine awp_reg1 (by rw [hx]; kernel_rfl) fun K hK => ?_
      simp (config := { maxSteps := 1000000 }) [ty25]
      refine hK _ ?_
      clear hK K
      first | show AWP _ _ _ _ _ | show ∃ _, _ | skip
      repeat refine awp_seq ?_
      refine awp_reg1 (by rw [hx]; kernel_rfl) fun K hK => ?_
      simp (config := { maxSteps := 1000000 }) [ty25, ty23, ty3, g1, g2]
      refine callP (hr13) (by first | (simp; done) | (simp [*]; done)) ?_
      simp (config := { maxSteps := 1000000 }) [ty25, ty23, ty3, g1, g2]
      refine hK _ ?_
      clear hK K
      first | show AWP _ _ _ _ _ | show ∃ _, _ | skip
      repeat refine awp_seq ?_
      refine awp_cond (by simp; rfl) (by rw [hx]; simp) (fun hd => ?_) (fun hd => ?_)
      · repeat refine awp_seq ?_
        refine awp_reg1 (by rw [hx]; kernel_rfl) fun K hK => ?_
        simp (config := { maxSteps := 1000000 }) []
        refine callP (works14) (by first | (simp; done) | (simp [*]; done)) ?_
        simp (config := { maxSteps := 1000000 }) []
        refine hK _ ?_
        clear hK K
        first | show AWP _ _ _ _ _ | show ∃ _, _ | skip
        repeat refine awp_seq ?_
        refine awp_ret ?_
        refine And.intro (Or.inr rfl) ?_
        simp [retC, resC, viewC, mapO]
      · simp at hd
  · have hr13 := ready_no hrd
    refine pure_of (fn := Try.f12) [.tmp 4] ⟨Try.func12, rfl, by kernel_rfl⟩ (by kernel_rfl) (by kernel_rfl) (by kernel_rfl) fun x hx hσ => ?_
    repeat refine awp_seq ?_
    refine awp_reg1 (by rw [hx]; kernel_rfl) fun K hK => ?_
    simp (config := { maxSteps := 1000000 }) [ty25]
    refine hK _ ?_
    clear hK K
    first | show AWP _ _ _ _ _ | show ∃ _, _ | skip
    repeat refine awp_seq ?_
    refine awp_reg1 (by rw [hx]; kernel_rfl) fun K hK => ?_
    simp (config := { maxSteps := 1000000 }) [ty25, ty23, ty3]
    refine callP (hr13) (by first | (simp; done) | (simp [*]; done)) ?_
    simp (config := { maxSteps := 1000000 }) [ty25, ty23, ty3]
    refine hK _ ?_
    clear hK K
    first | show AWP _ _ _ _ _ | show ∃ _, _ | skip
    repeat refine awp_seq ?_
    refine awp_cond (by simp; rfl) (by rw [hx]; simp) (fun hd => ?_) (fun hd => ?_)
    · repeat refine awp_seq ?_
      refine awp_reg1 (by rw [hx]; kernel_rfl) fun K hK => ?_
      simp (config := { maxSteps := 1000000 }) []
      refine callP (works14) (by first | (simp; done) | (simp [*]; done)) ?_
      simp (config := { maxSteps := 1000000 }) []
      refine hK _ ?_
      clear hK K
      first | show AWP _ _ _ _ _ | show ∃ _, _ | skip
      repeat refine awp_seq ?_
      refine awp_ret ?_
      refine And.intro (Or.inr rfl) ?_
      simp [retC, resC, viewC, mapO]
    · simp at hd

end Go.Proofs.Ytgcmjidphcafnaa

namespace Go.Proofs.Ytgcmjidphcafnaa
open Go Go.Abs

set_option maxHeartbeats 2000000

-- plats that answer alike

/-- An adjustment of one plat and one of another that changes as much. -/
def Rel (p q : Plat) (i j : Nat) (l l' : List Int) : Prop :=
  IsP q l' ∧ sumC q l' = sumC p l ∧ manyC q l' = manyC p l ∧ (∀ n, (∀ x, x < p.ps.length → chgF p l x ≤ n) → ∀ x, x < q.ps.length → chgF q l' x ≤ n) ∧ Flow.gi l' j = Flow.gi l i

theorem rel_le {p q : Plat} {i j : Nat} (h : ∀ l, IsP p l → ∃ l', Rel p q i j l l') {s s2 n n2 : Int} {kk k2 : Nat} {a b c d : Int}
    (h1 : MinS p s) (h2 : MinW p n) (h3 : MinF p kk) (h4 : RangeP p i a b) (g1 : MinS q s2) (g2 : MinW q n2) (g3 : MinF q k2) (g4 : RangeP q j c d) :
    s2 ≤ s ∧ n2 ≤ n ∧ k2 ≤ kk ∧ c ≤ a ∧ b ≤ d := by
  obtain ⟨⟨l1, e1, e1'⟩, _⟩ := h1
  obtain ⟨hn0, ⟨l2, e2, e2'⟩, _⟩ := h2
  obtain ⟨⟨l3, e3, e3'⟩, _⟩ := h3
  obtain ⟨⟨l4, e4, e4'⟩, ⟨l5, e5, e5'⟩, _⟩ := h4
  obtain ⟨m1, r1⟩ := h l1 e1
  obtain ⟨m2, r2⟩ := h l2 e2
  obtain ⟨m3, r3⟩ := h l3 e3
  obtain ⟨m4, r4⟩ := h l4 e4
  obtain ⟨m5, r5⟩ := h l5 e5
  refine ⟨?_, ?_, ?_, ?_, ?_⟩
  · have := g1.2 m1 r1.1; have := r1.2.1; omega
  · exact g2.2.2 m2 n r2.1 hn0 (r2.2.2.2.1 n e2')
  · have := g3.2 m3 r3.1; have := r3.2.2.1; omega
  · have := g4.2.2 m4 r4.1; have := r4.2.2.2.2; omega
  · have := g4.2.2 m5 r5.1; have := r5.2.2.2.2; omega

theorem rel_fe {p q : Plat} {i j : Nat} (h : ∀ l, IsP p l → ∃ l', Rel p q i j l l') (hf : Fe p) : Fe q := by
  obtain ⟨l, hl⟩ := hf
  obtain ⟨l', hr⟩ := h l hl
  exact ⟨l', hr.1⟩

theorem chain_fe (p : Plat) (hp : PlatOk p) (hf : Fe p) : Pure Try.prog 15 [encPlat p] (.tup [.sl true true [], .sl true true [], encI 3]) := by
  obtain ⟨o, h1, h2⟩ := chain_c p hp
  match o, h1, h2 with
  | none, h1, _ => exact h1
  | some (r, c), _, h2 =>
    obtain ⟨l, hl⟩ := hf
    exact (set_none hp.w h2.2.2 hl).elim

theorem chain_no (p : Plat) (hp : PlatOk p) (hf : ¬ Fe p) : ∃ r c, Pure Try.prog 15 [encPlat p] (.tup [encSet r, encSet c, encI 0]) := by
  obtain ⟨o, h1, h2⟩ := chain_c p hp
  match o, h1, h2 with
  | some (r, c), h1, _ => exact ⟨r, c, h1⟩
  | none, _, h2 =>
    obtain ⟨r, _, hr⟩ := settle_c p hp.w
    cases r with
    | some l => exact absurd ⟨l, hr.1⟩ hf
    | none =>
      obtain ⟨⟨r, c, e1, e2, e3⟩, _⟩ := hr
      exact absurd e3 (h2 r e1 c e2)

-- rows and columns change places

def swapC (q : Pc) : Pc := ⟨q.col, q.row, q.area, q.off⟩
theorem swapC_swapC (q : Pc) : swapC (swapC q) = q := rfl

theorem pcA_flip {p q : Plat} (h : q.ps = p.ps.map swapC) (i : Nat) : pcA q i = swapC (pcA p i) := by
  simp only [pcA, h, List.getElem?_map]
  cases p.ps[i]? <;> rfl

theorem rel_flip {p q : Plat} (h : q.ps = p.ps.map swapC) (h2 : q.rows = p.cols) (h3 : q.cols = p.rows) (i : Nat) (l : List Int) (hl : IsP p l) : Rel p q i i l l := by
  have elen : q.ps.length = p.ps.length := by rw [h]; simp
  have ec : ∀ x, chgF q l x = chgF p l x := fun x => by rw [chgF_eq, chgF_eq, pcA_flip h]; rfl
  have ef : chgF q l = chgF p l := funext ec
  refine ⟨⟨by rw [elen]; exact hl.1, fun x hx => ?_, ?_, ?_⟩, ?_, ?_, ?_, rfl⟩
  · have := hl.2.1 x hx
    have e := pcA_flip h x
    simp only [pcA] at e
    rw [e]; exact this
  · intro r hr
    rw [h2] at hr ⊢
    rw [← hl.2.2.2 r hr]
    refine sumTo_congr fun x _ => ?_
    have e := pcA_flip h x
    simp only [pcA] at e
    unfold rowF colF
    rw [e]; rfl
  · intro r hr
    rw [h3] at hr ⊢
    rw [← hl.2.2.1 r hr]
    refine sumTo_congr fun x _ => ?_
    have e := pcA_flip h x
    simp only [pcA] at e
    unfold rowF colF
    rw [e]; rfl
  · unfold sumC; rw [elen, ef]
  · unfold manyC; rw [elen, ef]
  · intro n hn x hx; rw [ef]; exact hn x (by omega)

-- the parcels move round

theorem sumTo_add {f : Nat → Int} (a : Nat) : ∀ b, sumTo f (a + b) = sumTo f a + sumTo (fun x => f (a + x)) b
  | 0 => by simp [sumTo]
  | b + 1 => by
    have := sumTo_add (f := f) a b
    show sumTo f (a + b) + f (a + b) = _
    simp only [sumTo]
    omega

theorem sum_rot (f : Nat → Int) (N t : Nat) : sumTo (fun x => f ((x + t) % N)) N = sumTo f N := by
  by_cases hN : N = 0
  · subst hN; rfl
  · obtain ⟨u, hu⟩ : ∃ u, u = t % N := ⟨_, rfl⟩
    have hlt : u < N := by rw [hu]; exact Nat.mod_lt _ (by omega)
    have e : ∀ x, f ((x + t) % N) = f ((x + u) % N) := fun x => by rw [hu, Nat.add_mod_mod]
    have e1 : sumTo (fun x => f ((x + t) % N)) N = sumTo (fun x => f ((x + u) % N)) ((N - u) + u) := by
      rw [show (N - u) + u = N by omega]
      exact sumTo_congr fun x _ => e x
    rw [e1, sumTo_add]
    have a1 : sumTo (fun x => f ((x + u) % N)) (N - u) = sumTo (fun x => f (u + x)) (N - u) := sumTo_congr fun x hx => by
      rw [Nat.mod_eq_of_lt (by omega), Nat.add_comm]
    have a2 : sumTo (fun x => f ((N - u + x + u) % N)) u = sumTo f u := sumTo_congr fun x hx => by
      have : (N - u + x + u) % N = x := by
        rw [show N - u + x + u = x + N by omega, Nat.add_mod_right, Nat.mod_eq_of_lt (by omega)]
      rw [this]
    rw [a1, a2]
    have := sumTo_add (f := f) u (N - u)
    rw [show u + (N - u) = N by omega] at this
    omega

def rotL (l : List Int) (N t : Nat) : List Int := (List.range N).map fun x => Flow.gi l ((x + t) % N)

theorem rotL_get {l : List Int} {N t x : Nat} (hx : x < N) : Flow.gi (rotL l N t) x = Flow.gi l ((x + t) % N) := by
  simp only [rotL]
  simp [Flow.gi, hx]

theorem rel_rot {p q : Plat} (hp : PlatOk p) (hq : PlatOk q) {t : Nat} (hlen : q.ps.length = p.ps.length) (h : ∀ x, x < p.ps.length → pcA q x = pcA p ((x + t) % p.ps.length)) (h2 : q.rows = p.rows) (h3 : q.cols = p.cols) {j : Nat} (hj : j < p.ps.length)
    (l : List Int) (hl : IsP p l) : Rel p q ((j + t) % p.ps.length) j l (rotL l p.ps.length t) := by
  have hl1 : (rotL l p.ps.length t).length = p.ps.length := by simp [rotL]
  have hmod : ∀ x, x < p.ps.length → (x + t) % p.ps.length < p.ps.length := fun x hx => Nat.mod_lt _ (by omega)
  have hg : ∀ x, x < p.ps.length → (rotL l p.ps.length t)[x]?.getD 0 = l[(x + t) % p.ps.length]?.getD 0 := fun x hx => rotL_get hx
  have ec : ∀ x, x < p.ps.length → chgF q (rotL l p.ps.length t) x = chgF p l ((x + t) % p.ps.length) := fun x hx => by
    rw [chgF_eq, chgF_eq, h x hx, rotL_get hx]
  have hI : IsP q (rotL l p.ps.length t) := by
    refine ⟨by rw [hl1, hlen], fun x hx => ?_, ?_, ?_⟩
    · rw [hl1] at hx
      have := hl.2.1 ((x + t) % p.ps.length) (by rw [hl.1]; exact hmod x hx)
      have e := h x hx
      simp only [pcA] at e
      rw [e, hg x hx]; exact this
    · intro r hr
      rw [h2] at hr ⊢
      rw [← hl.2.2.1 r hr, hl1, hl.1, ← sum_rot (rowF p l r) p.ps.length t]
      refine sumTo_congr fun x hx => ?_
      have e := h x hx
      simp only [pcA] at e
      unfold rowF
      rw [e, hg x hx]
    · intro r hr
      rw [h3] at hr ⊢
      rw [← hl.2.2.2 r hr, hl1, hl.1, ← sum_rot (colF p l r) p.ps.length t]
      refine sumTo_congr fun x hx => ?_
      have e := h x hx
      simp only [pcA] at e
      unfold colF
      rw [e, hg x hx]
  refine ⟨hI, ?_, ?_, ?_, rotL_get hj⟩
  · unfold sumC
    rw [hlen, ← sum_rot (chgF p l) p.ps.length t]
    exact sumTo_congr ec
  · have a1 := many_sum hq hI
    have a2 := many_sum hp hl
    rw [hl1] at a1
    rw [hl.1, ← sum_rot (manyF p l) p.ps.length t] at a2
    have : sumTo (manyF q (rotL l p.ps.length t)) p.ps.length = sumTo (fun x => manyF p l ((x + t) % p.ps.length)) p.ps.length := sumTo_congr fun x hx => by
      unfold manyF; rw [ec x hx]
    rw [this] at a1
    omega
  · intro n hn x hx
    rw [hlen] at hx
    rw [ec x hx]
    exact hn _ (hmod x hx)

theorem rot_back {N t x : Nat} (hx : x < N) : ((x + (N - t % N)) % N + t) % N = x := by
  have ht : t % N < N := Nat.mod_lt _ (by omega)
  have h1 : ((x + (N - t % N)) % N + t) % N = (x + (N - t % N) + t) % N := Nat.mod_add_mod _ _ _
  have h2 : t = N * (t / N) + t % N := (Nat.div_add_mod t N).symm
  rw [h1]
  have h3 : x + (N - t % N) + t = x + N + N * (t / N) := by omega
  rw [h3, Nat.add_mul_mod_self_left, Nat.add_mod_right, Nat.mod_eq_of_lt hx]

end Go.Proofs.Ytgcmjidphcafnaa

namespace Go.Proofs.Ytgcmjidphcafnaa
open Go Go.Abs

set_option maxHeartbeats 4000000
set_option maxRecDepth 100000


theorem alike39 (p q : Plat) (hp : PlatOk p) (hq : PlatOk q) (hpn : p.pn = true → p.ps = []) (hqn : q.pn = true → q.ps = []) (i j : Nat) (hi : i < p.ps.length) (hj : j < q.ps.length)
    (h1 : ∀ l, IsP p l → ∃ l', Rel p q i j l l') (h2 : ∀ l, IsP q l → ∃ l', Rel q p j i l l') : Pure Try.prog 39 [encPlat p, encPlat q, encI i, encI j] (.bool true) := by
  by_cases hf : Fe p
  · have hfq : Fe q := rel_fe h1 hf
    obtain ⟨s, n, kk, R⟩ := res4_fe p hp hpn hf
    obtain ⟨s2, n2, k2, Q⟩ := res4_fe q hq hqn hfq
    obtain ⟨a, b, hR⟩ := range_ex hf hi
    obtain ⟨c, d, hQ⟩ := range_ex hfq hj
    have z := rel_le h1 R.hs R.hw R.hf hR Q.hs Q.hw Q.hf hQ
    have y := rel_le h2 Q.hs Q.hw Q.hf hQ R.hs R.hw R.hf hR
    obtain rfl : s = s2 := by omega
    obtain rfl : n = n2 := by omega
    obtain rfl : kk = k2 := by omega
    obtain rfl : a = c := by omega
    obtain rfl : b = d := by omega
    have p25 := R.p25
    have p37 := R.p37
    have p38 := R.p38
    have q25 := Q.p25
    have q37 := Q.p37
    have q38 := Q.p38
    have p21 := range_c p hp hpn i hi a b hR
    have q21 := range_c q hq hqn j hj a b hQ
    have p15 := chain_fe p hp hf
    have q15 := chain_fe q hq hfq
    refine pure_of (fn := Try.f39) [.tmp 8] ⟨Try.func39, rfl, by kernel_rfl⟩ (by kernel_rfl) (by kernel_rfl) (by kernel_rfl) fun x hx hσ => ?_
    repeat refine awp_seq ?_
    refine awp_reg1 (by rw [hx]; kernel_rfl) fun K hK => ?_
    simp (config := { maxSteps := 1000000 }) [ty25]
    refine hK _ ?_
    clear hK K
    first | show AWP _ _ _ _ _ | show ∃ _, _ | skip
    repeat refine awp_seq ?_
    refine awp_reg1 (by rw [hx]; kernel_rfl) fun K hK => ?_
    simp (config := { maxSteps := 1000000 }) [ty25]
    refine callP (p25) (by first | (simp; done) | (simp [*]; done)) ?_
    simp (config := { maxSteps := 1000000 }) []
    refine hK _ ?_
    clear hK K
    first | show AWP _ _ _ _ _ | show ∃ _, _ | skip
    repeat refine awp_seq ?_
    refine awp_reg1 (by rw [hx]; kernel_rfl) fun K hK => ?_
    simp (config := { maxSteps := 1000000 }) [ty25]
    refine callP (q25) (by first | (simp; done) | (simp [*]; done)) ?_
    simp (config := { maxSteps := 1000000 }) []
    refine hK _ ?_
    clear hK K
    first | show AWP _ _ _ _ _ | show ∃ _, _ | skip
    repeat refine awp_seq ?_
    refine awp_reg1 (by rw [hx]; kernel_rfl) fun K hK => ?_
    simp (config := { maxSteps := 1000000 }) [ty25]
    refine callP (p37) (by first | (simp; done) | (simp [*]; done)) ?_
    simp (config := { maxSteps := 1000000 }) []
    refine hK _ ?_
    clear hK K
    first | show AWP _ _ _ _ _ | show ∃ _, _ | skip
    repeat refine awp_seq ?_
    refine awp_reg1 (by rw [hx]; kernel_rfl) fun K hK => ?_
    simp (config := { maxSteps := 1000000 }) [ty25]
    refine callP (q37) (by first | (simp; done) | (simp [*]; done)) ?_
    simp (config := { maxSteps := 1000000 }) []
    refine hK _ ?_
    clear hK K
    first | show AWP _ _ _ _ _ | show ∃ _, _ | skip
    repeat refine awp_seq ?_
    refine awp_reg1 (by rw [hx]; kernel_rfl) fun K hK => ?_
    simp (config := { maxSteps := 1000000 }) [ty25]
    refine callP (p38) (by first | (simp; done) | (simp [*]; done)) ?_
    simp (config := { maxSteps := 1000000 }) []
    refine hK _ ?_
    clear hK K
    first | show AWP _ _ _ _ _ | show ∃ _, _ | skip
    repeat refine awp_seq ?_
    refine awp_reg1 (by rw [hx]; kernel_rfl) fun K hK => ?_
    simp (config := { maxSteps := 1000000 }) [ty25]
    refine callP (q38) (by first | (simp; done) | (simp [*]; done)) ?_
    simp (config := { maxSteps := 1000000 }) []
    refine hK _ ?_
    clear hK K
    first | show AWP _ _ _ _ _ | show ∃ _, _ | skip
    repeat refine awp_seq ?_
    refine awp_reg1 (by rw [hx]; kernel_rfl) fun K hK => ?_
    simp (config := { maxSteps := 1000000 }) [ty25]
    refine callP (p21) (by first | (simp; done) | (simp [*]; done)) ?_
    simp (config := { maxSteps := 1000000 }) [ty41, ty3]
    refine hK _ ?_
    clear hK K
    first | show AWP _ _ _ _ _ | show ∃ _, _ | skip
    repeat refine awp_seq ?_
    refine awp_reg1 (by rw [hx]; kernel_rfl) fun K hK => ?_
    simp (config := { maxSteps := 1000000 }) [ty25]
    refine callP (q21) (by first | (simp; done) | (simp [*]; done)) ?_
    simp (config := { maxSteps := 1000000 }) [ty41, ty3]
    refine hK _ ?_
    clear hK K
    first | show AWP _ _ _ _ _ | show ∃ _, _ | skip
    repeat refine awp_seq ?_
    refine awp_reg1 (by rw [hx]; kernel_rfl) fun K hK => ?_
    simp (config := { maxSteps := 1000000 }) [ty25]
    refine callP (p15) (by first | (simp; done) | (simp [*]; done)) ?_
    simp (config := { maxSteps := 1000000 }) []
    refine hK _ ?_
    clear hK K
    first | show AWP _ _ _ _ _ | show ∃ _, _ | skip
    repeat refine awp_seq ?_
    refine awp_reg1 (by rw [hx]; kernel_rfl) fun K hK => ?_
    simp (config := { maxSteps := 1000000 }) [ty25]
    refine callP (q15) (by first | (simp; done) | (simp [*]; done)) ?_
    simp (config := { maxSteps := 1000000 }) []
    refine hK _ ?_
    clear hK K
    first | show AWP _ _ _ _ _ | show ∃ _, _ | skip
    repeat refine awp_seq ?_
    refine awp_reg1 (by rw [hx]; kernel_rfl) fun K hK => ?_
    simp (config := { maxSteps := 1000000 }) [ty3, ty30, ty41, fe41, eqInts]
    refine hK _ ?_
    clear hK K
    first | show AWP _ _ _ _ _ | show ∃ _, _ | skip
    repeat refine awp_seq ?_
    refine awp_ret ?_
    refine And.intro (Or.inr rfl) ?_
    simp [retC, resC, viewC, mapO]
  · have hfq : ¬ Fe q := fun h => hf (rel_fe h2 h)
    obtain ⟨p25, p37, p38⟩ := res4_no p hp hpn hf
    obtain ⟨q25, q37, q38⟩ := res4_no q hq hqn hfq
    have p21 := range_none p hp i hi hf
    have q21 := range_none q hq j hj hfq
    obtain ⟨r, c, p15⟩ := chain_no p hp hf
    obtain ⟨r', c', q15⟩ := chain_no q hq hfq
    unfold encSet at p15 q15
    refine pure_of (fn := Try.f39) [.tmp 8] ⟨Try.func39, rfl, by kernel_rfl⟩ (by kernel_rfl) (by kernel_rfl) (by kernel_rfl) fun x hx hσ => ?_
    repeat refine awp_seq ?_
    refine awp_reg1 (by rw [hx]; kernel_rfl) fun K hK => ?_
    simp (config := { maxSteps := 1000000 }) [ty25]
    refine hK _ ?_
    clear hK K
    first | show AWP _ _ _ _ _ | show ∃ _, _ | skip
    repeat refine awp_seq ?_
    refine awp_reg1 (by rw [hx]; kernel_rfl) fun K hK => ?_
    simp (config := { maxSteps := 1000000 }) [ty25]
    refine callP (p25) (by first | (simp; done) | (simp [*]; done)) ?_
    simp (config := { maxSteps := 1000000 }) []
    refine hK _ ?_
    clear hK K
    first | show AWP _ _ _ _ _ | show ∃ _, _ | skip
    repeat refine awp_seq ?_
    refine awp_reg1 (by rw [hx]; kernel_rfl) fun K hK => ?_
    simp (config := { maxSteps := 1000000 }) [ty25]
    refine callP (q25) (by first | (simp; done) | (simp [*]; done)) ?_
    simp (config := { maxSteps := 1000000 }) []
    refine hK _ ?_
    clear hK K
    first | show AWP _ _ _ _ _ | show ∃ _, _ | skip
    repeat refine awp_seq ?_
    refine awp_reg1 (by rw [hx]; kernel_rfl) fun K hK => ?_
    simp (config := { maxSteps := 1000000 }) [ty25]
    refine callP (p37) (by first | (simp; done) | (simp [*]; done)) ?_
    simp (config := { maxSteps := 1000000 }) []
    refine hK _ ?_
    clear hK K
    first | show AWP _ _ _ _ _ | show ∃ _, _ | skip
    repeat refine awp_seq ?_
    refine awp_reg1 (by rw [hx]; kernel_rfl) fun K hK => ?_
    simp (config := { maxSteps := 1000000 }) [ty25]
    refine callP (q37) (by first | (simp; done) | (simp [*]; done)) ?_
    simp (config := { maxSteps := 1000000 }) []
    refine hK _ ?_
    clear hK K
    first | show AWP _ _ _ _ _ | show ∃ _, _ | skip
    repeat refine awp_seq ?_
    refine awp_reg1 (by rw [hx]; kernel_rfl) fun K hK => ?_
    simp (config := { maxSteps := 1000000 }) [ty25]
    refine callP (p38) (by first | (simp; done) | (simp [*]; done)) ?_
    simp (config := { maxSteps := 1000000 }) []
    refine hK _ ?_
    clear hK K
    first | show AWP _ _ _ _ _ | show ∃ _, _ | skip
    repeat refine awp_seq ?_
    refine awp_reg1 (by rw [hx]; kernel_rfl) fun K hK => ?_
    simp (config := { maxSteps := 1000000 }) [ty25]
    refine callP (q38) (by first | (simp; done) | (simp [*]; done)) ?_
    simp (config := { maxSteps := 1000000 }) []
    refine hK _ ?_
    clear hK K
    first | show AWP _ _ _ _ _ | show ∃ _, _ | skip
    repeat refine awp_seq ?_
    refine awp_reg1 (by rw [hx]; kernel_rfl) fun K hK => ?_
    simp (config := { maxSteps := 1000000 }) [ty25]
    refine callP (p21) (by first | (simp; done) | (simp [*]; done)) ?_
    simp (config := { maxSteps := 1000000 }) [ty41, ty3]
    refine hK _ ?_
    clear hK K
    first | show AWP _ _ _ _ _ | show ∃ _, _ | skip
    repeat refine awp_seq ?_
    refine awp_reg1 (by rw [hx]; kernel_rfl) fun K hK => ?_
    simp (config := { maxSteps := 1000000 }) [ty25]
    refine callP (q21) (by first | (simp; done) | (simp [*]; done)) ?_
    simp (config := { maxSteps := 1000000 }) [ty41, ty3]
    refine hK _ ?_
    clear hK K
    first | show AWP _ _ _ _ _ | show ∃ _, _ | skip
    repeat refine awp_seq ?_
    refine awp_reg1 (by rw [hx]; kernel_rfl) fun K hK => ?_
    simp (config := { maxSteps := 1000000 }) [ty25]
    refine callP (p15) (by first | (simp; done) | (simp [*]; done)) ?_
    simp (config := { maxSteps := 1000000 }) []
    refine hK _ ?_
    clear hK K
    first | show AWP _ _ _ _ _ | show ∃ _, _ | skip
    repeat refine awp_seq ?_
    refine awp_reg1 (by rw [hx]; kernel_rfl) fun K hK => ?_
    simp (config := { maxSteps := 1000000 }) [ty25]
    refine callP (q15) (by first | (simp; done) | (simp [*]; done)) ?_
    simp (config := { maxSteps := 1000000 }) []
    refine hK _ ?_
    clear hK K
    first | show AWP _ _ _ _ _ | show ∃ _, _ | skip
    repeat refine awp_seq ?_
    refine awp_reg1 (by rw [hx]; kernel_rfl) fun K hK => ?_
    simp (config := { maxSteps := 1000000 }) [ty3, ty30, ty41, fe41, eqInts]
    refine hK _ ?_
    clear hK K
    first | show AWP _ _ _ _ _ | show ∃ _, _ | skip
    repeat refine awp_seq ?_
    refine awp_ret ?_
    refine And.intro (Or.inr rfl) ?_
    simp [retC, resC, viewC, mapO]

end Go.Proofs.Ytgcmjidphcafnaa

namespace Go.Proofs.Ytgcmjidphcafnaa
open Go Go.Abs

set_option maxHeartbeats 4000000
set_option maxRecDepth 100000

def fFlip (_ : Nat) (q : Pc) : Pc := swapC q
def fRot (p : Plat) (t : Nat) (i : Nat) (_ : Pc) : Pc := pcA p ((i + t) % p.ps.length)

def toF (N t k : Nat) : Nat → Int
  | 0 => 0
  | n + 1 => if (n + t) % N = k then n else toF N t k n

theorem exq9 (B : Nat) (q : Nat) (h1 : mkB B ≤ q) : 100000 ≤ q := by unfold mkB at h1; omega

theorem toF_eq {N t k j : Nat} (hj : j < N) (hk : (j + t) % N = k) : toF N t k N = j := by
  have uniq : ∀ x, x < N → (x + t) % N = k → x = j := by
    intro x hx h
    have e1 := rot_back (N := N) (t := t) (x := x) hx
    have e2 := rot_back (N := N) (t := t) (x := j) hj
    have key : ∀ y, y < N → ((y + t) % N + (N - t % N)) % N = y := by
      intro y hy
      have ht : t % N < N := Nat.mod_lt _ (by omega)
      have h2 : t = N * (t / N) + t % N := (Nat.div_add_mod t N).symm
      rw [Nat.mod_add_mod]
      have h3 : y + t + (N - t % N) = y + N + N * (t / N) := by omega
      rw [h3, Nat.add_mul_mod_self_left, Nat.add_mod_right, Nat.mod_eq_of_lt hy]
    rw [← key x hx, ← key j hj, h, hk]
  have go : ∀ n, n ≤ N → toF N t k n = if j < n then (j : Int) else 0 := by
    intro n
    induction n with
    | zero => intro _; simp [toF]
    | succ n ih =>
      intro hn
      simp only [toF]
      rw [ih (by omega)]
      by_cases e : (n + t) % N = k
      · have := uniq n (by omega) e
        subst this
        rw [if_pos e, if_pos (by omega)]
      · rw [if_neg e]
        by_cases e2 : j < n
        · rw [if_pos e2, if_pos (by omega)]
        · rw [if_neg e2]
          by_cases e3 : j = n
          · subst e3; exact absurd hk e
          · rw [if_neg (by omega)]
  rw [go N (Nat.le_refl N), if_pos hj]

theorem viewC_flip {σ : Nat → Slot} {n k1 n1 : Nat} {ps : List Pc} {rows cols : List Int} {a b : Bool} (h1 : σ k1 = .live (pcsOb true ps)) (e1 : n1 = ps.length) :
    viewC σ (n + 2) (.agg [.own k1 4 0 n1, .sl a false (rows.map cI), .sl b false (cols.map cI)]) = some (encPlat ⟨false, a, b, ps, rows, cols⟩) := by
  unfold viewC
  rw [if_neg (by simp [C.isPure, purel])]
  simp only [mapO]
  rw [viewC_own (o := pcsOb true ps) h1 rfl (by simp [e1]) (pcs_pure _), viewC_self (by simp [C.isPure]), viewC_self (by simp [C.isPure])]
  simp

theorem mapO_four {f : C → Option C} {a b c d a' b' c' d' : C} (h : f a = some a') (h2 : f b = some b') (h3 : f c = some c') (h4 : f d = some d') : mapO f [a, b, c, d] = some [a', b', c', d'] := by simp [mapO, h, h2, h3, h4]

@[simp] abbrev flipBox (p : Plat) : Ob := ⟨false, false, 3, [[.own 5001 4 0 p.ps.length, .sl p.cn false (p.cols.map cI), .sl p.rn false (p.rows.map cI)]]⟩

theorem mapFlip (ps : List Pc) : mapTo fFlip ps ps.length = ps.map swapC := by
  apply List.ext_getElem?
  intro j
  by_cases hj : j < ps.length
  · rw [mapTo_get _ _ _ hj, if_pos hj]
    simp [fFlip, hj]
  · rw [List.getElem?_eq_none (by simpa using hj), List.getElem?_eq_none (by simpa using hj)]

theorem mem_flip {p : Plat} {q : Pc} (h : q ∈ p.ps.map swapC) : ∃ r, r ∈ p.ps ∧ q = swapC r := by
  obtain ⟨r, h1, h2⟩ := List.mem_map.1 h
  exact ⟨r, h1, h2.symm⟩

theorem flip_like (p : Plat) (hp : PlatOk p) (hn : NlOk p) (k : Nat) (hk : k < p.ps.length) : Pure Try.prog 39 [encPlat p, encPlat ⟨false, p.cn, p.rn, mapTo fFlip p.ps p.ps.length, p.cols, p.rows⟩, encI k, encI k] (.bool true) := by
  rw [mapFlip]
  have hq : PlatOk ⟨false, p.cn, p.rn, p.ps.map swapC, p.cols, p.rows⟩ := by
    refine ⟨by simpa using hp.n8, hp.c4, hp.r4, hp.cols, hp.rows, fun q h => ?_, fun q h => ?_, fun q h => ?_⟩
    · obtain ⟨r, h1, rfl⟩ := mem_flip h
      have := hp.ps r h1
      unfold PcOk at this ⊢
      unfold swapC
      simp only
      omega
    · obtain ⟨r, h1, rfl⟩ := mem_flip h
      exact hp.cc r h1
    · obtain ⟨r, h1, rfl⟩ := mem_flip h
      exact hp.rr r h1
  refine alike39 p _ hp hq hn.pn (fun h => by simp at h) k k hk (by simpa using hk) (fun l hl => ⟨l, rel_flip rfl rfl rfl k l hl⟩) (fun l hl => ⟨l, rel_flip ?_ rfl rfl k l hl⟩)
  show p.ps = (p.ps.map swapC).map swapC
  rw [List.map_map, show swapC ∘ swapC = id from funext fun q => rfl, List.map_id]

theorem rot_like (p : Plat) (hp : PlatOk p) (hn : NlOk p) (t k j : Nat) (hk : k < p.ps.length) (hj : j < p.ps.length) (hjk : (j + t) % p.ps.length = k) : Pure Try.prog 39 [encPlat p, encPlat (cpP (mapTo (fRot p t) p.ps p.ps.length) p.rows p.cols), encI k, encI j] (.bool true) := by
  have elen : (cpP (mapTo (fRot p t) p.ps p.ps.length) p.rows p.cols).ps.length = p.ps.length := by simp
  have eg : ∀ x, x < p.ps.length → pcA (cpP (mapTo (fRot p t) p.ps p.ps.length) p.rows p.cols) x = pcA p ((x + t) % p.ps.length) := fun x hx => pcA_with (p := p) (f := fRot p t) hx
  have hmem : ∀ q, q ∈ mapTo (fRot p t) p.ps p.ps.length → q ∈ p.ps := by
    intro q h
    obtain ⟨x, h1, rfl⟩ := List.getElem_of_mem h
    have hx : x < p.ps.length := by simpa using h1
    have e := mapTo_get (fRot p t) p.ps x hx p.ps.length
    rw [if_pos hx, List.getElem?_eq_getElem h1] at e
    have e2 : (mapTo (fRot p t) p.ps p.ps.length)[x] = pcA p ((x + t) % p.ps.length) := by simpa [fRot] using e
    rw [e2]
    have hm : (x + t) % p.ps.length < p.ps.length := Nat.mod_lt _ (by omega)
    simp [pcA, hm]
  have hq : PlatOk (cpP (mapTo (fRot p t) p.ps p.ps.length) p.rows p.cols) :=
    ⟨by rw [elen]; exact hp.n8, hp.r4, hp.c4, hp.rows, hp.cols, fun q h => hp.ps q (hmem q h), fun q h => hp.rr q (hmem q h), fun q h => hp.cc q (hmem q h)⟩
  refine alike39 p _ hp hq hn.pn (fun h => by simp at h) k j hk (by rw [elen]; exact hj) (fun l hl => ?_) (fun l hl => ?_)
  · rw [← hjk]
    exact ⟨_, rel_rot hp hq elen eg rfl rfl hj l hl⟩
  · have hjj : j = (k + (p.ps.length - t % p.ps.length)) % (cpP (mapTo (fRot p t) p.ps p.ps.length) p.rows p.cols).ps.length := by
      rw [elen]
      have e := rot_back (N := p.ps.length) (t := t) hk
      have h0 : (k + (p.ps.length - t % p.ps.length)) % p.ps.length < p.ps.length := Nat.mod_lt _ (by omega)
      have a1 := toF_eq hj hjk
      have a2 := toF_eq h0 e
      omega
    rw [hjj]
    refine ⟨_, rel_rot hq hp (t := p.ps.length - t % p.ps.length) elen.symm (fun x hx => ?_) rfl rfl (by rw [elen]; exact hk) l hl⟩
    rw [elen] at hx ⊢
    have h0 : (x + (p.ps.length - t % p.ps.length)) % p.ps.length < p.ps.length := Nat.mod_lt _ (by omega)
    rw [eg _ h0, rot_back hx]


theorem order9 (p : Plat) (hn : NlOk p) (t' j : Int) : Pure Try.prog 9 [encPlat p, encI t', encI j] (.bool true) := by
  by_cases hrd : ¬ FarP p ∧ PlatOk p
  · have hp := hrd.2
    have hr13 := ready_yes hrd
    have h8 := hp.n8
    by_cases ht0 : t' < 0
    · refine pure_of (fn := Try.f9) [.tmp 6] ⟨Try.func9, rfl, by kernel_rfl⟩ (by kernel_rfl) (by kernel_rfl) (by kernel_rfl) fun x hx hσ => ?_
      repeat refine awp_seq ?_
      refine awp_reg1 (by rw [hx]; kernel_rfl) fun K hK => ?_
      simp (config := { maxSteps := 1000000 }) [ty25]
      refine hK _ ?_
      clear hK K
      first | show AWP _ _ _ _ _ | show ∃ _, _ | skip
      repeat refine awp_seq ?_
      refine awp_reg1 (by rw [hx]; kernel_rfl) fun K hK => ?_
      simp (config := { maxSteps := 1000000 }) [ty25, ty3, ht0]
      refine callP (hr13) (by first | (simp; done) | (simp [*]; done)) ?_
      simp (config := { maxSteps := 1000000 }) [ty25, ty3, ht0]
      refine hK _ ?_
      clear hK K
      first | show AWP _ _ _ _ _ | show ∃ _, _ | skip
      repeat refine awp_seq ?_
      refine awp_cond (by simp; rfl) (by rw [hx]; simp) (fun hd => ?_) (fun hd => ?_)
      · repeat refine awp_seq ?_
        refine awp_reg1 (by rw [hx]; kernel_rfl) fun K hK => ?_
        simp (config := { maxSteps := 1000000 }) []
        refine callP (works14) (by first | (simp; done) | (simp [*]; done)) ?_
        simp (config := { maxSteps := 1000000 }) []
        refine hK _ ?_
        clear hK K
        first | show AWP _ _ _ _ _ | show ∃ _, _ | skip
        repeat refine awp_seq ?_
        refine awp_ret ?_
        refine And.intro (Or.inr rfl) ?_
        simp [retC, resC, viewC, mapO]
      · simp at hd
    · by_cases ht1 : 100 < t'
      · refine pure_of (fn := Try.f9) [.tmp 6] ⟨Try.func9, rfl, by kernel_rfl⟩ (by kernel_rfl) (by kernel_rfl) (by kernel_rfl) fun x hx hσ => ?_
        repeat refine awp_seq ?_
        refine awp_reg1 (by rw [hx]; kernel_rfl) fun K hK => ?_
        simp (config := { maxSteps := 1000000 }) [ty25]
        refine hK _ ?_
        clear hK K
        first | show AWP _ _ _ _ _ | show ∃ _, _ | skip
        repeat refine awp_seq ?_
        refine awp_reg1 (by rw [hx]; kernel_rfl) fun K hK => ?_
        simp (config := { maxSteps := 1000000 }) [ty25, ty3, ht0, ht1]
        refine callP (hr13) (by first | (simp; done) | (simp [*]; done)) ?_
        simp (config := { maxSteps := 1000000 }) [ty25, ty3, ht0, ht1]
        refine hK _ ?_
        clear hK K
        first | show AWP _ _ _ _ _ | show ∃ _, _ | skip
        repeat refine awp_seq ?_
        refine awp_cond (by simp; rfl) (by rw [hx]; simp) (fun hd => ?_) (fun hd => ?_)
        · repeat refine awp_seq ?_
          refine awp_reg1 (by rw [hx]; kernel_rfl) fun K hK => ?_
          simp (config := { maxSteps := 1000000 }) []
          refine callP (works14) (by first | (simp; done) | (simp [*]; done)) ?_
          simp (config := { maxSteps := 1000000 }) []
          refine hK _ ?_
          clear hK K
          first | show AWP _ _ _ _ _ | show ∃ _, _ | skip
          repeat refine awp_seq ?_
          refine awp_ret ?_
          refine And.intro (Or.inr rfl) ?_
          simp [retC, resC, viewC, mapO]
        · simp at hd
      · by_cases hk0 : 0 ≤ j ∧ j < p.ps.length
        · obtain ⟨k, rfl⟩ : ∃ k : Nat, j = k := ⟨j.toNat, by omega⟩
          obtain ⟨t, rfl⟩ : ∃ t : Nat, t' = t := ⟨t'.toNat, by omega⟩
          have hk : k < p.ps.length := by omega
          have h20 := isParcel_c p k (by omega)
          rw [decide_eq_true hk0] at h20
          have hne : p.ps ≠ [] := by intro h; rw [h] at hk; simp at hk
          have hcp := copy24 p (by omega) (by have := hp.r4; omega) (by have := hp.c4; omega)
          refine pure_of (fn := Try.f9) [.tmp 6] ⟨Try.func9, rfl, by kernel_rfl⟩ (by kernel_rfl) (by kernel_rfl) (by kernel_rfl) fun x hx hσ => ?_
          repeat refine awp_seq ?_
          refine awp_reg1 (by rw [hx]; kernel_rfl) fun K hK => ?_
          simp (config := { maxSteps := 1000000 }) [ty25]
          refine hK _ ?_
          clear hK K
          first | show AWP _ _ _ _ _ | show ∃ _, _ | skip
          repeat refine awp_seq ?_
          refine awp_reg1 (by rw [hx]; kernel_rfl) fun K hK => ?_
          simp (config := { maxSteps := 1000000 }) [ty25, ty3, ht0, ht1]
          refine callP (hr13) (by first | (simp; done) | (simp [*]; done)) ?_
          simp (config := { maxSteps := 1000000 }) [ty25, ty3, ht0, ht1]
          refine callP (h20) (by first | (simp; done) | (simp [*]; done)) ?_
          simp (config := { maxSteps := 1000000 }) [ty25, ty3, ht0, ht1]
          refine hK _ ?_
          clear hK K
          first | show AWP _ _ _ _ _ | show ∃ _, _ | skip
          repeat refine awp_seq ?_
          refine awp_cond (by simp; rfl) (by rw [hx]; simp) (fun hd => ?_) (fun hd => ?_)
          · simp at hd
          clear hd
          refine awp_skip ?_
          first | show AWP _ _ _ _ _ | show ∃ _, _ | skip
          repeat refine awp_seq ?_
          refine awp_drw3 [3001, 3003] [0, 2, 1, 3, 4, 5, 6, 7] (by rw [hx]; kernel_rfl) (by kernel_rfl) (by kernel_rfl) (by kernel_rfl) fun K hK => ?_
          simp (config := { maxSteps := 1000000 }) [ty25]
          refine makesD hcp ?_ (by simp) ?_
          · intro q h1 h2
            have := exq9 _ _ h1
            have e1 : q ≠ 3 := by omega
            simp [e1]
          simp [mkB]
          refine makesD hcp ?_ (by simp) ?_
          · intro q h1 h2
            simp only [mkB] at h1 h2
            have e1 : q ≠ 3 := by omega
            have e3 : ¬ q < 100313 := by omega
            simp [e1, e3]
          simp [mkB, ty25]
          refine hK _ ?_
          clear hK K
          first | show AWP _ _ _ _ _ | show ∃ _, _ | skip
          refine AWP.weak (t := ⟨ofL [(1, encI t), (2, encI k), (3, .ptr 3 3 0 0), (7, .ptr 7 3 0 0), (8, .ptr 8 3 0 0)],
            stoT [(3, 3, .live (obPlat p)), (7, 7, .live (platBox 5001 p)), (8, 8, .live (platBox 5004 p)), (5001, 100310, .live (pcsOb true p.ps)), (5002, 100311, .live (clOb p.rows true)), (5003, 100312, .live (clOb p.cols true)),
              (5004, 100330, .live (pcsOb true p.ps)), (5005, 100331, .live (clOb p.rows true)), (5006, 100332, .live (clOb p.cols true))]⟩) ?_ ?_
          rotate_left
          · refine wk_shape (T := [(3, 3, .live (obPlat p)), (7, 7, .live (platBox 5001 p)), (8, 8, .live (platBox 5004 p)), (5001, 100310, .live (pcsOb true p.ps)), (5002, 100311, .live (clOb p.rows true)), (5003, 100312, .live (clOb p.cols true)), (5004, 100330, .live (pcsOb true p.ps)), (5005, 100331, .live (clOb p.rows true)), (5006, 100332, .live (clOb p.cols true))]) (shp0 hσ (by simp) (by simp) ?_) ?_
            · simp [SlotOk]
              refine ⟨.same (plat_pure p), rowsOk_box (by simp [mtc, mT]) (by simp [mtc, mT]) (by simp [mtc, mT]) rfl rfl rfl, rowsOk_box (by simp [mtc, mT]) (by simp [mtc, mT]) (by simp [mtc, mT]) rfl rfl rfl, .same (pcs_pure _), .same (ints_pure _), .same (ints_pure _), .same (pcs_pure _), .same (ints_pure _), .same (ints_pure _)⟩
            · simp [mtc, mtl, mT, C.isPure, purel]
          repeat refine awp_seq ?_
          refine awp_drw3 [1001, 1003, 2005, 2007, 10007] [0, 1, 2, 3, 4, 5, 6, 7] (by rw [hx]; kernel_rfl) (by kernel_rfl) (by kernel_rfl) (by kernel_rfl) fun K hK => ?_
          simp (config := { maxSteps := 1000000 }) [ty25, ty23]
          refine hK _ ?_
          clear hK K
          first | show AWP _ _ _ _ _ | show ∃ _, _ | skip
          repeat refine awp_seq ?_
          refine awp_reg1 (by rw [hx]; kernel_rfl) fun K hK => ?_
          simp (config := { maxSteps := 1000000 }) []
          refine hK _ ?_
          clear hK K
          first | show AWP _ _ _ _ _ | show ∃ _, _ | skip
          repeat refine awp_seq ?_
          refine awp_reg1 (by rw [hx]; kernel_rfl) fun K hK => ?_
          simp (config := { maxSteps := 1000000 }) []
          refine hK _ ?_
          clear hK K
          first | show AWP _ _ _ _ _ | show ∃ _, _ | skip
          repeat refine awp_seq ?_
          refine awp_block ?_
          refine awp_loop (fun i : Nat => ⟨ofL [(1, encI t), (2, encI k), (3, .ptr 3 3 0 0), (7, .ptr 7 3 0 0), (8, .ptr 8 3 0 0), (9, encI (toF p.ps.length t k i)), (10, encI i)],
            stoT [(3, 3, .live (obPlat p)), (7, 7, .live (flipBox p)), (8, 8, .live (platBox 5004 p)), (5001, 5001, .live (pcsOb true (mapTo fFlip p.ps i))), (5004, 5004, .live (pcsOb true (mapTo (fRot p t) p.ps i))), (5005, 5005, .live (clOb p.rows true)), (5006, 5006, .live (clOb p.cols true))]⟩)
            (fun i => i ≤ p.ps.length) (fun i => p.ps.length - i) 0 (by simp) ?_ ?_
          · refine wk_shape (shp0 hσ (by simp) (by simp) ?_) ?_
            · simp [SlotOk, mapTo]
              refine ⟨.same (plat_pure p), ?_, rowsOk_box (by simp [mtc, mT]) (by simp [mtc, mT]) (by simp [mtc, mT]) rfl rfl rfl, .same (pcs_pure _), .same (ints_pure _), .same (ints_pure _)⟩
              exact rowsOk_box (by simp [mtc, mT]) (by simp [mtc, mT, C.isPure]) (by simp [mtc, mT, C.isPure]) rfl rfl rfl
            · simp [mtc, mtl, mT, C.isPure, purel, toF]
          · intro i hi
            repeat refine awp_seq ?_
            refine awp_reg1 (by rw [hx]; kernel_rfl) fun K hK => ?_
            simp (config := { maxSteps := 1000000 }) [ty25, ty22, ty3]
            refine hK _ ?_
            clear hK K
            first | show AWP _ _ _ _ _ | show ∃ _, _ | skip
            repeat refine awp_seq ?_
            refine awp_cond (by simp; rfl) (by rw [hx]; simp) (fun hc => ?_) (fun hc => ?_)
            · simp at hc
              have hlt1 : i < (mapTo fFlip p.ps i).length := by simpa using hc
              have hlt2 : i < (mapTo (fRot p t) p.ps i).length := by simpa using hc
              have hget1 : (mapTo fFlip p.ps i)[i] = p.ps[i] := by
                have := mapTo_get fFlip p.ps i hc i
                rw [if_neg (by omega), List.getElem?_eq_getElem hlt1] at this
                simpa [hc] using this
              have hne1 : mapTo fFlip p.ps i ≠ [] := by intro h; rw [h] at hlt1; simp at hlt1
              have hne2 : mapTo (fRot p t) p.ps i ≠ [] := by intro h; rw [h] at hlt2; simp at hlt2
              have w1 : IntKind.i64.wrap ((i : Int) + t) = (i : Int) + t := wrap_id (by omega) (by omega)
              refine awp_skip ?_
              first | show AWP _ _ _ _ _ | show ∃ _, _ | skip
              repeat refine awp_seq ?_
              refine awp_block ?_
              repeat refine awp_seq ?_
              refine awp_drw3 [1001, 1004, 1007, 1011, 1013, 1017, 2020, 2023, 15001] [0, 1, 2, 3, 4, 5, 6, 7, 8, 9, 10, 11, 12, 13, 14, 15, 16, 17, 18, 19, 20, 21, 22, 23] (by rw [hx]; kernel_rfl) (by kernel_rfl) (by kernel_rfl) (by kernel_rfl) fun K hK => ?_
              simp (config := { maxSteps := 1000000 }) [ty25, ty22, ty45, ty3, hc, hne, hlt1, hget1, hne1]
              refine hK _ ?_
              clear hK K
              first | show AWP _ _ _ _ _ | show ∃ _, _ | skip
              repeat refine awp_seq ?_
              refine awp_reg1 (by rw [hx]; kernel_rfl) fun K hK => ?_
              simp (config := { maxSteps := 1000000 }) [ty25, ty22, ty3, w1, hne]
              refine hK _ ?_
              clear hK K
              first | show AWP _ _ _ _ _ | show ∃ _, _ | skip
              obtain ⟨nw, hnw⟩ : ∃ nw : Nat, nw = (i + t) % p.ps.length := ⟨_, rfl⟩
              have hnl : nw < p.ps.length := by rw [hnw]; exact Nat.mod_lt _ (by omega)
              have htm : ((i : Int) + t).tmod p.ps.length = nw := by
                rw [hnw, Int.tmod_eq_emod_of_nonneg (by omega)]; simp
              have ef : (mapTo fFlip p.ps (i + 1)).map cP = ((mapTo fFlip p.ps i).map cP).set i [.int .i64 p.ps[i].col, .int .i64 p.ps[i].row, .int .i64 p.ps[i].area, .int .i64 p.ps[i].off] := by
                simp [mapTo, List.map_set, fFlip, swapC, hc]
              have ef1 : (mapTo fFlip p.ps (i + 1)).isEmpty = (mapTo fFlip p.ps i).isEmpty := by simp only [mapTo, isE_set]
              refine AWP.weak (t := ⟨ofL [(1, encI t), (2, encI k), (3, .ptr 3 3 0 0), (7, .ptr 7 3 0 0), (8, .ptr 8 3 0 0), (9, encI (toF p.ps.length t k i)), (10, encI i), (11, encI nw)],
                stoT [(3, 3, .live (obPlat p)), (7, 7, .live (flipBox p)), (8, 8, .live (platBox 5004 p)), (5001, 5001, .live (pcsOb true (mapTo fFlip p.ps (i + 1)))), (5004, 5004, .live (pcsOb true (mapTo (fRot p t) p.ps i))), (5005, 5005, .live (clOb p.rows true)), (5006, 5006, .live (clOb p.cols true))]⟩) ?_ ?_
              rotate_left
              · refine wk_shape (shp0 hσ (by simp) (by simp) ?_) ?_
                · simp [SlotOk, ef, ef1, -List.map_set]
                  refine ⟨.same (plat_pure p), rowsOk_box (by simp [mtc, mT]) (by simp [mtc, mT, C.isPure]) (by simp [mtc, mT, C.isPure]) rfl rfl rfl, rowsOk_box (by simp [mtc, mT]) (by simp [mtc, mT, C.isPure]) (by simp [mtc, mT, C.isPure]) rfl rfl rfl, .same (set_pure (mapTo fFlip p.ps i) i ⟨p.ps[i].col, p.ps[i].row, p.ps[i].area, p.ps[i].off⟩), .same (pcs_pure _), .same (ints_pure _), .same (ints_pure _)⟩
                · simp [mtc, mtl, mT, C.isPure, purel, htm]
              repeat refine awp_seq ?_
              refine awp_drw3 [] [0, 1, 2, 3, 4, 5, 6, 7, 8, 9] (by rw [hx]; kernel_rfl) (by kernel_rfl) (by kernel_rfl) (by kernel_rfl) fun K hK => ?_
              simp (config := { maxSteps := 1000000 }) [ty25, ty22, ty45, ty3, hc, hnl, hne, hlt2, hne2]
              refine hK _ ?_
              clear hK K
              first | show AWP _ _ _ _ _ | show ∃ _, _ | skip
              have er : (mapTo (fRot p t) p.ps (i + 1)).map cP = ((mapTo (fRot p t) p.ps i).map cP).set i [.int .i64 p.ps[nw].row, .int .i64 p.ps[nw].col, .int .i64 p.ps[nw].area, .int .i64 p.ps[nw].off] := by
                simp [mapTo, List.map_set, fRot, ← hnw, pcA, hnl]
              have er1 : (mapTo (fRot p t) p.ps (i + 1)).isEmpty = (mapTo (fRot p t) p.ps i).isEmpty := by simp only [mapTo, isE_set]
              repeat refine awp_seq ?_
              refine awp_reg1 (by rw [hx]; kernel_rfl) fun K hK => ?_
              simp (config := { maxSteps := 1000000 }) [ty3]
              refine hK _ ?_
              clear hK K
              first | show AWP _ _ _ _ _ | show ∃ _, _ | skip
              by_cases hnk : nw = k
              · have hto : toF p.ps.length t k (i + 1) = i := by simp only [toF]; rw [if_pos (by omega)]
                repeat refine awp_seq ?_
                refine awp_cond (by simp; rfl) (by rw [hx]; simp) (fun he => ?_) (fun he => ?_)
                · repeat refine awp_seq ?_
                  refine awp_reg1 (by rw [hx]; kernel_rfl) fun K hK => ?_
                  simp (config := { maxSteps := 1000000 }) []
                  refine hK _ ?_
                  clear hK K
                  first | show AWP _ _ _ _ _ | show ∃ _, _ | skip
                  repeat refine awp_seq ?_
                  refine awp_reg1 (by rw [hx]; kernel_rfl) fun K hK => ?_
                  simp (config := { maxSteps := 1000000 }) [ty3]
                  refine hK _ ?_
                  clear hK K
                  first | show AWP _ _ _ _ _ | show ∃ _, _ | skip
                  refine ⟨i + 1, by omega, by omega, ?_⟩
                  refine wk_shape (T := [(3, 3, .live (obPlat p)), (7, 7, .live (flipBox p)), (8, 8, .live (platBox 5004 p)), (5001, 5001, .live (pcsOb true (mapTo fFlip p.ps (i + 1)))), (5004, 5004, .live (pcsOb true (mapTo (fRot p t) p.ps (i + 1)))), (5005, 5005, .live (clOb p.rows true)), (5006, 5006, .live (clOb p.cols true))]) (shp0 hσ (by simp) (by simp) ?_) ?_
                  · simp [SlotOk, er, er1, -List.map_set]
                    refine ⟨.same (plat_pure p), rowsOk_box (by simp [mtc, mT]) (by simp [mtc, mT, C.isPure]) (by simp [mtc, mT, C.isPure]) rfl rfl rfl, rowsOk_box (by simp [mtc, mT]) (by simp [mtc, mT, C.isPure]) (by simp [mtc, mT, C.isPure]) rfl rfl rfl, .same (pcs_pure _), .same (set_pure (mapTo (fRot p t) p.ps i) i p.ps[nw]), .same (ints_pure _), .same (ints_pure _)⟩
                  · simp [mtc, mtl, mT, C.isPure, purel, hto]
                    simp (disch := omega) [wrap_id]
                · simp [hnk] at he
              · have hto : toF p.ps.length t k (i + 1) = toF p.ps.length t k i := by simp only [toF]; rw [if_neg (by omega)]
                repeat refine awp_seq ?_
                refine awp_cond (by simp; rfl) (by rw [hx]; simp) (fun he => ?_) (fun he => ?_)
                · simp at he; omega
                · refine awp_skip ?_
                  first | show AWP _ _ _ _ _ | show ∃ _, _ | skip
                  repeat refine awp_seq ?_
                  refine awp_reg1 (by rw [hx]; kernel_rfl) fun K hK => ?_
                  simp (config := { maxSteps := 1000000 }) [ty3]
                  refine hK _ ?_
                  clear hK K
                  first | show AWP _ _ _ _ _ | show ∃ _, _ | skip
                  refine ⟨i + 1, by omega, by omega, ?_⟩
                  refine wk_shape (T := [(3, 3, .live (obPlat p)), (7, 7, .live (flipBox p)), (8, 8, .live (platBox 5004 p)), (5001, 5001, .live (pcsOb true (mapTo fFlip p.ps (i + 1)))), (5004, 5004, .live (pcsOb true (mapTo (fRot p t) p.ps (i + 1)))), (5005, 5005, .live (clOb p.rows true)), (5006, 5006, .live (clOb p.cols true))]) (shp0 hσ (by simp) (by simp) ?_) ?_
                  · simp [SlotOk, er, er1, -List.map_set]
                    refine ⟨.same (plat_pure p), rowsOk_box (by simp [mtc, mT]) (by simp [mtc, mT, C.isPure]) (by simp [mtc, mT, C.isPure]) rfl rfl rfl, rowsOk_box (by simp [mtc, mT]) (by simp [mtc, mT, C.isPure]) (by simp [mtc, mT, C.isPure]) rfl rfl rfl, .same (pcs_pure _), .same (set_pure (mapTo (fRot p t) p.ps i) i p.ps[nw]), .same (ints_pure _), .same (ints_pure _)⟩
                  · simp [mtc, mtl, mT, C.isPure, purel, hto]
                    simp (disch := omega) [wrap_id]
            · simp at hc
              repeat refine awp_seq ?_
              refine awp_exit ?_
              first | show AWP _ _ _ _ _ | show ∃ _, _ | skip
              obtain rfl : i = p.ps.length := by omega
              obtain ⟨jj, hjj, hjk⟩ : ∃ jj, jj < p.ps.length ∧ (jj + t) % p.ps.length = k := ⟨(k + (p.ps.length - t % p.ps.length)) % p.ps.length, Nat.mod_lt _ (by omega), rot_back hk⟩
              have hto := toF_eq hjj hjk
              have hl1 := flip_like p hp hn k hk
              have hl2 := rot_like p hp hn t k jj hk hjj hjk
              repeat refine awp_seq ?_
              refine awp_reg1 (by rw [hx]; kernel_rfl) fun K hK => ?_
              simp (config := { maxSteps := 1000000 }) [ty25]
              refine callL hl1 ?_ (.inr rfl) ?_
              · exact mapO_four (viewC_self (plat_pure1 p)) (viewC_flip rfl (by simp)) (viewC_self rfl) (viewC_self rfl)
              simp [ty25, hto]
              refine callL hl2 ?_ (.inr rfl) ?_
              · exact mapO_four (viewC_self (plat_pure1 p)) (viewC_plat rfl rfl rfl (by simp) rfl rfl) (viewC_self rfl) (viewC_self rfl)
              simp [ty25]
              refine callP (works14) (by first | (simp; done) | (simp [*]; done)) ?_
              simp (config := { maxSteps := 1000000 }) []
              refine hK _ ?_
              clear hK K
              first | show AWP _ _ _ _ _ | show ∃ _, _ | skip
              repeat refine awp_seq ?_
              refine awp_ret ?_
              refine And.intro (Or.inr rfl) ?_
              simp [retC, resC, viewC, mapO]
        · have h20 := isParcel_c p j (by omega)
          rw [decide_eq_false hk0] at h20
          refine pure_of (fn := Try.f9) [.tmp 6] ⟨Try.func9, rfl, by kernel_rfl⟩ (by kernel_rfl) (by kernel_rfl) (by kernel_rfl) fun x hx hσ => ?_
          repeat refine awp_seq ?_
          refine awp_reg1 (by rw [hx]; kernel_rfl) fun K hK => ?_
          simp (config := { maxSteps := 1000000 }) [ty25]
          refine hK _ ?_
          clear hK K
          first | show AWP _ _ _ _ _ | show ∃ _, _ | skip
          repeat refine awp_seq ?_
          refine awp_reg1 (by rw [hx]; kernel_rfl) fun K hK => ?_
          simp (config := { maxSteps := 1000000 }) [ty25, ty3, ht0, ht1]
          refine callP (hr13) (by first | (simp; done) | (simp [*]; done)) ?_
          simp (config := { maxSteps := 1000000 }) [ty25, ty3, ht0, ht1]
          refine callP (h20) (by first | (simp; done) | (simp [*]; done)) ?_
          simp (config := { maxSteps := 1000000 }) [ty25, ty3, ht0, ht1]
          refine hK _ ?_
          clear hK K
          first | show AWP _ _ _ _ _ | show ∃ _, _ | skip
          repeat refine awp_seq ?_
          refine awp_cond (by simp; rfl) (by rw [hx]; simp) (fun hd => ?_) (fun hd => ?_)
          · repeat refine awp_seq ?_
            refine awp_reg1 (by rw [hx]; kernel_rfl) fun K hK => ?_
            simp (config := { maxSteps := 1000000 }) []
            refine callP (works14) (by first | (simp; done) | (simp [*]; done)) ?_
            simp (config := { maxSteps := 1000000 }) []
            refine hK _ ?_
            clear hK K
            first | show AWP _ _ _ _ _ | show ∃ _, _ | skip
            repeat refine awp_seq ?_
            refine awp_ret ?_
            refine And.intro (Or.inr rfl) ?_
            simp [retC, resC, viewC, mapO]
          · simp at hd
  · have hr13 := ready_no hrd
    refine pure_of (fn := Try.f9) [.tmp 6] ⟨Try.func9, rfl, by kernel_rfl⟩ (by kernel_rfl) (by kernel_rfl) (by kernel_rfl) fun x hx hσ => ?_
    repeat refine awp_seq ?_
    refine awp_reg1 (by rw [hx]; kernel_rfl) fun K hK => ?_
    simp (config := { maxSteps := 1000000 }) [ty25]
    refine hK _ ?_
    clear hK K
    first | show AWP _ _ _ _ _ | show ∃ _, _ | skip
    repeat refine awp_seq ?_
    refine awp_reg1 (by rw [hx]; kernel_rfl) fun K hK => ?_
    simp (config := { maxSteps := 1000000 }) [ty25, ty3]
    refine callP (hr13) (by first | (simp; done) | (simp [*]; done)) ?_
    simp (config := { maxSteps := 1000000 }) [ty25, ty3]
    refine hK _ ?_
    clear hK K
    first | show AWP _ _ _ _ _ | show ∃ _, _ | skip
    repeat refine awp_seq ?_
    refine awp_cond (by simp; rfl) (by rw [hx]; simp) (fun hd => ?_) (fun hd => ?_)
    · repeat refine awp_seq ?_
      refine awp_reg1 (by rw [hx]; kernel_rfl) fun K hK => ?_
      simp (config := { maxSteps := 1000000 }) []
      refine callP (works14) (by first | (simp; done) | (simp [*]; done)) ?_
      simp (config := { maxSteps := 1000000 }) []
      refine hK _ ?_
      clear hK K
      first | show AWP _ _ _ _ _ | show ∃ _, _ | skip
      repeat refine awp_seq ?_
      refine awp_ret ?_
      refine And.intro (Or.inr rfl) ?_
      simp [retC, resC, viewC, mapO]
    · simp at hd

end Go.Proofs.Ytgcmjidphcafnaa

namespace Go.Proofs.Ytgcmjidphcafnaa
open Go Go.Abs
open Go.ChangeShapes Go.WideShapes Go.ChangeAt Go.RowKit

set_option maxRecDepth 100000 in
theorem parcelsOrder_lifted (os : Os) (started : os.Started) (H : Type) (enc : TypeId × Value → H) :
    ReturnsInHanded {} Try.checked os 9 .any (Rows.parcelsOrderSpec.pre6 enc Try.prog Try.f9 Rows.parcelsOrderRow.domain false) (Rows.parcelsOrderSpec.post enc Try.prog Try.f9 false true false false) := by
  refine returnsInHanded_of_change (C := Try.checked) J.own started (by kernel_rfl) Try.func9
    (ChangeSpec.witness6 (enc := enc) (C := Try.checked) false ⟨#[], #[.agg #[.slice none 0 0, .slice none 0 0, .slice none 0 0], .int .i64 0, .int .i64 0], []⟩ 8 (by kernel_rfl) (by kernel_rfl) (by kernel_rfl) (by kernel_rfl)) ?_
  intro W base args ds gs before hval hW _ _
  refine law_contract (P := Try.prog) (tb := 4) (by kernel_rfl) J.ub rfl (fun ds hl => ?_) J.laid J.maps J.sized (by kernel_rfl) (by kernel_rfl) (fun cargs hc => ?_) W base args ds gs before hval hW
  · have h2 : ds.length = 3 := hl
    match ds, h2 with
    | [_, _, _], _ => rfl
  · rw [Try.params9] at hc
    obtain ⟨p, r, rfl, hn, hc1⟩ := arg25 hc
    obtain ⟨t, r, rfl, ht, hc2⟩ := arg3 hc1
    obtain ⟨j, r, rfl, hj, hc3⟩ := arg3 hc2
    obtain rfl := arg_end hc3
    exact order9 p hn t j

theorem parcelsOrder_holds : Rows.ParcelsOrderSaid :=
  OpenClaim.holds_of_wide 9 Try.f9 rfl rfl rfl rfl rfl rfl rfl ⟨rfl, rfl, rfl, rfl, rfl⟩ rfl rfl rfl rfl rfl (by kernel_rfl) Try.func9 (by kernel_rfl)
    (of_decide_eq_true (by kernel_rfl)) (by unfold Func.isWrapper; first | (rw [if_pos (by decide +kernel)]; kernel_rfl) | (rw [if_neg (by decide +kernel)]; exact ⟨rfl, rfl⟩))
    (fun os started H enc _ => parcelsOrder_lifted os started H enc)
#print axioms parcelsOrder_holds
end Go.Proofs.Ytgcmjidphcafnaa

