/- For every input the law ParcelsMore returns true, and each argument reads afterwards as it read before. No condition. -/
import Derived.Test.YtgcmjidphcafnaaB6

set_option linter.unusedSimpArgs false
set_option linter.unusedVariables false
set_option linter.constructorNameAsVariable false

namespace Go.Proofs.Ytgcmjidphcafnaa
open Go Go.Abs

set_option maxHeartbeats 4000000
set_option maxRecDepth 100000

def fMore (k : Nat) (m : Int) (i : Nat) (q : Pc) : Pc := if i = k then ⟨q.row, q.col, q.area, q.off + m⟩ else q

theorem fMore_rc (k : Nat) (m : Int) (i : Nat) (q : Pc) : (fMore k m i q).row = q.row ∧ (fMore k m i q).col = q.col := by unfold fMore; split <;> exact ⟨rfl, rfl⟩

@[simp] abbrev moreP (p : Plat) (k : Nat) (m : Int) : Plat := cpP (mapTo (fMore k m) p.ps p.ps.length) p.rows p.cols

theorem more_set {p : Plat} {k : Nat} (hk : k < p.ps.length) (m : Int) : mapTo (fMore k m) p.ps p.ps.length = p.ps.set k ⟨p.ps[k].row, p.ps[k].col, p.ps[k].area, p.ps[k].off + m⟩ := by
  apply List.ext_getElem?
  intro j
  by_cases hj : j < p.ps.length
  · rw [mapTo_get _ _ _ hj, if_pos hj]
    rw [List.getElem?_set]
    by_cases e : k = j
    · subst e
      rw [if_pos rfl, if_pos hk]
      simp [fMore, hk]
    · rw [if_neg e, List.getElem?_eq_getElem hj]
      simp [fMore]
      intro e2; omega
  · rw [List.getElem?_eq_none (by simpa using hj), List.getElem?_eq_none (by simpa using hj)]

theorem pcA_more {p : Plat} {k : Nat} {m : Int} {i : Nat} (hi : i < p.ps.length) : pcA (moreP p k m) i = fMore k m i (pcA p i) := pcA_with (p := p) (f := fMore k m) hi

theorem isP_more {p : Plat} {k : Nat} {m : Int} (hm : 0 ≤ m) {l : List Int} (h : IsP p l) : IsP (moreP p k m) l := by
  refine (isP_with (p := p) (f := fMore k m) (fMore_rc k m)).2 ⟨h.1, fun i hi => ?_, h.2.2⟩
  have : lowI (pcA p i) ≤ Flow.gi l i ∧ Flow.gi l i ≤ highI (pcA p i) := h.2.1 i hi
  unfold fMore
  split
  · unfold lowI highI at this ⊢
    simp only
    omega
  · exact this

theorem chg_more {p : Plat} {k : Nat} {m : Int} {i : Nat} (hi : i < p.ps.length) (l : List Int) : chgF (moreP p k m) l i = chgF p l i := by
  rw [chgF_eq, chgF_eq, pcA_more hi]
  unfold fMore; split <;> rfl

theorem sum_more {p : Plat} {k : Nat} {m : Int} (l : List Int) : sumC (moreP p k m) l = sumC p l := by
  unfold sumC
  have e : (moreP p k m).ps.length = p.ps.length := by simp
  rw [e]
  exact sumTo_congr fun i hi => chg_more hi l

theorem many_more {p : Plat} {k : Nat} {m : Int} (l : List Int) : manyC (moreP p k m) l = manyC p l := by
  unfold manyC
  have e : (moreP p k m).ps.length = p.ps.length := by simp
  rw [e]
  apply Nat.le_antisymm
  · exact cnt_le' (Nat.le_refl _) fun x hx h => by rw [chg_more hx] at h; exact h
  · exact cnt_le' (Nat.le_refl _) fun x hx h => by rw [chg_more hx]; exact h

theorem more_law {p : Plat} {k : Nat} {m : Int} (hm : 0 ≤ m) {s s2 n n2 : Int} {kk k2 : Nat} (h1 : MinS p s) (h2 : MinW p n) (h3 : MinF p kk) (g1 : MinS (moreP p k m) s2) (g2 : MinW (moreP p k m) n2) (g3 : MinF (moreP p k m) k2) :
    s2 ≤ s ∧ n2 ≤ n ∧ k2 ≤ kk := by
  have e : (moreP p k m).ps.length = p.ps.length := by simp
  obtain ⟨⟨l, hl, hls⟩, _⟩ := h1
  obtain ⟨hn0, ⟨l', hl', hb⟩, _⟩ := h2
  obtain ⟨⟨l3, hl3, hb3⟩, _⟩ := h3
  refine ⟨?_, ?_, ?_⟩
  · have := g1.2 l (isP_more hm hl); rw [sum_more] at this; omega
  · exact g2.2.2 l' n (isP_more hm hl') hn0 fun i hi => by rw [e] at hi; rw [chg_more hi]; exact hb i hi
  · have := g3.2 l3 (isP_more hm hl3); rw [many_more] at this; omega

theorem range_more {p : Plat} {k j : Nat} {m : Int} (hm : 0 ≤ m) {a b c d : Int} (h : RangeP p j a b) (g : RangeP (moreP p k m) j c d) : c ≤ a ∧ b ≤ d := by
  obtain ⟨⟨la, h1, h2⟩, ⟨lb, h3, h4⟩, _⟩ := h
  have x := g.2.2 la (isP_more hm h1)
  have y := g.2.2 lb (isP_more hm h3)
  omega


theorem more8 (p : Plat) (hn : NlOk p) (at' m j : Int) : Pure Try.prog 8 [encPlat p, .agg [encI at', encI m], encI j] (.bool true) := by
  by_cases hrd : ¬ FarP p ∧ PlatOk p
  · have hp := hrd.2
    have hr13 := ready_yes hrd
    have h8 := hp.n8
    by_cases hk0 : 0 ≤ at' ∧ at' < p.ps.length
    · obtain ⟨k, rfl⟩ : ∃ k : Nat, at' = k := ⟨at'.toNat, by omega⟩
      have hk : k < p.ps.length := by omega
      have h20 := isParcel_c p k (by omega)
      rw [decide_eq_true hk0] at h20
      by_cases hj0 : 0 ≤ j ∧ j < p.ps.length
      · obtain ⟨i, rfl⟩ : ∃ i : Nat, j = i := ⟨j.toNat, by omega⟩
        have hi : i < p.ps.length := by omega
        have h20' := isParcel_c p i (by omega)
        rw [decide_eq_true hj0] at h20'
        by_cases hm0 : m < 0
        · refine pure_of (fn := Try.f8) [.tmp 6] ⟨Try.func8, rfl, by kernel_rfl⟩ (by kernel_rfl) (by kernel_rfl) (by kernel_rfl) fun x hx hσ => ?_
          repeat refine awp_seq ?_
          refine awp_reg1 (by rw [hx]; kernel_rfl) fun K hK => ?_
          simp (config := { maxSteps := 1000000 }) [ty25, ty57]
          refine hK _ ?_
          clear hK K
          first | show AWP _ _ _ _ _ | show ∃ _, _ | skip
          repeat refine awp_seq ?_
          refine awp_drw3 [] [0, 1, 2, 3, 4, 5] (by rw [hx]; kernel_rfl) (by kernel_rfl) (by kernel_rfl) (by kernel_rfl) fun K hK => ?_
          simp (config := { maxSteps := 1000000 }) [ty57, ty3]
          refine hK _ ?_
          clear hK K
          first | show AWP _ _ _ _ _ | show ∃ _, _ | skip
          repeat refine awp_seq ?_
          refine awp_reg1 (by rw [hx]; kernel_rfl) fun K hK => ?_
          simp (config := { maxSteps := 1000000 }) [ty25, ty3, hm0]
          refine callP (hr13) (by first | (simp; done) | (simp [*]; done)) ?_
          simp (config := { maxSteps := 1000000 }) [ty25, ty3, hm0]
          refine callP (h20) (by first | (simp; done) | (simp [*]; done)) ?_
          simp (config := { maxSteps := 1000000 }) [ty25, ty3, hm0]
          refine callP (h20') (by first | (simp; done) | (simp [*]; done)) ?_
          simp (config := { maxSteps := 1000000 }) [ty25, ty3, hm0]
          refine hK _ ?_
          clear hK K
          first | show AWP _ _ _ _ _ | show ∃ _, _ | skip
          repeat refine awp_seq ?_
          refine awp_cond (by simp; rfl) (by rw [hx]; simp) (fun hd => ?_) (fun hd => ?_)
          · repeat refine awp_seq ?_
            refine awp_reg1 (by rw [hx]; kernel_rfl) fun K hK => ?_
            simp (config := { maxSteps := 1000000 }) []
            refine callP (works14) (by first | (simp; done) | (simp [*]; done)) ?_
            simp (config := { maxSteps := 1000000 }) []
            refine hK _ ?_
            clear hK K
            first | show AWP _ _ _ _ _ | show ∃ _, _ | skip
            repeat refine awp_seq ?_
            refine awp_ret ?_
            refine And.intro (Or.inr rfl) ?_
            simp [retC, resC, viewC, mapO]
          · simp at hd
        · by_cases hm1 : 99 < m
          · refine pure_of (fn := Try.f8) [.tmp 6] ⟨Try.func8, rfl, by kernel_rfl⟩ (by kernel_rfl) (by kernel_rfl) (by kernel_rfl) fun x hx hσ => ?_
            repeat refine awp_seq ?_
            refine awp_reg1 (by rw [hx]; kernel_rfl) fun K hK => ?_
            simp (config := { maxSteps := 1000000 }) [ty25, ty57]
            refine hK _ ?_
            clear hK K
            first | show AWP _ _ _ _ _ | show ∃ _, _ | skip
            repeat refine awp_seq ?_
            refine awp_drw3 [] [0, 1, 2, 3, 4, 5] (by rw [hx]; kernel_rfl) (by kernel_rfl) (by kernel_rfl) (by kernel_rfl) fun K hK => ?_
            simp (config := { maxSteps := 1000000 }) [ty57, ty3]
            refine hK _ ?_
            clear hK K
            first | show AWP _ _ _ _ _ | show ∃ _, _ | skip
            repeat refine awp_seq ?_
            refine awp_reg1 (by rw [hx]; kernel_rfl) fun K hK => ?_
            simp (config := { maxSteps := 1000000 }) [ty25, ty3, hm0, hm1]
            refine callP (hr13) (by first | (simp; done) | (simp [*]; done)) ?_
            simp (config := { maxSteps := 1000000 }) [ty25, ty3, hm0, hm1]
            refine callP (h20) (by first | (simp; done) | (simp [*]; done)) ?_
            simp (config := { maxSteps := 1000000 }) [ty25, ty3, hm0, hm1]
            refine callP (h20') (by first | (simp; done) | (simp [*]; done)) ?_
            simp (config := { maxSteps := 1000000 }) [ty25, ty3, hm0, hm1]
            refine hK _ ?_
            clear hK K
            first | show AWP _ _ _ _ _ | show ∃ _, _ | skip
            repeat refine awp_seq ?_
            refine awp_cond (by simp; rfl) (by rw [hx]; simp) (fun hd => ?_) (fun hd => ?_)
            · repeat refine awp_seq ?_
              refine awp_reg1 (by rw [hx]; kernel_rfl) fun K hK => ?_
              simp (config := { maxSteps := 1000000 }) []
              refine callP (works14) (by first | (simp; done) | (simp [*]; done)) ?_
              simp (config := { maxSteps := 1000000 }) []
              refine hK _ ?_
              clear hK K
              first | show AWP _ _ _ _ _ | show ∃ _, _ | skip
              repeat refine awp_seq ?_
              refine awp_ret ?_
              refine And.intro (Or.inr rfl) ?_
              simp [retC, resC, viewC, mapO]
            · simp at hd
          · have hne : p.ps ≠ [] := by intro h; rw [h] at hk; simp at hk
            have hqo := hp.ps _ (List.getElem_mem hk)
            unfold PcOk at hqo
            have w1 : IntKind.i64.wrap (p.ps[k].off + m) = p.ps[k].off + m := wrap_id (by omega) (by omega)
            have hcp := copy24 p (by omega) (by have := hp.r4; omega) (by have := hp.c4; omega)
            refine pure_of (fn := Try.f8) [.tmp 6] ⟨Try.func8, rfl, by kernel_rfl⟩ (by kernel_rfl) (by kernel_rfl) (by kernel_rfl) fun x hx hσ => ?_
            repeat refine awp_seq ?_
            refine awp_reg1 (by rw [hx]; kernel_rfl) fun K hK => ?_
            simp (config := { maxSteps := 1000000 }) [ty25, ty57]
            refine hK _ ?_
            clear hK K
            first | show AWP _ _ _ _ _ | show ∃ _, _ | skip
            repeat refine awp_seq ?_
            refine awp_drw3 [] [0, 1, 2, 3, 4, 5] (by rw [hx]; kernel_rfl) (by kernel_rfl) (by kernel_rfl) (by kernel_rfl) fun K hK => ?_
            simp (config := { maxSteps := 1000000 }) [ty57, ty3]
            refine hK _ ?_
            clear hK K
            first | show AWP _ _ _ _ _ | show ∃ _, _ | skip
            repeat refine awp_seq ?_
            refine awp_reg1 (by rw [hx]; kernel_rfl) fun K hK => ?_
            simp (config := { maxSteps := 1000000 }) [ty25, ty3, hm0, hm1]
            refine callP (hr13) (by first | (simp; done) | (simp [*]; done)) ?_
            simp (config := { maxSteps := 1000000 }) [ty25, ty3, hm0, hm1]
            refine callP (h20) (by first | (simp; done) | (simp [*]; done)) ?_
            simp (config := { maxSteps := 1000000 }) [ty25, ty3, hm0, hm1]
            refine callP (h20') (by first | (simp; done) | (simp [*]; done)) ?_
            simp (config := { maxSteps := 1000000 }) [ty25, ty3, hm0, hm1]
            refine hK _ ?_
            clear hK K
            first | show AWP _ _ _ _ _ | show ∃ _, _ | skip
            repeat refine awp_seq ?_
            refine awp_cond (by simp; rfl) (by rw [hx]; simp) (fun hd => ?_) (fun hd => ?_)
            · simp at hd
            clear hd
            refine awp_skip ?_
            first | show AWP _ _ _ _ _ | show ∃ _, _ | skip
            repeat refine awp_seq ?_
            refine awp_reg1 (by rw [hx]; kernel_rfl) fun K hK => ?_
            simp (config := { maxSteps := 1000000 }) [ty25]
            refine makesL 5001 hcp ?_ ?_
            · intro q h1 h2
              have e1 : q ≠ 3 := by omega
              have e2 : q ≠ 4 := by omega
              simp [e1, e2]
            simp [ty25]
            refine hK _ ?_
            clear hK K
            first | show AWP _ _ _ _ _ | show ∃ _, _ | skip
            repeat refine awp_seq ?_
            refine awp_reg1 (by rw [hx]; kernel_rfl) fun K hK => ?_
            simp (config := { maxSteps := 1000000 }) [ty25, ty22, ty45, ty3, hk, hne, w1]
            refine hK _ ?_
            clear hK K
            first | show AWP _ _ _ _ _ | show ∃ _, _ | skip
            refine AWP.weak (t := ⟨ofL [(2, encI i), (3, .ptr 3 3 0 0), (9, .ptr 9 3 0 0)],
              stoT [(3, 3, .live (obPlat p)), (9, 9, .live (platBox 5001 p)), (5001, 5001, .live (pcsOb true (mapTo (fMore k m) p.ps p.ps.length))), (5002, 5002, .live (clOb p.rows true)), (5003, 5003, .live (clOb p.cols true))]⟩) ?_ ?_
            rotate_left
            · refine wk_shape (shp0 hσ (by simp) (by simp) ?_) ?_
              · rw [more_set hk]
                simp [SlotOk, List.map_set, hne, isE_set]
                refine ⟨.same (plat_pure p), rowsOk_box (by simp [mtc, mT]) (by simp [mtc, mT]) (by simp [mtc, mT]) rfl rfl rfl, .same (set_pure p.ps k ⟨p.ps[k].row, p.ps[k].col, p.ps[k].area, p.ps[k].off + m⟩), .same (ints_pure _), .same (ints_pure _)⟩
              · simp [mtc, mtl, mT, C.isPure, purel]
            by_cases hrq : ¬ FarP (moreP p k m) ∧ PlatOk (moreP p k m)
            · have h13 := ready_yes hrq
              have hq := hrq.2
              have elen : (moreP p k m).ps.length = p.ps.length := by simp
              have hiq : i < (moreP p k m).ps.length := by rw [elen]; exact hi
              have hnq : (moreP p k m).pn = true → (moreP p k m).ps = [] := by intro h; simp at h
              repeat refine awp_seq ?_
              refine awp_reg1 (by rw [hx]; kernel_rfl) fun K hK => ?_
              simp (config := { maxSteps := 1000000 }) [ty25]
              refine callL h13 ?_ (.inr rfl) ?_
              · refine mapO_one (viewC_plat rfl rfl rfl (by simp) rfl rfl)
              simp
              refine hK _ ?_
              clear hK K
              first | show AWP _ _ _ _ _ | show ∃ _, _ | skip
              repeat refine awp_seq ?_
              refine awp_cond (by simp; rfl) (by rw [hx]; simp) (fun hd => ?_) (fun hd => ?_)
              · simp at hd
              clear hd
              refine awp_skip ?_
              first | show AWP _ _ _ _ _ | show ∃ _, _ | skip
              have k0 := known_ok
              have k3 := known_none
              by_cases hf : Fe p
              · obtain ⟨l, hl⟩ := id hf
                have hfq : Fe (moreP p k m) := ⟨l, isP_more (by omega) hl⟩
                obtain ⟨s, n, kk, R⟩ := res4_fe p hp hn.pn hf
                obtain ⟨s2, n2, k2, Q⟩ := res4_fe _ hq hnq hfq
                obtain ⟨a, b, hR⟩ := range_ex hf hi
                obtain ⟨c, d, hQ⟩ := range_ex hfq hiq
                have p25 := R.p25
                have p37 := R.p37
                have p38 := R.p38
                have q25 := Q.p25
                have q37 := Q.p37
                have q38 := Q.p38
                have p21 := range_c p hp hn.pn i hi a b hR
                have q21 := range_c _ hq hnq i hiq c d hQ
                obtain ⟨z1, z2, z3⟩ := more_law (by omega) R.hs R.hw R.hf Q.hs Q.hw Q.hf
                obtain ⟨z4, z5⟩ := range_more (by omega) hR hQ
                have z3' : (k2 : Int) ≤ kk := by omega
                repeat refine awp_seq ?_
                refine awp_reg1 (by rw [hx]; kernel_rfl) fun K hK => ?_
                simp (config := { maxSteps := 1000000 }) [ty25]
                refine callP (p25) (by first | (simp; done) | (simp [*]; done)) ?_
                simp (config := { maxSteps := 1000000 }) []
                refine hK _ ?_
                clear hK K
                first | show AWP _ _ _ _ _ | show ∃ _, _ | skip
                repeat refine awp_seq ?_
                refine awp_reg1 (by rw [hx]; kernel_rfl) fun K hK => ?_
                simp (config := { maxSteps := 1000000 }) [ty25]
                refine callL q25 ?_ (.inr rfl) ?_
                · refine mapO_one (viewC_plat rfl rfl rfl (by simp) rfl rfl)
                simp
                refine hK _ ?_
                clear hK K
                first | show AWP _ _ _ _ _ | show ∃ _, _ | skip
                repeat refine awp_seq ?_
                refine awp_reg1 (by rw [hx]; kernel_rfl) fun K hK => ?_
                simp (config := { maxSteps := 1000000 }) [ty25]
                refine callP (p37) (by first | (simp; done) | (simp [*]; done)) ?_
                simp (config := { maxSteps := 1000000 }) []
                refine hK _ ?_
                clear hK K
                first | show AWP _ _ _ _ _ | show ∃ _, _ | skip
                repeat refine awp_seq ?_
                refine awp_reg1 (by rw [hx]; kernel_rfl) fun K hK => ?_
                simp (config := { maxSteps := 1000000 }) [ty25]
                refine callL q37 ?_ (.inr rfl) ?_
                · refine mapO_one (viewC_plat rfl rfl rfl (by simp) rfl rfl)
                simp
                refine hK _ ?_
                clear hK K
                first | show AWP _ _ _ _ _ | show ∃ _, _ | skip
                repeat refine awp_seq ?_
                refine awp_reg1 (by rw [hx]; kernel_rfl) fun K hK => ?_
                simp (config := { maxSteps := 1000000 }) [ty25]
                refine callP (p38) (by first | (simp; done) | (simp [*]; done)) ?_
                simp (config := { maxSteps := 1000000 }) []
                refine hK _ ?_
                clear hK K
                first | show AWP _ _ _ _ _ | show ∃ _, _ | skip
                repeat refine awp_seq ?_
                refine awp_reg1 (by rw [hx]; kernel_rfl) fun K hK => ?_
                simp (config := { maxSteps := 1000000 }) [ty25]
                refine callL q38 ?_ (.inr rfl) ?_
                · refine mapO_one (viewC_plat rfl rfl rfl (by simp) rfl rfl)
                simp
                refine hK _ ?_
                clear hK K
                first | show AWP _ _ _ _ _ | show ∃ _, _ | skip
                repeat refine awp_seq ?_
                refine awp_reg1 (by rw [hx]; kernel_rfl) fun K hK => ?_
                simp (config := { maxSteps := 1000000 }) [ty25]
                refine callP (p21) (by first | (simp; done) | (simp [*]; done)) ?_
                simp (config := { maxSteps := 1000000 }) [ty41, ty3]
                refine hK _ ?_
                clear hK K
                first | show AWP _ _ _ _ _ | show ∃ _, _ | skip
                repeat refine awp_seq ?_
                refine awp_reg1 (by rw [hx]; kernel_rfl) fun K hK => ?_
                simp (config := { maxSteps := 1000000 }) [ty25]
                refine callL q21 ?_ (.inr rfl) ?_
                · refine mapO_two (viewC_plat rfl rfl rfl (by simp) rfl rfl) (viewC_self rfl)
                simp [ty41, ty3]
                refine hK _ ?_
                clear hK K
                first | show AWP _ _ _ _ _ | show ∃ _, _ | skip
                repeat refine awp_seq ?_
                refine awp_reg1 (by rw [hx]; kernel_rfl) fun K hK => ?_
                simp (config := { maxSteps := 1000000 }) [ty30]
                refine callP (k0) (by first | (simp; done) | (simp [*]; done)) ?_
                simp (config := { maxSteps := 1000000 }) [ty30]
                refine callP (k0) (by first | (simp; done) | (simp [*]; done)) ?_
                simp (config := { maxSteps := 1000000 }) [ty30]
                refine hK _ ?_
                clear hK K
                first | show AWP _ _ _ _ _ | show ∃ _, _ | skip
                repeat refine awp_seq ?_
                refine awp_cond (by simp; rfl) (by rw [hx]; simp) (fun hd => ?_) (fun hd => ?_)
                · simp at hd
                clear hd
                refine awp_skip ?_
                first | show AWP _ _ _ _ _ | show ∃ _, _ | skip
                repeat refine awp_seq ?_
                refine awp_reg1 (by rw [hx]; kernel_rfl) fun K hK => ?_
                simp (config := { maxSteps := 1000000 }) [ty30, ty3, ty41, z1, z2, z3, z3', z4, z5]
                refine callP (works14) (by first | (simp; done) | (simp [*]; done)) ?_
                simp (config := { maxSteps := 1000000 }) []
                refine hK _ ?_
                clear hK K
                first | show AWP _ _ _ _ _ | show ∃ _, _ | skip
                repeat refine awp_seq ?_
                refine awp_ret ?_
                refine And.intro (Or.inr rfl) ?_
                simp [retC, resC, viewC, mapO]
              · obtain ⟨p25, p37, p38⟩ := res4_no p hp hn.pn hf
                have p21 := range_none p hp i hi hf
                by_cases hfq : Fe (moreP p k m)
                · obtain ⟨s2, n2, k2, Q⟩ := res4_fe _ hq hnq hfq
                  obtain ⟨c, d, hQ⟩ := range_ex hfq hiq
                  have q25 := Q.p25
                  have q37 := Q.p37
                  have q38 := Q.p38
                  have q21 := range_c _ hq hnq i hiq c d hQ
                  repeat refine awp_seq ?_
                  refine awp_reg1 (by rw [hx]; kernel_rfl) fun K hK => ?_
                  simp (config := { maxSteps := 1000000 }) [ty25]
                  refine callP (p25) (by first | (simp; done) | (simp [*]; done)) ?_
                  simp (config := { maxSteps := 1000000 }) []
                  refine hK _ ?_
                  clear hK K
                  first | show AWP _ _ _ _ _ | show ∃ _, _ | skip
                  repeat refine awp_seq ?_
                  refine awp_reg1 (by rw [hx]; kernel_rfl) fun K hK => ?_
                  simp (config := { maxSteps := 1000000 }) [ty25]
                  refine callL q25 ?_ (.inr rfl) ?_
                  · refine mapO_one (viewC_plat rfl rfl rfl (by simp) rfl rfl)
                  simp
                  refine hK _ ?_
                  clear hK K
                  first | show AWP _ _ _ _ _ | show ∃ _, _ | skip
                  repeat refine awp_seq ?_
                  refine awp_reg1 (by rw [hx]; kernel_rfl) fun K hK => ?_
                  simp (config := { maxSteps := 1000000 }) [ty25]
                  refine callP (p37) (by first | (simp; done) | (simp [*]; done)) ?_
                  simp (config := { maxSteps := 1000000 }) []
                  refine hK _ ?_
                  clear hK K
                  first | show AWP _ _ _ _ _ | show ∃ _, _ | skip
                  repeat refine awp_seq ?_
                  refine awp_reg1 (by rw [hx]; kernel_rfl) fun K hK => ?_
                  simp (config := { maxSteps := 1000000 }) [ty25]
                  refine callL q37 ?_ (.inr rfl) ?_
                  · refine mapO_one (viewC_plat rfl rfl rfl (by simp) rfl rfl)
                  simp
                  refine hK _ ?_
                  clear hK K
                  first | show AWP _ _ _ _ _ | show ∃ _, _ | skip
                  repeat refine awp_seq ?_
                  refine awp_reg1 (by rw [hx]; kernel_rfl) fun K hK => ?_
                  simp (config := { maxSteps := 1000000 }) [ty25]
                  refine callP (p38) (by first | (simp; done) | (simp [*]; done)) ?_
                  simp (config := { maxSteps := 1000000 }) []
                  refine hK _ ?_
                  clear hK K
                  first | show AWP _ _ _ _ _ | show ∃ _, _ | skip
                  repeat refine awp_seq ?_
                  refine awp_reg1 (by rw [hx]; kernel_rfl) fun K hK => ?_
                  simp (config := { maxSteps := 1000000 }) [ty25]
                  refine callL q38 ?_ (.inr rfl) ?_
                  · refine mapO_one (viewC_plat rfl rfl rfl (by simp) rfl rfl)
                  simp
                  refine hK _ ?_
                  clear hK K
                  first | show AWP _ _ _ _ _ | show ∃ _, _ | skip
                  repeat refine awp_seq ?_
                  refine awp_reg1 (by rw [hx]; kernel_rfl) fun K hK => ?_
                  simp (config := { maxSteps := 1000000 }) [ty25]
                  refine callP (p21) (by first | (simp; done) | (simp [*]; done)) ?_
                  simp (config := { maxSteps := 1000000 }) [ty41, ty3]
                  refine hK _ ?_
                  clear hK K
                  first | show AWP _ _ _ _ _ | show ∃ _, _ | skip
                  repeat refine awp_seq ?_
                  refine awp_reg1 (by rw [hx]; kernel_rfl) fun K hK => ?_
                  simp (config := { maxSteps := 1000000 }) [ty25]
                  refine callL q21 ?_ (.inr rfl) ?_
                  · refine mapO_two (viewC_plat rfl rfl rfl (by simp) rfl rfl) (viewC_self rfl)
                  simp [ty41, ty3]
                  refine hK _ ?_
                  clear hK K
                  first | show AWP _ _ _ _ _ | show ∃ _, _ | skip
                  repeat refine awp_seq ?_
                  refine awp_reg1 (by rw [hx]; kernel_rfl) fun K hK => ?_
                  simp (config := { maxSteps := 1000000 }) [ty30]
                  refine callP (k3) (by first | (simp; done) | (simp [*]; done)) ?_
                  simp (config := { maxSteps := 1000000 }) [ty30]
                  refine callP (k0) (by first | (simp; done) | (simp [*]; done)) ?_
                  simp (config := { maxSteps := 1000000 }) [ty30]
                  refine hK _ ?_
                  clear hK K
                  first | show AWP _ _ _ _ _ | show ∃ _, _ | skip
                  repeat refine awp_seq ?_
                  refine awp_cond (by simp; rfl) (by rw [hx]; simp) (fun hd => ?_) (fun hd => ?_)
                  · simp at hd
                  clear hd
                  refine awp_skip ?_
                  first | show AWP _ _ _ _ _ | show ∃ _, _ | skip
                  repeat refine awp_seq ?_
                  refine awp_reg1 (by rw [hx]; kernel_rfl) fun K hK => ?_
                  simp (config := { maxSteps := 1000000 }) [ty30, ty3, ty41]
                  refine callP (works14) (by first | (simp; done) | (simp [*]; done)) ?_
                  simp (config := { maxSteps := 1000000 }) []
                  refine hK _ ?_
                  clear hK K
                  first | show AWP _ _ _ _ _ | show ∃ _, _ | skip
                  repeat refine awp_seq ?_
                  refine awp_ret ?_
                  refine And.intro (Or.inr rfl) ?_
                  simp [retC, resC, viewC, mapO]
                · obtain ⟨q25, q37, q38⟩ := res4_no _ hq hnq hfq
                  have q21 := range_none _ hq i hiq hfq
                  repeat refine awp_seq ?_
                  refine awp_reg1 (by rw [hx]; kernel_rfl) fun K hK => ?_
                  simp (config := { maxSteps := 1000000 }) [ty25]
                  refine callP (p25) (by first | (simp; done) | (simp [*]; done)) ?_
                  simp (config := { maxSteps := 1000000 }) []
                  refine hK _ ?_
                  clear hK K
                  first | show AWP _ _ _ _ _ | show ∃ _, _ | skip
                  repeat refine awp_seq ?_
                  refine awp_reg1 (by rw [hx]; kernel_rfl) fun K hK => ?_
                  simp (config := { maxSteps := 1000000 }) [ty25]
                  refine callL q25 ?_ (.inr rfl) ?_
                  · refine mapO_one (viewC_plat rfl rfl rfl (by simp) rfl rfl)
                  simp
                  refine hK _ ?_
                  clear hK K
                  first | show AWP _ _ _ _ _ | show ∃ _, _ | skip
                  repeat refine awp_seq ?_
                  refine awp_reg1 (by rw [hx]; kernel_rfl) fun K hK => ?_
                  simp (config := { maxSteps := 1000000 }) [ty25]
                  refine callP (p37) (by first | (simp; done) | (simp [*]; done)) ?_
                  simp (config := { maxSteps := 1000000 }) []
                  refine hK _ ?_
                  clear hK K
                  first | show AWP _ _ _ _ _ | show ∃ _, _ | skip
                  repeat refine awp_seq ?_
                  refine awp_reg1 (by rw [hx]; kernel_rfl) fun K hK => ?_
                  simp (config := { maxSteps := 1000000 }) [ty25]
                  refine callL q37 ?_ (.inr rfl) ?_
                  · refine mapO_one (viewC_plat rfl rfl rfl (by simp) rfl rfl)
                  simp
                  refine hK _ ?_
                  clear hK K
                  first | show AWP _ _ _ _ _ | show ∃ _, _ | skip
                  repeat refine awp_seq ?_
                  refine awp_reg1 (by rw [hx]; kernel_rfl) fun K hK => ?_
                  simp (config := { maxSteps := 1000000 }) [ty25]
                  refine callP (p38) (by first | (simp; done) | (simp [*]; done)) ?_
                  simp (config := { maxSteps := 1000000 }) []
                  refine hK _ ?_
                  clear hK K
                  first | show AWP _ _ _ _ _ | show ∃ _, _ | skip
                  repeat refine awp_seq ?_
                  refine awp_reg1 (by rw [hx]; kernel_rfl) fun K hK => ?_
                  simp (config := { maxSteps := 1000000 }) [ty25]
                  refine callL q38 ?_ (.inr rfl) ?_
                  · refine mapO_one (viewC_plat rfl rfl rfl (by simp) rfl rfl)
                  simp
                  refine hK _ ?_
                  clear hK K
                  first | show AWP _ _ _ _ _ | show ∃ _, _ | skip
                  repeat refine awp_seq ?_
                  refine awp_reg1 (by rw [hx]; kernel_rfl) fun K hK => ?_
                  simp (config := { maxSteps := 1000000 }) [ty25]
                  refine callP (p21) (by first | (simp; done) | (simp [*]; done)) ?_
                  simp (config := { maxSteps := 1000000 }) [ty41, ty3]
                  refine hK _ ?_
                  clear hK K
                  first | show AWP _ _ _ _ _ | show ∃ _, _ | skip
                  repeat refine awp_seq ?_
                  refine awp_reg1 (by rw [hx]; kernel_rfl) fun K hK => ?_
                  simp (config := { maxSteps := 1000000 }) [ty25]
                  refine callL q21 ?_ (.inr rfl) ?_
                  · refine mapO_two (viewC_plat rfl rfl rfl (by simp) rfl rfl) (viewC_self rfl)
                  simp [ty41, ty3]
                  refine hK _ ?_
                  clear hK K
                  first | show AWP _ _ _ _ _ | show ∃ _, _ | skip
                  repeat refine awp_seq ?_
                  refine awp_reg1 (by rw [hx]; kernel_rfl) fun K hK => ?_
                  simp (config := { maxSteps := 1000000 }) [ty30]
                  refine callP (k3) (by first | (simp; done) | (simp [*]; done)) ?_
                  simp (config := { maxSteps := 1000000 }) [ty30]
                  refine callP (k3) (by first | (simp; done) | (simp [*]; done)) ?_
                  simp (config := { maxSteps := 1000000 }) [ty30]
                  refine hK _ ?_
                  clear hK K
                  first | show AWP _ _ _ _ _ | show ∃ _, _ | skip
                  repeat refine awp_seq ?_
                  refine awp_cond (by simp; rfl) (by rw [hx]; simp) (fun hd => ?_) (fun hd => ?_)
                  · simp at hd
                  clear hd
                  refine awp_skip ?_
                  first | show AWP _ _ _ _ _ | show ∃ _, _ | skip
                  repeat refine awp_seq ?_
                  refine awp_reg1 (by rw [hx]; kernel_rfl) fun K hK => ?_
                  simp (config := { maxSteps := 1000000 }) [ty30, ty3, ty41]
                  refine callP (works14) (by first | (simp; done) | (simp [*]; done)) ?_
                  simp (config := { maxSteps := 1000000 }) []
                  refine hK _ ?_
                  clear hK K
                  first | show AWP _ _ _ _ _ | show ∃ _, _ | skip
                  repeat refine awp_seq ?_
                  refine awp_ret ?_
                  refine And.intro (Or.inr rfl) ?_
                  simp [retC, resC, viewC, mapO]
            · have h13 := ready_no hrq
              repeat refine awp_seq ?_
              refine awp_reg1 (by rw [hx]; kernel_rfl) fun K hK => ?_
              simp (config := { maxSteps := 1000000 }) [ty25]
              refine callL h13 ?_ (.inr rfl) ?_
              · refine mapO_one (viewC_plat rfl rfl rfl (by simp) rfl rfl)
              simp
              refine hK _ ?_
              clear hK K
              first | show AWP _ _ _ _ _ | show ∃ _, _ | skip
              repeat refine awp_seq ?_
              refine awp_cond (by simp; rfl) (by rw [hx]; simp) (fun hd => ?_) (fun hd => ?_)
              · repeat refine awp_seq ?_
                refine awp_reg1 (by rw [hx]; kernel_rfl) fun K hK => ?_
                simp (config := { maxSteps := 1000000 }) []
                refine callP (works14) (by first | (simp; done) | (simp [*]; done)) ?_
                simp (config := { maxSteps := 1000000 }) []
                refine hK _ ?_
                clear hK K
                first | show AWP _ _ _ _ _ | show ∃ _, _ | skip
                repeat refine awp_seq ?_
                refine awp_ret ?_
                refine And.intro (Or.inr rfl) ?_
                simp [retC, resC, viewC, mapO]
              · simp at hd
      · have h20' := isParcel_c p j (by omega)
        rw [decide_eq_false hj0] at h20'
        refine pure_of (fn := Try.f8) [.tmp 6] ⟨Try.func8, rfl, by kernel_rfl⟩ (by kernel_rfl) (by kernel_rfl) (by kernel_rfl) fun x hx hσ => ?_
        repeat refine awp_seq ?_
        refine awp_reg1 (by rw [hx]; kernel_rfl) fun K hK => ?_
        simp (config := { maxSteps := 1000000 }) [ty25, ty57]
        refine hK _ ?_
        clear hK K
        first | show AWP _ _ _ _ _ | show ∃ _, _ | skip
        repeat refine awp_seq ?_
        refine awp_drw3 [] [0, 1, 2, 3, 4, 5] (by rw [hx]; kernel_rfl) (by kernel_rfl) (by kernel_rfl) (by kernel_rfl) fun K hK => ?_
        simp (config := { maxSteps := 1000000 }) [ty57, ty3]
        refine hK _ ?_
        clear hK K
        first | show AWP _ _ _ _ _ | show ∃ _, _ | skip
        repeat refine awp_seq ?_
        refine awp_reg1 (by rw [hx]; kernel_rfl) fun K hK => ?_
        simp (config := { maxSteps := 1000000 }) [ty25, ty3]
        refine callP (hr13) (by first | (simp; done) | (simp [*]; done)) ?_
        simp (config := { maxSteps := 1000000 }) [ty25, ty3]
        refine callP (h20) (by first | (simp; done) | (simp [*]; done)) ?_
        simp (config := { maxSteps := 1000000 }) [ty25, ty3]
        refine callP (h20') (by first | (simp; done) | (simp [*]; done)) ?_
        simp (config := { maxSteps := 1000000 }) [ty25, ty3]
        refine hK _ ?_
        clear hK K
        first | show AWP _ _ _ _ _ | show ∃ _, _ | skip
        repeat refine awp_seq ?_
        refine awp_cond (by simp; rfl) (by rw [hx]; simp) (fun hd => ?_) (fun hd => ?_)
        · repeat refine awp_seq ?_
          refine awp_reg1 (by rw [hx]; kernel_rfl) fun K hK => ?_
          simp (config := { maxSteps := 1000000 }) []
          refine callP (works14) (by first | (simp; done) | (simp [*]; done)) ?_
          simp (config := { maxSteps := 1000000 }) []
          refine hK _ ?_
          clear hK K
          first | show AWP _ _ _ _ _ | show ∃ _, _ | skip
          repeat refine awp_seq ?_
          refine awp_ret ?_
          refine And.intro (Or.inr rfl) ?_
          simp [retC, resC, viewC, mapO]
        · simp at hd
    · have h20 := isParcel_c p at' (by omega)
      rw [decide_eq_false hk0] at h20
      refine pure_of (fn := Try.f8) [.tmp 6] ⟨Try.func8, rfl, by kernel_rfl⟩ (by kernel_rfl) (by kernel_rfl) (by kernel_rfl) fun x hx hσ => ?_
      repeat refine awp_seq ?_
      refine awp_reg1 (by rw [hx]; kernel_rfl) fun K hK => ?_
      simp (config := { maxSteps := 1000000 }) [ty25, ty57]
      refine hK _ ?_
      clear hK K
      first | show AWP _ _ _ _ _ | show ∃ _, _ | skip
      repeat refine awp_seq ?_
      refine awp_drw3 [] [0, 1, 2, 3, 4, 5] (by rw [hx]; kernel_rfl) (by kernel_rfl) (by kernel_rfl) (by kernel_rfl) fun K hK => ?_
      simp (config := { maxSteps := 1000000 }) [ty57, ty3]
      refine hK _ ?_
      clear hK K
      first | show AWP _ _ _ _ _ | show ∃ _, _ | skip
      repeat refine awp_seq ?_
      refine awp_reg1 (by rw [hx]; kernel_rfl) fun K hK => ?_
      simp (config := { maxSteps := 1000000 }) [ty25, ty3]
      refine callP (hr13) (by first | (simp; done) | (simp [*]; done)) ?_
      simp (config := { maxSteps := 1000000 }) [ty25, ty3]
      refine callP (h20) (by first | (simp; done) | (simp [*]; done)) ?_
      simp (config := { maxSteps := 1000000 }) [ty25, ty3]
      refine hK _ ?_
      clear hK K
      first | show AWP _ _ _ _ _ | show ∃ _, _ | skip
      repeat refine awp_seq ?_
      refine awp_cond (by simp; rfl) (by rw [hx]; simp) (fun hd => ?_) (fun hd => ?_)
      · repeat refine awp_seq ?_
        refine awp_reg1 (by rw [hx]; kernel_rfl) fun K hK => ?_
        simp (config := { maxSteps := 1000000 }) []
        refine callP (works14) (by first | (simp; done) | (simp [*]; done)) ?_
        simp (config := { maxSteps := 1000000 }) []
        refine hK _ ?_
        clear hK K
        first | show AWP _ _ _ _ _ | show ∃ _, _ | skip
        repeat refine awp_seq ?_
        refine awp_ret ?_
        refine And.intro (Or.inr rfl) ?_
        simp [retC, resC, viewC, mapO]
      · simp at hd
  · have hr13 := ready_no hrd
    refine pure_of (fn := Try.f8) [.tmp 6] ⟨Try.func8, rfl, by kernel_rfl⟩ (by kernel_rfl) (by kernel_rfl) (by kernel_rfl) fun x hx hσ => ?_
    repeat refine awp_seq ?_
    refine awp_reg1 (by rw [hx]; kernel_rfl) fun K hK => ?_
    simp (config := { maxSteps := 1000000 }) [ty25, ty57]
    refine hK _ ?_
    clear hK K
    first | show AWP _ _ _ _ _ | show ∃ _, _ | skip
    repeat refine awp_seq ?_
    refine awp_drw3 [] [0, 1, 2, 3, 4, 5] (by rw [hx]; kernel_rfl) (by kernel_rfl) (by kernel_rfl) (by kernel_rfl) fun K hK => ?_
    simp (config := { maxSteps := 1000000 }) [ty57, ty3]
    refine hK _ ?_
    clear hK K
    first | show AWP _ _ _ _ _ | show ∃ _, _ | skip
    repeat refine awp_seq ?_
    refine awp_reg1 (by rw [hx]; kernel_rfl) fun K hK => ?_
    simp (config := { maxSteps := 1000000 }) [ty25, ty3]
    refine callP (hr13) (by first | (simp; done) | (simp [*]; done)) ?_
    simp (config := { maxSteps := 1000000 }) [ty25, ty3]
    refine hK _ ?_
    clear hK K
    first | show AWP _ _ _ _ _ | show ∃ _, _ | skip
    repeat refine awp_seq ?_
    refine awp_cond (by simp; rfl) (by rw [hx]; simp) (fun hd => ?_) (fun hd => ?_)
    · repeat refine awp_seq ?_
      refine awp_reg1 (by rw [hx]; kernel_rfl) fun K hK => ?_
      simp (config := { maxSteps := 1000000 }) []
      refine callP (works14) (by first | (simp; done) | (simp [*]; done)) ?_
      simp (config := { maxSteps := 1000000 }) []
      refine hK _ ?_
      clear hK K
      first | show AWP _ _ _ _ _ | show ∃ _, _ | skip
      repeat refine awp_seq ?_
      refine awp_ret ?_
      refine And.intro (Or.inr rfl) ?_
      simp [retC, resC, viewC, mapO]
    · simp at hd

theorem sh57 : shT Try.prog 6 57 = some [.int .i64, .int .i64] := by kernel_rfl
theorem ag57 : isAggT Try.prog 57 = true := by kernel_rfl

theorem arg57 {cs : List C} {ts : List TypeId} (h : ArgsFit Try.prog (57 :: ts) cs) : ∃ (a b : Int) (r : List C), cs = .agg [encI a, encI b] :: r ∧ ArgsFit Try.prog ts r := by
  simp only [ArgsFit] at h
  obtain ⟨shs, m, c, r, rfl, h1, h2, h3, h4⟩ := h
  rw [sh57] at h1
  cases h1
  rw [ag57, if_pos rfl] at h3
  subst h3
  simp only [FitL, Fit] at h2
  obtain ⟨_, _, rfl, ⟨a, rfl, _⟩, _, _, rfl, ⟨b, rfl, _⟩, rfl⟩ := h2
  exact ⟨a, b, r, rfl, h4⟩

end Go.Proofs.Ytgcmjidphcafnaa

namespace Go.Proofs.Ytgcmjidphcafnaa
open Go Go.Abs
open Go.ChangeShapes Go.WideShapes Go.ChangeAt Go.RowKit

set_option maxRecDepth 100000 in
theorem parcelsMore_lifted (os : Os) (started : os.Started) (H : Type) (enc : TypeId × Value → H) :
    ReturnsInHanded {} Try.checked os 8 .any (Rows.parcelsMoreSpec.pre6 enc Try.prog Try.f8 Rows.parcelsMoreRow.domain false) (Rows.parcelsMoreSpec.post enc Try.prog Try.f8 false true false false) := by
  refine returnsInHanded_of_change (C := Try.checked) J.own started (by kernel_rfl) Try.func8
    (ChangeSpec.witness6 (enc := enc) (C := Try.checked) false ⟨#[], #[.agg #[.slice none 0 0, .slice none 0 0, .slice none 0 0], .agg #[.int .i64 0, .int .i64 0], .int .i64 0], []⟩ 8 (by kernel_rfl) (by kernel_rfl) (by kernel_rfl) (by kernel_rfl)) ?_
  intro W base args ds gs before hval hW _ _
  refine law_contract (P := Try.prog) (tb := 4) (by kernel_rfl) J.ub rfl (fun ds hl => ?_) J.laid J.maps J.sized (by kernel_rfl) (by kernel_rfl) (fun cargs hc => ?_) W base args ds gs before hval hW
  · have h2 : ds.length = 3 := hl
    match ds, h2 with
    | [_, _, _], _ => rfl
  · rw [Try.params8] at hc
    obtain ⟨p, r, rfl, hn, hc1⟩ := arg25 hc
    obtain ⟨a, m, r, rfl, hc2⟩ := arg57 hc1
    obtain ⟨j, r, rfl, hj, hc3⟩ := arg3 hc2
    obtain rfl := arg_end hc3
    exact more8 p hn a m j

theorem parcelsMore_holds : Rows.ParcelsMoreSaid :=
  OpenClaim.holds_of_wide 8 Try.f8 rfl rfl rfl rfl rfl rfl rfl ⟨rfl, rfl, rfl, rfl, rfl⟩ rfl rfl rfl rfl rfl (by kernel_rfl) Try.func8 (by kernel_rfl)
    (of_decide_eq_true (by kernel_rfl)) (by unfold Func.isWrapper; first | (rw [if_pos (by decide +kernel)]; kernel_rfl) | (rw [if_neg (by decide +kernel)]; exact ⟨rfl, rfl⟩))
    (fun os started H enc _ => parcelsMore_lifted os started H enc)
#print axioms parcelsMore_holds
end Go.Proofs.Ytgcmjidphcafnaa

