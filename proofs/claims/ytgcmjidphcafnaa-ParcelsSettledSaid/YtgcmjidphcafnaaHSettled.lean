/- For every input the law ParcelsSettled returns true, and each argument reads afterwards as it read before. No condition. -/
import Derived.Test.YtgcmjidphcafnaaB6

set_option linter.unusedSimpArgs false
set_option linter.unusedVariables false
set_option linter.constructorNameAsVariable false

namespace Go.Proofs.Ytgcmjidphcafnaa
open Go Go.Abs

set_option maxHeartbeats 4000000
set_option maxRecDepth 100000


theorem exq (B : Nat) (q : Nat) (h1 : mkB B ≤ q) : 100000 ≤ q := by unfold mkB at h1; omega

theorem set_pure (ps : List Pc) (k : Nat) (q : Pc) : ((ps.map cP).set k [.int .i64 q.row, .int .i64 q.col, .int .i64 q.area, .int .i64 q.off]).all purel = true := by
  have := pcs_pure (ps.set k q)
  rw [List.map_set] at this
  exact this

theorem isE_set (ps : List Pc) (k : Nat) (q : Pc) : (ps.set k q).isEmpty = ps.isEmpty := by
  cases ps with
  | nil => rfl
  | cons a l => cases k <;> rfl

theorem mapO_one {f : C → Option C} {a b : C} (h : f a = some b) : mapO f [a] = some [b] := by simp [mapO, h]


theorem settled4 (p : Plat) (hn : NlOk p) (pk : Int) (high : Bool) : Pure Try.prog 4 [encPlat p, encI pk, .bool high] (.bool true) := by
  by_cases hrd : ¬ FarP p ∧ PlatOk p
  · have hp := hrd.2
    have hr13 := ready_yes hrd
    have h8 := hp.n8
    by_cases hk0 : 0 ≤ pk ∧ pk < p.ps.length
    · obtain ⟨k, rfl⟩ : ∃ k : Nat, pk = k := ⟨pk.toNat, by omega⟩
      have hk : k < p.ps.length := by omega
      have h20 := isParcel_c p k (by omega)
      rw [decide_eq_true hk0] at h20
      by_cases hf : Fe p
      · obtain ⟨a, b, hR⟩ := range_ex hf hk
        have h21 := range_c p hp hn.pn k hk a b hR
        have hq := hp.ps _ (List.getElem_mem hk)
        have hqo := hq
        unfold PcOk at hqo
        have egk : pcA p k = p.ps[k] := by simp [pcA, hk]
        obtain ⟨⟨la, ha1, ha2⟩, ⟨lb, hb1, hb2⟩, hab⟩ := id hR
        have bda := isP_bd ha1 hk
        have bdb := isP_bd hb1 hk
        rw [ha2, egk] at bda
        rw [hb2, egk] at bdb
        have hlea : a ≤ b := by have := (hab la ha1).2; omega
        have hln := low_nn p.ps[k]
        have hhi : highI p.ps[k] ≤ 1098 := by unfold highI; omega
        have hlo := low_c p.ps[k] hq
        have hhc := high_c p.ps[k] hq
        have n1 : ¬ (a < lowI p.ps[k]) := by omega
        have n2 : ¬ (highI p.ps[k] < b) := by omega
        have n3 : ¬ (b < a) := by omega
        have wm : IntKind.i64.wrap (a - 1) = a - 1 := wrap_id (by omega) (by omega)
        have wp : IntKind.i64.wrap (b + 1) = b + 1 := wrap_id (by omega) (by omega)
        have hne : p.ps ≠ [] := by intro h; rw [h] at hk; simp at hk
        have hcp := copy24 p (by omega) (by have := hp.r4; omega) (by have := hp.c4; omega)
        refine pure_of (fn := Try.f4) [.tmp 6] ⟨Try.func4, rfl, by kernel_rfl⟩ (by kernel_rfl) (by kernel_rfl) (by kernel_rfl) fun x hx hσ => ?_
        repeat refine awp_seq ?_
        refine awp_reg1 (by rw [hx]; kernel_rfl) fun K hK => ?_
        simp (config := { maxSteps := 1000000 }) [ty25]
        refine hK _ ?_
        clear hK K
        first | show AWP _ _ _ _ _ | show ∃ _, _ | skip
        repeat refine awp_seq ?_
        refine awp_reg1 (by rw [hx]; kernel_rfl) fun K hK => ?_
        simp (config := { maxSteps := 1000000 }) [ty25]
        refine callP (hr13) (by first | (simp; done) | (simp [*]; done)) ?_
        simp (config := { maxSteps := 1000000 }) [ty25]
        refine callP (h20) (by first | (simp; done) | (simp [*]; done)) ?_
        simp (config := { maxSteps := 1000000 }) [ty25]
        refine hK _ ?_
        clear hK K
        first | show AWP _ _ _ _ _ | show ∃ _, _ | skip
        repeat refine awp_seq ?_
        refine awp_cond (by simp; rfl) (by rw [hx]; simp) (fun hd => ?_) (fun hd => ?_)
        · simp at hd
        clear hd
        refine awp_skip ?_
        first | show AWP _ _ _ _ _ | show ∃ _, _ | skip
        repeat refine awp_seq ?_
        refine awp_reg1 (by rw [hx]; kernel_rfl) fun K hK => ?_
        simp (config := { maxSteps := 1000000 }) [ty25]
        refine callP (h21) (by first | (simp; done) | (simp [*]; done)) ?_
        simp (config := { maxSteps := 1000000 }) [ty41]
        refine hK _ ?_
        clear hK K
        first | show AWP _ _ _ _ _ | show ∃ _, _ | skip
        repeat refine awp_seq ?_
        refine awp_reg1 (by rw [hx]; kernel_rfl) fun K hK => ?_
        simp (config := { maxSteps := 1000000 }) [ty30]
        refine hK _ ?_
        clear hK K
        first | show AWP _ _ _ _ _ | show ∃ _, _ | skip
        repeat refine awp_seq ?_
        refine awp_cond (by simp; rfl) (by rw [hx]; simp) (fun hd => ?_) (fun hd => ?_)
        · simp at hd
        clear hd
        refine awp_skip ?_
        first | show AWP _ _ _ _ _ | show ∃ _, _ | skip
        repeat refine awp_seq ?_
        refine awp_reg1 (by rw [hx]; kernel_rfl) fun K hK => ?_
        simp (config := { maxSteps := 1000000 }) [ty25, ty22, ty45, ty3, hk]
        refine hK _ ?_
        clear hK K
        first | show AWP _ _ _ _ _ | show ∃ _, _ | skip
        repeat refine awp_seq ?_
        refine awp_drw3 [] [0, 1, 2, 3, 4, 5, 6, 7, 8, 9, 10, 11, 12, 13, 14, 15, 16, 17, 18] (by rw [hx]; kernel_rfl) (by kernel_rfl) (by kernel_rfl) (by kernel_rfl) fun K hK => ?_
        simp (config := { maxSteps := 1000000 }) [ty41, ty3, ty45]
        refine callPD (hlo) (by first | (simp; done) | (simp [*]; done)) (by simp) ?_
        simp (config := { maxSteps := 1000000 }) [ty41, ty3, ty45, n1]
        refine callPD (hhc) (by first | (simp; done) | (simp [*]; done)) (by simp) ?_
        simp (config := { maxSteps := 1000000 }) [ty41, ty3, ty45, n1, n2, n3]
        refine hK _ ?_
        clear hK K
        first | show AWP _ _ _ _ _ | show ∃ _, _ | skip
        repeat refine awp_seq ?_
        refine awp_cond (by simp; rfl) (by rw [hx]; simp) (fun hd => ?_) (fun hd => ?_)
        · simp at hd
        clear hd
        refine awp_skip ?_
        first | show AWP _ _ _ _ _ | show ∃ _, _ | skip
        obtain ⟨en, hen⟩ : ∃ en, en = if high then b else a := ⟨_, rfl⟩
        obtain ⟨be, hbe⟩ : ∃ be, be = if high then b + 1 else a - 1 := ⟨_, rfl⟩
        cases high with
        | true =>
          have hEn : b = en := by rw [hen]; rfl
          have hBe : b + 1 = be := by rw [hbe]; rfl
          have hEe : (en = a ∧ be = a - 1) ∨ (en = b ∧ be = b + 1) := by omega
          repeat refine awp_seq ?_
          refine awp_drw3 [] [0, 1, 2, 3, 4, 5, 6] (by rw [hx]; kernel_rfl) (by kernel_rfl) (by kernel_rfl) (by kernel_rfl) fun K hK => ?_
          simp (config := { maxSteps := 1000000 }) [ty41, ty3, wm]
          refine hK _ ?_
          clear hK K
          first | show AWP _ _ _ _ _ | show ∃ _, _ | skip
          repeat refine awp_seq ?_
          refine awp_reg1 (by rw [hx]; kernel_rfl) fun K hK => ?_
          simp (config := { maxSteps := 1000000 }) []
          refine hK _ ?_
          clear hK K
          first | show AWP _ _ _ _ _ | show ∃ _, _ | skip
          repeat refine awp_seq ?_
          refine awp_cond (by simp; rfl) (by rw [hx]; simp) (fun hd => ?_) (fun hd => ?_)
          · repeat refine awp_seq ?_
            refine awp_drw3 [] [0, 1, 2, 3, 4, 5, 6] (by rw [hx]; kernel_rfl) (by kernel_rfl) (by kernel_rfl) (by kernel_rfl) fun K hK => ?_
            simp (config := { maxSteps := 1000000 }) [ty41, ty3, wp]
            refine hK _ ?_
            clear hK K
            first | show AWP _ _ _ _ _ | show ∃ _, _ | skip
            refine AWP.weak (t := ⟨ofL [(1, encI k), (3, .ptr 3 3 0 0), (9, .ptr 9 4 0 0), (10, encI en), (11, encI be)], stoT [(3, 3, .live (obPlat p)), (9, 9, .live (obPc p.ps[k]))]⟩) ?_ ?_
            rotate_left
            · refine wk_shape (shp0 hσ (by simp) (by simp) ?_) ?_
              · simp [SlotOk]
                exact ⟨.same (plat_pure p), .same (by simp [purel, C.isPure])⟩
              · simp [mtc, mtl, mT, C.isPure, purel]
                omega
            repeat refine awp_seq ?_
            refine awp_drw3 [3001, 3003] [0, 2, 1, 3, 4, 5, 6, 7] (by rw [hx]; kernel_rfl) (by kernel_rfl) (by kernel_rfl) (by kernel_rfl) fun K hK => ?_
            simp (config := { maxSteps := 1000000 }) [ty25]
            refine makesD hcp ?_ (by simp) ?_
            · intro q h1 h2
              have := exq _ _ h1
              have e1 : q ≠ 3 := by omega
              have e2 : q ≠ 9 := by omega
              simp [e1, e2]
            simp [mkB]
            refine makesD hcp ?_ (by simp) ?_
            · intro q h1 h2
              simp only [mkB] at h1 h2
              have e1 : q ≠ 3 := by omega
              have e2 : q ≠ 9 := by omega
              have e3 : ¬ q < 100793 := by omega
              simp [e1, e2, e3]
            simp [mkB, ty25]
            refine hK _ ?_
            clear hK K
            first | show AWP _ _ _ _ _ | show ∃ _, _ | skip
            refine AWP.weak (t := ⟨ofL [(1, encI k), (3, .ptr 3 3 0 0), (9, .ptr 9 4 0 0), (10, encI en), (11, encI be), (12, .ptr 12 3 0 0), (13, .ptr 13 3 0 0)],
              stoT [(3, 3, .live (obPlat p)), (9, 9, .live (obPc p.ps[k])), (12, 12, .live (platBox 5001 p)), (13, 13, .live (platBox 5004 p)), (5001, 100790, .live (pcsOb true p.ps)), (5002, 100791, .live (clOb p.rows true)), (5003, 100792, .live (clOb p.cols true)),
                (5004, 100810, .live (pcsOb true p.ps)), (5005, 100811, .live (clOb p.rows true)), (5006, 100812, .live (clOb p.cols true))]⟩) ?_ ?_
            rotate_left
            · refine wk_shape (T := [(3, 3, .live (obPlat p)), (9, 9, .live (obPc p.ps[k])), (12, 12, .live (platBox 5001 p)), (13, 13, .live (platBox 5004 p)), (5001, 100790, .live (pcsOb true p.ps)), (5002, 100791, .live (clOb p.rows true)), (5003, 100792, .live (clOb p.cols true)), (5004, 100810, .live (pcsOb true p.ps)), (5005, 100811, .live (clOb p.rows true)), (5006, 100812, .live (clOb p.cols true))]) (shp0 hσ (by simp) (by simp) ?_) ?_
              · simp [SlotOk]
                refine ⟨.same (plat_pure p), .same (by simp [purel, C.isPure]), rowsOk_box (by simp [mtc, mT]) (by simp [mtc, mT]) (by simp [mtc, mT]) rfl rfl rfl, rowsOk_box (by simp [mtc, mT]) (by simp [mtc, mT]) (by simp [mtc, mT]) rfl rfl rfl, .same (pcs_pure _), .same (ints_pure _), .same (ints_pure _), .same (pcs_pure _), .same (ints_pure _), .same (ints_pure _)⟩
              · simp [mtc, mtl, mT, C.isPure, purel]
            repeat refine awp_seq ?_
            refine awp_drw3 [1004, 2009, 15001] [0, 1, 2, 3, 4, 5, 6, 7, 8, 9, 10, 11, 12] (by rw [hx]; kernel_rfl) (by kernel_rfl) (by kernel_rfl) (by kernel_rfl) fun K hK => ?_
            simp (config := { maxSteps := 1000000 }) [ty25, ty22, ty45, ty3, hk, hne]
            refine hK _ ?_
            clear hK K
            first | show AWP _ _ _ _ _ | show ∃ _, _ | skip
            repeat refine awp_seq ?_
            refine awp_drw3 [1004, 2009, 15004] [0, 1, 2, 3, 4, 5, 6, 7, 8, 9, 10, 11, 12] (by rw [hx]; kernel_rfl) (by kernel_rfl) (by kernel_rfl) (by kernel_rfl) fun K hK => ?_
            simp (config := { maxSteps := 1000000 }) [ty25, ty22, ty45, ty3, hk, hne]
            refine hK _ ?_
            clear hK K
            first | show AWP _ _ _ _ _ | show ∃ _, _ | skip
            refine AWP.weak (t := ⟨ofL [(1, encI k), (3, .ptr 3 3 0 0), (9, .ptr 9 4 0 0), (10, encI en), (11, encI be), (12, .ptr 12 3 0 0), (13, .ptr 13 3 0 0)],
              stoT [(3, 3, .live (obPlat p)), (9, 9, .live (obPc p.ps[k])), (12, 12, .live (platBox 5001 p)), (13, 13, .live (platBox 5004 p)), (5001, 5001, .live (pcsOb true (mapTo (fSpan k en) p.ps p.ps.length))), (5002, 5002, .live (clOb p.rows true)), (5003, 5003, .live (clOb p.cols true)),
                (5004, 5004, .live (pcsOb true (mapTo (fSpan k be) p.ps p.ps.length))), (5005, 5005, .live (clOb p.rows true)), (5006, 5006, .live (clOb p.cols true))]⟩) ?_ ?_
            rotate_left
            · refine wk_shape (shp0 hσ (by simp) (by simp) ?_) ?_
              · rw [span_set hk, span_set hk]
                simp [SlotOk, List.map_set, hne, isE_set]
                refine ⟨.same (plat_pure p), .same (by simp [purel, C.isPure]), rowsOk_box (by simp [mtc, mT]) (by simp [mtc, mT]) (by simp [mtc, mT]) rfl rfl rfl, rowsOk_box (by simp [mtc, mT]) (by simp [mtc, mT]) (by simp [mtc, mT]) rfl rfl rfl, .same (set_pure p.ps k ⟨p.ps[k].row, p.ps[k].col, en, 0⟩), .same (ints_pure _), .same (ints_pure _), .same (set_pure p.ps k ⟨p.ps[k].row, p.ps[k].col, be, 0⟩), .same (ints_pure _), .same (ints_pure _)⟩
              · simp [mtc, mtl, mT, C.isPure, purel]
            by_cases hro : ¬ FarP (cpP (mapTo (fSpan k en) p.ps p.ps.length) p.rows p.cols) ∧ PlatOk (cpP (mapTo (fSpan k en) p.ps p.ps.length) p.rows p.cols)
            · have h13 := ready_yes hro
              repeat refine awp_seq ?_
              refine awp_reg1 (by rw [hx]; kernel_rfl) fun K hK => ?_
              simp (config := { maxSteps := 1000000 }) [ty25]
              refine callL h13 ?_ (.inr rfl) ?_
              · refine mapO_one (viewC_plat rfl rfl rfl (by simp) rfl rfl)
              simp
              refine hK _ ?_
              clear hK K
              first | show AWP _ _ _ _ _ | show ∃ _, _ | skip
              repeat refine awp_seq ?_
              refine awp_cond (by simp; rfl) (by rw [hx]; simp) (fun hd => ?_) (fun hd => ?_)
              · simp at hd
              clear hd
              refine awp_skip ?_
              first | show AWP _ _ _ _ _ | show ∃ _, _ | skip
              obtain ⟨l, hlP, hlm, h25, -⟩ := least_fe p hp hf
              have hEr : lowI (pcA p k) ≤ en ∧ en ≤ highI (pcA p k) := by rw [egk]; omega
              have hEp : 0 ≤ en := by omega
              have hfo : Fe (cpP (mapTo (fSpan k en) p.ps p.ps.length) p.rows p.cols) := by
                rcases hEe with ⟨e, -⟩ | ⟨e, -⟩
                · exact ⟨la, (isP_span hk hEr hEp).2 ⟨ha1, by rw [ha2, e]⟩⟩
                · exact ⟨lb, (isP_span hk hEr hEp).2 ⟨hb1, by rw [hb2, e]⟩⟩
              obtain ⟨m, hmP, -, h25o, -⟩ := least_fe _ hro.2 hfo
              have hm2 : IsP p m ∧ Flow.gi m k = en := (isP_span hk hEr hEp).1 hmP
              have hs := sum_settled hk en hm2.2
              have hbo := sum_bd hro.2 hmP
              have hbp := sum_bd hp hlP
              have hle := hlm m hm2.1
              have hle2 := sum_bd hp hm2.1
              obtain ⟨dd, hdd⟩ : ∃ dd, (if p.ps[k].area - en < en - p.ps[k].area then en - p.ps[k].area else p.ps[k].area - en) = dd := ⟨_, rfl⟩
              have echg : chgI (pcA p k) en = dd := by rw [egk, ← hdd]; unfold chgI; split <;> omega
              have hd0 : 0 ≤ dd ∧ dd ≤ 1098 := by rw [← hdd]; split <;> omega
              rw [echg] at hs
              obtain ⟨s1, hs1⟩ : ∃ s1, s1 = sumC p l := ⟨_, rfl⟩
              obtain ⟨s2, hs2⟩ : ∃ s2, s2 = sumC (cpP (mapTo (fSpan k en) p.ps p.ps.length) p.rows p.cols) m := ⟨_, rfl⟩
              rw [← hs1] at h25 hbp hle
              rw [← hs2] at h25o hbo hs
              repeat refine awp_seq ?_
              refine awp_reg1 (by rw [hx]; kernel_rfl) fun K hK => ?_
              simp (config := { maxSteps := 1000000 }) [ty25]
              refine callP (h25) (by first | (simp; done) | (simp [*]; done)) ?_
              simp (config := { maxSteps := 1000000 }) []
              refine hK _ ?_
              clear hK K
              first | show AWP _ _ _ _ _ | show ∃ _, _ | skip
              repeat refine awp_seq ?_
              refine awp_reg1 (by rw [hx]; kernel_rfl) fun K hK => ?_
              simp (config := { maxSteps := 1000000 }) [ty25]
              refine callL h25o ?_ (.inr rfl) ?_
              · refine mapO_one (viewC_plat rfl rfl rfl (by simp) rfl rfl)
              simp
              refine hK _ ?_
              clear hK K
              first | show AWP _ _ _ _ _ | show ∃ _, _ | skip
              have w1 : IntKind.i64.wrap (p.ps[k].area - en) = p.ps[k].area - en := wrap_id (by omega) (by omega)
              have w2 : IntKind.i64.wrap (en - p.ps[k].area) = en - p.ps[k].area := wrap_id (by omega) (by omega)
              have g1 : ¬ s2 < 0 := by omega
              have g2 : ¬ 10000 < s2 := by omega
              have w3 : IntKind.i64.wrap (s2 + dd) = s2 + dd := wrap_id (by omega) (by omega)
              have g3 : ¬ s2 + dd < s1 := by omega
              repeat refine awp_seq ?_
              refine awp_reg1 (by rw [hx]; kernel_rfl) fun K hK => ?_
              simp (config := { maxSteps := 1000000 }) [ty30, ty3, ty45, w1, w2, g1, g2, hdd, w3, g3]
              refine hK _ ?_
              clear hK K
              first | show AWP _ _ _ _ _ | show ∃ _, _ | skip
              repeat refine awp_seq ?_
              refine awp_cond (by simp; rfl) (by rw [hx]; simp) (fun hd => ?_) (fun hd => ?_)
              · simp at hd
              clear hd
              refine awp_skip ?_
              first | show AWP _ _ _ _ _ | show ∃ _, _ | skip
              by_cases hrq : ¬ FarP (cpP (mapTo (fSpan k be) p.ps p.ps.length) p.rows p.cols) ∧ PlatOk (cpP (mapTo (fSpan k be) p.ps p.ps.length) p.rows p.cols)
              · have h13q := ready_yes hrq
                by_cases hbr : lowI p.ps[k] ≤ be ∧ be ≤ highI p.ps[k]
                · have g4 : ¬ be < lowI p.ps[k] := by omega
                  have g5 : ¬ highI p.ps[k] < be := by omega
                  repeat refine awp_seq ?_
                  refine awp_reg1 (by rw [hx]; kernel_rfl) fun K hK => ?_
                  simp (config := { maxSteps := 1000000 }) [ty25]
                  refine callL h13q ?_ (.inr rfl) ?_
                  · refine mapO_one (viewC_plat rfl rfl rfl (by simp) rfl rfl)
                  simp [ty45, g4, g5]
                  refine callP (hlo) (by first | (simp; done) | (simp [*]; done)) ?_
                  simp (config := { maxSteps := 1000000 }) [ty45, ty3, g4, g5]
                  refine callP (hhc) (by first | (simp; done) | (simp [*]; done)) ?_
                  simp (config := { maxSteps := 1000000 }) [ty45, ty3, g4, g5]
                  refine hK _ ?_
                  clear hK K
                  first | show AWP _ _ _ _ _ | show ∃ _, _ | skip
                  repeat refine awp_seq ?_
                  refine awp_cond (by simp; rfl) (by rw [hx]; simp) (fun hd => ?_) (fun hd => ?_)
                  · simp at hd
                  clear hd
                  refine awp_skip ?_
                  first | show AWP _ _ _ _ _ | show ∃ _, _ | skip
                  have hEr : lowI (pcA p k) ≤ be ∧ be ≤ highI (pcA p k) := by rw [egk]; omega
                  have hnf : ¬ Fe (cpP (mapTo (fSpan k be) p.ps p.ps.length) p.rows p.cols) := by
                    rintro ⟨m', hm'⟩
                    have hm'2 : IsP p m' ∧ Flow.gi m' k = be := (isP_span hk hEr (by omega)).1 hm'
                    have := hab m' hm'2.1
                    omega
                  have h25q := (least_no _ hrq.2 hnf).1
                  repeat refine awp_seq ?_
                  refine awp_reg1 (by rw [hx]; kernel_rfl) fun K hK => ?_
                  simp (config := { maxSteps := 1000000 }) [ty25]
                  refine callL h25q ?_ (.inr rfl) ?_
                  · refine mapO_one (viewC_plat rfl rfl rfl (by simp) rfl rfl)
                  simp
                  refine hK _ ?_
                  clear hK K
                  first | show AWP _ _ _ _ _ | show ∃ _, _ | skip
                  repeat refine awp_seq ?_
                  refine awp_reg1 (by rw [hx]; kernel_rfl) fun K hK => ?_
                  simp (config := { maxSteps := 1000000 }) [ty30]
                  refine callP (works14) (by first | (simp; done) | (simp [*]; done)) ?_
                  simp (config := { maxSteps := 1000000 }) []
                  refine hK _ ?_
                  clear hK K
                  first | show AWP _ _ _ _ _ | show ∃ _, _ | skip
                  repeat refine awp_seq ?_
                  refine awp_ret ?_
                  refine And.intro (Or.inr rfl) ?_
                  simp [retC, resC, viewC, mapO]
                · by_cases g4 : be < lowI p.ps[k]
                  · repeat refine awp_seq ?_
                    refine awp_reg1 (by rw [hx]; kernel_rfl) fun K hK => ?_
                    simp (config := { maxSteps := 1000000 }) [ty25]
                    refine callL h13q ?_ (.inr rfl) ?_
                    · refine mapO_one (viewC_plat rfl rfl rfl (by simp) rfl rfl)
                    simp [ty45, g4]
                    refine callP (hlo) (by first | (simp; done) | (simp [*]; done)) ?_
                    simp (config := { maxSteps := 1000000 }) [ty45, ty3, g4]
                    refine hK _ ?_
                    clear hK K
                    first | show AWP _ _ _ _ _ | show ∃ _, _ | skip
                    repeat refine awp_seq ?_
                    refine awp_cond (by simp; rfl) (by rw [hx]; simp) (fun hd => ?_) (fun hd => ?_)
                    · repeat refine awp_seq ?_
                      refine awp_reg1 (by rw [hx]; kernel_rfl) fun K hK => ?_
                      simp (config := { maxSteps := 1000000 }) []
                      refine callP (works14) (by first | (simp; done) | (simp [*]; done)) ?_
                      simp (config := { maxSteps := 1000000 }) []
                      refine hK _ ?_
                      clear hK K
                      first | show AWP _ _ _ _ _ | show ∃ _, _ | skip
                      repeat refine awp_seq ?_
                      refine awp_ret ?_
                      refine And.intro (Or.inr rfl) ?_
                      simp [retC, resC, viewC, mapO]
                    · simp at hd
                  · have g5 : highI p.ps[k] < be := by omega
                    repeat refine awp_seq ?_
                    refine awp_reg1 (by rw [hx]; kernel_rfl) fun K hK => ?_
                    simp (config := { maxSteps := 1000000 }) [ty25]
                    refine callL h13q ?_ (.inr rfl) ?_
                    · refine mapO_one (viewC_plat rfl rfl rfl (by simp) rfl rfl)
                    simp [ty45, g4, g5]
                    refine callP (hlo) (by first | (simp; done) | (simp [*]; done)) ?_
                    simp (config := { maxSteps := 1000000 }) [ty45, ty3, g4, g5]
                    refine callP (hhc) (by first | (simp; done) | (simp [*]; done)) ?_
                    simp (config := { maxSteps := 1000000 }) [ty45, ty3, g4, g5]
                    refine hK _ ?_
                    clear hK K
                    first | show AWP _ _ _ _ _ | show ∃ _, _ | skip
                    repeat refine awp_seq ?_
                    refine awp_cond (by simp; rfl) (by rw [hx]; simp) (fun hd => ?_) (fun hd => ?_)
                    · repeat refine awp_seq ?_
                      refine awp_reg1 (by rw [hx]; kernel_rfl) fun K hK => ?_
                      simp (config := { maxSteps := 1000000 }) []
                      refine callP (works14) (by first | (simp; done) | (simp [*]; done)) ?_
                      simp (config := { maxSteps := 1000000 }) []
                      refine hK _ ?_
                      clear hK K
                      first | show AWP _ _ _ _ _ | show ∃ _, _ | skip
                      repeat refine awp_seq ?_
                      refine awp_ret ?_
                      refine And.intro (Or.inr rfl) ?_
                      simp [retC, resC, viewC, mapO]
                    · simp at hd
              · have h13q := ready_no hrq
                repeat refine awp_seq ?_
                refine awp_reg1 (by rw [hx]; kernel_rfl) fun K hK => ?_
                simp (config := { maxSteps := 1000000 }) [ty25]
                refine callL h13q ?_ (.inr rfl) ?_
                · refine mapO_one (viewC_plat rfl rfl rfl (by simp) rfl rfl)
                simp
                refine hK _ ?_
                clear hK K
                first | show AWP _ _ _ _ _ | show ∃ _, _ | skip
                repeat refine awp_seq ?_
                refine awp_cond (by simp; rfl) (by rw [hx]; simp) (fun hd => ?_) (fun hd => ?_)
                · repeat refine awp_seq ?_
                  refine awp_reg1 (by rw [hx]; kernel_rfl) fun K hK => ?_
                  simp (config := { maxSteps := 1000000 }) []
                  refine callP (works14) (by first | (simp; done) | (simp [*]; done)) ?_
                  simp (config := { maxSteps := 1000000 }) []
                  refine hK _ ?_
                  clear hK K
                  first | show AWP _ _ _ _ _ | show ∃ _, _ | skip
                  repeat refine awp_seq ?_
                  refine awp_ret ?_
                  refine And.intro (Or.inr rfl) ?_
                  simp [retC, resC, viewC, mapO]
                · simp at hd
            · have h13 := ready_no hro
              repeat refine awp_seq ?_
              refine awp_reg1 (by rw [hx]; kernel_rfl) fun K hK => ?_
              simp (config := { maxSteps := 1000000 }) [ty25]
              refine callL h13 ?_ (.inr rfl) ?_
              · refine mapO_one (viewC_plat rfl rfl rfl (by simp) rfl rfl)
              simp
              refine hK _ ?_
              clear hK K
              first | show AWP _ _ _ _ _ | show ∃ _, _ | skip
              repeat refine awp_seq ?_
              refine awp_cond (by simp; rfl) (by rw [hx]; simp) (fun hd => ?_) (fun hd => ?_)
              · repeat refine awp_seq ?_
                refine awp_reg1 (by rw [hx]; kernel_rfl) fun K hK => ?_
                simp (config := { maxSteps := 1000000 }) []
                refine callP (works14) (by first | (simp; done) | (simp [*]; done)) ?_
                simp (config := { maxSteps := 1000000 }) []
                refine hK _ ?_
                clear hK K
                first | show AWP _ _ _ _ _ | show ∃ _, _ | skip
                repeat refine awp_seq ?_
                refine awp_ret ?_
                refine And.intro (Or.inr rfl) ?_
                simp [retC, resC, viewC, mapO]
              · simp at hd
          · simp at hd
        | false =>
          have hEn : a = en := by rw [hen]; rfl
          have hBe : a - 1 = be := by rw [hbe]; rfl
          have hEe : (en = a ∧ be = a - 1) ∨ (en = b ∧ be = b + 1) := by omega
          repeat refine awp_seq ?_
          refine awp_drw3 [] [0, 1, 2, 3, 4, 5, 6] (by rw [hx]; kernel_rfl) (by kernel_rfl) (by kernel_rfl) (by kernel_rfl) fun K hK => ?_
          simp (config := { maxSteps := 1000000 }) [ty41, ty3, wm]
          refine hK _ ?_
          clear hK K
          first | show AWP _ _ _ _ _ | show ∃ _, _ | skip
          repeat refine awp_seq ?_
          refine awp_reg1 (by rw [hx]; kernel_rfl) fun K hK => ?_
          simp (config := { maxSteps := 1000000 }) []
          refine hK _ ?_
          clear hK K
          first | show AWP _ _ _ _ _ | show ∃ _, _ | skip
          repeat refine awp_seq ?_
          refine awp_cond (by simp; rfl) (by rw [hx]; simp) (fun hd => ?_) (fun hd => ?_)
          · simp at hd
          · refine awp_skip ?_
            first | show AWP _ _ _ _ _ | show ∃ _, _ | skip
            refine AWP.weak (t := ⟨ofL [(1, encI k), (3, .ptr 3 3 0 0), (9, .ptr 9 4 0 0), (10, encI en), (11, encI be)], stoT [(3, 3, .live (obPlat p)), (9, 9, .live (obPc p.ps[k]))]⟩) ?_ ?_
            rotate_left
            · refine wk_shape (shp0 hσ (by simp) (by simp) ?_) ?_
              · simp [SlotOk]
                exact ⟨.same (plat_pure p), .same (by simp [purel, C.isPure])⟩
              · simp [mtc, mtl, mT, C.isPure, purel]
                omega
            repeat refine awp_seq ?_
            refine awp_drw3 [3001, 3003] [0, 2, 1, 3, 4, 5, 6, 7] (by rw [hx]; kernel_rfl) (by kernel_rfl) (by kernel_rfl) (by kernel_rfl) fun K hK => ?_
            simp (config := { maxSteps := 1000000 }) [ty25]
            refine makesD hcp ?_ (by simp) ?_
            · intro q h1 h2
              have := exq _ _ h1
              have e1 : q ≠ 3 := by omega
              have e2 : q ≠ 9 := by omega
              simp [e1, e2]
            simp [mkB]
            refine makesD hcp ?_ (by simp) ?_
            · intro q h1 h2
              simp only [mkB] at h1 h2
              have e1 : q ≠ 3 := by omega
              have e2 : q ≠ 9 := by omega
              have e3 : ¬ q < 100793 := by omega
              simp [e1, e2, e3]
            simp [mkB, ty25]
            refine hK _ ?_
            clear hK K
            first | show AWP _ _ _ _ _ | show ∃ _, _ | skip
            refine AWP.weak (t := ⟨ofL [(1, encI k), (3, .ptr 3 3 0 0), (9, .ptr 9 4 0 0), (10, encI en), (11, encI be), (12, .ptr 12 3 0 0), (13, .ptr 13 3 0 0)],
              stoT [(3, 3, .live (obPlat p)), (9, 9, .live (obPc p.ps[k])), (12, 12, .live (platBox 5001 p)), (13, 13, .live (platBox 5004 p)), (5001, 100790, .live (pcsOb true p.ps)), (5002, 100791, .live (clOb p.rows true)), (5003, 100792, .live (clOb p.cols true)),
                (5004, 100810, .live (pcsOb true p.ps)), (5005, 100811, .live (clOb p.rows true)), (5006, 100812, .live (clOb p.cols true))]⟩) ?_ ?_
            rotate_left
            · refine wk_shape (T := [(3, 3, .live (obPlat p)), (9, 9, .live (obPc p.ps[k])), (12, 12, .live (platBox 5001 p)), (13, 13, .live (platBox 5004 p)), (5001, 100790, .live (pcsOb true p.ps)), (5002, 100791, .live (clOb p.rows true)), (5003, 100792, .live (clOb p.cols true)), (5004, 100810, .live (pcsOb true p.ps)), (5005, 100811, .live (clOb p.rows true)), (5006, 100812, .live (clOb p.cols true))]) (shp0 hσ (by simp) (by simp) ?_) ?_
              · simp [SlotOk]
                refine ⟨.same (plat_pure p), .same (by simp [purel, C.isPure]), rowsOk_box (by simp [mtc, mT]) (by simp [mtc, mT]) (by simp [mtc, mT]) rfl rfl rfl, rowsOk_box (by simp [mtc, mT]) (by simp [mtc, mT]) (by simp [mtc, mT]) rfl rfl rfl, .same (pcs_pure _), .same (ints_pure _), .same (ints_pure _), .same (pcs_pure _), .same (ints_pure _), .same (ints_pure _)⟩
              · simp [mtc, mtl, mT, C.isPure, purel]
            repeat refine awp_seq ?_
            refine awp_drw3 [1004, 2009, 15001] [0, 1, 2, 3, 4, 5, 6, 7, 8, 9, 10, 11, 12] (by rw [hx]; kernel_rfl) (by kernel_rfl) (by kernel_rfl) (by kernel_rfl) fun K hK => ?_
            simp (config := { maxSteps := 1000000 }) [ty25, ty22, ty45, ty3, hk, hne]
            refine hK _ ?_
            clear hK K
            first | show AWP _ _ _ _ _ | show ∃ _, _ | skip
            repeat refine awp_seq ?_
            refine awp_drw3 [1004, 2009, 15004] [0, 1, 2, 3, 4, 5, 6, 7, 8, 9, 10, 11, 12] (by rw [hx]; kernel_rfl) (by kernel_rfl) (by kernel_rfl) (by kernel_rfl) fun K hK => ?_
            simp (config := { maxSteps := 1000000 }) [ty25, ty22, ty45, ty3, hk, hne]
            refine hK _ ?_
            clear hK K
            first | show AWP _ _ _ _ _ | show ∃ _, _ | skip
            refine AWP.weak (t := ⟨ofL [(1, encI k), (3, .ptr 3 3 0 0), (9, .ptr 9 4 0 0), (10, encI en), (11, encI be), (12, .ptr 12 3 0 0), (13, .ptr 13 3 0 0)],
              stoT [(3, 3, .live (obPlat p)), (9, 9, .live (obPc p.ps[k])), (12, 12, .live (platBox 5001 p)), (13, 13, .live (platBox 5004 p)), (5001, 5001, .live (pcsOb true (mapTo (fSpan k en) p.ps p.ps.length))), (5002, 5002, .live (clOb p.rows true)), (5003, 5003, .live (clOb p.cols true)),
                (5004, 5004, .live (pcsOb true (mapTo (fSpan k be) p.ps p.ps.length))), (5005, 5005, .live (clOb p.rows true)), (5006, 5006, .live (clOb p.cols true))]⟩) ?_ ?_
            rotate_left
            · refine wk_shape (shp0 hσ (by simp) (by simp) ?_) ?_
              · rw [span_set hk, span_set hk]
                simp [SlotOk, List.map_set, hne, isE_set]
                refine ⟨.same (plat_pure p), .same (by simp [purel, C.isPure]), rowsOk_box (by simp [mtc, mT]) (by simp [mtc, mT]) (by simp [mtc, mT]) rfl rfl rfl, rowsOk_box (by simp [mtc, mT]) (by simp [mtc, mT]) (by simp [mtc, mT]) rfl rfl rfl, .same (set_pure p.ps k ⟨p.ps[k].row, p.ps[k].col, en, 0⟩), .same (ints_pure _), .same (ints_pure _), .same (set_pure p.ps k ⟨p.ps[k].row, p.ps[k].col, be, 0⟩), .same (ints_pure _), .same (ints_pure _)⟩
              · simp [mtc, mtl, mT, C.isPure, purel]
            by_cases hro : ¬ FarP (cpP (mapTo (fSpan k en) p.ps p.ps.length) p.rows p.cols) ∧ PlatOk (cpP (mapTo (fSpan k en) p.ps p.ps.length) p.rows p.cols)
            · have h13 := ready_yes hro
              repeat refine awp_seq ?_
              refine awp_reg1 (by rw [hx]; kernel_rfl) fun K hK => ?_
              simp (config := { maxSteps := 1000000 }) [ty25]
              refine callL h13 ?_ (.inr rfl) ?_
              · refine mapO_one (viewC_plat rfl rfl rfl (by simp) rfl rfl)
              simp
              refine hK _ ?_
              clear hK K
              first | show AWP _ _ _ _ _ | show ∃ _, _ | skip
              repeat refine awp_seq ?_
              refine awp_cond (by simp; rfl) (by rw [hx]; simp) (fun hd => ?_) (fun hd => ?_)
              · simp at hd
              clear hd
              refine awp_skip ?_
              first | show AWP _ _ _ _ _ | show ∃ _, _ | skip
              obtain ⟨l, hlP, hlm, h25, -⟩ := least_fe p hp hf
              have hEr : lowI (pcA p k) ≤ en ∧ en ≤ highI (pcA p k) := by rw [egk]; omega
              have hEp : 0 ≤ en := by omega
              have hfo : Fe (cpP (mapTo (fSpan k en) p.ps p.ps.length) p.rows p.cols) := by
                rcases hEe with ⟨e, -⟩ | ⟨e, -⟩
                · exact ⟨la, (isP_span hk hEr hEp).2 ⟨ha1, by rw [ha2, e]⟩⟩
                · exact ⟨lb, (isP_span hk hEr hEp).2 ⟨hb1, by rw [hb2, e]⟩⟩
              obtain ⟨m, hmP, -, h25o, -⟩ := least_fe _ hro.2 hfo
              have hm2 : IsP p m ∧ Flow.gi m k = en := (isP_span hk hEr hEp).1 hmP
              have hs := sum_settled hk en hm2.2
              have hbo := sum_bd hro.2 hmP
              have hbp := sum_bd hp hlP
              have hle := hlm m hm2.1
              have hle2 := sum_bd hp hm2.1
              obtain ⟨dd, hdd⟩ : ∃ dd, (if p.ps[k].area - en < en - p.ps[k].area then en - p.ps[k].area else p.ps[k].area - en) = dd := ⟨_, rfl⟩
              have echg : chgI (pcA p k) en = dd := by rw [egk, ← hdd]; unfold chgI; split <;> omega
              have hd0 : 0 ≤ dd ∧ dd ≤ 1098 := by rw [← hdd]; split <;> omega
              rw [echg] at hs
              obtain ⟨s1, hs1⟩ : ∃ s1, s1 = sumC p l := ⟨_, rfl⟩
              obtain ⟨s2, hs2⟩ : ∃ s2, s2 = sumC (cpP (mapTo (fSpan k en) p.ps p.ps.length) p.rows p.cols) m := ⟨_, rfl⟩
              rw [← hs1] at h25 hbp hle
              rw [← hs2] at h25o hbo hs
              repeat refine awp_seq ?_
              refine awp_reg1 (by rw [hx]; kernel_rfl) fun K hK => ?_
              simp (config := { maxSteps := 1000000 }) [ty25]
              refine callP (h25) (by first | (simp; done) | (simp [*]; done)) ?_
              simp (config := { maxSteps := 1000000 }) []
              refine hK _ ?_
              clear hK K
              first | show AWP _ _ _ _ _ | show ∃ _, _ | skip
              repeat refine awp_seq ?_
              refine awp_reg1 (by rw [hx]; kernel_rfl) fun K hK => ?_
              simp (config := { maxSteps := 1000000 }) [ty25]
              refine callL h25o ?_ (.inr rfl) ?_
              · refine mapO_one (viewC_plat rfl rfl rfl (by simp) rfl rfl)
              simp
              refine hK _ ?_
              clear hK K
              first | show AWP _ _ _ _ _ | show ∃ _, _ | skip
              have w1 : IntKind.i64.wrap (p.ps[k].area - en) = p.ps[k].area - en := wrap_id (by omega) (by omega)
              have w2 : IntKind.i64.wrap (en - p.ps[k].area) = en - p.ps[k].area := wrap_id (by omega) (by omega)
              have g1 : ¬ s2 < 0 := by omega
              have g2 : ¬ 10000 < s2 := by omega
              have w3 : IntKind.i64.wrap (s2 + dd) = s2 + dd := wrap_id (by omega) (by omega)
              have g3 : ¬ s2 + dd < s1 := by omega
              repeat refine awp_seq ?_
              refine awp_reg1 (by rw [hx]; kernel_rfl) fun K hK => ?_
              simp (config := { maxSteps := 1000000 }) [ty30, ty3, ty45, w1, w2, g1, g2, hdd, w3, g3]
              refine hK _ ?_
              clear hK K
              first | show AWP _ _ _ _ _ | show ∃ _, _ | skip
              repeat refine awp_seq ?_
              refine awp_cond (by simp; rfl) (by rw [hx]; simp) (fun hd => ?_) (fun hd => ?_)
              · simp at hd
              clear hd
              refine awp_skip ?_
              first | show AWP _ _ _ _ _ | show ∃ _, _ | skip
              by_cases hrq : ¬ FarP (cpP (mapTo (fSpan k be) p.ps p.ps.length) p.rows p.cols) ∧ PlatOk (cpP (mapTo (fSpan k be) p.ps p.ps.length) p.rows p.cols)
              · have h13q := ready_yes hrq
                by_cases hbr : lowI p.ps[k] ≤ be ∧ be ≤ highI p.ps[k]
                · have g4 : ¬ be < lowI p.ps[k] := by omega
                  have g5 : ¬ highI p.ps[k] < be := by omega
                  repeat refine awp_seq ?_
                  refine awp_reg1 (by rw [hx]; kernel_rfl) fun K hK => ?_
                  simp (config := { maxSteps := 1000000 }) [ty25]
                  refine callL h13q ?_ (.inr rfl) ?_
                  · refine mapO_one (viewC_plat rfl rfl rfl (by simp) rfl rfl)
                  simp [ty45, g4, g5]
                  refine callP (hlo) (by first | (simp; done) | (simp [*]; done)) ?_
                  simp (config := { maxSteps := 1000000 }) [ty45, ty3, g4, g5]
                  refine callP (hhc) (by first | (simp; done) | (simp [*]; done)) ?_
                  simp (config := { maxSteps := 1000000 }) [ty45, ty3, g4, g5]
                  refine hK _ ?_
                  clear hK K
                  first | show AWP _ _ _ _ _ | show ∃ _, _ | skip
                  repeat refine awp_seq ?_
                  refine awp_cond (by simp; rfl) (by rw [hx]; simp) (fun hd => ?_) (fun hd => ?_)
                  · simp at hd
                  clear hd
                  refine awp_skip ?_
                  first | show AWP _ _ _ _ _ | show ∃ _, _ | skip
                  have hEr : lowI (pcA p k) ≤ be ∧ be ≤ highI (pcA p k) := by rw [egk]; omega
                  have hnf : ¬ Fe (cpP (mapTo (fSpan k be) p.ps p.ps.length) p.rows p.cols) := by
                    rintro ⟨m', hm'⟩
                    have hm'2 : IsP p m' ∧ Flow.gi m' k = be := (isP_span hk hEr (by omega)).1 hm'
                    have := hab m' hm'2.1
                    omega
                  have h25q := (least_no _ hrq.2 hnf).1
                  repeat refine awp_seq ?_
                  refine awp_reg1 (by rw [hx]; kernel_rfl) fun K hK => ?_
                  simp (config := { maxSteps := 1000000 }) [ty25]
                  refine callL h25q ?_ (.inr rfl) ?_
                  · refine mapO_one (viewC_plat rfl rfl rfl (by simp) rfl rfl)
                  simp
                  refine hK _ ?_
                  clear hK K
                  first | show AWP _ _ _ _ _ | show ∃ _, _ | skip
                  repeat refine awp_seq ?_
                  refine awp_reg1 (by rw [hx]; kernel_rfl) fun K hK => ?_
                  simp (config := { maxSteps := 1000000 }) [ty30]
                  refine callP (works14) (by first | (simp; done) | (simp [*]; done)) ?_
                  simp (config := { maxSteps := 1000000 }) []
                  refine hK _ ?_
                  clear hK K
                  first | show AWP _ _ _ _ _ | show ∃ _, _ | skip
                  repeat refine awp_seq ?_
                  refine awp_ret ?_
                  refine And.intro (Or.inr rfl) ?_
                  simp [retC, resC, viewC, mapO]
                · by_cases g4 : be < lowI p.ps[k]
                  · repeat refine awp_seq ?_
                    refine awp_reg1 (by rw [hx]; kernel_rfl) fun K hK => ?_
                    simp (config := { maxSteps := 1000000 }) [ty25]
                    refine callL h13q ?_ (.inr rfl) ?_
                    · refine mapO_one (viewC_plat rfl rfl rfl (by simp) rfl rfl)
                    simp [ty45, g4]
                    refine callP (hlo) (by first | (simp; done) | (simp [*]; done)) ?_
                    simp (config := { maxSteps := 1000000 }) [ty45, ty3, g4]
                    refine hK _ ?_
                    clear hK K
                    first | show AWP _ _ _ _ _ | show ∃ _, _ | skip
                    repeat refine awp_seq ?_
                    refine awp_cond (by simp; rfl) (by rw [hx]; simp) (fun hd => ?_) (fun hd => ?_)
                    · repeat refine awp_seq ?_
                      refine awp_reg1 (by rw [hx]; kernel_rfl) fun K hK => ?_
                      simp (config := { maxSteps := 1000000 }) []
                      refine callP (works14) (by first | (simp; done) | (simp [*]; done)) ?_
                      simp (config := { maxSteps := 1000000 }) []
                      refine hK _ ?_
                      clear hK K
                      first | show AWP _ _ _ _ _ | show ∃ _, _ | skip
                      repeat refine awp_seq ?_
                      refine awp_ret ?_
                      refine And.intro (Or.inr rfl) ?_
                      simp [retC, resC, viewC, mapO]
                    · simp at hd
                  · have g5 : highI p.ps[k] < be := by omega
                    repeat refine awp_seq ?_
                    refine awp_reg1 (by rw [hx]; kernel_rfl) fun K hK => ?_
                    simp (config := { maxSteps := 1000000 }) [ty25]
                    refine callL h13q ?_ (.inr rfl) ?_
                    · refine mapO_one (viewC_plat rfl rfl rfl (by simp) rfl rfl)
                    simp [ty45, g4, g5]
                    refine callP (hlo) (by first | (simp; done) | (simp [*]; done)) ?_
                    simp (config := { maxSteps := 1000000 }) [ty45, ty3, g4, g5]
                    refine callP (hhc) (by first | (simp; done) | (simp [*]; done)) ?_
                    simp (config := { maxSteps := 1000000 }) [ty45, ty3, g4, g5]
                    refine hK _ ?_
                    clear hK K
                    first | show AWP _ _ _ _ _ | show ∃ _, _ | skip
                    repeat refine awp_seq ?_
                    refine awp_cond (by simp; rfl) (by rw [hx]; simp) (fun hd => ?_) (fun hd => ?_)
                    · repeat refine awp_seq ?_
                      refine awp_reg1 (by rw [hx]; kernel_rfl) fun K hK => ?_
                      simp (config := { maxSteps := 1000000 }) []
                      refine callP (works14) (by first | (simp; done) | (simp [*]; done)) ?_
                      simp (config := { maxSteps := 1000000 }) []
                      refine hK _ ?_
                      clear hK K
                      first | show AWP _ _ _ _ _ | show ∃ _, _ | skip
                      repeat refine awp_seq ?_
                      refine awp_ret ?_
                      refine And.intro (Or.inr rfl) ?_
                      simp [retC, resC, viewC, mapO]
                    · simp at hd
              · have h13q := ready_no hrq
                repeat refine awp_seq ?_
                refine awp_reg1 (by rw [hx]; kernel_rfl) fun K hK => ?_
                simp (config := { maxSteps := 1000000 }) [ty25]
                refine callL h13q ?_ (.inr rfl) ?_
                · refine mapO_one (viewC_plat rfl rfl rfl (by simp) rfl rfl)
                simp
                refine hK _ ?_
                clear hK K
                first | show AWP _ _ _ _ _ | show ∃ _, _ | skip
                repeat refine awp_seq ?_
                refine awp_cond (by simp; rfl) (by rw [hx]; simp) (fun hd => ?_) (fun hd => ?_)
                · repeat refine awp_seq ?_
                  refine awp_reg1 (by rw [hx]; kernel_rfl) fun K hK => ?_
                  simp (config := { maxSteps := 1000000 }) []
                  refine callP (works14) (by first | (simp; done) | (simp [*]; done)) ?_
                  simp (config := { maxSteps := 1000000 }) []
                  refine hK _ ?_
                  clear hK K
                  first | show AWP _ _ _ _ _ | show ∃ _, _ | skip
                  repeat refine awp_seq ?_
                  refine awp_ret ?_
                  refine And.intro (Or.inr rfl) ?_
                  simp [retC, resC, viewC, mapO]
                · simp at hd
            · have h13 := ready_no hro
              repeat refine awp_seq ?_
              refine awp_reg1 (by rw [hx]; kernel_rfl) fun K hK => ?_
              simp (config := { maxSteps := 1000000 }) [ty25]
              refine callL h13 ?_ (.inr rfl) ?_
              · refine mapO_one (viewC_plat rfl rfl rfl (by simp) rfl rfl)
              simp
              refine hK _ ?_
              clear hK K
              first | show AWP _ _ _ _ _ | show ∃ _, _ | skip
              repeat refine awp_seq ?_
              refine awp_cond (by simp; rfl) (by rw [hx]; simp) (fun hd => ?_) (fun hd => ?_)
              · repeat refine awp_seq ?_
                refine awp_reg1 (by rw [hx]; kernel_rfl) fun K hK => ?_
                simp (config := { maxSteps := 1000000 }) []
                refine callP (works14) (by first | (simp; done) | (simp [*]; done)) ?_
                simp (config := { maxSteps := 1000000 }) []
                refine hK _ ?_
                clear hK K
                first | show AWP _ _ _ _ _ | show ∃ _, _ | skip
                repeat refine awp_seq ?_
                refine awp_ret ?_
                refine And.intro (Or.inr rfl) ?_
                simp [retC, resC, viewC, mapO]
              · simp at hd
      · have h21 := range_none p hp k hk hf
        refine pure_of (fn := Try.f4) [.tmp 6] ⟨Try.func4, rfl, by kernel_rfl⟩ (by kernel_rfl) (by kernel_rfl) (by kernel_rfl) fun x hx hσ => ?_
        repeat refine awp_seq ?_
        refine awp_reg1 (by rw [hx]; kernel_rfl) fun K hK => ?_
        simp (config := { maxSteps := 1000000 }) [ty25]
        refine hK _ ?_
        clear hK K
        first | show AWP _ _ _ _ _ | show ∃ _, _ | skip
        repeat refine awp_seq ?_
        refine awp_reg1 (by rw [hx]; kernel_rfl) fun K hK => ?_
        simp (config := { maxSteps := 1000000 }) [ty25]
        refine callP (hr13) (by first | (simp; done) | (simp [*]; done)) ?_
        simp (config := { maxSteps := 1000000 }) [ty25]
        refine callP (h20) (by first | (simp; done) | (simp [*]; done)) ?_
        simp (config := { maxSteps := 1000000 }) [ty25]
        refine hK _ ?_
        clear hK K
        first | show AWP _ _ _ _ _ | show ∃ _, _ | skip
        repeat refine awp_seq ?_
        refine awp_cond (by simp; rfl) (by rw [hx]; simp) (fun hd => ?_) (fun hd => ?_)
        · simp at hd
        clear hd
        refine awp_skip ?_
        first | show AWP _ _ _ _ _ | show ∃ _, _ | skip
        repeat refine awp_seq ?_
        refine awp_reg1 (by rw [hx]; kernel_rfl) fun K hK => ?_
        simp (config := { maxSteps := 1000000 }) [ty25]
        refine callP (h21) (by first | (simp; done) | (simp [*]; done)) ?_
        simp (config := { maxSteps := 1000000 }) [ty41]
        refine hK _ ?_
        clear hK K
        first | show AWP _ _ _ _ _ | show ∃ _, _ | skip
        repeat refine awp_seq ?_
        refine awp_reg1 (by rw [hx]; kernel_rfl) fun K hK => ?_
        simp (config := { maxSteps := 1000000 }) [ty30]
        refine hK _ ?_
        clear hK K
        first | show AWP _ _ _ _ _ | show ∃ _, _ | skip
        repeat refine awp_seq ?_
        refine awp_cond (by simp; rfl) (by rw [hx]; simp) (fun hd => ?_) (fun hd => ?_)
        · repeat refine awp_seq ?_
          refine awp_reg1 (by rw [hx]; kernel_rfl) fun K hK => ?_
          simp (config := { maxSteps := 1000000 }) [ty30]
          refine callP (works14) (by first | (simp; done) | (simp [*]; done)) ?_
          simp (config := { maxSteps := 1000000 }) []
          refine hK _ ?_
          clear hK K
          first | show AWP _ _ _ _ _ | show ∃ _, _ | skip
          repeat refine awp_seq ?_
          refine awp_ret ?_
          refine And.intro (Or.inr rfl) ?_
          simp [retC, resC, viewC, mapO]
        · simp at hd
    · have h20 := isParcel_c p pk (by omega)
      rw [decide_eq_false hk0] at h20
      refine pure_of (fn := Try.f4) [.tmp 6] ⟨Try.func4, rfl, by kernel_rfl⟩ (by kernel_rfl) (by kernel_rfl) (by kernel_rfl) fun x hx hσ => ?_
      repeat refine awp_seq ?_
      refine awp_reg1 (by rw [hx]; kernel_rfl) fun K hK => ?_
      simp (config := { maxSteps := 1000000 }) [ty25]
      refine hK _ ?_
      clear hK K
      first | show AWP _ _ _ _ _ | show ∃ _, _ | skip
      repeat refine awp_seq ?_
      refine awp_reg1 (by rw [hx]; kernel_rfl) fun K hK => ?_
      simp (config := { maxSteps := 1000000 }) [ty25]
      refine callP (hr13) (by first | (simp; done) | (simp [*]; done)) ?_
      simp (config := { maxSteps := 1000000 }) [ty25]
      refine callP (h20) (by first | (simp; done) | (simp [*]; done)) ?_
      simp (config := { maxSteps := 1000000 }) [ty25]
      refine hK _ ?_
      clear hK K
      first | show AWP _ _ _ _ _ | show ∃ _, _ | skip
      repeat refine awp_seq ?_
      refine awp_cond (by simp; rfl) (by rw [hx]; simp) (fun hd => ?_) (fun hd => ?_)
      · repeat refine awp_seq ?_
        refine awp_reg1 (by rw [hx]; kernel_rfl) fun K hK => ?_
        simp (config := { maxSteps := 1000000 }) []
        refine callP (works14) (by first | (simp; done) | (simp [*]; done)) ?_
        simp (config := { maxSteps := 1000000 }) []
        refine hK _ ?_
        clear hK K
        first | show AWP _ _ _ _ _ | show ∃ _, _ | skip
        repeat refine awp_seq ?_
        refine awp_ret ?_
        refine And.intro (Or.inr rfl) ?_
        simp [retC, resC, viewC, mapO]
      · simp at hd
  · have hr13 := ready_no hrd
    refine pure_of (fn := Try.f4) [.tmp 6] ⟨Try.func4, rfl, by kernel_rfl⟩ (by kernel_rfl) (by kernel_rfl) (by kernel_rfl) fun x hx hσ => ?_
    repeat refine awp_seq ?_
    refine awp_reg1 (by rw [hx]; kernel_rfl) fun K hK => ?_
    simp (config := { maxSteps := 1000000 }) [ty25]
    refine hK _ ?_
    clear hK K
    first | show AWP _ _ _ _ _ | show ∃ _, _ | skip
    repeat refine awp_seq ?_
    refine awp_reg1 (by rw [hx]; kernel_rfl) fun K hK => ?_
    simp (config := { maxSteps := 1000000 }) [ty25]
    refine callP (hr13) (by first | (simp; done) | (simp [*]; done)) ?_
    simp (config := { maxSteps := 1000000 }) [ty25]
    refine hK _ ?_
    clear hK K
    first | show AWP _ _ _ _ _ | show ∃ _, _ | skip
    repeat refine awp_seq ?_
    refine awp_cond (by simp; rfl) (by rw [hx]; simp) (fun hd => ?_) (fun hd => ?_)
    · repeat refine awp_seq ?_
      refine awp_reg1 (by rw [hx]; kernel_rfl) fun K hK => ?_
      simp (config := { maxSteps := 1000000 }) []
      refine callP (works14) (by first | (simp; done) | (simp [*]; done)) ?_
      simp (config := { maxSteps := 1000000 }) []
      refine hK _ ?_
      clear hK K
      first | show AWP _ _ _ _ _ | show ∃ _, _ | skip
      repeat refine awp_seq ?_
      refine awp_ret ?_
      refine And.intro (Or.inr rfl) ?_
      simp [retC, resC, viewC, mapO]
    · simp at hd

end Go.Proofs.Ytgcmjidphcafnaa

namespace Go.Proofs.Ytgcmjidphcafnaa
open Go Go.Abs
open Go.ChangeShapes Go.WideShapes Go.ChangeAt Go.RowKit

set_option maxRecDepth 100000 in
theorem parcelsSettled_lifted (os : Os) (started : os.Started) (H : Type) (enc : TypeId × Value → H) :
    ReturnsInHanded {} Try.checked os 4 .any (Rows.parcelsSettledSpec.pre6 enc Try.prog Try.f4 Rows.parcelsSettledRow.domain false) (Rows.parcelsSettledSpec.post enc Try.prog Try.f4 false true false false) := by
  refine returnsInHanded_of_change (C := Try.checked) J.own started (by kernel_rfl) Try.func4
    (ChangeSpec.witness6 (enc := enc) (C := Try.checked) false ⟨#[], #[.agg #[.slice none 0 0, .slice none 0 0, .slice none 0 0], .int .i64 0, .bool false], []⟩ 8 (by kernel_rfl) (by kernel_rfl) (by kernel_rfl) (by kernel_rfl)) ?_
  intro W base args ds gs before hval hW _ _
  refine law_contract (P := Try.prog) (tb := 4) (by kernel_rfl) J.ub rfl (fun ds hl => ?_) J.laid J.maps J.sized (by kernel_rfl) (by kernel_rfl) (fun cargs hc => ?_) W base args ds gs before hval hW
  · have h2 : ds.length = 3 := hl
    match ds, h2 with
    | [_, _, _], _ => rfl
  · rw [Try.params4] at hc
    obtain ⟨p, r, rfl, hn, hc1⟩ := arg25 hc
    obtain ⟨pk, r, rfl, hpk, hc2⟩ := arg3 hc1
    obtain ⟨b, r, rfl, hc3⟩ := arg4 hc2
    obtain rfl := arg_end hc3
    exact settled4 p hn pk b

theorem parcelsSettled_holds : Rows.ParcelsSettledSaid :=
  OpenClaim.holds_of_wide 4 Try.f4 rfl rfl rfl rfl rfl rfl rfl ⟨rfl, rfl, rfl, rfl, rfl⟩ rfl rfl rfl rfl rfl (by kernel_rfl) Try.func4 (by kernel_rfl)
    (of_decide_eq_true (by kernel_rfl)) (by unfold Func.isWrapper; first | (rw [if_pos (by decide +kernel)]; kernel_rfl) | (rw [if_neg (by decide +kernel)]; exact ⟨rfl, rfl⟩))
    (fun os started H enc _ => parcelsSettled_lifted os started H enc)
#print axioms parcelsSettled_holds
end Go.Proofs.Ytgcmjidphcafnaa

