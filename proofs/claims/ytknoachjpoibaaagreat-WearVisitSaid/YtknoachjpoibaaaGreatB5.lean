/- The machine of abstract values and the contracts of the functions of the program, which the statements of this seat share. No condition. -/
import Derived.Test.YtknoachjpoibaaaGreatB4

set_option linter.unusedSimpArgs false
set_option linter.unusedVariables false
set_option linter.constructorNameAsVariable false

namespace Go.Proofs.YtknoachjpoibaaaGreat
open Go Go.Abs

set_option maxHeartbeats 4000000

-- the iterator over all gains of a day

@[simp] abbrev itI (L : List Int) : List (List C) := L.map cI
theorem itI_get {L : List Int} {i : Nat} {args : List C} (h : (itI L)[i]? = some args) : ∃ t, L[i]? = some t ∧ args = [encI t] := by
 simp only [List.getElem?_map, Option.map_eq_some_iff] at h
 obtain ⟨t, h1, h2⟩ := h
 exact ⟨t, h1, h2.symm⟩

theorem rowsK_flat (M : List (Int × Int)) : ∀ row ∈ rowsK M, flatl row = true := by
 intro row h
 obtain ⟨p, _, rfl⟩ := List.mem_map.1 h
 rfl

/-- What is own, and whether it clashes, where the known gains have been looked at or not. -/
def ownV (day g : Int) (M : List (Int × Int)) (vis : List (List C)) : List (Int × Int) := if vis = [] then [(day, g)] else ownC day g M
def clashV (day g : Int) (M : List (Int × Int)) (vis : List (List C)) : Bool := if vis = [] then false else clashB day g M


theorem on98 (w : Ws) (G : List (Int × List Int)) (nl nl' : Bool) (M M' : List (Int × Int)) (day : Int) (hw : WsNum w G) (hM : M.length ≤ 1) :
    ItC Tryz.prog 1000000 98 [] [.ip (cCd w G nl' M') 0, .ip [encI day] 0, .ip [.md nl (rowsK M)] 0] (itI (onC (co w G) day M)) := by
  have hg := hw.gain
  have hwg : IntKind.i64.wrap (-w.gain) = -w.gain := wrap_id (by omega) (by omega)
  obtain ⟨N, hN⟩ : ∃ N : Nat, (w.gain - -w.gain + 1).toNat = N := ⟨_, rfl⟩
  have hN' : (N : Int) = w.gain - -w.gain + 1 := by omega
  obtain ⟨p, hp⟩ : ∃ p : Int → Bool, p = onB (co w G) day M := ⟨_, rfl⟩
  obtain ⟨L, hL⟩ : ∃ L, seqI (-w.gain) w.gain = L := ⟨_, rfl⟩
  have hlen : L.length = N := by rw [← hL]; unfold seqI; rw [seqN_len, hN]
  have hget : ∀ i (h : i < L.length), L[i] = -w.gain + (i : Nat) := fun i h => by
    subst hL; simp [seqI, seqN]
  have hon : onC (co w G) day M = L.filter p := by unfold onC; rw [← hL, ← hp]
  rw [hon]
  refine it_of (fn := Tryz.f98) [] ⟨Tryz.func98, rfl, by kernel_rfl⟩ (by kernel_rfl) (by kernel_rfl) (by kernel_rfl) fun x hx q ks fam stop hrnd hstop hfam hσ hY => ?_; rw [stg_hiS hfam]
  rw [show (itI (L.filter p)).length = (L.filter p).length by simp] at hstop ⊢
  have hgetS : ∀ i (h : i < L.length), p (-w.gain + (i : Nat)) = true → (itI (L.filter p))[(L.take i).countP p]? = some [encI (-w.gain + (i : Nat))] := fun i h hb => by
    rw [← hget i h] at hb ⊢
    have := filter_get p h hb
    simp [this]
  have hstep0 : ∀ i (h : i < L.length), (L.take (i + 1)).countP p = (L.take i).countP p + if p (-w.gain + (i : Nat)) then 1 else 0 := fun i h => by
    have := count_step p h
    rw [hget i h] at this
    exact this
  have hfull : (L.take L.length).countP p = (L.filter p).length := by
    rw [List.take_length, List.countP_eq_length_filter]
  have hmono := fun i => count_mono p L (a := i) (b := L.length)
  obtain ⟨j, hj⟩ : ∃ j : Nat → Nat, ∀ i, (L.take i).countP p = j i := ⟨_, fun _ => rfl⟩
  have hj0 : j 0 = 0 := by rw [← hj]; simp
  simp only [hj] at hgetS hstep0 hfull hmono
  rw [hlen] at hgetS hstep0 hfull hmono
  (repeat refine awp_seq ?_); refine awp_reg1 (by rw [hx]; kernel_rfl) fun K hK => ?_; simp (maxSteps := 1000000) [ty89, ty28, ty3]; refine hK _ ?_; clear hK K; (first | show AWP _ _ _ _ _ | show ∃ _, _ | skip)
  rw [hwg]
  (repeat refine awp_seq ?_); refine awp_block ?_
  refine awp_loop (fun i : Nat => ⟨ofL [(0, .fn (.yield q) [] []), (1, .ip (cCd w G nl' M') 0), (2, .ip [encI day] 0), (3, .ip [.md nl (rowsK M)] 0), (5, encI (-w.gain + (i : Nat)))], hiS 1000000 (stoT []) (stg 1000000 fam stop (j i))⟩)
    (fun i => i ≤ N ∧ j i ≤ stop) (fun i => N - i) 0 ⟨Nat.zero_le _, by rw [hj0]; omega⟩ ?_ ?_
  · rw [hj0]
    refine wk_shapeH hfam ?_ (by simp) (by simp) (by simp) ?_ (hx_stg hfam hσ) ?_
    · intro k hk
      have hne : ∀ n : Nat, n < 1000 → k ≠ n := fun n hn => by omega
      simp [upd, hk, hne]
    · simp [SlotOk] <;> (repeat' (first | exact .same (by simp [purel, C.isPure]) | exact .cons (by simp [mtl, mtc, mT, mH, C.isPure, purel]) (by simp) .nil | refine And.intro ?_ ?_))
    · simp [mtc, mtl, mH, mT, C.isPure, purel] <;> (try simp (disch := omega) [wrap_id]) <;> (try omega)
  · intro i ⟨hi, hst⟩
    (repeat refine awp_seq ?_); refine awp_reg1 (by rw [hx]; kernel_rfl) fun K hK => ?_; simp (maxSteps := 1000000) [ty89, ty28, ty3]; refine hK _ ?_; clear hK K; (first | show AWP _ _ _ _ _ | show ∃ _, _ | skip)
    (repeat refine awp_seq ?_); refine awp_cond (by simp; rfl) (by rw [hx]; simp) (fun hc => ?_) (fun hc => ?_)
    · simp at hc
      have hiN : i < N := by omega
      have hji := hstep0 i hiN
      have hgs := hgetS i hiN
      have hwr : IntKind.i64.wrap (-w.gain + (i : Int) + 1) = -w.gain + ((i + 1 : Nat) : Int) := by rw [wrap_id (by omega) (by omega)]; omega
      obtain ⟨g, hgi⟩ : ∃ g, -w.gain + (i : Int) = g := ⟨_, rfl⟩
      rw [hgi] at hji hgs hwr
      simp only [hgi]
      have hb : p g = onB (co w G) day M g := by rw [hp]
      rw [hb] at hji hgs
      clear hget hon hgetS hstep0 hb
      have hov0 : ownV day g M [] = [(day, g)] := if_pos rfl
      have hcv0 : clashV day g M [] = false := if_pos rfl
      have hovn : ∀ vis : List (List C), vis.Perm (rowsK M) → ownV day g M vis = ownC day g M ∧ clashV day g M vis = clashB day g M := fun vis hp => by
        match M, hM with
        | [], _ =>
          rw [List.perm_nil.1 hp]
          exact ⟨rfl, rfl⟩
        | [m], _ =>
          have hne : vis ≠ [] := by rintro rfl; have := hp.length_eq; simp [rowsK, rowsV] at this
          exact ⟨if_neg hne, if_neg hne⟩
      refine awp_skip ?_; (first | show AWP _ _ _ _ _ | show ∃ _, _ | skip)
      (repeat refine awp_seq ?_); refine awp_block ?_
      (repeat refine awp_seq ?_); refine awp_reg1 (by rw [hx]; kernel_rfl) fun K hK => ?_; simp (maxSteps := 1000000) [ty87, ty3]; refine hK _ ?_; clear hK K; (first | show AWP _ _ _ _ _ | show ∃ _, _ | skip)
      (repeat refine awp_seq ?_); refine awp_reg1 (by rw [hx]; kernel_rfl) fun K hK => ?_; simp (maxSteps := 1000000) [ty4]; refine hK _ ?_; clear hK K; (first | show AWP _ _ _ _ _ | show ∃ _, _ | skip)
      refine awp_seq ?_
      refine awp_rangeMd2 (nl := nl) (kt := 3) (et := 3) (rowsK M) (fun v pm vis => ⟨ofL [(0, .fn (.yield q) [] []), (1, .ip (cCd w G nl' M') 0), (2, .ip [encI day] 0), (3, .ip [.md nl (rowsK M)] 0), (5, encI g), (6, .mp 21), (7, .bool (clashV day g M vis)), (25, .mpin pm), (26, .val v)], hiS 1000000 (stoT [(21, 21, .live ⟨false, false, 0, rowsK (ownV day g M vis)⟩)]) (stg 1000000 fam stop (j i))⟩)
        rfl (by kernel_rfl) (rowsK_flat M) (by rw [hx]; kernel_rfl) (by rw [hx]; kernel_rfl) (by rw [hx]; kernel_rfl) (by rw [hx]; decide) (fun v pm vis => ⟨rfl, rfl⟩) (by decide) (by decide) (by decide) (by decide) (by decide) ?_ ?_ ?_
      · intro K hK
        simp [ty87]
        refine hK _ ?_ ?_
        · simp
        · intro v pm
          rw [hov0, hcv0]
          refine wk_shapeH hfam ?_ (by simp) (by simp) (by simp) ?_ (hx_stg hfam hσ) ?_
          · intro k hk
            have hne : ∀ n : Nat, n < 1000 → k ≠ n := fun n hn => by omega
            simp [upd, hk, hne]
          · simp [SlotOk] <;> (repeat' (first | exact .same (by simp [purel, C.isPure]) | exact .cons (by simp [mtl, mtc, mT, mH, C.isPure, purel]) (by simp) .nil | refine And.intro ?_ ?_))
          · simp [mtc, mtl, mH, mT, C.isPure, purel, rowsK, rowsV] <;> (try simp (disch := omega) [wrap_id]) <;> (try omega)
      · intro v pm vis k e hp y hy1 hy2 hyY K hK
        obtain ⟨rest, hp⟩ := hp
        obtain ⟨a, n, hMa, rfl, rfl, rfl⟩ : ∃ a n, M = [(a, n)] ∧ vis = [] ∧ k = encI a ∧ e = encI n := by
          have hlen := hp.length_eq
          match M, hM with
          | [], _ => simp [rowsK, rowsV] at hlen
          | [m], _ =>
            simp [rowsK, rowsV] at hlen
            have hv : vis = [] := List.eq_nil_of_length_eq_zero (by omega)
            subst hv
            have hm : [k, e] ∈ rowsK [m] := hp.mem_iff.1 (by simp)
            simp [rowsK, rowsV] at hm
            exact ⟨m.1, m.2, rfl, rfl, hm.1, hm.2⟩
        have hx := hy1.trans hx
        have hσ := hy2.trans hσ
        have hovn1 := hovn [[encI a, encI n]] (by rw [hMa]; exact List.Perm.refl _)
        have hvs : ([] : List (List C)) ++ [[encI a, encI n]] = [[encI a, encI n]] := rfl
        rw [hov0, hcv0]
        rw [hvs, hovn1.1, hovn1.2, hMa] at hK
        have hoc : ownC day g [(a, n)] = setK [(day, g)] a n := rfl
        have hcc : clashB day g [(a, n)] = (a == day && n != g) := by simp [clashB]
        rw [hoc, hcc] at hK
        clear hovn hovn1 hvs hoc hcc hov0 hcv0
        simp
        refine hK _ ?_
        clear hK K
        have hrr : rowsK [(day, g)] = [[encI day, encI g]] := rfl
        rw [hrr]
        by_cases had : a = day
        · subst had
          have hsr : rowsK (setK [(a, g)] a n) = [[encI a, encI n]] := by simp [setK, rowsK, rowsV]
          rw [hsr]
          (repeat refine awp_seq ?_); refine awp_reg1 (by rw [hx]; kernel_rfl) fun K hK => ?_; simp (maxSteps := 1000000) [ty3, ty4]; refine hK _ ?_; clear hK K; (first | show AWP _ _ _ _ _ | show ∃ _, _ | skip)
          (repeat refine awp_seq ?_); refine awp_reg1 (by rw [hx]; kernel_rfl) fun K hK => ?_; simp (maxSteps := 1000000) [ty87, ty3, keyQ, findC, sameC]; refine hK _ ?_; clear hK K; (first | show AWP _ _ _ _ _ | show ∃ _, _ | skip)
          refine wk_shapeH hfam ?_ (by simp) (by simp) (by simp) ?_ (hx_stg hfam hσ) ?_
          · intro k hk
            have hne : ∀ n : Nat, n < 1000 → k ≠ n := fun n hn => by omega
            simp [upd, hk, hne]
          · simp [SlotOk] <;> (repeat' (first | exact .same (by simp [purel, C.isPure]) | exact .cons (by simp [mtl, mtc, mT, mH, C.isPure, purel]) (by simp) .nil | refine And.intro ?_ ?_))
          · simp [mtc, mtl, mH, mT, C.isPure, purel, hMa] <;> (try simp (disch := omega) [wrap_id]) <;> (try omega)
        · have hsr : rowsK (setK [(day, g)] a n) = [[encI day, encI g], [encI a, encI n]] := by simp [setK, rowsK, rowsV, had]
          have had' : (a == day) = false := by simpa using had
          rw [hsr]
          (repeat refine awp_seq ?_); refine awp_reg1 (by rw [hx]; kernel_rfl) fun K hK => ?_; simp (maxSteps := 1000000) [ty3, ty4, had']; refine hK _ ?_; clear hK K; (first | show AWP _ _ _ _ _ | show ∃ _, _ | skip)
          (repeat refine awp_seq ?_); refine awp_reg1 (by rw [hx]; kernel_rfl) fun K hK => ?_; simp (maxSteps := 1000000) [ty87, ty3, keyQ, findC, sameC, had']; refine hK _ ?_; clear hK K; (first | show AWP _ _ _ _ _ | show ∃ _, _ | skip)
          refine wk_shapeH hfam ?_ (by simp) (by simp) (by simp) ?_ (hx_stg hfam hσ) ?_
          · intro k hk
            have hne : ∀ n : Nat, n < 1000 → k ≠ n := fun n hn => by omega
            simp [upd, hk, hne]
          · simp [SlotOk] <;> (repeat' (first | exact .same (by simp [purel, C.isPure]) | exact .cons (by simp [mtl, mtc, mT, mH, C.isPure, purel]) (by simp) .nil | refine And.intro ?_ ?_))
          · simp [mtc, mtl, mH, mT, C.isPure, purel, had', hMa] <;> (try simp (disch := omega) [wrap_id]) <;> (try omega)
      · intro v pm vis hp
        obtain ⟨h1, h2⟩ := hovn vis hp
        rw [h1, h2]
        clear hovn hov0 hcv0 h1 h2 hp
        show AWP _ _ _ _ _
        have hcan := can71 w G false nl' (ownC day g M) M' hw
        have hbb : onB (co w G) day M g = (!clashB day g M && canC (co w G) (ownC day g M)) := rfl
        rw [hbb] at hji hgs
        generalize ownC day g M = own at *
        cases hcl : clashB day g M
        · rw [hcl] at hji hgs
          simp only [Bool.not_false, Bool.true_and] at hji hgs
          refine AWP.weak ?_ (wk_frz 6 21 (o := ⟨false, false, 0, rowsK own⟩) (c := .md false (rowsK own)) (by simp) (rowsK_pure _) (fz_mp rfl rfl))
          cases hcb : canC (co w G) own
          · rw [hcb] at hji hcan
            (repeat refine awp_seq ?_); refine awp_reg1 (by rw [hx]; kernel_rfl) fun K hK => ?_; simp (maxSteps := 1000000) [ty89, ty87, ty3, ty4]
            refine callP (hcan) (by first | (simp; done) | (simp [*]; done)) ?_; simp (maxSteps := 1000000) [ty4]
            refine hK _ ?_; clear hK K; (first | show AWP _ _ _ _ _ | show ∃ _, _ | skip)
            (repeat refine awp_seq ?_); refine awp_cond (by simp; rfl) (by rw [hx]; simp) (fun hd => ?_) (fun hd => ?_)
            · simp at hd
            · clear hd
              refine awp_skip ?_; (first | show AWP _ _ _ _ _ | show ∃ _, _ | skip)
              (repeat refine awp_seq ?_); refine awp_reg1 (by rw [hx]; kernel_rfl) fun K hK => ?_; simp (maxSteps := 1000000) [ty3, hwr]; refine hK _ ?_; clear hK K; (first | show AWP _ _ _ _ _ | show ∃ _, _ | skip)
              simp at hji
              refine ⟨i + 1, ⟨by omega, by omega⟩, by omega, ?_⟩
              rw [hji]
              refine wk_shapeH hfam ?_ (by simp) (by simp) (by simp) ?_ (hx_stg hfam hσ) ?_
              · intro k hk
                have hne : ∀ n : Nat, n < 1000 → k ≠ n := fun n hn => by omega
                simp [upd, hk, hne]
              · simp [SlotOk] <;> (repeat' (first | exact .same (by simp [purel, C.isPure]) | exact .cons (by simp [mtl, mtc, mT, mH, C.isPure, purel]) (by simp) .nil | refine And.intro ?_ ?_))
              · simp [mtc, mtl, mH, mT, C.isPure, purel] <;> (try simp (disch := omega) [wrap_id]) <;> (try omega)
          · rw [hcb] at hji hcan
            simp at hji
            (repeat refine awp_seq ?_); refine awp_reg1 (by rw [hx]; kernel_rfl) fun K hK => ?_; simp (maxSteps := 1000000) [ty89, ty87, ty3, ty4]
            refine callP (hcan) (by first | (simp; done) | (simp [*]; done)) ?_; simp (maxSteps := 1000000) [ty4]
            refine yieldL hY hst (hgs hcb) (by intro k hk; have hne : ∀ n : Nat, n < 1000 → k ≠ n := fun n hn => by omega
                                               simp [upd, hk, hne]) ?_
            simp [ty4]
            refine hK _ ?_; clear hK K; (first | show AWP _ _ _ _ _ | show ∃ _, _ | skip)
            (repeat refine awp_seq ?_); refine awp_cond (by simp; rfl) (by rw [hx]; simp) (fun hd => ?_) (fun hd => ?_)
            · simp at hd
              (repeat refine awp_seq ?_); refine awp_ret ?_; refine And.intro (Or.inr rfl) ?_
              refine ⟨⟨_, rfl⟩, ?_⟩
              have : finI stop (L.filter p).length = j i + 1 := by
                have := hmono (i + 1)
                unfold finI; rw [if_pos (by omega)]; omega
              rw [this]
              exact wk_endH hfam hσ (fun k hk => by show (if 1000000 ≤ k then _ else _) = _; rw [if_pos hk])
            · simp at hd
              refine awp_skip ?_; (first | show AWP _ _ _ _ _ | show ∃ _, _ | skip)
              (repeat refine awp_seq ?_); refine awp_reg1 (by rw [hx]; kernel_rfl) fun K hK => ?_; simp (maxSteps := 1000000) [ty3, hwr]; refine hK _ ?_; clear hK K; (first | show AWP _ _ _ _ _ | show ∃ _, _ | skip)
              refine ⟨i + 1, ⟨by omega, by omega⟩, by omega, ?_⟩
              rw [hji]
              refine wk_shapeH hfam ?_ (by simp) (by simp) (by simp) ?_ (hx_stg hfam hσ) ?_
              · intro k hk
                have hne : ∀ n : Nat, n < 1000 → k ≠ n := fun n hn => by omega
                simp [upd, hk, hne]
              · simp [SlotOk] <;> (repeat' (first | exact .same (by simp [purel, C.isPure]) | exact .cons (by simp [mtl, mtc, mT, mH, C.isPure, purel]) (by simp) .nil | refine And.intro ?_ ?_))
              · simp [mtc, mtl, mH, mT, C.isPure, purel] <;> (try simp (disch := omega) [wrap_id]) <;> (try omega)
        · rw [hcl] at hji
          simp at hji
          (repeat refine awp_seq ?_); refine awp_reg1 (by rw [hx]; kernel_rfl) fun K hK => ?_; simp (maxSteps := 1000000) [ty89, ty87, ty3, ty4]; refine hK _ ?_; clear hK K; (first | show AWP _ _ _ _ _ | show ∃ _, _ | skip)
          (repeat refine awp_seq ?_); refine awp_cond (by simp; rfl) (by rw [hx]; simp) (fun hd => ?_) (fun hd => ?_)
          · simp at hd
          · clear hd
            refine awp_skip ?_; (first | show AWP _ _ _ _ _ | show ∃ _, _ | skip)
            (repeat refine awp_seq ?_); refine awp_reg1 (by rw [hx]; kernel_rfl) fun K hK => ?_; simp (maxSteps := 1000000) [ty3, hwr]; refine hK _ ?_; clear hK K; (first | show AWP _ _ _ _ _ | show ∃ _, _ | skip)
            refine ⟨i + 1, ⟨by omega, by omega⟩, by omega, ?_⟩
            rw [hji]
            refine wk_shapeH hfam ?_ (by simp) (by simp) (by simp) ?_ (hx_stg hfam hσ) ?_
            · intro k hk
              have hne : ∀ n : Nat, n < 1000 → k ≠ n := fun n hn => by omega
              simp [upd, hk, hne]
            · simp [SlotOk] <;> (repeat' (first | exact .same (by simp [purel, C.isPure]) | exact .cons (by simp [mtl, mtc, mT, mH, C.isPure, purel]) (by simp) .nil | refine And.intro ?_ ?_))
            · simp [mtc, mtl, mH, mT, C.isPure, purel] <;> (try simp (disch := omega) [wrap_id]) <;> (try omega)
    · simp at hc
      (repeat refine awp_seq ?_); refine awp_exit ?_; (first | show AWP _ _ _ _ _ | show ∃ _, _ | skip)
      have hin : i = N := by omega
      refine ⟨by simp, ⟨_, rfl⟩, ?_⟩
      have : finI stop (L.filter p).length = j i := by
        rw [hin, hfull]
        unfold finI; rw [hin, hfull] at hst; rw [if_neg (by omega)]
      rw [this]
      exact wk_endH hfam hσ (fun k hk => by show (if 1000000 ≤ k then _ else _) = _; rw [if_pos hk])
theorem on98b (w : Ws) (G : List (Int × List Int)) (nl nl' : Bool) (M M' : List (Int × Int)) (day : Int) (hw : WsNum w G) (hM : M.length ≤ 1) :
    ItC Tryz.prog 2000000 98 [] [.ip (cCd w G nl' M') 0, .ip [encI day] 0, .ip [.md nl (rowsK M)] 0] (itI (onC (co w G) day M)) := by
  have hg := hw.gain
  have hwg : IntKind.i64.wrap (-w.gain) = -w.gain := wrap_id (by omega) (by omega)
  obtain ⟨N, hN⟩ : ∃ N : Nat, (w.gain - -w.gain + 1).toNat = N := ⟨_, rfl⟩
  have hN' : (N : Int) = w.gain - -w.gain + 1 := by omega
  obtain ⟨p, hp⟩ : ∃ p : Int → Bool, p = onB (co w G) day M := ⟨_, rfl⟩
  obtain ⟨L, hL⟩ : ∃ L, seqI (-w.gain) w.gain = L := ⟨_, rfl⟩
  have hlen : L.length = N := by rw [← hL]; unfold seqI; rw [seqN_len, hN]
  have hget : ∀ i (h : i < L.length), L[i] = -w.gain + (i : Nat) := fun i h => by
    subst hL; simp [seqI, seqN]
  have hon : onC (co w G) day M = L.filter p := by unfold onC; rw [← hL, ← hp]
  rw [hon]
  refine it_of (fn := Tryz.f98) [] ⟨Tryz.func98, rfl, by kernel_rfl⟩ (by kernel_rfl) (by kernel_rfl) (by kernel_rfl) fun x hx q ks fam stop hrnd hstop hfam hσ hY => ?_; rw [stg_hiS hfam]
  rw [show (itI (L.filter p)).length = (L.filter p).length by simp] at hstop ⊢
  have hgetS : ∀ i (h : i < L.length), p (-w.gain + (i : Nat)) = true → (itI (L.filter p))[(L.take i).countP p]? = some [encI (-w.gain + (i : Nat))] := fun i h hb => by
    rw [← hget i h] at hb ⊢
    have := filter_get p h hb
    simp [this]
  have hstep0 : ∀ i (h : i < L.length), (L.take (i + 1)).countP p = (L.take i).countP p + if p (-w.gain + (i : Nat)) then 1 else 0 := fun i h => by
    have := count_step p h
    rw [hget i h] at this
    exact this
  have hfull : (L.take L.length).countP p = (L.filter p).length := by
    rw [List.take_length, List.countP_eq_length_filter]
  have hmono := fun i => count_mono p L (a := i) (b := L.length)
  obtain ⟨j, hj⟩ : ∃ j : Nat → Nat, ∀ i, (L.take i).countP p = j i := ⟨_, fun _ => rfl⟩
  have hj0 : j 0 = 0 := by rw [← hj]; simp
  simp only [hj] at hgetS hstep0 hfull hmono
  rw [hlen] at hgetS hstep0 hfull hmono
  (repeat refine awp_seq ?_); refine awp_reg1 (by rw [hx]; kernel_rfl) fun K hK => ?_; simp (maxSteps := 1000000) [ty89, ty28, ty3]; refine hK _ ?_; clear hK K; (first | show AWP _ _ _ _ _ | show ∃ _, _ | skip)
  rw [hwg]
  (repeat refine awp_seq ?_); refine awp_block ?_
  refine awp_loop (fun i : Nat => ⟨ofL [(0, .fn (.yield q) [] []), (1, .ip (cCd w G nl' M') 0), (2, .ip [encI day] 0), (3, .ip [.md nl (rowsK M)] 0), (5, encI (-w.gain + (i : Nat)))], hiS 2000000 (stoT []) (stg 2000000 fam stop (j i))⟩)
    (fun i => i ≤ N ∧ j i ≤ stop) (fun i => N - i) 0 ⟨Nat.zero_le _, by rw [hj0]; omega⟩ ?_ ?_
  · rw [hj0]
    refine wk_shapeH hfam ?_ (by simp) (by simp) (by simp) ?_ (hx_stg hfam hσ) ?_
    · intro k hk
      have hne : ∀ n : Nat, n < 1000 → k ≠ n := fun n hn => by omega
      simp [upd, hk, hne]
    · simp [SlotOk] <;> (repeat' (first | exact .same (by simp [purel, C.isPure]) | exact .cons (by simp [mtl, mtc, mT, mH, C.isPure, purel]) (by simp) .nil | refine And.intro ?_ ?_))
    · simp [mtc, mtl, mH, mT, C.isPure, purel] <;> (try simp (disch := omega) [wrap_id]) <;> (try omega)
  · intro i ⟨hi, hst⟩
    (repeat refine awp_seq ?_); refine awp_reg1 (by rw [hx]; kernel_rfl) fun K hK => ?_; simp (maxSteps := 1000000) [ty89, ty28, ty3]; refine hK _ ?_; clear hK K; (first | show AWP _ _ _ _ _ | show ∃ _, _ | skip)
    (repeat refine awp_seq ?_); refine awp_cond (by simp; rfl) (by rw [hx]; simp) (fun hc => ?_) (fun hc => ?_)
    · simp at hc
      have hiN : i < N := by omega
      have hji := hstep0 i hiN
      have hgs := hgetS i hiN
      have hwr : IntKind.i64.wrap (-w.gain + (i : Int) + 1) = -w.gain + ((i + 1 : Nat) : Int) := by rw [wrap_id (by omega) (by omega)]; omega
      obtain ⟨g, hgi⟩ : ∃ g, -w.gain + (i : Int) = g := ⟨_, rfl⟩
      rw [hgi] at hji hgs hwr
      simp only [hgi]
      have hb : p g = onB (co w G) day M g := by rw [hp]
      rw [hb] at hji hgs
      clear hget hon hgetS hstep0 hb
      have hov0 : ownV day g M [] = [(day, g)] := if_pos rfl
      have hcv0 : clashV day g M [] = false := if_pos rfl
      have hovn : ∀ vis : List (List C), vis.Perm (rowsK M) → ownV day g M vis = ownC day g M ∧ clashV day g M vis = clashB day g M := fun vis hp => by
        match M, hM with
        | [], _ =>
          rw [List.perm_nil.1 hp]
          exact ⟨rfl, rfl⟩
        | [m], _ =>
          have hne : vis ≠ [] := by rintro rfl; have := hp.length_eq; simp [rowsK, rowsV] at this
          exact ⟨if_neg hne, if_neg hne⟩
      refine awp_skip ?_; (first | show AWP _ _ _ _ _ | show ∃ _, _ | skip)
      (repeat refine awp_seq ?_); refine awp_block ?_
      (repeat refine awp_seq ?_); refine awp_reg1 (by rw [hx]; kernel_rfl) fun K hK => ?_; simp (maxSteps := 1000000) [ty87, ty3]; refine hK _ ?_; clear hK K; (first | show AWP _ _ _ _ _ | show ∃ _, _ | skip)
      (repeat refine awp_seq ?_); refine awp_reg1 (by rw [hx]; kernel_rfl) fun K hK => ?_; simp (maxSteps := 1000000) [ty4]; refine hK _ ?_; clear hK K; (first | show AWP _ _ _ _ _ | show ∃ _, _ | skip)
      refine awp_seq ?_
      refine awp_rangeMd2 (nl := nl) (kt := 3) (et := 3) (rowsK M) (fun v pm vis => ⟨ofL [(0, .fn (.yield q) [] []), (1, .ip (cCd w G nl' M') 0), (2, .ip [encI day] 0), (3, .ip [.md nl (rowsK M)] 0), (5, encI g), (6, .mp 21), (7, .bool (clashV day g M vis)), (25, .mpin pm), (26, .val v)], hiS 2000000 (stoT [(21, 21, .live ⟨false, false, 0, rowsK (ownV day g M vis)⟩)]) (stg 2000000 fam stop (j i))⟩)
        rfl (by kernel_rfl) (rowsK_flat M) (by rw [hx]; kernel_rfl) (by rw [hx]; kernel_rfl) (by rw [hx]; kernel_rfl) (by rw [hx]; decide) (fun v pm vis => ⟨rfl, rfl⟩) (by decide) (by decide) (by decide) (by decide) (by decide) ?_ ?_ ?_
      · intro K hK
        simp [ty87]
        refine hK _ ?_ ?_
        · simp
        · intro v pm
          rw [hov0, hcv0]
          refine wk_shapeH hfam ?_ (by simp) (by simp) (by simp) ?_ (hx_stg hfam hσ) ?_
          · intro k hk
            have hne : ∀ n : Nat, n < 1000 → k ≠ n := fun n hn => by omega
            simp [upd, hk, hne]
          · simp [SlotOk] <;> (repeat' (first | exact .same (by simp [purel, C.isPure]) | exact .cons (by simp [mtl, mtc, mT, mH, C.isPure, purel]) (by simp) .nil | refine And.intro ?_ ?_))
          · simp [mtc, mtl, mH, mT, C.isPure, purel, rowsK, rowsV] <;> (try simp (disch := omega) [wrap_id]) <;> (try omega)
      · intro v pm vis k e hp y hy1 hy2 hyY K hK
        obtain ⟨rest, hp⟩ := hp
        obtain ⟨a, n, hMa, rfl, rfl, rfl⟩ : ∃ a n, M = [(a, n)] ∧ vis = [] ∧ k = encI a ∧ e = encI n := by
          have hlen := hp.length_eq
          match M, hM with
          | [], _ => simp [rowsK, rowsV] at hlen
          | [m], _ =>
            simp [rowsK, rowsV] at hlen
            have hv : vis = [] := List.eq_nil_of_length_eq_zero (by omega)
            subst hv
            have hm : [k, e] ∈ rowsK [m] := hp.mem_iff.1 (by simp)
            simp [rowsK, rowsV] at hm
            exact ⟨m.1, m.2, rfl, rfl, hm.1, hm.2⟩
        have hx := hy1.trans hx
        have hσ := hy2.trans hσ
        have hovn1 := hovn [[encI a, encI n]] (by rw [hMa]; exact List.Perm.refl _)
        have hvs : ([] : List (List C)) ++ [[encI a, encI n]] = [[encI a, encI n]] := rfl
        rw [hov0, hcv0]
        rw [hvs, hovn1.1, hovn1.2, hMa] at hK
        have hoc : ownC day g [(a, n)] = setK [(day, g)] a n := rfl
        have hcc : clashB day g [(a, n)] = (a == day && n != g) := by simp [clashB]
        rw [hoc, hcc] at hK
        clear hovn hovn1 hvs hoc hcc hov0 hcv0
        simp
        refine hK _ ?_
        clear hK K
        have hrr : rowsK [(day, g)] = [[encI day, encI g]] := rfl
        rw [hrr]
        by_cases had : a = day
        · subst had
          have hsr : rowsK (setK [(a, g)] a n) = [[encI a, encI n]] := by simp [setK, rowsK, rowsV]
          rw [hsr]
          (repeat refine awp_seq ?_); refine awp_reg1 (by rw [hx]; kernel_rfl) fun K hK => ?_; simp (maxSteps := 1000000) [ty3, ty4]; refine hK _ ?_; clear hK K; (first | show AWP _ _ _ _ _ | show ∃ _, _ | skip)
          (repeat refine awp_seq ?_); refine awp_reg1 (by rw [hx]; kernel_rfl) fun K hK => ?_; simp (maxSteps := 1000000) [ty87, ty3, keyQ, findC, sameC]; refine hK _ ?_; clear hK K; (first | show AWP _ _ _ _ _ | show ∃ _, _ | skip)
          refine wk_shapeH hfam ?_ (by simp) (by simp) (by simp) ?_ (hx_stg hfam hσ) ?_
          · intro k hk
            have hne : ∀ n : Nat, n < 1000 → k ≠ n := fun n hn => by omega
            simp [upd, hk, hne]
          · simp [SlotOk] <;> (repeat' (first | exact .same (by simp [purel, C.isPure]) | exact .cons (by simp [mtl, mtc, mT, mH, C.isPure, purel]) (by simp) .nil | refine And.intro ?_ ?_))
          · simp [mtc, mtl, mH, mT, C.isPure, purel, hMa] <;> (try simp (disch := omega) [wrap_id]) <;> (try omega)
        · have hsr : rowsK (setK [(day, g)] a n) = [[encI day, encI g], [encI a, encI n]] := by simp [setK, rowsK, rowsV, had]
          have had' : (a == day) = false := by simpa using had
          rw [hsr]
          (repeat refine awp_seq ?_); refine awp_reg1 (by rw [hx]; kernel_rfl) fun K hK => ?_; simp (maxSteps := 1000000) [ty3, ty4, had']; refine hK _ ?_; clear hK K; (first | show AWP _ _ _ _ _ | show ∃ _, _ | skip)
          (repeat refine awp_seq ?_); refine awp_reg1 (by rw [hx]; kernel_rfl) fun K hK => ?_; simp (maxSteps := 1000000) [ty87, ty3, keyQ, findC, sameC, had']; refine hK _ ?_; clear hK K; (first | show AWP _ _ _ _ _ | show ∃ _, _ | skip)
          refine wk_shapeH hfam ?_ (by simp) (by simp) (by simp) ?_ (hx_stg hfam hσ) ?_
          · intro k hk
            have hne : ∀ n : Nat, n < 1000 → k ≠ n := fun n hn => by omega
            simp [upd, hk, hne]
          · simp [SlotOk] <;> (repeat' (first | exact .same (by simp [purel, C.isPure]) | exact .cons (by simp [mtl, mtc, mT, mH, C.isPure, purel]) (by simp) .nil | refine And.intro ?_ ?_))
          · simp [mtc, mtl, mH, mT, C.isPure, purel, had', hMa] <;> (try simp (disch := omega) [wrap_id]) <;> (try omega)
      · intro v pm vis hp
        obtain ⟨h1, h2⟩ := hovn vis hp
        rw [h1, h2]
        clear hovn hov0 hcv0 h1 h2 hp
        show AWP _ _ _ _ _
        have hcan := can71 w G false nl' (ownC day g M) M' hw
        have hbb : onB (co w G) day M g = (!clashB day g M && canC (co w G) (ownC day g M)) := rfl
        rw [hbb] at hji hgs
        generalize ownC day g M = own at *
        cases hcl : clashB day g M
        · rw [hcl] at hji hgs
          simp only [Bool.not_false, Bool.true_and] at hji hgs
          refine AWP.weak ?_ (wk_frz 6 21 (o := ⟨false, false, 0, rowsK own⟩) (c := .md false (rowsK own)) (by simp) (rowsK_pure _) (fz_mp rfl rfl))
          cases hcb : canC (co w G) own
          · rw [hcb] at hji hcan
            (repeat refine awp_seq ?_); refine awp_reg1 (by rw [hx]; kernel_rfl) fun K hK => ?_; simp (maxSteps := 1000000) [ty89, ty87, ty3, ty4]
            refine callP (hcan) (by first | (simp; done) | (simp [*]; done)) ?_; simp (maxSteps := 1000000) [ty4]
            refine hK _ ?_; clear hK K; (first | show AWP _ _ _ _ _ | show ∃ _, _ | skip)
            (repeat refine awp_seq ?_); refine awp_cond (by simp; rfl) (by rw [hx]; simp) (fun hd => ?_) (fun hd => ?_)
            · simp at hd
            · clear hd
              refine awp_skip ?_; (first | show AWP _ _ _ _ _ | show ∃ _, _ | skip)
              (repeat refine awp_seq ?_); refine awp_reg1 (by rw [hx]; kernel_rfl) fun K hK => ?_; simp (maxSteps := 1000000) [ty3, hwr]; refine hK _ ?_; clear hK K; (first | show AWP _ _ _ _ _ | show ∃ _, _ | skip)
              simp at hji
              refine ⟨i + 1, ⟨by omega, by omega⟩, by omega, ?_⟩
              rw [hji]
              refine wk_shapeH hfam ?_ (by simp) (by simp) (by simp) ?_ (hx_stg hfam hσ) ?_
              · intro k hk
                have hne : ∀ n : Nat, n < 1000 → k ≠ n := fun n hn => by omega
                simp [upd, hk, hne]
              · simp [SlotOk] <;> (repeat' (first | exact .same (by simp [purel, C.isPure]) | exact .cons (by simp [mtl, mtc, mT, mH, C.isPure, purel]) (by simp) .nil | refine And.intro ?_ ?_))
              · simp [mtc, mtl, mH, mT, C.isPure, purel] <;> (try simp (disch := omega) [wrap_id]) <;> (try omega)
          · rw [hcb] at hji hcan
            simp at hji
            (repeat refine awp_seq ?_); refine awp_reg1 (by rw [hx]; kernel_rfl) fun K hK => ?_; simp (maxSteps := 1000000) [ty89, ty87, ty3, ty4]
            refine callP (hcan) (by first | (simp; done) | (simp [*]; done)) ?_; simp (maxSteps := 1000000) [ty4]
            refine yieldL hY hst (hgs hcb) (by intro k hk; have hne : ∀ n : Nat, n < 1000 → k ≠ n := fun n hn => by omega
                                               simp [upd, hk, hne]) ?_
            simp [ty4]
            refine hK _ ?_; clear hK K; (first | show AWP _ _ _ _ _ | show ∃ _, _ | skip)
            (repeat refine awp_seq ?_); refine awp_cond (by simp; rfl) (by rw [hx]; simp) (fun hd => ?_) (fun hd => ?_)
            · simp at hd
              (repeat refine awp_seq ?_); refine awp_ret ?_; refine And.intro (Or.inr rfl) ?_
              refine ⟨⟨_, rfl⟩, ?_⟩
              have : finI stop (L.filter p).length = j i + 1 := by
                have := hmono (i + 1)
                unfold finI; rw [if_pos (by omega)]; omega
              rw [this]
              exact wk_endH hfam hσ (fun k hk => by show (if 2000000 ≤ k then _ else _) = _; rw [if_pos hk])
            · simp at hd
              refine awp_skip ?_; (first | show AWP _ _ _ _ _ | show ∃ _, _ | skip)
              (repeat refine awp_seq ?_); refine awp_reg1 (by rw [hx]; kernel_rfl) fun K hK => ?_; simp (maxSteps := 1000000) [ty3, hwr]; refine hK _ ?_; clear hK K; (first | show AWP _ _ _ _ _ | show ∃ _, _ | skip)
              refine ⟨i + 1, ⟨by omega, by omega⟩, by omega, ?_⟩
              rw [hji]
              refine wk_shapeH hfam ?_ (by simp) (by simp) (by simp) ?_ (hx_stg hfam hσ) ?_
              · intro k hk
                have hne : ∀ n : Nat, n < 1000 → k ≠ n := fun n hn => by omega
                simp [upd, hk, hne]
              · simp [SlotOk] <;> (repeat' (first | exact .same (by simp [purel, C.isPure]) | exact .cons (by simp [mtl, mtc, mT, mH, C.isPure, purel]) (by simp) .nil | refine And.intro ?_ ?_))
              · simp [mtc, mtl, mH, mT, C.isPure, purel] <;> (try simp (disch := omega) [wrap_id]) <;> (try omega)
        · rw [hcl] at hji
          simp at hji
          (repeat refine awp_seq ?_); refine awp_reg1 (by rw [hx]; kernel_rfl) fun K hK => ?_; simp (maxSteps := 1000000) [ty89, ty87, ty3, ty4]; refine hK _ ?_; clear hK K; (first | show AWP _ _ _ _ _ | show ∃ _, _ | skip)
          (repeat refine awp_seq ?_); refine awp_cond (by simp; rfl) (by rw [hx]; simp) (fun hd => ?_) (fun hd => ?_)
          · simp at hd
          · clear hd
            refine awp_skip ?_; (first | show AWP _ _ _ _ _ | show ∃ _, _ | skip)
            (repeat refine awp_seq ?_); refine awp_reg1 (by rw [hx]; kernel_rfl) fun K hK => ?_; simp (maxSteps := 1000000) [ty3, hwr]; refine hK _ ?_; clear hK K; (first | show AWP _ _ _ _ _ | show ∃ _, _ | skip)
            refine ⟨i + 1, ⟨by omega, by omega⟩, by omega, ?_⟩
            rw [hji]
            refine wk_shapeH hfam ?_ (by simp) (by simp) (by simp) ?_ (hx_stg hfam hσ) ?_
            · intro k hk
              have hne : ∀ n : Nat, n < 1000 → k ≠ n := fun n hn => by omega
              simp [upd, hk, hne]
            · simp [SlotOk] <;> (repeat' (first | exact .same (by simp [purel, C.isPure]) | exact .cons (by simp [mtl, mtc, mT, mH, C.isPure, purel]) (by simp) .nil | refine And.intro ?_ ?_))
            · simp [mtc, mtl, mH, mT, C.isPure, purel] <;> (try simp (disch := omega) [wrap_id]) <;> (try omega)
    · simp at hc
      (repeat refine awp_seq ?_); refine awp_exit ?_; (first | show AWP _ _ _ _ _ | show ∃ _, _ | skip)
      have hin : i = N := by omega
      refine ⟨by simp, ⟨_, rfl⟩, ?_⟩
      have : finI stop (L.filter p).length = j i := by
        rw [hin, hfull]
        unfold finI; rw [hin, hfull] at hst; rw [if_neg (by omega)]
      rw [this]
      exact wk_endH hfam hσ (fun k hk => by show (if 2000000 ≤ k then _ else _) = _; rw [if_pos hk])

set_option maxHeartbeats 4000000

-- numbers that an iterator yields, as a slice

noncomputable def apC (N i : Nat) : C := if i = 0 ∨ N < i then .sl true true [] else .own (fk (i - 1)) 1 0 i
def apSl (L : List Int) (i e : Nat) : Slot := if e + 1 = i then .live ⟨false, false, 1, (L.take i).map cI⟩ else if e + 1 < i then .dead else .gh

theorem apC_zero (N : Nat) : apC N 0 = .sl true true [] := if_pos (.inl rfl)
theorem apC_succ {N i : Nat} (h : i < N) : apC N (i + 1) = .own (fk i) 1 0 (i + 1) := by
 unfold apC; rw [if_neg (by omega)]; rfl
theorem apC_cell (N i : Nat) : C.cell (apC N i) = true := by unfold apC; split <;> rfl
theorem ints_pure (L : List Int) : (L.map cI).all purel = true := all_purel_map fun _ => rfl
theorem ints_wil (K : List Nat) (L : List Int) : (L.map cI).all (wil K) = true := by
 rw [List.all_eq_true]; intro r hr; obtain ⟨z, _, rfl⟩ := List.mem_map.1 hr; rfl
theorem ints_cell (L : List Int) : (L.map cI).all (fun r => r.all C.cell) = true := by
 rw [List.all_eq_true]; intro r hr; obtain ⟨z, _, rfl⟩ := List.mem_map.1 hr; rfl

theorem apSl_ok {K : List Nat} (L : List Int) (i e : Nat) : apSl L i e ≠ .free ∧ ∀ o, apSl L i e = .live o → o.rows.all (wil K) = true ∧ o.rows.all (fun r => r.all C.cell) = true := by
 unfold apSl
 split
 ·refine ⟨by simp, fun o ho => ?_⟩
  cases ho
  exact ⟨ints_wil _ _, ints_cell _⟩
 ·split <;> exact ⟨by simp, fun o ho => by cases ho⟩

theorem apSl_next {m : Nat → Nat → Prop} (L : List Int) {i e : Nat} (he : e ≠ i) : SlotOk m (apSl L i e) (apSl L (i + 1) e) := by
 unfold apSl
 by_cases h1 : e + 1 = i
 ·rw [if_pos h1, if_neg (by omega), if_pos (by omega)]; trivial
 ·rw [if_neg h1]
  by_cases h2 : e + 1 < i
  ·rw [if_pos h2, if_neg (by omega), if_pos (by omega)]; trivial
  ·rw [if_neg h2, if_neg (by omega), if_neg (by omega)]; rfl

theorem take_ints (L : List Int) {i : Nat} (hi : i < L.length) : (L.take (i + 1)).map cI = (L.take i).map cI ++ [[encI L[i]]] := by
 rw [List.take_succ_eq_append_getElem hi, List.map_append]; rfl

@[simp] noncomputable abbrev Ta (N i : Nat) : List (Nat × Nat × Slot) := [(1000002, 1000002, .live (o1 (apC N i)))]

theorem appendSeq99 (g : FuncId) (first caps : List C) (L : List Int) (hp1 : purel first = true) (hp2 : purel caps = true) (hit : ItC Tryz.prog 1000000 g first caps (itI L)) (hn : L.length ≤ 1000000) :
  Pure Tryz.prog 99 [.sl true true [], .fn (.func g) first caps] (slI L) := by
 have w1 : ∀ K, wil K first = true := fun K => purel_wil K first hp1
 have w2 : ∀ K, wil K caps = true := fun K => purel_wil K caps hp2
 obtain ⟨N, hN⟩ : ∃ N, L.length = N := ⟨_, rfl⟩
 have hil : (itI L).length = N := by simp [hN]
 refine pure_of (fn := Tryz.f99) [.tmp 4] ⟨Tryz.func99, rfl, by kernel_rfl⟩ (by kernel_rfl) (by kernel_rfl) (by kernel_rfl) fun x hx hσ => ?_
 (repeat refine awp_seq ?_); refine awp_reg1 (by rw [hx]; kernel_rfl) fun K hK => ?_; simp (maxSteps := 1000000) [ty29]; refine hK _ ?_; clear hK K; (first | show AWP _ _ _ _ _ | show ∃ _, _ | skip)
 (repeat refine awp_seq ?_)
 (repeat refine awp_seq ?_); refine awp_reg1 (by rw [hx]; kernel_rfl) fun K hK => ?_; simp (maxSteps := 1000000) [ty128]; refine hK _ ?_; clear hK K; (first | show AWP _ _ _ _ _ | show ∃ _, _ | skip)
 (repeat refine awp_seq ?_); refine awp_block ?_
 have hfam := famOkS (L := 1000000) (K := [1000002]) (N := N) (T := fun i => Ta N i) (M := fun i e => apSl L i e) (by decide) (by simp) (by simp) (fun i => by simp)
  (fun i p hp => by
   simp only [Ta, List.mem_cons, List.not_mem_nil, or_false] at hp
   subst hp
   refine ⟨_, rfl, ?_, ?_⟩
   ·unfold apC
    split
    ·simp [wil, C.wi]
    ·have : i - 1 < N := by omega
     simp [wil, C.wi, this]
   ·simp only [List.all_cons, List.all_nil, apC_cell]; rfl)
  (fun i e he => apSl_ok L i e)
 refine awp_rangeG 1000000 _ _ (itI L) N .ret [(2, .ptr 1000002 1 0 0), (6, .fn (.func g) first caps)] [(2, .ptr 1000002 1 0 0)] (first := first) (caps := caps) ?_ hσ hfam (by simp) (by rw [hx]; decide) ⟨hp1, hp2⟩ hit (by omega)
  (by simp [C.wi, wil, w1, w2]) (by simp [C.wi, wil]) ?_ ?_ ?_ ?_
 ·refine Wk.trans (wk_shape (E := [(2, .ptr 1000002 1 0 0), (6, .fn (.func g) first caps)]) (T := [(1000002, 2, .live (o1 (.sl true true [])))]) (shp0 hσ (by simp) (by simp) ?_) ?_) ?_
  ·simp [SlotOk]
   exact .same (by simp [purel, C.isPure])
  ·simp [mtc, mtl, mT, C.isPure, purel, hp1, hp2]
   exact ⟨mtl_pure _ _ hp1, mtl_pure _ _ hp2⟩
  ·have e1 : (fun e => apSl L 0 e) = fun _ => Slot.gh := by
    funext e; unfold apSl; rw [if_neg (by omega), if_neg (by omega)]
   simp only [Ta, e1, apC_zero]
   exact wk_famGh (by simp) N
 ·intro args ha
  obtain ⟨t, ht, rfl⟩ := List.mem_map.1 ha
  simp [purel, C.isPure]
 ·intro i args hit hi y y2 hy1 hy2 hyS hy2S
  obtain ⟨t, ht, rfl⟩ := itI_get hit
  have hi' : i < L.length := (List.getElem?_eq_some_iff.1 ht).1
  have hti : L[i] = t := (List.getElem?_eq_some_iff.1 ht).2
  have hr0 := fun i => famS_rfam (L := 1000000) (by decide) (Ta N i) N (fun e => apSl L i e) i (fun i => famS (Ta N i) N fun e => apSl L i e) rfl
  rw [hr0 i, hr0 (i + 1)]
  have hx0 := hx
  have hx := hy1.trans hx0
  (repeat refine awp_seq ?_); refine awp_reg1 (by rw [hx]; kernel_rfl) fun K hK => ?_; simp (maxSteps := 1000000) [ty3, putPs]; refine hK _ ?_; clear hK K; (first | show AWP _ _ _ _ _ | show ∃ _, _ | skip)
  refine ⟨by simp, ?_⟩
  have hx := hy2.trans hx0
  (repeat refine awp_seq ?_); refine awp_block ?_
  have hsN := apC_succ (N := N) (i := i) (by omega)
  have hrow := take_ints L hi'
  rw [hti] at hrow
  by_cases h0 : i = 0
  ·subst h0
   rw [apC_zero]
   have e0 : (L.take 0).map cI = [] := rfl
   rw [e0] at hrow
   refine AWP.weak ?_ (wk_nilCell 1000002 0 0 1000 1 (o := o1 (.sl true true [])) (row := [.sl true true []]) (fu := true) (by simp) rfl rfl rfl (by simp [stoT]) (by decide))
   (repeat refine awp_seq ?_); refine awp_reg1 (by rw [hx]; kernel_rfl) fun K hK => ?_; simp (maxSteps := 1000000) [ty29, ty3]; refine hK _ ?_; clear hK K; (first | show AWP _ _ _ _ _ | show ∃ _, _ | skip)
   refine ⟨by rw [if_neg (by omega)], ?_⟩
   have hsl1 : apSl L 1 0 = .live ⟨false, false, 1, (L.take 1).map cI⟩ := if_pos rfl
   refine wk_famR (E := []) (T := (1000000, 1000000, .gh) :: Ta N 1) (fun e => if e = 0 then 11 else fk e) hy2S (hr0 0) (by simp [mT]) (by simp) ?_ (by simp) (by simp) (by simp) ?_ ?_ ?_ (by simp)
   ·intro e he hne
    exact absurd (by unfold apSl; rw [if_neg (by omega), if_neg (by omega)]) hne
   ·intro e he
    by_cases hej : e = 0
    ·subst hej
     refine .inr ⟨by simp, by simp, fun e' _ h => ?_⟩
     simp only [if_true] at h
     split at h
     ·assumption
     ·simp at h
    ·simp [hej]
   ·intro e he
    by_cases hej : e = 0
    ·subst hej
     rw [hsl1, hrow]
     simp
     exact ⟨rfl, rfl, rfl, .same (by simp [purel, C.isPure])⟩
    ·simp [hej, he]
     exact apSl_next L hej
   ·have hsN1 : apC N 1 = .own (fk 0) 1 0 1 := apC_succ (by omega)
    simp [SlotOk, hsN1]
    exact .cons (by simp [mtl, mtc, mT, mF]; omega) (by simp) .nil
  ·obtain ⟨n, rfl⟩ : ∃ n, i = n + 1 := ⟨i - 1, by omega⟩
   have hsn := apC_succ (N := N) (i := n) (by omega)
   rw [hsn]
   have hnN : n < N := by omega
   have hsl : apSl L (n + 1) n = .live ⟨false, false, 1, (L.take (n + 1)).map cI⟩ := if_pos rfl
   have hAl : ((L.take (n + 1)).map cI).length = n + 1 := by simp; omega
   have hAp := ints_pure (L.take (n + 1))
   generalize hA : (L.take (n + 1)).map cI = A at *
   have hA2 : (L.take (n + 1 + 1)).map cI = A ++ [[encI t]] := hrow
   (repeat refine awp_seq ?_); refine awp_reg1 (by rw [hx]; kernel_rfl) fun K hK => ?_; simp (maxSteps := 1000000) [ty29, ty3, hnN, hsl, hAl]
   refine ⟨by omega, ?_⟩
   refine hK _ ?_; clear hK K; (first | show AWP _ _ _ _ _ | show ∃ _, _ | skip)
   refine ⟨by rw [if_neg (by omega)], ?_⟩
   have hsl1 : apSl L (n + 1 + 1) (n + 1) = .live ⟨false, false, 1, A ++ [[encI t]]⟩ := by rw [← hA2]; exact if_pos rfl
   have hsn2 := apC_succ (N := N) (i := n + 1) (by omega)
   refine wk_famR (E := []) (T := (1000000, 1000000, .gh) :: Ta N (n + 1 + 1)) (fun e => if e = n + 1 then 11 else fk e) hy2S (hr0 (n + 1)) (by simp [mT]) (by simp) ?_ (by simp) (by simp) (by simp) ?_ ?_ ?_ (by simp)
   ·intro e he hne
    by_cases hej : e = n + 1
    ·subst hej
     exact absurd (by unfold apSl; rw [if_neg (by omega), if_neg (by omega)]) hne
    ·simp [hej]
   ·intro e he
    by_cases hej : e = n + 1
    ·subst hej
     refine .inr ⟨by simp, by simp, fun e' _ h => ?_⟩
     simp only [if_true] at h
     split at h
     ·assumption
     ·simp at h
    ·simp [hej]
   ·intro e he
    by_cases hej : e = n + 1
    ·subst hej
     rw [hsl1]
     simp
     exact ⟨rfl, rfl, rfl, .same (by simp [purel, C.isPure]; exact fun x h => List.all_eq_true.1 hAp x h)⟩
    ·by_cases hen : e = n
     ·subst hen
      have hd : apSl L (e + 1 + 1) e = .dead := by unfold apSl; rw [if_neg (by omega), if_pos (by omega)]
      rw [hd]
      simp [hej]
      trivial
     ·simp [hej, hen, he]
      exact apSl_next L hej
   ·simp [SlotOk, hsn2]
    exact .cons (by simp [mtl, mtc, mT, mF]; omega) (by simp) .nil
 ·intro he s' hs'
  refine AWP.weak ?_ hs'
  rw [hil]
  by_cases h0 : N = 0
  ·have hLn : L = [] := List.eq_nil_of_length_eq_zero (by omega)
   rw [h0]
   simp only [Ta, apC_zero]
   (repeat refine awp_seq ?_); refine awp_reg1 (by rw [hx]; kernel_rfl) fun K hK => ?_; simp (maxSteps := 1000000) [ty29]; refine hK _ ?_; clear hK K; (first | show AWP _ _ _ _ _ | show ∃ _, _ | skip)
   (repeat refine awp_seq ?_); refine awp_ret ?_; refine And.intro (Or.inr rfl) ?_
   simp [retC, resC, viewC, mapO, hLn]
  ·obtain ⟨n, hn1⟩ : ∃ n, N = n + 1 := ⟨N - 1, by omega⟩
   have hsn := apC_succ (N := N) (i := n) (by omega)
   have hLe : L.isEmpty = false := by
    cases L with
    | nil => simp at hN; omega
    | cons a l => rfl
   have hsl : apSl L (n + 1) n = .live ⟨false, false, 1, L.map cI⟩ := by
    unfold apSl; rw [if_pos rfl, List.take_of_length_le (by omega)]
   subst hn1
   simp only [Ta, hsn]
   (repeat refine awp_seq ?_); refine awp_reg1 (by rw [hx]; kernel_rfl) fun K hK => ?_; simp (maxSteps := 1000000) [ty29]; refine hK _ ?_; clear hK K; (first | show AWP _ _ _ _ _ | show ∃ _, _ | skip)
   (repeat refine awp_seq ?_); refine awp_ret ?_; refine And.intro (Or.inr rfl) ?_
   refine ⟨_, by simp [retC, resC]; rfl, ?_⟩
   rw [viewC_own (o := ⟨false, false, 1, L.map cI⟩) (by simp [hsl]) rfl (by simp [hN]) (ints_pure L)]
   simp [hLe]
 ·intro hlt
  rw [hil] at hlt
  omega

theorem collect63 (g : FuncId) (first caps : List C) (L : List Int) (hp1 : purel first = true) (hp2 : purel caps = true) (hit : ItC Tryz.prog 1000000 g first caps (itI L)) (hn : L.length ≤ 1000000) :
  Pure Tryz.prog 63 [.fn (.func g) first caps] (slI L) := by
 have h := appendSeq99 g first caps L hp1 hp2 hit hn
 simp only [slI] at h
 refine pure_of (fn := Tryz.f63) [.tmp 2] ⟨Tryz.func63, rfl, by kernel_rfl⟩ (by kernel_rfl) (by kernel_rfl) (by kernel_rfl) fun x hx hσ => ?_
 (repeat refine awp_seq ?_); refine awp_reg1 (by rw [hx]; kernel_rfl) fun K hK => ?_; simp (maxSteps := 1000000) [ty29]; refine hK _ ?_; clear hK K; (first | show AWP _ _ _ _ _ | show ∃ _, _ | skip)
 (repeat refine awp_seq ?_); refine awp_reg1 (by rw [hx]; kernel_rfl) fun K hK => ?_; simp (maxSteps := 1000000) [ty128, ty29]
 refine callP h (by simp [purel, C.isPure, hp1, hp2]) ?_
 simp
 refine hK _ ?_; clear hK K; (first | show AWP _ _ _ _ _ | show ∃ _, _ | skip)
 (repeat refine awp_seq ?_); refine awp_ret ?_; refine And.intro (Or.inr rfl) ?_
 simp [retC, resC, viewC, mapO]

set_option maxHeartbeats 8000000

-- the gains of a day, and the doubt

theorem onC_bd {c : Co} {day : Int} {M : List (Int × Int)} {g : Int} (h : g ∈ onC c day M) : -c.gain ≤ g ∧ g ≤ c.gain := mem_seqI.1 (List.mem_filter.1 h).1

theorem onC_len (c : Co) (day : Int) (M : List (Int × Int)) (hg : 0 ≤ c.gain ∧ c.gain ≤ 50) : (onC c day M).length ≤ 101 := by
 have h := List.length_filter_le (onB c day M) (seqI (-c.gain) c.gain)
 have h2 : (seqI (-c.gain) c.gain).length = (c.gain - -c.gain + 1).toNat := seqN_len _ _
 unfold onC
 omega

theorem collOn (w : Ws) (G : List (Int × List Int)) (nl nl' : Bool) (M M' : List (Int × Int)) (day : Int) (hw : WsNum w G) (hM : M.length ≤ 1) :
  Pure Tryz.prog 63 [.fn (.func 98) [] [.ip (cCd w G nl' M') 0, .ip [encI day] 0, .ip [.md nl (rowsK M)] 0]] (slI (onC (co w G) day M)) :=
 collect63 98 [] _ _ rfl (by simp [purel, C.isPure]) (on98 w G nl nl' M M' day hw hM) (by have := onC_len (co w G) day M hw.gain; omega)

def spanL (L : List Int) : Int := L.getLastD 0 - L.headD 0
def doubtTo (c : Co) (M : List (Int × Int)) : Nat → Int
 | 0 => 0
 | d + 1 => doubtTo c M d + spanL (onC c (d : Nat) M)
/-- The doubt, where some gains are known. -/
def doubtC (c : Co) (M : List (Int × Int)) : Int := doubtTo c M (c.last + 1).toNat

theorem spanL_at {L : List Int} (h : 0 < L.length) : L[L.length - 1]'(by omega) - L[0] = spanL L := by
 cases L with
 | nil => simp at h
 | cons a l => simp [spanL, List.getLastD_eq_getLast?, List.getLast?_eq_getElem?]

theorem ends_at {L : List Int} (h : 0 < L.length) : L[L.length - 1]'(by omega) = L.getLastD 0 ∧ L[0] = L.headD 0 := by
 cases L with
 | nil => simp at h
 | cons a l => simp [List.getLastD_eq_getLast?, List.getLast?_eq_getElem?]

theorem doubt67 (w : Ws) (G : List (Int × List Int)) (nl nl' : Bool) (M M' : List (Int × Int)) (hw : WsNum w G) (hM : M.length ≤ 1) (hne : ∀ d : Nat, d ≤ w.last.toNat → onC (co w G) d M ≠ []) :
  Pure Tryz.prog 67 [encCd w G nl' M', .md nl (rowsK M)] (encI (doubtC (co w G) M)) := by
 have hl := hw.last
 have hg := hw.gain
 obtain ⟨N, hN⟩ : ∃ N : Nat, (w.last + 1).toNat = N := ⟨_, rfl⟩
 have hN' : (N : Int) = w.last + 1 := by omega
 have hd : doubtC (co w G) M = doubtTo (co w G) M N := by unfold doubtC; rw [hN]
 have hbd : ∀ d : Nat, -100 * (d : Int) ≤ doubtTo (co w G) M d ∧ doubtTo (co w G) M d ≤ 100 * (d : Int) := by
  intro d
  induction d with
  | zero => simp [doubtTo]
  | succ d ih =>
   have h1 : -100 ≤ spanL (onC (co w G) (d : Nat) M) ∧ spanL (onC (co w G) (d : Nat) M) ≤ 100 := by
    by_cases h0 : 0 < (onC (co w G) (d : Nat) M).length
    ·rw [← spanL_at h0]
     have h2 := onC_bd (List.getElem_mem (l := onC (co w G) (d : Nat) M) (n := (onC (co w G) (d : Nat) M).length - 1) (by omega))
     have h3 := onC_bd (List.getElem_mem (l := onC (co w G) (d : Nat) M) (n := 0) h0)
     simp only at h2 h3
     omega
    ·have : onC (co w G) (d : Nat) M = [] := List.eq_nil_of_length_eq_zero (by omega)
     rw [this]; simp [spanL]
   simp only [doubtTo]
   omega
 have hw1 : IntKind.i64.wrap (w.last + 1) = (N : Int) := by rw [wrap_id (by omega) (by omega)]; omega
 rw [hd]
 refine pure_of (fn := Tryz.f67) [.tmp 4] ⟨Tryz.func67, rfl, by kernel_rfl⟩ (by kernel_rfl) (by kernel_rfl) (by kernel_rfl) fun x hx hσ => ?_
 (repeat refine awp_seq ?_); refine awp_reg1 (by rw [hx]; kernel_rfl) fun K hK => ?_; simp (maxSteps := 1000000) [ty89]; refine hK _ ?_; clear hK K; (first | show AWP _ _ _ _ _ | show ∃ _, _ | skip)
 (repeat refine awp_seq ?_); refine awp_reg1 (by rw [hx]; kernel_rfl) fun K hK => ?_; simp (maxSteps := 1000000) [ty3]; refine hK _ ?_; clear hK K; (first | show AWP _ _ _ _ _ | show ∃ _, _ | skip)
 (repeat refine awp_seq ?_); refine awp_reg1 (by rw [hx]; kernel_rfl) fun K hK => ?_; simp (maxSteps := 1000000) [ty89, ty28, ty3, hw1]; refine hK _ ?_; clear hK K; (first | show AWP _ _ _ _ _ | show ∃ _, _ | skip)
 (repeat refine awp_seq ?_); refine awp_block ?_
 refine awp_loop (fun i : Nat => ⟨ofL [(1, .md nl (rowsK M)), (2, .ptr 2 15 0 0), (5, encI (doubtTo (co w G) M i)), (11, encI N), (12, encI i)], stoT [(2, 2, .live (obCd w G nl' M'))]⟩)
  (fun i => i ≤ N) (fun i => N - i) 0 (Nat.zero_le _) ?_ ?_
 ·simp only [doubtTo]
  refine wk_shape (shp0 hσ (by simp) (by simp) ?_) ?_
  ·simp [SlotOk] <;> (repeat' (first | exact .same (by simp [purel, C.isPure]) | exact .cons (by simp [mtl, mtc, mT, mH, C.isPure, purel]) (by simp) .nil | refine And.intro ?_ ?_))
  ·simp [mtc, mtl, mT, C.isPure, purel] <;> (try simp (disch := omega) [wrap_id]) <;> (try omega)
 ·intro i hi
  (repeat refine awp_seq ?_); refine awp_reg1 (by rw [hx]; kernel_rfl) fun K hK => ?_; simp (maxSteps := 1000000) [ty3]; refine hK _ ?_; clear hK K; (first | show AWP _ _ _ _ _ | show ∃ _, _ | skip)
  (repeat refine awp_seq ?_); refine awp_cond (by simp; rfl) (by rw [hx]; simp) (fun hc => ?_) (fun hc => ?_)
  ·simp at hc
   have hb1 := hbd i
   have hb2 := hbd (i + 1)
   have hst : doubtTo (co w G) M (i + 1) = doubtTo (co w G) M i + spanL (onC (co w G) (i : Nat) M) := rfl
   have hnn := hne i (by omega)
   have hbb := fun z (hz : z ∈ onC (co w G) (i : Nat) M) => onC_bd hz
   have hcoll := collOn w G nl nl' M M' i hw hM
   have hlen := onC_len (co w G) i M hg
   generalize onC (co w G) (i : Nat) M = L at *
   have h0 : 0 < L.length := List.length_pos_iff.2 hnn
   have hsp := spanL_at h0
   rw [← hsp] at hst
   have h2 := hbb _ (List.getElem_mem (show L.length - 1 < L.length by omega))
   have h3 := hbb _ (List.getElem_mem h0)
   simp only at h2 h3
   have hm1 : IntKind.i64.wrap ((L.length : Int) - 1) = ((L.length - 1 : Nat) : Int) := by rw [wrap_id (by omega) (by omega)]; omega
   have hlt : L.length - 1 < L.length := by omega
   have hws : IntKind.i64.wrap (L[L.length - 1] - L[0]) = L[L.length - 1] - L[0] := wrap_id (by omega) (by omega)
   have hwt : IntKind.i64.wrap (doubtTo (co w G) M i + (L[L.length - 1] - L[0])) = doubtTo (co w G) M (i + 1) := by rw [← hst]; exact wrap_id (by omega) (by omega)
   refine awp_skip ?_; (first | show AWP _ _ _ _ _ | show ∃ _, _ | skip)
   (repeat refine awp_seq ?_); refine awp_block ?_
   (repeat refine awp_seq ?_); refine awp_reg1 (by rw [hx]; kernel_rfl) fun K hK => ?_; simp (maxSteps := 1000000) [ty3]; refine hK _ ?_; clear hK K; (first | show AWP _ _ _ _ _ | show ∃ _, _ | skip)
   (repeat refine awp_seq ?_); refine awp_reg1 (by rw [hx]; kernel_rfl) fun K hK => ?_; simp (maxSteps := 1000000) [ty89, ty3, ty87]
   refine callP (on60 w G nl nl' M M' i) (by first | (simp; done) | (simp [*]; done)) ?_; simp (maxSteps := 1000000) [ty92]
   refine callP (hcoll) (by first | (simp; done) | (simp [*]; done)) ?_; simp (maxSteps := 1000000) [ty29]
   refine hK _ ?_; clear hK K; (first | show AWP _ _ _ _ _ | show ∃ _, _ | skip)
   (repeat refine awp_seq ?_); refine awp_drw3 [] [0, 1, 2, 3, 4, 5, 6, 7, 8, 9, 10, 11, 12] (by rw [hx]; kernel_rfl) (by kernel_rfl) (by kernel_rfl) (by kernel_rfl) fun K hK => ?_; simp (maxSteps := 1000000) [ty29, ty3, hm1, h0, hlt, hws, hwt]; refine hK _ ?_; clear hK K; (first | show AWP _ _ _ _ _ | show ∃ _, _ | skip)
   (repeat refine awp_seq ?_); refine awp_reg1 (by rw [hx]; kernel_rfl) fun K hK => ?_; simp (maxSteps := 1000000) [ty3]; refine hK _ ?_; clear hK K; (first | show AWP _ _ _ _ _ | show ∃ _, _ | skip)
   rw [wrap_id (by omega) (by omega)]
   refine ⟨i + 1, by omega, by omega, ?_⟩
   refine wk_shape (shp0 hσ (by simp) (by simp) ?_) ?_
   ·simp [SlotOk] <;> (repeat' (first | exact .same (by simp [purel, C.isPure]) | exact .cons (by simp [mtl, mtc, mT, mH, C.isPure, purel]) (by simp) .nil | refine And.intro ?_ ?_))
   ·simp [mtc, mtl, mT, C.isPure, purel] <;> (try simp (disch := omega) [wrap_id]) <;> (try omega)
  ·simp at hc
   (repeat refine awp_seq ?_); refine awp_exit ?_; (first | show AWP _ _ _ _ _ | show ∃ _, _ | skip)
   have hiN : i = N := by omega
   rw [hiN]
   (repeat refine awp_seq ?_); refine awp_reg1 (by rw [hx]; kernel_rfl) fun K hK => ?_; simp (maxSteps := 1000000) [ty3]; refine hK _ ?_; clear hK K; (first | show AWP _ _ _ _ _ | show ∃ _, _ | skip)
   (repeat refine awp_seq ?_); refine awp_ret ?_; refine And.intro (Or.inr rfl) ?_
   simp [retC, resC, viewC, mapO]

/-- What On answers. -/
def onW (w : Ws) (day : Int) : List Int := if openW w (dayB w day) = 0 then onC (co w (gl w)) day [] else []

theorem open_yes {w : Ws} {is : Bool} (hn : WsLen w) (hz : openW w is = 0) : Pure Tryz.prog 57 [encWs w, .bool is] (.tup [encCd w (gl w) true [], encI 0]) := by
 have h := open57 w is hn
 rw [if_pos hz, hz] at h
 exact h
theorem open_no {w : Ws} {is : Bool} (hn : WsLen w) (hz : openW w is ≠ 0) : Pure Tryz.prog 57 [encWs w, .bool is] (.tup [zCd, encI (openW w is)]) := by
 have h := open57 w is hn
 rw [if_neg hz] at h
 exact h

theorem w_on18 (w : Ws) (day : Int) (hn : WsLen w) : Pure Tryz.prog 18 [encWs w, encI day] (.tup [slI (onW w day), encI (openW w (dayB w day))]) := by
 by_cases hz : openW w (dayB w day) = 0
 ·obtain ⟨hok, his, hcan⟩ := openW_ok hz
  have hop := open_yes hn hz
  have hco := collOn w (gl w) true true [] [] day hok.num (by simp)
  simp only [rowsK_nil] at hco
  have hT : onW w day = onC (co w (gl w)) day [] := if_pos hz
  refine pure_of (fn := Tryz.f18) [.tmp 4, .tmp 5] ⟨Tryz.func18, rfl, by kernel_rfl⟩ (by kernel_rfl) (by kernel_rfl) (by kernel_rfl) fun x hx hσ => ?_
  (repeat refine awp_seq ?_); refine awp_reg1 (by rw [hx]; kernel_rfl) fun K hK => ?_; simp (maxSteps := 1000000) [ty28, ty37]; refine hK _ ?_; clear hK K; (first | show AWP _ _ _ _ _ | show ∃ _, _ | skip)
  (repeat refine awp_seq ?_); refine awp_drw3 [] [0, 1, 2, 3, 4, 5, 6, 7, 8, 9, 10] (by rw [hx]; kernel_rfl) (by kernel_rfl) (by kernel_rfl) (by kernel_rfl) fun K hK => ?_; simp (maxSteps := 1000000) [ty28, ty3]
  refine callPD (isDay62 w day) (by first | (simp; done) | (simp [*]; done)) (by simp) ?_; simp (maxSteps := 1000000) [ty28]
  refine callPD (hop) (by first | (simp; done) | (simp [*]; done)) (by simp) ?_; simp (maxSteps := 1000000) [ty89]
  refine hK _ ?_; clear hK K; (first | show AWP _ _ _ _ _ | show ∃ _, _ | skip)
  (repeat refine awp_seq ?_); refine awp_reg1 (by rw [hx]; kernel_rfl) fun K hK => ?_; simp (maxSteps := 1000000) [ty37]; refine hK _ ?_; clear hK K; (first | show AWP _ _ _ _ _ | show ∃ _, _ | skip)
  (repeat refine awp_seq ?_); refine awp_cond (by simp; rfl) (by rw [hx]; simp) (fun hd => ?_) (fun hd => ?_)
  ·simp at hd
  ·clear hd
   refine awp_skip ?_; (first | show AWP _ _ _ _ _ | show ∃ _, _ | skip)
   (repeat refine awp_seq ?_); refine awp_reg1 (by rw [hx]; kernel_rfl) fun K hK => ?_; simp (maxSteps := 1000000) [ty89, ty3, ty87]
   refine callP (on60 w (gl w) true true [] [] day) (by first | (simp; done) | (simp [*]; done)) ?_; simp (maxSteps := 1000000) [ty92]
   refine callP (hco) (by first | (simp; done) | (simp [*]; done)) ?_; simp (maxSteps := 1000000) [ty29]
   refine hK _ ?_; clear hK K; (first | show AWP _ _ _ _ _ | show ∃ _, _ | skip)
   (repeat refine awp_seq ?_); refine awp_ret ?_; refine And.intro (Or.inr rfl) ?_
   simp [retC, resC, viewC, mapO, hT, hz]
 ·have hop := open_no hn hz
  have hT : onW w day = [] := if_neg hz
  refine pure_of (fn := Tryz.f18) [.tmp 4, .tmp 5] ⟨Tryz.func18, rfl, by kernel_rfl⟩ (by kernel_rfl) (by kernel_rfl) (by kernel_rfl) fun x hx hσ => ?_
  (repeat refine awp_seq ?_); refine awp_reg1 (by rw [hx]; kernel_rfl) fun K hK => ?_; simp (maxSteps := 1000000) [ty28, ty37]; refine hK _ ?_; clear hK K; (first | show AWP _ _ _ _ _ | show ∃ _, _ | skip)
  (repeat refine awp_seq ?_); refine awp_drw3 [] [0, 1, 2, 3, 4, 5, 6, 7, 8, 9, 10] (by rw [hx]; kernel_rfl) (by kernel_rfl) (by kernel_rfl) (by kernel_rfl) fun K hK => ?_; simp (maxSteps := 1000000) [ty28, ty3]
  refine callPD (isDay62 w day) (by first | (simp; done) | (simp [*]; done)) (by simp) ?_; simp (maxSteps := 1000000) [ty28]
  refine callPD (hop) (by first | (simp; done) | (simp [*]; done)) (by simp) ?_; simp (maxSteps := 1000000) [ty89]
  refine hK _ ?_; clear hK K; (first | show AWP _ _ _ _ _ | show ∃ _, _ | skip)
  (repeat refine awp_seq ?_); refine awp_reg1 (by rw [hx]; kernel_rfl) fun K hK => ?_; simp (maxSteps := 1000000) [ty37]; refine hK _ ?_; clear hK K; (first | show AWP _ _ _ _ _ | show ∃ _, _ | skip)
  (repeat refine awp_seq ?_); refine awp_cond (by simp [hz]; rfl) (by rw [hx]; simp) (fun hd => ?_) (fun hd => ?_)
  ·clear hd
   (repeat refine awp_seq ?_); refine awp_reg1 (by rw [hx]; kernel_rfl) fun K hK => ?_; simp (maxSteps := 1000000) [ty37]; refine hK _ ?_; clear hK K; (first | show AWP _ _ _ _ _ | show ∃ _, _ | skip)
   (repeat refine awp_seq ?_); refine awp_ret ?_; refine And.intro (Or.inr rfl) ?_
   simp [retC, resC, viewC, mapO, hT]
  ·simp [hz] at hd

end Go.Proofs.YtknoachjpoibaaaGreat

/- 'for .. := range f' in a round of another one. No condition. -/
namespace Go.Abs
section
variable {P : Program}

/-- A RANGE OVER A FUNCTION, in a round of another one. -/
theorem awp_rangeIn {x : Ctx} {t : Nat} {ps : Array Tmp} {assign body : Code} {Q : Exit → AS → Prop} (L : Nat) (K : List Nat) (F : Nat → List (Nat × Nat × Slot)) (items : List (List C)) (stop : Nat) (jc : Code) (E0 El : List (Nat × C)) {gf : FuncId} {first caps : List C}
    {s : AS} (hw0 : Wk x s ⟨ofL E0, stoT (F 0)⟩) (hxk : ∀ k, x.σ k ≠ .free → k ∈ K) (hg : ofL E0 t = .fn (.func gf) first caps) (hgt : t < x.nt) (hpu : purel first = true ∧ purel caps = true) (hit : ItC P L gf first caps items) (hstop : stop ≤ items.length)
    (hK : ∀ k ∈ K, L < k) (nd : K.Nodup) (hF : ∀ i, (F i).map (·.1) = K ∧ (F i).map (·.2.1) = K) (hst : ∀ i, ∀ p ∈ F i, p.2.2 = .gh ∨ ∃ o, p.2.2 = .live o ∧ o.rows.all (wil K) = true ∧ o.rows.all (fun r => r.all C.cell) = true)
    (hE0 : ∀ p ∈ E0, p.2.wi K = true) (hE : ∀ p ∈ El, p.2.wi K = true ∧ ofL E0 p.1 = p.2) (hps : ∀ args ∈ items, purel args = true ∧ args.length = ps.size)
    (hround : ∀ i args, items[i]? = some args → i ≤ stop → ∀ (y y2 : Ctx), y.nt = x.nt → y2.nt = x.nt → (∀ k, y.σ k ≠ .free → k ∈ L :: K) → (∀ k, y2.σ k ≠ .free → k ∈ L :: K) →
      AWP P y assign ⟨putPs (ofL El) ps.toList args, stoT ((L, L, .gh) :: F i)⟩ (nextQ (fun s' => s'.sto L = .gh ∧ AWP P y2 body s' fun e s'' => (if i = stop then jumpOf e = some jc else e = .normal) ∧ Wk y2 s'' ⟨fun _ => .any, stoT ((L, L, .gh) :: F (i + 1))⟩) fun _ _ => False))
    (hdone : stop = items.length → ∀ s', Wk x s' ⟨ofL E0, stoT (F items.length)⟩ → Q .normal s')
    (hjump : stop < items.length → AWP P x jc ⟨ofL E0, stoT (F (stop + 1))⟩ Q) : AWP P x (.rangeFunc (.tmp t) ps assign body) s Q := by
  refine AWP.weak ?_ hw0
  have hfam : FamOk L K (fun i => stoT (F i)) := famOf K F hK nd (fun i => (hF i).1) fun i p hp => by
    rcases hst i p hp with h1 | ⟨o, h1, h2⟩
    · exact ⟨by rw [h1]; simp, fun o' e => by rw [h1] at e; cases e⟩
    · exact ⟨by rw [h1]; simp, fun o' e => by rw [h1] at e; cases e; exact h2⟩
  have hLK : L ∉ K := fun h => Nat.lt_irrefl _ (hK L h)
  have hfree : ∀ i k, k ∉ K → stoT (F i) k = .free := fun i k hk => hfam.out i k hk
  have hself : ∀ n, ∀ k ∈ K, mT (F n) k k := by
    intro n k hk
    have hk2 := hk
    rw [← (hF n).1] at hk2
    obtain ⟨p, hp, rfl⟩ := List.mem_map.1 hk2
    have e : (F n).map (·.1) = (F n).map (·.2.1) := (hF n).1.trans (hF n).2.symm
    have : p.1 = p.2.1 := (List.map_inj_left.1 e) p hp
    exact mem_mT.2 ⟨p.2.2, by rw [show (p.1, p.1, p.2.2) = p from Prod.ext rfl (Prod.ext this rfl)]; exact hp⟩
  -- what there is behind the loop
  have hend : ∀ n, Wk x ⟨ofL E0, ovS (L :: K) (stoT (F 0)) (stg L (fun i => stoT (F i)) stop n)⟩ ⟨ofL E0, stoT (F n)⟩ := by
    intro n
    have hsh : Shp x (ovS (L :: K) (stoT (F 0)) (stg L (fun i => stoT (F i)) stop n)) (F n) := by
      refine ⟨by rw [(hF n).1]; exact nd, by rw [(hF n).2]; exact nd, fun p hp => ?_, fun k hk _ => hself n k (hxk k hk)⟩
      have e : (F n).map (·.1) = (F n).map (·.2.1) := (hF n).1.trans (hF n).2.symm
      have h1 : p.1 = p.2.1 := (List.map_inj_left.1 e) p hp
      have hpK : p.1 ∈ K := by rw [← (hF n).1]; exact List.mem_map.2 ⟨p, hp, rfl⟩
      have hne : p.1 ≠ L := fun e => hLK (e ▸ hpK)
      have h2 : ovS (L :: K) (stoT (F 0)) (stg L (fun i => stoT (F i)) stop n) p.2.1 = p.2.2 := by
        rw [← h1, ovS_in (by simp [hpK])]
        simp only [stg, if_neg hne]
        exact stoT_mem (by rw [(hF n).1]; exact nd) hp
      rw [h2]
      rcases hst n p hp with h3 | ⟨o, h3, h4, h5⟩
      · rw [h3]; rfl
      · rw [h3]
        exact ⟨rfl, rfl, rfl, rows_self (hself n) _ h4 h5⟩
    exact wk_shpE hsh.gen fun t => mt_self (hself n) _ (ofL_wi hE0 t)
  refine awp_range L K (fun i => stoT (F i)) items stop jc (ofL El) hg (fun t' ht => by cases ht; exact hgt) hpu hit hstop hfam (hfree 0 L hLK) (fun k hk => rfl) (ofL_E hE) hps hxk ?_ (fun e => hdone e _ (hend _)) (fun e => AWP.weak (hjump e) (hend _))
  intro i args hit' hi l y y2 hy hy2
  rw [rfam_stoT]
  refine AWP.mono (hround i args hit' hi y y2 hy.nt hy2.nt (fun k hk => by have := hx_rfam hfam hy.σ k hk; simpa using this) (fun k hk => by have := hx_rfam hfam hy2.σ k hk; simpa using this)) ?_
  intro e s' he
  cases e with
  | normal =>
    refine ⟨he.1, AWP.mono he.2 ?_⟩
    intro e' s'' h
    unfold rndQ
    rw [rfam_stoT]
    exact h
  | _ => exact he

end
end Go.Abs

namespace Go.Proofs.YtknoachjpoibaaaGreat
open Go Go.Abs

set_option maxHeartbeats 4000000

@[simp] abbrev encP (p : Int × Int) : C := .agg [encI p.1, encI p.2]
def rowsP (v : Int × Int → Int) (ks : List (Int × Int)) : List (List C) := ks.map fun p => [encP p, encI (v p)]
@[simp] theorem rowsP_pure (v : Int × Int → Int) (ks : List (Int × Int)) : (rowsP v ks).all purel = true := by simp [rowsP, purel, C.isPure]
@[simp] theorem rowsP_wil (K : List Nat) (v : Int × Int → Int) (ks : List (Int × Int)) : (rowsP v ks).all (wil K) = true := by simp [rowsP, wil, C.wi]

set_option maxHeartbeats 4000000

/-- A class. -/
structure Cl where
  size : Int
  most : Int

@[simp] abbrev cCl (c : Cl) : List C := [encI c.size, encI c.most]
@[simp] abbrev encCl (c : Cl) : C := .agg (cCl c)
def classB (c : Cl) : Bool := areaB c.size && countB c.most

set_option maxHeartbeats 4000000

def andU (a b : Int) : Int := IntKind.u64.wrap (BitVec.ofInt IntKind.u64.bits a &&& BitVec.ofInt IntKind.u64.bits b).toNat
def addU (a b : Int) : Int := IntKind.u64.wrap (a + b)
def shrU (a : Int) (b : Nat) : Int := a.fdiv (2 ^ (min b IntKind.u64.bits))
def p1 (x : Int) : Int := addU (andU (shrU x 1) 6148914691236517205) (andU x 6148914691236517205)
def p2 (x : Int) : Int := addU (andU (shrU x 2) 3689348814741910323) (andU x 3689348814741910323)
def p3 (x : Int) : Int := andU (addU (shrU x 4) x) 1085102592571150095
def p4 (x : Int) (n : Nat) : Int := addU x (shrU x n)
set_option maxHeartbeats 4000000

@[simp] theorem take_mapLen {α : Type} (f : α → List C) (l : List α) : List.take l.length (l.map f) = l.map f := List.take_of_length_le (by simp)

/-- The tests of a set. -/
def listS (t : Ti) (s : Nat) : List Int := fixTo (fun i => s.testBit i) t.ts.length

theorem numsT_mem {f : Tr → Int} {t : Ti} {is : Bool} {z : Int} (h : z ∈ numsT f t is) : openT t is = 0 ∧ ∃ k ∈ truthsS t (allS t), f k = z := by
 unfold numsT at h
 split at h
 ·rename_i h0
  exact ⟨h0, (kindsL_mem _ _ _).1 h⟩
 ·simp at h

set_option maxHeartbeats 8000000

-- Drift

def driftS (s : Int × Int) (n : Int) : Int × Int := (if s.1 < 0 ∨ n < s.1 then n else s.1, if s.2 < n then n else s.2)
def driftIn (c : Co) (a b g : Int) (s : Int × Int) : Int × Int := (onC c b [(a, g)]).foldl (fun s later => driftS s (g - later)) s
def driftL (c : Co) (a b : Int) : Int × Int := (onC c a []).foldl (fun s g => driftIn c a b g s) (-1, 0)
def isAB (w : Ws) (a b : Int) : Bool := dayB w a && dayB w b && decide (a ≤ b)
def driftW (w : Ws) (a b : Int) : Int × Int := if openW w (isAB w a b) = 0 then driftL (co w (gl w)) a b else (0, 0)

theorem fold_step {α β : Type} (f : β → α → β) (s : β) {L : List α} {i : Nat} (hi : i < L.length) : (L.take (i + 1)).foldl f s = f ((L.take i).foldl f s) L[i] := by
 rw [List.take_succ_eq_append_getElem hi, List.foldl_append]; rfl

@[simp] abbrev obSp (s : Int × Int) : Ob := ⟨false, false, 2, [[encI s.1, encI s.2]]⟩
@[simp] abbrev Fo (w : Ws) (a b : Int) (s : Int × Int) : List (Nat × Nat × Slot) := [(2000004, 2000004, .live (obI a)), (2000005, 2000005, .live (obI b)), (2000006, 2000006, .live (obSp (0, 0))), (2000008, 2000008, .live (obCd w (gl w) true [])), (2000010, 2000010, .live (obSp s))]
@[simp] abbrev Fi (w : Ws) (a b g : Int) (s : Int × Int) : List (Nat × Nat × Slot) := (1000011, 1000011, .live (obI g)) :: (2000000, 2000000, .gh) :: Fo w a b s


theorem w_drift22 (w : Ws) (a b : Int) (hn : WsLen w) : Pure Tryz.prog 22 [encWs w, encI a, encI b] (.tup [encP (driftW w a b), encI (openW w (isAB w a b))]) := by
 by_cases hz : openW w (isAB w a b) = 0
 ·obtain ⟨hok, his, hcan⟩ := openW_ok hz
  have hop := open_yes hn hz
  have hnum := hok.num
  have hg := hnum.gain
  have hV : driftW w a b = driftL (co w (gl w)) a b := if_pos hz
  rw [hV, hz]
  have hit1 := on98b w (gl w) true true [] [] a hnum (by simp)
  have hit2 := fun g => on98 w (gl w) false true [(a, g)] [] b hnum (by simp)
  simp only [rowsK_nil] at hit1
  have hob : ∀ g, rowsK [(a, g)] = [[encI a, encI g]] := fun g => rfl
  simp only [hob] at hit2
  have hon2 := fun g => on60 w (gl w) false true [(a, g)] [] b
  simp only [hob] at hon2
  have hm1 : ∀ z ∈ onC (co w (gl w)) a [], -50 ≤ z ∧ z ≤ 50 := fun z hz' => by
   have h1 := onC_bd hz'
   simp only at h1
   omega
  have hm2 : ∀ g, ∀ z ∈ onC (co w (gl w)) b [(a, g)], -50 ≤ z ∧ z ≤ 50 := fun g z hz' => by
   have h1 := onC_bd hz'
   simp only at h1
   omega
  have hD : driftL (co w (gl w)) a b = (onC (co w (gl w)) a []).foldl (fun s g => driftIn (co w (gl w)) a b g s) (-1, 0) := rfl
  have hDi : ∀ g s, driftIn (co w (gl w)) a b g s = (onC (co w (gl w)) b [(a, g)]).foldl (fun s later => driftS s (g - later)) s := fun g s => rfl
  rw [hD]
  simp only [hDi]
  generalize onC (co w (gl w)) a [] = L at *
  obtain ⟨L2, hL2⟩ : ∃ L2 : Int → List Int, ∀ g, onC (co w (gl w)) b [(a, g)] = L2 g := ⟨_, fun _ => rfl⟩
  simp only [hL2] at hit2 hm2 ⊢
  clear hL2 hDi hD hV
  obtain ⟨S, hS⟩ : ∃ S : Nat → Int × Int, ∀ i, (L.take i).foldl (fun s g => (L2 g).foldl (fun s later => driftS s (g - later)) s) (-1, 0) = S i := ⟨_, fun _ => rfl⟩
  have hS0 : S 0 = (-1, 0) := by rw [← hS]; rfl
  have hSs : ∀ i (hi : i < L.length), S (i + 1) = (L2 L[i]).foldl (fun s later => driftS s (L[i] - later)) (S i) := fun i hi => by
   rw [← hS, ← hS, fold_step _ _ hi]
  have hSN : L.foldl (fun s g => (L2 g).foldl (fun s later => driftS s (g - later)) s) (-1, 0) = S L.length := by rw [← hS, List.take_length]
  rw [hSN]
  clear hS hSN
  unfold isAB at his
  simp only [Bool.and_eq_true, decide_eq_true_eq] at his
  obtain ⟨⟨h1, h2⟩, h3⟩ := his
  have hab : isAB w a b = true := by unfold isAB; rw [h1, h2, decide_eq_true h3]; rfl
  rw [hab] at hop
  refine pure_of (fn := Tryz.f22) [.cell 6 23, .tmp 7] ⟨Tryz.func22, rfl, by kernel_rfl⟩ (by kernel_rfl) (by kernel_rfl) (by kernel_rfl) fun x hx hσ => ?_
  (repeat refine awp_seq ?_); refine awp_reg1 (by rw [hx]; kernel_rfl) fun K hK => ?_; simp (maxSteps := 1000000) [ty28, ty37, ty3, ty23]; refine hK _ ?_; clear hK K; (first | show AWP _ _ _ _ _ | show ∃ _, _ | skip)
  (repeat refine awp_seq ?_); refine awp_drw3 [] [0, 1, 2, 3, 4, 5, 6, 7, 8, 9, 10, 11, 12, 13, 14, 15, 16, 17, 18, 19, 20] (by rw [hx]; kernel_rfl) (by kernel_rfl) (by kernel_rfl) (by kernel_rfl) fun K hK => ?_; simp (maxSteps := 1000000) [ty28, ty3, ty4]
  refine callPD (isDay62 w a) (by first | (simp; done) | (simp [*]; done)) (by simp) ?_; simp (maxSteps := 1000000) [ty28, ty3, ty4, h1]
  refine callPD (isDay62 w b) (by first | (simp; done) | (simp [*]; done)) (by simp) ?_; simp (maxSteps := 1000000) [ty28, ty3, ty4, h2, h3]
  refine callPD (hop) (by first | (simp; done) | (simp [*]; done)) (by simp) ?_; simp (maxSteps := 1000000) [ty89]
  refine hK _ ?_; clear hK K; (first | show AWP _ _ _ _ _ | show ∃ _, _ | skip)
  (repeat refine awp_seq ?_); refine awp_reg1 (by rw [hx]; kernel_rfl) fun K hK => ?_; simp (maxSteps := 1000000) [ty37]; refine hK _ ?_; clear hK K; (first | show AWP _ _ _ _ _ | show ∃ _, _ | skip)
  (repeat refine awp_seq ?_); refine awp_cond (by simp; rfl) (by rw [hx]; simp) (fun hd => ?_) (fun hd => ?_)
  ·simp at hd
  ·clear hd
   refine awp_skip ?_; (first | show AWP _ _ _ _ _ | show ∃ _, _ | skip)
   (repeat refine awp_seq ?_); refine awp_reg1 (by rw [hx]; kernel_rfl) fun K hK => ?_; simp (maxSteps := 1000000) [ty23, ty3]; refine hK _ ?_; clear hK K; (first | show AWP _ _ _ _ _ | show ∃ _, _ | skip)
   (repeat refine awp_seq ?_); refine awp_reg1 (by rw [hx]; kernel_rfl) fun K hK => ?_; simp (maxSteps := 1000000) [ty89, ty3, ty87]
   refine callP (on60 w (gl w) true true [] [] a) (by first | (simp; done) | (simp [*]; done)) ?_; simp (maxSteps := 1000000) [ty92]
   refine hK _ ?_; clear hK K; (first | show AWP _ _ _ _ _ | show ∃ _, _ | skip)
   (repeat refine awp_seq ?_); refine awp_block ?_
   refine awp_range0 2000000 [2000004, 2000005, 2000006, 2000008, 2000010] (fun i => Fo w a b (S i)) (itI L) L.length .ret
    [(4, .ptr 2000004 1 0 0), (5, .ptr 2000005 1 0 0), (6, .ptr 2000006 2 0 0), (8, .ptr 2000008 15 0 0), (10, .ptr 2000010 2 0 0), (39, .fn (.func 98) [] [.ip (cCd w (gl w) true []) 0, .ip [encI a] 0, .ip [.md true []] 0])] [(4, .ptr 2000004 1 0 0), (5, .ptr 2000005 1 0 0), (8, .ptr 2000008 15 0 0), (10, .ptr 2000010 2 0 0)]
    (first := []) (caps := [.ip (cCd w (gl w) true []) 0, .ip [encI a] 0, .ip [.md true []] 0]) ?_ hσ (by simp) (by rw [hx]; decide) ⟨rfl, by simp [purel, C.isPure]⟩ hit1 (by simp) (by simp) (by simp) (fun i => by simp) (fun i => by simp [wil, C.wi]) (by simp [C.wi, wil]) (by simp [C.wi, wil]) ?_ ?_ ?_ ?_
   ·rw [hS0]
    refine wk_shape2 [(2000004, 4, .live (obI a)), (2000005, 5, .live (obI b)), (2000006, 6, .live (obSp (0, 0))), (2000008, 8, .live (obCd w (gl w) true [])), (2000010, 10, .live (obSp (-1, 0)))] (by first | rfl | (simp only [if_pos, if_true]; rfl)) (shp0 hσ (by simp) (by simp) ?_) ?_
    ·simp [SlotOk] <;> (repeat' (first | (refine RowsOk.same ?_; simp [purel, C.isPure]; done) | (refine rowsCons ?_; simp [mtl, mtc, mT, mH, C.isPure, purel]; done) | (refine rowsCons ?_; simp [mtl, mtc, mT, mH, C.isPure, purel]) | refine And.intro ?_ ?_))
    ·simp [mtc, mtl, mT, C.isPure, purel] <;> (try simp (disch := omega) [wrap_id]) <;> (try omega)
   ·intro args ha
    obtain ⟨y, hy, rfl⟩ := List.mem_map.1 ha
    simp [purel, C.isPure]
   ·intro i args hit hi y y2 hy1 hy2 hyσ hy
    obtain ⟨g, ht, rfl⟩ := itI_get hit
    have hi' := (List.getElem?_eq_some_iff.1 ht).1
    have hti : L[i] = g := (List.getElem?_eq_some_iff.1 ht).2
    have hgb := hm1 g (List.mem_of_getElem? ht)
    have hsi := hSs i hi'
    rw [hti] at hsi
    have hlb := hm2 g
    have hitg := hit2 g
    have hong := hon2 g
    generalize L2 g = U at *
    obtain ⟨R, hR⟩ : ∃ R : Nat → Int × Int, ∀ m, (U.take m).foldl (fun s later => driftS s (g - later)) (S i) = R m := ⟨_, fun _ => rfl⟩
    have hR0 : R 0 = S i := by rw [← hR]; rfl
    have hRs : ∀ m (hm : m < U.length), R (m + 1) = driftS (R m) (g - U[m]) := fun m hm => by rw [← hR, ← hR, fold_step _ _ hm]
    have hRN : U.foldl (fun s later => driftS s (g - later)) (S i) = R U.length := by rw [← hR, List.take_length]
    rw [hRN] at hsi
    rw [hsi, ← hR0]
    clear hR hRN
    have hx0 := hx
    have hx := hy1.trans hx0
    (repeat refine awp_seq ?_); refine awp_reg1 (by rw [hx]; kernel_rfl) fun K hK => ?_; simp (maxSteps := 1000000) [ty3, putPs]; refine hK _ ?_; clear hK K; (first | show AWP _ _ _ _ _ | show ∃ _, _ | skip)
    refine ⟨by simp, ?_⟩
    have hx := hy2.trans hx0
    (repeat refine awp_seq ?_); refine awp_block ?_
    (repeat refine awp_seq ?_); refine awp_reg1 (by rw [hx]; kernel_rfl) fun K hK => ?_; simp (maxSteps := 1000000) [ty89, ty87, ty3, keyQ, findC]
    refine doesL (does_frz 43 (o := ⟨false, false, 0, [[encI a, encI g]]⟩) (args' := [encCd w (gl w) true [], encI b, .md false [[encI a, encI g]]]) (by simp) (by simp [purel, C.isPure]) (.cons (.inl rfl) (.cons (.inl rfl) (.cons (fz_mp rfl rfl) .nil))) (by simp [purel, C.isPure]) hong (by simp [C.isPure, purel])) ?_
    simp [ty92]
    refine hK _ ?_; clear hK K; (first | show AWP _ _ _ _ _ | show ∃ _, _ | skip)
    (repeat refine awp_seq ?_); refine awp_block ?_
    refine awp_rangeIn 1000000 [1000011, 2000000, 2000004, 2000005, 2000006, 2000008, 2000010] (fun m => Fi w a b g (R m)) (itI U) U.length .ret
     [(10, .ptr 2000010 2 0 0), (11, .ptr 1000011 1 0 0), (47, .fn (.func 98) [] [.ip (cCd w (gl w) true []) 0, .ip [encI b] 0, .ip [.md false [[encI a, encI g]]] 0])] [(10, .ptr 2000010 2 0 0), (11, .ptr 1000011 1 0 0)]
     (first := []) (caps := [.ip (cCd w (gl w) true []) 0, .ip [encI b] 0, .ip [.md false [[encI a, encI g]]] 0]) ?_ (fun k hk => List.mem_cons_of_mem _ (hy k hk)) (by simp) (by rw [hx]; decide) ⟨rfl, by simp [purel, C.isPure]⟩ hitg (by simp) (by simp) (by simp) (fun i => by simp) (fun i => by simp [wil, C.wi]) (by simp [C.wi, wil]) (by simp [C.wi, wil]) ?_ ?_ ?_ ?_
    ·refine wk_round [(1000011, 11, .live (obI g)), (2000000, 2000000, .gh), (2000004, 2000004, .live (obI a)), (2000005, 2000005, .live (obI b)), (2000006, 2000006, .live (obSp (0, 0))), (2000008, 2000008, .live (obCd w (gl w) true [])), (2000010, 2000010, .live (obSp (R 0)))] rfl hy (by simp [mT]) (by simp) (by simp) ?_ ?_
     ·simp [SlotOk] <;> (repeat' (first | (refine RowsOk.same ?_; simp [purel, C.isPure]; done) | refine And.intro ?_ ?_))
     ·simp [mtc, mtl, mT, C.isPure, purel]
    ·intro args ha
     obtain ⟨y, hy, rfl⟩ := List.mem_map.1 ha
     simp [purel, C.isPure]
    ·intro m args hit hm y3 y4 hz1 hz2 hzσ hz
     have hy := hz
     obtain ⟨l, ht, rfl⟩ := itI_get hit
     have hm' := (List.getElem?_eq_some_iff.1 ht).1
     have htm : U[m] = l := (List.getElem?_eq_some_iff.1 ht).2
     have hlbb := hlb l (List.mem_of_getElem? ht)
     have hrs := hRs m hm'
     rw [htm] at hrs
     have hw1 : IntKind.i64.wrap (g - l) = g - l := wrap_id (by omega) (by omega)
     rw [hrs]
     generalize R m = r at *
     obtain ⟨lo, hi2⟩ := r
     have hx1 := hx
     have hx := hz1.trans hx1
     (repeat refine awp_seq ?_); refine awp_reg1 (by rw [hx]; kernel_rfl) fun K hK => ?_; simp (maxSteps := 1000000) [ty3, putPs]; refine hK _ ?_; clear hK K; (first | show AWP _ _ _ _ _ | show ∃ _, _ | skip)
     refine ⟨by simp, ?_⟩
     have hx := hz2.trans hx1
     (repeat refine awp_seq ?_); refine awp_block ?_
     (repeat refine awp_seq ?_); refine awp_reg1 (by rw [hx]; kernel_rfl) fun K hK => ?_; simp (maxSteps := 1000000) [ty3, hw1]; refine hK _ ?_; clear hK K; (first | show AWP _ _ _ _ _ | show ∃ _, _ | skip)
     have hne : m ≠ U.length := by omega
     have hmax : (if hi2 < g - l then C.int IntKind.i64 (g - l) else C.int IntKind.i64 hi2) = C.int IntKind.i64 (if hi2 < g - l then g - l else hi2) := by split <;> rfl
     by_cases q1 : lo < 0
     ·have hds : driftS (lo, hi2) (g - l) = (g - l, if hi2 < g - l then g - l else hi2) := by unfold driftS; simp only [q1, true_or, if_true]
      rw [hds]
      (repeat refine awp_seq ?_); refine awp_reg1 (by rw [hx]; kernel_rfl) fun K hK => ?_; simp (maxSteps := 1000000) [ty23, ty3, q1]; refine hK _ ?_; clear hK K; (first | show AWP _ _ _ _ _ | show ∃ _, _ | skip)
      (repeat refine awp_seq ?_); refine awp_cond (by simp; rfl) (by rw [hx]; simp) (fun hd => ?_) (fun hd => ?_)
      ·clear hd
       (repeat refine awp_seq ?_); refine awp_reg1 (by rw [hx]; kernel_rfl) fun K hK => ?_; simp (maxSteps := 1000000) [ty23, ty3]; refine hK _ ?_; clear hK K; (first | show AWP _ _ _ _ _ | show ∃ _, _ | skip)
       by_cases q3 : hi2 < g - l
       ·(repeat refine awp_seq ?_); refine awp_reg1 (by rw [hx]; kernel_rfl) fun K hK => ?_; simp (maxSteps := 1000000) [ty23, ty3, q3]; refine hK _ ?_; clear hK K; (first | show AWP _ _ _ _ _ | show ∃ _, _ | skip)
        refine ⟨by rw [if_neg hne], ?_⟩
        rw [if_pos q3]
        refine wk_round (E := []) ((1000000, 1000000, .gh) :: Fi w a b g (g - l, g - l)) (by first | rfl | (simp <;> rfl)) hy (by simp [mT]) (by simp) (by simp) ?_ (by simp)
        ·simp [SlotOk] <;> (repeat' (first | (refine RowsOk.same ?_; simp [purel, C.isPure]; done) | (refine rowsCons ?_; simp [mtl, mtc, mT, mH, C.isPure, purel]; done) | (refine rowsCons ?_; simp [mtl, mtc, mT, mH, C.isPure, purel]) | refine And.intro ?_ ?_)) <;> (try simp (disch := omega) [wrap_id]) <;> (try omega)
       ·(repeat refine awp_seq ?_); refine awp_reg1 (by rw [hx]; kernel_rfl) fun K hK => ?_; simp (maxSteps := 1000000) [ty23, ty3, q3]; refine hK _ ?_; clear hK K; (first | show AWP _ _ _ _ _ | show ∃ _, _ | skip)
        refine ⟨by rw [if_neg hne], ?_⟩
        rw [if_neg q3]
        refine wk_round (E := []) ((1000000, 1000000, .gh) :: Fi w a b g (g - l, hi2)) (by first | rfl | (simp <;> rfl)) hy (by simp [mT]) (by simp) (by simp) ?_ (by simp)
        ·simp [SlotOk] <;> (repeat' (first | (refine RowsOk.same ?_; simp [purel, C.isPure]; done) | (refine rowsCons ?_; simp [mtl, mtc, mT, mH, C.isPure, purel]; done) | (refine rowsCons ?_; simp [mtl, mtc, mT, mH, C.isPure, purel]) | refine And.intro ?_ ?_)) <;> (try simp (disch := omega) [wrap_id]) <;> (try omega)
      ·simp at hd
     ·by_cases q2 : g - l < lo
      ·have hds : driftS (lo, hi2) (g - l) = (g - l, if hi2 < g - l then g - l else hi2) := by unfold driftS; simp only [q2, or_true, if_true]
       rw [hds]
       (repeat refine awp_seq ?_); refine awp_reg1 (by rw [hx]; kernel_rfl) fun K hK => ?_; simp (maxSteps := 1000000) [ty23, ty3, q1, q2]; refine hK _ ?_; clear hK K; (first | show AWP _ _ _ _ _ | show ∃ _, _ | skip)
       (repeat refine awp_seq ?_); refine awp_cond (by simp [q2]; rfl) (by rw [hx]; simp) (fun hd => ?_) (fun hd => ?_)
       ·clear hd
        (repeat refine awp_seq ?_); refine awp_reg1 (by rw [hx]; kernel_rfl) fun K hK => ?_; simp (maxSteps := 1000000) [ty23, ty3]; refine hK _ ?_; clear hK K; (first | show AWP _ _ _ _ _ | show ∃ _, _ | skip)
        by_cases q3 : hi2 < g - l
        ·(repeat refine awp_seq ?_); refine awp_reg1 (by rw [hx]; kernel_rfl) fun K hK => ?_; simp (maxSteps := 1000000) [ty23, ty3, q3]; refine hK _ ?_; clear hK K; (first | show AWP _ _ _ _ _ | show ∃ _, _ | skip)
         refine ⟨by rw [if_neg hne], ?_⟩
         rw [if_pos q3]
         refine wk_round (E := []) ((1000000, 1000000, .gh) :: Fi w a b g (g - l, g - l)) (by first | rfl | (simp <;> rfl)) hy (by simp [mT]) (by simp) (by simp) ?_ (by simp)
         ·simp [SlotOk] <;> (repeat' (first | (refine RowsOk.same ?_; simp [purel, C.isPure]; done) | (refine rowsCons ?_; simp [mtl, mtc, mT, mH, C.isPure, purel]; done) | (refine rowsCons ?_; simp [mtl, mtc, mT, mH, C.isPure, purel]) | refine And.intro ?_ ?_)) <;> (try simp (disch := omega) [wrap_id]) <;> (try omega)
        ·(repeat refine awp_seq ?_); refine awp_reg1 (by rw [hx]; kernel_rfl) fun K hK => ?_; simp (maxSteps := 1000000) [ty23, ty3, q3]; refine hK _ ?_; clear hK K; (first | show AWP _ _ _ _ _ | show ∃ _, _ | skip)
         refine ⟨by rw [if_neg hne], ?_⟩
         rw [if_neg q3]
         refine wk_round (E := []) ((1000000, 1000000, .gh) :: Fi w a b g (g - l, hi2)) (by first | rfl | (simp <;> rfl)) hy (by simp [mT]) (by simp) (by simp) ?_ (by simp)
         ·simp [SlotOk] <;> (repeat' (first | (refine RowsOk.same ?_; simp [purel, C.isPure]; done) | (refine rowsCons ?_; simp [mtl, mtc, mT, mH, C.isPure, purel]; done) | (refine rowsCons ?_; simp [mtl, mtc, mT, mH, C.isPure, purel]) | refine And.intro ?_ ?_)) <;> (try simp (disch := omega) [wrap_id]) <;> (try omega)
       ·simp [q2] at hd
      ·have hds : driftS (lo, hi2) (g - l) = (lo, if hi2 < g - l then g - l else hi2) := by unfold driftS; rw [if_neg (by rintro (h | h) <;> contradiction)]
       rw [hds]
       (repeat refine awp_seq ?_); refine awp_reg1 (by rw [hx]; kernel_rfl) fun K hK => ?_; simp (maxSteps := 1000000) [ty23, ty3, q1, q2]; refine hK _ ?_; clear hK K; (first | show AWP _ _ _ _ _ | show ∃ _, _ | skip)
       (repeat refine awp_seq ?_); refine awp_cond (by simp [q2]; rfl) (by rw [hx]; simp) (fun hd => ?_) (fun hd => ?_)
       ·simp [q2] at hd
       ·clear hd
        refine awp_skip ?_; (first | show AWP _ _ _ _ _ | show ∃ _, _ | skip)
        by_cases q3 : hi2 < g - l
        ·(repeat refine awp_seq ?_); refine awp_reg1 (by rw [hx]; kernel_rfl) fun K hK => ?_; simp (maxSteps := 1000000) [ty23, ty3, q3]; refine hK _ ?_; clear hK K; (first | show AWP _ _ _ _ _ | show ∃ _, _ | skip)
         refine ⟨by rw [if_neg hne], ?_⟩
         rw [if_pos q3]
         refine wk_round (E := []) ((1000000, 1000000, .gh) :: Fi w a b g (lo, g - l)) (by first | rfl | (simp <;> rfl)) hy (by simp [mT]) (by simp) (by simp) ?_ (by simp)
         ·simp [SlotOk] <;> (repeat' (first | (refine RowsOk.same ?_; simp [purel, C.isPure]; done) | (refine rowsCons ?_; simp [mtl, mtc, mT, mH, C.isPure, purel]; done) | (refine rowsCons ?_; simp [mtl, mtc, mT, mH, C.isPure, purel]) | refine And.intro ?_ ?_)) <;> (try simp (disch := omega) [wrap_id]) <;> (try omega)
        ·(repeat refine awp_seq ?_); refine awp_reg1 (by rw [hx]; kernel_rfl) fun K hK => ?_; simp (maxSteps := 1000000) [ty23, ty3, q3]; refine hK _ ?_; clear hK K; (first | show AWP _ _ _ _ _ | show ∃ _, _ | skip)
         refine ⟨by rw [if_neg hne], ?_⟩
         rw [if_neg q3]
         refine wk_round (E := []) ((1000000, 1000000, .gh) :: Fi w a b g (lo, hi2)) (by first | rfl | (simp <;> rfl)) hy (by simp [mT]) (by simp) (by simp) ?_ (by simp)
         ·simp [SlotOk] <;> (repeat' (first | (refine RowsOk.same ?_; simp [purel, C.isPure]; done) | (refine rowsCons ?_; simp [mtl, mtc, mT, mH, C.isPure, purel]; done) | (refine rowsCons ?_; simp [mtl, mtc, mT, mH, C.isPure, purel]) | refine And.intro ?_ ?_)) <;> (try simp (disch := omega) [wrap_id]) <;> (try omega)
    ·intro he s' hs'
     have hrl : (itI U).length = U.length := he.symm
     rw [hrl] at hs'
     refine ⟨by rw [if_neg (by omega)], ?_⟩
     refine hs'.trans ?_
     refine wk_round (E := []) ((2000000, 2000000, .gh) :: Fo w a b (R U.length)) (by first | rfl | (simp <;> rfl)) hy (by simp [mT]) (by simp) (by simp) ?_ (by simp)
     ·simp [SlotOk] <;> (repeat' (first | (refine RowsOk.same ?_; simp [purel, C.isPure]; done) | (refine rowsCons ?_; simp [mtl, mtc, mT, mH, C.isPure, purel]; done) | (refine rowsCons ?_; simp [mtl, mtc, mT, mH, C.isPure, purel]) | refine And.intro ?_ ?_)) <;> (try simp (disch := omega) [wrap_id]) <;> (try omega)
    ·intro hlt
     simp at hlt
   ·intro he s' hs'
    refine AWP.weak ?_ hs'
    have hrl : (itI L).length = L.length := he.symm
    rw [hrl]
    (repeat refine awp_seq ?_); refine awp_reg1 (by rw [hx]; kernel_rfl) fun K hK => ?_; simp (maxSteps := 1000000) [ty23]; refine hK _ ?_; clear hK K; (first | show AWP _ _ _ _ _ | show ∃ _, _ | skip)
    (repeat refine awp_seq ?_); refine awp_ret ?_; refine And.intro (Or.inr rfl) ?_
    simp [retC, resC, viewC, mapO, ty23]
   ·intro hlt
    simp at hlt
 ·have hop := open_no hn hz
  have hV : driftW w a b = (0, 0) := if_neg hz
  rw [hV]
  cases h1 : dayB w a
  ·have hab : isAB w a b = false := by unfold isAB; rw [h1]; rfl
   rw [hab] at hop hz ⊢
   refine pure_of (fn := Tryz.f22) [.cell 6 23, .tmp 7] ⟨Tryz.func22, rfl, by kernel_rfl⟩ (by kernel_rfl) (by kernel_rfl) (by kernel_rfl) fun x hx hσ => ?_
   (repeat refine awp_seq ?_); refine awp_reg1 (by rw [hx]; kernel_rfl) fun K hK => ?_; simp (maxSteps := 1000000) [ty28, ty37, ty3, ty23]; refine hK _ ?_; clear hK K; (first | show AWP _ _ _ _ _ | show ∃ _, _ | skip)
   (repeat refine awp_seq ?_); refine awp_drw3 [] [0, 1, 2, 3, 4, 5, 6, 7, 8, 9, 10, 11, 12, 13, 14, 15, 16, 17, 18, 19, 20] (by rw [hx]; kernel_rfl) (by kernel_rfl) (by kernel_rfl) (by kernel_rfl) fun K hK => ?_; simp (maxSteps := 1000000) [ty28, ty3, ty4]
   refine callPD (isDay62 w a) (by first | (simp; done) | (simp [*]; done)) (by simp) ?_; simp (maxSteps := 1000000) [ty28, ty3, ty4, h1]
   refine callPD (hop) (by first | (simp; done) | (simp [*]; done)) (by simp) ?_; simp (maxSteps := 1000000) [ty89]
   refine hK _ ?_; clear hK K; (first | show AWP _ _ _ _ _ | show ∃ _, _ | skip)
   (repeat refine awp_seq ?_); refine awp_reg1 (by rw [hx]; kernel_rfl) fun K hK => ?_; simp (maxSteps := 1000000) [ty37]; refine hK _ ?_; clear hK K; (first | show AWP _ _ _ _ _ | show ∃ _, _ | skip)
   (repeat refine awp_seq ?_); refine awp_cond (by simp [hz]; rfl) (by rw [hx]; simp) (fun hd => ?_) (fun hd => ?_)
   ·clear hd
    (repeat refine awp_seq ?_); refine awp_reg1 (by rw [hx]; kernel_rfl) fun K hK => ?_; simp (maxSteps := 1000000) [ty37, ty23]; refine hK _ ?_; clear hK K; (first | show AWP _ _ _ _ _ | show ∃ _, _ | skip)
    (repeat refine awp_seq ?_); refine awp_ret ?_; refine And.intro (Or.inr rfl) ?_
    simp [retC, resC, viewC, mapO, hz, ty23]
   ·simp [hz] at hd
  ·cases h2 : dayB w b
   ·have hab : isAB w a b = false := by unfold isAB; rw [h1, h2]; rfl
    rw [hab] at hop hz ⊢
    refine pure_of (fn := Tryz.f22) [.cell 6 23, .tmp 7] ⟨Tryz.func22, rfl, by kernel_rfl⟩ (by kernel_rfl) (by kernel_rfl) (by kernel_rfl) fun x hx hσ => ?_
    (repeat refine awp_seq ?_); refine awp_reg1 (by rw [hx]; kernel_rfl) fun K hK => ?_; simp (maxSteps := 1000000) [ty28, ty37, ty3, ty23]; refine hK _ ?_; clear hK K; (first | show AWP _ _ _ _ _ | show ∃ _, _ | skip)
    (repeat refine awp_seq ?_); refine awp_drw3 [] [0, 1, 2, 3, 4, 5, 6, 7, 8, 9, 10, 11, 12, 13, 14, 15, 16, 17, 18, 19, 20] (by rw [hx]; kernel_rfl) (by kernel_rfl) (by kernel_rfl) (by kernel_rfl) fun K hK => ?_; simp (maxSteps := 1000000) [ty28, ty3, ty4]
    refine callPD (isDay62 w a) (by first | (simp; done) | (simp [*]; done)) (by simp) ?_; simp (maxSteps := 1000000) [ty28, ty3, ty4, h1]
    refine callPD (isDay62 w b) (by first | (simp; done) | (simp [*]; done)) (by simp) ?_; simp (maxSteps := 1000000) [ty28, ty3, ty4, h2]
    refine callPD (hop) (by first | (simp; done) | (simp [*]; done)) (by simp) ?_; simp (maxSteps := 1000000) [ty89]
    refine hK _ ?_; clear hK K; (first | show AWP _ _ _ _ _ | show ∃ _, _ | skip)
    (repeat refine awp_seq ?_); refine awp_reg1 (by rw [hx]; kernel_rfl) fun K hK => ?_; simp (maxSteps := 1000000) [ty37]; refine hK _ ?_; clear hK K; (first | show AWP _ _ _ _ _ | show ∃ _, _ | skip)
    (repeat refine awp_seq ?_); refine awp_cond (by simp [hz]; rfl) (by rw [hx]; simp) (fun hd => ?_) (fun hd => ?_)
    ·clear hd
     (repeat refine awp_seq ?_); refine awp_reg1 (by rw [hx]; kernel_rfl) fun K hK => ?_; simp (maxSteps := 1000000) [ty37, ty23]; refine hK _ ?_; clear hK K; (first | show AWP _ _ _ _ _ | show ∃ _, _ | skip)
     (repeat refine awp_seq ?_); refine awp_ret ?_; refine And.intro (Or.inr rfl) ?_
     simp [retC, resC, viewC, mapO, hz, ty23]
    ·simp [hz] at hd
   ·by_cases h3 : a ≤ b
    ·have hab : isAB w a b = true := by unfold isAB; rw [h1, h2, decide_eq_true h3]; rfl
     rw [hab] at hop hz ⊢
     refine pure_of (fn := Tryz.f22) [.cell 6 23, .tmp 7] ⟨Tryz.func22, rfl, by kernel_rfl⟩ (by kernel_rfl) (by kernel_rfl) (by kernel_rfl) fun x hx hσ => ?_
     (repeat refine awp_seq ?_); refine awp_reg1 (by rw [hx]; kernel_rfl) fun K hK => ?_; simp (maxSteps := 1000000) [ty28, ty37, ty3, ty23]; refine hK _ ?_; clear hK K; (first | show AWP _ _ _ _ _ | show ∃ _, _ | skip)
     (repeat refine awp_seq ?_); refine awp_drw3 [] [0, 1, 2, 3, 4, 5, 6, 7, 8, 9, 10, 11, 12, 13, 14, 15, 16, 17, 18, 19, 20] (by rw [hx]; kernel_rfl) (by kernel_rfl) (by kernel_rfl) (by kernel_rfl) fun K hK => ?_; simp (maxSteps := 1000000) [ty28, ty3, ty4]
     refine callPD (isDay62 w a) (by first | (simp; done) | (simp [*]; done)) (by simp) ?_; simp (maxSteps := 1000000) [ty28, ty3, ty4, h1]
     refine callPD (isDay62 w b) (by first | (simp; done) | (simp [*]; done)) (by simp) ?_; simp (maxSteps := 1000000) [ty28, ty3, ty4, h2, h3]
     refine callPD (hop) (by first | (simp; done) | (simp [*]; done)) (by simp) ?_; simp (maxSteps := 1000000) [ty89]
     refine hK _ ?_; clear hK K; (first | show AWP _ _ _ _ _ | show ∃ _, _ | skip)
     (repeat refine awp_seq ?_); refine awp_reg1 (by rw [hx]; kernel_rfl) fun K hK => ?_; simp (maxSteps := 1000000) [ty37]; refine hK _ ?_; clear hK K; (first | show AWP _ _ _ _ _ | show ∃ _, _ | skip)
     (repeat refine awp_seq ?_); refine awp_cond (by simp [hz]; rfl) (by rw [hx]; simp) (fun hd => ?_) (fun hd => ?_)
     ·clear hd
      (repeat refine awp_seq ?_); refine awp_reg1 (by rw [hx]; kernel_rfl) fun K hK => ?_; simp (maxSteps := 1000000) [ty37, ty23]; refine hK _ ?_; clear hK K; (first | show AWP _ _ _ _ _ | show ∃ _, _ | skip)
      (repeat refine awp_seq ?_); refine awp_ret ?_; refine And.intro (Or.inr rfl) ?_
      simp [retC, resC, viewC, mapO, hz, ty23]
     ·simp [hz] at hd
    ·have hab : isAB w a b = false := by unfold isAB; rw [h1, h2, decide_eq_false h3]; rfl
     rw [hab] at hop hz ⊢
     refine pure_of (fn := Tryz.f22) [.cell 6 23, .tmp 7] ⟨Tryz.func22, rfl, by kernel_rfl⟩ (by kernel_rfl) (by kernel_rfl) (by kernel_rfl) fun x hx hσ => ?_
     (repeat refine awp_seq ?_); refine awp_reg1 (by rw [hx]; kernel_rfl) fun K hK => ?_; simp (maxSteps := 1000000) [ty28, ty37, ty3, ty23]; refine hK _ ?_; clear hK K; (first | show AWP _ _ _ _ _ | show ∃ _, _ | skip)
     (repeat refine awp_seq ?_); refine awp_drw3 [] [0, 1, 2, 3, 4, 5, 6, 7, 8, 9, 10, 11, 12, 13, 14, 15, 16, 17, 18, 19, 20] (by rw [hx]; kernel_rfl) (by kernel_rfl) (by kernel_rfl) (by kernel_rfl) fun K hK => ?_; simp (maxSteps := 1000000) [ty28, ty3, ty4]
     refine callPD (isDay62 w a) (by first | (simp; done) | (simp [*]; done)) (by simp) ?_; simp (maxSteps := 1000000) [ty28, ty3, ty4, h1]
     refine callPD (isDay62 w b) (by first | (simp; done) | (simp [*]; done)) (by simp) ?_; simp (maxSteps := 1000000) [ty28, ty3, ty4, h2, h3]
     refine callPD (hop) (by first | (simp; done) | (simp [*]; done)) (by simp) ?_; simp (maxSteps := 1000000) [ty89]
     refine hK _ ?_; clear hK K; (first | show AWP _ _ _ _ _ | show ∃ _, _ | skip)
     (repeat refine awp_seq ?_); refine awp_reg1 (by rw [hx]; kernel_rfl) fun K hK => ?_; simp (maxSteps := 1000000) [ty37]; refine hK _ ?_; clear hK K; (first | show AWP _ _ _ _ _ | show ∃ _, _ | skip)
     (repeat refine awp_seq ?_); refine awp_cond (by simp [hz]; rfl) (by rw [hx]; simp) (fun hd => ?_) (fun hd => ?_)
     ·clear hd
      (repeat refine awp_seq ?_); refine awp_reg1 (by rw [hx]; kernel_rfl) fun K hK => ?_; simp (maxSteps := 1000000) [ty37, ty23]; refine hK _ ?_; clear hK K; (first | show AWP _ _ _ _ _ | show ∃ _, _ | skip)
      (repeat refine awp_seq ?_); refine awp_ret ?_; refine And.intro (Or.inr rfl) ?_
      simp [retC, resC, viewC, mapO, hz, ty23]
     ·simp [hz] at hd

set_option maxHeartbeats 4000000

-- the reference of the trials: what is valid, what a truth is

theorem q_within60 (n lo hi : Int) : Pure Tryz.prog 55 [encI n, encI lo, encI hi] (.bool (withinB n lo hi)) := by
 refine pure_of (fn := Tryz.f55) [.tmp 6] ⟨Tryz.func55, rfl, by kernel_rfl⟩ (by kernel_rfl) (by kernel_rfl) (by kernel_rfl) fun x hx hσ => ?_
 (repeat refine awp_seq ?_); refine awp_reg1 (by rw [hx]; kernel_rfl) fun K hK => ?_; simp (maxSteps := 1000000) []; refine hK _ ?_; clear hK K; (first | show AWP _ _ _ _ _ | show ∃ _, _ | skip)
 (repeat refine awp_seq ?_); refine awp_reg1 (by rw [hx]; kernel_rfl) fun K hK => ?_; simp (maxSteps := 1000000) []
 refine callP (within79 n lo hi) (by first | (simp; done) | (simp [*]; done)) ?_; simp (maxSteps := 1000000) []
 refine hK _ ?_; clear hK K; (first | show AWP _ _ _ _ _ | show ∃ _, _ | skip)
 (repeat refine awp_seq ?_); refine awp_ret ?_; refine And.intro (Or.inr rfl) ?_
 simp [retC, resC, viewC, mapO]

set_option maxHeartbeats 8000000

-- Due

def byC (c : Cl) (g : Int) : Bool := decide (c.most < absI (seenA c.size g - c.size))
/-- The first day on which the instrument can err beyond a class. -/
def dueO (c : Co) (k : Cl) : Option Nat := (List.range (c.last + 1).toNat).find? fun d => (onC c (d : Nat) []).any (byC k)
def dueV (w : Ws) (k : Cl) : Int := if openW w (classB k) = 0 then (match dueO (co w (gl w)) k with | some d => (d : Int) | none => 0) else 0
def dueE (w : Ws) (k : Cl) : Int := if openW w (classB k) = 0 then (match dueO (co w (gl w)) k with | some _ => 0 | none => 3) else openW w (classB k)

theorem dueO_some {c : Co} {k : Cl} {i N : Nat} (hN : (c.last + 1).toNat = N) (hi : i < N) (h0 : ∀ d, d < i → (onC c (d : Nat) []).any (byC k) = false) (h1 : (onC c (i : Nat) []).any (byC k) = true) : dueO c k = some i := by
 unfold dueO
 rw [hN, List.find?_range_eq_some]
 exact ⟨h1, List.mem_range.2 hi, fun j hj => by rw [h0 j hj]; rfl⟩
theorem dueO_none {c : Co} {k : Cl} {N : Nat} (hN : (c.last + 1).toNat = N) (h0 : ∀ d, d < N → (onC c (d : Nat) []).any (byC k) = false) : dueO c k = none := by
 unfold dueO
 rw [hN, List.find?_range_eq_none]
 exact fun j hj => by rw [h0 j hj]; rfl


theorem w_due16 (w : Ws) (k : Cl) (hn : WsLen w) : Pure Tryz.prog 16 [encWs w, encCl k] (.tup [encI (dueV w k), encI (dueE w k)]) := by
 have hcb : classB k = (areaB k.size && countB k.most) := rfl
 by_cases hz : openW w (classB k) = 0
 ·obtain ⟨hok, his, hcan⟩ := openW_ok hz
  have hop := open_yes hn hz
  have hnum := hok.num
  have hl := hok.last
  have hV : dueV w k = (match dueO (co w (gl w)) k with | some d => (d : Int) | none => 0) := if_pos hz
  have hE : dueE w k = (match dueO (co w (gl w)) k with | some _ => 0 | none => 3) := if_pos hz
  rw [hV, hE]
  obtain ⟨N, hN⟩ : ∃ N : Nat, (w.last + 1).toNat = N := ⟨_, rfl⟩
  have hN' : (N : Int) = w.last + 1 := by omega
  have hw1 : IntKind.i64.wrap (w.last + 1) = (N : Int) := by rw [wrap_id (by omega) (by omega)]; omega
  have hsome := fun i hi => dueO_some (c := co w (gl w)) (k := k) (i := i) hN hi
  have hnone := dueO_none (c := co w (gl w)) (k := k) hN
  have hit := fun day : Nat => on98 w (gl w) true true [] [] day hnum (by simp)
  simp only [rowsK_nil] at hit
  have hmem : ∀ (day : Nat), ∀ z ∈ onC (co w (gl w)) (day : Nat) [], -50 ≤ z ∧ z ≤ 50 := fun day z hz' => by
   have h1 := onC_bd hz'
   have h2 := hnum.gain
   simp only at h1
   omega
  have hln := fun day : Nat => onC_len (co w (gl w)) (day : Nat) [] hnum.gain
  generalize dueO (co w (gl w)) k = D at *
  rw [hcb, Bool.and_eq_true] at his
  obtain ⟨h1, h2⟩ := his
  have ha := areaB_iff.1 h1
  rw [hcb, h1, h2] at hop
  simp only [Bool.and_self] at hop
  refine pure_of (fn := Tryz.f16) [.cell 4 3, .cell 5 37] ⟨Tryz.func16, rfl, by kernel_rfl⟩ (by kernel_rfl) (by kernel_rfl) (by kernel_rfl) fun x hx hσ => ?_
  (repeat refine awp_seq ?_); refine awp_reg1 (by rw [hx]; kernel_rfl) fun K hK => ?_; simp (maxSteps := 1000000) [ty28, ty37, ty3, ty31]; refine hK _ ?_; clear hK K; (first | show AWP _ _ _ _ _ | show ∃ _, _ | skip)
  (repeat refine awp_seq ?_); refine awp_drw3 [] [0, 1, 2, 3, 4, 5, 6, 7, 8, 9, 10, 11, 12, 13, 14, 15] (by rw [hx]; kernel_rfl) (by kernel_rfl) (by kernel_rfl) (by kernel_rfl) fun K hK => ?_; simp (maxSteps := 1000000) [ty28, ty3, ty4, ty31]
  refine callPD (isArea58 k.size) (by first | (simp; done) | (simp [*]; done)) (by simp) ?_; simp (maxSteps := 1000000) [ty28, ty3, ty4, ty31, h1]
  refine callPD (isCount59 k.most) (by first | (simp; done) | (simp [*]; done)) (by simp) ?_; simp (maxSteps := 1000000) [ty28, ty3, ty4, ty31, h2]
  refine callPD (hop) (by first | (simp; done) | (simp [*]; done)) (by simp) ?_; simp (maxSteps := 1000000) [ty89]
  refine hK _ ?_; clear hK K; (first | show AWP _ _ _ _ _ | show ∃ _, _ | skip)
  (repeat refine awp_seq ?_); refine awp_reg1 (by rw [hx]; kernel_rfl) fun K hK => ?_; simp (maxSteps := 1000000) [ty37]; refine hK _ ?_; clear hK K; (first | show AWP _ _ _ _ _ | show ∃ _, _ | skip)
  (repeat refine awp_seq ?_); refine awp_cond (by simp; rfl) (by rw [hx]; simp) (fun hd => ?_) (fun hd => ?_)
  ·simp at hd
  ·clear hd
   refine awp_skip ?_; (first | show AWP _ _ _ _ _ | show ∃ _, _ | skip)
   (repeat refine awp_seq ?_); refine awp_reg1 (by rw [hx]; kernel_rfl) fun K hK => ?_; simp (maxSteps := 1000000) [ty28, ty3, hw1]; refine hK _ ?_; clear hK K; (first | show AWP _ _ _ _ _ | show ∃ _, _ | skip)
   (repeat refine awp_seq ?_); refine awp_block ?_
   refine awp_loop (fun i : Nat => ⟨ofL [(3, .ptr 3 2 0 0), (4, .ptr 4 1 0 0), (5, .ptr 5 1 0 0), (6, .ptr 6 15 0 0), (29, encI N), (30, encI i)], stoT [(3, 3, .live ⟨false, false, 2, [cCl k]⟩), (4, 4, .live (obI 0)), (5, 5, .live (obI 0)), (6, 6, .live (obCd w (gl w) true []))]⟩)
    (fun i => i ≤ N ∧ ∀ d, d < i → (onC (co w (gl w)) (d : Nat) []).any (byC k) = false) (fun i => N - i) 0 (by simp) ?_ ?_
   ·refine wk_shape (shp0 hσ (by simp) (by simp) ?_) ?_
    ·simp [SlotOk] <;> (repeat' (first | (refine RowsOk.same ?_; simp [purel, C.isPure]; done) | (refine rowsCons ?_; simp [mtl, mtc, mT, mH, C.isPure, purel]; done) | (refine rowsCons ?_; simp [mtl, mtc, mT, mH, C.isPure, purel]) | refine And.intro ?_ ?_))
    ·simp [mtc, mtl, mT, C.isPure, purel] <;> (try simp (disch := omega) [wrap_id]) <;> (try omega)
   ·intro i ⟨hi, hd0⟩
    (repeat refine awp_seq ?_); refine awp_reg1 (by rw [hx]; kernel_rfl) fun K hK => ?_; simp (maxSteps := 1000000) [ty3]; refine hK _ ?_; clear hK K; (first | show AWP _ _ _ _ _ | show ∃ _, _ | skip)
    (repeat refine awp_seq ?_); refine awp_cond (by simp; rfl) (by rw [hx]; simp) (fun hc1 => ?_) (fun hc1 => ?_)
    ·simp at hc1
     have hwi : IntKind.i64.wrap ((i : Int) + 1) = ((i + 1 : Nat) : Int) := by rw [wrap_id (by omega) (by omega)]; rfl
     have hsm := hsome i hc1 hd0
     have hiti := hit i
     have hmi := hmem i
     have hli := hln i
     have hd1 : (onC (co w (gl w)) (i : Nat) []).any (byC k) = false → ∀ d, d < i + 1 → (onC (co w (gl w)) (d : Nat) []).any (byC k) = false := fun h d hd => by
      by_cases e : d = i
      ·rw [e]; exact h
      ·exact hd0 d (by omega)
     clear hnone hsome hit hmem hln
     generalize hLL : onC (co w (gl w)) (i : Nat) [] = L at *
     refine awp_skip ?_; (first | show AWP _ _ _ _ _ | show ∃ _, _ | skip)
     (repeat refine awp_seq ?_); refine awp_block ?_
     (repeat refine awp_seq ?_); refine awp_reg1 (by rw [hx]; kernel_rfl) fun K hK => ?_; simp (maxSteps := 1000000) [ty3]; refine hK _ ?_; clear hK K; (first | show AWP _ _ _ _ _ | show ∃ _, _ | skip)
     (repeat refine awp_seq ?_); refine awp_reg1 (by rw [hx]; kernel_rfl) fun K hK => ?_; simp (maxSteps := 1000000) [ty89, ty3, ty87]
     refine callP (on60 w (gl w) true true [] [] i) (by first | (simp; done) | (simp [*]; done)) ?_; simp (maxSteps := 1000000) [ty92]
     refine hK _ ?_; clear hK K; (first | show AWP _ _ _ _ _ | show ∃ _, _ | skip)
     (repeat refine awp_seq ?_); refine awp_block ?_
     obtain ⟨stop, hstop⟩ : ∃ stop, stop = L.findIdx (byC k) := ⟨_, rfl⟩
     have hsl : stop ≤ L.length := hstop ▸ List.findIdx_le_length
     refine awp_range0 1000000 [1000003, 1000004, 1000005, 1000006, 1000008] (fun m => [(1000003, 1000003, .live ⟨false, false, 2, [cCl k]⟩), (1000004, 1000004, .live (obI (if stop < m then (i : Int) else 0))), (1000005, 1000005, .live (obI 0)), (1000006, 1000006, .live (obCd w (gl w) true [])), (1000008, 1000008, .live (obI i))]) (itI L) stop .ret
      [(3, .ptr 1000003 2 0 0), (4, .ptr 1000004 1 0 0), (5, .ptr 1000005 1 0 0), (6, .ptr 1000006 15 0 0), (8, .ptr 1000008 1 0 0), (29, encI N), (30, encI i), (35, .fn (.func 98) [] [.ip (cCd w (gl w) true []) 0, .ip [encI i] 0, .ip [.md true []] 0])] [(3, .ptr 1000003 2 0 0), (4, .ptr 1000004 1 0 0), (5, .ptr 1000005 1 0 0), (8, .ptr 1000008 1 0 0)]
      (first := []) (caps := [.ip (cCd w (gl w) true []) 0, .ip [encI i] 0, .ip [.md true []] 0]) ?_ hσ (by simp) (by rw [hx]; decide) ⟨rfl, by simp [purel, C.isPure]⟩ hiti (by simpa using hsl) (by simp) (by simp) (fun i => by simp) (fun i => by simp [wil, C.wi]) (by simp [C.wi, wil]) (by simp [C.wi, wil]) ?_ ?_ ?_ ?_
     ·refine wk_shape2 [(1000003, 3, .live ⟨false, false, 2, [cCl k]⟩), (1000004, 4, .live (obI (if stop < 0 then (i : Int) else 0))), (1000005, 5, .live (obI 0)), (1000006, 6, .live (obCd w (gl w) true [])), (1000008, 8, .live (obI i))] (by first | rfl | (simp only [if_pos, if_true]; rfl)) (shp0 hσ (by simp) (by simp) ?_) ?_
      ·simp [SlotOk] <;> (repeat' (first | (refine RowsOk.same ?_; simp [purel, C.isPure]; done) | (refine rowsCons ?_; simp [mtl, mtc, mT, mH, C.isPure, purel]; done) | (refine rowsCons ?_; simp [mtl, mtc, mT, mH, C.isPure, purel]) | refine And.intro ?_ ?_))
      ·simp [mtc, mtl, mT, C.isPure, purel] <;> (try simp (disch := omega) [wrap_id]) <;> (try omega)
     ·intro args ha
      obtain ⟨y, hy, rfl⟩ := List.mem_map.1 ha
      simp [purel, C.isPure]
     ·intro m args hit hm y y2 hy1 hy2 hyσ hy
      obtain ⟨g, ht, rfl⟩ := itI_get hit
      have hm' := (List.getElem?_eq_some_iff.1 ht).1
      have htm : L[m] = g := (List.getElem?_eq_some_iff.1 ht).2
      have hgb := hmi g (List.mem_of_getElem? ht)
      have hsb := seenA_bd ha hgb
      have hw2 : IntKind.i64.wrap (seenA k.size g - k.size) = seenA k.size g - k.size := wrap_id (by omega) (by omega)
      have hw3 : IntKind.i64.wrap (-(seenA k.size g - k.size)) = -(seenA k.size g - k.size) := wrap_id (by omega) (by omega)
      have hby : byC k g = decide (k.most < if seenA k.size g - k.size < -(seenA k.size g - k.size) then -(seenA k.size g - k.size) else seenA k.size g - k.size) := by
       unfold byC absI
       congr 2
       split <;> split <;> omega
      have hx0 := hx
      have hx := hy1.trans hx0
      (repeat refine awp_seq ?_); refine awp_reg1 (by rw [hx]; kernel_rfl) fun K hK => ?_; simp (maxSteps := 1000000) [ty3, putPs]; refine hK _ ?_; clear hK K; (first | show AWP _ _ _ _ _ | show ∃ _, _ | skip)
      refine ⟨by simp, ?_⟩
      have hx := hy2.trans hx0
      (repeat refine awp_seq ?_); refine awp_block ?_
      (repeat refine awp_seq ?_); refine awp_drw3 [] [0, 1, 2, 3, 4, 5, 6, 7] (by rw [hx]; kernel_rfl) (by kernel_rfl) (by kernel_rfl) (by kernel_rfl) fun K hK => ?_; simp (maxSteps := 1000000) [ty3, ty31]
      refine callPD (seen61 k.size g ha hgb) (by first | (simp; done) | (simp [*]; done)) (by simp) ?_; simp (maxSteps := 1000000) [ty3, ty31, hw2]
      refine hK _ ?_; clear hK K; (first | show AWP _ _ _ _ _ | show ∃ _, _ | skip)
      cases hb : byC k g
      ·have hne : m ≠ stop := by
        rintro rfl
        have := List.findIdx_getElem (p := byC k) (xs := L) (w := by rw [← hstop]; exact hm')
        simp only [← hstop, htm, hb] at this
        cases this
       rw [hb] at hby
       have hby := of_decide_eq_false hby.symm
       (repeat refine awp_seq ?_); refine awp_reg1 (by rw [hx]; kernel_rfl) fun K hK => ?_; simp (maxSteps := 1000000) [ty3, ty31, hw3, hby]; refine hK _ ?_; clear hK K; (first | show AWP _ _ _ _ _ | show ∃ _, _ | skip)
       (repeat refine awp_seq ?_); refine awp_cond (by simp [hby]; rfl) (by rw [hx]; simp) (fun hd => ?_) (fun hd => ?_)
       ·simp [hby] at hd
       ·clear hd
        refine awp_skip ?_
        refine ⟨by rw [if_neg hne], ?_⟩
        rw [if_neg (show ¬ stop < m + 1 by omega)]
        rw [if_neg (show ¬ stop < m by omega)]
        refine wk_round (E := []) [(1000000, 1000000, .gh), (1000003, 1000003, .live ⟨false, false, 2, [cCl k]⟩), (1000004, 1000004, .live (obI 0)), (1000005, 1000005, .live (obI 0)), (1000006, 1000006, .live (obCd w (gl w) true [])), (1000008, 1000008, .live (obI i))] (by first | rfl | (simp <;> rfl)) hy (by simp [mT]) (by simp) (by simp) ?_ (by simp)
        ·simp [SlotOk] <;> (repeat' (first | (refine RowsOk.same ?_; simp [purel, C.isPure]; done) | (refine rowsCons ?_; simp [mtl, mtc, mT, mH, C.isPure, purel]; done) | (refine rowsCons ?_; simp [mtl, mtc, mT, mH, C.isPure, purel]) | refine And.intro ?_ ?_)) <;> (try simp (disch := omega) [wrap_id]) <;> (try omega)
      ·have heq : m = stop := by
        refine Nat.le_antisymm hm (Classical.byContradiction fun hlt => ?_)
        have := List.not_of_lt_findIdx (p := byC k) (xs := L) (i := m) (by rw [← hstop]; omega)
        simp only [htm, hb] at this
        cases this
       rw [hb] at hby
       have hby := of_decide_eq_true hby.symm
       (repeat refine awp_seq ?_); refine awp_reg1 (by rw [hx]; kernel_rfl) fun K hK => ?_; simp (maxSteps := 1000000) [ty3, ty31, hw3, hby]; refine hK _ ?_; clear hK K; (first | show AWP _ _ _ _ _ | show ∃ _, _ | skip)
       (repeat refine awp_seq ?_); refine awp_cond (by simp [hby]; rfl) (by rw [hx]; simp) (fun hd => ?_) (fun hd => ?_)
       ·clear hd
        (repeat refine awp_seq ?_); refine awp_reg1 (by rw [hx]; kernel_rfl) fun K hK => ?_; simp (maxSteps := 1000000) [ty3, ty37]; refine hK _ ?_; clear hK K; (first | show AWP _ _ _ _ _ | show ∃ _, _ | skip)
        refine awp_ret ?_
        refine ⟨by rw [if_pos heq]; rfl, ?_⟩
        rw [if_pos (show stop < m + 1 by omega)]
        refine wk_round (E := []) [(1000000, 1000000, .gh), (1000003, 1000003, .live ⟨false, false, 2, [cCl k]⟩), (1000004, 1000004, .live (obI i)), (1000005, 1000005, .live (obI 0)), (1000006, 1000006, .live (obCd w (gl w) true [])), (1000008, 1000008, .live (obI i))] (by first | rfl | (simp <;> rfl)) hy (by simp [mT]) (by simp) (by simp) ?_ (by simp)
        ·simp [SlotOk] <;> (repeat' (first | (refine RowsOk.same ?_; simp [purel, C.isPure]; done) | (refine rowsCons ?_; simp [mtl, mtc, mT, mH, C.isPure, purel]; done) | (refine rowsCons ?_; simp [mtl, mtc, mT, mH, C.isPure, purel]) | refine And.intro ?_ ?_)) <;> (try simp (disch := omega) [wrap_id]) <;> (try omega)
       ·simp [hby] at hd
     ·intro he s' hs'
      refine AWP.weak ?_ hs'
      have hany : L.any (byC k) = false := by
       rw [Bool.eq_false_iff]
       intro e
       obtain ⟨g, hg, h1⟩ := List.any_eq_true.1 e
       have := List.findIdx_lt_length_of_exists ⟨g, hg, h1⟩
       rw [← hstop, he] at this
       simp at this
      rw [if_neg (by omega)]
      (repeat refine awp_seq ?_); refine awp_reg1 (by rw [hx]; kernel_rfl) fun K hK => ?_; simp (maxSteps := 1000000) [ty3]; refine hK _ ?_; clear hK K; (first | show AWP _ _ _ _ _ | show ∃ _, _ | skip)
      refine ⟨i + 1, ⟨by omega, hd1 hany⟩, by omega, ?_⟩
      rw [hwi]
      refine wk_shape2 [(3, 1000003, .live ⟨false, false, 2, [cCl k]⟩), (4, 1000004, .live (obI 0)), (5, 1000005, .live (obI 0)), (6, 1000006, .live (obCd w (gl w) true []))] (by first | rfl | (simp only [if_pos, if_true]; rfl)) (shp0 hσ (by simp) (by simp) ?_) ?_
      ·simp [SlotOk] <;> (repeat' (first | (refine RowsOk.same ?_; simp [purel, C.isPure]; done) | (refine rowsCons ?_; simp [mtl, mtc, mT, mH, C.isPure, purel]; done) | (refine rowsCons ?_; simp [mtl, mtc, mT, mH, C.isPure, purel]) | refine And.intro ?_ ?_))
      ·simp [mtc, mtl, mT, C.isPure, purel] <;> (try simp (disch := omega) [wrap_id]) <;> (try omega)
     ·intro hlt
      have hlt' : stop < L.length := by simpa using hlt
      have hany : L.any (byC k) = true := by
       have := List.findIdx_getElem (p := byC k) (xs := L) (w := by rw [← hstop]; exact hlt')
       exact List.any_eq_true.2 ⟨_, List.getElem_mem _, this⟩
      have hD := hsm hany
      rw [if_pos (by omega), hD]
      refine awp_ret ?_
      refine ⟨.inr rfl, ?_⟩
      simp [retC, resC, viewC, mapO, ty3, ty37]
    ·simp at hc1
     (repeat refine awp_seq ?_); refine awp_exit ?_; (first | show AWP _ _ _ _ _ | show ∃ _, _ | skip)
     have hiN : i = N := by omega
     subst hiN
     have hD := hnone hd0
     rw [hD]
     (repeat refine awp_seq ?_); refine awp_reg1 (by rw [hx]; kernel_rfl) fun K hK => ?_; simp (maxSteps := 1000000) [ty3, ty37]; refine hK _ ?_; clear hK K; (first | show AWP _ _ _ _ _ | show ∃ _, _ | skip)
     (repeat refine awp_seq ?_); refine awp_ret ?_; refine And.intro (Or.inr rfl) ?_
     simp [retC, resC, viewC, mapO, ty3, ty37]
 ·have hop := open_no hn hz
  have hV : dueV w k = 0 := if_neg hz
  have hE : dueE w k = openW w (classB k) := if_neg hz
  rw [hV, hE]
  cases h1 : areaB k.size
  ·have hc0 : classB k = false := by rw [hcb, h1]; rfl
   rw [hc0] at hop hz ⊢
   refine pure_of (fn := Tryz.f16) [.cell 4 3, .cell 5 37] ⟨Tryz.func16, rfl, by kernel_rfl⟩ (by kernel_rfl) (by kernel_rfl) (by kernel_rfl) fun x hx hσ => ?_
   (repeat refine awp_seq ?_); refine awp_reg1 (by rw [hx]; kernel_rfl) fun K hK => ?_; simp (maxSteps := 1000000) [ty28, ty37, ty3, ty31]; refine hK _ ?_; clear hK K; (first | show AWP _ _ _ _ _ | show ∃ _, _ | skip)
   (repeat refine awp_seq ?_); refine awp_drw3 [] [0, 1, 2, 3, 4, 5, 6, 7, 8, 9, 10, 11, 12, 13, 14, 15] (by rw [hx]; kernel_rfl) (by kernel_rfl) (by kernel_rfl) (by kernel_rfl) fun K hK => ?_; simp (maxSteps := 1000000) [ty28, ty3, ty4, ty31]
   refine callPD (isArea58 k.size) (by first | (simp; done) | (simp [*]; done)) (by simp) ?_; simp (maxSteps := 1000000) [ty28, ty3, ty4, ty31, h1]
   refine callPD (hop) (by first | (simp; done) | (simp [*]; done)) (by simp) ?_; simp (maxSteps := 1000000) [ty89]
   refine hK _ ?_; clear hK K; (first | show AWP _ _ _ _ _ | show ∃ _, _ | skip)
   (repeat refine awp_seq ?_); refine awp_reg1 (by rw [hx]; kernel_rfl) fun K hK => ?_; simp (maxSteps := 1000000) [ty37]; refine hK _ ?_; clear hK K; (first | show AWP _ _ _ _ _ | show ∃ _, _ | skip)
   (repeat refine awp_seq ?_); refine awp_cond (by simp [hz]; rfl) (by rw [hx]; simp) (fun hd => ?_) (fun hd => ?_)
   ·clear hd
    (repeat refine awp_seq ?_); refine awp_reg1 (by rw [hx]; kernel_rfl) fun K hK => ?_; simp (maxSteps := 1000000) [ty37, ty3]; refine hK _ ?_; clear hK K; (first | show AWP _ _ _ _ _ | show ∃ _, _ | skip)
    (repeat refine awp_seq ?_); refine awp_ret ?_; refine And.intro (Or.inr rfl) ?_
    simp [retC, resC, viewC, mapO, hz, ty3, ty37]
   ·simp [hz] at hd
  ·have hc0 : classB k = countB k.most := by rw [hcb, h1]; rfl
   rw [hc0] at hop hz ⊢
   refine pure_of (fn := Tryz.f16) [.cell 4 3, .cell 5 37] ⟨Tryz.func16, rfl, by kernel_rfl⟩ (by kernel_rfl) (by kernel_rfl) (by kernel_rfl) fun x hx hσ => ?_
   (repeat refine awp_seq ?_); refine awp_reg1 (by rw [hx]; kernel_rfl) fun K hK => ?_; simp (maxSteps := 1000000) [ty28, ty37, ty3, ty31]; refine hK _ ?_; clear hK K; (first | show AWP _ _ _ _ _ | show ∃ _, _ | skip)
   (repeat refine awp_seq ?_); refine awp_drw3 [] [0, 1, 2, 3, 4, 5, 6, 7, 8, 9, 10, 11, 12, 13, 14, 15] (by rw [hx]; kernel_rfl) (by kernel_rfl) (by kernel_rfl) (by kernel_rfl) fun K hK => ?_; simp (maxSteps := 1000000) [ty28, ty3, ty4, ty31]
   refine callPD (isArea58 k.size) (by first | (simp; done) | (simp [*]; done)) (by simp) ?_; simp (maxSteps := 1000000) [ty28, ty3, ty4, ty31, h1]
   refine callPD (isCount59 k.most) (by first | (simp; done) | (simp [*]; done)) (by simp) ?_; simp (maxSteps := 1000000) [ty28, ty3, ty4, ty31]
   refine callPD (hop) (by first | (simp; done) | (simp [*]; done)) (by simp) ?_; simp (maxSteps := 1000000) [ty89]
   refine hK _ ?_; clear hK K; (first | show AWP _ _ _ _ _ | show ∃ _, _ | skip)
   (repeat refine awp_seq ?_); refine awp_reg1 (by rw [hx]; kernel_rfl) fun K hK => ?_; simp (maxSteps := 1000000) [ty37]; refine hK _ ?_; clear hK K; (first | show AWP _ _ _ _ _ | show ∃ _, _ | skip)
   (repeat refine awp_seq ?_); refine awp_cond (by simp [hz]; rfl) (by rw [hx]; simp) (fun hd => ?_) (fun hd => ?_)
   ·clear hd
    (repeat refine awp_seq ?_); refine awp_reg1 (by rw [hx]; kernel_rfl) fun K hK => ?_; simp (maxSteps := 1000000) [ty37, ty3]; refine hK _ ?_; clear hK K; (first | show AWP _ _ _ _ _ | show ∃ _, _ | skip)
    (repeat refine awp_seq ?_); refine awp_ret ?_; refine And.intro (Or.inr rfl) ?_
    simp [retC, resC, viewC, mapO, hz, ty3, ty37]
   ·simp [hz] at hd

set_option maxHeartbeats 8000000

-- Blame

def blameL (L : List Int) (a s : Int) : Int := if L.countP (fun g => seenA a g == s) = L.length then 1 else if L.countP (fun g => seenA a g == s) = 0 then 2 else 3
def blameW (w : Ws) (day a s : Int) : Int := if openW w (dayB w day && areaB a && countB s) = 0 then blameL (onC (co w (gl w)) day []) a s else 0


theorem w_blame50 (w : Ws) (day a s : Int) (hn : WsLen w) : Pure Tryz.prog 50 [encWs w, encI day, encI a, encI s] (.tup [encI (blameW w day a s), encI (openW w (dayB w day && areaB a && countB s))]) := by
 by_cases hz : openW w (dayB w day && areaB a && countB s) = 0
 ·obtain ⟨hok, his, hcan⟩ := openW_ok hz
  have hop := open_yes hn hz
  have hnum := hok.num
  have hT : blameW w day a s = blameL (onC (co w (gl w)) day []) a s := if_pos hz
  have hit := on98 w (gl w) true true [] [] day hnum (by simp)
  simp only [rowsK_nil] at hit
  have hmem : ∀ z ∈ onC (co w (gl w)) day [], -50 ≤ z ∧ z ≤ 50 := fun z hz' => by
   have h1 := onC_bd hz'
   have h2 := hnum.gain
   simp only at h1
   omega
  have hln := onC_len (co w (gl w)) day [] hnum.gain
  rw [hT, hz]
  generalize onC (co w (gl w)) day [] = L at *
  simp only [Bool.and_eq_true] at his
  obtain ⟨⟨h1, h2⟩, h3⟩ := his
  have ha := areaB_iff.1 h2
  rw [h1, h2, h3] at hop
  simp only [Bool.and_self] at hop
  have hst := fun i (hi : i < L.length) => count_step (fun g => seenA a g == s) hi
  have hcb := fun i => List.countP_le_length (p := fun g => seenA a g == s) (l := L.take i)
  obtain ⟨n, hnn⟩ : ∃ n : Nat → Nat, ∀ i, (L.take i).countP (fun g => seenA a g == s) = n i := ⟨_, fun _ => rfl⟩
  have hn0 : n 0 = 0 := by rw [← hnn]; simp
  have hnN : L.countP (fun g => seenA a g == s) = n L.length := by rw [← hnn, List.take_length]
  have hbl : blameL L a s = if n L.length = L.length then 1 else if n L.length = 0 then 2 else 3 := by unfold blameL; rw [hnN]
  rw [hbl]
  simp only [hnn] at hst hcb
  have hnl : ∀ i, i ≤ L.length → n i ≤ i := fun i hi => by have := hcb i; rw [List.length_take] at this; omega
  refine pure_of (fn := Tryz.f50) [.tmp 8, .tmp 9] ⟨Tryz.func50, rfl, by kernel_rfl⟩ (by kernel_rfl) (by kernel_rfl) (by kernel_rfl) fun x hx hσ => ?_
  (repeat refine awp_seq ?_); refine awp_reg1 (by rw [hx]; kernel_rfl) fun K hK => ?_; simp (maxSteps := 1000000) [ty28, ty37, ty3]; refine hK _ ?_; clear hK K; (first | show AWP _ _ _ _ _ | show ∃ _, _ | skip)
  (repeat refine awp_seq ?_); refine awp_drw3 [] [0, 1, 2, 3, 4, 5, 6, 7, 8, 9, 10, 11, 12, 13, 14, 15, 16, 17, 18] (by rw [hx]; kernel_rfl) (by kernel_rfl) (by kernel_rfl) (by kernel_rfl) fun K hK => ?_; simp (maxSteps := 1000000) [ty28, ty3, ty4]
  refine callPD (isDay62 w day) (by first | (simp; done) | (simp [*]; done)) (by simp) ?_; simp (maxSteps := 1000000) [ty28, ty3, ty4, h1]
  refine callPD (isArea58 a) (by first | (simp; done) | (simp [*]; done)) (by simp) ?_; simp (maxSteps := 1000000) [ty28, ty3, ty4, h2]
  refine callPD (isCount59 s) (by first | (simp; done) | (simp [*]; done)) (by simp) ?_; simp (maxSteps := 1000000) [ty28, ty3, ty4, h3]
  refine callPD (hop) (by first | (simp; done) | (simp [*]; done)) (by simp) ?_; simp (maxSteps := 1000000) [ty89]
  refine hK _ ?_; clear hK K; (first | show AWP _ _ _ _ _ | show ∃ _, _ | skip)
  (repeat refine awp_seq ?_); refine awp_reg1 (by rw [hx]; kernel_rfl) fun K hK => ?_; simp (maxSteps := 1000000) [ty37]; refine hK _ ?_; clear hK K; (first | show AWP _ _ _ _ _ | show ∃ _, _ | skip)
  (repeat refine awp_seq ?_); refine awp_cond (by simp; rfl) (by rw [hx]; simp) (fun hd => ?_) (fun hd => ?_)
  ·simp at hd
  ·clear hd
   refine awp_skip ?_; (first | show AWP _ _ _ _ _ | show ∃ _, _ | skip)
   (repeat refine awp_seq ?_); refine awp_reg1 (by rw [hx]; kernel_rfl) fun K hK => ?_; simp (maxSteps := 1000000) [ty3]; refine hK _ ?_; clear hK K; (first | show AWP _ _ _ _ _ | show ∃ _, _ | skip)
   (repeat refine awp_seq ?_); refine awp_reg1 (by rw [hx]; kernel_rfl) fun K hK => ?_; simp (maxSteps := 1000000) [ty89, ty3, ty87]
   refine callP (on60 w (gl w) true true [] [] day) (by first | (simp; done) | (simp [*]; done)) ?_; simp (maxSteps := 1000000) [ty92]
   refine hK _ ?_; clear hK K; (first | show AWP _ _ _ _ _ | show ∃ _, _ | skip)
   (repeat refine awp_seq ?_); refine awp_block ?_
   refine awp_range0 1000000 [1000006, 1000007, 1000012, 1000013] (fun i => [(1000006, 1000006, .live (obI a)), (1000007, 1000007, .live (obI s)), (1000012, 1000012, .live (obI (n i : Nat))), (1000013, 1000013, .live (obI ((i - n i : Nat) : Int)))]) (itI L) L.length .ret
    [(6, .ptr 1000006 1 0 0), (7, .ptr 1000007 1 0 0), (12, .ptr 1000012 1 0 0), (13, .ptr 1000013 1 0 0), (36, .fn (.func 98) [] [.ip (cCd w (gl w) true []) 0, .ip [encI day] 0, .ip [.md true []] 0])] [(6, .ptr 1000006 1 0 0), (7, .ptr 1000007 1 0 0), (12, .ptr 1000012 1 0 0), (13, .ptr 1000013 1 0 0)]
    (first := []) (caps := [.ip (cCd w (gl w) true []) 0, .ip [encI day] 0, .ip [.md true []] 0]) ?_ hσ (by simp) (by rw [hx]; decide) ⟨rfl, by simp [purel, C.isPure]⟩ hit (by simp) (by simp) (by simp) (fun i => by simp) (fun i => by simp [wil, C.wi]) (by simp [C.wi, wil]) (by simp [C.wi, wil]) ?_ ?_ ?_ ?_
   ·refine wk_shape2 [(1000006, 6, .live (obI a)), (1000007, 7, .live (obI s)), (1000012, 12, .live (obI (n 0 : Nat))), (1000013, 13, .live (obI ((0 - n 0 : Nat) : Int)))] (by first | rfl | (simp only [if_pos, if_true, hn0]; rfl)) (shp0 hσ (by simp) (by simp) ?_) ?_
    ·simp [SlotOk, hn0] <;> (repeat' (first | (refine RowsOk.same ?_; simp [purel, C.isPure]; done) | (refine rowsCons ?_; simp [mtl, mtc, mT, mH, C.isPure, purel]; done) | (refine rowsCons ?_; simp [mtl, mtc, mT, mH, C.isPure, purel]) | refine And.intro ?_ ?_))
    ·simp [mtc, mtl, mT, C.isPure, purel, hn0] <;> (try simp (disch := omega) [wrap_id]) <;> (try omega)
   ·intro args ha
    obtain ⟨y, hy, rfl⟩ := List.mem_map.1 ha
    simp [purel, C.isPure]
   ·intro i args hit hi y y2 hy1 hy2 hyσ hy
    obtain ⟨g, ht, rfl⟩ := itI_get hit
    have hi' := (List.getElem?_eq_some_iff.1 ht).1
    have hti : L[i] = g := (List.getElem?_eq_some_iff.1 ht).2
    have hgb := hmem g (List.mem_of_getElem? ht)
    have hsi := hst i hi'
    rw [hti] at hsi
    have hli := hnl i (by omega)
    have hx0 := hx
    have hx := hy1.trans hx0
    (repeat refine awp_seq ?_); refine awp_reg1 (by rw [hx]; kernel_rfl) fun K hK => ?_; simp (maxSteps := 1000000) [ty3, putPs]; refine hK _ ?_; clear hK K; (first | show AWP _ _ _ _ _ | show ∃ _, _ | skip)
    refine ⟨by simp, ?_⟩
    have hx := hy2.trans hx0
    (repeat refine awp_seq ?_); refine awp_block ?_
    cases hb : seenA a g == s
    ·rw [hb] at hsi
     simp at hsi
     have hw1 : IntKind.i64.wrap (((i - n i : Nat) : Int) + 1) = ((i + 1 - n i : Nat) : Int) := by rw [wrap_id (by omega) (by omega)]; omega
     (repeat refine awp_seq ?_); refine awp_drw3 [] [0, 1, 2, 3, 4] (by rw [hx]; kernel_rfl) (by kernel_rfl) (by kernel_rfl) (by kernel_rfl) fun K hK => ?_; simp (maxSteps := 1000000) [ty3]
     refine callPD (seen61 a g ha hgb) (by first | (simp; done) | (simp [*]; done)) (by simp) ?_; simp (maxSteps := 1000000) [ty3, hb]
     refine hK _ ?_; clear hK K; (first | show AWP _ _ _ _ _ | show ∃ _, _ | skip)
     (repeat refine awp_seq ?_); refine awp_cond (by simp [hb]; rfl) (by rw [hx]; simp) (fun hd => ?_) (fun hd => ?_)
     ·simp [hb] at hd
     ·clear hd
      (repeat refine awp_seq ?_); refine awp_reg1 (by rw [hx]; kernel_rfl) fun K hK => ?_; simp (maxSteps := 1000000) [ty3, hw1]; refine hK _ ?_; clear hK K; (first | show AWP _ _ _ _ _ | show ∃ _, _ | skip)
      refine ⟨by rw [if_neg (by omega)], ?_⟩
      rw [hsi]
      refine wk_round (E := []) [(1000000, 1000000, .gh), (1000006, 1000006, .live (obI a)), (1000007, 1000007, .live (obI s)), (1000012, 1000012, .live (obI (n i : Nat))), (1000013, 1000013, .live (obI ((i + 1 - n i : Nat) : Int)))] (by first | rfl | (simp <;> rfl)) hy (by simp [mT]) (by simp) (by simp) ?_ (by simp)
      ·simp [SlotOk] <;> (repeat' (first | (refine RowsOk.same ?_; simp [purel, C.isPure]; done) | (refine rowsCons ?_; simp [mtl, mtc, mT, mH, C.isPure, purel]; done) | (refine rowsCons ?_; simp [mtl, mtc, mT, mH, C.isPure, purel]) | refine And.intro ?_ ?_)) <;> (try simp (disch := omega) [wrap_id]) <;> (try omega)
    ·rw [hb] at hsi
     simp at hsi
     have hw1 : IntKind.i64.wrap ((n i : Int) + 1) = ((n i + 1 : Nat) : Int) := by rw [wrap_id (by omega) (by omega)]; omega
     have hw2 : i + 1 - (n i + 1) = i - n i := by omega
     (repeat refine awp_seq ?_); refine awp_drw3 [] [0, 1, 2, 3, 4] (by rw [hx]; kernel_rfl) (by kernel_rfl) (by kernel_rfl) (by kernel_rfl) fun K hK => ?_; simp (maxSteps := 1000000) [ty3]
     refine callPD (seen61 a g ha hgb) (by first | (simp; done) | (simp [*]; done)) (by simp) ?_; simp (maxSteps := 1000000) [ty3, hb]
     refine hK _ ?_; clear hK K; (first | show AWP _ _ _ _ _ | show ∃ _, _ | skip)
     (repeat refine awp_seq ?_); refine awp_cond (by simp [hb]; rfl) (by rw [hx]; simp) (fun hd => ?_) (fun hd => ?_)
     ·clear hd
      (repeat refine awp_seq ?_); refine awp_reg1 (by rw [hx]; kernel_rfl) fun K hK => ?_; simp (maxSteps := 1000000) [ty3, hw1]; refine hK _ ?_; clear hK K; (first | show AWP _ _ _ _ _ | show ∃ _, _ | skip)
      refine ⟨by rw [if_neg (by omega)], ?_⟩
      rw [hsi, hw2]
      refine wk_round (E := []) [(1000000, 1000000, .gh), (1000006, 1000006, .live (obI a)), (1000007, 1000007, .live (obI s)), (1000012, 1000012, .live (obI (n i + 1 : Nat))), (1000013, 1000013, .live (obI ((i - n i : Nat) : Int)))] (by first | rfl | (simp <;> rfl)) hy (by simp [mT]) (by simp) (by simp) ?_ (by simp)
      ·simp [SlotOk] <;> (repeat' (first | (refine RowsOk.same ?_; simp [purel, C.isPure]; done) | (refine rowsCons ?_; simp [mtl, mtc, mT, mH, C.isPure, purel]; done) | (refine rowsCons ?_; simp [mtl, mtc, mT, mH, C.isPure, purel]) | refine And.intro ?_ ?_)) <;> (try simp (disch := omega) [wrap_id]) <;> (try omega)
     ·simp [hb] at hd
   ·intro he s' hs'
    refine AWP.weak ?_ hs'
    have hli := hnl L.length (Nat.le_refl _)
    have hrl : (itI L).length = L.length := he.symm
    rw [hrl]
    (repeat refine awp_seq ?_); refine awp_block ?_
    by_cases e1 : n L.length = L.length
    ·have e1' : (((L.length - n L.length : Nat) : Int) == 0) = true := by rw [beq_iff_eq]; omega
     rw [if_pos e1]
     (repeat refine awp_seq ?_); refine awp_reg1 (by rw [hx]; kernel_rfl) fun K hK => ?_; simp (maxSteps := 1000000) [ty3, e1']; refine hK _ ?_; clear hK K; (first | show AWP _ _ _ _ _ | show ∃ _, _ | skip)
     (repeat refine awp_seq ?_); refine awp_cond (by simp [e1']; rfl) (by rw [hx]; simp) (fun hd => ?_) (fun hd => ?_)
     ·clear hd
      (repeat refine awp_seq ?_); refine awp_reg1 (by rw [hx]; kernel_rfl) fun K hK => ?_; simp (maxSteps := 1000000) [ty3, ty37]; refine hK _ ?_; clear hK K; (first | show AWP _ _ _ _ _ | show ∃ _, _ | skip)
      (repeat refine awp_seq ?_); refine awp_ret ?_; refine And.intro (Or.inr rfl) ?_
      simp [retC, resC, viewC, mapO]
     ·simp [e1'] at hd
    ·have e1' : (((L.length - n L.length : Nat) : Int) == 0) = false := by rw [beq_eq_false_iff_ne]; omega
     rw [if_neg e1]
     (repeat refine awp_seq ?_); refine awp_reg1 (by rw [hx]; kernel_rfl) fun K hK => ?_; simp (maxSteps := 1000000) [ty3, e1']; refine hK _ ?_; clear hK K; (first | show AWP _ _ _ _ _ | show ∃ _, _ | skip)
     (repeat refine awp_seq ?_); refine awp_cond (by simp [e1']; rfl) (by rw [hx]; simp) (fun hd => ?_) (fun hd => ?_)
     ·simp [e1'] at hd
     ·clear hd
      by_cases e2 : n L.length = 0
      ·have e2' : ((n L.length : Int) == 0) = true := by rw [beq_iff_eq]; omega
       rw [if_pos e2]
       (repeat refine awp_seq ?_); refine awp_reg1 (by rw [hx]; kernel_rfl) fun K hK => ?_; simp (maxSteps := 1000000) [ty3, e2']; refine hK _ ?_; clear hK K; (first | show AWP _ _ _ _ _ | show ∃ _, _ | skip)
       (repeat refine awp_seq ?_); refine awp_cond (by simp [e2']; rfl) (by rw [hx]; simp) (fun hd => ?_) (fun hd => ?_)
       ·clear hd
        (repeat refine awp_seq ?_); refine awp_reg1 (by rw [hx]; kernel_rfl) fun K hK => ?_; simp (maxSteps := 1000000) [ty3, ty37]; refine hK _ ?_; clear hK K; (first | show AWP _ _ _ _ _ | show ∃ _, _ | skip)
        (repeat refine awp_seq ?_); refine awp_ret ?_; refine And.intro (Or.inr rfl) ?_
        simp [retC, resC, viewC, mapO]
       ·simp [e2'] at hd
      ·have e2' : ((n L.length : Int) == 0) = false := by rw [beq_eq_false_iff_ne]; omega
       rw [if_neg e2]
       (repeat refine awp_seq ?_); refine awp_reg1 (by rw [hx]; kernel_rfl) fun K hK => ?_; simp (maxSteps := 1000000) [ty3, e2']; refine hK _ ?_; clear hK K; (first | show AWP _ _ _ _ _ | show ∃ _, _ | skip)
       (repeat refine awp_seq ?_); refine awp_cond (by simp [e2']; rfl) (by rw [hx]; simp) (fun hd => ?_) (fun hd => ?_)
       ·simp [e2'] at hd
       ·clear hd
        refine awp_skip ?_; (first | show AWP _ _ _ _ _ | show ∃ _, _ | skip)
        (repeat refine awp_seq ?_); refine awp_reg1 (by rw [hx]; kernel_rfl) fun K hK => ?_; simp (maxSteps := 1000000) [ty3, ty37]; refine hK _ ?_; clear hK K; (first | show AWP _ _ _ _ _ | show ∃ _, _ | skip)
        (repeat refine awp_seq ?_); refine awp_ret ?_; refine And.intro (Or.inr rfl) ?_
        simp [retC, resC, viewC, mapO]
   ·intro hlt
    simp at hlt
 ·have hop := open_no hn hz
  have hT : blameW w day a s = 0 := if_neg hz
  rw [hT]
  cases h1 : dayB w day
  ·rw [h1] at hop hz
   simp only [Bool.false_and] at hop hz ⊢
   refine pure_of (fn := Tryz.f50) [.tmp 8, .tmp 9] ⟨Tryz.func50, rfl, by kernel_rfl⟩ (by kernel_rfl) (by kernel_rfl) (by kernel_rfl) fun x hx hσ => ?_
   (repeat refine awp_seq ?_); refine awp_reg1 (by rw [hx]; kernel_rfl) fun K hK => ?_; simp (maxSteps := 1000000) [ty28, ty37, ty3]; refine hK _ ?_; clear hK K; (first | show AWP _ _ _ _ _ | show ∃ _, _ | skip)
   (repeat refine awp_seq ?_); refine awp_drw3 [] [0, 1, 2, 3, 4, 5, 6, 7, 8, 9, 10, 11, 12, 13, 14, 15, 16, 17, 18] (by rw [hx]; kernel_rfl) (by kernel_rfl) (by kernel_rfl) (by kernel_rfl) fun K hK => ?_; simp (maxSteps := 1000000) [ty28, ty3, ty4]
   refine callPD (isDay62 w day) (by first | (simp; done) | (simp [*]; done)) (by simp) ?_; simp (maxSteps := 1000000) [ty28, ty3, ty4, h1]
   refine callPD (hop) (by first | (simp; done) | (simp [*]; done)) (by simp) ?_; simp (maxSteps := 1000000) [ty89]
   refine hK _ ?_; clear hK K; (first | show AWP _ _ _ _ _ | show ∃ _, _ | skip)
   (repeat refine awp_seq ?_); refine awp_reg1 (by rw [hx]; kernel_rfl) fun K hK => ?_; simp (maxSteps := 1000000) [ty37]; refine hK _ ?_; clear hK K; (first | show AWP _ _ _ _ _ | show ∃ _, _ | skip)
   (repeat refine awp_seq ?_); refine awp_cond (by simp [hz]; rfl) (by rw [hx]; simp) (fun hd => ?_) (fun hd => ?_)
   ·clear hd
    (repeat refine awp_seq ?_); refine awp_reg1 (by rw [hx]; kernel_rfl) fun K hK => ?_; simp (maxSteps := 1000000) [ty37]; refine hK _ ?_; clear hK K; (first | show AWP _ _ _ _ _ | show ∃ _, _ | skip)
    (repeat refine awp_seq ?_); refine awp_ret ?_; refine And.intro (Or.inr rfl) ?_
    simp [retC, resC, viewC, mapO, hz]
   ·simp [hz] at hd
  ·cases h2 : areaB a
   ·rw [h1, h2] at hop hz
    simp only [Bool.false_and, Bool.true_and] at hop hz ⊢
    refine pure_of (fn := Tryz.f50) [.tmp 8, .tmp 9] ⟨Tryz.func50, rfl, by kernel_rfl⟩ (by kernel_rfl) (by kernel_rfl) (by kernel_rfl) fun x hx hσ => ?_
    (repeat refine awp_seq ?_); refine awp_reg1 (by rw [hx]; kernel_rfl) fun K hK => ?_; simp (maxSteps := 1000000) [ty28, ty37, ty3]; refine hK _ ?_; clear hK K; (first | show AWP _ _ _ _ _ | show ∃ _, _ | skip)
    (repeat refine awp_seq ?_); refine awp_drw3 [] [0, 1, 2, 3, 4, 5, 6, 7, 8, 9, 10, 11, 12, 13, 14, 15, 16, 17, 18] (by rw [hx]; kernel_rfl) (by kernel_rfl) (by kernel_rfl) (by kernel_rfl) fun K hK => ?_; simp (maxSteps := 1000000) [ty28, ty3, ty4]
    refine callPD (isDay62 w day) (by first | (simp; done) | (simp [*]; done)) (by simp) ?_; simp (maxSteps := 1000000) [ty28, ty3, ty4, h1]
    refine callPD (isArea58 a) (by first | (simp; done) | (simp [*]; done)) (by simp) ?_; simp (maxSteps := 1000000) [ty28, ty3, ty4, h2]
    refine callPD (hop) (by first | (simp; done) | (simp [*]; done)) (by simp) ?_; simp (maxSteps := 1000000) [ty89]
    refine hK _ ?_; clear hK K; (first | show AWP _ _ _ _ _ | show ∃ _, _ | skip)
    (repeat refine awp_seq ?_); refine awp_reg1 (by rw [hx]; kernel_rfl) fun K hK => ?_; simp (maxSteps := 1000000) [ty37]; refine hK _ ?_; clear hK K; (first | show AWP _ _ _ _ _ | show ∃ _, _ | skip)
    (repeat refine awp_seq ?_); refine awp_cond (by simp [hz]; rfl) (by rw [hx]; simp) (fun hd => ?_) (fun hd => ?_)
    ·clear hd
     (repeat refine awp_seq ?_); refine awp_reg1 (by rw [hx]; kernel_rfl) fun K hK => ?_; simp (maxSteps := 1000000) [ty37]; refine hK _ ?_; clear hK K; (first | show AWP _ _ _ _ _ | show ∃ _, _ | skip)
     (repeat refine awp_seq ?_); refine awp_ret ?_; refine And.intro (Or.inr rfl) ?_
     simp [retC, resC, viewC, mapO, hz]
    ·simp [hz] at hd
   ·rw [h1, h2] at hop hz
    simp only [Bool.true_and] at hop hz ⊢
    refine pure_of (fn := Tryz.f50) [.tmp 8, .tmp 9] ⟨Tryz.func50, rfl, by kernel_rfl⟩ (by kernel_rfl) (by kernel_rfl) (by kernel_rfl) fun x hx hσ => ?_
    (repeat refine awp_seq ?_); refine awp_reg1 (by rw [hx]; kernel_rfl) fun K hK => ?_; simp (maxSteps := 1000000) [ty28, ty37, ty3]; refine hK _ ?_; clear hK K; (first | show AWP _ _ _ _ _ | show ∃ _, _ | skip)
    (repeat refine awp_seq ?_); refine awp_drw3 [] [0, 1, 2, 3, 4, 5, 6, 7, 8, 9, 10, 11, 12, 13, 14, 15, 16, 17, 18] (by rw [hx]; kernel_rfl) (by kernel_rfl) (by kernel_rfl) (by kernel_rfl) fun K hK => ?_; simp (maxSteps := 1000000) [ty28, ty3, ty4]
    refine callPD (isDay62 w day) (by first | (simp; done) | (simp [*]; done)) (by simp) ?_; simp (maxSteps := 1000000) [ty28, ty3, ty4, h1]
    refine callPD (isArea58 a) (by first | (simp; done) | (simp [*]; done)) (by simp) ?_; simp (maxSteps := 1000000) [ty28, ty3, ty4, h2]
    refine callPD (isCount59 s) (by first | (simp; done) | (simp [*]; done)) (by simp) ?_; simp (maxSteps := 1000000) [ty28, ty3, ty4]
    refine callPD (hop) (by first | (simp; done) | (simp [*]; done)) (by simp) ?_; simp (maxSteps := 1000000) [ty89]
    refine hK _ ?_; clear hK K; (first | show AWP _ _ _ _ _ | show ∃ _, _ | skip)
    (repeat refine awp_seq ?_); refine awp_reg1 (by rw [hx]; kernel_rfl) fun K hK => ?_; simp (maxSteps := 1000000) [ty37]; refine hK _ ?_; clear hK K; (first | show AWP _ _ _ _ _ | show ∃ _, _ | skip)
    (repeat refine awp_seq ?_); refine awp_cond (by simp [hz]; rfl) (by rw [hx]; simp) (fun hd => ?_) (fun hd => ?_)
    ·clear hd
     (repeat refine awp_seq ?_); refine awp_reg1 (by rw [hx]; kernel_rfl) fun K hK => ?_; simp (maxSteps := 1000000) [ty37]; refine hK _ ?_; clear hK K; (first | show AWP _ _ _ _ _ | show ∃ _, _ | skip)
     (repeat refine awp_seq ?_); refine awp_ret ?_; refine And.intro (Or.inr rfl) ?_
     simp [retC, resC, viewC, mapO, hz]
    ·simp [hz] at hd

set_option maxHeartbeats 8000000

-- Doubt and Next

theorem on_ne_nil {c : Co} (h : canC c [] = true) {d : Nat} (hd : d ≤ c.last.toNat) : onC c d [] ≠ [] := by
 obtain ⟨p, hp⟩ := (can_nil c).1 h
 exact List.ne_nil_of_mem ((on_nil c d hd (p d)).2 ⟨p, hp, rfl⟩)

theorem on_ne_one {c : Co} {a : Nat} {n : Int} (h : n ∈ onC c a []) (ha : a ≤ c.last.toNat) {d : Nat} (hd : d ≤ c.last.toNat) : onC c d [((a : Int), n)] ≠ [] := by
 obtain ⟨p, hp, e⟩ := (on_nil c a ha n).1 h
 exact List.ne_nil_of_mem ((on_one c a d n ha hd (p d)).2 ⟨p, hp, rfl, e⟩)

def doubtW (w : Ws) : Int := if openW w true = 0 then doubtC (co w (gl w)) [] else 0

theorem w_doubt25 (w : Ws) (hn : WsLen w) : Pure Tryz.prog 25 [encWs w] (.tup [encI (doubtW w), encI (openW w true)]) := by
 by_cases hz : openW w true = 0
 ·obtain ⟨hok, his, hcan⟩ := openW_ok hz
  have hop := open_yes hn hz
  have hco := doubt67 w (gl w) true true [] [] hok.num (by simp) fun d hd => on_ne_nil hcan hd
  simp only [rowsK_nil] at hco
  have hT : doubtW w = doubtC (co w (gl w)) [] := if_pos hz
  refine pure_of (fn := Tryz.f25) [.tmp 2, .tmp 3] ⟨Tryz.func25, rfl, by kernel_rfl⟩ (by kernel_rfl) (by kernel_rfl) (by kernel_rfl) fun x hx hσ => ?_
  (repeat refine awp_seq ?_); refine awp_reg1 (by rw [hx]; kernel_rfl) fun K hK => ?_; simp (maxSteps := 1000000) [ty28, ty37]; refine hK _ ?_; clear hK K; (first | show AWP _ _ _ _ _ | show ∃ _, _ | skip)
  (repeat refine awp_seq ?_); refine awp_reg1 (by rw [hx]; kernel_rfl) fun K hK => ?_; simp (maxSteps := 1000000) [ty28, ty3]
  refine callP (hop) (by first | (simp; done) | (simp [*]; done)) ?_; simp (maxSteps := 1000000) [ty89]
  refine hK _ ?_; clear hK K; (first | show AWP _ _ _ _ _ | show ∃ _, _ | skip)
  (repeat refine awp_seq ?_); refine awp_reg1 (by rw [hx]; kernel_rfl) fun K hK => ?_; simp (maxSteps := 1000000) [ty37]; refine hK _ ?_; clear hK K; (first | show AWP _ _ _ _ _ | show ∃ _, _ | skip)
  (repeat refine awp_seq ?_); refine awp_cond (by simp; rfl) (by rw [hx]; simp) (fun hd => ?_) (fun hd => ?_)
  ·simp at hd
  ·clear hd
   refine awp_skip ?_; (first | show AWP _ _ _ _ _ | show ∃ _, _ | skip)
   (repeat refine awp_seq ?_); refine awp_reg1 (by rw [hx]; kernel_rfl) fun K hK => ?_; simp (maxSteps := 1000000) [ty89, ty3, ty87]
   refine callP (hco) (by first | (simp; done) | (simp [*]; done)) ?_; simp (maxSteps := 1000000) [ty3]
   refine hK _ ?_; clear hK K; (first | show AWP _ _ _ _ _ | show ∃ _, _ | skip)
   (repeat refine awp_seq ?_); refine awp_ret ?_; refine And.intro (Or.inr rfl) ?_
   simp [retC, resC, viewC, mapO, hT, hz]
 ·have hop := open_no hn hz
  have hT : doubtW w = 0 := if_neg hz
  refine pure_of (fn := Tryz.f25) [.tmp 2, .tmp 3] ⟨Tryz.func25, rfl, by kernel_rfl⟩ (by kernel_rfl) (by kernel_rfl) (by kernel_rfl) fun x hx hσ => ?_
  (repeat refine awp_seq ?_); refine awp_reg1 (by rw [hx]; kernel_rfl) fun K hK => ?_; simp (maxSteps := 1000000) [ty28, ty37]; refine hK _ ?_; clear hK K; (first | show AWP _ _ _ _ _ | show ∃ _, _ | skip)
  (repeat refine awp_seq ?_); refine awp_reg1 (by rw [hx]; kernel_rfl) fun K hK => ?_; simp (maxSteps := 1000000) [ty28, ty3]
  refine callP (hop) (by first | (simp; done) | (simp [*]; done)) ?_; simp (maxSteps := 1000000) [ty89]
  refine hK _ ?_; clear hK K; (first | show AWP _ _ _ _ _ | show ∃ _, _ | skip)
  (repeat refine awp_seq ?_); refine awp_reg1 (by rw [hx]; kernel_rfl) fun K hK => ?_; simp (maxSteps := 1000000) [ty37]; refine hK _ ?_; clear hK K; (first | show AWP _ _ _ _ _ | show ∃ _, _ | skip)
  (repeat refine awp_seq ?_); refine awp_cond (by simp [hz]; rfl) (by rw [hx]; simp) (fun hd => ?_) (fun hd => ?_)
  ·clear hd
   (repeat refine awp_seq ?_); refine awp_reg1 (by rw [hx]; kernel_rfl) fun K hK => ?_; simp (maxSteps := 1000000) [ty37]; refine hK _ ?_; clear hK K; (first | show AWP _ _ _ _ _ | show ∃ _, _ | skip)
   (repeat refine awp_seq ?_); refine awp_ret ?_; refine And.intro (Or.inr rfl) ?_
   simp [retC, resC, viewC, mapO, hT]
  ·simp [hz] at hd

set_option maxHeartbeats 4000000

theorem q_check30 (t : Ti) (hn : TiLen t) : Pure Tryz.prog 78 [encTi t] (encI (checkT t)) := by
 have hlt := hn.ts
 refine pure_of (fn := Tryz.f78) [.tmp 2] ⟨Tryz.func78, rfl, by kernel_rfl⟩ (by kernel_rfl) (by kernel_rfl) (by kernel_rfl) fun x hx hσ => ?_
 (repeat refine awp_seq ?_); refine awp_reg1 (by rw [hx]; kernel_rfl) fun K hK => ?_; simp (maxSteps := 1000000) [ty62]; refine hK _ ?_; clear hK K; (first | show AWP _ _ _ _ _ | show ∃ _, _ | skip)
 have c1 := q_within60 t.gain 0 50
 cases h1 : withinB t.gain 0 50
 ·rw [h1] at c1
  have hT : checkT t = 90 := by unfold checkT; rw [if_pos (.inl (by simpa [withinB] using h1))]
  (repeat refine awp_seq ?_); refine awp_reg1 (by rw [hx]; kernel_rfl) fun K hK => ?_; simp (maxSteps := 1000000) [ty62, ty3]
  refine callP (c1) (by first | (simp; done) | (simp [*]; done)) ?_; simp (maxSteps := 1000000) []
  refine hK _ ?_; clear hK K; (first | show AWP _ _ _ _ _ | show ∃ _, _ | skip)
  (repeat refine awp_seq ?_); refine awp_cond (by simp; rfl) (by rw [hx]; simp) (fun hd => ?_) (fun hd => ?_)
  ·clear hd
   (repeat refine awp_seq ?_); refine awp_reg1 (by rw [hx]; kernel_rfl) fun K hK => ?_; simp (maxSteps := 1000000) []; refine hK _ ?_; clear hK K; (first | show AWP _ _ _ _ _ | show ∃ _, _ | skip)
   (repeat refine awp_seq ?_); refine awp_ret ?_; refine And.intro (Or.inr rfl) ?_
   simp [retC, resC, viewC, mapO, hT]
  ·simp at hd
 ·rw [h1] at c1
  by_cases h6 : (6 : Int) < (t.ts.length : Int)
  ·have hT : checkT t = 90 := by unfold checkT; rw [if_pos (.inr (.inl (by omega)))]
   (repeat refine awp_seq ?_); refine awp_reg1 (by rw [hx]; kernel_rfl) fun K hK => ?_; simp (maxSteps := 1000000) [ty62, ty3]
   refine callP (c1) (by first | (simp; done) | (simp [*]; done)) ?_; simp (maxSteps := 1000000) [ty62, ty51, ty3, h6]
   refine hK _ ?_; clear hK K; (first | show AWP _ _ _ _ _ | show ∃ _, _ | skip)
   (repeat refine awp_seq ?_); refine awp_cond (by simp [h6]; rfl) (by rw [hx]; simp) (fun hd => ?_) (fun hd => ?_)
   ·clear hd
    (repeat refine awp_seq ?_); refine awp_reg1 (by rw [hx]; kernel_rfl) fun K hK => ?_; simp (maxSteps := 1000000) []; refine hK _ ?_; clear hK K; (first | show AWP _ _ _ _ _ | show ∃ _, _ | skip)
    (repeat refine awp_seq ?_); refine awp_ret ?_; refine And.intro (Or.inr rfl) ?_
    simp [retC, resC, viewC, mapO, hT]
   ·simp [h6] at hd
  ·(repeat refine awp_seq ?_); refine awp_reg1 (by rw [hx]; kernel_rfl) fun K hK => ?_; simp (maxSteps := 1000000) [ty62, ty3]
   refine callP (c1) (by first | (simp; done) | (simp [*]; done)) ?_; simp (maxSteps := 1000000) [ty62, ty51, ty3, h6]
   refine hK _ ?_; clear hK K; (first | show AWP _ _ _ _ _ | show ∃ _, _ | skip)
   (repeat refine awp_seq ?_); refine awp_cond (by simp [h6]; rfl) (by rw [hx]; simp) (fun hd => ?_) (fun hd => ?_)
   ·simp [h6] at hd
   ·clear hd
    refine awp_skip ?_; (first | show AWP _ _ _ _ _ | show ∃ _, _ | skip)
    (repeat refine awp_seq ?_); refine awp_reg1 (by rw [hx]; kernel_rfl) fun K hK => ?_; simp (maxSteps := 1000000) []; refine hK _ ?_; clear hK K; (first | show AWP _ _ _ _ _ | show ∃ _, _ | skip)
    (repeat refine awp_seq ?_); refine awp_block ?_
    refine awp_loop (fun i : Nat => ⟨ofL [(1, .ptr 1 10 0 0), (3, encI i)], stoT [(1, 1, .live (obTi t))]⟩)
     (fun i => i ≤ t.ts.length ∧ ∀ j, (h : j < t.ts.length) → j < i → areaB t.ts[j].area = true) (fun i => t.ts.length - i) 0 (by simp) ?_ ?_
    ·refine wk_shape (shp0 hσ (by simp) (by simp) ?_) ?_
     ·simp [SlotOk] <;> (repeat' (first | exact .same (by simp [purel, C.isPure]) | exact .cons (by simp [mtl, mtc, mT, mH, C.isPure, purel]) (by simp) .nil | refine And.intro ?_ ?_))
     ·simp [mtc, mtl, mT, C.isPure, purel] <;> (try simp (disch := omega) [wrap_id]) <;> (try omega)
    ·intro i ⟨hi, hj⟩
     (repeat refine awp_seq ?_); refine awp_reg1 (by rw [hx]; kernel_rfl) fun K hK => ?_; simp (maxSteps := 1000000) [ty62, ty51, ty3]; refine hK _ ?_; clear hK K; (first | show AWP _ _ _ _ _ | show ∃ _, _ | skip)
     (repeat refine awp_seq ?_); refine awp_cond (by simp; rfl) (by rw [hx]; simp) (fun hc => ?_) (fun hc => ?_)
     ·simp at hc
      refine awp_skip ?_; (first | show AWP _ _ _ _ _ | show ∃ _, _ | skip)
      (repeat refine awp_seq ?_); refine awp_block ?_
      have c2 := q_within60 t.ts[i].area 0 9000
      cases hb : areaB t.ts[i].area
      ·have hb' : withinB t.ts[i].area 0 9000 = false := by simpa [areaB, withinB] using hb
       rw [hb'] at c2
       (repeat refine awp_seq ?_); refine awp_reg1 (by rw [hx]; kernel_rfl) fun K hK => ?_; simp (maxSteps := 1000000) [ty62, ty51, ty119, ty3, hc]
       refine callP (c2) (by first | (simp; done) | (simp [*]; done)) ?_; simp (maxSteps := 1000000) []
       refine hK _ ?_; clear hK K; (first | show AWP _ _ _ _ _ | show ∃ _, _ | skip)
       have hT : checkT t = 90 := by
        have hal : t.ts.all (fun x => areaB x.area) = false := by
         rw [List.all_eq_false]
         exact ⟨_, List.getElem_mem hc, by rw [hb]; decide⟩
        unfold checkT; rw [if_pos (.inr (.inr hal))]
       (repeat refine awp_seq ?_); refine awp_cond (by simp; rfl) (by rw [hx]; simp) (fun hd => ?_) (fun hd => ?_)
       ·clear hd
        (repeat refine awp_seq ?_); refine awp_reg1 (by rw [hx]; kernel_rfl) fun K hK => ?_; simp (maxSteps := 1000000) []; refine hK _ ?_; clear hK K; (first | show AWP _ _ _ _ _ | show ∃ _, _ | skip)
        (repeat refine awp_seq ?_); refine awp_ret ?_; refine And.intro (Or.inr rfl) ?_
        simp [retC, resC, viewC, mapO, hT]
       ·simp at hd
      ·have hb' : withinB t.ts[i].area 0 9000 = true := by simpa [areaB, withinB] using hb
       rw [hb'] at c2
       (repeat refine awp_seq ?_); refine awp_reg1 (by rw [hx]; kernel_rfl) fun K hK => ?_; simp (maxSteps := 1000000) [ty62, ty51, ty119, ty3, hc]
       refine callP (c2) (by first | (simp; done) | (simp [*]; done)) ?_; simp (maxSteps := 1000000) []
       refine hK _ ?_; clear hK K; (first | show AWP _ _ _ _ _ | show ∃ _, _ | skip)
       (repeat refine awp_seq ?_); refine awp_cond (by simp; rfl) (by rw [hx]; simp) (fun hd => ?_) (fun hd => ?_)
       ·simp at hd
       ·clear hd
        refine awp_skip ?_; (first | show AWP _ _ _ _ _ | show ∃ _, _ | skip)
        (repeat refine awp_seq ?_); refine awp_reg1 (by rw [hx]; kernel_rfl) fun K hK => ?_; simp (maxSteps := 1000000) [ty3]; refine hK _ ?_; clear hK K; (first | show AWP _ _ _ _ _ | show ∃ _, _ | skip)
        rw [wrap_id (by omega) (by omega)]
        refine ⟨i + 1, ⟨by omega, fun j h4 h5 => ?_⟩, by omega, ?_⟩
        ·by_cases e : j = i
         ·subst e; exact hb
         ·exact hj j h4 (by omega)
        ·refine wk_shape (shp0 hσ (by simp) (by simp) ?_) ?_
         ·simp [SlotOk] <;> (repeat' (first | exact .same (by simp [purel, C.isPure]) | exact .cons (by simp [mtl, mtc, mT, mH, C.isPure, purel]) (by simp) .nil | refine And.intro ?_ ?_))
         ·simp [mtc, mtl, mT, C.isPure, purel] <;> (try simp (disch := omega) [wrap_id]) <;> (try omega)
     ·simp at hc
      (repeat refine awp_seq ?_); refine awp_exit ?_; (first | show AWP _ _ _ _ _ | show ∃ _, _ | skip)
      have hal : t.ts.all (fun x => areaB x.area) = true := by
       rw [List.all_eq_true]
       intro y hy
       obtain ⟨j, h4, rfl⟩ := List.getElem_of_mem hy
       exact hj j h4 (by omega)
      have hT : checkT t = (if t.ts = [] then checkI t.w [] else checksI t.w t.ts) := by
       unfold checkT; rw [if_neg]
       rintro (h | h | h)
       ·have : withinB t.gain 0 50 = false := by simpa [withinB] using h
        rw [h1] at this; cases this
       ·omega
       ·rw [hal] at h; cases h
      (repeat refine awp_seq ?_); refine awp_reg1 (by rw [hx]; kernel_rfl) fun K hK => ?_; simp (maxSteps := 1000000) []; refine hK _ ?_; clear hK K; (first | show AWP _ _ _ _ _ | show ∃ _, _ | skip)
      (repeat refine awp_seq ?_); refine awp_block ?_
      refine awp_loop (fun i : Nat => ⟨ofL [(1, .ptr 1 10 0 0), (4, encI i)], stoT [(1, 1, .live (obTi t))]⟩)
       (fun i => i ≤ t.ts.length ∧ ∀ j, (h : j < t.ts.length) → j < i → checkI t.w t.ts[j].l = 0) (fun i => t.ts.length - i) 0 (by simp) ?_ ?_
      ·refine wk_shape (shp0 hσ (by simp) (by simp) ?_) ?_
       ·simp [SlotOk] <;> (repeat' (first | exact .same (by simp [purel, C.isPure]) | exact .cons (by simp [mtl, mtc, mT, mH, C.isPure, purel]) (by simp) .nil | refine And.intro ?_ ?_))
       ·simp [mtc, mtl, mT, C.isPure, purel] <;> (try simp (disch := omega) [wrap_id]) <;> (try omega)
      ·intro i ⟨hi, hj⟩
       (repeat refine awp_seq ?_); refine awp_reg1 (by rw [hx]; kernel_rfl) fun K hK => ?_; simp (maxSteps := 1000000) [ty62, ty51, ty3]; refine hK _ ?_; clear hK K; (first | show AWP _ _ _ _ _ | show ∃ _, _ | skip)
       (repeat refine awp_seq ?_); refine awp_cond (by simp; rfl) (by rw [hx]; simp) (fun hc => ?_) (fun hc => ?_)
       ·simp at hc
        refine awp_skip ?_; (first | show AWP _ _ _ _ _ | show ∃ _, _ | skip)
        (repeat refine awp_seq ?_); refine awp_block ?_
        have h0 : t.ts ≠ [] := by intro e; rw [e] at hc; simp at hc
        (repeat refine awp_seq ?_); refine awp_drw3 [] [0, 1, 2, 3, 4, 5, 6, 7, 8, 9] (by rw [hx]; kernel_rfl) (by kernel_rfl) (by kernel_rfl) (by kernel_rfl) fun K hK => ?_; simp (maxSteps := 1000000) [ty62, ty25, ty51, ty119, ty117, hc]
        refine callPD (ref31 t.w t.ts[i].nl t.ts[i].fu t.ts[i].l (hn.l _ (List.getElem_mem hc))) (by first | (simp; done) | (simp [*]; done)) (by simp) ?_; simp (maxSteps := 1000000) []
        refine hK _ ?_; clear hK K; (first | show AWP _ _ _ _ _ | show ∃ _, _ | skip)
        (repeat refine awp_seq ?_); refine awp_reg1 (by rw [hx]; kernel_rfl) fun K hK => ?_; simp (maxSteps := 1000000) [ty37]; refine hK _ ?_; clear hK K; (first | show AWP _ _ _ _ _ | show ∃ _, _ | skip)
        by_cases hz : checkI t.w t.ts[i].l = 0
        ·(repeat refine awp_seq ?_); refine awp_cond (by simp [hz]; rfl) (by rw [hx]; simp) (fun hd => ?_) (fun hd => ?_)
         ·simp at hd
         ·clear hd
          refine awp_skip ?_; (first | show AWP _ _ _ _ _ | show ∃ _, _ | skip)
          (repeat refine awp_seq ?_); refine awp_reg1 (by rw [hx]; kernel_rfl) fun K hK => ?_; simp (maxSteps := 1000000) [ty3]; refine hK _ ?_; clear hK K; (first | show AWP _ _ _ _ _ | show ∃ _, _ | skip)
          rw [wrap_id (by omega) (by omega)]
          refine ⟨i + 1, ⟨by omega, fun j h4 h5 => ?_⟩, by omega, ?_⟩
          ·by_cases e : j = i
           ·subst e; exact hz
           ·exact hj j h4 (by omega)
          ·refine wk_shape (shp0 hσ (by simp) (by simp) ?_) ?_
           ·simp [SlotOk] <;> (repeat' (first | exact .same (by simp [purel, C.isPure]) | exact .cons (by simp [mtl, mtc, mT, mH, C.isPure, purel]) (by simp) .nil | refine And.intro ?_ ?_))
           ·simp [mtc, mtl, mT, C.isPure, purel] <;> (try simp (disch := omega) [wrap_id]) <;> (try omega)
        ·(repeat refine awp_seq ?_); refine awp_cond (by simp [hz]; rfl) (by rw [hx]; simp) (fun hd => ?_) (fun hd => ?_)
         ·clear hd
          (repeat refine awp_seq ?_); refine awp_reg1 (by rw [hx]; kernel_rfl) fun K hK => ?_; simp (maxSteps := 1000000) []; refine hK _ ?_; clear hK K; (first | show AWP _ _ _ _ _ | show ∃ _, _ | skip)
          (repeat refine awp_seq ?_); refine awp_ret ?_; refine And.intro (Or.inr rfl) ?_
          simp [retC, resC, viewC, mapO, hT, h0, checksI_at hc hj hz]
         ·simp [hz] at hd
       ·simp at hc
        (repeat refine awp_seq ?_); refine awp_exit ?_; (first | show AWP _ _ _ _ _ | show ∃ _, _ | skip)
        (repeat refine awp_seq ?_); refine awp_reg1 (by rw [hx]; kernel_rfl) fun K hK => ?_; simp (maxSteps := 1000000) [ty62, ty25]
        refine callP (ref31 t.w true true [] (by simp)) (by first | (simp; done) | (simp [*]; done)) ?_; simp (maxSteps := 1000000) []
        refine hK _ ?_; clear hK K; (first | show AWP _ _ _ _ _ | show ∃ _, _ | skip)
        (repeat refine awp_seq ?_); refine awp_ret ?_; refine And.intro (Or.inr rfl) ?_
        have hjj : ∀ j, (h : j < t.ts.length) → checkI t.w t.ts[j].l = 0 := fun j h => hj j h (by omega)
        by_cases h0 : t.ts = []
        ·simp [retC, resC, viewC, mapO, hT, h0]
        ·have hw0 : checkI t.w [] = 0 := by
          obtain ⟨y, hy⟩ := List.exists_mem_of_ne_nil _ h0
          obtain ⟨j, h4, rfl⟩ := List.getElem_of_mem hy
          have := wheelB_iff.2 (checkI_ok (hjj j h4)).1
          simp [checkI, this]
         simp [retC, resC, viewC, mapO, hT, h0, checksI_all hjj, hw0]

/-- The truths that are known. -/
def knownT (t : Ti) (is : Bool) : List Tr := if openT t is = 0 then truthsS t (allS t) else []

set_option maxHeartbeats 4000000

theorem truthsS_sorted (t : Ti) (n : Nat) : (truthsS t n).Pairwise fun a b => a.area ≤ b.area := (allT_sorted (gwT t)).filter _

theorem gains_nums (t : Ti) : areasR (knownT t true) = numsT Tr.area t true := by
 unfold knownT numsT
 split
 ·exact areasR_eq (truthsS_sorted t _)
 ·rfl

set_option maxHeartbeats 4000000

set_option maxHeartbeats 4000000

/-- The numbers are those of tests. -/
def InT (t : Ti) (l : List Int) : Prop := ∀ z ∈ l, 0 ≤ z ∧ z < t.ts.length

theorem InT.take {t : Ti} {l : List Int} (h : InT t l) (i : Nat) : InT t (l.take i) := fun z hz => h z (List.mem_of_mem_take hz)

@[simp] abbrev cTo (t : Ti) (c : C) : List C := [encI t.w.full, encI t.w.read, encI t.w.slip, encI t.w.skew, encI t.w.circle, encI t.w.glow, encI t.w.ghigh, encI t.w.wrong, encI t.gain, c]

set_option maxHeartbeats 4000000

/-- What a list of tests is like at a place. -/
def ListAt (n : Nat) (l : List Int) (i : Nat) (h : i < l.length) : Prop := (0 ≤ l[i] ∧ l[i] ≤ (n : Int) - 1) ∧ (∀ _ : 0 < i, l[i - 1] < l[i])
/-- The numbers are those of tests, strictly ascending. -/
def ListOk (n : Nat) (l : List Int) : Prop := ∀ i (h : i < l.length), ListAt n l i h

instance (n : Nat) (l : List Int) (i : Nat) (h : i < l.length) : Decidable (ListAt n l i h) := by unfold ListAt; exact inferInstance
instance (n : Nat) (l : List Int) : Decidable (ListOk n l) := by unfold ListOk; exact inferInstance

set_option maxHeartbeats 4000000

-- plain laws of sets and lists

theorem fixTo_mem (q : Nat → Bool) (z : Int) : ∀ n, z ∈ fixTo q n ↔ ∃ i, i < n ∧ q i = true ∧ z = i
 | 0 => by simp
 | n + 1 => by
  have ih := fixTo_mem q z n
  simp only [fixTo]
  split
  ·rename_i h
   rw [List.mem_append, ih, List.mem_singleton]
   constructor
   ·rintro (⟨i, h1, h2, h3⟩ | h1)
    ·exact ⟨i, by omega, h2, h3⟩
    ·exact ⟨n, by omega, h, h1⟩
   ·rintro ⟨i, h1, h2, h3⟩
    by_cases e : i = n
    ·subst e; exact .inr h3
    ·exact .inl ⟨i, by omega, h2, h3⟩
  ·rename_i h
   rw [ih]
   constructor
   ·rintro ⟨i, h1, h2, h3⟩; exact ⟨i, by omega, h2, h3⟩
   ·rintro ⟨i, h1, h2, h3⟩
    by_cases e : i = n
    ·subst e; exact absurd h2 h
    ·exact ⟨i, by omega, h2, h3⟩

theorem ListOk.lt {n : Nat} {l : List Int} (h : ListOk n l) : l.Pairwise (· < ·) := by
 refine List.pairwise_iff_getElem.2 fun i j hi hj hij => ?_
 obtain ⟨d, rfl⟩ : ∃ d, j = i + 1 + d := ⟨j - i - 1, by omega⟩
 clear hij
 induction d with
 | zero => exact (h (i + 1) hj).2 (by omega)
 | succ d ih =>
  have h1 := ih (by omega)
  have h2 := (h (i + 1 + (d + 1)) hj).2 (by omega)
  simp only [show i + 1 + (d + 1) - 1 = i + 1 + d by omega] at h2
  exact Int.lt_trans h1 h2

set_option maxHeartbeats 8000000

@[simp] abbrev slF (A : List Int) : C := .sl A.isEmpty false (A.map cI)
def rowsF (t : Ti) (S : List Nat) : List (List C) := S.map fun s => [slF (listS t s)]

@[simp] theorem rowsF_len (t : Ti) (S : List Nat) : (rowsF t S).length = S.length := by simp [rowsF]
@[simp] theorem rowsF_pure (t : Ti) (S : List Nat) : (rowsF t S).all purel = true := by simp [rowsF, purel, C.isPure]
set_option maxHeartbeats 8000000

set_option maxHeartbeats 8000000

def copyY (y : Ts) : Ts := { y with nl := false, fu := false }
/-- An equal trial in new memory. -/
def copyT (t : Ti) : Ti := { t with nl := t.ts.isEmpty, fu := false, ts := t.ts.map copyY }

theorem set_last {α : Type} (A : List α) (x y : α) {n : Nat} (h : n = A.length) : (A ++ [x]).set n y = A ++ [y] := by
 subst h
 rw [List.set_append_right _ _ (Nat.le_refl _)]
 simp

theorem q_copy10 (t : Ti) (hl : TiLen t) : Pure Tryz.prog 66 [encTi t] (encTi (copyT t)) := by
  have hlt := hl.ts
  obtain ⟨U, hU⟩ : ∃ U : Nat → List Ts, ∀ i, U i = (t.ts.take i).map copyY := ⟨_, fun _ => rfl⟩
  have hU0 : U 0 = [] := by rw [hU]; rfl
  have hUl : ∀ i, i ≤ t.ts.length → (U i).length = i := fun i hi => by rw [hU]; simp; omega
  have hUs : ∀ i (hi : i < t.ts.length), U (i + 1) = U i ++ [copyY t.ts[i]] := fun i hi => by rw [hU, hU, List.take_succ_eq_append_getElem hi, List.map_append]; rfl
  have hUn : t.ts.map copyY = U t.ts.length := by rw [hU, List.take_length]
  unfold copyT
  rw [hUn]
  clear hUn hU
  refine pure_of (fn := Tryz.f66) [.cell 2 62] ⟨Tryz.func66, rfl, by kernel_rfl⟩ (by kernel_rfl) (by kernel_rfl) (by kernel_rfl) fun x hx hσ => ?_
  (repeat refine awp_seq ?_); refine awp_reg1 (by rw [hx]; kernel_rfl) fun K hK => ?_; simp (maxSteps := 1000000) [ty62]; refine hK _ ?_; clear hK K; (first | show AWP _ _ _ _ _ | show ∃ _, _ | skip)
  (repeat refine awp_seq ?_); refine awp_reg1 (by rw [hx]; kernel_rfl) fun K hK => ?_; simp (maxSteps := 1000000) [ty62]; refine hK _ ?_; clear hK K; (first | show AWP _ _ _ _ _ | show ∃ _, _ | skip)
  (repeat refine awp_seq ?_); refine awp_reg1 (by rw [hx]; kernel_rfl) fun K hK => ?_; simp (maxSteps := 1000000) [ty62, ty51]; refine hK _ ?_; clear hK K; (first | show AWP _ _ _ _ _ | show ∃ _, _ | skip)
  (repeat refine awp_seq ?_); refine awp_reg1 (by rw [hx]; kernel_rfl) fun K hK => ?_; simp (maxSteps := 1000000) []; refine hK _ ?_; clear hK K; (first | show AWP _ _ _ _ _ | show ∃ _, _ | skip)
  (repeat refine awp_seq ?_); refine awp_block ?_
  refine AWP.weak ?_ (wk_nilCell 3 0 9 1000 2 (o := ⟨false, false, 10, [cTo t (.sl true true [])]⟩) (row := cTo t (.sl true true [])) (fu := true) (by simp) rfl rfl rfl (by simp) (by decide))
  refine awp_loop (fun i : Nat => ⟨ofL [(1, .ptr 1 10 0 0), (2, .ptr 2 10 0 0), (3, .ptr 3 10 0 0), (4, encI i)],
      stoT [(1, 1, .live (obTi t)), (2, 2, .live ⟨false, false, 10, [[encI 0, encI 0, encI 0, encI 0, encI 0, encI 0, encI 0, encI 0, encI 0, .sl true true []]]⟩), (3, 3, .live ⟨false, false, 10, [cTo t (.own 1000 2 0 i)]⟩), (1000, 1000, .live ⟨(U i).isEmpty, false, 2, (U i).map cTs⟩)]⟩)
    (fun i => i ≤ t.ts.length) (fun i => t.ts.length - i) 0 (by simp) ?_ ?_
  · refine wk_shape (shp0 hσ (by simp) (by simp) ?_) ?_
    · simp [SlotOk, hU0] <;> (repeat' (first | (refine RowsOk.same ?_; simp [purel, C.isPure]; done) | (refine rowsCons ?_; simp [mtl, mtc, mT, mH, C.isPure, purel]; done) | (refine rowsCons ?_; simp [mtl, mtc, mT, mH, C.isPure, purel]) | refine And.intro ?_ ?_))
    · simp [mtc, mtl, mT, C.isPure, purel, hU0] <;> (try simp (disch := omega) [wrap_id]) <;> (try omega)
  · intro i hi
    have hUi := hUl i hi
    (repeat refine awp_seq ?_); refine awp_reg1 (by rw [hx]; kernel_rfl) fun K hK => ?_; simp (maxSteps := 1000000) [ty62, ty51, ty3]; refine hK _ ?_; clear hK K; (first | show AWP _ _ _ _ _ | show ∃ _, _ | skip)
    (repeat refine awp_seq ?_); refine awp_cond (by simp; rfl) (by rw [hx]; simp) (fun hc => ?_) (fun hc => ?_)
    · simp at hc
      refine awp_skip ?_; (first | show AWP _ _ _ _ _ | show ∃ _, _ | skip)
      (repeat refine awp_seq ?_); refine awp_block ?_
      have hst := hUs i hc
      have hln := hl.l _ (List.getElem_mem hc)
      obtain ⟨y, hy⟩ : ∃ y, y = t.ts[i] := ⟨_, rfl⟩
      generalize hV : U i = V at *
      have hwi : IntKind.i64.wrap ((i : Int) + 1) = ((i + 1 : Nat) : Int) := by rw [wrap_id (by omega) (by omega)]; rfl
      (repeat refine awp_seq ?_); refine awp_drw3 [1001, 1003, 1007, 1010, 1014, 15, 17, 5018, 11000] [0, 1, 2, 3, 4, 5, 6, 7, 8, 9, 10, 11, 12, 13, 14, 15, 16, 17, 18, 19, 20] (by rw [hx]; kernel_rfl) (by kernel_rfl) (by kernel_rfl) (by kernel_rfl) fun K hK => ?_; simp (maxSteps := 1000000) [ty62, ty51, ty3, ty119, ty117, ty121, hc, ← hy]
      refine ⟨⟨by rw [hy]; omega, by rw [hy]; omega⟩, ⟨by omega, by omega, by omega⟩, ?_⟩
      refine hK _ ?_; clear hK K; (first | show AWP _ _ _ _ _ | show ∃ _, _ | skip)
      rw [← hy] at hst
      refine AWP.weak ?_ (wk_frzCell 29 32 i 1 (o := ⟨y.l.isEmpty, true, 5, y.l.map cWl⟩) (oq := ⟨false, false, 2, V.map cTs ++ [[encI y.area, .own 29 5 0 y.l.length]]⟩) (row := [encI y.area, .own 29 5 0 y.l.length]) (c := .own 29 5 0 y.l.length) (c' := sWl false false y.l) (by simp) (by simp [purel, C.isPure]) (by simp) (by decide) rfl
        (by show (V.map cTs ++ [[encI y.area, .own 29 5 0 y.l.length]])[i]? = _
            rw [List.getElem?_append_right (by simp; omega)]
            simp [hUi]) rfl (by
        have := fz_own (k := 29) (sz := 5) (n := y.l.length) (b := false) (o := ⟨y.l.isEmpty, true, 5, y.l.map cWl⟩) rfl (by simp) (by simp)
        simpa using this) rfl)
      have hset : (V.map cTs ++ [[encI y.area, .own 29 5 0 y.l.length]]).set i [encI y.area, sWl false false y.l] = (V ++ [copyY y]).map cTs := by
        rw [set_last _ _ _ (by simp [hUi])]
        simp [copyY]
      simp only [List.set_cons_succ, List.set_cons_zero]
      rw [hset]
      (repeat refine awp_seq ?_); refine awp_reg1 (by rw [hx]; kernel_rfl) fun K hK => ?_; simp (maxSteps := 1000000) [ty3]; refine hK _ ?_; clear hK K; (first | show AWP _ _ _ _ _ | show ∃ _, _ | skip)
      refine ⟨i + 1, by omega, by omega, ?_⟩
      rw [hst, hwi]
      refine wk_shape2 [(1, 1, .live (obTi t)), (2, 2, .live ⟨false, false, 10, [[encI 0, encI 0, encI 0, encI 0, encI 0, encI 0, encI 0, encI 0, encI 0, .sl true true []]]⟩), (3, 3, .live ⟨false, false, 10, [cTo t (.own 1000 2 0 (i + 1))]⟩), (1000, 32, .live ⟨(V ++ [copyY y]).isEmpty, false, 2, (V ++ [copyY y]).map cTs⟩)] (by first | rfl | (simp only [if_pos, if_true]; rfl)) (shp0 hσ (by simp) (by simp) ?_) ?_
      · simp [SlotOk] <;> (repeat' (first | (refine RowsOk.same ?_; simp [purel, C.isPure]; done) | (refine rowsCons ?_; simp [mtl, mtc, mT, mH, C.isPure, purel]; done) | (refine rowsCons ?_; simp [mtl, mtc, mT, mH, C.isPure, purel]) | refine And.intro ?_ ?_))
      · simp [mtc, mtl, mT, C.isPure, purel] <;> (try simp (disch := omega) [wrap_id]) <;> (try omega)
    · simp at hc
      (repeat refine awp_seq ?_); refine awp_exit ?_; (first | show AWP _ _ _ _ _ | show ∃ _, _ | skip)
      have hin : i = t.ts.length := by omega
      rw [hin] at hUi ⊢
      have hem : (U t.ts.length).isEmpty = t.ts.isEmpty := by
        cases h1 : U t.ts.length <;> cases h2 : t.ts <;> rw [h1, h2] at hUi <;> simp at hUi <;> rfl
      generalize U t.ts.length = V at *
      rw [hem]
      refine AWP.weak ?_ (wk_frzCell 1000 3 0 9 (o := ⟨t.ts.isEmpty, false, 2, V.map cTs⟩) (oq := ⟨false, false, 10, [cTo t (.own 1000 2 0 t.ts.length)]⟩) (row := cTo t (.own 1000 2 0 t.ts.length)) (c := .own 1000 2 0 t.ts.length) (c' := sTs t.ts.isEmpty false V) (by simp) (by simp [purel, C.isPure]) (by simp) (by decide) rfl rfl rfl (fz_own rfl (by simp [hUi]) (by simp)) rfl)
      (repeat refine awp_seq ?_); refine awp_reg1 (by rw [hx]; kernel_rfl) fun K hK => ?_; simp (maxSteps := 1000000) [ty62]; refine hK _ ?_; clear hK K; (first | show AWP _ _ _ _ _ | show ∃ _, _ | skip)
      (repeat refine awp_seq ?_); refine awp_ret ?_; refine And.intro (Or.inr rfl) ?_
      simp [retC, resC, viewC, mapO, ty62]

set_option maxHeartbeats 4000000

set_option maxHeartbeats 4000000

set_option maxHeartbeats 4000000

set_option maxHeartbeats 4000000

theorem fe23 : flatEq Tryz.prog 23 = some [.i64, .i64] := by kernel_rfl

theorem same29 (a1 a2 b1 b2 : Bool) (A B : List Int) (hn : A.length ≤ 1000000) (hm : B.length ≤ 1000000) : Pure Tryz.prog 38 [.sl a1 a2 (A.map cI), .sl b1 b2 (B.map cI)] (.bool (decide (A = B))) := by
 refine pure_of (fn := Tryz.f38) [.tmp 4] ⟨Tryz.func38, rfl, by kernel_rfl⟩ (by kernel_rfl) (by kernel_rfl) (by kernel_rfl) fun x hx hσ => ?_
 (repeat refine awp_seq ?_); refine awp_reg1 (by rw [hx]; kernel_rfl) fun K hK => ?_; simp (maxSteps := 1000000) []; refine hK _ ?_; clear hK K; (first | show AWP _ _ _ _ _ | show ∃ _, _ | skip)
 by_cases hl : A.length = B.length
 ·(repeat refine awp_seq ?_); refine awp_reg1 (by rw [hx]; kernel_rfl) fun K hK => ?_; simp (maxSteps := 1000000) [ty29, ty3, hl]; refine hK _ ?_; clear hK K; (first | show AWP _ _ _ _ _ | show ∃ _, _ | skip)
  (repeat refine awp_seq ?_); refine awp_cond (by simp [hl]; rfl) (by rw [hx]; simp) (fun hd => ?_) (fun hd => ?_)
  ·simp at hd
  ·clear hd
   refine awp_skip ?_; (first | show AWP _ _ _ _ _ | show ∃ _, _ | skip)
   (repeat refine awp_seq ?_); refine awp_reg1 (by rw [hx]; kernel_rfl) fun K hK => ?_; simp (maxSteps := 1000000) []; refine hK _ ?_; clear hK K; (first | show AWP _ _ _ _ _ | show ∃ _, _ | skip)
   (repeat refine awp_seq ?_); refine awp_block ?_
   refine awp_loop (fun i : Nat => ⟨ofL [(0, .sl a1 a2 (A.map cI)), (1, .sl b1 b2 (B.map cI)), (5, encI i)], stoT []⟩)
    (fun i => i ≤ A.length ∧ ∀ j (h1 : j < A.length) (h2 : j < B.length), j < i → A[j] = B[j]) (fun i => A.length - i) 0 ⟨Nat.zero_le _, fun j _ _ h => by omega⟩ ?_ ?_
   ·refine wk_shape (shp0 hσ (by simp) (by simp) ?_) ?_
    ·simp [SlotOk] <;> (repeat' (first | exact .same (by simp [purel, C.isPure]) | exact .cons (by simp [mtl, mtc, mT, mH, C.isPure, purel]) (by simp) .nil | refine And.intro ?_ ?_))
    ·simp [mtc, mtl, mT, C.isPure, purel] <;> (try simp (disch := omega) [wrap_id]) <;> (try omega)
   ·rintro i ⟨hi, hj⟩
    (repeat refine awp_seq ?_); refine awp_reg1 (by rw [hx]; kernel_rfl) fun K hK => ?_; simp (maxSteps := 1000000) [ty29, ty3]; refine hK _ ?_; clear hK K; (first | show AWP _ _ _ _ _ | show ∃ _, _ | skip)
    (repeat refine awp_seq ?_); refine awp_cond (by simp; rfl) (by rw [hx]; simp) (fun hc => ?_) (fun hc => ?_)
    ·simp at hc
     have hcB : i < B.length := by omega
     refine awp_skip ?_; (first | show AWP _ _ _ _ _ | show ∃ _, _ | skip)
     (repeat refine awp_seq ?_); refine awp_block ?_
     (repeat refine awp_seq ?_); refine awp_drw3 [] [0, 1, 2, 3, 4, 5, 6, 7, 8] (by rw [hx]; kernel_rfl) (by kernel_rfl) (by kernel_rfl) (by kernel_rfl) fun K hK => ?_; simp (maxSteps := 1000000) [ty29, ty3, hc, hcB]; refine hK _ ?_; clear hK K; (first | show AWP _ _ _ _ _ | show ∃ _, _ | skip)
     by_cases hb : A[i] = B[i]
     ·(repeat refine awp_seq ?_); refine awp_cond (by simp [hb]; rfl) (by rw [hx]; simp) (fun hd => ?_) (fun hd => ?_)
      ·simp [hb] at hd
      ·clear hd
       refine awp_skip ?_; (first | show AWP _ _ _ _ _ | show ∃ _, _ | skip)
       (repeat refine awp_seq ?_); refine awp_reg1 (by rw [hx]; kernel_rfl) fun K hK => ?_; simp (maxSteps := 1000000) [ty3]; refine hK _ ?_; clear hK K; (first | show AWP _ _ _ _ _ | show ∃ _, _ | skip)
       rw [wrap_id (by omega) (by omega)]
       refine ⟨i + 1, ⟨by omega, fun j h1 h2 h => ?_⟩, by omega, ?_⟩
       ·by_cases e : j = i
        ·subst e; exact hb
        ·exact hj j h1 h2 (by omega)
       ·refine wk_shape (shp0 hσ (by simp) (by simp) ?_) ?_
        ·simp [SlotOk] <;> (repeat' (first | exact .same (by simp [purel, C.isPure]) | exact .cons (by simp [mtl, mtc, mT, mH, C.isPure, purel]) (by simp) .nil | refine And.intro ?_ ?_))
        ·simp [mtc, mtl, mT, C.isPure, purel] <;> (try simp (disch := omega) [wrap_id]) <;> (try omega)
     ·(repeat refine awp_seq ?_); refine awp_cond (by simp [hb]; rfl) (by rw [hx]; simp) (fun hd => ?_) (fun hd => ?_)
      ·clear hd
       (repeat refine awp_seq ?_); refine awp_reg1 (by rw [hx]; kernel_rfl) fun K hK => ?_; simp (maxSteps := 1000000) []; refine hK _ ?_; clear hK K; (first | show AWP _ _ _ _ _ | show ∃ _, _ | skip)
       (repeat refine awp_seq ?_); refine awp_ret ?_; refine And.intro (Or.inr rfl) ?_
       have : decide (A = B) = false := by
        rw [decide_eq_false_iff_not]
        rintro rfl
        exact hb rfl
       rw [this]
       simp [retC, resC, viewC, mapO]
      ·simp [hb] at hd
    ·simp at hc
     (repeat refine awp_seq ?_); refine awp_exit ?_; (first | show AWP _ _ _ _ _ | show ∃ _, _ | skip)
     have : decide (A = B) = true := by
      rw [decide_eq_true_eq]
      exact List.ext_getElem hl fun j h1 h2 => hj j h1 h2 (by omega)
     rw [this]
     (repeat refine awp_seq ?_); refine awp_reg1 (by rw [hx]; kernel_rfl) fun K hK => ?_; simp (maxSteps := 1000000) []; refine hK _ ?_; clear hK K; (first | show AWP _ _ _ _ _ | show ∃ _, _ | skip)
     (repeat refine awp_seq ?_); refine awp_ret ?_; refine And.intro (Or.inr rfl) ?_
     simp [retC, resC, viewC, mapO]
 ·have : decide (A = B) = false := by
   rw [decide_eq_false_iff_not]
   rintro rfl
   exact hl rfl
  rw [this]
  (repeat refine awp_seq ?_); refine awp_reg1 (by rw [hx]; kernel_rfl) fun K hK => ?_; simp (maxSteps := 1000000) [ty29, ty3, hl]; refine hK _ ?_; clear hK K; (first | show AWP _ _ _ _ _ | show ∃ _, _ | skip)
  (repeat refine awp_seq ?_); refine awp_cond (by simp [hl]; rfl) (by rw [hx]; simp) (fun hd => ?_) (fun hd => ?_)
  ·clear hd
   (repeat refine awp_seq ?_); refine awp_reg1 (by rw [hx]; kernel_rfl) fun K hK => ?_; simp (maxSteps := 1000000) []; refine hK _ ?_; clear hK K; (first | show AWP _ _ _ _ _ | show ∃ _, _ | skip)
   (repeat refine awp_seq ?_); refine awp_ret ?_; refine And.intro (Or.inr rfl) ?_
   simp [retC, resC, viewC, mapO]
  ·simp at hd
   exact absurd (by omega) hl

set_option maxHeartbeats 4000000

def wX : Wh := ⟨100, 0, 0, 2, 0, 40, 60, 0⟩
def yA : Wl := ⟨1, 1, 0, 10, 62⟩
def yB : Wl := ⟨1, -1, 0, 62, 16⟩

theorem example48 : Pure Tryz.prog 96 [] (.tup [encWh wX, sWl false true [yA, yB]]) := by
 refine pure_of (fn := Tryz.f96) [.cell 0 25, .tmp 1] ⟨Tryz.func96, rfl, by kernel_rfl⟩ (by kernel_rfl) (by kernel_rfl) (by kernel_rfl) fun x hx hσ => ?_
 (repeat refine awp_seq ?_); refine awp_reg1 (by rw [hx]; kernel_rfl) fun K hK => ?_; simp (maxSteps := 1000000) [ty25]; refine hK _ ?_; clear hK K; (first | show AWP _ _ _ _ _ | show ∃ _, _ | skip)
 (repeat refine awp_seq ?_); refine awp_reg1 (by rw [hx]; kernel_rfl) fun K hK => ?_; simp (maxSteps := 1000000) [ty25, ty23, ty121, ty117]; refine hK _ ?_; clear hK K; (first | show AWP _ _ _ _ _ | show ∃ _, _ | skip)
 (repeat refine awp_seq ?_); refine awp_ret ?_; refine And.intro (Or.inr rfl) ?_
 simp [retC, resC, viewC, mapO, ty25, wX, yA, yB]

set_option maxHeartbeats 8000000

-- what the laws use: the example, what is far, what is the same

set_option maxHeartbeats 8000000

theorem least_ex {p : Nat → Prop} (h : ∃ n, p n) : ∃ n, p n ∧ ∀ m, m < n → ¬ p m := by
 obtain ⟨n, hn⟩ := h
 induction n using Nat.strongRecOn with
 | ind n ih =>
  by_cases g : ∃ m, m < n ∧ p m
  ·obtain ⟨m, hm, hp⟩ := g
   exact ih m hm hp
  ·exact ⟨n, hn, fun m hm hp => g ⟨m, hm, hp⟩⟩

def mxTo (l : List Ts) : Nat → Int
 | 0 => 0
 | i + 1 => let m := mxTo l i; let n : Int := match l[i]? with | some y => y.l.length | none => 0; if m < n then n else m

theorem mxTo_step {l : List Ts} {i : Nat} (hi : i < l.length) : mxTo l (i + 1) = if mxTo l i < (l[i].l.length : Int) then (l[i].l.length : Int) else mxTo l i := by
 simp only [mxTo, List.getElem?_eq_getElem hi]
theorem mxTo_bd {l : List Ts} (h : ∀ j (hj : j < l.length), l[j].l.length ≤ 20) : ∀ i, 0 ≤ mxTo l i ∧ mxTo l i ≤ 20
 | 0 => by simp [mxTo]
 | i + 1 => by
  have ih := mxTo_bd h i
  by_cases hi : i < l.length
  ·have := h i hi
   rw [mxTo_step hi]
   split <;> omega
  ·simp only [mxTo, List.getElem?_eq_none (by omega : l.length ≤ i)]
   split <;> omega


/-- What is far enough. -/
def NearT (t : Ti) : Prop := t.ts.length ≤ 20 ∧ ∀ y ∈ t.ts, y.l.length ≤ 20

theorem far8 (t : Ti) : ∃ b, Pure Tryz.prog 73 [encTi t] (.bool b) ∧ (b = false → NearT t) := by
 by_cases h20 : (20 : Int) < t.ts.length
 ·refine ⟨true, ?_, by simp⟩
  refine pure_of (fn := Tryz.f73) [.tmp 2] ⟨Tryz.func73, rfl, by kernel_rfl⟩ (by kernel_rfl) (by kernel_rfl) (by kernel_rfl) fun x hx hσ => ?_
  (repeat refine awp_seq ?_); refine awp_reg1 (by rw [hx]; kernel_rfl) fun K hK => ?_; simp (maxSteps := 1000000) [ty62]; refine hK _ ?_; clear hK K; (first | show AWP _ _ _ _ _ | show ∃ _, _ | skip)
  (repeat refine awp_seq ?_); refine awp_reg1 (by rw [hx]; kernel_rfl) fun K hK => ?_; simp (maxSteps := 1000000) [ty62, ty51, ty3, h20]; refine hK _ ?_; clear hK K; (first | show AWP _ _ _ _ _ | show ∃ _, _ | skip)
  (repeat refine awp_seq ?_); refine awp_cond (by simp [h20]; rfl) (by rw [hx]; simp) (fun hd => ?_) (fun hd => ?_)
  ·clear hd
   (repeat refine awp_seq ?_); refine awp_reg1 (by rw [hx]; kernel_rfl) fun K hK => ?_; simp (maxSteps := 1000000) []; refine hK _ ?_; clear hK K; (first | show AWP _ _ _ _ _ | show ∃ _, _ | skip)
   (repeat refine awp_seq ?_); refine awp_ret ?_; refine And.intro (Or.inr rfl) ?_
   simp [retC, resC, viewC, mapO]
  ·simp at hd
 ·by_cases hall : ∀ j (hj : j < t.ts.length), t.ts[j].l.length ≤ 20
  ·have hl : TiLen t := ⟨by omega, fun y hy => by
    obtain ⟨j, hj, rfl⟩ := List.getElem_of_mem hy
    have := hall j hj; omega⟩
   have hnear : NearT t := ⟨by omega, fun y hy => by
    obtain ⟨j, hj, rfl⟩ := List.getElem_of_mem hy
    exact hall j hj⟩
   have hmb := mxTo_bd hall
   obtain ⟨M, hM⟩ : ∃ M, (if (if t.w.read < t.w.slip then t.w.slip else t.w.read) < t.w.skew then t.w.skew else if t.w.read < t.w.slip then t.w.slip else t.w.read) = M := ⟨_, rfl⟩
   by_cases hz : checkT t = 0
   ·refine ⟨decide (2 < M) || decide (120 < t.w.full) || decide (6 < t.gain) || decide (4 < (t.ts.length : Int)) || decide (2 < mxTo t.ts t.ts.length), ?_, fun _ => hnear⟩
    refine pure_of (fn := Tryz.f73) [.tmp 2] ⟨Tryz.func73, rfl, by kernel_rfl⟩ (by kernel_rfl) (by kernel_rfl) (by kernel_rfl) fun x hx hσ => ?_
    (repeat refine awp_seq ?_); refine awp_reg1 (by rw [hx]; kernel_rfl) fun K hK => ?_; simp (maxSteps := 1000000) [ty62]; refine hK _ ?_; clear hK K; (first | show AWP _ _ _ _ _ | show ∃ _, _ | skip)
    (repeat refine awp_seq ?_); refine awp_reg1 (by rw [hx]; kernel_rfl) fun K hK => ?_; simp (maxSteps := 1000000) [ty62, ty51, ty3, h20]; refine hK _ ?_; clear hK K; (first | show AWP _ _ _ _ _ | show ∃ _, _ | skip)
    (repeat refine awp_seq ?_); refine awp_cond (by simp [h20]; rfl) (by rw [hx]; simp) (fun hd => ?_) (fun hd => ?_)
    ·simp at hd
    ·clear hd
     refine awp_skip ?_; (first | show AWP _ _ _ _ _ | show ∃ _, _ | skip)
     (repeat refine awp_seq ?_); refine awp_reg1 (by rw [hx]; kernel_rfl) fun K hK => ?_; simp (maxSteps := 1000000) []; refine hK _ ?_; clear hK K; (first | show AWP _ _ _ _ _ | show ∃ _, _ | skip)
     (repeat refine awp_seq ?_); refine awp_reg1 (by rw [hx]; kernel_rfl) fun K hK => ?_; simp (maxSteps := 1000000) []; refine hK _ ?_; clear hK K; (first | show AWP _ _ _ _ _ | show ∃ _, _ | skip)
     (repeat refine awp_seq ?_); refine awp_block ?_
     refine awp_loop (fun i : Nat => ⟨ofL [(1, .ptr 1 10 0 0), (3, encI (mxTo t.ts i)), (4, encI i)], stoT [(1, 1, .live (obTi t))]⟩)
      (fun i => i ≤ t.ts.length) (fun i => t.ts.length - i) 0 (Nat.zero_le _) ?_ ?_
     ·refine wk_shape (shp0 hσ (by simp) (by simp) ?_) ?_
      ·simp [SlotOk, mxTo] <;> (repeat' (first | (refine RowsOk.same ?_; simp [purel, C.isPure]; done) | (refine rowsCons ?_; simp [mtl, mtc, mT, mH, C.isPure, purel]; done) | (refine rowsCons ?_; simp [mtl, mtc, mT, mH, C.isPure, purel]) | refine And.intro ?_ ?_))
      ·simp [mtc, mtl, mT, C.isPure, purel, mxTo] <;> (try simp (disch := omega) [wrap_id]) <;> (try omega)
     ·intro i hi
      (repeat refine awp_seq ?_); refine awp_reg1 (by rw [hx]; kernel_rfl) fun K hK => ?_; simp (maxSteps := 1000000) [ty62, ty51, ty3]; refine hK _ ?_; clear hK K; (first | show AWP _ _ _ _ _ | show ∃ _, _ | skip)
      (repeat refine awp_seq ?_); refine awp_cond (by simp; rfl) (by rw [hx]; simp) (fun hc => ?_) (fun hc => ?_)
      ·simp at hc
       refine awp_skip ?_; (first | show AWP _ _ _ _ _ | show ∃ _, _ | skip)
       (repeat refine awp_seq ?_); refine awp_block ?_
       have hst := mxTo_step hc
       have hx20 : ¬ (20 : Int) < (t.ts[i].l.length : Int) := by have := hall i hc; omega
       have hwi : IntKind.i64.wrap ((i : Int) + 1) = ((i + 1 : Nat) : Int) := by rw [wrap_id (by omega) (by omega)]; rfl
       (repeat refine awp_seq ?_); refine awp_reg1 (by rw [hx]; kernel_rfl) fun K hK => ?_; simp (maxSteps := 1000000) [ty62, ty51, ty119, ty117, ty3, hc, hx20]; refine hK _ ?_; clear hK K; (first | show AWP _ _ _ _ _ | show ∃ _, _ | skip)
       (repeat refine awp_seq ?_); refine awp_cond (by simp [hx20]; rfl) (by rw [hx]; simp) (fun hd => ?_) (fun hd => ?_)
       ·simp [hx20] at hd
       ·clear hd
        refine awp_skip ?_; (first | show AWP _ _ _ _ _ | show ∃ _, _ | skip)
        (repeat refine awp_seq ?_); refine awp_reg1 (by rw [hx]; kernel_rfl) fun K hK => ?_; simp (maxSteps := 1000000) [ty62, ty51, ty119, ty117, ty3, hc]; refine hK _ ?_; clear hK K; (first | show AWP _ _ _ _ _ | show ∃ _, _ | skip)
        (repeat refine awp_seq ?_); refine awp_reg1 (by rw [hx]; kernel_rfl) fun K hK => ?_; simp (maxSteps := 1000000) [ty3]; refine hK _ ?_; clear hK K; (first | show AWP _ _ _ _ _ | show ∃ _, _ | skip)
        refine ⟨i + 1, by omega, by omega, ?_⟩
        rw [hst, hwi]
        refine wk_shape (shp0 hσ (by simp) (by simp) ?_) ?_
        ·simp [SlotOk] <;> (repeat' (first | (refine RowsOk.same ?_; simp [purel, C.isPure]; done) | (refine rowsCons ?_; simp [mtl, mtc, mT, mH, C.isPure, purel]; done) | (refine rowsCons ?_; simp [mtl, mtc, mT, mH, C.isPure, purel]) | refine And.intro ?_ ?_))
        ·simp [mtc, mtl, mT, C.isPure, purel] <;> (try simp (disch := omega) [wrap_id]) <;> (try omega)
      ·simp at hc
       (repeat refine awp_seq ?_); refine awp_exit ?_; (first | show AWP _ _ _ _ _ | show ∃ _, _ | skip)
       have hin : i = t.ts.length := by omega
       rw [hin]
       generalize mxTo t.ts t.ts.length = X at *
       by_cases h1 : 2 < M
       ·(repeat refine awp_seq ?_); refine awp_reg1 (by rw [hx]; kernel_rfl) fun K hK => ?_; simp (maxSteps := 1000000) [ty62]
        refine callP (q_check30 t hl) (by first | (simp; done) | (simp [*]; done)) ?_; simp (maxSteps := 1000000) [ty37, hz, ty3, ty62, ty25, ty51, hM, h1]
        refine hK _ ?_; clear hK K; (first | show AWP _ _ _ _ _ | show ∃ _, _ | skip)
        (repeat refine awp_seq ?_); refine awp_ret ?_; refine And.intro (Or.inr rfl) ?_
        simp [retC, resC, viewC, mapO, h1]
       ·by_cases h2 : 120 < t.w.full
        ·(repeat refine awp_seq ?_); refine awp_reg1 (by rw [hx]; kernel_rfl) fun K hK => ?_; simp (maxSteps := 1000000) [ty62]
         refine callP (q_check30 t hl) (by first | (simp; done) | (simp [*]; done)) ?_; simp (maxSteps := 1000000) [ty37, hz, ty3, ty62, ty25, ty51, hM, h1, h2]
         refine hK _ ?_; clear hK K; (first | show AWP _ _ _ _ _ | show ∃ _, _ | skip)
         (repeat refine awp_seq ?_); refine awp_ret ?_; refine And.intro (Or.inr rfl) ?_
         simp [retC, resC, viewC, mapO, h1, h2]
        ·by_cases h3 : 6 < t.gain
         ·(repeat refine awp_seq ?_); refine awp_reg1 (by rw [hx]; kernel_rfl) fun K hK => ?_; simp (maxSteps := 1000000) [ty62]
          refine callP (q_check30 t hl) (by first | (simp; done) | (simp [*]; done)) ?_; simp (maxSteps := 1000000) [ty37, hz, ty3, ty62, ty25, ty51, hM, h1, h2, h3]
          refine hK _ ?_; clear hK K; (first | show AWP _ _ _ _ _ | show ∃ _, _ | skip)
          (repeat refine awp_seq ?_); refine awp_ret ?_; refine And.intro (Or.inr rfl) ?_
          simp [retC, resC, viewC, mapO, h1, h2, h3]
         ·by_cases h4 : (4 : Int) < (t.ts.length : Int)
          ·(repeat refine awp_seq ?_); refine awp_reg1 (by rw [hx]; kernel_rfl) fun K hK => ?_; simp (maxSteps := 1000000) [ty62]
           refine callP (q_check30 t hl) (by first | (simp; done) | (simp [*]; done)) ?_; simp (maxSteps := 1000000) [ty37, hz, ty3, ty62, ty25, ty51, hM, h1, h2, h3, h4]
           refine hK _ ?_; clear hK K; (first | show AWP _ _ _ _ _ | show ∃ _, _ | skip)
           (repeat refine awp_seq ?_); refine awp_ret ?_; refine And.intro (Or.inr rfl) ?_
           simp [retC, resC, viewC, mapO, h1, h2, h3, h4]
          ·by_cases h5 : 2 < X
           ·(repeat refine awp_seq ?_); refine awp_reg1 (by rw [hx]; kernel_rfl) fun K hK => ?_; simp (maxSteps := 1000000) [ty62]
            refine callP (q_check30 t hl) (by first | (simp; done) | (simp [*]; done)) ?_; simp (maxSteps := 1000000) [ty37, hz, ty3, ty62, ty25, ty51, hM, h1, h2, h3, h4, h5]
            refine hK _ ?_; clear hK K; (first | show AWP _ _ _ _ _ | show ∃ _, _ | skip)
            (repeat refine awp_seq ?_); refine awp_ret ?_; refine And.intro (Or.inr rfl) ?_
            simp [retC, resC, viewC, mapO, h1, h2, h3, h4, h5]
           ·(repeat refine awp_seq ?_); refine awp_reg1 (by rw [hx]; kernel_rfl) fun K hK => ?_; simp (maxSteps := 1000000) [ty62]
            refine callP (q_check30 t hl) (by first | (simp; done) | (simp [*]; done)) ?_; simp (maxSteps := 1000000) [ty37, hz, ty3, ty62, ty25, ty51, hM, h1, h2, h3, h4, h5]
            refine hK _ ?_; clear hK K; (first | show AWP _ _ _ _ _ | show ∃ _, _ | skip)
            (repeat refine awp_seq ?_); refine awp_ret ?_; refine And.intro (Or.inr rfl) ?_
            simp [retC, resC, viewC, mapO, h1, h2, h3, h4, h5]
   ·refine ⟨false, ?_, fun _ => hnear⟩
    have hz' : (checkT t == 0) = false := by simpa using hz
    refine pure_of (fn := Tryz.f73) [.tmp 2] ⟨Tryz.func73, rfl, by kernel_rfl⟩ (by kernel_rfl) (by kernel_rfl) (by kernel_rfl) fun x hx hσ => ?_
    (repeat refine awp_seq ?_); refine awp_reg1 (by rw [hx]; kernel_rfl) fun K hK => ?_; simp (maxSteps := 1000000) [ty62]; refine hK _ ?_; clear hK K; (first | show AWP _ _ _ _ _ | show ∃ _, _ | skip)
    (repeat refine awp_seq ?_); refine awp_reg1 (by rw [hx]; kernel_rfl) fun K hK => ?_; simp (maxSteps := 1000000) [ty62, ty51, ty3, h20]; refine hK _ ?_; clear hK K; (first | show AWP _ _ _ _ _ | show ∃ _, _ | skip)
    (repeat refine awp_seq ?_); refine awp_cond (by simp [h20]; rfl) (by rw [hx]; simp) (fun hd => ?_) (fun hd => ?_)
    ·simp at hd
    ·clear hd
     refine awp_skip ?_; (first | show AWP _ _ _ _ _ | show ∃ _, _ | skip)
     (repeat refine awp_seq ?_); refine awp_reg1 (by rw [hx]; kernel_rfl) fun K hK => ?_; simp (maxSteps := 1000000) []; refine hK _ ?_; clear hK K; (first | show AWP _ _ _ _ _ | show ∃ _, _ | skip)
     (repeat refine awp_seq ?_); refine awp_reg1 (by rw [hx]; kernel_rfl) fun K hK => ?_; simp (maxSteps := 1000000) []; refine hK _ ?_; clear hK K; (first | show AWP _ _ _ _ _ | show ∃ _, _ | skip)
     (repeat refine awp_seq ?_); refine awp_block ?_
     refine awp_loop (fun i : Nat => ⟨ofL [(1, .ptr 1 10 0 0), (3, encI (mxTo t.ts i)), (4, encI i)], stoT [(1, 1, .live (obTi t))]⟩)
      (fun i => i ≤ t.ts.length) (fun i => t.ts.length - i) 0 (Nat.zero_le _) ?_ ?_
     ·refine wk_shape (shp0 hσ (by simp) (by simp) ?_) ?_
      ·simp [SlotOk, mxTo] <;> (repeat' (first | (refine RowsOk.same ?_; simp [purel, C.isPure]; done) | (refine rowsCons ?_; simp [mtl, mtc, mT, mH, C.isPure, purel]; done) | (refine rowsCons ?_; simp [mtl, mtc, mT, mH, C.isPure, purel]) | refine And.intro ?_ ?_))
      ·simp [mtc, mtl, mT, C.isPure, purel, mxTo] <;> (try simp (disch := omega) [wrap_id]) <;> (try omega)
     ·intro i hi
      (repeat refine awp_seq ?_); refine awp_reg1 (by rw [hx]; kernel_rfl) fun K hK => ?_; simp (maxSteps := 1000000) [ty62, ty51, ty3]; refine hK _ ?_; clear hK K; (first | show AWP _ _ _ _ _ | show ∃ _, _ | skip)
      (repeat refine awp_seq ?_); refine awp_cond (by simp; rfl) (by rw [hx]; simp) (fun hc => ?_) (fun hc => ?_)
      ·simp at hc
       refine awp_skip ?_; (first | show AWP _ _ _ _ _ | show ∃ _, _ | skip)
       (repeat refine awp_seq ?_); refine awp_block ?_
       have hst := mxTo_step hc
       have hx20 : ¬ (20 : Int) < (t.ts[i].l.length : Int) := by have := hall i hc; omega
       have hwi : IntKind.i64.wrap ((i : Int) + 1) = ((i + 1 : Nat) : Int) := by rw [wrap_id (by omega) (by omega)]; rfl
       (repeat refine awp_seq ?_); refine awp_reg1 (by rw [hx]; kernel_rfl) fun K hK => ?_; simp (maxSteps := 1000000) [ty62, ty51, ty119, ty117, ty3, hc, hx20]; refine hK _ ?_; clear hK K; (first | show AWP _ _ _ _ _ | show ∃ _, _ | skip)
       (repeat refine awp_seq ?_); refine awp_cond (by simp [hx20]; rfl) (by rw [hx]; simp) (fun hd => ?_) (fun hd => ?_)
       ·simp [hx20] at hd
       ·clear hd
        refine awp_skip ?_; (first | show AWP _ _ _ _ _ | show ∃ _, _ | skip)
        (repeat refine awp_seq ?_); refine awp_reg1 (by rw [hx]; kernel_rfl) fun K hK => ?_; simp (maxSteps := 1000000) [ty62, ty51, ty119, ty117, ty3, hc]; refine hK _ ?_; clear hK K; (first | show AWP _ _ _ _ _ | show ∃ _, _ | skip)
        (repeat refine awp_seq ?_); refine awp_reg1 (by rw [hx]; kernel_rfl) fun K hK => ?_; simp (maxSteps := 1000000) [ty3]; refine hK _ ?_; clear hK K; (first | show AWP _ _ _ _ _ | show ∃ _, _ | skip)
        refine ⟨i + 1, by omega, by omega, ?_⟩
        rw [hst, hwi]
        refine wk_shape (shp0 hσ (by simp) (by simp) ?_) ?_
        ·simp [SlotOk] <;> (repeat' (first | (refine RowsOk.same ?_; simp [purel, C.isPure]; done) | (refine rowsCons ?_; simp [mtl, mtc, mT, mH, C.isPure, purel]; done) | (refine rowsCons ?_; simp [mtl, mtc, mT, mH, C.isPure, purel]) | refine And.intro ?_ ?_))
        ·simp [mtc, mtl, mT, C.isPure, purel] <;> (try simp (disch := omega) [wrap_id]) <;> (try omega)
      ·simp at hc
       (repeat refine awp_seq ?_); refine awp_exit ?_; (first | show AWP _ _ _ _ _ | show ∃ _, _ | skip)
       (repeat refine awp_seq ?_); refine awp_reg1 (by rw [hx]; kernel_rfl) fun K hK => ?_; simp (maxSteps := 1000000) [ty62]
       refine callP (q_check30 t hl) (by first | (simp; done) | (simp [*]; done)) ?_; simp (maxSteps := 1000000) [ty37, hz', ty3, ty62]
       refine hK _ ?_; clear hK K; (first | show AWP _ _ _ _ _ | show ∃ _, _ | skip)
       (repeat refine awp_seq ?_); refine awp_ret ?_; refine And.intro (Or.inr rfl) ?_
       simp [retC, resC, viewC, mapO]
  ·refine ⟨true, ?_, by simp⟩
   obtain ⟨J, hJ, hJl, hJm⟩ : ∃ J, ∃ hJ : J < t.ts.length, 20 < t.ts[J].l.length ∧ ∀ j (hj : j < t.ts.length), j < J → t.ts[j].l.length ≤ 20 := by
    have hex : ∃ J, ∃ hJ : J < t.ts.length, 20 < t.ts[J].l.length := by
     refine Classical.byContradiction fun h => hall fun j hj => ?_
     exact Classical.byContradiction fun g => h ⟨j, hj, by omega⟩
    obtain ⟨J, ⟨hJ, hJ20⟩, hmin⟩ := least_ex hex
    refine ⟨J, hJ, hJ20, fun j hj hlt => ?_⟩
    exact Classical.byContradiction fun g => hmin j hlt ⟨hj, by omega⟩
   refine pure_of (fn := Tryz.f73) [.tmp 2] ⟨Tryz.func73, rfl, by kernel_rfl⟩ (by kernel_rfl) (by kernel_rfl) (by kernel_rfl) fun x hx hσ => ?_
   (repeat refine awp_seq ?_); refine awp_reg1 (by rw [hx]; kernel_rfl) fun K hK => ?_; simp (maxSteps := 1000000) [ty62]; refine hK _ ?_; clear hK K; (first | show AWP _ _ _ _ _ | show ∃ _, _ | skip)
   (repeat refine awp_seq ?_); refine awp_reg1 (by rw [hx]; kernel_rfl) fun K hK => ?_; simp (maxSteps := 1000000) [ty62, ty51, ty3, h20]; refine hK _ ?_; clear hK K; (first | show AWP _ _ _ _ _ | show ∃ _, _ | skip)
   (repeat refine awp_seq ?_); refine awp_cond (by simp [h20]; rfl) (by rw [hx]; simp) (fun hd => ?_) (fun hd => ?_)
   ·simp at hd
   ·clear hd
    refine awp_skip ?_; (first | show AWP _ _ _ _ _ | show ∃ _, _ | skip)
    (repeat refine awp_seq ?_); refine awp_reg1 (by rw [hx]; kernel_rfl) fun K hK => ?_; simp (maxSteps := 1000000) []; refine hK _ ?_; clear hK K; (first | show AWP _ _ _ _ _ | show ∃ _, _ | skip)
    (repeat refine awp_seq ?_); refine awp_reg1 (by rw [hx]; kernel_rfl) fun K hK => ?_; simp (maxSteps := 1000000) []; refine hK _ ?_; clear hK K; (first | show AWP _ _ _ _ _ | show ∃ _, _ | skip)
    (repeat refine awp_seq ?_); refine awp_block ?_
    refine awp_loop (fun i : Nat => ⟨ofL [(1, .ptr 1 10 0 0), (3, encI (mxTo t.ts i)), (4, encI i)], stoT [(1, 1, .live (obTi t))]⟩)
     (fun i => i ≤ J) (fun i => J - i) 0 (Nat.zero_le _) ?_ ?_
    ·refine wk_shape (shp0 hσ (by simp) (by simp) ?_) ?_
     ·simp [SlotOk, mxTo] <;> (repeat' (first | (refine RowsOk.same ?_; simp [purel, C.isPure]; done) | (refine rowsCons ?_; simp [mtl, mtc, mT, mH, C.isPure, purel]; done) | (refine rowsCons ?_; simp [mtl, mtc, mT, mH, C.isPure, purel]) | refine And.intro ?_ ?_))
     ·simp [mtc, mtl, mT, C.isPure, purel, mxTo] <;> (try simp (disch := omega) [wrap_id]) <;> (try omega)
    ·intro i hi
     have hc : i < t.ts.length := by omega
     (repeat refine awp_seq ?_); refine awp_reg1 (by rw [hx]; kernel_rfl) fun K hK => ?_; simp (maxSteps := 1000000) [ty62, ty51, ty3, hc]; refine hK _ ?_; clear hK K; (first | show AWP _ _ _ _ _ | show ∃ _, _ | skip)
     (repeat refine awp_seq ?_); refine awp_cond (by simp; rfl) (by rw [hx]; simp) (fun hd => ?_) (fun hd => ?_)
     ·refine awp_skip ?_; (first | show AWP _ _ _ _ _ | show ∃ _, _ | skip)
      (repeat refine awp_seq ?_); refine awp_block ?_
      by_cases hiJ : i = J
      ·have hx20 : (20 : Int) < (t.ts[i].l.length : Int) := by subst hiJ; omega
       (repeat refine awp_seq ?_); refine awp_reg1 (by rw [hx]; kernel_rfl) fun K hK => ?_; simp (maxSteps := 1000000) [ty62, ty51, ty119, ty117, ty3, hc, hx20]; refine hK _ ?_; clear hK K; (first | show AWP _ _ _ _ _ | show ∃ _, _ | skip)
       (repeat refine awp_seq ?_); refine awp_cond (by simp [hx20]; rfl) (by rw [hx]; simp) (fun hd => ?_) (fun hd => ?_)
       ·clear hd
        (repeat refine awp_seq ?_); refine awp_reg1 (by rw [hx]; kernel_rfl) fun K hK => ?_; simp (maxSteps := 1000000) []; refine hK _ ?_; clear hK K; (first | show AWP _ _ _ _ _ | show ∃ _, _ | skip)
        (repeat refine awp_seq ?_); refine awp_ret ?_; refine And.intro (Or.inr rfl) ?_
        simp [retC, resC, viewC, mapO]
       ·simp [hx20] at hd
      ·have hst := mxTo_step hc
       have hx20 : ¬ (20 : Int) < (t.ts[i].l.length : Int) := by have := hJm i hc (by omega); omega
       have hwi : IntKind.i64.wrap ((i : Int) + 1) = ((i + 1 : Nat) : Int) := by rw [wrap_id (by omega) (by omega)]; rfl
       (repeat refine awp_seq ?_); refine awp_reg1 (by rw [hx]; kernel_rfl) fun K hK => ?_; simp (maxSteps := 1000000) [ty62, ty51, ty119, ty117, ty3, hc, hx20]; refine hK _ ?_; clear hK K; (first | show AWP _ _ _ _ _ | show ∃ _, _ | skip)
       (repeat refine awp_seq ?_); refine awp_cond (by simp [hx20]; rfl) (by rw [hx]; simp) (fun hd => ?_) (fun hd => ?_)
       ·simp [hx20] at hd
       ·clear hd
        refine awp_skip ?_; (first | show AWP _ _ _ _ _ | show ∃ _, _ | skip)
        (repeat refine awp_seq ?_); refine awp_reg1 (by rw [hx]; kernel_rfl) fun K hK => ?_; simp (maxSteps := 1000000) [ty62, ty51, ty119, ty117, ty3, hc]; refine hK _ ?_; clear hK K; (first | show AWP _ _ _ _ _ | show ∃ _, _ | skip)
        (repeat refine awp_seq ?_); refine awp_reg1 (by rw [hx]; kernel_rfl) fun K hK => ?_; simp (maxSteps := 1000000) [ty3]; refine hK _ ?_; clear hK K; (first | show AWP _ _ _ _ _ | show ∃ _, _ | skip)
        refine ⟨i + 1, by omega, by omega, ?_⟩
        rw [hst, hwi]
        refine wk_shape (shp0 hσ (by simp) (by simp) ?_) ?_
        ·simp [SlotOk] <;> (repeat' (first | (refine RowsOk.same ?_; simp [purel, C.isPure]; done) | (refine rowsCons ?_; simp [mtl, mtc, mT, mH, C.isPure, purel]; done) | (refine rowsCons ?_; simp [mtl, mtc, mT, mH, C.isPure, purel]) | refine And.intro ?_ ?_))
        ·simp [mtc, mtl, mT, C.isPure, purel] <;> (try simp (disch := omega) [wrap_id]) <;> (try omega)
     ·exact absurd hd (by simp [hc])

theorem NearT.len {t : Ti} (h : NearT t) : TiLen t := ⟨by have := h.1; omega, fun y hy => by have := h.2 y hy; omega⟩

set_option maxHeartbeats 2000000

-- the plain law: lists of gains, as the reference has them

/-- How many visits are not right. -/
def wrL (G : List (Int × List Int)) (p : Nat → Int) : Nat := G.countP fun q => !decide (p q.1.toNat ∈ q.2)

theorem wrG_cons (q : Int × List Int) (G : List (Int × List Int)) (i x : Int) : wrG (q :: G) i x = if q.1 = i then (if x ∈ q.2 then 0 else 1) else wrG G i x := by
 unfold wrG
 by_cases h : q.1 = i
 ·subst h; simp [List.find?_cons]
 ·have : (q.1 == i) = false := by simpa using h
  simp [List.find?_cons, this, h]

theorem wrG_none {G : List (Int × List Int)} {i : Int} (h : i ∉ G.map (·.1)) (x : Int) : wrG G i x = 0 := by
 unfold wrG
 rw [List.find?_eq_none.2]
 intro p hp e
 simp only [beq_iff_eq] at e
 exact h (List.mem_map.2 ⟨p, hp, e⟩)

theorem wrs_cons (q : Int × List Int) {G : List (Int × List Int)} (p : Nat → Int) (hq : q.1 ∉ G.map (·.1)) (h0 : 0 ≤ q.1) : ∀ d : Nat, wrs (q :: G) p d = wrs G p d + (if q.1 ≤ d then (if p q.1.toNat ∈ q.2 then 0 else 1) else 0)
 | 0 => by
  simp only [wrs, wrG_cons]
  by_cases h : q.1 = 0
  ·have hg : wrG G 0 (p 0) = 0 := wrG_none (by rw [← h]; exact hq) _
   have hle : q.1 ≤ ((0 : Nat) : Int) := by omega
   have ht : q.1.toNat = 0 := by omega
   rw [if_pos h, hg, if_pos hle, ht, Int.zero_add]
  ·have hle : ¬ q.1 ≤ ((0 : Nat) : Int) := by omega
   rw [if_neg h, if_neg hle, Int.add_zero]
 | d + 1 => by
  simp only [wrs, wrG_cons, wrs_cons q p hq h0 d]
  by_cases h : q.1 = ((d + 1 : Nat) : Int)
  ·have hg : wrG G ((d + 1 : Nat) : Int) (p (d + 1)) = 0 := wrG_none (by rw [← h]; exact hq) _
   have ht : q.1.toNat = d + 1 := by omega
   have h1 : ¬ q.1 ≤ (d : Int) := by omega
   have h2 : q.1 ≤ ((d + 1 : Nat) : Int) := by omega
   rw [if_pos h, hg, if_neg h1, if_pos h2, ht, Int.add_zero]
  ·rw [if_neg h]
   by_cases h2 : q.1 ≤ (d : Int)
   ·have h3 : q.1 ≤ ((d + 1 : Nat) : Int) := by omega
    rw [if_pos h2, if_pos h3, Int.add_right_comm]
   ·have h3 : ¬ q.1 ≤ ((d + 1 : Nat) : Int) := by omega
    rw [if_neg h2, if_neg h3, Int.add_zero, Int.add_zero]

theorem wrL_wrs {p : Nat → Int} {d : Nat} : ∀ {G : List (Int × List Int)}, (G.map (·.1)).Nodup → (∀ q ∈ G, 0 ≤ q.1 ∧ q.1 ≤ d) → (wrL G p : Int) = wrs G p d
 | [], _, _ => by
  have : ∀ d, wrs [] p d = 0 := fun d => by
   induction d with
   | zero => rfl
   | succ d ih => simp only [wrs, ih]; rfl
  rw [this]; rfl
 | q :: G, hn, hb => by
  simp only [List.map_cons, List.nodup_cons] at hn
  have h1 := hb q (by simp)
  rw [wrs_cons q p hn.1 h1.1, if_pos h1.2, ← wrL_wrs hn.2 fun r hr => hb r (by simp [hr])]
  unfold wrL
  rw [List.countP_cons]
  by_cases hm : p q.1.toNat ∈ q.2
  ·simp [hm]
  ·simp [hm]

theorem glOk {w : Ws} (h : WsOk w) : ((gl w).map (·.1)).Nodup ∧ ∀ p ∈ gl w, 0 ≤ p.1 ∧ p.1 ≤ w.last := by
 constructor
 ·have e : (gl w).map (·.1) = w.vs.map (·.day) := by unfold gl; rw [List.map_map]; rfl
  rw [e]
  refine List.pairwise_iff_getElem.2 fun i j hi hj hij => ?_
  simp only [List.length_map] at hi hj
  simp only [List.getElem_map]
  have := h.lt hij hj
  omega
 ·intro p hp
  obtain ⟨v, hv, rfl⟩ := List.mem_map.1 hp
  obtain ⟨i, hi, rfl⟩ := List.getElem_of_mem hv
  exact h.day i hi

theorem wrL_gl (w : Ws) (p : Nat → Int) : wrL (gl w) p = w.vs.countP fun v => !decide (p v.day.toNat ∈ numsT Tr.area (tiV w v) true) := by
 unfold wrL gl; rw [List.countP_map]; rfl

set_option maxHeartbeats 8000000

-- the reference of wear: the small functions, and whether an instrument is valid

theorem withinB2 (n lo hi : Int) : withinB n lo hi = (decide (lo ≤ n) && decide (n ≤ hi)) := by unfold withinB; exact Bool.decide_and _ _

theorem q_within77 (n lo hi : Int) : Pure Tryz.prog 77 [encI n, encI lo, encI hi] (.bool (withinB n lo hi)) := by
 refine pure_of (fn := Tryz.f77) [.tmp 6] ⟨Tryz.func77, rfl, by kernel_rfl⟩ (by kernel_rfl) (by kernel_rfl) (by kernel_rfl) fun x hx hσ => ?_
 (repeat refine awp_seq ?_); refine awp_reg1 (by rw [hx]; kernel_rfl) fun K hK => ?_; simp (maxSteps := 1000000) []; refine hK _ ?_; clear hK K; (first | show AWP _ _ _ _ _ | show ∃ _, _ | skip)
 (repeat refine awp_seq ?_); refine awp_reg1 (by rw [hx]; kernel_rfl) fun K hK => ?_; simp (maxSteps := 1000000) []
 refine callP (within79 n lo hi) (by first | (simp; done) | (simp [*]; done)) ?_; simp (maxSteps := 1000000) []
 refine hK _ ?_; clear hK K; (first | show AWP _ _ _ _ _ | show ∃ _, _ | skip)
 (repeat refine awp_seq ?_); refine awp_ret ?_; refine And.intro (Or.inr rfl) ?_
 simp [retC, resC, viewC, mapO]

theorem q_trialOf27 (w : Ws) (nl fu : Bool) (ts : List Ts) : Pure Tryz.prog 27 [encWs w, sTs nl fu ts] (encTi ⟨w.w, w.gain, nl, fu, ts⟩) := by
 refine pure_of (fn := Tryz.f27) [.cell 4 62] ⟨Tryz.func27, rfl, by kernel_rfl⟩ (by kernel_rfl) (by kernel_rfl) (by kernel_rfl) fun x hx hσ => ?_
 (repeat refine awp_seq ?_); refine awp_reg1 (by rw [hx]; kernel_rfl) fun K hK => ?_; simp (maxSteps := 1000000) [ty28, ty62]; refine hK _ ?_; clear hK K; (first | show AWP _ _ _ _ _ | show ∃ _, _ | skip)
 (repeat refine awp_seq ?_); refine awp_reg1 (by rw [hx]; kernel_rfl) fun K hK => ?_; simp (maxSteps := 1000000) [ty28, ty62, ty25, ty3, ty51]; refine hK _ ?_; clear hK K; (first | show AWP _ _ _ _ _ | show ∃ _, _ | skip)
 (repeat refine awp_seq ?_); refine awp_ret ?_; refine And.intro (Or.inr rfl) ?_
 simp [retC, resC, viewC, mapO, ty62]


theorem q_check32 (w : Ws) (hn : WsLen w) : Pure Tryz.prog 32 [encWs w] (encI (checkW w)) := by
  have hlt := hn.vs
  refine pure_of (fn := Tryz.f32) [.tmp 2] ⟨Tryz.func32, rfl, by kernel_rfl⟩ (by kernel_rfl) (by kernel_rfl) (by kernel_rfl) fun x hx hσ => ?_
  (repeat refine awp_seq ?_); refine awp_reg1 (by rw [hx]; kernel_rfl) fun K hK => ?_; simp (maxSteps := 1000000) [ty28]; refine hK _ ?_; clear hK K; (first | show AWP _ _ _ _ _ | show ∃ _, _ | skip)
  cases hb1 : withinB w.last 1 30
  · have hT : checkW w = 130 := by unfold checkW rangeB; rw [if_pos (.inl (by rw [withinB2] at hb1; rw [hb1]; simp))]
    (repeat refine awp_seq ?_); refine awp_reg1 (by rw [hx]; kernel_rfl) fun K hK => ?_; simp (maxSteps := 1000000) [ty28, ty3]
    refine callP (q_within77 w.last 1 30) (by first | (simp; done) | (simp [*]; done)) ?_; simp (maxSteps := 1000000) [hb1, ty4]
    refine hK _ ?_; clear hK K; (first | show AWP _ _ _ _ _ | show ∃ _, _ | skip)
    · (repeat refine awp_seq ?_); refine awp_cond (by simp [hb1]; rfl) (by rw [hx]; simp) (fun hd => ?_) (fun hd => ?_)
      · clear hd
        (repeat refine awp_seq ?_); refine awp_reg1 (by rw [hx]; kernel_rfl) fun K hK => ?_; simp (maxSteps := 1000000) []; refine hK _ ?_; clear hK K; (first | show AWP _ _ _ _ _ | show ∃ _, _ | skip)
        (repeat refine awp_seq ?_); refine awp_ret ?_; refine And.intro (Or.inr rfl) ?_
        simp [retC, resC, viewC, mapO, hT]
      · simp [hb1] at hd
  · cases hb2 : withinB w.drop 0 10
    · have hT : checkW w = 130 := by unfold checkW rangeB; rw [if_pos (.inl (by rw [withinB2] at hb2; rw [hb2]; simp))]
      (repeat refine awp_seq ?_); refine awp_reg1 (by rw [hx]; kernel_rfl) fun K hK => ?_; simp (maxSteps := 1000000) [ty28, ty3]
      refine callP (q_within77 w.last 1 30) (by first | (simp; done) | (simp [*]; done)) ?_; simp (maxSteps := 1000000) [hb1, ty4, ty28, ty3]
      refine callP (q_within77 w.drop 0 10) (by first | (simp; done) | (simp [*]; done)) ?_; simp (maxSteps := 1000000) [hb2, ty4, ty28, ty3]
      refine hK _ ?_; clear hK K; (first | show AWP _ _ _ _ _ | show ∃ _, _ | skip)
      · (repeat refine awp_seq ?_); refine awp_cond (by simp [hb2]; rfl) (by rw [hx]; simp) (fun hd => ?_) (fun hd => ?_)
        · clear hd
          (repeat refine awp_seq ?_); refine awp_reg1 (by rw [hx]; kernel_rfl) fun K hK => ?_; simp (maxSteps := 1000000) []; refine hK _ ?_; clear hK K; (first | show AWP _ _ _ _ _ | show ∃ _, _ | skip)
          (repeat refine awp_seq ?_); refine awp_ret ?_; refine And.intro (Or.inr rfl) ?_
          simp [retC, resC, viewC, mapO, hT]
        · simp [hb2] at hd
    · cases hb3 : withinB w.wrong 0 6
      · have hT : checkW w = 130 := by unfold checkW rangeB; rw [if_pos (.inl (by rw [withinB2] at hb3; rw [hb3]; simp))]
        (repeat refine awp_seq ?_); refine awp_reg1 (by rw [hx]; kernel_rfl) fun K hK => ?_; simp (maxSteps := 1000000) [ty28, ty3]
        refine callP (q_within77 w.last 1 30) (by first | (simp; done) | (simp [*]; done)) ?_; simp (maxSteps := 1000000) [hb1, ty4, ty28, ty3]
        refine callP (q_within77 w.drop 0 10) (by first | (simp; done) | (simp [*]; done)) ?_; simp (maxSteps := 1000000) [hb2, ty4, ty28, ty3]
        refine callP (q_within77 w.wrong 0 6) (by first | (simp; done) | (simp [*]; done)) ?_; simp (maxSteps := 1000000) [hb3, ty4, ty28, ty3]
        refine hK _ ?_; clear hK K; (first | show AWP _ _ _ _ _ | show ∃ _, _ | skip)
        · (repeat refine awp_seq ?_); refine awp_cond (by simp [hb3]; rfl) (by rw [hx]; simp) (fun hd => ?_) (fun hd => ?_)
          · clear hd
            (repeat refine awp_seq ?_); refine awp_reg1 (by rw [hx]; kernel_rfl) fun K hK => ?_; simp (maxSteps := 1000000) []; refine hK _ ?_; clear hK K; (first | show AWP _ _ _ _ _ | show ∃ _, _ | skip)
            (repeat refine awp_seq ?_); refine awp_ret ?_; refine And.intro (Or.inr rfl) ?_
            simp [retC, resC, viewC, mapO, hT]
          · simp [hb3] at hd
      · by_cases h6 : (6 : Int) < (w.vs.length : Int)
        · have hT : checkW w = 130 := by unfold checkW rangeB; rw [if_pos (.inl (by rw [show decide ((w.vs.length : Int) ≤ 6) = false by simpa using h6]; simp))]
          (repeat refine awp_seq ?_); refine awp_reg1 (by rw [hx]; kernel_rfl) fun K hK => ?_; simp (maxSteps := 1000000) [ty28, ty3]
          refine callP (q_within77 w.last 1 30) (by first | (simp; done) | (simp [*]; done)) ?_; simp (maxSteps := 1000000) [hb1, ty4, ty28, ty3]
          refine callP (q_within77 w.drop 0 10) (by first | (simp; done) | (simp [*]; done)) ?_; simp (maxSteps := 1000000) [hb2, ty4, ty28, ty3]
          refine callP (q_within77 w.wrong 0 6) (by first | (simp; done) | (simp [*]; done)) ?_; simp (maxSteps := 1000000) [hb3, ty4, ty28, ty3, ty26, h6]
          refine hK _ ?_; clear hK K; (first | show AWP _ _ _ _ _ | show ∃ _, _ | skip)
          · (repeat refine awp_seq ?_); refine awp_cond (by simp [h6]; rfl) (by rw [hx]; simp) (fun hd => ?_) (fun hd => ?_)
            · clear hd
              (repeat refine awp_seq ?_); refine awp_reg1 (by rw [hx]; kernel_rfl) fun K hK => ?_; simp (maxSteps := 1000000) []; refine hK _ ?_; clear hK K; (first | show AWP _ _ _ _ _ | show ∃ _, _ | skip)
              (repeat refine awp_seq ?_); refine awp_ret ?_; refine And.intro (Or.inr rfl) ?_
              simp [retC, resC, viewC, mapO, hT]
            · simp [h6] at hd
        · have hR : rangeB w = true := by
            unfold rangeB; rw [withinB2] at hb1 hb2 hb3; rw [hb1, hb2, hb3]; simp; omega
          (repeat refine awp_seq ?_); refine awp_reg1 (by rw [hx]; kernel_rfl) fun K hK => ?_; simp (maxSteps := 1000000) [ty28, ty3]
          refine callP (q_within77 w.last 1 30) (by first | (simp; done) | (simp [*]; done)) ?_; simp (maxSteps := 1000000) [hb1, ty4, ty28, ty3]
          refine callP (q_within77 w.drop 0 10) (by first | (simp; done) | (simp [*]; done)) ?_; simp (maxSteps := 1000000) [hb2, ty4, ty28, ty3]
          refine callP (q_within77 w.wrong 0 6) (by first | (simp; done) | (simp [*]; done)) ?_; simp (maxSteps := 1000000) [hb3, ty4, ty28, ty3, ty26, h6]
          refine hK _ ?_; clear hK K; (first | show AWP _ _ _ _ _ | show ∃ _, _ | skip)
          (repeat refine awp_seq ?_); refine awp_cond (by simp [h6]; rfl) (by rw [hx]; simp) (fun hd => ?_) (fun hd => ?_)
          · simp [h6] at hd
          · clear hd
            refine awp_skip ?_; (first | show AWP _ _ _ _ _ | show ∃ _, _ | skip)
            (repeat refine awp_seq ?_); refine awp_reg1 (by rw [hx]; kernel_rfl) fun K hK => ?_; simp (maxSteps := 1000000) [ty3]; refine hK _ ?_; clear hK K; (first | show AWP _ _ _ _ _ | show ∃ _, _ | skip)
            (repeat refine awp_seq ?_); refine awp_block ?_
            refine awp_loop (fun i : Nat => ⟨ofL [(1, .ptr 1 13 0 0), (3, encI i)], stoT [(1, 1, .live (obWs w))]⟩)
              (fun i => i ≤ w.vs.length ∧ ∀ j, j < i → okDay w j = true) (fun i => w.vs.length - i) 0 (by simp) ?_ ?_
            · refine wk_shape (shp0 hσ (by simp) (by simp) ?_) ?_
              · simp [SlotOk] <;> (repeat' (first | exact .same (by simp [purel, C.isPure]) | exact .cons (by simp [mtl, mtc, mT, mH, C.isPure, purel]) (by simp) .nil | refine And.intro ?_ ?_))
              · simp [mtc, mtl, mT, C.isPure, purel] <;> (try simp (disch := omega) [wrap_id]) <;> (try omega)
            · intro i ⟨hi, hj0⟩
              (repeat refine awp_seq ?_); refine awp_reg1 (by rw [hx]; kernel_rfl) fun K hK => ?_; simp (maxSteps := 1000000) [ty28, ty26, ty3]; refine hK _ ?_; clear hK K; (first | show AWP _ _ _ _ _ | show ∃ _, _ | skip)
              (repeat refine awp_seq ?_); refine awp_cond (by simp; rfl) (by rw [hx]; simp) (fun hc1 => ?_) (fun hc1 => ?_)
              · simp at hc1
                have hwi : IntKind.i64.wrap ((i : Int) + 1) = ((i + 1 : Nat) : Int) := by rw [wrap_id (by omega) (by omega)]; rfl
                have hdw : dayB w w.vs[i].day = withinB w.vs[i].day 0 w.last := (withinB2 _ _ _).symm
                refine awp_skip ?_; (first | show AWP _ _ _ _ _ | show ∃ _, _ | skip)
                (repeat refine awp_seq ?_); refine awp_block ?_
                cases hdb : withinB w.vs[i].day 0 w.last
                · have hok : okDay w i = false := by unfold okDay; rw [List.getElem?_eq_getElem hc1]; simp [hdw, hdb]
                  have hne : (List.range w.vs.length).all (okDay w) = false := List.all_eq_false.2 ⟨i, List.mem_range.2 hc1, by rw [hok]; simp⟩
                  have hT : checkW w = 130 := if_pos (.inr hne)
                  (repeat refine awp_seq ?_); refine awp_drw3 [] [0, 1, 2, 3, 4, 5, 6, 7, 8, 9, 10, 11, 12, 13, 14, 15, 16, 17, 18, 19, 20, 21, 22, 23, 24, 25, 26, 27, 28, 29] (by rw [hx]; kernel_rfl) (by kernel_rfl) (by kernel_rfl) (by kernel_rfl) fun K hK => ?_; simp (maxSteps := 1000000) [ty53, ty28, ty26, ty3, hc1]
                  refine callPD (q_within77 w.vs[i].day 0 w.last) (by first | (simp; done) | (simp [*]; done)) (by simp) ?_; simp (maxSteps := 1000000) [hdb, ty4, ty53, ty28, ty3]
                  refine hK _ ?_; clear hK K; (first | show AWP _ _ _ _ _ | show ∃ _, _ | skip)
                  (repeat refine awp_seq ?_); refine awp_cond (by simp; rfl) (by rw [hx]; simp) (fun hd => ?_) (fun hd => ?_)
                  · clear hd
                    (repeat refine awp_seq ?_); refine awp_reg1 (by rw [hx]; kernel_rfl) fun K hK => ?_; simp (maxSteps := 1000000) []; refine hK _ ?_; clear hK K; (first | show AWP _ _ _ _ _ | show ∃ _, _ | skip)
                    (repeat refine awp_seq ?_); refine awp_ret ?_; refine And.intro (Or.inr rfl) ?_
                    simp [retC, resC, viewC, mapO, hT]
                  · simp at hd
                · by_cases hi0 : i = 0
                  · subst hi0
                    have hok : okDay w 0 = true := by rw [okDay_zero hc1, hdw, hdb]
                    (repeat refine awp_seq ?_); refine awp_drw3 [] [0, 1, 2, 3, 4, 5, 6, 7, 8, 9, 10, 11, 12, 13, 14, 15, 16, 17, 18, 19, 20, 21, 22, 23, 24, 25, 26, 27, 28, 29] (by rw [hx]; kernel_rfl) (by kernel_rfl) (by kernel_rfl) (by kernel_rfl) fun K hK => ?_; simp (maxSteps := 1000000) [ty53, ty28, ty26, ty3, hc1]
                    refine callPD (q_within77 w.vs[0].day 0 w.last) (by first | (simp; done) | (simp [*]; done)) (by simp) ?_; simp (maxSteps := 1000000) [hdb, ty4, ty53, ty28, ty3]
                    refine hK _ ?_; clear hK K; (first | show AWP _ _ _ _ _ | show ∃ _, _ | skip)
                    (repeat refine awp_seq ?_); refine awp_cond (by simp; rfl) (by rw [hx]; simp) (fun hd => ?_) (fun hd => ?_)
                    · simp at hd
                    · clear hd
                      refine awp_skip ?_; (first | show AWP _ _ _ _ _ | show ∃ _, _ | skip)
                      (repeat refine awp_seq ?_); refine awp_reg1 (by rw [hx]; kernel_rfl) fun K hK => ?_; simp (maxSteps := 1000000) [ty3]; refine hK _ ?_; clear hK K; (first | show AWP _ _ _ _ _ | show ∃ _, _ | skip)
                      refine ⟨1, ⟨by omega, fun j h1 => by obtain rfl : j = 0 := by omega
                                                           exact hok⟩, by omega, ?_⟩
                      refine wk_shape (shp0 hσ (by simp) (by simp) ?_) ?_
                      · simp [SlotOk] <;> (repeat' (first | exact .same (by simp [purel, C.isPure]) | exact .cons (by simp [mtl, mtc, mT, mH, C.isPure, purel]) (by simp) .nil | refine And.intro ?_ ?_))
                      · simp [mtc, mtl, mT, C.isPure, purel] <;> (try simp (disch := omega) [wrap_id]) <;> (try omega)
                  · obtain ⟨n, rfl⟩ : ∃ n, i = n + 1 := ⟨i - 1, by omega⟩
                    have hnl : n < w.vs.length := by omega
                    have hok := okDay_succ hc1
                    rw [hdw, hdb] at hok
                    have hw1 : IntKind.i64.wrap (n : Int) = (n : Int) := wrap_id (by omega) (by omega)
                    have hpos : (0 : Int) < ((n + 1 : Nat) : Int) := by omega
                    have h01 : (0 : Int) ≤ (n : Int) + 1 := by omega
                    by_cases hlt1 : w.vs[n].day < w.vs[n + 1].day
                    · have hle : ¬ w.vs[n + 1].day ≤ w.vs[n].day := by omega
                      rw [decide_eq_true hlt1] at hok
                      (repeat refine awp_seq ?_); refine awp_drw3 [] [0, 1, 2, 3, 4, 5, 6, 7, 8, 9, 10, 11, 12, 13, 14, 15, 16, 17, 18, 19, 20, 21, 22, 23, 24, 25, 26, 27, 28, 29] (by rw [hx]; kernel_rfl) (by kernel_rfl) (by kernel_rfl) (by kernel_rfl) fun K hK => ?_; simp (maxSteps := 1000000) [ty53, ty28, ty26, ty3, hc1, h01]
                      refine callPD (q_within77 w.vs[n+1].day 0 w.last) (by first | (simp; done) | (simp [*]; done)) (by simp) ?_; simp (maxSteps := 1000000) [hdb, ty4, ty53, ty28, ty3, ty26, hw1, hc1, hnl, hpos, hle, h01]
                      refine hK _ ?_; clear hK K; (first | show AWP _ _ _ _ _ | show ∃ _, _ | skip)
                      (repeat refine awp_seq ?_); refine awp_cond (by simp [hle]; rfl) (by rw [hx]; simp) (fun hd => ?_) (fun hd => ?_)
                      · simp [hle] at hd
                      · clear hd
                        refine awp_skip ?_; (first | show AWP _ _ _ _ _ | show ∃ _, _ | skip)
                        (repeat refine awp_seq ?_); refine awp_reg1 (by rw [hx]; kernel_rfl) fun K hK => ?_; simp (maxSteps := 1000000) [ty3]; refine hK _ ?_; clear hK K; (first | show AWP _ _ _ _ _ | show ∃ _, _ | skip)
                        refine ⟨n + 1 + 1, ⟨by omega, fun j h1 => ?_⟩, by omega, ?_⟩
                        · by_cases hjn : j = n + 1
                          · subst hjn; exact hok
                          · exact hj0 j (by omega)
                        · refine wk_shape (shp0 hσ (by simp) (by simp) ?_) ?_
                          · simp [SlotOk] <;> (repeat' (first | exact .same (by simp [purel, C.isPure]) | exact .cons (by simp [mtl, mtc, mT, mH, C.isPure, purel]) (by simp) .nil | refine And.intro ?_ ?_))
                          · simp [mtc, mtl, mT, C.isPure, purel] <;> (try simp (disch := omega) [wrap_id]) <;> (try omega)
                    · have hle : w.vs[n + 1].day ≤ w.vs[n].day := by omega
                      rw [decide_eq_false hlt1] at hok
                      have hok : okDay w (n + 1) = false := hok
                      have hne : (List.range w.vs.length).all (okDay w) = false := List.all_eq_false.2 ⟨n + 1, List.mem_range.2 hc1, by rw [hok]; simp⟩
                      have hT : checkW w = 130 := if_pos (.inr hne)
                      (repeat refine awp_seq ?_); refine awp_drw3 [] [0, 1, 2, 3, 4, 5, 6, 7, 8, 9, 10, 11, 12, 13, 14, 15, 16, 17, 18, 19, 20, 21, 22, 23, 24, 25, 26, 27, 28, 29] (by rw [hx]; kernel_rfl) (by kernel_rfl) (by kernel_rfl) (by kernel_rfl) fun K hK => ?_; simp (maxSteps := 1000000) [ty53, ty28, ty26, ty3, hc1, h01]
                      refine callPD (q_within77 w.vs[n+1].day 0 w.last) (by first | (simp; done) | (simp [*]; done)) (by simp) ?_; simp (maxSteps := 1000000) [hdb, ty4, ty53, ty28, ty3, ty26, hw1, hc1, hnl, hpos, hle, h01]
                      refine hK _ ?_; clear hK K; (first | show AWP _ _ _ _ _ | show ∃ _, _ | skip)
                      (repeat refine awp_seq ?_); refine awp_cond (by simp [hle]; rfl) (by rw [hx]; simp) (fun hd => ?_) (fun hd => ?_)
                      · clear hd
                        (repeat refine awp_seq ?_); refine awp_reg1 (by rw [hx]; kernel_rfl) fun K hK => ?_; simp (maxSteps := 1000000) []; refine hK _ ?_; clear hK K; (first | show AWP _ _ _ _ _ | show ∃ _, _ | skip)
                        (repeat refine awp_seq ?_); refine awp_ret ?_; refine And.intro (Or.inr rfl) ?_
                        simp [retC, resC, viewC, mapO, hT]
                      · simp [hle] at hd
              · simp at hc1
                (repeat refine awp_seq ?_); refine awp_exit ?_; (first | show AWP _ _ _ _ _ | show ∃ _, _ | skip)
                have hall : (List.range w.vs.length).all (okDay w) = true := by
                  rw [List.all_eq_true]; intro j hj; exact hj0 j (by have := List.mem_range.1 hj; omega)
                have hT : checkW w = (if w.vs = [] then checkT (tiN w) else checksW w w.vs) := by
                  unfold checkW; rw [if_neg (by rw [hR, hall]; simp)]
                (repeat refine awp_seq ?_); refine awp_reg1 (by rw [hx]; kernel_rfl) fun K hK => ?_; simp (maxSteps := 1000000) [ty3]; refine hK _ ?_; clear hK K; (first | show AWP _ _ _ _ _ | show ∃ _, _ | skip)
                (repeat refine awp_seq ?_); refine awp_block ?_
                refine awp_loop (fun i : Nat => ⟨ofL [(1, .ptr 1 13 0 0), (4, encI i)], stoT [(1, 1, .live (obWs w))]⟩)
                  (fun i => i ≤ w.vs.length ∧ ∀ j, (h : j < w.vs.length) → j < i → checkT (tiV w w.vs[j]) = 0) (fun i => w.vs.length - i) 0 (by simp) ?_ ?_
                · refine wk_shape (shp0 hσ (by simp) (by simp) ?_) ?_
                  · simp [SlotOk] <;> (repeat' (first | exact .same (by simp [purel, C.isPure]) | exact .cons (by simp [mtl, mtc, mT, mH, C.isPure, purel]) (by simp) .nil | refine And.intro ?_ ?_))
                  · simp [mtc, mtl, mT, C.isPure, purel] <;> (try simp (disch := omega) [wrap_id]) <;> (try omega)
                · intro i ⟨hi, hj⟩
                  (repeat refine awp_seq ?_); refine awp_reg1 (by rw [hx]; kernel_rfl) fun K hK => ?_; simp (maxSteps := 1000000) [ty28, ty26, ty3]; refine hK _ ?_; clear hK K; (first | show AWP _ _ _ _ _ | show ∃ _, _ | skip)
                  (repeat refine awp_seq ?_); refine awp_cond (by simp; rfl) (by rw [hx]; simp) (fun hc1 => ?_) (fun hc1 => ?_)
                  · simp at hc1
                    refine awp_skip ?_; (first | show AWP _ _ _ _ _ | show ∃ _, _ | skip)
                    (repeat refine awp_seq ?_); refine awp_block ?_
                    have h0 : w.vs ≠ [] := by intro e; rw [e] at hc1; simp at hc1
                    (repeat refine awp_seq ?_); refine awp_drw3 [] [0, 1, 2, 3, 4, 5, 6, 7, 8, 9] (by rw [hx]; kernel_rfl) (by kernel_rfl) (by kernel_rfl) (by kernel_rfl) fun K hK => ?_; simp (maxSteps := 1000000) [ty28, ty26, ty53, ty51, ty3, hc1]
                    refine callPD (q_trialOf27 w w.vs[i].nl w.vs[i].fu w.vs[i].ts) (by first | (simp; done) | (simp [*]; done)) (by simp) ?_; simp (maxSteps := 1000000) [ty62]
                    refine callPD (q_check30 (tiV w w.vs[i]) (hn.l _ (List.getElem_mem hc1))) (by first | (simp; done) | (simp [*]; done)) (by simp) ?_; simp (maxSteps := 1000000) []
                    refine hK _ ?_; clear hK K; (first | show AWP _ _ _ _ _ | show ∃ _, _ | skip)
                    by_cases hz : checkT (tiV w w.vs[i]) = 0
                    · (repeat refine awp_seq ?_); refine awp_reg1 (by rw [hx]; kernel_rfl) fun K hK => ?_; simp (maxSteps := 1000000) [ty37, hz]; refine hK _ ?_; clear hK K; (first | show AWP _ _ _ _ _ | show ∃ _, _ | skip)
                      (repeat refine awp_seq ?_); refine awp_cond (by simp [hz]; rfl) (by rw [hx]; simp) (fun hd => ?_) (fun hd => ?_)
                      · simp at hd
                      · clear hd
                        refine awp_skip ?_; (first | show AWP _ _ _ _ _ | show ∃ _, _ | skip)
                        (repeat refine awp_seq ?_); refine awp_reg1 (by rw [hx]; kernel_rfl) fun K hK => ?_; simp (maxSteps := 1000000) [ty3]; refine hK _ ?_; clear hK K; (first | show AWP _ _ _ _ _ | show ∃ _, _ | skip)
                        refine ⟨i + 1, ⟨by omega, fun j h1 h2 => ?_⟩, by omega, ?_⟩
                        · by_cases hji : j = i
                          · subst hji; assumption
                          · exact hj j h1 (by omega)
                        · refine wk_shape (shp0 hσ (by simp) (by simp) ?_) ?_
                          · simp [SlotOk] <;> (repeat' (first | exact .same (by simp [purel, C.isPure]) | exact .cons (by simp [mtl, mtc, mT, mH, C.isPure, purel]) (by simp) .nil | refine And.intro ?_ ?_))
                          · simp [mtc, mtl, mT, C.isPure, purel] <;> (try simp (disch := omega) [wrap_id]) <;> (try omega)
                    · (repeat refine awp_seq ?_); refine awp_reg1 (by rw [hx]; kernel_rfl) fun K hK => ?_; simp (maxSteps := 1000000) [ty37]; refine hK _ ?_; clear hK K; (first | show AWP _ _ _ _ _ | show ∃ _, _ | skip)
                      (repeat refine awp_seq ?_); refine awp_cond (by simp [hz]; rfl) (by rw [hx]; simp) (fun hd => ?_) (fun hd => ?_)
                      · clear hd
                        (repeat refine awp_seq ?_); refine awp_reg1 (by rw [hx]; kernel_rfl) fun K hK => ?_; simp (maxSteps := 1000000) []; refine hK _ ?_; clear hK K; (first | show AWP _ _ _ _ _ | show ∃ _, _ | skip)
                        (repeat refine awp_seq ?_); refine awp_ret ?_; refine And.intro (Or.inr rfl) ?_
                        simp [retC, resC, viewC, mapO, hT, h0, checksW_at hc1 hj hz]
                      · simp [hz] at hd
                  · simp at hc1
                    (repeat refine awp_seq ?_); refine awp_exit ?_; (first | show AWP _ _ _ _ _ | show ∃ _, _ | skip)
                    have hz := checksW_all (fun j h => hj j h (by omega))
                    have hfin : checkT (tiN w) = checkW w := by
                      rw [hT]
                      split
                      · rfl
                      · rename_i h0
                        rw [hz]
                        have hp : 0 < w.vs.length := List.length_pos_iff.2 h0
                        exact checkT_base (hj 0 hp (by omega))
                    (repeat refine awp_seq ?_); refine awp_reg1 (by rw [hx]; kernel_rfl) fun K hK => ?_; simp (maxSteps := 1000000) [ty28]
                    refine callP (q_trialOf27 w true true []) (by first | (simp; done) | (simp [*]; done)) ?_; simp (maxSteps := 1000000) [ty62]
                    refine callP (q_check30 (tiN w) ⟨by simp, by simp⟩) (by first | (simp; done) | (simp [*]; done)) ?_; simp (maxSteps := 1000000) []
                    refine hK _ ?_; clear hK K; (first | show AWP _ _ _ _ _ | show ∃ _, _ | skip)
                    (repeat refine awp_seq ?_); refine awp_ret ?_; refine And.intro (Or.inr rfl) ?_
                    simp [retC, resC, viewC, mapO, hfin]

set_option maxHeartbeats 8000000

-- the reference of wear: gains of visits, and whether gains are a truth

@[simp] abbrev rowN (L : List Int) : List C := [.sl L.isEmpty false (L.map cI)]
def gsN (w : Ws) : List (List C) := w.vs.map fun v => rowN (numsT Tr.area (tiV w v) true)
@[simp] theorem gsN_len (w : Ws) : (gsN w).length = w.vs.length := by simp [gsN]
@[simp] theorem gsN_pure (w : Ws) : (gsN w).all purel = true := all_purel_map fun _ => rfl
set_option maxHeartbeats 8000000

-- the examples of wear

def tsE (s a b : Int) : Ts := ⟨1000, false, true, [⟨1, s, 0, a, b⟩]⟩
def wE : Ws := ⟨wX, 6, 6, 1, false, true, [⟨0, false, true, [tsE 1 10 12]⟩, ⟨4, false, true, [tsE 1 10 10]⟩], 0⟩
def zE : Ws := ⟨wX, 6, 6, 1, false, true, [⟨0, false, true, [tsE 1 10 10, tsE (-1) 0 0]⟩], 0⟩
def kE : Cl := ⟨1000, 2⟩

theorem test97 (s a b : Int) : Pure Tryz.prog 97 [encI s, encI a, encI b] (encTs (tsE s a b)) := by
 refine pure_of (fn := Tryz.f97) [.cell 6 119] ⟨Tryz.func97, rfl, by kernel_rfl⟩ (by kernel_rfl) (by kernel_rfl) (by kernel_rfl) fun x hx hσ => ?_
 (repeat refine awp_seq ?_); refine awp_reg1 (by rw [hx]; kernel_rfl) fun K hK => ?_; simp (maxSteps := 1000000) [ty119]; refine hK _ ?_; clear hK K; (first | show AWP _ _ _ _ _ | show ∃ _, _ | skip)
 (repeat refine awp_seq ?_); refine awp_reg1 (by rw [hx]; kernel_rfl) fun K hK => ?_; simp (maxSteps := 1000000) [ty119, ty121, ty117, ty3]; refine hK _ ?_; clear hK K; (first | show AWP _ _ _ _ _ | show ∃ _, _ | skip)
 (repeat refine awp_seq ?_); refine awp_ret ?_; refine And.intro (Or.inr rfl) ?_
 simp [retC, resC, viewC, mapO, ty119, tsE]

theorem example56 : Pure Tryz.prog 56 [] (.tup [encWs wE, encWs zE]) := by
 have h := example48
 simp only [encWh, cWh, sWl, cWl, wX, yA, yB, List.map_cons, List.map_nil] at h
 have t1 := test97 1 10 12
 have t2 := test97 1 10 10
 have t3 := test97 (-1) 0 0
 simp only [encTs, cTs, tsE, sWl, cWl, List.map_cons, List.map_nil] at t1 t2 t3
 refine pure_of (fn := Tryz.f56) [.cell 0 28, .cell 1 28] ⟨Tryz.func56, rfl, by kernel_rfl⟩ (by kernel_rfl) (by kernel_rfl) (by kernel_rfl) fun x hx hσ => ?_
 (repeat refine awp_seq ?_); refine awp_reg1 (by rw [hx]; kernel_rfl) fun K hK => ?_; simp (maxSteps := 1000000) [ty28]; refine hK _ ?_; clear hK K; (first | show AWP _ _ _ _ _ | show ∃ _, _ | skip)
 (repeat refine awp_seq ?_); refine awp_reg1 (by rw [hx]; kernel_rfl) fun K hK => ?_; simp (maxSteps := 1000000) [ty25]
 refine callP (h) (by first | (simp; done) | (simp [*]; done)) ?_; simp (maxSteps := 1000000) [ty25]
 refine hK _ ?_; clear hK K; (first | show AWP _ _ _ _ _ | show ∃ _, _ | skip)
 (repeat refine awp_seq ?_); refine awp_reg1 (by rw [hx]; kernel_rfl) fun K hK => ?_; simp (maxSteps := 1000000) [ty25, ty28]; refine hK _ ?_; clear hK K; (first | show AWP _ _ _ _ _ | show ∃ _, _ | skip)
 (repeat refine awp_seq ?_); refine awp_reg1 (by rw [hx]; kernel_rfl) fun K hK => ?_; simp (maxSteps := 1000000) [ty28]; refine hK _ ?_; clear hK K; (first | show AWP _ _ _ _ _ | show ∃ _, _ | skip)
 (repeat refine awp_seq ?_); refine awp_reg1 (by rw [hx]; kernel_rfl) fun K hK => ?_; simp (maxSteps := 1000000) [ty28, ty53, ty51, ty119, ty26]
 refine callP (t1) (by first | (simp; done) | (simp [*]; done)) ?_; simp (maxSteps := 1000000) [ty28, ty53, ty51, ty119, ty26]
 refine callP (t2) (by first | (simp; done) | (simp [*]; done)) ?_; simp (maxSteps := 1000000) [ty28, ty53, ty51, ty119, ty26]
 refine hK _ ?_; clear hK K; (first | show AWP _ _ _ _ _ | show ∃ _, _ | skip)
 (repeat refine awp_seq ?_); refine awp_reg1 (by rw [hx]; kernel_rfl) fun K hK => ?_; simp (maxSteps := 1000000) [ty28, ty53, ty51, ty119, ty26]
 refine callP (t2) (by first | (simp; done) | (simp [*]; done)) ?_; simp (maxSteps := 1000000) [ty28, ty53, ty51, ty119, ty26]
 refine callP (t3) (by first | (simp; done) | (simp [*]; done)) ?_; simp (maxSteps := 1000000) [ty28, ty53, ty51, ty119, ty26]
 refine hK _ ?_; clear hK K; (first | show AWP _ _ _ _ _ | show ∃ _, _ | skip)
 (repeat refine awp_seq ?_); refine awp_drw3 [1001, 2002, 10000] [0, 1, 2, 3] (by rw [hx]; kernel_rfl) (by kernel_rfl) (by kernel_rfl) (by kernel_rfl) fun K hK => ?_; simp (maxSteps := 1000000) [ty28]; refine hK _ ?_; clear hK K; (first | show AWP _ _ _ _ _ | show ∃ _, _ | skip)
 (repeat refine awp_seq ?_); refine awp_ret ?_; refine And.intro (Or.inr rfl) ?_
 simp [retC, resC, viewC, mapO, ty28, wE, zE, tsE, wX]

theorem wE_len : WsLen wE := ⟨by decide, fun v hv => by
 simp only [wE, List.mem_cons, List.not_mem_nil, or_false] at hv
 rcases hv with rfl | rfl <;> exact ⟨by decide, by decide⟩⟩
theorem zE_len : WsLen zE := ⟨by decide, fun v hv => by
 simp only [zE, List.mem_cons, List.not_mem_nil, or_false] at hv
 subst hv; exact ⟨by decide, by decide⟩⟩

theorem gl_areas (w : Ws) : gl w = w.vs.map fun v => (v.day, areasR (knownT (tiV w v) true)) := by
 unfold gl
 refine List.map_congr_left fun v _ => ?_
 unfold glV
 rw [gains_nums]
theorem wE_gl : gl wE = [(0, [0, 1, 2, 3, 4]), (4, [-2, -1, 0, 1, 2])] := by rw [gl_areas]; decide +kernel
theorem zE_gl : gl zE = [(0, [0])] := by rw [gl_areas]; decide +kernel
theorem wE_check : checkW wE = 0 := by decide +kernel
theorem zE_check : checkW zE = 0 := by decide +kernel
theorem openW_true {w : Ws} {is : Bool} (h1 : checkW w = 0) (h2 : is = true) (h3 : canC (co w (gl w)) [] = true) : openW w is = 0 := by
 unfold openW; rw [if_neg (by simpa using h1), if_neg (by rw [h2]; simp), if_neg (by rw [h3]; simp)]
theorem wE_can : canC (co wE (gl wE)) [] = true := by rw [wE_gl]; decide +kernel
theorem zE_can : canC (co zE (gl zE)) [] = true := by rw [zE_gl]; decide +kernel
theorem wE_open {is : Bool} (h : is = true) : openW wE is = 0 := openW_true wE_check h wE_can
theorem zE_open {is : Bool} (h : is = true) : openW zE is = 0 := openW_true zE_check h zE_can
theorem wE_on : onW wE 4 = [-2, -1, 0, 1, 2] := by
 unfold onW; rw [if_pos (wE_open (by decide)), wE_gl]; decide +kernel
theorem wE_drift : driftW wE 0 6 = (0, 6) := by
 unfold driftW; rw [if_pos (wE_open (by decide)), wE_gl]; decide +kernel
theorem zE_dueO : dueO (co zE (gl zE)) kE = some 3 := by rw [zE_gl]; decide +kernel
theorem zE_doubt : doubtW zE = 21 := by
 unfold doubtW; rw [if_pos (zE_open rfl), zE_gl]; decide +kernel
theorem wE_blame : blameW wE 0 1000 1005 = 2 := by
 unfold blameW; rw [if_pos (wE_open (by decide)), wE_gl]; decide +kernel

theorem works15 : Pure Tryz.prog 15 [] (.bool true) := by
 have hx1 := example56
 have c1 := w_on18 wE 4 wE_len
 rw [wE_on, wE_open (by decide)] at c1
 have c2 := w_drift22 wE 0 6 wE_len
 rw [wE_drift, wE_open (by decide)] at c2
 have hkc : classB kE = true := by decide
 have c3 := w_due16 zE kE zE_len
 have hv : dueV zE kE = 3 := by unfold dueV; rw [if_pos (zE_open hkc), zE_dueO]; rfl
 have he : dueE zE kE = 0 := by unfold dueE; rw [if_pos (zE_open hkc), zE_dueO]
 rw [hv, he] at c3
 have c4 := w_doubt25 zE zE_len
 rw [zE_doubt, zE_open rfl] at c4
 have c5 := w_blame50 wE 0 1000 1005 wE_len
 rw [wE_blame, wE_open (by decide)] at c5
 have s1 := same29 false false false true [-2, -1, 0, 1, 2] [-2, -1, 0, 1, 2] (by decide) (by decide)
 simp only [decide_true] at s1
 simp only [slI, List.map_cons, List.map_nil, List.isEmpty_cons, cI, encP] at c1 c2 s1
 simp only [kE] at c3
 generalize wE = w at *
 generalize zE = z at *
 refine pure_of (fn := Tryz.f15) [.tmp 0] ⟨Tryz.func15, rfl, by kernel_rfl⟩ (by kernel_rfl) (by kernel_rfl) (by kernel_rfl) fun x hx hσ => ?_
 (repeat refine awp_seq ?_); refine awp_reg1 (by rw [hx]; kernel_rfl) fun K hK => ?_; simp (maxSteps := 1000000) []; refine hK _ ?_; clear hK K; (first | show AWP _ _ _ _ _ | show ∃ _, _ | skip)
 (repeat refine awp_seq ?_); refine awp_reg1 (by rw [hx]; kernel_rfl) fun K hK => ?_; simp (maxSteps := 1000000) [ty28]
 refine callP (hx1) (by first | (simp; done) | (simp [*]; done)) ?_; simp (maxSteps := 1000000) [ty28]
 refine hK _ ?_; clear hK K; (first | show AWP _ _ _ _ _ | show ∃ _, _ | skip)
 (repeat refine awp_seq ?_); refine awp_reg1 (by rw [hx]; kernel_rfl) fun K hK => ?_; simp (maxSteps := 1000000) [ty28]
 refine callP (c1) (by first | (simp; done) | (simp [*]; done)) ?_; simp (maxSteps := 1000000) [ty29]
 refine hK _ ?_; clear hK K; (first | show AWP _ _ _ _ _ | show ∃ _, _ | skip)
 (repeat refine awp_seq ?_); refine awp_reg1 (by rw [hx]; kernel_rfl) fun K hK => ?_; simp (maxSteps := 1000000) [ty28, ty23]
 refine callP (c2) (by first | (simp; done) | (simp [*]; done)) ?_; simp (maxSteps := 1000000) [ty23]
 refine hK _ ?_; clear hK K; (first | show AWP _ _ _ _ _ | show ∃ _, _ | skip)
 (repeat refine awp_seq ?_); refine awp_reg1 (by rw [hx]; kernel_rfl) fun K hK => ?_; simp (maxSteps := 1000000) [ty28, ty31]
 refine callP (c3) (by first | (simp; done) | (simp [*]; done)) ?_; simp (maxSteps := 1000000) []
 refine hK _ ?_; clear hK K; (first | show AWP _ _ _ _ _ | show ∃ _, _ | skip)
 (repeat refine awp_seq ?_); refine awp_reg1 (by rw [hx]; kernel_rfl) fun K hK => ?_; simp (maxSteps := 1000000) [ty28]
 refine callP (c4) (by first | (simp; done) | (simp [*]; done)) ?_; simp (maxSteps := 1000000) []
 refine hK _ ?_; clear hK K; (first | show AWP _ _ _ _ _ | show ∃ _, _ | skip)
 (repeat refine awp_seq ?_); refine awp_reg1 (by rw [hx]; kernel_rfl) fun K hK => ?_; simp (maxSteps := 1000000) [ty28]
 refine callP (c5) (by first | (simp; done) | (simp [*]; done)) ?_; simp (maxSteps := 1000000) []
 refine hK _ ?_; clear hK K; (first | show AWP _ _ _ _ _ | show ∃ _, _ | skip)
 (repeat refine awp_seq ?_); refine awp_reg1 (by rw [hx]; kernel_rfl) fun K hK => ?_; simp (maxSteps := 1000000) [ty37, ty29, ty3, ty4, ty23, fe23]
 refine callP (s1) (by first | (simp; done) | (simp [*]; done)) ?_; simp (maxSteps := 1000000) [ty37, ty29, ty3, ty4, ty23, fe23, eqInts]
 refine hK _ ?_; clear hK K; (first | show AWP _ _ _ _ _ | show ∃ _, _ | skip)
 (repeat refine awp_seq ?_); refine awp_ret ?_; refine And.intro (Or.inr rfl) ?_
 simp [retC, resC, viewC, mapO]

set_option maxHeartbeats 8000000

-- what is far, what is ready, and the laws' small functions

/-- What is near enough. -/
structure NearW (w : Ws) : Prop where
  vs : w.vs.length ≤ 20
  l : ∀ v ∈ w.vs, NearT (tiV w v)
  small : checkW w = 0 → w.gain ≤ 3 ∧ w.last ≤ 5 ∧ w.vs.length ≤ 3

theorem NearW.len {w : Ws} (h : NearW w) : WsLen w := ⟨by have := h.vs; omega, fun v hv => (h.l v hv).len⟩




theorem far30 (w : Ws) : ∃ b, Pure Tryz.prog 30 [encWs w] (.bool b) ∧ (b = false → NearW w) := by
 by_cases h20 : (20 : Int) < w.vs.length
 ·refine ⟨true, ?_, by simp⟩
  refine pure_of (fn := Tryz.f30) [.tmp 2] ⟨Tryz.func30, rfl, by kernel_rfl⟩ (by kernel_rfl) (by kernel_rfl) (by kernel_rfl) fun x hx hσ => ?_
  (repeat refine awp_seq ?_); refine awp_reg1 (by rw [hx]; kernel_rfl) fun K hK => ?_; simp (maxSteps := 1000000) [ty28]; refine hK _ ?_; clear hK K; (first | show AWP _ _ _ _ _ | show ∃ _, _ | skip)
  (repeat refine awp_seq ?_); refine awp_reg1 (by rw [hx]; kernel_rfl) fun K hK => ?_; simp (maxSteps := 1000000) [ty28, ty26, ty3, h20]; refine hK _ ?_; clear hK K; (first | show AWP _ _ _ _ _ | show ∃ _, _ | skip)
  (repeat refine awp_seq ?_); refine awp_cond (by simp [h20]; rfl) (by rw [hx]; simp) (fun hd => ?_) (fun hd => ?_)
  ·clear hd
   (repeat refine awp_seq ?_); refine awp_reg1 (by rw [hx]; kernel_rfl) fun K hK => ?_; simp (maxSteps := 1000000) []; refine hK _ ?_; clear hK K; (first | show AWP _ _ _ _ _ | show ∃ _, _ | skip)
   (repeat refine awp_seq ?_); refine awp_ret ?_; refine And.intro (Or.inr rfl) ?_
   simp [retC, resC, viewC, mapO]
  ·simp at hd
 ·obtain ⟨B, hB⟩ : ∃ B : Vs → Bool, ∀ v, Pure Tryz.prog 73 [encTi (tiV w v)] (.bool (B v)) ∧ (B v = false → NearT (tiV w v)) := Classical.axiomOfChoice fun v => far8 (tiV w v)
  obtain ⟨bN, hN, hNn⟩ := far8 (tiN w)
  by_cases hall : ∀ j, (h : j < w.vs.length) → B w.vs[j] = false
  ·have hnl : ∀ v ∈ w.vs, NearT (tiV w v) := fun v hv => by
    obtain ⟨j, hj, rfl⟩ := List.getElem_of_mem hv
    exact (hB _).2 (hall j hj)
   have hlen : WsLen w := ⟨by omega, fun v hv => (hnl v hv).len⟩
   have hck := q_check32 w hlen
   have main : ∀ b : Bool, (∀ (P : Bool → Prop), P (bN || ((checkW w == 0) && (decide (3 < w.gain) || decide (5 < w.last) || decide (3 < (w.vs.length : Int))))) → P b) → Pure Tryz.prog 30 [encWs w] (.bool b) := by
    intro b hb0
    refine hb0 (fun b => Pure Tryz.prog 30 [encWs w] (.bool b)) ?_
    refine pure_of (fn := Tryz.f30) [.tmp 2] ⟨Tryz.func30, rfl, by kernel_rfl⟩ (by kernel_rfl) (by kernel_rfl) (by kernel_rfl) fun x hx hσ => ?_
    (repeat refine awp_seq ?_); refine awp_reg1 (by rw [hx]; kernel_rfl) fun K hK => ?_; simp (maxSteps := 1000000) [ty28]; refine hK _ ?_; clear hK K; (first | show AWP _ _ _ _ _ | show ∃ _, _ | skip)
    (repeat refine awp_seq ?_); refine awp_reg1 (by rw [hx]; kernel_rfl) fun K hK => ?_; simp (maxSteps := 1000000) [ty28, ty26, ty3, h20]; refine hK _ ?_; clear hK K; (first | show AWP _ _ _ _ _ | show ∃ _, _ | skip)
    (repeat refine awp_seq ?_); refine awp_cond (by simp [h20]; rfl) (by rw [hx]; simp) (fun hd => ?_) (fun hd => ?_)
    ·simp [h20] at hd
    ·clear hd
     refine awp_skip ?_; (first | show AWP _ _ _ _ _ | show ∃ _, _ | skip)
     (repeat refine awp_seq ?_); refine awp_reg1 (by rw [hx]; kernel_rfl) fun K hK => ?_; simp (maxSteps := 1000000) [ty3]; refine hK _ ?_; clear hK K; (first | show AWP _ _ _ _ _ | show ∃ _, _ | skip)
     (repeat refine awp_seq ?_); refine awp_block ?_
     refine awp_loop (fun i : Nat => ⟨ofL [(1, .ptr 1 13 0 0), (3, encI i)], stoT [(1, 1, .live (obWs w))]⟩)
      (fun i => i ≤ w.vs.length ∧ ∀ j, (h : j < w.vs.length) → j < i → B w.vs[j] = false) (fun i => w.vs.length - i) 0 (by simp) ?_ ?_
     ·refine wk_shape (shp0 hσ (by simp) (by simp) ?_) ?_
      ·simp [SlotOk] <;> (repeat' (first | exact .same (by simp [purel, C.isPure]) | exact .cons (by simp [mtl, mtc, mT, mH, C.isPure, purel]) (by simp) .nil | refine And.intro ?_ ?_))
      ·simp [mtc, mtl, mT, C.isPure, purel] <;> (try simp (disch := omega) [wrap_id]) <;> (try omega)
     ·intro i ⟨hi, hj⟩
      (repeat refine awp_seq ?_); refine awp_reg1 (by rw [hx]; kernel_rfl) fun K hK => ?_; simp (maxSteps := 1000000) [ty28, ty26, ty3]; refine hK _ ?_; clear hK K; (first | show AWP _ _ _ _ _ | show ∃ _, _ | skip)
      (repeat refine awp_seq ?_); refine awp_cond (by simp; rfl) (by rw [hx]; simp) (fun hc => ?_) (fun hc => ?_)
      ·simp at hc
       have hcal := (hB w.vs[i]).1
       have hwi : IntKind.i64.wrap ((i : Int) + 1) = ((i + 1 : Nat) : Int) := by rw [wrap_id (by omega) (by omega)]; rfl
       refine awp_skip ?_; (first | show AWP _ _ _ _ _ | show ∃ _, _ | skip)
       (repeat refine awp_seq ?_); refine awp_block ?_
       cases hb : B w.vs[i]
       ·rw [hb] at hcal
        (repeat refine awp_seq ?_); refine awp_drw3 [] [0, 1, 2, 3, 4, 5, 6, 7, 8] (by rw [hx]; kernel_rfl) (by kernel_rfl) (by kernel_rfl) (by kernel_rfl) fun K hK => ?_; simp (maxSteps := 1000000) [ty28, ty26, ty53, ty51, ty3, hc]
        refine callPD (q_trialOf27 w w.vs[i].nl w.vs[i].fu w.vs[i].ts) (by first | (simp; done) | (simp [*]; done)) (by simp) ?_; simp (maxSteps := 1000000) [ty62]
        refine callPD (hcal) (by first | (simp; done) | (simp [*]; done)) (by simp) ?_; simp (maxSteps := 1000000) []
        refine hK _ ?_; clear hK K; (first | show AWP _ _ _ _ _ | show ∃ _, _ | skip)
        (repeat refine awp_seq ?_); refine awp_cond (by simp; rfl) (by rw [hx]; simp) (fun hd => ?_) (fun hd => ?_)
        ·simp at hd
        ·clear hd
         refine awp_skip ?_; (first | show AWP _ _ _ _ _ | show ∃ _, _ | skip)
         (repeat refine awp_seq ?_); refine awp_reg1 (by rw [hx]; kernel_rfl) fun K hK => ?_; simp (maxSteps := 1000000) [ty3]; refine hK _ ?_; clear hK K; (first | show AWP _ _ _ _ _ | show ∃ _, _ | skip)
         refine ⟨i + 1, ⟨by omega, fun j h1 h2 => ?_⟩, by omega, ?_⟩
         ·by_cases hji : j = i
          ·subst hji; exact hb
          ·exact hj j h1 (by omega)
         ·rw [hwi]
          refine wk_shape (shp0 hσ (by simp) (by simp) ?_) ?_
          ·simp [SlotOk] <;> (repeat' (first | exact .same (by simp [purel, C.isPure]) | exact .cons (by simp [mtl, mtc, mT, mH, C.isPure, purel]) (by simp) .nil | refine And.intro ?_ ?_))
          ·simp [mtc, mtl, mT, C.isPure, purel] <;> (try simp (disch := omega) [wrap_id]) <;> (try omega)
       ·rw [hb] at hcal
        have := hall i hc; rw [hb] at this; cases this
      ·simp at hc
       (repeat refine awp_seq ?_); refine awp_exit ?_; (first | show AWP _ _ _ _ _ | show ∃ _, _ | skip)
       cases bN
       ·cases hz : checkW w == 0
        ·(repeat refine awp_seq ?_); refine awp_reg1 (by rw [hx]; kernel_rfl) fun K hK => ?_; simp (maxSteps := 1000000) [ty28]
         refine callP (q_trialOf27 w true true []) (by first | (simp; done) | (simp [*]; done)) ?_; simp (maxSteps := 1000000) [ty62, ty28]
         refine callP (hN) (by first | (simp; done) | (simp [*]; done)) ?_; simp (maxSteps := 1000000) [ty4, ty28, ty3]
         refine callP (hck) (by first | (simp; done) | (simp [*]; done)) ?_; simp (maxSteps := 1000000) [ty37, ty28, ty3, hz]
         refine hK _ ?_; clear hK K; (first | show AWP _ _ _ _ _ | show ∃ _, _ | skip)
         (repeat refine awp_seq ?_); refine awp_ret ?_; refine And.intro (Or.inr rfl) ?_
         simp [retC, resC, viewC, mapO, hz]
        ·by_cases h1 : 3 < w.gain
         ·(repeat refine awp_seq ?_); refine awp_reg1 (by rw [hx]; kernel_rfl) fun K hK => ?_; simp (maxSteps := 1000000) [ty28]
          refine callP (q_trialOf27 w true true []) (by first | (simp; done) | (simp [*]; done)) ?_; simp (maxSteps := 1000000) [ty62, ty28]
          refine callP (hN) (by first | (simp; done) | (simp [*]; done)) ?_; simp (maxSteps := 1000000) [ty4, ty28, ty3]
          refine callP (hck) (by first | (simp; done) | (simp [*]; done)) ?_; simp (maxSteps := 1000000) [ty37, ty28, ty3, ty26, hz, h1]
          refine hK _ ?_; clear hK K; (first | show AWP _ _ _ _ _ | show ∃ _, _ | skip)
          (repeat refine awp_seq ?_); refine awp_ret ?_; refine And.intro (Or.inr rfl) ?_
          simp [retC, resC, viewC, mapO, hz, h1]
         ·by_cases h2 : 5 < w.last
          ·(repeat refine awp_seq ?_); refine awp_reg1 (by rw [hx]; kernel_rfl) fun K hK => ?_; simp (maxSteps := 1000000) [ty28]
           refine callP (q_trialOf27 w true true []) (by first | (simp; done) | (simp [*]; done)) ?_; simp (maxSteps := 1000000) [ty62, ty28]
           refine callP (hN) (by first | (simp; done) | (simp [*]; done)) ?_; simp (maxSteps := 1000000) [ty4, ty28, ty3]
           refine callP (hck) (by first | (simp; done) | (simp [*]; done)) ?_; simp (maxSteps := 1000000) [ty37, ty28, ty3, ty26, hz, h1, h2]
           refine hK _ ?_; clear hK K; (first | show AWP _ _ _ _ _ | show ∃ _, _ | skip)
           (repeat refine awp_seq ?_); refine awp_ret ?_; refine And.intro (Or.inr rfl) ?_
           simp [retC, resC, viewC, mapO, hz, h1, h2]
          ·(repeat refine awp_seq ?_); refine awp_reg1 (by rw [hx]; kernel_rfl) fun K hK => ?_; simp (maxSteps := 1000000) [ty28]
           refine callP (q_trialOf27 w true true []) (by first | (simp; done) | (simp [*]; done)) ?_; simp (maxSteps := 1000000) [ty62, ty28]
           refine callP (hN) (by first | (simp; done) | (simp [*]; done)) ?_; simp (maxSteps := 1000000) [ty4, ty28, ty3]
           refine callP (hck) (by first | (simp; done) | (simp [*]; done)) ?_; simp (maxSteps := 1000000) [ty37, ty28, ty3, ty26, hz, h1, h2]
           refine hK _ ?_; clear hK K; (first | show AWP _ _ _ _ _ | show ∃ _, _ | skip)
           (repeat refine awp_seq ?_); refine awp_ret ?_; refine And.intro (Or.inr rfl) ?_
           simp [retC, resC, viewC, mapO, hz, h1, h2]
       ·(repeat refine awp_seq ?_); refine awp_reg1 (by rw [hx]; kernel_rfl) fun K hK => ?_; simp (maxSteps := 1000000) [ty28]
        refine callP (q_trialOf27 w true true []) (by first | (simp; done) | (simp [*]; done)) ?_; simp (maxSteps := 1000000) [ty62, ty28]
        refine callP (hN) (by first | (simp; done) | (simp [*]; done)) ?_; simp (maxSteps := 1000000) [ty4, ty28, ty3]
        refine hK _ ?_; clear hK K; (first | show AWP _ _ _ _ _ | show ∃ _, _ | skip)
        (repeat refine awp_seq ?_); refine awp_ret ?_; refine And.intro (Or.inr rfl) ?_
        simp [retC, resC, viewC, mapO]
   refine ⟨_, main _ (fun P h => h), fun h => ⟨by omega, hnl, fun hz => ?_⟩⟩
   simp only [Bool.or_eq_false_iff] at h
   have h2 := h.2
   rw [hz] at h2
   simp at h2
   omega
  ·refine ⟨true, ?_, by simp⟩
   refine pure_of (fn := Tryz.f30) [.tmp 2] ⟨Tryz.func30, rfl, by kernel_rfl⟩ (by kernel_rfl) (by kernel_rfl) (by kernel_rfl) fun x hx hσ => ?_
   (repeat refine awp_seq ?_); refine awp_reg1 (by rw [hx]; kernel_rfl) fun K hK => ?_; simp (maxSteps := 1000000) [ty28]; refine hK _ ?_; clear hK K; (first | show AWP _ _ _ _ _ | show ∃ _, _ | skip)
   (repeat refine awp_seq ?_); refine awp_reg1 (by rw [hx]; kernel_rfl) fun K hK => ?_; simp (maxSteps := 1000000) [ty28, ty26, ty3, h20]; refine hK _ ?_; clear hK K; (first | show AWP _ _ _ _ _ | show ∃ _, _ | skip)
   (repeat refine awp_seq ?_); refine awp_cond (by simp [h20]; rfl) (by rw [hx]; simp) (fun hd => ?_) (fun hd => ?_)
   ·simp [h20] at hd
   ·clear hd
    refine awp_skip ?_; (first | show AWP _ _ _ _ _ | show ∃ _, _ | skip)
    (repeat refine awp_seq ?_); refine awp_reg1 (by rw [hx]; kernel_rfl) fun K hK => ?_; simp (maxSteps := 1000000) [ty3]; refine hK _ ?_; clear hK K; (first | show AWP _ _ _ _ _ | show ∃ _, _ | skip)
    (repeat refine awp_seq ?_); refine awp_block ?_
    refine awp_loop (fun i : Nat => ⟨ofL [(1, .ptr 1 13 0 0), (3, encI i)], stoT [(1, 1, .live (obWs w))]⟩)
     (fun i => i ≤ w.vs.length ∧ ∀ j, (h : j < w.vs.length) → j < i → B w.vs[j] = false) (fun i => w.vs.length - i) 0 (by simp) ?_ ?_
    ·refine wk_shape (shp0 hσ (by simp) (by simp) ?_) ?_
     ·simp [SlotOk] <;> (repeat' (first | exact .same (by simp [purel, C.isPure]) | exact .cons (by simp [mtl, mtc, mT, mH, C.isPure, purel]) (by simp) .nil | refine And.intro ?_ ?_))
     ·simp [mtc, mtl, mT, C.isPure, purel] <;> (try simp (disch := omega) [wrap_id]) <;> (try omega)
    ·intro i ⟨hi, hj⟩
     (repeat refine awp_seq ?_); refine awp_reg1 (by rw [hx]; kernel_rfl) fun K hK => ?_; simp (maxSteps := 1000000) [ty28, ty26, ty3]; refine hK _ ?_; clear hK K; (first | show AWP _ _ _ _ _ | show ∃ _, _ | skip)
     (repeat refine awp_seq ?_); refine awp_cond (by simp; rfl) (by rw [hx]; simp) (fun hc => ?_) (fun hc => ?_)
     ·simp at hc
      have hcal := (hB w.vs[i]).1
      have hwi : IntKind.i64.wrap ((i : Int) + 1) = ((i + 1 : Nat) : Int) := by rw [wrap_id (by omega) (by omega)]; rfl
      refine awp_skip ?_; (first | show AWP _ _ _ _ _ | show ∃ _, _ | skip)
      (repeat refine awp_seq ?_); refine awp_block ?_
      cases hb : B w.vs[i]
      ·rw [hb] at hcal
       (repeat refine awp_seq ?_); refine awp_drw3 [] [0, 1, 2, 3, 4, 5, 6, 7, 8] (by rw [hx]; kernel_rfl) (by kernel_rfl) (by kernel_rfl) (by kernel_rfl) fun K hK => ?_; simp (maxSteps := 1000000) [ty28, ty26, ty53, ty51, ty3, hc]
       refine callPD (q_trialOf27 w w.vs[i].nl w.vs[i].fu w.vs[i].ts) (by first | (simp; done) | (simp [*]; done)) (by simp) ?_; simp (maxSteps := 1000000) [ty62]
       refine callPD (hcal) (by first | (simp; done) | (simp [*]; done)) (by simp) ?_; simp (maxSteps := 1000000) []
       refine hK _ ?_; clear hK K; (first | show AWP _ _ _ _ _ | show ∃ _, _ | skip)
       (repeat refine awp_seq ?_); refine awp_cond (by simp; rfl) (by rw [hx]; simp) (fun hd => ?_) (fun hd => ?_)
       ·simp at hd
       ·clear hd
        refine awp_skip ?_; (first | show AWP _ _ _ _ _ | show ∃ _, _ | skip)
        (repeat refine awp_seq ?_); refine awp_reg1 (by rw [hx]; kernel_rfl) fun K hK => ?_; simp (maxSteps := 1000000) [ty3]; refine hK _ ?_; clear hK K; (first | show AWP _ _ _ _ _ | show ∃ _, _ | skip)
        refine ⟨i + 1, ⟨by omega, fun j h1 h2 => ?_⟩, by omega, ?_⟩
        ·by_cases hji : j = i
         ·subst hji; exact hb
         ·exact hj j h1 (by omega)
        ·rw [hwi]
         refine wk_shape (shp0 hσ (by simp) (by simp) ?_) ?_
         ·simp [SlotOk] <;> (repeat' (first | exact .same (by simp [purel, C.isPure]) | exact .cons (by simp [mtl, mtc, mT, mH, C.isPure, purel]) (by simp) .nil | refine And.intro ?_ ?_))
         ·simp [mtc, mtl, mT, C.isPure, purel] <;> (try simp (disch := omega) [wrap_id]) <;> (try omega)
      ·rw [hb] at hcal
       (repeat refine awp_seq ?_); refine awp_drw3 [] [0, 1, 2, 3, 4, 5, 6, 7, 8] (by rw [hx]; kernel_rfl) (by kernel_rfl) (by kernel_rfl) (by kernel_rfl) fun K hK => ?_; simp (maxSteps := 1000000) [ty28, ty26, ty53, ty51, ty3, hc]
       refine callPD (q_trialOf27 w w.vs[i].nl w.vs[i].fu w.vs[i].ts) (by first | (simp; done) | (simp [*]; done)) (by simp) ?_; simp (maxSteps := 1000000) [ty62]
       refine callPD (hcal) (by first | (simp; done) | (simp [*]; done)) (by simp) ?_; simp (maxSteps := 1000000) []
       refine hK _ ?_; clear hK K; (first | show AWP _ _ _ _ _ | show ∃ _, _ | skip)
       (repeat refine awp_seq ?_); refine awp_cond (by simp; rfl) (by rw [hx]; simp) (fun hd => ?_) (fun hd => ?_)
       ·clear hd
        (repeat refine awp_seq ?_); refine awp_reg1 (by rw [hx]; kernel_rfl) fun K hK => ?_; simp (maxSteps := 1000000) []; refine hK _ ?_; clear hK K; (first | show AWP _ _ _ _ _ | show ∃ _, _ | skip)
        (repeat refine awp_seq ?_); refine awp_ret ?_; refine And.intro (Or.inr rfl) ?_
        simp [retC, resC, viewC, mapO]
       ·simp at hd
     ·simp at hc
      exact absurd (fun j h => hj j h (by omega)) hall

theorem ready13 (w : Ws) : ∃ b, Pure Tryz.prog 13 [encWs w] (.bool b) ∧ (b = true → checkW w = 0 ∧ NearW w) := by
 obtain ⟨f, hF, hf⟩ := far30 w
 cases f
 ·have hn := hf rfl
  have hck := q_check32 w hn.len
  refine ⟨checkW w == 0, ?_, fun h => ⟨by simpa using h, hn⟩⟩
  refine pure_of (fn := Tryz.f13) [.tmp 2] ⟨Tryz.func13, rfl, by kernel_rfl⟩ (by kernel_rfl) (by kernel_rfl) (by kernel_rfl) fun x hx hσ => ?_
  (repeat refine awp_seq ?_); refine awp_reg1 (by rw [hx]; kernel_rfl) fun K hK => ?_; simp (maxSteps := 1000000) [ty28]; refine hK _ ?_; clear hK K; (first | show AWP _ _ _ _ _ | show ∃ _, _ | skip)
  (repeat refine awp_seq ?_); refine awp_reg1 (by rw [hx]; kernel_rfl) fun K hK => ?_; simp (maxSteps := 1000000) [ty28]
  refine callP (hF) (by first | (simp; done) | (simp [*]; done)) ?_; simp (maxSteps := 1000000) [ty4, ty28]
  refine callP (hck) (by first | (simp; done) | (simp [*]; done)) ?_; simp (maxSteps := 1000000) [ty37, ty4]
  refine hK _ ?_; clear hK K; (first | show AWP _ _ _ _ _ | show ∃ _, _ | skip)
  (repeat refine awp_seq ?_); refine awp_ret ?_; refine And.intro (Or.inr rfl) ?_
  simp [retC, resC, viewC, mapO]
 ·refine ⟨false, ?_, by simp⟩
  refine pure_of (fn := Tryz.f13) [.tmp 2] ⟨Tryz.func13, rfl, by kernel_rfl⟩ (by kernel_rfl) (by kernel_rfl) (by kernel_rfl) fun x hx hσ => ?_
  (repeat refine awp_seq ?_); refine awp_reg1 (by rw [hx]; kernel_rfl) fun K hK => ?_; simp (maxSteps := 1000000) [ty28]; refine hK _ ?_; clear hK K; (first | show AWP _ _ _ _ _ | show ∃ _, _ | skip)
  (repeat refine awp_seq ?_); refine awp_reg1 (by rw [hx]; kernel_rfl) fun K hK => ?_; simp (maxSteps := 1000000) [ty28]
  refine callP (hF) (by first | (simp; done) | (simp [*]; done)) ?_; simp (maxSteps := 1000000) [ty4, ty28]
  refine hK _ ?_; clear hK K; (first | show AWP _ _ _ _ _ | show ∃ _, _ | skip)
  (repeat refine awp_seq ?_); refine awp_ret ?_; refine And.intro (Or.inr rfl) ?_
  simp [retC, resC, viewC, mapO]

theorem isKnown17 (e : Int) : Pure Tryz.prog 17 [encI e] (.bool (e == 0 || e == 3)) := by
 refine pure_of (fn := Tryz.f17) [.tmp 2] ⟨Tryz.func17, rfl, by kernel_rfl⟩ (by kernel_rfl) (by kernel_rfl) (by kernel_rfl) fun x hx hσ => ?_
 (repeat refine awp_seq ?_); refine awp_reg1 (by rw [hx]; kernel_rfl) fun K hK => ?_; simp (maxSteps := 1000000) []; refine hK _ ?_; clear hK K; (first | show AWP _ _ _ _ _ | show ∃ _, _ | skip)
 cases h : (e == (0 : Int))
 ·(repeat refine awp_seq ?_); refine awp_reg1 (by rw [hx]; kernel_rfl) fun K hK => ?_; simp (maxSteps := 1000000) [ty37, h]; refine hK _ ?_; clear hK K; (first | show AWP _ _ _ _ _ | show ∃ _, _ | skip)
  (repeat refine awp_seq ?_); refine awp_ret ?_; refine And.intro (Or.inr rfl) ?_
  simp [retC, resC, viewC, mapO, h]
 ·(repeat refine awp_seq ?_); refine awp_reg1 (by rw [hx]; kernel_rfl) fun K hK => ?_; simp (maxSteps := 1000000) [ty37, h]; refine hK _ ?_; clear hK K; (first | show AWP _ _ _ _ _ | show ∃ _, _ | skip)
  (repeat refine awp_seq ?_); refine awp_ret ?_; refine And.intro (Or.inr rfl) ?_
  simp [retC, resC, viewC, mapO, h]

theorem l_in45 (nl fu : Bool) (A : List Int) (n : Int) (hn : A.length ≤ 1000000) : Pure Tryz.prog 45 [.sl nl fu (A.map cI), encI n] (.bool (decide (n ∈ A))) := by
 refine pure_of (fn := Tryz.f45) [.tmp 4] ⟨Tryz.func45, rfl, by kernel_rfl⟩ (by kernel_rfl) (by kernel_rfl) (by kernel_rfl) fun x hx hσ => ?_
 (repeat refine awp_seq ?_); refine awp_reg1 (by rw [hx]; kernel_rfl) fun K hK => ?_; simp (maxSteps := 1000000) []; refine hK _ ?_; clear hK K; (first | show AWP _ _ _ _ _ | show ∃ _, _ | skip)
 (repeat refine awp_seq ?_); refine awp_reg1 (by rw [hx]; kernel_rfl) fun K hK => ?_; simp (maxSteps := 1000000) []
 refine callP (in41 nl fu A n hn) (by first | (simp; done) | (simp [*]; done)) ?_; simp (maxSteps := 1000000) []
 refine hK _ ?_; clear hK K; (first | show AWP _ _ _ _ _ | show ∃ _, _ | skip)
 (repeat refine awp_seq ?_); refine awp_ret ?_; refine And.intro (Or.inr rfl) ?_
 simp [retC, resC, viewC, mapO]

theorem l_subset29 (nl fu nl' fu' : Bool) (A B : List Int) (hA : A.length ≤ 1000000) (hB : B.length ≤ 1000000) (hs : ∀ x ∈ A, x ∈ B) (hl : A.length ≤ B.length) : Pure Tryz.prog 29 [.sl nl fu (A.map cI), .sl nl' fu' (B.map cI)] (.bool true) := by
 refine pure_of (fn := Tryz.f29) [.tmp 4] ⟨Tryz.func29, rfl, by kernel_rfl⟩ (by kernel_rfl) (by kernel_rfl) (by kernel_rfl) fun x hx hσ => ?_
 (repeat refine awp_seq ?_); refine awp_reg1 (by rw [hx]; kernel_rfl) fun K hK => ?_; simp (maxSteps := 1000000) []; refine hK _ ?_; clear hK K; (first | show AWP _ _ _ _ _ | show ∃ _, _ | skip)
 (repeat refine awp_seq ?_); refine awp_reg1 (by rw [hx]; kernel_rfl) fun K hK => ?_; simp (maxSteps := 1000000) [ty3]; refine hK _ ?_; clear hK K; (first | show AWP _ _ _ _ _ | show ∃ _, _ | skip)
 (repeat refine awp_seq ?_); refine awp_block ?_
 refine awp_loop (fun i : Nat => ⟨ofL [(0, .sl nl fu (A.map cI)), (1, .sl nl' fu' (B.map cI)), (5, encI i)], stoT []⟩)
  (fun i => i ≤ A.length) (fun i => A.length - i) 0 (Nat.zero_le _) ?_ ?_
 ·refine wk_shape (shp0 hσ (by simp) (by simp) ?_) ?_
  ·simp [SlotOk] <;> (repeat' (first | exact .same (by simp [purel, C.isPure]) | exact .cons (by simp [mtl, mtc, mT, mH, C.isPure, purel]) (by simp) .nil | refine And.intro ?_ ?_))
  ·simp [mtc, mtl, mT, C.isPure, purel] <;> (try simp (disch := omega) [wrap_id]) <;> (try omega)
 ·intro i hi
  (repeat refine awp_seq ?_); refine awp_reg1 (by rw [hx]; kernel_rfl) fun K hK => ?_; simp (maxSteps := 1000000) [ty29, ty3]; refine hK _ ?_; clear hK K; (first | show AWP _ _ _ _ _ | show ∃ _, _ | skip)
  (repeat refine awp_seq ?_); refine awp_cond (by simp; rfl) (by rw [hx]; simp) (fun hc => ?_) (fun hc => ?_)
  ·simp at hc
   have hwi : IntKind.i64.wrap ((i : Int) + 1) = ((i + 1 : Nat) : Int) := by rw [wrap_id (by omega) (by omega)]; rfl
   have hm := hs _ (List.getElem_mem hc)
   have hcal := l_in45 nl' fu' B A[i] hB
   rw [decide_eq_true hm] at hcal
   refine awp_skip ?_; (first | show AWP _ _ _ _ _ | show ∃ _, _ | skip)
   (repeat refine awp_seq ?_); refine awp_block ?_
   (repeat refine awp_seq ?_); refine awp_reg1 (by rw [hx]; kernel_rfl) fun K hK => ?_; simp (maxSteps := 1000000) [ty29, ty3, hc]
   refine callP (hcal) (by first | (simp; done) | (simp [*]; done)) ?_; simp (maxSteps := 1000000) [ty4]
   refine hK _ ?_; clear hK K; (first | show AWP _ _ _ _ _ | show ∃ _, _ | skip)
   (repeat refine awp_seq ?_); refine awp_cond (by simp; rfl) (by rw [hx]; simp) (fun hd => ?_) (fun hd => ?_)
   ·simp at hd
   ·clear hd
    refine awp_skip ?_; (first | show AWP _ _ _ _ _ | show ∃ _, _ | skip)
    (repeat refine awp_seq ?_); refine awp_reg1 (by rw [hx]; kernel_rfl) fun K hK => ?_; simp (maxSteps := 1000000) [ty3]; refine hK _ ?_; clear hK K; (first | show AWP _ _ _ _ _ | show ∃ _, _ | skip)
    refine ⟨i + 1, by omega, by omega, ?_⟩
    rw [hwi]
    refine wk_shape (shp0 hσ (by simp) (by simp) ?_) ?_
    ·simp [SlotOk] <;> (repeat' (first | exact .same (by simp [purel, C.isPure]) | exact .cons (by simp [mtl, mtc, mT, mH, C.isPure, purel]) (by simp) .nil | refine And.intro ?_ ?_))
    ·simp [mtc, mtl, mT, C.isPure, purel] <;> (try simp (disch := omega) [wrap_id]) <;> (try omega)
  ·simp at hc
   (repeat refine awp_seq ?_); refine awp_exit ?_; (first | show AWP _ _ _ _ _ | show ∃ _, _ | skip)
   have hle : (A.length : Int) ≤ (B.length : Int) := by omega
   (repeat refine awp_seq ?_); refine awp_reg1 (by rw [hx]; kernel_rfl) fun K hK => ?_; simp (maxSteps := 1000000) [ty29, ty3, hle]; refine hK _ ?_; clear hK K; (first | show AWP _ _ _ _ _ | show ∃ _, _ | skip)
   (repeat refine awp_seq ?_); refine awp_ret ?_; refine And.intro (Or.inr rfl) ?_
   simp [retC, resC, viewC, mapO]

/-- The question of the laws: two days, an area, and a seen area. -/
structure As where
  a : Int
  b : Int
  area : Int
  seen : Int
@[simp] abbrev cAs (x : As) : List C := [encI x.a, encI x.b, encI x.area, encI x.seen]
@[simp] abbrev encAs (x : As) : C := .agg (cAs x)
def askB (w : Ws) (x : As) : Bool := decide (0 ≤ x.a) && decide (x.a ≤ x.b) && decide (x.b ≤ w.last) && decide (0 ≤ x.area) && decide (x.area ≤ 9000)

theorem isAsk21 (w : Ws) (x : As) : Pure Tryz.prog 21 [encWs w, encAs x] (.bool (askB w x)) := by
 by_cases h1 : 0 ≤ x.a
 ·by_cases h2 : x.a ≤ x.b
  ·by_cases h3 : x.b ≤ w.last
   ·by_cases h4 : 0 ≤ x.area
    ·refine pure_of (fn := Tryz.f21) [.tmp 4] ⟨Tryz.func21, rfl, by kernel_rfl⟩ (by kernel_rfl) (by kernel_rfl) (by kernel_rfl) fun x hx hσ => ?_
     (repeat refine awp_seq ?_); refine awp_reg1 (by rw [hx]; kernel_rfl) fun K hK => ?_; simp (maxSteps := 1000000) [ty28, ty47]; refine hK _ ?_; clear hK K; (first | show AWP _ _ _ _ _ | show ∃ _, _ | skip)
     (repeat refine awp_seq ?_); refine awp_reg1 (by rw [hx]; kernel_rfl) fun K hK => ?_; simp (maxSteps := 1000000) [ty28, ty47, ty3, ty4, h1, h2, h3, h4]; refine hK _ ?_; clear hK K; (first | show AWP _ _ _ _ _ | show ∃ _, _ | skip)
     (repeat refine awp_seq ?_); refine awp_ret ?_; refine And.intro (Or.inr rfl) ?_
     simp [retC, resC, viewC, mapO, askB, h1, h2, h3, h4]
    ·refine pure_of (fn := Tryz.f21) [.tmp 4] ⟨Tryz.func21, rfl, by kernel_rfl⟩ (by kernel_rfl) (by kernel_rfl) (by kernel_rfl) fun x hx hσ => ?_
     (repeat refine awp_seq ?_); refine awp_reg1 (by rw [hx]; kernel_rfl) fun K hK => ?_; simp (maxSteps := 1000000) [ty28, ty47]; refine hK _ ?_; clear hK K; (first | show AWP _ _ _ _ _ | show ∃ _, _ | skip)
     (repeat refine awp_seq ?_); refine awp_reg1 (by rw [hx]; kernel_rfl) fun K hK => ?_; simp (maxSteps := 1000000) [ty28, ty47, ty3, ty4, h1, h2, h3, h4]; refine hK _ ?_; clear hK K; (first | show AWP _ _ _ _ _ | show ∃ _, _ | skip)
     (repeat refine awp_seq ?_); refine awp_ret ?_; refine And.intro (Or.inr rfl) ?_
     simp [retC, resC, viewC, mapO, askB, h1, h2, h3, h4]
   ·refine pure_of (fn := Tryz.f21) [.tmp 4] ⟨Tryz.func21, rfl, by kernel_rfl⟩ (by kernel_rfl) (by kernel_rfl) (by kernel_rfl) fun x hx hσ => ?_
    (repeat refine awp_seq ?_); refine awp_reg1 (by rw [hx]; kernel_rfl) fun K hK => ?_; simp (maxSteps := 1000000) [ty28, ty47]; refine hK _ ?_; clear hK K; (first | show AWP _ _ _ _ _ | show ∃ _, _ | skip)
    (repeat refine awp_seq ?_); refine awp_reg1 (by rw [hx]; kernel_rfl) fun K hK => ?_; simp (maxSteps := 1000000) [ty28, ty47, ty3, ty4, h1, h2, h3]; refine hK _ ?_; clear hK K; (first | show AWP _ _ _ _ _ | show ∃ _, _ | skip)
    (repeat refine awp_seq ?_); refine awp_ret ?_; refine And.intro (Or.inr rfl) ?_
    simp [retC, resC, viewC, mapO, askB, h1, h2, h3]
  ·refine pure_of (fn := Tryz.f21) [.tmp 4] ⟨Tryz.func21, rfl, by kernel_rfl⟩ (by kernel_rfl) (by kernel_rfl) (by kernel_rfl) fun x hx hσ => ?_
   (repeat refine awp_seq ?_); refine awp_reg1 (by rw [hx]; kernel_rfl) fun K hK => ?_; simp (maxSteps := 1000000) [ty28, ty47]; refine hK _ ?_; clear hK K; (first | show AWP _ _ _ _ _ | show ∃ _, _ | skip)
   (repeat refine awp_seq ?_); refine awp_reg1 (by rw [hx]; kernel_rfl) fun K hK => ?_; simp (maxSteps := 1000000) [ty28, ty47, ty3, ty4, h1, h2]; refine hK _ ?_; clear hK K; (first | show AWP _ _ _ _ _ | show ∃ _, _ | skip)
   (repeat refine awp_seq ?_); refine awp_ret ?_; refine And.intro (Or.inr rfl) ?_
   simp [retC, resC, viewC, mapO, askB, h1, h2]
 ·refine pure_of (fn := Tryz.f21) [.tmp 4] ⟨Tryz.func21, rfl, by kernel_rfl⟩ (by kernel_rfl) (by kernel_rfl) (by kernel_rfl) fun x hx hσ => ?_
  (repeat refine awp_seq ?_); refine awp_reg1 (by rw [hx]; kernel_rfl) fun K hK => ?_; simp (maxSteps := 1000000) [ty28, ty47]; refine hK _ ?_; clear hK K; (first | show AWP _ _ _ _ _ | show ∃ _, _ | skip)
  (repeat refine awp_seq ?_); refine awp_reg1 (by rw [hx]; kernel_rfl) fun K hK => ?_; simp (maxSteps := 1000000) [ty28, ty47, ty3, ty4, h1]; refine hK _ ?_; clear hK K; (first | show AWP _ _ _ _ _ | show ∃ _, _ | skip)
  (repeat refine awp_seq ?_); refine awp_ret ?_; refine And.intro (Or.inr rfl) ?_
  simp [retC, resC, viewC, mapO, askB, h1]

end Go.Proofs.YtknoachjpoibaaaGreat

