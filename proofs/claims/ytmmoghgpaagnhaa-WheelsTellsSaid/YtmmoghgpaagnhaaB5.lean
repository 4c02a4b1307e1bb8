/- The machine of abstract values and the contracts of the functions of the program, which the statements of this seat share. No condition. -/
import Derived.Test.YtmmoghgpaagnhaaB4
import Derived.ProofKit
import Derived.OpenShut
import Derived.ChangeStays
import Derived.Test.YtmmoghgpaagnhaaRows
import Derived.WalkKit

set_option linter.unusedSimpArgs false
set_option linter.unusedVariables false
set_option linter.constructorNameAsVariable false

namespace Go.Proofs.Ytmmoghgpaagnhaa
open Go Go.Abs

set_option maxHeartbeats 4000000

def worstR (w : Wh) (L : List Tr) (a b : Int) : Nat := maxTo (fun e => (areasR (L.filter (rtB w a b e))).length) w.full.toNat

theorem maxTo_congr {f g : Nat → Nat} : ∀ {n : Nat}, (∀ i, i < n → f i = g i) → maxTo f n = maxTo g n
  | 0, _ => rfl
  | n + 1, h => by rw [maxTo, maxTo, h n (by omega), maxTo_congr fun i hi => h i (by omega)]

theorem worst_eq (w : Wh) (l : List Wl) (a b : Int) : worstR w (truthsL w l) a b = worstN w l a b := by
  unfold worstR worstN
  refine maxTo_congr fun e _ => ?_
  unfold kvE
  rw [List.take_length, areasR_eq ((truthsL_sorted w l).filter _), kindsL_len]

theorem ref54 (w : Wh) (nl fu : Bool) (L : List Tr) (a b : Int) (hw : WhOk w) (hL : ∀ t ∈ L, TrOk t) (hn : L.length ≤ 410000) (ha : a = 1 ∨ a = -1) (hb : b = 1 ∨ b = -1) :
    Pure Try.prog 54 [encWh w, .sl nl fu (L.map cTr), encI a, encI b] (encI (worstR w L a b)) := by
  have hfull := hw.full
  obtain ⟨N, hN⟩ : ∃ N : Nat, w.full.toNat = N := ⟨_, rfl⟩
  have hNi : w.full = N := by omega
  obtain ⟨m, hm⟩ : ∃ m : Nat → Nat, m = fun d => maxTo (fun e => (areasR (L.filter (rtB w a b e))).length) d := ⟨_, rfl⟩
  have hmN : worstR w L a b = m N := by rw [hm, ← hN]; rfl
  have hm0 : m 0 = 0 := by rw [hm]; rfl
  have hms : ∀ d, m (d + 1) = max (m d) (areasR (L.filter (rtB w a b d))).length := fun d => by rw [hm]; rfl
  have hab : ∀ e, (areasR (L.filter (rtB w a b e))).length ≤ 410000 := fun e => Nat.le_trans (areasR_len _) (Nat.le_trans (List.length_filter_le _ _) hn)
  have hmb : ∀ d, m d ≤ 410000 := fun d => by rw [hm]; exact maxTo_le hab d
  rw [hmN]
  refine pure_of (fn := Try.f54) [.tmp 8] ⟨Try.func54, rfl, by kernel_rfl⟩ (by kernel_rfl) (by kernel_rfl) (by kernel_rfl) fun x hx hσ => ?_
  repeat refine awp_seq ?_
  refine awp_reg1 (by rw [hx]; kernel_rfl) fun K hK => ?_
  simp (config := { maxSteps := 1000000 }) [ty25]
  refine hK _ ?_
  clear hK K
  first | show AWP _ _ _ _ _ | show ∃ _, _ | skip
  repeat refine awp_seq ?_
  refine awp_reg1 (by rw [hx]; kernel_rfl) fun K hK => ?_
  simp (config := { maxSteps := 1000000 }) []
  refine hK _ ?_
  clear hK K
  first | show AWP _ _ _ _ _ | show ∃ _, _ | skip
  repeat refine awp_seq ?_
  refine awp_reg1 (by rw [hx]; kernel_rfl) fun K hK => ?_
  simp (config := { maxSteps := 1000000 }) []
  refine hK _ ?_
  clear hK K
  first | show AWP _ _ _ _ _ | show ∃ _, _ | skip
  repeat refine awp_seq ?_
  refine awp_block ?_
  refine awp_loop (fun d : Nat => ⟨ofL [(1, .sl nl fu (L.map cTr)), (2, encI a), (3, encI b), (4, .ptr 4 8 0 0), (9, encI (m d)), (10, encI d)], stoT [(4, 4, .live (obWh w))]⟩)
    (fun d => d ≤ N) (fun d => N - d) 0 (Nat.zero_le _) ?_ ?_
  · simp only [hm0]
    refine wk_shape (shp0 hσ (by simp) (by simp) ?_) ?_
    · simp [SlotOk] <;> (repeat' (first | exact .same (by simp [purel, C.isPure]) | exact .cons (by simp [mtl, mtc, mT, mH, C.isPure, purel]) (by simp) .nil | refine And.intro ?_ ?_))
    · simp [mtc, mtl, mT, C.isPure, purel] <;> (try simp (disch := omega) [wrap_id]) <;> (try omega)
  · intro d hd0
    repeat refine awp_seq ?_
    refine awp_reg1 (by rw [hx]; kernel_rfl) fun K hK => ?_
    simp (config := { maxSteps := 1000000 }) [ty25, ty3]
    refine hK _ ?_
    clear hK K
    first | show AWP _ _ _ _ _ | show ∃ _, _ | skip
    repeat refine awp_seq ?_
    refine awp_cond (by simp; rfl) (by rw [hx]; simp) (fun hc => ?_) (fun hc => ?_)
    · simp at hc
      have hdN : d < N := by omega
      refine awp_skip ?_
      first | show AWP _ _ _ _ _ | show ∃ _, _ | skip
      repeat refine awp_seq ?_
      refine awp_block ?_
      repeat refine awp_seq ?_
      refine awp_reg1 (by rw [hx]; kernel_rfl) fun K hK => ?_
      simp (config := { maxSteps := 1000000 }) [ty39]
      refine hK _ ?_
      clear hK K
      first | show AWP _ _ _ _ _ | show ∃ _, _ | skip
      repeat refine awp_seq ?_
      refine awp_reg1 (by rw [hx]; kernel_rfl) fun K hK => ?_
      simp (config := { maxSteps := 1000000 }) []
      refine hK _ ?_
      clear hK K
      first | show AWP _ _ _ _ _ | show ∃ _, _ | skip
      repeat refine awp_seq ?_
      refine awp_reg1 (by rw [hx]; kernel_rfl) fun K hK => ?_
      simp (config := { maxSteps := 1000000 }) []
      refine hK _ ?_
      clear hK K
      first | show AWP _ _ _ _ _ | show ∃ _, _ | skip
      repeat refine awp_seq ?_
      refine awp_block ?_
      refine AWP.weak ?_ (wk_nil 12 12 2 (fu := true) (by simp) (by simp))
      obtain ⟨O, hO⟩ : ∃ O : Nat → List Tr, O = fun i => (L.take i).filter (rtB w a b d) := ⟨_, rfl⟩
      have hO0 : O 0 = [] := by rw [hO]; rfl
      have hOn : O L.length = L.filter (rtB w a b d) := by rw [hO]; simp only [List.take_length]
      have hOs : ∀ i (hi : i < L.length), O (i + 1) = O i ++ if rtB w a b d L[i] then [L[i]] else [] := fun i hi => by rw [hO]; exact filter_step _ hi
      have hOl : ∀ i, (O i).length ≤ L.length := fun i => by
        rw [hO]; exact Nat.le_trans (List.length_filter_le _ _) (by simp; omega)
      refine awp_loop (fun i : Nat => ⟨ofL [(1, .sl nl fu (L.map cTr)), (2, encI a), (3, encI b), (4, .ptr 4 8 0 0), (9, encI (m d)), (10, encI d), (11, .ptr 11 5 0 0), (12, .own 12 2 0 (O i).length), (13, encI i)], stoT [(4, 4, .live (obWh w)), (11, 11, .live (obWl ⟨a, b, 0, 0, d⟩)), (12, 12, .live (obTs (O i)))]⟩)
        (fun i => i ≤ L.length) (fun i => L.length - i) 0 (Nat.zero_le _) ?_ ?_
      · simp only [hO0]
        refine wk_shape (shp0 hσ (by simp) (by simp) ?_) ?_
        · simp [SlotOk] <;> (repeat' (first | exact .same (by simp [purel, C.isPure]) | exact .cons (by simp [mtl, mtc, mT, mH, C.isPure, purel]) (by simp) .nil | refine And.intro ?_ ?_))
        · simp [mtc, mtl, mT, C.isPure, purel] <;> (try simp (disch := omega) [wrap_id]) <;> (try omega)
      · intro i hi
        have hOli := hOl i
        repeat refine awp_seq ?_
        refine awp_reg1 (by rw [hx]; kernel_rfl) fun K hK => ?_
        simp (config := { maxSteps := 1000000 }) [ty84, ty3]
        refine hK _ ?_
        clear hK K
        first | show AWP _ _ _ _ _ | show ∃ _, _ | skip
        repeat refine awp_seq ?_
        refine awp_cond (by simp; rfl) (by rw [hx]; simp) (fun hc2 => ?_) (fun hc2 => ?_)
        · simp at hc2
          have hst := hOs i hc2
          have hwi := wrap_id (z := (i : Int) + 1) (by omega) (by omega)
          refine awp_skip ?_
          first | show AWP _ _ _ _ _ | show ∃ _, _ | skip
          repeat refine awp_seq ?_
          refine awp_block ?_
          repeat refine awp_seq ?_
          refine awp_drw3 [] [0, 1, 2, 3, 4, 5, 6] (by rw [hx]; kernel_rfl) (by kernel_rfl) (by kernel_rfl) (by kernel_rfl) fun K hK => ?_
          simp (config := { maxSteps := 1000000 }) [ty25, ty39, ty84, ty61, hc2]
          have hcl := ref43 w ⟨a, b, 0, 0, d⟩ L[i] hw ⟨ha, hb, by simp, by simp; omega, by simp; omega⟩ (hL _ (List.getElem_mem hc2))
          refine callPD (hcl) (by first | (simp; done) | (simp [*]; done)) (by simp) ?_
          simp (config := { maxSteps := 1000000 }) [ty4]
          refine hK _ ?_
          clear hK K
          first | show AWP _ _ _ _ _ | show ∃ _, _ | skip
          cases hr : rtB w a b d L[i]
          · have hr' : rightB w ⟨a, b, 0, 0, d⟩ L[i] = false := hr
            rw [hr] at hst
            simp at hst
            repeat refine awp_seq ?_
            refine awp_cond (by simp [hr']; rfl) (by rw [hx]; simp) (fun hd => ?_) (fun hd => ?_)
            · simp [hr'] at hd
            · clear hd
              refine awp_skip ?_
              first | show AWP _ _ _ _ _ | show ∃ _, _ | skip
              repeat refine awp_seq ?_
              refine awp_reg1 (by rw [hx]; kernel_rfl) fun K hK => ?_
              simp (config := { maxSteps := 1000000 }) [ty3]
              refine hK _ ?_
              clear hK K
              first | show AWP _ _ _ _ _ | show ∃ _, _ | skip
              refine ⟨i + 1, by omega, by omega, ?_⟩
              rw [hst]
              refine wk_shape (shp0 hσ (by simp) (by simp) ?_) ?_
              · simp [SlotOk] <;> (repeat' (first | exact .same (by simp [purel, C.isPure]) | exact .cons (by simp [mtl, mtc, mT, mH, C.isPure, purel]) (by simp) .nil | refine And.intro ?_ ?_))
              · simp [mtc, mtl, mT, C.isPure, purel, hwi] <;> (try simp (disch := omega) [wrap_id]) <;> (try omega)
          · have hr' : rightB w ⟨a, b, 0, 0, d⟩ L[i] = true := hr
            rw [hr] at hst
            simp at hst
            repeat refine awp_seq ?_
            refine awp_cond (by simp [hr']; rfl) (by rw [hx]; simp) (fun hd => ?_) (fun hd => ?_)
            · clear hd
              repeat refine awp_seq ?_
              refine awp_reg1 (by rw [hx]; kernel_rfl) fun K hK => ?_
              simp (config := { maxSteps := 1000000 }) [ty84, ty61, hc2]
              refine ⟨by omega, ?_⟩
              refine hK _ ?_
              clear hK K
              first | show AWP _ _ _ _ _ | show ∃ _, _ | skip
              repeat refine awp_seq ?_
              refine awp_reg1 (by rw [hx]; kernel_rfl) fun K hK => ?_
              simp (config := { maxSteps := 1000000 }) [ty3]
              refine hK _ ?_
              clear hK K
              first | show AWP _ _ _ _ _ | show ∃ _, _ | skip
              refine ⟨i + 1, by omega, by omega, ?_⟩
              refine wk_shape (T := [(4, 4, .live (obWh w)), (11, 11, .live (obWl ⟨a, b, 0, 0, d⟩)), (12, 43, .live (obTs (O (i + 1))))]) (shp0 hσ (by simp) (by simp) ?_) ?_
              · simp [SlotOk, hst]
                exact ⟨.same (by simp [purel, C.isPure]), .same (by simp [purel, C.isPure]), .same (by simp [purel, C.isPure])⟩
              · simp [mtc, mtl, mT, C.isPure, purel, hst, hwi]
            · simp [hr'] at hd
        · simp at hc2
          repeat refine awp_seq ?_
          refine awp_exit ?_
          first | show AWP _ _ _ _ _ | show ∃ _, _ | skip
          have : i = L.length := by omega
          rw [this, hOn]
          have hmd := hmb d
          have hmb1 := hmb (d + 1)
          have hms1 := hms d
          have hab1 := hab d
          have hfl := List.length_filter_le (rtB w a b d) L
          have hwd := wrap_id (z := (d : Int) + 1) (by omega) (by omega)
          generalize L.filter (rtB w a b d) = X at *
          repeat refine awp_seq ?_
          refine awp_reg1 (by rw [hx]; kernel_rfl) fun K hK => ?_
          simp (config := { maxSteps := 1000000 }) []
          refine doesL (does_frz 12 (args' := [.sl X.isEmpty false (X.map cTr)]) (by simp; rfl) ?_ (.cons ?_ .nil) ?_ (ref69 X.isEmpty false X (by omega)) ?_) ?_
          · simp [purel, C.isPure]
          · have := fz_own (k := 12) (sz := 2) (n := X.length) (b := X.isEmpty) (o := obTs X) rfl (by simp) (by simp)
            simpa using this
          · simp [purel, C.isPure]
          · simp [C.isPure]
          simp [ty45, ty3]
          refine hK _ ?_
          clear hK K
          first | show AWP _ _ _ _ _ | show ∃ _, _ | skip
          have hmx : (if m d < (areasR X).length then ((areasR X).length : Int) else (m d : Int)) = (m (d + 1) : Int) := by
            rw [hms1]; split <;> omega
          rw [hmx]
          repeat refine awp_seq ?_
          refine awp_reg1 (by rw [hx]; kernel_rfl) fun K hK => ?_
          simp (config := { maxSteps := 1000000 }) [ty3]
          refine hK _ ?_
          clear hK K
          first | show AWP _ _ _ _ _ | show ∃ _, _ | skip
          refine ⟨d + 1, by omega, by omega, ?_⟩
          refine wk_shape (shp0 hσ (by simp) (by simp) ?_) ?_
          · simp [SlotOk] <;> (repeat' (first | exact .same (by simp [purel, C.isPure]) | exact .cons (by simp [mtl, mtc, mT, mH, C.isPure, purel]) (by simp) .nil | refine And.intro ?_ ?_))
          · simp [mtc, mtl, mT, C.isPure, purel, hwd] <;> (try simp (disch := omega) [wrap_id]) <;> (try omega)
    · simp at hc
      repeat refine awp_seq ?_
      refine awp_exit ?_
      first | show AWP _ _ _ _ _ | show ∃ _, _ | skip
      have : d = N := by omega
      rw [this]
      repeat refine awp_seq ?_
      refine awp_reg1 (by rw [hx]; kernel_rfl) fun K hK => ?_
      simp (config := { maxSteps := 1000000 }) []
      refine hK _ ?_
      clear hK K
      first | show AWP _ _ _ _ _ | show ∃ _, _ | skip
      repeat refine awp_seq ?_
      refine awp_ret ?_
      refine And.intro (Or.inr rfl) ?_
      simp [retC, resC, viewC, mapO]


theorem ref15 (w : Wh) (nl fu : Bool) (l : List Wl) (a b : Int) (hn : l.length ≤ 1000) : Pure Try.prog 15 [encWh w, sWl nl fu l, encI a, encI b] (.tup [encI (worstI w l a b), encI (openI w l (oneB a && oneB b))]) := by
  refine pure_of (fn := Try.f15) [.tmp 8, .tmp 9] ⟨Try.func15, rfl, by kernel_rfl⟩ (by kernel_rfl) (by kernel_rfl) (by kernel_rfl) fun x hx hσ => ?_
  repeat refine awp_seq ?_
  refine awp_reg1 (by rw [hx]; kernel_rfl) fun K hK => ?_
  simp (config := { maxSteps := 1000000 }) [ty25]
  refine hK _ ?_
  clear hK K
  first | show AWP _ _ _ _ _ | show ∃ _, _ | skip
  cases ha : oneB a
  · have h1 := one53 a
    rw [ha] at h1
    repeat refine awp_seq ?_
    refine awp_drw3 [] [0, 1, 2, 3, 4, 5, 6, 7, 8, 9, 10, 11, 12, 13] (by rw [hx]; kernel_rfl) (by kernel_rfl) (by kernel_rfl) (by kernel_rfl) fun K hK => ?_
    simp (config := { maxSteps := 1000000 }) [ty25, ty84]
    refine callPD (h1) (by first | (simp; done) | (simp [*]; done)) (by simp) ?_
    simp (config := { maxSteps := 1000000 }) [ty84]
    refine callPD (ref52 w nl fu false l hn) (by first | (simp; done) | (simp [*]; done)) (by simp) ?_
    simp (config := { maxSteps := 1000000 }) [ty84]
    refine hK _ ?_
    clear hK K
    first | show AWP _ _ _ _ _ | show ∃ _, _ | skip
    repeat refine awp_seq ?_
    refine awp_reg1 (by rw [hx]; kernel_rfl) fun K hK => ?_
    simp (config := { maxSteps := 1000000 }) [ty31]
    refine hK _ ?_
    clear hK K
    first | show AWP _ _ _ _ _ | show ∃ _, _ | skip
    by_cases hz : openI w l false = 0
    · obtain ⟨hc0, _, hT⟩ := openI_ok (openI_t hz)
      obtain ⟨hw, hl, h8⟩ := checkI_ok hc0
      have his := openI_is hz
      have hb' : oneB b = true := (absurd his (by simp))
      have hk : knownL w l false = truthsL w l := if_pos hz
      have hTok : ∀ t ∈ truthsL w l, TrOk t := fun t ht => allT_ok hw (List.mem_filter.1 ht).1
      rw [hk]
      repeat refine awp_seq ?_
      refine awp_cond (by simp [hz]; rfl) (by rw [hx]; simp) (fun hd => ?_) (fun hd => ?_)
      · simp at hd
      · clear hd
        refine awp_skip ?_
        first | show AWP _ _ _ _ _ | show ∃ _, _ | skip
        repeat refine awp_seq ?_
        refine awp_reg1 (by rw [hx]; kernel_rfl) fun K hK => ?_
        simp (config := { maxSteps := 1000000 }) [ty25]
        refine callP (ref54 w (truthsL w l).isEmpty (truthsL w l).isEmpty (truthsL w l) a b hw hTok (truthsL_bd l hw) ((oneB_iff a).1 (absurd his (by simp))) ((oneB_iff b).1 hb')) (by first | (simp; done) | (simp [*]; done)) ?_
        simp (config := { maxSteps := 1000000 }) [ty3]
        refine hK _ ?_
        clear hK K
        first | show AWP _ _ _ _ _ | show ∃ _, _ | skip
        repeat refine awp_seq ?_
        refine awp_ret ?_
        refine And.intro (Or.inr rfl) ?_
        simp [retC, resC, viewC, mapO, worstI, ha, hz, worst_eq]
    · repeat refine awp_seq ?_
      refine awp_cond (by simp [hz]; rfl) (by rw [hx]; simp) (fun hd => ?_) (fun hd => ?_)
      · clear hd
        repeat refine awp_seq ?_
        refine awp_reg1 (by rw [hx]; kernel_rfl) fun K hK => ?_
        simp (config := { maxSteps := 1000000 }) []
        refine hK _ ?_
        clear hK K
        first | show AWP _ _ _ _ _ | show ∃ _, _ | skip
        repeat refine awp_seq ?_
        refine awp_ret ?_
        refine And.intro (Or.inr rfl) ?_
        simp [retC, resC, viewC, mapO, worstI, ha, hz]
      · simp [hz] at hd
  · have h1 := one53 a
    have h2 := one53 b
    rw [ha] at h1
    repeat refine awp_seq ?_
    refine awp_drw3 [] [0, 1, 2, 3, 4, 5, 6, 7, 8, 9, 10, 11, 12, 13] (by rw [hx]; kernel_rfl) (by kernel_rfl) (by kernel_rfl) (by kernel_rfl) fun K hK => ?_
    simp (config := { maxSteps := 1000000 }) [ty25, ty84]
    refine callPD (h1) (by first | (simp; done) | (simp [*]; done)) (by simp) ?_
    simp (config := { maxSteps := 1000000 }) [ty84]
    refine callPD (h2) (by first | (simp; done) | (simp [*]; done)) (by simp) ?_
    simp (config := { maxSteps := 1000000 }) [ty84]
    refine callPD (ref52 w nl fu (oneB b) l hn) (by first | (simp; done) | (simp [*]; done)) (by simp) ?_
    simp (config := { maxSteps := 1000000 }) [ty84]
    refine hK _ ?_
    clear hK K
    first | show AWP _ _ _ _ _ | show ∃ _, _ | skip
    repeat refine awp_seq ?_
    refine awp_reg1 (by rw [hx]; kernel_rfl) fun K hK => ?_
    simp (config := { maxSteps := 1000000 }) [ty31]
    refine hK _ ?_
    clear hK K
    first | show AWP _ _ _ _ _ | show ∃ _, _ | skip
    by_cases hz : openI w l (oneB b) = 0
    · obtain ⟨hc0, _, hT⟩ := openI_ok (openI_t hz)
      obtain ⟨hw, hl, h8⟩ := checkI_ok hc0
      have his := openI_is hz
      have hb' : oneB b = true := his
      have hk : knownL w l (oneB b) = truthsL w l := if_pos hz
      have hTok : ∀ t ∈ truthsL w l, TrOk t := fun t ht => allT_ok hw (List.mem_filter.1 ht).1
      rw [hk]
      repeat refine awp_seq ?_
      refine awp_cond (by simp [hz]; rfl) (by rw [hx]; simp) (fun hd => ?_) (fun hd => ?_)
      · simp at hd
      · clear hd
        refine awp_skip ?_
        first | show AWP _ _ _ _ _ | show ∃ _, _ | skip
        repeat refine awp_seq ?_
        refine awp_reg1 (by rw [hx]; kernel_rfl) fun K hK => ?_
        simp (config := { maxSteps := 1000000 }) [ty25]
        refine callP (ref54 w (truthsL w l).isEmpty (truthsL w l).isEmpty (truthsL w l) a b hw hTok (truthsL_bd l hw) ((oneB_iff a).1 ha) ((oneB_iff b).1 hb')) (by first | (simp; done) | (simp [*]; done)) ?_
        simp (config := { maxSteps := 1000000 }) [ty3]
        refine hK _ ?_
        clear hK K
        first | show AWP _ _ _ _ _ | show ∃ _, _ | skip
        repeat refine awp_seq ?_
        refine awp_ret ?_
        refine And.intro (Or.inr rfl) ?_
        simp [retC, resC, viewC, mapO, worstI, ha, hz, worst_eq]
    · repeat refine awp_seq ?_
      refine awp_cond (by simp [hz]; rfl) (by rw [hx]; simp) (fun hd => ?_) (fun hd => ?_)
      · clear hd
        repeat refine awp_seq ?_
        refine awp_reg1 (by rw [hx]; kernel_rfl) fun K hK => ?_
        simp (config := { maxSteps := 1000000 }) []
        refine hK _ ?_
        clear hK K
        first | show AWP _ _ _ _ _ | show ∃ _, _ | skip
        repeat refine awp_seq ?_
        refine awp_ret ?_
        refine And.intro (Or.inr rfl) ?_
        simp [retC, resC, viewC, mapO, worstI, ha, hz]
      · simp [hz] at hd

def bsT (v : Int × Int → Int) (i : Nat) : Int := if i = 0 then -1 else v (minTo v K4 i)
def ssT (v : Int × Int → Int) (i : Nat) : Int × Int := if i = 0 then (0, 0) else minTo v K4 i

@[simp] abbrev slK4 : C := .sl false true [[.sl false true [[encI 1], [encI 1]]], [.sl false true [[encI 1], [encI (-1)]]], [.sl false true [[encI (-1)], [encI 1]]], [.sl false true [[encI (-1)], [encI (-1)]]]]



theorem ref17 (w : Wh) (nl fu : Bool) (l : List Wl) (hn : l.length ≤ 1000) : Pure Try.prog 17 [encWh w, sWl nl fu l] (.tup [encI (nextI w l).1, encI (nextI w l).2, encI (openI w l true)]) := by
  refine pure_of (fn := Try.f17) [.tmp 4, .tmp 5, .tmp 6] ⟨Try.func17, rfl, by kernel_rfl⟩ (by kernel_rfl) (by kernel_rfl) (by kernel_rfl) fun x hx hσ => ?_
  repeat refine awp_seq ?_
  refine awp_reg1 (by rw [hx]; kernel_rfl) fun K hK => ?_
  simp (config := { maxSteps := 1000000 }) [ty25]
  refine hK _ ?_
  clear hK K
  first | show AWP _ _ _ _ _ | show ∃ _, _ | skip
  repeat refine awp_seq ?_
  refine awp_reg1 (by rw [hx]; kernel_rfl) fun K hK => ?_
  simp (config := { maxSteps := 1000000 }) [ty25]
  refine callP (ref52 w nl fu true l hn) (by first | (simp; done) | (simp [*]; done)) ?_
  simp (config := { maxSteps := 1000000 }) [ty84]
  refine hK _ ?_
  clear hK K
  first | show AWP _ _ _ _ _ | show ∃ _, _ | skip
  repeat refine awp_seq ?_
  refine awp_reg1 (by rw [hx]; kernel_rfl) fun K hK => ?_
  simp (config := { maxSteps := 1000000 }) [ty31]
  refine hK _ ?_
  clear hK K
  first | show AWP _ _ _ _ _ | show ∃ _, _ | skip
  by_cases hz : openI w l true = 0
  · obtain ⟨hc0, _, hT⟩ := openI_ok hz
    obtain ⟨hw, hl, h8⟩ := checkI_ok hc0
    have hkb := truthsL_bd l hw
    have hk : knownL w l true = truthsL w l := if_pos hz
    have hwl := worstN_le w l hw
    have hTok : ∀ t ∈ truthsL w l, TrOk t := fun t ht => allT_ok hw (List.mem_filter.1 ht).1
    rw [hk]
    repeat refine awp_seq ?_
    refine awp_cond (by simp [hz]; rfl) (by rw [hx]; simp) (fun hd => ?_) (fun hd => ?_)
    · simp at hd
    · clear hd
      refine awp_skip ?_
      first | show AWP _ _ _ _ _ | show ∃ _, _ | skip
      repeat refine awp_seq ?_
      refine awp_reg1 (by rw [hx]; kernel_rfl) fun K hK => ?_
      simp (config := { maxSteps := 1000000 }) []
      refine hK _ ?_
      clear hK K
      first | show AWP _ _ _ _ _ | show ∃ _, _ | skip
      repeat refine awp_seq ?_
      refine awp_reg1 (by rw [hx]; kernel_rfl) fun K hK => ?_
      simp (config := { maxSteps := 1000000 }) [ty45, ty94, ty3]
      refine hK _ ?_
      clear hK K
      first | show AWP _ _ _ _ _ | show ∃ _, _ | skip
      repeat refine awp_seq ?_
      refine awp_reg1 (by rw [hx]; kernel_rfl) fun K hK => ?_
      simp (config := { maxSteps := 1000000 }) []
      refine hK _ ?_
      clear hK K
      first | show AWP _ _ _ _ _ | show ∃ _, _ | skip
      repeat refine awp_seq ?_
      refine awp_block ?_
      obtain ⟨v, hv⟩ : ∃ v, v = worstV w l := ⟨_, rfl⟩
      have hvp : ∀ a b, (worstR w (truthsL w l) a b : Int) = v (a, b) := fun a b => by rw [hv, worst_eq]; rfl
      have hvb : ∀ p, 0 ≤ v p ∧ v p ≤ 410000 := fun p => by
        have := hwl p.1 p.2
        rw [hv]
        simp only [worstV]
        omega
      have hR : ∀ a b, (worstR w (truthsL w l) a b : Int) = v (a, b) := hvp
      refine awp_loop (fun i : Nat => ⟨ofL [(2, .ptr 2 8 0 0), (4, encI (ssT v i).1), (5, encI (ssT v i).2), (7, slT (truthsL w l)), (8, encI (bsT v i)), (9, slK4), (10, encI i)], stoT [(2, 2, .live (obWh w))]⟩)
        (fun i => i ≤ 4) (fun i => 4 - i) 0 (Nat.zero_le _) ?_ ?_
      · refine wk_shape (shp0 hσ (by simp) (by simp) ?_) ?_
        · simp [SlotOk] <;> (repeat' (first | exact .same (by simp [purel, C.isPure]) | exact .cons (by simp [mtl, mtc, mT, mH, C.isPure, purel]) (by simp) .nil | refine And.intro ?_ ?_))
        · simp [mtc, mtl, mT, C.isPure, purel, ssT, bsT] <;> (try simp (disch := omega) [wrap_id]) <;> (try omega)
      · intro i hi
        repeat refine awp_seq ?_
        refine awp_reg1 (by rw [hx]; kernel_rfl) fun K hK => ?_
        simp (config := { maxSteps := 1000000 }) [ty94, ty3]
        refine hK _ ?_
        clear hK K
        first | show AWP _ _ _ _ _ | show ∃ _, _ | skip
        repeat refine awp_seq ?_
        refine awp_cond (by simp; rfl) (by rw [hx]; simp) (fun hc1 => ?_) (fun hc1 => ?_)
        · simp at hc1
          refine awp_skip ?_
          first | show AWP _ _ _ _ _ | show ∃ _, _ | skip
          repeat refine awp_seq ?_
          refine awp_block ?_
          have hi4 : i = 0 ∨ i = 1 ∨ i = 2 ∨ i = 3 := by omega
          rcases hi4 with rfl | rfl | rfl | rfl
          · have e0 : bsT v 0 = -1 := rfl
            have e1 : ssT v 0 = (0, 0) := rfl
            have e2 : minTo v K4 1 = (1, 1) := by
              show (if v (1, 1) < v (1, 1) then ((1, 1) : Int × Int) else (1, 1)) = (1, 1)
              split <;> rfl
            have e3 : bsT v 1 = v (1, 1) := by rw [bsT, if_neg (by decide), e2]
            have e4 : ssT v 1 = (1, 1) := by rw [ssT, if_neg (by decide), e2]
            repeat refine awp_seq ?_
            refine awp_drw3 [] [0, 1, 2, 3, 4, 5, 6, 7, 8, 9, 10, 11, 12, 13, 14, 15] (by rw [hx]; kernel_rfl) (by kernel_rfl) (by kernel_rfl) (by kernel_rfl) fun K hK => ?_
            simp (config := { maxSteps := 1000000 }) [ty25, ty94, ty45, ty3]
            refine callPD (ref54 w (truthsL w l).isEmpty (truthsL w l).isEmpty (truthsL w l) 1 1 hw hTok hkb (by decide) (by decide)) (by first | (simp; done) | (simp [*]; done)) (by simp) ?_
            simp (config := { maxSteps := 1000000 }) [ty3]
            rw [hR]
            refine hK _ ?_
            clear hK K
            first | show AWP _ _ _ _ _ | show ∃ _, _ | skip
            repeat refine awp_seq ?_
            refine awp_reg1 (by rw [hx]; kernel_rfl) fun K hK => ?_
            simp (config := { maxSteps := 1000000 }) [ty3, e0]
            refine hK _ ?_
            clear hK K
            first | show AWP _ _ _ _ _ | show ∃ _, _ | skip
            repeat refine awp_seq ?_
            refine awp_cond (by simp [e0]; rfl) (by rw [hx]; simp) (fun hd => ?_) (fun hd => ?_)
            · clear hd
              repeat refine awp_seq ?_
              refine awp_drw3 [] [0, 1, 2, 3, 4, 5, 6, 7, 8, 9, 10, 11, 12, 13, 14, 15] (by rw [hx]; kernel_rfl) (by kernel_rfl) (by kernel_rfl) (by kernel_rfl) fun K hK => ?_
              simp (config := { maxSteps := 1000000 }) [ty94, ty45, ty3]
              refine hK _ ?_
              clear hK K
              first | show AWP _ _ _ _ _ | show ∃ _, _ | skip
              repeat refine awp_seq ?_
              refine awp_reg1 (by rw [hx]; kernel_rfl) fun K hK => ?_
              simp (config := { maxSteps := 1000000 }) [ty3]
              refine hK _ ?_
              clear hK K
              first | show AWP _ _ _ _ _ | show ∃ _, _ | skip
              refine ⟨1, by omega, by omega, ?_⟩
              refine wk_shape (shp0 hσ (by simp) (by simp) ?_) ?_
              · simp [SlotOk] <;> (repeat' (first | exact .same (by simp [purel, C.isPure]) | exact .cons (by simp [mtl, mtc, mT, mH, C.isPure, purel]) (by simp) .nil | refine And.intro ?_ ?_))
              · simp [mtc, mtl, mT, C.isPure, purel, e3, e4] <;> (try simp (disch := omega) [wrap_id]) <;> (try omega)
            · simp at hd
          · have hm : minTo v K4 (1 + 1) = if v (1, (-1)) < v (minTo v K4 1) then (1, (-1)) else minTo v K4 1 := rfl
            have e0 : bsT v 1 = v (minTo v K4 1) := rfl
            have e1 : ssT v 1 = minTo v K4 1 := rfl
            have e3 : bsT v (1 + 1) = v (minTo v K4 (1 + 1)) := rfl
            have e4 : ssT v (1 + 1) = minTo v K4 (1 + 1) := rfl
            have hq := hvb (minTo v K4 1)
            have hnn : ¬ v (minTo v K4 1) < 0 := by omega
            repeat refine awp_seq ?_
            refine awp_drw3 [] [0, 1, 2, 3, 4, 5, 6, 7, 8, 9, 10, 11, 12, 13, 14, 15] (by rw [hx]; kernel_rfl) (by kernel_rfl) (by kernel_rfl) (by kernel_rfl) fun K hK => ?_
            simp (config := { maxSteps := 1000000 }) [ty25, ty94, ty45, ty3]
            refine callPD (ref54 w (truthsL w l).isEmpty (truthsL w l).isEmpty (truthsL w l) 1 (-1) hw hTok hkb (by decide) (by decide)) (by first | (simp; done) | (simp [*]; done)) (by simp) ?_
            simp (config := { maxSteps := 1000000 }) [ty3]
            rw [hR]
            refine hK _ ?_
            clear hK K
            first | show AWP _ _ _ _ _ | show ∃ _, _ | skip
            rw [e0, e1]
            by_cases hb : v (1, (-1)) < v (minTo v K4 1)
            · rw [if_pos hb] at hm
              rw [hm] at e3 e4
              repeat refine awp_seq ?_
              refine awp_reg1 (by rw [hx]; kernel_rfl) fun K hK => ?_
              simp (config := { maxSteps := 1000000 }) [ty3, hnn, hb]
              refine hK _ ?_
              clear hK K
              first | show AWP _ _ _ _ _ | show ∃ _, _ | skip
              repeat refine awp_seq ?_
              refine awp_cond (by simp [hnn, hb]; rfl) (by rw [hx]; simp) (fun hd => ?_) (fun hd => ?_)
              · clear hd
                repeat refine awp_seq ?_
                refine awp_drw3 [] [0, 1, 2, 3, 4, 5, 6, 7, 8, 9, 10, 11, 12, 13, 14, 15] (by rw [hx]; kernel_rfl) (by kernel_rfl) (by kernel_rfl) (by kernel_rfl) fun K hK => ?_
                simp (config := { maxSteps := 1000000 }) [ty94, ty45, ty3]
                refine hK _ ?_
                clear hK K
                first | show AWP _ _ _ _ _ | show ∃ _, _ | skip
                repeat refine awp_seq ?_
                refine awp_reg1 (by rw [hx]; kernel_rfl) fun K hK => ?_
                simp (config := { maxSteps := 1000000 }) [ty3]
                refine hK _ ?_
                clear hK K
                first | show AWP _ _ _ _ _ | show ∃ _, _ | skip
                refine ⟨1 + 1, by omega, by omega, ?_⟩
                refine wk_shape (shp0 hσ (by simp) (by simp) ?_) ?_
                · simp [SlotOk] <;> (repeat' (first | exact .same (by simp [purel, C.isPure]) | exact .cons (by simp [mtl, mtc, mT, mH, C.isPure, purel]) (by simp) .nil | refine And.intro ?_ ?_))
                · simp [mtc, mtl, mT, C.isPure, purel, e3, e4] <;> (try simp (disch := omega) [wrap_id]) <;> (try omega)
              · simp [hnn, hb] at hd
            · rw [if_neg hb] at hm
              rw [hm] at e3 e4
              repeat refine awp_seq ?_
              refine awp_reg1 (by rw [hx]; kernel_rfl) fun K hK => ?_
              simp (config := { maxSteps := 1000000 }) [ty3, hnn, hb]
              refine hK _ ?_
              clear hK K
              first | show AWP _ _ _ _ _ | show ∃ _, _ | skip
              repeat refine awp_seq ?_
              refine awp_cond (by simp [hnn, hb]; rfl) (by rw [hx]; simp) (fun hd => ?_) (fun hd => ?_)
              · simp [hnn, hb] at hd
              · clear hd
                refine awp_skip ?_
                first | show AWP _ _ _ _ _ | show ∃ _, _ | skip
                repeat refine awp_seq ?_
                refine awp_reg1 (by rw [hx]; kernel_rfl) fun K hK => ?_
                simp (config := { maxSteps := 1000000 }) [ty3]
                refine hK _ ?_
                clear hK K
                first | show AWP _ _ _ _ _ | show ∃ _, _ | skip
                refine ⟨1 + 1, by omega, by omega, ?_⟩
                refine wk_shape (shp0 hσ (by simp) (by simp) ?_) ?_
                · simp [SlotOk] <;> (repeat' (first | exact .same (by simp [purel, C.isPure]) | exact .cons (by simp [mtl, mtc, mT, mH, C.isPure, purel]) (by simp) .nil | refine And.intro ?_ ?_))
                · simp [mtc, mtl, mT, C.isPure, purel, e3, e4] <;> (try simp (disch := omega) [wrap_id]) <;> (try omega)
          · have hm : minTo v K4 (2 + 1) = if v ((-1), 1) < v (minTo v K4 2) then ((-1), 1) else minTo v K4 2 := rfl
            have e0 : bsT v 2 = v (minTo v K4 2) := rfl
            have e1 : ssT v 2 = minTo v K4 2 := rfl
            have e3 : bsT v (2 + 1) = v (minTo v K4 (2 + 1)) := rfl
            have e4 : ssT v (2 + 1) = minTo v K4 (2 + 1) := rfl
            have hq := hvb (minTo v K4 2)
            have hnn : ¬ v (minTo v K4 2) < 0 := by omega
            repeat refine awp_seq ?_
            refine awp_drw3 [] [0, 1, 2, 3, 4, 5, 6, 7, 8, 9, 10, 11, 12, 13, 14, 15] (by rw [hx]; kernel_rfl) (by kernel_rfl) (by kernel_rfl) (by kernel_rfl) fun K hK => ?_
            simp (config := { maxSteps := 1000000 }) [ty25, ty94, ty45, ty3]
            refine callPD (ref54 w (truthsL w l).isEmpty (truthsL w l).isEmpty (truthsL w l) (-1) 1 hw hTok hkb (by decide) (by decide)) (by first | (simp; done) | (simp [*]; done)) (by simp) ?_
            simp (config := { maxSteps := 1000000 }) [ty3]
            rw [hR]
            refine hK _ ?_
            clear hK K
            first | show AWP _ _ _ _ _ | show ∃ _, _ | skip
            rw [e0, e1]
            by_cases hb : v ((-1), 1) < v (minTo v K4 2)
            · rw [if_pos hb] at hm
              rw [hm] at e3 e4
              repeat refine awp_seq ?_
              refine awp_reg1 (by rw [hx]; kernel_rfl) fun K hK => ?_
              simp (config := { maxSteps := 1000000 }) [ty3, hnn, hb]
              refine hK _ ?_
              clear hK K
              first | show AWP _ _ _ _ _ | show ∃ _, _ | skip
              repeat refine awp_seq ?_
              refine awp_cond (by simp [hnn, hb]; rfl) (by rw [hx]; simp) (fun hd => ?_) (fun hd => ?_)
              · clear hd
                repeat refine awp_seq ?_
                refine awp_drw3 [] [0, 1, 2, 3, 4, 5, 6, 7, 8, 9, 10, 11, 12, 13, 14, 15] (by rw [hx]; kernel_rfl) (by kernel_rfl) (by kernel_rfl) (by kernel_rfl) fun K hK => ?_
                simp (config := { maxSteps := 1000000 }) [ty94, ty45, ty3]
                refine hK _ ?_
                clear hK K
                first | show AWP _ _ _ _ _ | show ∃ _, _ | skip
                repeat refine awp_seq ?_
                refine awp_reg1 (by rw [hx]; kernel_rfl) fun K hK => ?_
                simp (config := { maxSteps := 1000000 }) [ty3]
                refine hK _ ?_
                clear hK K
                first | show AWP _ _ _ _ _ | show ∃ _, _ | skip
                refine ⟨2 + 1, by omega, by omega, ?_⟩
                refine wk_shape (shp0 hσ (by simp) (by simp) ?_) ?_
                · simp [SlotOk] <;> (repeat' (first | exact .same (by simp [purel, C.isPure]) | exact .cons (by simp [mtl, mtc, mT, mH, C.isPure, purel]) (by simp) .nil | refine And.intro ?_ ?_))
                · simp [mtc, mtl, mT, C.isPure, purel, e3, e4] <;> (try simp (disch := omega) [wrap_id]) <;> (try omega)
              · simp [hnn, hb] at hd
            · rw [if_neg hb] at hm
              rw [hm] at e3 e4
              repeat refine awp_seq ?_
              refine awp_reg1 (by rw [hx]; kernel_rfl) fun K hK => ?_
              simp (config := { maxSteps := 1000000 }) [ty3, hnn, hb]
              refine hK _ ?_
              clear hK K
              first | show AWP _ _ _ _ _ | show ∃ _, _ | skip
              repeat refine awp_seq ?_
              refine awp_cond (by simp [hnn, hb]; rfl) (by rw [hx]; simp) (fun hd => ?_) (fun hd => ?_)
              · simp [hnn, hb] at hd
              · clear hd
                refine awp_skip ?_
                first | show AWP _ _ _ _ _ | show ∃ _, _ | skip
                repeat refine awp_seq ?_
                refine awp_reg1 (by rw [hx]; kernel_rfl) fun K hK => ?_
                simp (config := { maxSteps := 1000000 }) [ty3]
                refine hK _ ?_
                clear hK K
                first | show AWP _ _ _ _ _ | show ∃ _, _ | skip
                refine ⟨2 + 1, by omega, by omega, ?_⟩
                refine wk_shape (shp0 hσ (by simp) (by simp) ?_) ?_
                · simp [SlotOk] <;> (repeat' (first | exact .same (by simp [purel, C.isPure]) | exact .cons (by simp [mtl, mtc, mT, mH, C.isPure, purel]) (by simp) .nil | refine And.intro ?_ ?_))
                · simp [mtc, mtl, mT, C.isPure, purel, e3, e4] <;> (try simp (disch := omega) [wrap_id]) <;> (try omega)
          · have hm : minTo v K4 (3 + 1) = if v ((-1), (-1)) < v (minTo v K4 3) then ((-1), (-1)) else minTo v K4 3 := rfl
            have e0 : bsT v 3 = v (minTo v K4 3) := rfl
            have e1 : ssT v 3 = minTo v K4 3 := rfl
            have e3 : bsT v (3 + 1) = v (minTo v K4 (3 + 1)) := rfl
            have e4 : ssT v (3 + 1) = minTo v K4 (3 + 1) := rfl
            have hq := hvb (minTo v K4 3)
            have hnn : ¬ v (minTo v K4 3) < 0 := by omega
            repeat refine awp_seq ?_
            refine awp_drw3 [] [0, 1, 2, 3, 4, 5, 6, 7, 8, 9, 10, 11, 12, 13, 14, 15] (by rw [hx]; kernel_rfl) (by kernel_rfl) (by kernel_rfl) (by kernel_rfl) fun K hK => ?_
            simp (config := { maxSteps := 1000000 }) [ty25, ty94, ty45, ty3]
            refine callPD (ref54 w (truthsL w l).isEmpty (truthsL w l).isEmpty (truthsL w l) (-1) (-1) hw hTok hkb (by decide) (by decide)) (by first | (simp; done) | (simp [*]; done)) (by simp) ?_
            simp (config := { maxSteps := 1000000 }) [ty3]
            rw [hR]
            refine hK _ ?_
            clear hK K
            first | show AWP _ _ _ _ _ | show ∃ _, _ | skip
            rw [e0, e1]
            by_cases hb : v ((-1), (-1)) < v (minTo v K4 3)
            · rw [if_pos hb] at hm
              rw [hm] at e3 e4
              repeat refine awp_seq ?_
              refine awp_reg1 (by rw [hx]; kernel_rfl) fun K hK => ?_
              simp (config := { maxSteps := 1000000 }) [ty3, hnn, hb]
              refine hK _ ?_
              clear hK K
              first | show AWP _ _ _ _ _ | show ∃ _, _ | skip
              repeat refine awp_seq ?_
              refine awp_cond (by simp [hnn, hb]; rfl) (by rw [hx]; simp) (fun hd => ?_) (fun hd => ?_)
              · clear hd
                repeat refine awp_seq ?_
                refine awp_drw3 [] [0, 1, 2, 3, 4, 5, 6, 7, 8, 9, 10, 11, 12, 13, 14, 15] (by rw [hx]; kernel_rfl) (by kernel_rfl) (by kernel_rfl) (by kernel_rfl) fun K hK => ?_
                simp (config := { maxSteps := 1000000 }) [ty94, ty45, ty3]
                refine hK _ ?_
                clear hK K
                first | show AWP _ _ _ _ _ | show ∃ _, _ | skip
                repeat refine awp_seq ?_
                refine awp_reg1 (by rw [hx]; kernel_rfl) fun K hK => ?_
                simp (config := { maxSteps := 1000000 }) [ty3]
                refine hK _ ?_
                clear hK K
                first | show AWP _ _ _ _ _ | show ∃ _, _ | skip
                refine ⟨3 + 1, by omega, by omega, ?_⟩
                refine wk_shape (shp0 hσ (by simp) (by simp) ?_) ?_
                · simp [SlotOk] <;> (repeat' (first | exact .same (by simp [purel, C.isPure]) | exact .cons (by simp [mtl, mtc, mT, mH, C.isPure, purel]) (by simp) .nil | refine And.intro ?_ ?_))
                · simp [mtc, mtl, mT, C.isPure, purel, e3, e4] <;> (try simp (disch := omega) [wrap_id]) <;> (try omega)
              · simp [hnn, hb] at hd
            · rw [if_neg hb] at hm
              rw [hm] at e3 e4
              repeat refine awp_seq ?_
              refine awp_reg1 (by rw [hx]; kernel_rfl) fun K hK => ?_
              simp (config := { maxSteps := 1000000 }) [ty3, hnn, hb]
              refine hK _ ?_
              clear hK K
              first | show AWP _ _ _ _ _ | show ∃ _, _ | skip
              repeat refine awp_seq ?_
              refine awp_cond (by simp [hnn, hb]; rfl) (by rw [hx]; simp) (fun hd => ?_) (fun hd => ?_)
              · simp [hnn, hb] at hd
              · clear hd
                refine awp_skip ?_
                first | show AWP _ _ _ _ _ | show ∃ _, _ | skip
                repeat refine awp_seq ?_
                refine awp_reg1 (by rw [hx]; kernel_rfl) fun K hK => ?_
                simp (config := { maxSteps := 1000000 }) [ty3]
                refine hK _ ?_
                clear hK K
                first | show AWP _ _ _ _ _ | show ∃ _, _ | skip
                refine ⟨3 + 1, by omega, by omega, ?_⟩
                refine wk_shape (shp0 hσ (by simp) (by simp) ?_) ?_
                · simp [SlotOk] <;> (repeat' (first | exact .same (by simp [purel, C.isPure]) | exact .cons (by simp [mtl, mtc, mT, mH, C.isPure, purel]) (by simp) .nil | refine And.intro ?_ ?_))
                · simp [mtc, mtl, mT, C.isPure, purel, e3, e4] <;> (try simp (disch := omega) [wrap_id]) <;> (try omega)
        · simp at hc1
          repeat refine awp_seq ?_
          refine awp_exit ?_
          first | show AWP _ _ _ _ _ | show ∃ _, _ | skip
          have : i = 4 := by omega
          subst this
          have h4 : ssT v 4 = nextI w l := by rw [ssT, if_neg (by decide), nextI, if_pos hz, hv]
          rw [h4]
          repeat refine awp_seq ?_
          refine awp_reg1 (by rw [hx]; kernel_rfl) fun K hK => ?_
          simp (config := { maxSteps := 1000000 }) []
          refine hK _ ?_
          clear hK K
          first | show AWP _ _ _ _ _ | show ∃ _, _ | skip
          repeat refine awp_seq ?_
          refine awp_ret ?_
          refine And.intro (Or.inr rfl) ?_
          simp [retC, resC, viewC, mapO, hz]
  · repeat refine awp_seq ?_
    refine awp_cond (by simp [hz]; rfl) (by rw [hx]; simp) (fun hd => ?_) (fun hd => ?_)
    · clear hd
      repeat refine awp_seq ?_
      refine awp_reg1 (by rw [hx]; kernel_rfl) fun K hK => ?_
      simp (config := { maxSteps := 1000000 }) []
      refine hK _ ?_
      clear hK K
      first | show AWP _ _ _ _ _ | show ∃ _, _ | skip
      repeat refine awp_seq ?_
      refine awp_ret ?_
      refine And.intro (Or.inr rfl) ?_
      simp [retC, resC, viewC, mapO, nextI, hz]
    · simp [hz] at hd

end Go.Proofs.Ytmmoghgpaagnhaa

/- An object becomes data for good. No condition. -/
namespace Go.Abs
section
variable {x : Ctx}

/-- A slot's object becomes data. -/
theorem wk_frz {env : Nat → C} {σ : Nat → Slot} (t k : Nat) {c : C} {o : Ob} (hk : σ k = .live o) (hp : o.rows.all purel = true) (hc : FzC k o (env t) c) : Wk x ⟨env, σ⟩ ⟨upd env t c, upd σ k .dead⟩ := by
  intro ρ a w hs
  obtain ⟨hK, hF, hmap⟩ := hs.toFrm.freeze hk hp
  have h2 := hs.change hK hF
  refine ⟨ρ, { hF with nt := hs.nt, defers := h2.defers, inr := hs.inr, env := fun q hq => ?_ }⟩
  by_cases e : q = t
  · subst e
    simp only [upd_same]
    exact hmap _ _ _ hc (hs.env q hq)
  · simp only [upd_ne _ _ e]
    exact h2.env q hq

end
end Go.Abs

namespace Go.Proofs.Ytmmoghgpaagnhaa
open Go Go.Abs

set_option maxHeartbeats 4000000

theorem fe39 : flatEq Try.prog 39 = some [.i64, .i64, .i64, .i64, .i64] := by kernel_rfl
theorem fe23 : flatEq Try.prog 23 = some [.i64, .i64] := by kernel_rfl

theorem same29 (a1 a2 b1 b2 : Bool) (A B : List Int) (hn : A.length ≤ 1000000) (hm : B.length ≤ 1000000) : Pure Try.prog 29 [.sl a1 a2 (A.map cI), .sl b1 b2 (B.map cI)] (.bool (decide (A = B))) := by
  refine pure_of (fn := Try.f29) [.tmp 4] ⟨Try.func29, rfl, by kernel_rfl⟩ (by kernel_rfl) (by kernel_rfl) (by kernel_rfl) fun x hx hσ => ?_
  repeat refine awp_seq ?_
  refine awp_reg1 (by rw [hx]; kernel_rfl) fun K hK => ?_
  simp (config := { maxSteps := 1000000 }) []
  refine hK _ ?_
  clear hK K
  first | show AWP _ _ _ _ _ | show ∃ _, _ | skip
  by_cases hl : A.length = B.length
  · repeat refine awp_seq ?_
    refine awp_reg1 (by rw [hx]; kernel_rfl) fun K hK => ?_
    simp (config := { maxSteps := 1000000 }) [ty45, ty3, hl]
    refine hK _ ?_
    clear hK K
    first | show AWP _ _ _ _ _ | show ∃ _, _ | skip
    repeat refine awp_seq ?_
    refine awp_cond (by simp [hl]; rfl) (by rw [hx]; simp) (fun hd => ?_) (fun hd => ?_)
    · simp at hd
    · clear hd
      refine awp_skip ?_
      first | show AWP _ _ _ _ _ | show ∃ _, _ | skip
      repeat refine awp_seq ?_
      refine awp_reg1 (by rw [hx]; kernel_rfl) fun K hK => ?_
      simp (config := { maxSteps := 1000000 }) []
      refine hK _ ?_
      clear hK K
      first | show AWP _ _ _ _ _ | show ∃ _, _ | skip
      repeat refine awp_seq ?_
      refine awp_block ?_
      refine awp_loop (fun i : Nat => ⟨ofL [(0, .sl a1 a2 (A.map cI)), (1, .sl b1 b2 (B.map cI)), (5, encI i)], stoT []⟩)
        (fun i => i ≤ A.length ∧ ∀ j (h1 : j < A.length) (h2 : j < B.length), j < i → A[j] = B[j]) (fun i => A.length - i) 0 ⟨Nat.zero_le _, fun j _ _ h => by omega⟩ ?_ ?_
      · refine wk_shape (shp0 hσ (by simp) (by simp) ?_) ?_
        · simp [SlotOk] <;> (repeat' (first | exact .same (by simp [purel, C.isPure]) | exact .cons (by simp [mtl, mtc, mT, mH, C.isPure, purel]) (by simp) .nil | refine And.intro ?_ ?_))
        · simp [mtc, mtl, mT, C.isPure, purel] <;> (try simp (disch := omega) [wrap_id]) <;> (try omega)
      · rintro i ⟨hi, hj⟩
        repeat refine awp_seq ?_
        refine awp_reg1 (by rw [hx]; kernel_rfl) fun K hK => ?_
        simp (config := { maxSteps := 1000000 }) [ty45, ty3]
        refine hK _ ?_
        clear hK K
        first | show AWP _ _ _ _ _ | show ∃ _, _ | skip
        repeat refine awp_seq ?_
        refine awp_cond (by simp; rfl) (by rw [hx]; simp) (fun hc => ?_) (fun hc => ?_)
        · simp at hc
          have hcB : i < B.length := by omega
          refine awp_skip ?_
          first | show AWP _ _ _ _ _ | show ∃ _, _ | skip
          repeat refine awp_seq ?_
          refine awp_block ?_
          repeat refine awp_seq ?_
          refine awp_drw3 [] [0, 1, 2, 3, 4, 5, 6, 7, 8] (by rw [hx]; kernel_rfl) (by kernel_rfl) (by kernel_rfl) (by kernel_rfl) fun K hK => ?_
          simp (config := { maxSteps := 1000000 }) [ty45, ty3, hc, hcB]
          refine hK _ ?_
          clear hK K
          first | show AWP _ _ _ _ _ | show ∃ _, _ | skip
          by_cases hb : A[i] = B[i]
          · repeat refine awp_seq ?_
            refine awp_cond (by simp [hb]; rfl) (by rw [hx]; simp) (fun hd => ?_) (fun hd => ?_)
            · simp [hb] at hd
            · clear hd
              refine awp_skip ?_
              first | show AWP _ _ _ _ _ | show ∃ _, _ | skip
              repeat refine awp_seq ?_
              refine awp_reg1 (by rw [hx]; kernel_rfl) fun K hK => ?_
              simp (config := { maxSteps := 1000000 }) [ty3]
              refine hK _ ?_
              clear hK K
              first | show AWP _ _ _ _ _ | show ∃ _, _ | skip
              rw [wrap_id (by omega) (by omega)]
              refine ⟨i + 1, ⟨by omega, fun j h1 h2 h => ?_⟩, by omega, ?_⟩
              · by_cases e : j = i
                · subst e; exact hb
                · exact hj j h1 h2 (by omega)
              · refine wk_shape (shp0 hσ (by simp) (by simp) ?_) ?_
                · simp [SlotOk] <;> (repeat' (first | exact .same (by simp [purel, C.isPure]) | exact .cons (by simp [mtl, mtc, mT, mH, C.isPure, purel]) (by simp) .nil | refine And.intro ?_ ?_))
                · simp [mtc, mtl, mT, C.isPure, purel] <;> (try simp (disch := omega) [wrap_id]) <;> (try omega)
          · repeat refine awp_seq ?_
            refine awp_cond (by simp [hb]; rfl) (by rw [hx]; simp) (fun hd => ?_) (fun hd => ?_)
            · clear hd
              repeat refine awp_seq ?_
              refine awp_reg1 (by rw [hx]; kernel_rfl) fun K hK => ?_
              simp (config := { maxSteps := 1000000 }) []
              refine hK _ ?_
              clear hK K
              first | show AWP _ _ _ _ _ | show ∃ _, _ | skip
              repeat refine awp_seq ?_
              refine awp_ret ?_
              refine And.intro (Or.inr rfl) ?_
              have : decide (A = B) = false := by
                rw [decide_eq_false_iff_not]
                rintro rfl
                exact hb rfl
              rw [this]
              simp [retC, resC, viewC, mapO]
            · simp [hb] at hd
        · simp at hc
          repeat refine awp_seq ?_
          refine awp_exit ?_
          first | show AWP _ _ _ _ _ | show ∃ _, _ | skip
          have : decide (A = B) = true := by
            rw [decide_eq_true_eq]
            exact List.ext_getElem hl fun j h1 h2 => hj j h1 h2 (by omega)
          rw [this]
          repeat refine awp_seq ?_
          refine awp_reg1 (by rw [hx]; kernel_rfl) fun K hK => ?_
          simp (config := { maxSteps := 1000000 }) []
          refine hK _ ?_
          clear hK K
          first | show AWP _ _ _ _ _ | show ∃ _, _ | skip
          repeat refine awp_seq ?_
          refine awp_ret ?_
          refine And.intro (Or.inr rfl) ?_
          simp [retC, resC, viewC, mapO]
  · have : decide (A = B) = false := by
      rw [decide_eq_false_iff_not]
      rintro rfl
      exact hl rfl
    rw [this]
    repeat refine awp_seq ?_
    refine awp_reg1 (by rw [hx]; kernel_rfl) fun K hK => ?_
    simp (config := { maxSteps := 1000000 }) [ty45, ty3, hl]
    refine hK _ ?_
    clear hK K
    first | show AWP _ _ _ _ _ | show ∃ _, _ | skip
    repeat refine awp_seq ?_
    refine awp_cond (by simp [hl]; rfl) (by rw [hx]; simp) (fun hd => ?_) (fun hd => ?_)
    · clear hd
      repeat refine awp_seq ?_
      refine awp_reg1 (by rw [hx]; kernel_rfl) fun K hK => ?_
      simp (config := { maxSteps := 1000000 }) []
      refine hK _ ?_
      clear hK K
      first | show AWP _ _ _ _ _ | show ∃ _, _ | skip
      repeat refine awp_seq ?_
      refine awp_ret ?_
      refine And.intro (Or.inr rfl) ?_
      simp [retC, resC, viewC, mapO]
    · simp at hd
      exact absurd (by omega) hl

theorem eqI5 (x : Wl) : eqInts [.i64, .i64, .i64, .i64, .i64] (cWl x) (cWl x) = some true := by simp [eqInts]

theorem walks18 (a1 a2 b1 b2 : Bool) (l : List Wl) (hn : l.length ≤ 1000) : Pure Try.prog 18 [sWl a1 a2 l, sWl b1 b2 l] (.bool true) := by
  refine pure_of (fn := Try.f18) [.tmp 4] ⟨Try.func18, rfl, by kernel_rfl⟩ (by kernel_rfl) (by kernel_rfl) (by kernel_rfl) fun x hx hσ => ?_
  repeat refine awp_seq ?_
  refine awp_reg1 (by rw [hx]; kernel_rfl) fun K hK => ?_
  simp (config := { maxSteps := 1000000 }) []
  refine hK _ ?_
  clear hK K
  first | show AWP _ _ _ _ _ | show ∃ _, _ | skip
  repeat refine awp_seq ?_
  refine awp_reg1 (by rw [hx]; kernel_rfl) fun K hK => ?_
  simp (config := { maxSteps := 1000000 }) [ty26, ty3]
  refine hK _ ?_
  clear hK K
  first | show AWP _ _ _ _ _ | show ∃ _, _ | skip
  repeat refine awp_seq ?_
  refine awp_cond (by simp; rfl) (by rw [hx]; simp) (fun hd => ?_) (fun hd => ?_)
  · simp at hd
  clear hd
  refine awp_skip ?_
  first | show AWP _ _ _ _ _ | show ∃ _, _ | skip
  repeat refine awp_seq ?_
  refine awp_reg1 (by rw [hx]; kernel_rfl) fun K hK => ?_
  simp (config := { maxSteps := 1000000 }) []
  refine hK _ ?_
  clear hK K
  first | show AWP _ _ _ _ _ | show ∃ _, _ | skip
  repeat refine awp_seq ?_
  refine awp_block ?_
  refine awp_loop (fun i : Nat => ⟨ofL [(0, sWl a1 a2 l), (1, sWl b1 b2 l), (5, encI i)], stoT []⟩)
    (fun i => i ≤ l.length) (fun i => l.length - i) 0 (Nat.zero_le _) ?_ ?_
  · refine wk_shape (shp0 hσ (by simp) (by simp) ?_) ?_
    · simp [SlotOk] <;> (repeat' (first | exact .same (by simp [purel, C.isPure]) | exact .cons (by simp [mtl, mtc, mT, mH, C.isPure, purel]) (by simp) .nil | refine And.intro ?_ ?_))
    · simp [mtc, mtl, mT, C.isPure, purel] <;> (try simp (disch := omega) [wrap_id]) <;> (try omega)
  · rintro i hi
    repeat refine awp_seq ?_
    refine awp_reg1 (by rw [hx]; kernel_rfl) fun K hK => ?_
    simp (config := { maxSteps := 1000000 }) [ty26, ty3]
    refine hK _ ?_
    clear hK K
    first | show AWP _ _ _ _ _ | show ∃ _, _ | skip
    repeat refine awp_seq ?_
    refine awp_cond (by simp; rfl) (by rw [hx]; simp) (fun hc => ?_) (fun hc => ?_)
    · simp at hc
      refine awp_skip ?_
      first | show AWP _ _ _ _ _ | show ∃ _, _ | skip
      repeat refine awp_seq ?_
      refine awp_block ?_
      have he := eqI5 l[i]
      repeat refine awp_seq ?_
      refine awp_drw3 [] [0, 1, 2, 3, 4, 5, 6, 7, 8] (by rw [hx]; kernel_rfl) (by kernel_rfl) (by kernel_rfl) (by kernel_rfl) fun K hK => ?_
      simp (config := { maxSteps := 1000000 }) [ty26, ty39, fe39, he, hc]
      refine hK _ ?_
      clear hK K
      first | show AWP _ _ _ _ _ | show ∃ _, _ | skip
      repeat refine awp_seq ?_
      refine awp_cond (by simp; rfl) (by rw [hx]; simp) (fun hd => ?_) (fun hd => ?_)
      · simp at hd
      · clear hd
        refine awp_skip ?_
        first | show AWP _ _ _ _ _ | show ∃ _, _ | skip
        repeat refine awp_seq ?_
        refine awp_reg1 (by rw [hx]; kernel_rfl) fun K hK => ?_
        simp (config := { maxSteps := 1000000 }) [ty3]
        refine hK _ ?_
        clear hK K
        first | show AWP _ _ _ _ _ | show ∃ _, _ | skip
        rw [wrap_id (by omega) (by omega)]
        refine ⟨i + 1, by omega, by omega, ?_⟩
        refine wk_shape (shp0 hσ (by simp) (by simp) ?_) ?_
        · simp [SlotOk] <;> (repeat' (first | exact .same (by simp [purel, C.isPure]) | exact .cons (by simp [mtl, mtc, mT, mH, C.isPure, purel]) (by simp) .nil | refine And.intro ?_ ?_))
        · simp [mtc, mtl, mT, C.isPure, purel] <;> (try simp (disch := omega) [wrap_id]) <;> (try omega)
    · simp at hc
      repeat refine awp_seq ?_
      refine awp_exit ?_
      first | show AWP _ _ _ _ _ | show ∃ _, _ | skip
      repeat refine awp_seq ?_
      refine awp_reg1 (by rw [hx]; kernel_rfl) fun K hK => ?_
      simp (config := { maxSteps := 1000000 }) []
      refine hK _ ?_
      clear hK K
      first | show AWP _ _ _ _ _ | show ∃ _, _ | skip
      repeat refine awp_seq ?_
      refine awp_ret ?_
      refine And.intro (Or.inr rfl) ?_
      simp [retC, resC, viewC, mapO]

theorem known23 (e : Int) : Pure Try.prog 23 [encI e] (.bool (e == 0 || e == 3)) := by
  refine pure_of (fn := Try.f23) [.tmp 2] ⟨Try.func23, rfl, by kernel_rfl⟩ (by kernel_rfl) (by kernel_rfl) (by kernel_rfl) fun x hx hσ => ?_
  repeat refine awp_seq ?_
  refine awp_reg1 (by rw [hx]; kernel_rfl) fun K hK => ?_
  simp (config := { maxSteps := 1000000 }) []
  refine hK _ ?_
  clear hK K
  first | show AWP _ _ _ _ _ | show ∃ _, _ | skip
  cases h : (e == (0 : Int))
  · repeat refine awp_seq ?_
    refine awp_reg1 (by rw [hx]; kernel_rfl) fun K hK => ?_
    simp (config := { maxSteps := 1000000 }) [ty31, h]
    refine hK _ ?_
    clear hK K
    first | show AWP _ _ _ _ _ | show ∃ _, _ | skip
    repeat refine awp_seq ?_
    refine awp_ret ?_
    refine And.intro (Or.inr rfl) ?_
    simp [retC, resC, viewC, mapO, h]
  · repeat refine awp_seq ?_
    refine awp_reg1 (by rw [hx]; kernel_rfl) fun K hK => ?_
    simp (config := { maxSteps := 1000000 }) [ty31, h]
    refine hK _ ?_
    clear hK K
    first | show AWP _ _ _ _ _ | show ∃ _, _ | skip
    repeat refine awp_seq ?_
    refine awp_ret ?_
    refine And.intro (Or.inr rfl) ?_
    simp [retC, resC, viewC, mapO, h]

theorem subset24 (a1 a2 b1 b2 : Bool) (A B : List Int) (hn : A.length ≤ 1000000) (hm : B.length ≤ 1000000) (hs : ∀ a ∈ A, a ∈ B) (hl : A.length ≤ B.length) : Pure Try.prog 24 [.sl a1 a2 (A.map cI), .sl b1 b2 (B.map cI)] (.bool true) := by
  refine pure_of (fn := Try.f24) [.tmp 4] ⟨Try.func24, rfl, by kernel_rfl⟩ (by kernel_rfl) (by kernel_rfl) (by kernel_rfl) fun x hx hσ => ?_
  repeat refine awp_seq ?_
  refine awp_reg1 (by rw [hx]; kernel_rfl) fun K hK => ?_
  simp (config := { maxSteps := 1000000 }) []
  refine hK _ ?_
  clear hK K
  first | show AWP _ _ _ _ _ | show ∃ _, _ | skip
  repeat refine awp_seq ?_
  refine awp_reg1 (by rw [hx]; kernel_rfl) fun K hK => ?_
  simp (config := { maxSteps := 1000000 }) []
  refine hK _ ?_
  clear hK K
  first | show AWP _ _ _ _ _ | show ∃ _, _ | skip
  repeat refine awp_seq ?_
  refine awp_block ?_
  refine awp_loop (fun i : Nat => ⟨ofL [(0, .sl a1 a2 (A.map cI)), (1, .sl b1 b2 (B.map cI)), (5, encI i)], stoT []⟩)
    (fun i => i ≤ A.length) (fun i => A.length - i) 0 (Nat.zero_le _) ?_ ?_
  · refine wk_shape (shp0 hσ (by simp) (by simp) ?_) ?_
    · simp [SlotOk] <;> (repeat' (first | exact .same (by simp [purel, C.isPure]) | exact .cons (by simp [mtl, mtc, mT, mH, C.isPure, purel]) (by simp) .nil | refine And.intro ?_ ?_))
    · simp [mtc, mtl, mT, C.isPure, purel] <;> (try simp (disch := omega) [wrap_id]) <;> (try omega)
  · rintro i hi
    repeat refine awp_seq ?_
    refine awp_reg1 (by rw [hx]; kernel_rfl) fun K hK => ?_
    simp (config := { maxSteps := 1000000 }) [ty45, ty3]
    refine hK _ ?_
    clear hK K
    first | show AWP _ _ _ _ _ | show ∃ _, _ | skip
    repeat refine awp_seq ?_
    refine awp_cond (by simp; rfl) (by rw [hx]; simp) (fun hc => ?_) (fun hc => ?_)
    · simp at hc
      refine awp_skip ?_
      first | show AWP _ _ _ _ _ | show ∃ _, _ | skip
      repeat refine awp_seq ?_
      refine awp_block ?_
      repeat refine awp_seq ?_
      refine awp_reg1 (by rw [hx]; kernel_rfl) fun K hK => ?_
      simp (config := { maxSteps := 1000000 }) [ty45, ty3, hc]
      have h41 := in41 b1 b2 B A[i] hm
      rw [decide_eq_true (hs _ (List.getElem_mem hc))] at h41
      refine callP (h41) (by first | (simp; done) | (simp [*]; done)) ?_
      simp (config := { maxSteps := 1000000 }) [ty4]
      refine hK _ ?_
      clear hK K
      first | show AWP _ _ _ _ _ | show ∃ _, _ | skip
      repeat refine awp_seq ?_
      refine awp_cond (by simp; rfl) (by rw [hx]; simp) (fun hd => ?_) (fun hd => ?_)
      · simp at hd
      · clear hd
        refine awp_skip ?_
        first | show AWP _ _ _ _ _ | show ∃ _, _ | skip
        repeat refine awp_seq ?_
        refine awp_reg1 (by rw [hx]; kernel_rfl) fun K hK => ?_
        simp (config := { maxSteps := 1000000 }) [ty3]
        refine hK _ ?_
        clear hK K
        first | show AWP _ _ _ _ _ | show ∃ _, _ | skip
        rw [wrap_id (by omega) (by omega)]
        refine ⟨i + 1, by omega, by omega, ?_⟩
        refine wk_shape (shp0 hσ (by simp) (by simp) ?_) ?_
        · simp [SlotOk] <;> (repeat' (first | exact .same (by simp [purel, C.isPure]) | exact .cons (by simp [mtl, mtc, mT, mH, C.isPure, purel]) (by simp) .nil | refine And.intro ?_ ?_))
        · simp [mtc, mtl, mT, C.isPure, purel] <;> (try simp (disch := omega) [wrap_id]) <;> (try omega)
    · simp at hc
      repeat refine awp_seq ?_
      refine awp_exit ?_
      first | show AWP _ _ _ _ _ | show ∃ _, _ | skip
      repeat refine awp_seq ?_
      refine awp_reg1 (by rw [hx]; kernel_rfl) fun K hK => ?_
      simp (config := { maxSteps := 1000000 }) [ty45, ty3, hl]
      refine hK _ ?_
      clear hK K
      first | show AWP _ _ _ _ _ | show ∃ _, _ | skip
      repeat refine awp_seq ?_
      refine awp_ret ?_
      refine And.intro (Or.inr rfl) ?_
      simp [retC, resC, viewC, mapO, hl]

end Go.Proofs.Ytmmoghgpaagnhaa

namespace Go.Proofs.Ytmmoghgpaagnhaa
open Go Go.Abs

set_option maxHeartbeats 4000000

def wX : Wh := ⟨100, 0, 0, 2, 0, 40, 60, 0⟩
def yA : Wl := ⟨1, 1, 0, 10, 62⟩
def yB : Wl := ⟨1, -1, 0, 62, 16⟩

theorem example48 : Pure Try.prog 48 [] (.tup [encWh wX, sWl false true [yA, yB]]) := by
  refine pure_of (fn := Try.f48) [.cell 0 25, .tmp 1] ⟨Try.func48, rfl, by kernel_rfl⟩ (by kernel_rfl) (by kernel_rfl) (by kernel_rfl) fun x hx hσ => ?_
  repeat refine awp_seq ?_
  refine awp_reg1 (by rw [hx]; kernel_rfl) fun K hK => ?_
  simp (config := { maxSteps := 1000000 }) [ty25]
  refine hK _ ?_
  clear hK K
  first | show AWP _ _ _ _ _ | show ∃ _, _ | skip
  repeat refine awp_seq ?_
  refine awp_reg1 (by rw [hx]; kernel_rfl) fun K hK => ?_
  simp (config := { maxSteps := 1000000 }) [ty25, ty23, ty39, ty26]
  refine hK _ ?_
  clear hK K
  first | show AWP _ _ _ _ _ | show ∃ _, _ | skip
  repeat refine awp_seq ?_
  refine awp_ret ?_
  refine And.intro (Or.inr rfl) ?_
  simp [retC, resC, viewC, mapO, ty25, wX, yA, yB]

theorem wk_open1 : openI wX [yA] true = 0 := by decide +kernel
theorem wk_many : manyN wX [yA] = 5 := by decide +kernel
theorem wk_open2 : openI wX [yA, yB] true = 0 := by decide +kernel
theorem wk_areas : numsI Tr.area wX [yA, yB] = [53] := by decide +kernel
theorem wk_tells : tellsI wX [yA, yB] 1 = [52, 53, 54, 55, 56] := by
  unfold tellsI
  rw [if_neg (by decide +kernel), if_neg (by decide +kernel)]
  show numsI Tr.area (noWrong wX) [yB] = _
  rw [← areas_nums]
  decide +kernel
theorem wk_tellsE : tellsE wX [yA, yB] 1 = 0 := by decide +kernel
theorem wk_next : nextI wX [yA] = (1, -1) := by decide +kernel

theorem works13 : Pure Try.prog 13 [] (.bool true) := by
  have h48 := example48
  have hM := many20 wX false false [yA] (by decide)
  rw [wk_open1, wk_many] at hM
  have hA := areas22 wX false true [yA, yB] (by decide)
  rw [wk_open2, wk_areas] at hA
  have hT := tells27 wX false true [yA, yB] 1 (by decide)
  rw [wk_tells, wk_tellsE] at hT
  have hN := next16 wX false false [yA] (by decide)
  rw [wk_open1, wk_next] at hN
  have s1 := same29 false false false true [53] [53] (by decide) (by decide)
  have s2 := same29 false false false true [52, 53, 54, 55, 56] [52, 53, 54, 55, 56] (by decide) (by decide)
  simp only [encWh, cWh, sWl, cWl, wX, yA, yB, slI, List.map_cons, List.map_nil, List.isEmpty_cons, decide_true] at h48 hM hA hT hN s1 s2
  refine pure_of (fn := Try.f13) [.tmp 0] ⟨Try.func13, rfl, by kernel_rfl⟩ (by kernel_rfl) (by kernel_rfl) (by kernel_rfl) fun x hx hσ => ?_
  repeat refine awp_seq ?_
  refine awp_reg1 (by rw [hx]; kernel_rfl) fun K hK => ?_
  simp (config := { maxSteps := 1000000 }) []
  refine hK _ ?_
  clear hK K
  first | show AWP _ _ _ _ _ | show ∃ _, _ | skip
  repeat refine awp_seq ?_
  refine awp_reg1 (by rw [hx]; kernel_rfl) fun K hK => ?_
  simp (config := { maxSteps := 1000000 }) [ty25]
  refine callP (h48) (by first | (simp; done) | (simp [*]; done)) ?_
  simp (config := { maxSteps := 1000000 }) [ty25]
  refine hK _ ?_
  clear hK K
  first | show AWP _ _ _ _ _ | show ∃ _, _ | skip
  repeat refine awp_seq ?_
  refine awp_drw3 [6] [0, 1, 2, 3, 4, 5, 6, 7, 8, 9, 10, 11, 12] (by rw [hx]; kernel_rfl) (by kernel_rfl) (by kernel_rfl) (by kernel_rfl) fun K hK => ?_
  simp (config := { maxSteps := 1000000 }) [ty25, ty26, ty39]
  refine callD hM (by simp [viewL, mapO, viewC, C.isPure, purel]) (.inr rfl) (by simp) ?_
  simp
  refine hK _ ?_
  clear hK K
  first | show AWP _ _ _ _ _ | show ∃ _, _ | skip
  repeat refine awp_seq ?_
  refine awp_reg1 (by rw [hx]; kernel_rfl) fun K hK => ?_
  simp (config := { maxSteps := 1000000 }) [ty25]
  refine callP (hA) (by first | (simp; done) | (simp [*]; done)) ?_
  simp (config := { maxSteps := 1000000 }) [ty25]
  refine hK _ ?_
  clear hK K
  first | show AWP _ _ _ _ _ | show ∃ _, _ | skip
  repeat refine awp_seq ?_
  refine awp_reg1 (by rw [hx]; kernel_rfl) fun K hK => ?_
  simp (config := { maxSteps := 1000000 }) [ty25]
  refine callP (hT) (by first | (simp; done) | (simp [*]; done)) ?_
  simp (config := { maxSteps := 1000000 }) [ty25]
  refine hK _ ?_
  clear hK K
  first | show AWP _ _ _ _ _ | show ∃ _, _ | skip
  repeat refine awp_seq ?_
  refine awp_drw3 [6] [0, 1, 2, 3, 4, 5, 6, 7, 8, 9, 10, 11, 12, 13, 14] (by rw [hx]; kernel_rfl) (by kernel_rfl) (by kernel_rfl) (by kernel_rfl) fun K hK => ?_
  simp (config := { maxSteps := 1000000 }) [ty25, ty26, ty39]
  refine callD hN (by simp [viewL, mapO, viewC, C.isPure, purel]) (.inr rfl) (by simp) ?_
  simp
  refine hK _ ?_
  clear hK K
  first | show AWP _ _ _ _ _ | show ∃ _, _ | skip
  repeat refine awp_seq ?_
  refine awp_reg1 (by rw [hx]; kernel_rfl) fun K hK => ?_
  simp (config := { maxSteps := 1000000 }) [ty31, ty45, ty3, ty4]
  refine callP (s1) (by first | (simp; done) | (simp [*]; done)) ?_
  simp (config := { maxSteps := 1000000 }) [ty31, ty45, ty3, ty4]
  refine callP (s2) (by first | (simp; done) | (simp [*]; done)) ?_
  simp (config := { maxSteps := 1000000 }) [ty31, ty45, ty3, ty4]
  refine hK _ ?_
  clear hK K
  first | show AWP _ _ _ _ _ | show ∃ _, _ | skip
  repeat refine awp_seq ?_
  refine awp_ret ?_
  refine And.intro (Or.inr rfl) ?_
  simp [retC, resC, viewC, mapO]

end Go.Proofs.Ytmmoghgpaagnhaa

namespace Go.Proofs.Ytmmoghgpaagnhaa
open Go Go.Abs

set_option maxHeartbeats 4000000

structure Near (w : Wh) (l : List Wl) : Prop where
  read : w.read ≤ 2
  slip : w.slip ≤ 2
  skew : w.skew ≤ 2
  wide : w.ghigh - w.glow ≤ 25
  full : w.full ≤ 120
  len : l.length ≤ 4


theorem far12 (w : Wh) (nl fu : Bool) (l : List Wl) : ∃ b, Pure Try.prog 12 [encWh w, sWl nl fu l] (.bool b) ∧ (b = false → l.length ≤ 40 ∧ (checkI w l = 0 → Near w l)) := by
  by_cases h40 : (40 : Int) < l.length
  · refine ⟨true, ?_, by simp⟩
    refine pure_of (fn := Try.f12) [.tmp 4] ⟨Try.func12, rfl, by kernel_rfl⟩ (by kernel_rfl) (by kernel_rfl) (by kernel_rfl) fun x hx hσ => ?_
    repeat refine awp_seq ?_
    refine awp_reg1 (by rw [hx]; kernel_rfl) fun K hK => ?_
    simp (config := { maxSteps := 1000000 }) [ty25]
    refine hK _ ?_
    clear hK K
    first | show AWP _ _ _ _ _ | show ∃ _, _ | skip
    repeat refine awp_seq ?_
    refine awp_reg1 (by rw [hx]; kernel_rfl) fun K hK => ?_
    simp (config := { maxSteps := 1000000 }) [ty26, ty3, h40]
    refine hK _ ?_
    clear hK K
    first | show AWP _ _ _ _ _ | show ∃ _, _ | skip
    repeat refine awp_seq ?_
    refine awp_cond (by simp [h40]; rfl) (by rw [hx]; simp) (fun hd => ?_) (fun hd => ?_)
    · clear hd
      repeat refine awp_seq ?_
      refine awp_reg1 (by rw [hx]; kernel_rfl) fun K hK => ?_
      simp (config := { maxSteps := 1000000 }) []
      refine hK _ ?_
      clear hK K
      first | show AWP _ _ _ _ _ | show ∃ _, _ | skip
      repeat refine awp_seq ?_
      refine awp_ret ?_
      refine And.intro (Or.inr rfl) ?_
      simp [retC, resC, viewC, mapO]
    · simp at hd
  · have hl : l.length ≤ 40 := by omega
    by_cases hz : checkI w l = 0
    · obtain ⟨hw, hwl, h8⟩ := checkI_ok hz
      have hg := hw.guess
      have hwr : IntKind.i64.wrap (w.ghigh - w.glow) = w.ghigh - w.glow := wrap_id (by omega) (by omega)
      obtain ⟨M, hM⟩ : ∃ M, (if (if w.read < w.slip then w.slip else w.read) < w.skew then w.skew else if w.read < w.slip then w.slip else w.read) = M := ⟨_, rfl⟩
      have hMb : w.read ≤ M ∧ w.slip ≤ M ∧ w.skew ≤ M := by rw [← hM]; split <;> split <;> omega
      refine ⟨decide (2 < M) || decide (25 < w.ghigh - w.glow) || decide (120 < w.full) || decide (4 < (l.length : Int)), ?_, ?_⟩
      · refine pure_of (fn := Try.f12) [.tmp 4] ⟨Try.func12, rfl, by kernel_rfl⟩ (by kernel_rfl) (by kernel_rfl) (by kernel_rfl) fun x hx hσ => ?_
        repeat refine awp_seq ?_
        refine awp_reg1 (by rw [hx]; kernel_rfl) fun K hK => ?_
        simp (config := { maxSteps := 1000000 }) [ty25]
        refine hK _ ?_
        clear hK K
        first | show AWP _ _ _ _ _ | show ∃ _, _ | skip
        repeat refine awp_seq ?_
        refine awp_reg1 (by rw [hx]; kernel_rfl) fun K hK => ?_
        simp (config := { maxSteps := 1000000 }) [ty26, ty3, h40]
        refine hK _ ?_
        clear hK K
        first | show AWP _ _ _ _ _ | show ∃ _, _ | skip
        repeat refine awp_seq ?_
        refine awp_cond (by simp [h40]; rfl) (by rw [hx]; simp) (fun hd => ?_) (fun hd => ?_)
        · simp at hd
        · clear hd
          refine awp_skip ?_
          first | show AWP _ _ _ _ _ | show ∃ _, _ | skip
          by_cases h1 : 2 < M
          · repeat refine awp_seq ?_
            refine awp_reg1 (by rw [hx]; kernel_rfl) fun K hK => ?_
            simp (config := { maxSteps := 1000000 }) [ty25]
            refine callP (ref31 w nl fu l (by omega)) (by first | (simp; done) | (simp [*]; done)) ?_
            simp (config := { maxSteps := 1000000 }) [ty31, hz, ty3, ty25, ty23, ty26, hwr, hM, h1]
            refine hK _ ?_
            clear hK K
            first | show AWP _ _ _ _ _ | show ∃ _, _ | skip
            repeat refine awp_seq ?_
            refine awp_ret ?_
            refine And.intro (Or.inr rfl) ?_
            simp [retC, resC, viewC, mapO, h1]
          · by_cases h2 : 25 < w.ghigh - w.glow
            · repeat refine awp_seq ?_
              refine awp_reg1 (by rw [hx]; kernel_rfl) fun K hK => ?_
              simp (config := { maxSteps := 1000000 }) [ty25]
              refine callP (ref31 w nl fu l (by omega)) (by first | (simp; done) | (simp [*]; done)) ?_
              simp (config := { maxSteps := 1000000 }) [ty31, hz, ty3, ty25, ty23, ty26, hwr, hM, h1, h2]
              refine hK _ ?_
              clear hK K
              first | show AWP _ _ _ _ _ | show ∃ _, _ | skip
              repeat refine awp_seq ?_
              refine awp_ret ?_
              refine And.intro (Or.inr rfl) ?_
              simp [retC, resC, viewC, mapO, h1, h2]
            · by_cases h3 : 120 < w.full
              · repeat refine awp_seq ?_
                refine awp_reg1 (by rw [hx]; kernel_rfl) fun K hK => ?_
                simp (config := { maxSteps := 1000000 }) [ty25]
                refine callP (ref31 w nl fu l (by omega)) (by first | (simp; done) | (simp [*]; done)) ?_
                simp (config := { maxSteps := 1000000 }) [ty31, hz, ty3, ty25, ty23, ty26, hwr, hM, h1, h2, h3]
                refine hK _ ?_
                clear hK K
                first | show AWP _ _ _ _ _ | show ∃ _, _ | skip
                repeat refine awp_seq ?_
                refine awp_ret ?_
                refine And.intro (Or.inr rfl) ?_
                simp [retC, resC, viewC, mapO, h1, h2, h3]
              · by_cases h4 : 4 < l.length
                · repeat refine awp_seq ?_
                  refine awp_reg1 (by rw [hx]; kernel_rfl) fun K hK => ?_
                  simp (config := { maxSteps := 1000000 }) [ty25]
                  refine callP (ref31 w nl fu l (by omega)) (by first | (simp; done) | (simp [*]; done)) ?_
                  simp (config := { maxSteps := 1000000 }) [ty31, hz, ty3, ty25, ty23, ty26, hwr, hM, h1, h2, h3, h4]
                  refine hK _ ?_
                  clear hK K
                  first | show AWP _ _ _ _ _ | show ∃ _, _ | skip
                  repeat refine awp_seq ?_
                  refine awp_ret ?_
                  refine And.intro (Or.inr rfl) ?_
                  simp [retC, resC, viewC, mapO, h1, h2, h3, h4]
                · repeat refine awp_seq ?_
                  refine awp_reg1 (by rw [hx]; kernel_rfl) fun K hK => ?_
                  simp (config := { maxSteps := 1000000 }) [ty25]
                  refine callP (ref31 w nl fu l (by omega)) (by first | (simp; done) | (simp [*]; done)) ?_
                  simp (config := { maxSteps := 1000000 }) [ty31, hz, ty3, ty25, ty23, ty26, hwr, hM, h1, h2, h3, h4]
                  refine hK _ ?_
                  clear hK K
                  first | show AWP _ _ _ _ _ | show ∃ _, _ | skip
                  repeat refine awp_seq ?_
                  refine awp_ret ?_
                  refine And.intro (Or.inr rfl) ?_
                  simp [retC, resC, viewC, mapO, h1, h2, h3, h4]
      · intro hb
        simp at hb
        exact ⟨hl, fun _ => ⟨by omega, by omega, by omega, by omega, by omega, by omega⟩⟩
    · refine ⟨false, ?_, fun _ => ⟨hl, fun h => absurd h hz⟩⟩
      refine pure_of (fn := Try.f12) [.tmp 4] ⟨Try.func12, rfl, by kernel_rfl⟩ (by kernel_rfl) (by kernel_rfl) (by kernel_rfl) fun x hx hσ => ?_
      repeat refine awp_seq ?_
      refine awp_reg1 (by rw [hx]; kernel_rfl) fun K hK => ?_
      simp (config := { maxSteps := 1000000 }) [ty25]
      refine hK _ ?_
      clear hK K
      first | show AWP _ _ _ _ _ | show ∃ _, _ | skip
      repeat refine awp_seq ?_
      refine awp_reg1 (by rw [hx]; kernel_rfl) fun K hK => ?_
      simp (config := { maxSteps := 1000000 }) [ty26, ty3, h40]
      refine hK _ ?_
      clear hK K
      first | show AWP _ _ _ _ _ | show ∃ _, _ | skip
      repeat refine awp_seq ?_
      refine awp_cond (by simp [h40]; rfl) (by rw [hx]; simp) (fun hd => ?_) (fun hd => ?_)
      · simp at hd
      · clear hd
        refine awp_skip ?_
        first | show AWP _ _ _ _ _ | show ∃ _, _ | skip
        repeat refine awp_seq ?_
        refine awp_reg1 (by rw [hx]; kernel_rfl) fun K hK => ?_
        simp (config := { maxSteps := 1000000 }) [ty25]
        refine callP (ref31 w nl fu l (by omega)) (by first | (simp; done) | (simp [*]; done)) ?_
        simp (config := { maxSteps := 1000000 }) [ty31, hz, ty3]
        have hz' : (checkI w l == 0) = false := by simp [hz]
        simp [hz', ty31, ty3, ty25]
        refine hK _ ?_
        clear hK K
        first | show AWP _ _ _ _ _ | show ∃ _, _ | skip
        repeat refine awp_seq ?_
        refine awp_ret ?_
        refine And.intro (Or.inr rfl) ?_
        simp [retC, resC, viewC, mapO]

end Go.Proofs.Ytmmoghgpaagnhaa

/- What comes in, as data; and how a law's statement follows from a contract of data. No condition. -/
namespace Go.Abs
open Go.ChangeShapes Go.WideShapes Go.ChangeAt Go.RowKit

/-- The make of a cell. -/
inductive Sh where
  | int (k : IntKind)
  | bool
  | str
  | sl (l : List Sh)

mutual
/-- A value of a make. -/
def Fit : Sh → C → Prop
  | .int k, c => ∃ n, c = .int k n ∧ (Lit.int k n).wf = true
  | .bool, c => ∃ b, c = .bool b
  | .str, c => ∃ s : ByteArray, c = .str s ∧ s.size ≤ maxLen
  | .sl l, c => ∃ nl rows, c = .sl nl false rows ∧ (nl = true → rows = []) ∧ rows.length ≤ maxLen ∧ ∀ row ∈ rows, FitL l row
def FitL : List Sh → List C → Prop
  | [], m => m = []
  | s :: l, m => ∃ c r, m = c :: r ∧ Fit s c ∧ FitL l r
end

def shFs (P : Program) (g : TypeId → Option (List Sh)) : Nat → List Field → Option (List Sh)
  | _, [] => some []
  | o, f :: fs => match g f.type, shFs P g (o + P.cellsOf f.type) fs with
    | some l, some m => if f.offset = o ∧ l.length = P.cellsOf f.type then some (l ++ m) else none
    | _, _ => none

/-- The makes of a type's cells. -/
def shT (P : Program) : Nat → TypeId → Option (List Sh)
  | 0, _ => none
  | n + 1, t => match P.underlying t with
    | some (.int k) => some [.int k]
    | some .bool => some [.bool]
    | some .string => some [.str]
    | some (.slice e) => match shT P n e with
      | some l => if l.length = P.cellsOf e ∧ 0 < l.length then some [.sl l] else none
      | none => none
    | some (.struct fs) => match shFs P (shT P n) 0 fs.toList with
      | some l => if l.length = P.cellsOf t then some l else none
      | none => none
    | _ => none

theorem FitL.len : ∀ {l : List Sh} {m : List C}, FitL l m → m.length = l.length
  | [], m, h => by simp only [FitL] at h; subst h; rfl
  | s :: l, m, h => by
    simp only [FitL] at h
    obtain ⟨c, r, rfl, _, h⟩ := h
    simp [FitL.len h]

theorem FitL.append : ∀ {l l' : List Sh} {m m' : List C}, FitL l m → FitL l' m' → FitL (l ++ l') (m ++ m')
  | [], l', m, m', h, h' => by simp only [FitL] at h; subst h; exact h'
  | s :: l, l', m, m', h, h' => by
    simp only [FitL] at h
    obtain ⟨c, r, rfl, h1, h2⟩ := h
    simp only [List.cons_append, FitL]
    exact ⟨c, r ++ m', rfl, h1, h2.append h'⟩

def anyG : Nat → Prop := fun _ => True

/-- Cells that stand for values. -/
def OpL (W : World) (m : List C) (cs : List Value) : Prop := m.length = cs.length ∧ ∀ (i : Nat) (c : C), m[i]? = some c → PR anyG W c (cs[i]?.getD undef) ∧ c.cell = true

theorem exists_list {α : Type} {Q : Nat → α → Prop} : ∀ {n : Nat}, (∀ i, i < n → ∃ x, Q i x) → ∃ l : List α, l.length = n ∧ ∀ i x, l[i]? = some x → Q i x
  | 0, _ => ⟨[], rfl, by simp⟩
  | n + 1, h => by
    obtain ⟨l, h1, h2⟩ := exists_list (n := n) fun i hi => h i (by omega)
    obtain ⟨x, hx⟩ := h n (by omega)
    refine ⟨l ++ [x], by simp [h1], fun i y hy => ?_⟩
    rcases Nat.lt_or_ge i l.length with hlt | hge
    · rw [List.getElem?_append_left hlt] at hy
      exact h2 i y hy
    · rw [List.getElem?_append_right hge] at hy
      have : i = n := by
        have := (List.getElem?_eq_some_iff.1 hy).1
        simp at this; omega
      subst this
      rw [h1, Nat.sub_self] at hy
      simp at hy
      subst hy; exact hx

section
variable {H : Type} {enc : TypeId × Value → H} {P : Program} {W : World}

theorem spot_of {a : Addr} {q n : Nat} {v : Value} (h : W.cell? ((a.add q).add n) = some v) (h0 : q = 0 ∧ n = 0) : a.spot = none := by
  obtain ⟨rfl, rfl⟩ := h0
  simp only [Addr.add, if_true] at h
  unfold World.cell? at h
  split at h
  · split at h
    · simp at h
    · rename_i hs
      cases hsp : a.spot with
      | none => rfl
      | some z => simp [hsp] at hs
  · simp at h

theorem addr_full {a : Addr} (h : a.spot = none) (q n : Nat) : (a.add q).add n = ⟨a.block, a.off + (q + n), none⟩ := by
  obtain ⟨b, o, s⟩ := a
  simp only at h
  subst h
  rw [addr_add, addr_add, Nat.add_assoc]

theorem cells_at {a : Addr} {n : Nat} {cs : List Value} (h : W.cells? 0 a n = some cs) : cs.length = n ∧ ∀ i, i < n → W.cell? (a.add i) = cs[i]? := by
  unfold World.cells? at h
  rw [if_pos (Nat.zero_le _)] at h
  refine ⟨by simpa using mapM_some_length h, fun i hi => ?_⟩
  exact mapM_some_get h i i (by rw [List.getElem?_range hi])

theorem block_lt {a : Addr} {v : Value} (h : W.cell? a = some v) : a.block < W.heap.size := by
  unfold World.cell? at h
  split at h
  · rename_i hh; exact (Array.getElem?_eq_some_iff.1 hh).1
  · simp at h

/-- WHAT IS READ IS DATA. -/
theorem open_sound : ∀ (n : Nat) {fuel : Nat} {t : TypeId} {cs : List Value} {x : DataW H × List MemPlace} {shs : List Sh}, shT P n t = some shs → DataW.trod enc P W 0 (fun _ => true) true fuel t cs = some x →
    ∃ m, FitL shs m ∧ OpL W m cs
  | 0, _, _, _, _, _, h, _ => by simp [shT] at h
  | n + 1, fuel, t, cs, x, shs, h, ht => by
    unfold shT at h
    split at h
    · rename_i k hk
      simp only [Option.some.injEq] at h
      subst h
      obtain ⟨z, rfl, _, hw⟩ := DataW.trod_int hk ht
      refine ⟨[.int k z], ⟨_, _, rfl, ⟨z, rfl, hw⟩, rfl⟩, rfl, fun i c hi => ?_⟩
      cases i with
      | zero => simp at hi; subst hi; exact ⟨.int _ _, rfl⟩
      | succ i => simp at hi
    · rename_i hk
      simp only [Option.some.injEq] at h
      subst h
      obtain ⟨z, rfl, _⟩ := DataW.trod_bool hk ht
      refine ⟨[.bool z], ⟨_, _, rfl, ⟨z, rfl⟩, rfl⟩, rfl, fun i c hi => ?_⟩
      cases i with
      | zero => simp at hi; subst hi; exact ⟨.bool _, rfl⟩
      | succ i => simp at hi
    · rename_i hk
      simp only [Option.some.injEq] at h
      subst h
      obtain ⟨z, rfl, _, hz⟩ := DataW.trod_string hk ht
      refine ⟨[.str z], ⟨_, _, rfl, ⟨z, rfl, hz⟩, rfl⟩, rfl, fun i c hi => ?_⟩
      cases i with
      | zero => simp at hi; subst hi; exact ⟨.str _, rfl⟩
      | succ i => simp at hi
    · rename_i e hk
      split at h
      · rename_i l hl
        split at h
        · rename_i hc
          obtain ⟨hc1, hc2⟩ := hc
          simp only [Option.some.injEq] at h
          subst h
          have one : ∀ {nl : Bool} {rows : List (List C)} {v : Value}, cs = [v] → (nl = true → rows = []) → rows.length ≤ maxLen → (∀ row ∈ rows, FitL l row) → PR anyG W (.sl nl false rows) v → ∃ m, FitL [.sl l] m ∧ OpL W m cs := by
            intro nl rows v hcs h1 h2 h3 h4
            subst hcs
            refine ⟨[.sl nl false rows], ⟨_, _, rfl, ⟨nl, rows, rfl, h1, h2, h3⟩, rfl⟩, rfl, fun i c hi => ?_⟩
            cases i with
            | zero => simp at hi; subst hi; exact ⟨h4, rfl⟩
            | succ i => simp at hi
          rcases DataW.trod_slice hk ht with ⟨rfl, _⟩ | ⟨a, len, cap, elems, rest, q, _, rfl, _, hb, hlc, hcm, hel, hat, hsp, _⟩
          · exact one rfl (fun _ => rfl) (by simp) (by simp) (.slnil _)
          · obtain ⟨hrl, hrat⟩ := hsp rfl
            by_cases hcap : cap = 0
            · have : len = 0 := by omega
              subst this
              subst hcap
              exact one (nl := false) (rows := []) rfl (by simp) (by simp) (by simp) (.slemp _ _)
            · have hspot : a.spot = none ∧ a.block < W.heap.size := by
                by_cases h0 : len = 0
                · have := hrat 0 (by omega)
                  rw [List.getElem?_eq_getElem (by omega), Option.bind_eq_some_iff] at this
                  obtain ⟨cs0, g1, _⟩ := this
                  obtain ⟨g2, g3⟩ := cells_at g1
                  have g4 := g3 0 (by omega)
                  rw [List.getElem?_eq_getElem (by omega), h0] at g4
                  have hs := spot_of g4 ⟨by simp, rfl⟩
                  refine ⟨hs, ?_⟩
                  have := block_lt g4
                  rw [addr_full hs] at this
                  exact this
                · have := hat 0 (by omega)
                  rw [List.getElem?_eq_getElem (by omega), Option.bind_eq_some_iff] at this
                  obtain ⟨cs0, g1, _⟩ := this
                  obtain ⟨g2, g3⟩ := cells_at g1
                  have g4 := g3 0 (by omega)
                  rw [List.getElem?_eq_getElem (by omega)] at g4
                  have hs := spot_of g4 ⟨by simp, rfl⟩
                  refine ⟨hs, ?_⟩
                  have := block_lt g4
                  rw [addr_full hs] at this
                  exact this
              obtain ⟨hs, hlt⟩ := hspot
              have hrow : ∀ i, i < len → ∃ row, FitL l row ∧ ∀ (j : Nat) (c : C), row[j]? = some c → ∃ v, W.cell? ⟨a.block, a.off + (i * P.cellsOf e + j), none⟩ = some v ∧ PR anyG W c v ∧ c.cell = true := by
                intro i hi
                have h1 := hat i hi
                rw [List.getElem?_eq_getElem (by omega), Option.bind_eq_some_iff] at h1
                obtain ⟨cs0, g1, g2⟩ := h1
                obtain ⟨g3, g4⟩ := cells_at g1
                obtain ⟨row, r1, r2, r3⟩ := open_sound n hl g2
                refine ⟨row, r1, fun j c hj => ?_⟩
                have hjl : j < row.length := (List.getElem?_eq_some_iff.1 hj).1
                have g5 := g4 j (by omega)
                rw [addr_full hs] at g5
                obtain ⟨r4, r5⟩ := r3 j c hj
                rw [List.getElem?_eq_getElem (by omega)] at g5 r4
                exact ⟨_, g5, r4, r5⟩
              obtain ⟨rows, w1, w2⟩ := exists_list hrow
              refine one (nl := false) (rows := rows) rfl (by simp) (by omega) (fun row hr => ?_) ?_
              · obtain ⟨i, hi, rfl⟩ := List.getElem_of_mem hr
                exact (w2 i _ (List.getElem?_eq_getElem hi)).1
              · obtain ⟨b, o, s⟩ := a
                simp only at hs hlt
                subst hs
                refine .sl (sz := P.cellsOf e) (fun i j => (W.cell? ⟨b, o + (i * P.cellsOf e + j), none⟩).getD undef) trivial hlt w1.symm (by simp) (by omega) ?_ ?_ ?_ ?_
                · intro i row hi
                  rw [(w2 i row hi).1.len, hc1]
                · intro i row hi j c hj
                  obtain ⟨v, q1, q2, q3⟩ := (w2 i row hi).2 j c hj
                  simp only at q1
                  rw [q1]; rfl
                · intro i row hi j c hj
                  obtain ⟨v, q1, q2, q3⟩ := (w2 i row hi).2 j c hj
                  exact q3
                · intro i row hi j c hj
                  obtain ⟨v, q1, q2, q3⟩ := (w2 i row hi).2 j c hj
                  simp only at q1
                  rw [q1]; exact q2
        · simp at h
      · simp at h
    · rename_i fs hk
      split at h
      · rename_i l hl
        split at h
        · rename_i hc
          simp only [Option.some.injEq] at h
          subst h
          obtain ⟨xs, q, _, _, hlen, hxl, hf⟩ := DataW.trod_struct hk ht
          have go : ∀ (fl : List Field) (o : Nat) (shs : List Sh), shFs P (shT P n) o fl = some shs → (∀ f ∈ fl, ∃ y, DataW.trod enc P W 0 (fun _ => true) true q f.type ((cs.drop f.offset).take (P.cellsOf f.type)) = some y) → o + shs.length ≤ cs.length →
              ∃ m, FitL shs m ∧ ∀ (i : Nat) (c : C), m[i]? = some c → PR anyG W c (cs[o + i]?.getD undef) ∧ c.cell = true := by
            intro fl
            induction fl with
            | nil =>
              intro o shs h1 _ _
              simp only [shFs, Option.some.injEq] at h1
              subst h1
              exact ⟨[], rfl, by simp⟩
            | cons f fl ih =>
              intro o shs h1 h2 h3
              unfold shFs at h1
              split at h1
              · rename_i l1 l2 e1 e2
                split at h1
                · rename_i hc2
                  obtain ⟨ho, hl1⟩ := hc2
                  simp only [Option.some.injEq] at h1
                  subst h1
                  simp only [List.length_append] at h3
                  obtain ⟨y, hy⟩ := h2 f (by simp)
                  obtain ⟨m1, p1, p2, p3⟩ := open_sound n e1 hy
                  obtain ⟨m2, p4, p5⟩ := ih (o + P.cellsOf f.type) l2 e2 (fun g hg => h2 g (by simp [hg])) (by omega)
                  have hm1 := p1.len
                  refine ⟨m1 ++ m2, p1.append p4, fun i c hi => ?_⟩
                  rcases Nat.lt_or_ge i m1.length with hlt | hge
                  · rw [List.getElem?_append_left hlt] at hi
                    have := p3 i c hi
                    rw [List.getElem?_take_of_lt (by omega), List.getElem?_drop, ho] at this
                    exact this
                  · rw [List.getElem?_append_right hge] at hi
                    have := p5 _ c hi
                    rw [show o + P.cellsOf f.type + (i - m1.length) = o + i by omega] at this
                    exact this
                · simp at h1
              · simp at h1
          obtain ⟨m, m1, m2⟩ := go fs.toList 0 l hl (fun f hfm => by
            obtain ⟨i, hi, rfl⟩ := List.getElem_of_mem hfm
            have := hf i fs.toList[i] (by simp)
            rw [List.getElem?_eq_getElem (by simp at hi; omega)] at this
            exact ⟨_, this⟩) (by omega)
          exact ⟨m, m1, by rw [m1.len]; omega, fun i c hi => by have := m2 i c hi; rwa [Nat.zero_add] at this⟩
        · simp at h
      · simp at h
    · simp at h

def isAggT (P : Program) (t : TypeId) : Bool :=
  match P.underlying t with
  | some (.struct _) => true
  | _ => false

/-- What the parameters stand for. -/
def ArgsFit (P : Program) : List TypeId → List C → Prop
  | [], cs => cs = []
  | t :: ts, cs => ∃ shs m c r, cs = c :: r ∧ shT P 6 t = some shs ∧ FitL shs m ∧ (if isAggT P t then c = .agg m else m = [c]) ∧ ArgsFit P ts r

theorem open_args : ∀ {ts : List TypeId} {vs : List Value} {ds : List (DataW H)} {ps : List MemPlace}, DataW.TrodAll enc P W 0 (fun _ => true) true ts vs ds ps →
    (∀ (j : Nat) t v, ts[j]? = some t → vs[j]? = some v → ∃ base, Value.okWide P W .any base t v) → (ts.all fun t => (shT P 6 t).isSome) = true →
    ∃ cargs, ArgsFit P ts cargs ∧ cargs.length = vs.length ∧ ∀ (i : Nat) (c : C), cargs[i]? = some c → PR anyG W c (vs[i]?.getD undef)
  | [], [], [], _, _, _, _ => ⟨[], rfl, rfl, by simp⟩
  | t :: ts, v :: vs, d :: ds, ps, h, hv, hs => by
    obtain ⟨p, q, ⟨fuel, h1⟩, h2, _⟩ := h
    simp only [List.all_cons, Bool.and_eq_true] at hs
    obtain ⟨hs1, hs2⟩ := hs
    rw [Option.isSome_iff_exists] at hs1
    obtain ⟨shs, hs1⟩ := hs1
    obtain ⟨m, m1, m2, m3⟩ := open_sound 6 hs1 h1
    obtain ⟨cargs, a1, a2, a3⟩ := open_args h2 (fun j t' v' e1 e2 => hv (j + 1) t' v' (by simpa using e1) (by simpa using e2)) hs2
    obtain ⟨base, hok⟩ := hv 0 t v rfl rfl
    have fin : ∀ c, (if isAggT P t then c = .agg m else m = [c]) → PR anyG W c v → ∃ cargs, ArgsFit P (t :: ts) cargs ∧ cargs.length = (v :: vs).length ∧ ∀ (i : Nat) (c : C), cargs[i]? = some c → PR anyG W c ((v :: vs)[i]?.getD undef) := by
      intro c hc hp
      refine ⟨c :: cargs, ⟨shs, m, c, cargs, rfl, hs1, m1, hc, a1⟩, by simp [a2], fun i c' hi => ?_⟩
      cases i with
      | zero => simp at hi; subst hi; simpa using hp
      | succ i => simp at hi ⊢; exact a3 i c' hi
    by_cases hag : isAggT P t = true
    · have hag0 := hag
      unfold isAggT at hag
      split at hag
      · rename_i fs hfs
        obtain ⟨cs, rfl, hcs⟩ := okWide_struct hfs hok
        refine fin (.agg m) (by rw [if_pos hag0]) (.agg (by rw [m2]; simp [Value.cells]) fun i c hi => ?_)
        have := (m3 i c hi).1
        simpa [Value.cells] using this
      · simp at hag
    · have hag0 := hag
      have hone : ∃ sh, shs = [sh] ∧ oneCell v = true := by
        unfold isAggT at hag
        unfold shT at hs1
        split at hs1
        · rename_i k hk
          obtain ⟨n, rfl⟩ := okWide_int hk hok
          exact ⟨_, (by simpa using hs1.symm), rfl⟩
        · rename_i hk
          obtain ⟨n, rfl⟩ := okWide_bool hk hok
          exact ⟨_, (by simpa using hs1.symm), rfl⟩
        · rename_i hk
          obtain ⟨n, rfl⟩ := okWide_string hk hok
          exact ⟨_, (by simpa using hs1.symm), rfl⟩
        · rename_i e hk
          obtain ⟨a, l, cp, rfl⟩ := okWide_slice hk hok
          split at hs1
          · split at hs1
            · exact ⟨_, (by simpa using hs1.symm), rfl⟩
            · simp at hs1
          · simp at hs1
        · rename_i fs hk
          rw [hk] at hag; simp at hag
        · simp at hs1
      obtain ⟨sh, rfl, hov⟩ := hone
      have hm := m1.len
      have hm1 : m.length = 1 := hm
      obtain ⟨c, rfl⟩ := List.length_eq_one_iff.1 hm1
      refine fin c (by rw [if_neg hag0]) ?_
      have := (m3 0 c rfl).1
      rw [cells_one hov] at this
      simpa using this
  | [], _ :: _, _, _, h, _, _ => h.elim
  | [], [], _ :: _, _, h, _, _ => h.elim
  | _ :: _, [], _, _, h, _, _ => h.elim
  | _ :: _, _ :: _, [], _, h, _, _ => h.elim

/-- No slice of things without size. -/
def noEmptyB (P : Program) : Bool := (List.range P.types.size).all fun t => match P.underlying t with
  | some (.slice e) => decide (0 < P.cellsOf e)
  | _ => true

theorem same_of {W' : World} (g : Grew W W') {p : MemPlace} (h : p.block < W.heap.size) : W.sameAt W' p := by
  cases p with
  | cell b off =>
    show W'.cell? _ = W.cell? _
    unfold World.cell?
    rw [g.heap b h]
  | map b => exact g.heap b h

theorem shut_args {W' : World} (hl : laidOutB P = true) (hm : mapsRowed P = true) (hz : noEmptyB P = true) (g : Grew W W') {sp : Nat → Bool} : ∀ {ts : List TypeId} {vs : List Value} {ds : List (DataW H)} {ps : List MemPlace},
    (ts.all fun t => decide (t < P.types.size)) = true → DataW.TrodAll enc P W 0 (fun _ => true) true ts vs ds ps → (∀ p ∈ ps, p.block < W.heap.size) → (∀ p ∈ ps, sp p.block = true) → DataW.TrodAll enc P W' 0 sp true ts vs ds ps
  | [], [], [], _, _, h, _, _ => h
  | t :: ts, v :: vs, d :: ds, ps, ht, h, hb, hs => by
    obtain ⟨p, q, ⟨fuel, h1⟩, h2, rfl⟩ := h
    simp only [List.all_cons, Bool.and_eq_true, decide_eq_true_eq] at ht
    refine ⟨p, q, ⟨fuel, ?_⟩, shut_args hl hm hz g ht.2 h2 (fun r hr => hb r (by simp [hr])) (fun r hr => hs r (by simp [hr])), rfl⟩
    refine DataW.trod_stays (T := (· < P.types.size)) (kids_rows hl hm) (fun {t e} h3 h4 => ?_) (fun h => by simp at h) ht.1 h1 (fun r hr => same_of g (hb r (by simp; exact .inl hr))) (fun r hr => hs r (by simp; exact .inl hr))
    unfold noEmptyB at hz
    rw [List.all_eq_true] at hz
    have := hz t (by simpa using h3)
    rw [h4] at this
    simpa using this
  | [], _ :: _, _, _, _, h, _, _ => h.elim
  | [], [], _ :: _, _, _, h, _, _ => h.elim
  | _ :: _, [], _, _, _, h, _, _ => h.elim
  | _ :: _, _ :: _, [], _, _, h, _, _ => h.elim

theorem kept_of {W' : World} (g : Grew W W') (may : MemPlace → Prop) : W.keptBut W' may := by
  refine ⟨g.os, g.output, fun i hi => ?_⟩
  rw [g.heap i hi]
  cases h : W.heap[i]? with
  | none => trivial
  | some o => cases o <;> simp

/-- A LAW's STATEMENT, from a contract of data. -/
theorem law_contract {f : FuncId} {fn : Func} {s : ChangeSpec} {tb : TypeId} (hrt : fn.resultTypes = #[tb]) (htb : P.underlying tb = some .bool) (hvars : s.vars = [])
    (hspec : ∀ (ds : List (DataW H)), ds.length = fn.params.toList.length → s.fn H ds = { results := [.lit (.bool true)], args := ds })
    (hl : laidOutB P = true) (hm : mapsRowed P = true) (hz : noEmptyB P = true) (ht : (fn.params.toList.all fun t => decide (t < P.types.size)) = true) (hsh : (fn.params.toList.all fun t => (shT P 6 t).isSome) = true)
    (hcall : ∀ cargs, ArgsFit P fn.params.toList cargs → Pure P f cargs (.bool true))
    (W : World) (base : Nat) (args : Array Value) (ds gs : List (DataW H)) (before : List MemPlace) (hval : ∀ (j : Nat) t v, fn.params[j]? = some t → args[j]? = some v → Value.okWide P W .any base t v)
    (hW : DataW.Whole enc P fn.params.toList s.vars false W args.toList ds gs before) :
    Calls P f args W fun e W' => ∃ v, e = .returned v ∧ s.post enc P fn false true false false W args v W' := by
  have hW' := hW
  obtain ⟨p, q, hA, hV, rfl, hfz, hnd⟩ := hW
  rw [hvars] at hV
  obtain ⟨rfl, rfl⟩ := trodVars_none hV
  obtain ⟨cargs, c1, c2, c3⟩ := open_args hA (fun j t v e1 e2 => ⟨base, hval j t v (by simpa using e1) (by simpa using e2)⟩) hsh
  have hlen : ds.length = fn.params.toList.length := by
    have : ∀ {ts : List TypeId} {vs : List Value} {ds : List (DataW H)} {ps : List MemPlace}, DataW.TrodAll enc P W 0 (fun _ => true) true ts vs ds ps → ds.length = ts.length := by
      intro ts
      induction ts with
      | nil => intro vs ds ps h; cases vs <;> cases ds <;> first | rfl | exact h.elim
      | cons t ts ih =>
        intro vs ds ps h
        cases vs with
        | nil => exact h.elim
        | cons v vs =>
          cases ds with
          | nil => exact h.elim
          | cons d ds =>
            obtain ⟨_, _, _, h2, _⟩ := h
            simp [ih h2]
    exact this hA
  refine ((hcall cargs c1).calls anyG W args ⟨by simpa using c2.symm, fun i c hi => by have := c3 i c hi; simpa using this⟩).mono ?_
  rintro e W' ⟨v, rfl, hr, g⟩
  cases hr
  refine ⟨_, rfl, ds, [], p, [], p, [], ?_, ?_, ?_, ?_, kept_of g _, by simp⟩
  · simpa using hW'
  · rw [hspec (ds ++ []) (by simpa using hlen), hrt]
    refine ⟨[], [], ⟨1, ?_⟩, rfl, rfl⟩
    simp [DataW.trod, htb, Value.cells]
  · rw [hspec (ds ++ []) (by simpa using hlen)]
    simp only [List.append_nil]
    have hlt := hW'.lt
    exact shut_args hl hm hz g ht hA (fun r hr => hlt r (by simpa using hr)) (fun r hr => by simpa using hlt r (by simpa using hr))
  · rw [hvars, hspec (ds ++ []) (by simpa using hlen)]
    rfl
end
end Go.Abs

namespace Go.Proofs.Ytmmoghgpaagnhaa
open Go Go.Abs

set_option maxHeartbeats 2000000
set_option maxRecDepth 100000

-- what comes in

abbrev i64s (n : Nat) : List Sh := List.replicate n (.int .i64)
theorem sh25 : shT Try.prog 6 25 = some (i64s 8) := by kernel_rfl
theorem sh26 : shT Try.prog 6 26 = some [.sl (i64s 5)] := by kernel_rfl
theorem sh28 : shT Try.prog 6 28 = some (i64s 2) := by kernel_rfl
theorem sh61 : shT Try.prog 6 61 = some (i64s 2) := by kernel_rfl
theorem sh39 : shT Try.prog 6 39 = some (i64s 5) := by kernel_rfl
theorem sh41 : shT Try.prog 6 41 = some (i64s 10) := by kernel_rfl
theorem sh54 : shT Try.prog 6 54 = some (i64s 3) := by kernel_rfl
theorem sh3 : shT Try.prog 6 3 = some [.int .i64] := by kernel_rfl
theorem ag25 : isAggT Try.prog 25 = true := by kernel_rfl
theorem ag26 : isAggT Try.prog 26 = false := by kernel_rfl
theorem ag28 : isAggT Try.prog 28 = true := by kernel_rfl
theorem ag61 : isAggT Try.prog 61 = true := by kernel_rfl
theorem ag39 : isAggT Try.prog 39 = true := by kernel_rfl
theorem ag41 : isAggT Try.prog 41 = true := by kernel_rfl
theorem ag54 : isAggT Try.prog 54 = true := by kernel_rfl
theorem ag3 : isAggT Try.prog 3 = false := by kernel_rfl

theorem rows_map {α : Type} {f : α → List C} : ∀ {rows : List (List C)}, (∀ row ∈ rows, ∃ a, row = f a) → ∃ l : List α, rows = l.map f
  | [], _ => ⟨[], rfl⟩
  | r :: rows, h => by
    obtain ⟨a, rfl⟩ := h r (by simp)
    obtain ⟨l, rfl⟩ := rows_map (rows := rows) fun x hx => h x (by simp [hx])
    exact ⟨a :: l, rfl⟩

theorem fit_flat : ∀ {n : Nat} {m : List C}, FitL (i64s n) m → ∃ zs : List Int, zs.length = n ∧ m = zs.map encI
  | 0, m, h => by
    simp only [i64s, List.replicate_zero, FitL] at h
    exact ⟨[], rfl, h⟩
  | n + 1, m, h => by
    simp only [i64s, List.replicate_succ, FitL, Fit] at h
    obtain ⟨c, r, rfl, ⟨z, rfl, _⟩, h2⟩ := h
    obtain ⟨zs, h3, rfl⟩ := fit_flat h2
    exact ⟨z :: zs, by simp [h3], rfl⟩

theorem arg_flat {t : TypeId} {n : Nat} (hs : shT Try.prog 6 t = some (i64s n)) (ha : isAggT Try.prog t = true) {cs : List C} {ts : List TypeId} (h : ArgsFit Try.prog (t :: ts) cs) : ∃ (zs : List Int) (r : List C), zs.length = n ∧ cs = .agg (zs.map encI) :: r ∧ ArgsFit Try.prog ts r := by
  simp only [ArgsFit] at h
  obtain ⟨shs, m, c, r, rfl, h1, h2, h3, h4⟩ := h
  rw [hs] at h1
  cases h1
  rw [ha, if_pos rfl] at h3
  subst h3
  obtain ⟨zs, e1, rfl⟩ := fit_flat h2
  exact ⟨zs, r, e1, rfl, h4⟩

theorem arg25 {cs : List C} {ts : List TypeId} (h : ArgsFit Try.prog (25 :: ts) cs) : ∃ w r, cs = encWh w :: r ∧ ArgsFit Try.prog ts r := by
  obtain ⟨zs, r, e1, rfl, h2⟩ := arg_flat sh25 ag25 h
  match zs, e1 with
  | [a, b, c, d, e, f, g, i], _ => exact ⟨⟨a, b, c, d, e, f, g, i⟩, r, rfl, h2⟩

theorem arg26 {cs : List C} {ts : List TypeId} (h : ArgsFit Try.prog (26 :: ts) cs) : ∃ (nl : Bool) (l : List Wl) (r : List C), cs = sWl nl false l :: r ∧ ArgsFit Try.prog ts r := by
  simp only [ArgsFit] at h
  obtain ⟨shs, m, c, r, rfl, h1, h2, h3, h4⟩ := h
  rw [sh26] at h1
  cases h1
  rw [ag26] at h3
  simp only [Bool.false_eq_true, if_false] at h3
  subst h3
  simp only [FitL] at h2
  obtain ⟨c0, _, e, h0, rfl⟩ := h2
  cases e
  simp only [Fit] at h0
  obtain ⟨nl, rows, rfl, _, _, h5⟩ := h0
  obtain ⟨l, rfl⟩ := rows_map (f := cWl) (rows := rows) fun row hr => by
    obtain ⟨zs, e1, rfl⟩ := fit_flat (h5 row hr)
    match zs, e1 with
    | [a, b, c, d, e], _ => exact ⟨⟨a, b, c, d, e⟩, rfl⟩
  exact ⟨nl, l, r, rfl, h4⟩

theorem arg28 {cs : List C} {ts : List TypeId} (h : ArgsFit Try.prog (28 :: ts) cs) : ∃ (a b : Int) (r : List C), cs = .agg [encI a, encI b] :: r ∧ ArgsFit Try.prog ts r := by
  obtain ⟨zs, r, e1, rfl, h2⟩ := arg_flat sh28 ag28 h
  match zs, e1 with
  | [a, b], _ => exact ⟨a, b, r, rfl, h2⟩

theorem arg61 {cs : List C} {ts : List TypeId} (h : ArgsFit Try.prog (61 :: ts) cs) : ∃ (t : Tr) (r : List C), cs = encTr t :: r ∧ ArgsFit Try.prog ts r := by
  obtain ⟨zs, r, e1, rfl, h2⟩ := arg_flat sh61 ag61 h
  match zs, e1 with
  | [a, b], _ => exact ⟨⟨a, b⟩, r, rfl, h2⟩

theorem arg39 {cs : List C} {ts : List TypeId} (h : ArgsFit Try.prog (39 :: ts) cs) : ∃ (y : Wl) (r : List C), cs = encWl y :: r ∧ ArgsFit Try.prog ts r := by
  obtain ⟨zs, r, e1, rfl, h2⟩ := arg_flat sh39 ag39 h
  match zs, e1 with
  | [a, b, c, d, e], _ => exact ⟨⟨a, b, c, d, e⟩, r, rfl, h2⟩

structure More where
  walk : Wl
  read : Int
  slip : Int
  skew : Int
  wrong : Int
  guess : Int
@[simp] abbrev encMore (x : More) : C := .agg [encI x.walk.sense, encI x.walk.side, encI x.walk.inside, encI x.walk.start, encI x.walk.fin, encI x.read, encI x.slip, encI x.skew, encI x.wrong, encI x.guess]

theorem arg41 {cs : List C} {ts : List TypeId} (h : ArgsFit Try.prog (41 :: ts) cs) : ∃ (x : More) (r : List C), cs = encMore x :: r ∧ ArgsFit Try.prog ts r := by
  obtain ⟨zs, r, e1, rfl, h2⟩ := arg_flat sh41 ag41 h
  match zs, e1 with
  | [a, b, c, d, e, f, g, i, j, k], _ => exact ⟨⟨⟨a, b, c, d, e⟩, f, g, i, j, k⟩, r, rfl, h2⟩

theorem arg54 {cs : List C} {ts : List TypeId} (h : ArgsFit Try.prog (54 :: ts) cs) : ∃ (a b c : Int) (r : List C), cs = .agg [encI a, encI b, encI c] :: r ∧ ArgsFit Try.prog ts r := by
  obtain ⟨zs, r, e1, rfl, h2⟩ := arg_flat sh54 ag54 h
  match zs, e1 with
  | [a, b, c], _ => exact ⟨a, b, c, r, rfl, h2⟩

theorem arg3 {cs : List C} {ts : List TypeId} (h : ArgsFit Try.prog (3 :: ts) cs) : ∃ n r, cs = encI n :: r ∧ ArgsFit Try.prog ts r := by
  simp only [ArgsFit] at h
  obtain ⟨shs, m, c, r, rfl, h1, h2, h3, h4⟩ := h
  rw [sh3] at h1
  cases h1
  rw [ag3] at h3
  simp only [Bool.false_eq_true, if_false] at h3
  subst h3
  simp only [FitL, Fit] at h2
  obtain ⟨_, _, e, ⟨n, rfl, hw⟩, rfl⟩ := h2
  cases e
  exact ⟨n, r, rfl, h4⟩

theorem arg_end {cs : List C} (h : ArgsFit Try.prog [] cs) : cs = [] := h

end Go.Proofs.Ytmmoghgpaagnhaa

/- The facts of the program that every statement's join asks. No condition. -/
namespace Go.Proofs.Ytmmoghgpaagnhaa
open Go Go.Abs
open Go.ChangeShapes Go.WideShapes Go.ChangeAt Go.RowKit

theorem J.own : ownKnob Try.prog.godebug = none := by kernel_rfl
theorem J.laid : laidOutB Try.prog = true := by kernel_rfl
theorem J.maps : mapsRowed Try.prog = true := by kernel_rfl
theorem J.sized : noEmptyB Try.prog = true := by kernel_rfl
theorem J.ub : Try.prog.underlying 4 = some .bool := by kernel_rfl
end Go.Proofs.Ytmmoghgpaagnhaa

