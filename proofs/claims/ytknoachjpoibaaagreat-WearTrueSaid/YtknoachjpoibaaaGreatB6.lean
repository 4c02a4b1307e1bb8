/- The machine of abstract values and the contracts of the functions of the program, which the statements of this seat share. No condition. -/
import Derived.Test.YtknoachjpoibaaaGreatB5

set_option linter.unusedSimpArgs false
set_option linter.unusedVariables false
set_option linter.constructorNameAsVariable false

namespace Go.Proofs.YtknoachjpoibaaaGreat
open Go Go.Abs

set_option maxHeartbeats 8000000

-- Errs

def mnI (L : List Int) : Int := L.foldl (fun m x => if x < m then x else m) (L.headD 0)
def mxI (L : List Int) : Int := L.foldl (fun m x => if m < x then x else m) (L.headD 0)


theorem min91 (nl fu : Bool) (L : List Int) (hne : L ≠ []) (hn : L.length ≤ 1000000) : Pure Tryz.prog 91 [.sl nl fu (L.map cI)] (encI (mnI L)) := by
 have hpos : 0 < L.length := List.length_pos_iff.2 hne
 obtain ⟨R, hR⟩ : ∃ R : Nat → Int, ∀ m, (L.take m).foldl (fun m x => if x < m then x else m) (L.headD 0) = R m := ⟨_, fun _ => rfl⟩
 have hRN : mnI L = R L.length := by rw [← hR, List.take_length]; rfl
 have hh : L.headD 0 = L[0] := (ends_at hpos).2.symm
 have hR1 : R 1 = L[0] := by
  rw [← hR]
  cases L with
  | nil => simp at hpos
  | cons a l => simp
 have hRs : ∀ m (hm : m < L.length), R (m + 1) = (fun m x => if x < m then x else m) (R m) L[m] := fun m hm => by
  rw [← hR, ← hR, List.take_succ_eq_append_getElem hm, List.foldl_append]; rfl
 rw [hRN]
 have h1 : ¬ ((L.length : Int) < 1) := by omega
 refine ZF (fn := Tryz.f91) [.tmp 2] ⟨Tryz.func91, rfl, by kernel_rfl⟩ fun x hx hσ => ?_
 (repeat refine ZQ ?_); refine ZR fun K hK => ?_; simp (maxSteps := 1000000) [ty29, ty3]; refine hK _ ?_; clear hK K
 (repeat refine ZQ ?_); refine ZR fun K hK => ?_; simp (maxSteps := 1000000) [ty29, ty3, h1]; refine hK _ ?_; clear hK K
 (repeat refine ZQ ?_); refine ZC (hc := by simp [h1]; rfl) (fun hd => ?_) (fun hd => ?_)
 ·simp [h1] at hd
 ·clear hd
  refine awp_skip ?_
  (repeat refine ZQ ?_); refine ZR fun K hK => ?_; simp (maxSteps := 1000000) [ty29, ty3, hpos]; refine hK _ ?_; clear hK K
  (repeat refine ZQ ?_); refine ZR fun K hK => ?_; simp (maxSteps := 1000000) [ty3]; refine hK _ ?_; clear hK K
  (repeat refine ZQ ?_); refine awp_block ?_
  refine awp_loop (fun i : Nat => ⟨ofL [(0, .sl nl fu (L.map cI)), (3, encI (R (i + 1))), (4, encI ((i + 1 : Nat) : Int))], stoT []⟩)
   (fun i => i + 1 ≤ L.length) (fun i => L.length - i) 0 (by omega) ?_ ?_
  ·rw [hR1]
   exact Zw
  ·intro i hi
   (repeat refine ZQ ?_); refine ZR fun K hK => ?_; simp (maxSteps := 1000000) [ty29, ty3]; refine hK _ ?_; clear hK K
   (repeat refine ZQ ?_); refine ZC (fun hc => ?_) (fun hc => ?_)
   ·simp at hc
    have hil : i + 1 < L.length := by omega
    have hst := hRs (i + 1) hil
    simp only at hst
    have h01 : (0 : Int) ≤ (i : Int) + 1 := by omega
    have hwi : IntKind.i64.wrap ((i : Int) + 1 + 1) = (i : Int) + 1 + 1 := wrap_id (by omega) (by omega)
    refine awp_skip ?_
    (repeat refine ZQ ?_); refine awp_block ?_
    by_cases hq : L[i + 1] < R (i + 1)
    ·rw [if_pos hq] at hst
     (repeat refine ZQ ?_); refine ZR fun K hK => ?_; simp (maxSteps := 1000000) [ty29, ty3, hil, hq, h01]; refine hK _ ?_; clear hK K
     (repeat refine ZQ ?_); refine ZR fun K hK => ?_; simp (maxSteps := 1000000) [ty3, hwi]; refine hK _ ?_; clear hK K; (first | show AWP _ _ _ _ _ | show ∃ _, _ | skip)
     refine ⟨i + 1, by omega, by omega, ?_⟩
     rw [hst]
     exact Zw
    ·rw [if_neg hq] at hst
     (repeat refine ZQ ?_); refine ZR fun K hK => ?_; simp (maxSteps := 1000000) [ty29, ty3, hil, hq, h01]; refine hK _ ?_; clear hK K
     (repeat refine ZQ ?_); refine ZR fun K hK => ?_; simp (maxSteps := 1000000) [ty3, hwi]; refine hK _ ?_; clear hK K; (first | show AWP _ _ _ _ _ | show ∃ _, _ | skip)
     refine ⟨i + 1, by omega, by omega, ?_⟩
     rw [hst]
     exact Zw
   ·simp at hc
    (repeat refine ZQ ?_); refine awp_exit ?_; (first | show AWP _ _ _ _ _ | show ∃ _, _ | skip)
    have hiN : i + 1 = L.length := by omega
    rw [hiN]
    (repeat refine ZQ ?_); refine ZR fun K hK => ?_; simp (maxSteps := 1000000) [ty3]; refine hK _ ?_; clear hK K
    (repeat refine ZQ ?_); refine awp_ret ?_; refine And.intro (Or.inr rfl) ?_
    simp [retC, resC, viewC, mapO]

theorem max92 (nl fu : Bool) (L : List Int) (hne : L ≠ []) (hn : L.length ≤ 1000000) : Pure Tryz.prog 92 [.sl nl fu (L.map cI)] (encI (mxI L)) := by
 have hpos : 0 < L.length := List.length_pos_iff.2 hne
 obtain ⟨R, hR⟩ : ∃ R : Nat → Int, ∀ m, (L.take m).foldl (fun m x => if m < x then x else m) (L.headD 0) = R m := ⟨_, fun _ => rfl⟩
 have hRN : mxI L = R L.length := by rw [← hR, List.take_length]; rfl
 have hh : L.headD 0 = L[0] := (ends_at hpos).2.symm
 have hR1 : R 1 = L[0] := by
  rw [← hR]
  cases L with
  | nil => simp at hpos
  | cons a l => simp
 have hRs : ∀ m (hm : m < L.length), R (m + 1) = (fun m x => if m < x then x else m) (R m) L[m] := fun m hm => by
  rw [← hR, ← hR, List.take_succ_eq_append_getElem hm, List.foldl_append]; rfl
 rw [hRN]
 have h1 : ¬ ((L.length : Int) < 1) := by omega
 refine ZF (fn := Tryz.f92) [.tmp 2] ⟨Tryz.func92, rfl, by kernel_rfl⟩ fun x hx hσ => ?_
 (repeat refine ZQ ?_); refine ZR fun K hK => ?_; simp (maxSteps := 1000000) [ty29, ty3]; refine hK _ ?_; clear hK K
 (repeat refine ZQ ?_); refine ZR fun K hK => ?_; simp (maxSteps := 1000000) [ty29, ty3, h1]; refine hK _ ?_; clear hK K
 (repeat refine ZQ ?_); refine ZC (hc := by simp [h1]; rfl) (fun hd => ?_) (fun hd => ?_)
 ·simp [h1] at hd
 ·clear hd
  refine awp_skip ?_
  (repeat refine ZQ ?_); refine ZR fun K hK => ?_; simp (maxSteps := 1000000) [ty29, ty3, hpos]; refine hK _ ?_; clear hK K
  (repeat refine ZQ ?_); refine ZR fun K hK => ?_; simp (maxSteps := 1000000) [ty3]; refine hK _ ?_; clear hK K
  (repeat refine ZQ ?_); refine awp_block ?_
  refine awp_loop (fun i : Nat => ⟨ofL [(0, .sl nl fu (L.map cI)), (3, encI (R (i + 1))), (4, encI ((i + 1 : Nat) : Int))], stoT []⟩)
   (fun i => i + 1 ≤ L.length) (fun i => L.length - i) 0 (by omega) ?_ ?_
  ·rw [hR1]
   exact Zw
  ·intro i hi
   (repeat refine ZQ ?_); refine ZR fun K hK => ?_; simp (maxSteps := 1000000) [ty29, ty3]; refine hK _ ?_; clear hK K
   (repeat refine ZQ ?_); refine ZC (fun hc => ?_) (fun hc => ?_)
   ·simp at hc
    have hil : i + 1 < L.length := by omega
    have hst := hRs (i + 1) hil
    simp only at hst
    have h01 : (0 : Int) ≤ (i : Int) + 1 := by omega
    have hwi : IntKind.i64.wrap ((i : Int) + 1 + 1) = (i : Int) + 1 + 1 := wrap_id (by omega) (by omega)
    refine awp_skip ?_
    (repeat refine ZQ ?_); refine awp_block ?_
    by_cases hq : R (i + 1) < L[i + 1]
    ·rw [if_pos hq] at hst
     (repeat refine ZQ ?_); refine ZR fun K hK => ?_; simp (maxSteps := 1000000) [ty29, ty3, hil, hq, h01]; refine hK _ ?_; clear hK K
     (repeat refine ZQ ?_); refine ZR fun K hK => ?_; simp (maxSteps := 1000000) [ty3, hwi]; refine hK _ ?_; clear hK K; (first | show AWP _ _ _ _ _ | show ∃ _, _ | skip)
     refine ⟨i + 1, by omega, by omega, ?_⟩
     rw [hst]
     exact Zw
    ·rw [if_neg hq] at hst
     (repeat refine ZQ ?_); refine ZR fun K hK => ?_; simp (maxSteps := 1000000) [ty29, ty3, hil, hq, h01]; refine hK _ ?_; clear hK K
     (repeat refine ZQ ?_); refine ZR fun K hK => ?_; simp (maxSteps := 1000000) [ty3, hwi]; refine hK _ ?_; clear hK K; (first | show AWP _ _ _ _ _ | show ∃ _, _ | skip)
     refine ⟨i + 1, by omega, by omega, ?_⟩
     rw [hst]
     exact Zw
   ·simp at hc
    (repeat refine ZQ ?_); refine awp_exit ?_; (first | show AWP _ _ _ _ _ | show ∃ _, _ | skip)
    have hiN : i + 1 = L.length := by omega
    rw [hiN]
    (repeat refine ZQ ?_); refine ZR fun K hK => ?_; simp (maxSteps := 1000000) [ty3]; refine hK _ ?_; clear hK K
    (repeat refine ZQ ?_); refine awp_ret ?_; refine And.intro (Or.inr rfl) ?_
    simp [retC, resC, viewC, mapO]

theorem on_ne_nil' {c : Co} (h : canC c [] = true) {d : Nat} (hd : d ≤ c.last.toNat) : onC c d [] ≠ [] := by
 obtain ⟨p, hp⟩ := (can_nil c).1 h
 exact List.ne_nil_of_mem ((on_nil c d hd (p d)).2 ⟨p, hp, rfl⟩)

def errL (c : Co) (day a : Int) : List Int := (onC c day []).map fun g => seenA a g - a
def errW (w : Ws) (day a : Int) : Int × Int := if openW w (dayB w day && areaB a) = 0 then (mnI (errL (co w (gl w)) day a), mxI (errL (co w (gl w)) day a)) else (0, 0)

@[simp] noncomputable abbrev Te (a : Int) (N i : Nat) : List (Nat × Nat × Slot) := [(1000005, 1000005, .live (o1 (encI a))), (1000006, 1000006, .live ⟨false, false, 2, [[encI 0, encI 0]]⟩), (1000010, 1000010, .live (o1 (apC N i)))]


theorem w_errs46 (w : Ws) (day a : Int) (hn : WsLen w) : Pure Tryz.prog 46 [encWs w, encI day, encI a] (.tup [.agg [encI (errW w day a).1, encI (errW w day a).2], encI (openW w (dayB w day && areaB a))]) := by
 by_cases hz : openW w (dayB w day && areaB a) = 0
 ·obtain ⟨hok, his, hcan⟩ := openW_ok hz
  have hop := open_yes hn hz
  have hnum := hok.num
  have hit := on98 w (gl w) true true [] [] day hnum (by simp)
  simp only [rowsK_nil] at hit
  have hV : errW w day a = (mnI (errL (co w (gl w)) day a), mxI (errL (co w (gl w)) day a)) := if_pos hz
  rw [hV, hz]
  have hmem : ∀ z ∈ onC (co w (gl w)) day [], -50 ≤ z ∧ z ≤ 50 := fun z hz' => by
   have h1 := onC_bd hz'
   have h2 := hnum.gain
   simp only at h1
   omega
  have hln := onC_len (co w (gl w)) day [] hnum.gain
  simp only [Bool.and_eq_true] at his
  obtain ⟨h1, h2⟩ := his
  have hne : onC (co w (gl w)) day [] ≠ [] := by
   have hdd : 0 ≤ day ∧ day ≤ w.last := by simpa [dayB] using h1
   have := on_ne_nil' hcan (d := day.toNat) (by simp only; omega)
   rw [show ((day.toNat : Nat) : Int) = day by omega] at this
   exact this
  unfold errL
  generalize onC (co w (gl w)) day [] = L at *
  have ha := areaB_iff.1 h2
  rw [h1, h2] at hop
  simp only [Bool.and_self] at hop
  obtain ⟨V, hVe⟩ : ∃ V, (L.map fun g => seenA a g - a) = V := ⟨_, rfl⟩
  obtain ⟨N, hN⟩ : ∃ N, L.length = N := ⟨_, rfl⟩
  have hVl : V.length = N := by rw [← hVe]; simp [hN]
  have hVg : ∀ i (h : i < L.length), V[i]'(by omega) = seenA a L[i] - a := fun i h => by subst hVe; simp
  have hVn : V ≠ [] := by rw [← hVe]; simpa using hne
  have hN0 : 0 < N := by rw [← hN]; exact List.length_pos_iff.2 hne
  rw [hVe]
  clear hVe hV
  have hil : (itI L).length = N := by simp [hN]
  refine ZF (fn := Tryz.f46) [.cell 6 23, .tmp 7] ⟨Tryz.func46, rfl, by kernel_rfl⟩ fun x hx hσ => ?_
  (repeat refine ZQ ?_); refine ZR fun K hK => ?_; simp (maxSteps := 1000000) [ty28, ty37, ty3, ty23]; refine hK _ ?_; clear hK K
  (repeat refine ZQ ?_); refine ZD [] [0, 1, 2, 3, 4, 5, 6, 7, 8, 9, 10, 11, 12, 13, 14] fun K hK => ?_; simp (maxSteps := 1000000) [ty28, ty3, ty4]
  refine ZE (isDay62 w day) ?_; simp (maxSteps := 1000000) [ty28, ty3, ty4, h1]
  refine ZE (isArea58 a) ?_; simp (maxSteps := 1000000) [ty28, ty3, ty4, h2]
  refine ZE (hop) ?_; simp (maxSteps := 1000000) [ty89]
  refine hK _ ?_; clear hK K
  (repeat refine ZQ ?_); refine ZR fun K hK => ?_; simp (maxSteps := 1000000) [ty37]; refine hK _ ?_; clear hK K
  (repeat refine ZQ ?_); refine ZC (fun hd => ?_) (fun hd => ?_)
  ·simp at hd
  ·clear hd
   refine awp_skip ?_
   (repeat refine ZQ ?_); refine ZR fun K hK => ?_; simp (maxSteps := 1000000) [ty29]; refine hK _ ?_; clear hK K
   (repeat refine ZQ ?_); refine ZR fun K hK => ?_; simp (maxSteps := 1000000) [ty89, ty3, ty87]
   refine ZP (on60 w (gl w) true true [] [] day) ?_; simp (maxSteps := 1000000) [ty92]
   refine hK _ ?_; clear hK K
   (repeat refine ZQ ?_); refine awp_block ?_
   have hfam := famOkS (L := 1000000) (K := [1000005, 1000006, 1000010]) (N := N) (T := fun i => Te a N i) (M := fun i e => apSl V i e) (by decide) (by simp) (by simp) (fun i => by simp)
    (fun i p hp => by
     simp only [Te, List.mem_cons, List.not_mem_nil, or_false] at hp
     rcases hp with rfl | rfl | rfl
     ·exact ⟨_, rfl, by simp [wil, C.wi], by simp⟩
     ·exact ⟨_, rfl, by simp [wil, C.wi], by simp⟩
     ·refine ⟨_, rfl, ?_, ?_⟩
      ·unfold apC
       split
       ·simp [wil, C.wi]
       ·have : i - 1 < N := by omega
        simp [wil, C.wi, this]
      ·simp only [List.all_cons, List.all_nil, apC_cell]; rfl)
    (fun i e he => apSl_ok V i e)
   refine awp_rangeG 1000000 _ _ (itI L) N .ret [(5, .ptr 1000005 1 0 0), (6, .ptr 1000006 2 0 0), (10, .ptr 1000010 1 0 0), (30, .fn (.func 98) [] [.ip (cCd w (gl w) true []) 0, .ip [encI day] 0, .ip [.md true []] 0])] [(5, .ptr 1000005 1 0 0), (10, .ptr 1000010 1 0 0)] (first := []) (caps := [.ip (cCd w (gl w) true []) 0, .ip [encI day] 0, .ip [.md true []] 0]) ?_ hσ hfam (by simp) (by rw [hx]; decide) ⟨rfl, by simp [purel, C.isPure]⟩ hit (by omega)
    (by simp [C.wi, wil]) (by simp [C.wi, wil]) ?_ ?_ ?_ ?_
   ·refine Wk.trans (wk_shape (E := [(5, .ptr 1000005 1 0 0), (6, .ptr 1000006 2 0 0), (10, .ptr 1000010 1 0 0), (30, .fn (.func 98) [] [.ip (cCd w (gl w) true []) 0, .ip [encI day] 0, .ip [.md true []] 0])]) (T := [(1000005, 5, .live (o1 (encI a))), (1000006, 6, .live ⟨false, false, 2, [[encI 0, encI 0]]⟩), (1000010, 10, .live (o1 (.sl true true [])))]) (shp0 hσ (by simp) (by simp) ?_) ?_) ?_
    ·simp [SlotOk]
     exact ⟨.same (by simp [purel, C.isPure]), .same (by simp [purel, C.isPure]), .same (by simp [purel, C.isPure])⟩
    ·simp [mtc, mtl, mT, C.isPure, purel]
    ·have e1 : (fun e => apSl V 0 e) = fun _ => Slot.gh := by
      funext e; unfold apSl; rw [if_neg (by omega), if_neg (by omega)]
     simp only [Te, e1, apC_zero]
     exact wk_famGh (by simp) N
   ·intro args ha
    obtain ⟨t, ht, rfl⟩ := List.mem_map.1 ha
    simp [purel, C.isPure]
   ·intro i args hit hi y y2 hy1 hy2 hyS hy2S
    obtain ⟨g, ht, rfl⟩ := itI_get hit
    have hi' : i < L.length := (List.getElem?_eq_some_iff.1 ht).1
    have hti : L[i] = g := (List.getElem?_eq_some_iff.1 ht).2
    have hgb := hmem g (List.mem_of_getElem? ht)
    have hsb := seenA_bd ha hgb
    have hw1 : IntKind.i64.wrap (seenA a g - a) = seenA a g - a := wrap_id (by omega) (by omega)
    have hvi := hVg i hi'
    rw [hti] at hvi
    have hr0 := fun i => famS_rfam (L := 1000000) (by decide) (Te a N i) N (fun e => apSl V i e) i (fun i => famS (Te a N i) N fun e => apSl V i e) rfl
    rw [hr0 i, hr0 (i + 1)]
    have hx0 := hx
    have hx := hy1.trans hx0
    (repeat refine ZQ ?_); refine ZR fun K hK => ?_; simp (maxSteps := 1000000) [ty3, putPs]; refine hK _ ?_; clear hK K; (first | show AWP _ _ _ _ _ | show ∃ _, _ | skip)
    refine ⟨by simp, ?_⟩
    have hx := hy2.trans hx0
    (repeat refine ZQ ?_); refine awp_block ?_
    have hsN := apC_succ (N := N) (i := i) (by omega)
    have hrow := take_ints V (show i < V.length by omega)
    rw [hvi] at hrow
    by_cases h0 : i = 0
    ·subst h0
     rw [apC_zero]
     have e0 : (V.take 0).map cI = [] := rfl
     rw [e0] at hrow
     refine AWP.weak ?_ (wk_nilCell 1000010 0 0 1000 1 (o := o1 (.sl true true [])) (row := [.sl true true []]) (fu := true) (by simp) rfl rfl rfl (by simp [stoT]) (by decide))
     (repeat refine ZQ ?_); refine ZD [] [0, 1, 2, 3, 4, 5, 6, 7, 8] fun K hK => ?_; simp (maxSteps := 1000000) [ty29, ty3]
     refine ZE (seen61 a g ha hgb) ?_; simp (maxSteps := 1000000) [ty29, ty3, hw1]
     refine hK _ ?_; clear hK K; (first | show AWP _ _ _ _ _ | show ∃ _, _ | skip)
     refine ⟨by rw [if_neg (by omega)], ?_⟩
     have hsl1 : apSl V 1 0 = .live ⟨false, false, 1, (V.take 1).map cI⟩ := if_pos rfl
     have hsN1 : apC N 1 = .own (fk 0) 1 0 1 := apC_succ (by omega)
     refine wk_famR (E := []) (T := (1000000, 1000000, .gh) :: Te a N 1) (fun e => if e = 0 then 39 else fk e) hy2S (hr0 0) (by simp [mT]) (by simp) ?_ (by simp) (by simp) (by simp) ?_ ?_ ?_ (by simp)
     ·intro e he hne
      exact absurd (by unfold apSl; rw [if_neg (by omega), if_neg (by omega)]) hne
     ·intro e he
      by_cases hej : e = 0
      ·subst hej
       refine .inr ⟨by simp, by simp, fun e' _ h => ?_⟩
       simp only [if_true] at h
       split at h
       ·assumption
       ·simp at h
      ·simp [hej]
     ·intro e he
      by_cases hej : e = 0
      ·subst hej
       rw [hsl1, hrow]
       simp
       exact ⟨rfl, rfl, rfl, .same (by simp [purel, C.isPure])⟩
      ·simp [hej, he]
       exact apSl_next V hej
     ·simp [SlotOk, hsN1]
      exact ⟨.same (by simp [purel, C.isPure]), .same (by simp [purel, C.isPure]), .cons (by simp [mtl, mtc, mT, mF]; omega) (by simp) .nil⟩
    ·obtain ⟨n, rfl⟩ : ∃ n, i = n + 1 := ⟨i - 1, by omega⟩
     have hsn := apC_succ (N := N) (i := n) (by omega)
     rw [hsn]
     have hnN : n < N := by omega
     have hsl : apSl V (n + 1) n = .live ⟨false, false, 1, (V.take (n + 1)).map cI⟩ := if_pos rfl
     have hAl : ((V.take (n + 1)).map cI).length = n + 1 := by simp; omega
     have hAp := ints_pure (V.take (n + 1))
     generalize hA : (V.take (n + 1)).map cI = A at *
     have hA2 : (V.take (n + 1 + 1)).map cI = A ++ [[encI (seenA a g - a)]] := hrow
     (repeat refine ZQ ?_); refine ZD [] [0, 1, 2, 3, 4, 5, 6, 7, 8] fun K hK => ?_; simp (maxSteps := 1000000) [ty29, ty3, hnN, hsl, hAl]
     refine ZE (seen61 a g ha hgb) ?_; simp (maxSteps := 1000000) [ty29, ty3, hw1, hnN, hsl, hAl]
     refine ⟨by omega, ?_⟩
     refine hK _ ?_; clear hK K; (first | show AWP _ _ _ _ _ | show ∃ _, _ | skip)
     refine ⟨by rw [if_neg (by omega)], ?_⟩
     have hsl1 : apSl V (n + 1 + 1) (n + 1) = .live ⟨false, false, 1, A ++ [[encI (seenA a g - a)]]⟩ := by rw [← hA2]; exact if_pos rfl
     have hsn2 := apC_succ (N := N) (i := n + 1) (by omega)
     refine wk_famR (E := []) (T := (1000000, 1000000, .gh) :: Te a N (n + 1 + 1)) (fun e => if e = n + 1 then 39 else fk e) hy2S (hr0 (n + 1)) (by simp [mT]) (by simp) ?_ (by simp) (by simp) (by simp) ?_ ?_ ?_ (by simp)
     ·intro e he hne
      by_cases hej : e = n + 1
      ·subst hej
       exact absurd (by unfold apSl; rw [if_neg (by omega), if_neg (by omega)]) hne
      ·simp [hej]
     ·intro e he
      by_cases hej : e = n + 1
      ·subst hej
       refine .inr ⟨by simp, by simp, fun e' _ h => ?_⟩
       simp only [if_true] at h
       split at h
       ·assumption
       ·simp at h
      ·simp [hej]
     ·intro e he
      by_cases hej : e = n + 1
      ·subst hej
       rw [hsl1]
       simp
       exact ⟨rfl, rfl, rfl, .same (by simp [purel, C.isPure]; exact fun x h => List.all_eq_true.1 hAp x h)⟩
      ·by_cases hen : e = n
       ·subst hen
        have hd : apSl V (e + 1 + 1) e = .dead := by unfold apSl; rw [if_neg (by omega), if_pos (by omega)]
        rw [hd]
        simp [hej]
        trivial
       ·simp [hej, hen, he]
        exact apSl_next V hej
     ·simp [SlotOk, hsn2]
      exact ⟨.same (by simp [purel, C.isPure]), .same (by simp [purel, C.isPure]), .cons (by simp [mtl, mtc, mT, mF]; omega) (by simp) .nil⟩
   ·intro he s' hs'
    refine AWP.weak ?_ hs'
    rw [hil]
    obtain ⟨n, hn1⟩ : ∃ n, N = n + 1 := ⟨N - 1, by omega⟩
    have hsn := apC_succ (N := N) (i := n) (by omega)
    have hsl : apSl V (n + 1) n = .live ⟨false, false, 1, V.map cI⟩ := by
     unfold apSl; rw [if_pos rfl, List.take_of_length_le (by omega)]
    subst hn1
    simp only [Te, hsn]
    refine AWP.weak ?_ (wk_frzCell (fk n) 1000010 0 0 (o := ⟨false, false, 1, V.map cI⟩) (oq := o1 (.own (fk n) 1 0 (n + 1))) (row := [.own (fk n) 1 0 (n + 1)]) (c := .own (fk n) 1 0 (n + 1)) (c' := .sl false false (V.map cI)) (by simp [hsl]) (ints_pure V) (by simp) (by simp) rfl rfl rfl (fz_own rfl (by simp [hVl]) (by simp)) rfl)
    have hmn := min91 false false V hVn (by omega)
    have hmx := max92 false false V hVn (by omega)
    (repeat refine ZQ ?_); refine ZD [] [0, 1, 2, 3, 4, 5, 6] fun K hK => ?_; simp (maxSteps := 1000000) [ty29, ty23]
    refine ZE (hmn) ?_; simp (maxSteps := 1000000) [ty29, ty23]
    refine ZE (hmx) ?_; simp (maxSteps := 1000000) [ty29, ty23]
    refine hK _ ?_; clear hK K
    (repeat refine ZQ ?_); refine awp_ret ?_; refine And.intro (Or.inr rfl) ?_
    simp [retC, resC, viewC, mapO, ty23]
   ·intro hlt
    rw [hil] at hlt
    omega
 ·have hop := open_no hn hz
  have hV : errW w day a = (0, 0) := if_neg hz
  rw [hV]
  cases h1 : dayB w day
  ·rw [h1] at hop hz
   simp only [Bool.false_and] at hop hz ⊢
   refine ZF (fn := Tryz.f46) [.cell 6 23, .tmp 7] ⟨Tryz.func46, rfl, by kernel_rfl⟩ fun x hx hσ => ?_
   (repeat refine ZQ ?_); refine ZR fun K hK => ?_; simp (maxSteps := 1000000) [ty28, ty37, ty3, ty23]; refine hK _ ?_; clear hK K
   (repeat refine ZQ ?_); refine ZD [] [0, 1, 2, 3, 4, 5, 6, 7, 8, 9, 10, 11, 12, 13, 14] fun K hK => ?_; simp (maxSteps := 1000000) [ty28, ty3, ty4]
   refine ZE (isDay62 w day) ?_; simp (maxSteps := 1000000) [ty28, ty3, ty4, h1]
   refine ZE (hop) ?_; simp (maxSteps := 1000000) [ty89]
   refine hK _ ?_; clear hK K
   (repeat refine ZQ ?_); refine ZR fun K hK => ?_; simp (maxSteps := 1000000) [ty37]; refine hK _ ?_; clear hK K
   (repeat refine ZQ ?_); refine ZC (hc := by simp [hz]; rfl) (fun hd => ?_) (fun hd => ?_)
   ·clear hd
    (repeat refine ZQ ?_); refine ZR fun K hK => ?_; simp (maxSteps := 1000000) [ty37, ty23]; refine hK _ ?_; clear hK K
    (repeat refine ZQ ?_); refine awp_ret ?_; refine And.intro (Or.inr rfl) ?_
    simp [retC, resC, viewC, mapO, hz, ty23]
   ·simp [hz] at hd
  ·rw [h1] at hop hz
   simp only [Bool.true_and] at hop hz ⊢
   refine ZF (fn := Tryz.f46) [.cell 6 23, .tmp 7] ⟨Tryz.func46, rfl, by kernel_rfl⟩ fun x hx hσ => ?_
   (repeat refine ZQ ?_); refine ZR fun K hK => ?_; simp (maxSteps := 1000000) [ty28, ty37, ty3, ty23]; refine hK _ ?_; clear hK K
   (repeat refine ZQ ?_); refine ZD [] [0, 1, 2, 3, 4, 5, 6, 7, 8, 9, 10, 11, 12, 13, 14] fun K hK => ?_; simp (maxSteps := 1000000) [ty28, ty3, ty4]
   refine ZE (isDay62 w day) ?_; simp (maxSteps := 1000000) [ty28, ty3, ty4, h1]
   refine ZE (isArea58 a) ?_; simp (maxSteps := 1000000) [ty28, ty3, ty4]
   refine ZE (hop) ?_; simp (maxSteps := 1000000) [ty89]
   refine hK _ ?_; clear hK K
   (repeat refine ZQ ?_); refine ZR fun K hK => ?_; simp (maxSteps := 1000000) [ty37]; refine hK _ ?_; clear hK K
   (repeat refine ZQ ?_); refine ZC (hc := by simp [hz]; rfl) (fun hd => ?_) (fun hd => ?_)
   ·clear hd
    (repeat refine ZQ ?_); refine ZR fun K hK => ?_; simp (maxSteps := 1000000) [ty37, ty23]; refine hK _ ?_; clear hK K
    (repeat refine ZQ ?_); refine awp_ret ?_; refine And.intro (Or.inr rfl) ?_
    simp [retC, resC, viewC, mapO, hz, ty23]
   ·simp [hz] at hd

set_option maxHeartbeats 8000000

-- Real

/-- What Real answers. -/
def realW (w : Ws) (day s : Int) : List Int := if openW w (dayB w day && countB s) = 0 then fixTo (fun a => (onC (co w (gl w)) day []).any fun g => seenA a g == s) 9001 else []


theorem w_real48 (w : Ws) (day s : Int) (hn : WsLen w) : Pure Tryz.prog 48 [encWs w, encI day, encI s] (.tup [.sl (realW w day s).isEmpty (openW w (dayB w day && countB s) != 0) ((realW w day s).map cI), encI (openW w (dayB w day && countB s))]) := by
 by_cases hz : openW w (dayB w day && countB s) = 0
 ·obtain ⟨hok, his, hcan⟩ := openW_ok hz
  have hop := open_yes hn hz
  have hnum := hok.num
  have hT : realW w day s = fixTo (fun a => (onC (co w (gl w)) day []).any fun g => seenA a g == s) 9001 := if_pos hz
  have hco := collOn w (gl w) true true [] [] day hnum (by simp)
  simp only [rowsK_nil] at hco
  have hmem : ∀ z ∈ onC (co w (gl w)) day [], -50 ≤ z ∧ z ≤ 50 := fun z hz' => by
   have h1 := onC_bd hz'
   have h2 := hnum.gain
   simp only at h1
   omega
  have hln := onC_len (co w (gl w)) day [] hnum.gain
  rw [hT, hz]
  generalize onC (co w (gl w)) day [] = G at *
  obtain ⟨A, hA⟩ : ∃ A : Nat → List Int, ∀ i, A i = fixTo (fun a => G.any fun g => seenA a g == s) i := ⟨_, fun _ => rfl⟩
  have hA0 : A 0 = [] := hA 0
  have hAl : ∀ i, (A i).length ≤ i := fun i => by rw [hA]; exact fixTo_len _ _
  have hAs : ∀ i : Nat, A (i + 1) = if (G.any fun g => seenA i g == s) then A i ++ [(i : Int)] else A i := fun i => by rw [hA, hA]; rfl
  rw [← hA]
  clear hA hT
  simp only [Bool.and_eq_true] at his
  rw [his.1, his.2] at hop
  simp only [Bool.and_self] at hop
  refine ZF (fn := Tryz.f48) [.tmp 6, .tmp 7] ⟨Tryz.func48, rfl, by kernel_rfl⟩ fun x hx hσ => ?_
  (repeat refine ZQ ?_); refine ZR fun K hK => ?_; simp (maxSteps := 1000000) [ty28, ty37, ty29]; refine hK _ ?_; clear hK K
  (repeat refine ZQ ?_)
  refine awp_scope ?_
  (repeat refine ZQ ?_); refine ZD [] [0, 1, 2, 3, 4, 5, 6, 7, 8, 9, 10, 11, 12, 13, 14] fun K hK => ?_; simp (maxSteps := 1000000) [ty28, ty3, ty4]
  refine ZE (isDay62 w day) ?_; simp (maxSteps := 1000000) [ty28, ty3, ty4, his.1]
  refine ZE (isCount59 s) ?_; simp (maxSteps := 1000000) [ty28, ty3, ty4, his.2]
  refine ZE (hop) ?_; simp (maxSteps := 1000000) [ty89]
  refine hK _ ?_; clear hK K
  (repeat refine ZQ ?_); refine ZR fun K hK => ?_; simp (maxSteps := 1000000) [ty37]; refine hK _ ?_; clear hK K
  (repeat refine ZQ ?_); refine ZC (fun hd => ?_) (fun hd => ?_)
  ·simp at hd
  ·clear hd
   refine awp_skip ?_
   (repeat refine ZQ ?_); refine ZR fun K hK => ?_; simp (maxSteps := 1000000) [ty89, ty3, ty87]
   refine ZP (on60 w (gl w) true true [] [] day) ?_; simp (maxSteps := 1000000) [ty92]
   refine ZP (hco) ?_; simp (maxSteps := 1000000) [ty29]
   refine hK _ ?_; clear hK K
   (repeat refine ZQ ?_); refine ZR fun K hK => ?_; simp (maxSteps := 1000000) [ty29]; refine hK _ ?_; clear hK K
   refine awp_seq ?_
   refine awp_label ?_
   (repeat refine ZQ ?_); refine ZR fun K hK => ?_; simp (maxSteps := 1000000) [ty3]; refine hK _ ?_; clear hK K
   (repeat refine ZQ ?_); refine awp_block ?_
   refine AWP.weak ?_ (wk_nil 11 11 1 (fu := true) (by simp) (by simp))
   refine awp_loop (fun i : Nat => ⟨ofL [(2, encI s), (10, slI G), (11, .own 11 1 0 (A i).length), (34, encI i)], stoT [(11, 11, .live ⟨(A i).isEmpty, false, 1, (A i).map cI⟩)]⟩)
    (fun i => i ≤ 9001) (fun i => 9001 - i) 0 (Nat.zero_le _) ?_ ?_
   ·rw [hA0]
    exact ZW
   ·intro i hi
    have hl := hAl i
    have hst := hAs i
    have hwi : IntKind.i64.wrap ((i : Int) + 1) = ((i + 1 : Nat) : Int) := by rw [wrap_id (by omega) (by omega)]; rfl
    generalize hacc : A i = acc at *
    by_cases hq : (i : Int) < 9001
    ·(repeat refine ZQ ?_); refine ZR fun K hK => ?_; simp (maxSteps := 1000000) [ty3, hq]; refine hK _ ?_; clear hK K
     (repeat refine ZQ ?_); refine ZC (hc := by simp [hq]; rfl) (fun hd => ?_) (fun hd => ?_)
     ·clear hd
      refine awp_skip ?_
      (repeat refine ZQ ?_); refine awp_block ?_
      (repeat refine ZQ ?_); refine ZR fun K hK => ?_; simp (maxSteps := 1000000) [ty3]; refine hK _ ?_; clear hK K
      (repeat refine ZQ ?_); refine ZR fun K hK => ?_; simp (maxSteps := 1000000) [ty29, ty3]; refine hK _ ?_; clear hK K
      (repeat refine ZQ ?_); refine awp_block ?_
      refine awp_loop (fun k : Nat => ⟨ofL [(2, encI s), (10, slI G), (11, .own 11 1 0 acc.length), (12, encI i), (34, encI i), (37, slI G), (38, encI G.length), (39, encI k)], stoT [(11, 11, .live ⟨acc.isEmpty, false, 1, acc.map cI⟩)]⟩)
       (fun k => k ≤ G.length ∧ ∀ m, (h : m < G.length) → m < k → (seenA i G[m] == s) = false) (fun k => G.length - k) 0 (by simp) ?_ ?_
      ·exact ZW
      ·intro k ⟨hk, hkm⟩
       (repeat refine ZQ ?_); refine ZR fun K hK => ?_; simp (maxSteps := 1000000) [ty3]; refine hK _ ?_; clear hK K
       (repeat refine ZQ ?_); refine ZC (fun hc2 => ?_) (fun hc2 => ?_)
       ·simp at hc2
        have hwk : IntKind.i64.wrap ((k : Int) + 1) = ((k + 1 : Nat) : Int) := by rw [wrap_id (by omega) (by omega)]; rfl
        have hsn := seen61 i G[k] ⟨by omega, by omega⟩ (hmem _ (List.getElem_mem hc2))
        refine awp_skip ?_
        (repeat refine ZQ ?_); refine awp_block ?_
        (repeat refine ZQ ?_); refine ZR fun K hK => ?_; simp (maxSteps := 1000000) [ty29, ty3, hc2]; refine hK _ ?_; clear hK K; (first | show AWP _ _ _ _ _ | show ∃ _, _ | skip)
        cases hb : seenA i G[k] == s
        ·(repeat refine ZQ ?_); refine ZR fun K hK => ?_; simp (maxSteps := 1000000) [ty3]
         refine ZP (hsn) ?_; simp (maxSteps := 1000000) [ty3, hb]
         refine hK _ ?_; clear hK K
         (repeat refine ZQ ?_); refine ZC (hc := by simp [hb]; rfl) (fun hd => ?_) (fun hd => ?_)
         ·simp [hb] at hd
         ·clear hd
          refine awp_skip ?_
          (repeat refine ZQ ?_); refine ZR fun K hK => ?_; simp (maxSteps := 1000000) [ty3]; refine hK _ ?_; clear hK K; (first | show AWP _ _ _ _ _ | show ∃ _, _ | skip)
          refine ⟨k + 1, ⟨by omega, fun m h1 h2 => ?_⟩, by omega, ?_⟩
          ·by_cases hmk : m = k
           ·subst hmk; exact hb
           ·exact hkm m h1 (by omega)
          ·rw [hwk]
           exact ZW
        ·have hany : (G.any fun g => seenA i g == s) = true := List.any_eq_true.2 ⟨_, List.getElem_mem hc2, hb⟩
         rw [hany] at hst
         simp at hst
         (repeat refine ZQ ?_); refine ZR fun K hK => ?_; simp (maxSteps := 1000000) [ty3]
         refine ZP (hsn) ?_; simp (maxSteps := 1000000) [ty3, hb]
         refine hK _ ?_; clear hK K
         (repeat refine ZQ ?_); refine ZC (hc := by simp [hb]; rfl) (fun hd => ?_) (fun hd => ?_)
         ·clear hd
          (repeat refine ZQ ?_); refine ZR fun K hK => ?_; simp (maxSteps := 1000000) [ty29, ty3]
          refine ⟨by omega, ?_⟩
          refine hK _ ?_; clear hK K
          (repeat refine ZQ ?_); refine awp_exit ?_
          (repeat refine ZQ ?_); refine ZR fun K hK => ?_; simp (maxSteps := 1000000) [ty3]; refine hK _ ?_; clear hK K; (first | show AWP _ _ _ _ _ | show ∃ _, _ | skip)
          refine ⟨i + 1, by omega, by omega, ?_⟩
          rw [hwi]
          refine wk_shape (T := [(11, 51, .live ⟨(A (i + 1)).isEmpty, false, 1, (A (i + 1)).map cI⟩)]) (shp0 hσ (by simp) (by simp) ?_) ?_
          ·simp [SlotOk, hst]
           exact .same (by simp [purel, C.isPure])
          ·simp [mtc, mtl, mT, C.isPure, purel, hst]
         ·simp [hb] at hd
       ·simp at hc2
        (repeat refine ZQ ?_); refine awp_exit ?_; (first | show AWP _ _ _ _ _ | show ∃ _, _ | skip)
        have hany : (G.any fun g => seenA i g == s) = false := by
         rw [Bool.eq_false_iff]
         intro e
         obtain ⟨g, hg, h1⟩ := List.any_eq_true.1 e
         obtain ⟨m, hm, rfl⟩ := List.getElem_of_mem hg
         rw [hkm m hm (by omega)] at h1
         cases h1
        rw [hany] at hst
        simp at hst
        (repeat refine ZQ ?_); refine ZR fun K hK => ?_; simp (maxSteps := 1000000) [ty3]; refine hK _ ?_; clear hK K; (first | show AWP _ _ _ _ _ | show ∃ _, _ | skip)
        refine ⟨i + 1, by omega, by omega, ?_⟩
        rw [hst, hwi]
        exact ZW
     ·simp [hq] at hd
    ·(repeat refine ZQ ?_); refine ZR fun K hK => ?_; simp (maxSteps := 1000000) [ty3, hq]; refine hK _ ?_; clear hK K
     (repeat refine ZQ ?_); refine ZC (hc := by simp [hq]; rfl) (fun hd => ?_) (fun hd => ?_)
     ·simp [hq] at hd
     ·clear hd
      (repeat refine ZQ ?_); refine awp_exit ?_; (first | show AWP _ _ _ _ _ | show ∃ _, _ | skip)
      obtain rfl : i = 9001 := by omega
      rw [hacc]
      (repeat refine ZQ ?_); refine ZR fun K hK => ?_; simp (maxSteps := 1000000) [ty29, ty37]; refine hK _ ?_; clear hK K
      (repeat refine ZQ ?_); refine awp_ret ?_; refine And.intro (Or.inr rfl) ?_
      simp [retC, resC, viewC, mapO, purel, C.isPure]
 ·have hop := open_no hn hz
  have hT : realW w day s = [] := if_neg hz
  rw [hT]
  cases hd : dayB w day
  ·rw [hd] at hop hz
   simp only [Bool.false_and] at hop hz ⊢
   refine ZF (fn := Tryz.f48) [.tmp 6, .tmp 7] ⟨Tryz.func48, rfl, by kernel_rfl⟩ fun x hx hσ => ?_
   (repeat refine ZQ ?_); refine ZR fun K hK => ?_; simp (maxSteps := 1000000) [ty28, ty37, ty29]; refine hK _ ?_; clear hK K
   (repeat refine ZQ ?_)
   refine awp_scope ?_
   (repeat refine ZQ ?_); refine ZD [] [0, 1, 2, 3, 4, 5, 6, 7, 8, 9, 10, 11, 12, 13, 14] fun K hK => ?_; simp (maxSteps := 1000000) [ty28, ty3, ty4]
   refine ZE (isDay62 w day) ?_; simp (maxSteps := 1000000) [ty28, ty3, ty4, hd]
   refine ZE (hop) ?_; simp (maxSteps := 1000000) [ty89]
   refine hK _ ?_; clear hK K
   (repeat refine ZQ ?_); refine ZR fun K hK => ?_; simp (maxSteps := 1000000) [ty37]; refine hK _ ?_; clear hK K
   (repeat refine ZQ ?_); refine ZC (hc := by simp [hz]; rfl) (fun hd => ?_) (fun hd => ?_)
   ·clear hd
    (repeat refine ZQ ?_); refine ZR fun K hK => ?_; simp (maxSteps := 1000000) [ty37, ty29]; refine hK _ ?_; clear hK K
    (repeat refine ZQ ?_); refine awp_ret ?_; refine And.intro (Or.inr rfl) ?_
    simp [retC, resC, viewC, mapO, hz]
   ·simp [hz] at hd
  ·rw [hd] at hop hz
   simp only [Bool.true_and] at hop hz ⊢
   refine ZF (fn := Tryz.f48) [.tmp 6, .tmp 7] ⟨Tryz.func48, rfl, by kernel_rfl⟩ fun x hx hσ => ?_
   (repeat refine ZQ ?_); refine ZR fun K hK => ?_; simp (maxSteps := 1000000) [ty28, ty37, ty29]; refine hK _ ?_; clear hK K
   (repeat refine ZQ ?_)
   refine awp_scope ?_
   (repeat refine ZQ ?_); refine ZD [] [0, 1, 2, 3, 4, 5, 6, 7, 8, 9, 10, 11, 12, 13, 14] fun K hK => ?_; simp (maxSteps := 1000000) [ty28, ty3, ty4]
   refine ZE (isDay62 w day) ?_; simp (maxSteps := 1000000) [ty28, ty3, ty4, hd]
   refine ZE (isCount59 s) ?_; simp (maxSteps := 1000000) [ty28, ty3, ty4]
   refine ZE (hop) ?_; simp (maxSteps := 1000000) [ty89]
   refine hK _ ?_; clear hK K
   (repeat refine ZQ ?_); refine ZR fun K hK => ?_; simp (maxSteps := 1000000) [ty37]; refine hK _ ?_; clear hK K
   (repeat refine ZQ ?_); refine ZC (hc := by simp [hz]; rfl) (fun hd => ?_) (fun hd => ?_)
   ·clear hd
    (repeat refine ZQ ?_); refine ZR fun K hK => ?_; simp (maxSteps := 1000000) [ty37, ty29]; refine hK _ ?_; clear hK K
    (repeat refine ZQ ?_); refine awp_ret ?_; refine And.intro (Or.inr rfl) ?_
    simp [retC, resC, viewC, mapO, hz]
   ·simp [hz] at hd

set_option maxHeartbeats 16000000
set_option maxRecDepth 20000

-- THE THEOREM OF THE BLAME


theorem blame_any {L : List Int} (hne : L ≠ []) (a s : Int) : (1 ≤ blameL L a s ∧ blameL L a s ≤ 3) ∧ ((blameL L a s != 2) = L.any fun g => seenA a g == s) := by
 have hp : 0 < L.length := List.length_pos_iff.2 hne
 unfold blameL
 by_cases h1 : L.countP (fun g => seenA a g == s) = L.length
 ·rw [if_pos h1]
  refine ⟨by omega, ?_⟩
  have : 0 < L.countP (fun g => seenA a g == s) := by omega
  obtain ⟨g, hg, hs⟩ := List.countP_pos_iff.1 this
  have e : (L.any fun g => seenA a g == s) = true := List.any_eq_true.2 ⟨g, hg, hs⟩
  rw [e]; rfl
 ·rw [if_neg h1]
  by_cases h2 : L.countP (fun g => seenA a g == s) = 0
  ·rw [if_pos h2]
   refine ⟨by omega, ?_⟩
   have e : (L.any fun g => seenA a g == s) = false := by
    rw [List.countP_eq_zero] at h2
    rw [Bool.eq_false_iff]
    intro e
    obtain ⟨g, hg, hs⟩ := List.any_eq_true.1 e
    exact h2 g hg hs
   rw [e]; rfl
  ·rw [if_neg h2]
   refine ⟨by omega, ?_⟩
   obtain ⟨g, hg, hs⟩ := List.countP_pos_iff.1 (Nat.pos_of_ne_zero h2)
   have e : (L.any fun g => seenA a g == s) = true := List.any_eq_true.2 ⟨g, hg, hs⟩
   rw [e]; rfl

theorem real_mem (L : List Int) (s : Int) {a : Int} (ha : 0 ≤ a ∧ a ≤ 9000) : decide (a ∈ fixTo (fun x => L.any fun g => seenA x g == s) 9001) = L.any fun g => seenA a g == s := by
 obtain ⟨n, rfl⟩ : ∃ n : Nat, a = n := ⟨a.toNat, by omega⟩
 cases h : L.any fun g => seenA (n : Int) g == s
 ·rw [decide_eq_false_iff_not, fixTo_mem]
  rintro ⟨i, h1, h2, h3⟩
  obtain rfl : n = i := by omega
  rw [h] at h2; cases h2
 ·rw [decide_eq_true_eq, fixTo_mem]
  exact ⟨n, by omega, h, rfl⟩

theorem fold_mn : ∀ (L : List Int) (a : Int), (L.foldl (fun m x => if x < m then x else m) a ≤ a) ∧ ∀ z ∈ L, L.foldl (fun m x => if x < m then x else m) a ≤ z
 | [], a => ⟨Int.le_refl _, by simp⟩
 | b :: L, a => by
  simp only [List.foldl_cons]
  have h := fold_mn L (if b < a then b else a)
  refine ⟨?_, fun z hz => ?_⟩
  ·have h1 := h.1; split at h1 <;> omega
  ·rcases List.mem_cons.1 hz with rfl | hz
   ·have h1 := h.1; split at h1 <;> omega
   ·exact h.2 z hz
theorem fold_mx : ∀ (L : List Int) (a : Int), (a ≤ L.foldl (fun m x => if m < x then x else m) a) ∧ ∀ z ∈ L, z ≤ L.foldl (fun m x => if m < x then x else m) a
 | [], a => ⟨Int.le_refl _, by simp⟩
 | b :: L, a => by
  simp only [List.foldl_cons]
  have h := fold_mx L (if a < b then b else a)
  refine ⟨?_, fun z hz => ?_⟩
  ·have h1 := h.1; split at h1 <;> omega
  ·rcases List.mem_cons.1 hz with rfl | hz
   ·have h1 := h.1; split at h1 <;> omega
   ·exact h.2 z hz
theorem mnx_bd {L : List Int} {z : Int} (h : z ∈ L) : mnI L ≤ z ∧ z ≤ mxI L := ⟨(fold_mn L _).2 z h, (fold_mx L _).2 z h⟩

set_option maxHeartbeats 8000000

-- Strange and Real

theorem str70 (w : Ws) (G : List (Int × List Int)) (nl : Bool) (M : List (Int × Int)) (v : Vs) (g : Int) (hw : WsNum w G) : Pure Tryz.prog 70 [encI g, .ip (cCd w G nl M) 0, .ip (cVs v) 0] (.bool (canC (co w G) [(v.day, g)])) := by
 have h := can71 w G false nl [(v.day, g)] M hw
 have hob : rowsK [(v.day, g)] = [[encI v.day, encI g]] := rfl
 rw [hob] at h
 refine ZF (fn := Tryz.f70) [.tmp 4] ⟨Tryz.func70, rfl, by kernel_rfl⟩ fun x hx hσ => ?_
 (repeat refine ZQ ?_); refine ZR fun K hK => ?_; simp (maxSteps := 1000000); refine hK _ ?_; clear hK K
 (repeat refine ZQ ?_); refine ZR fun K hK => ?_; simp (maxSteps := 1000000) [ty89, ty87, ty53, ty3, keyQ, findC]
 refine callL h (by simp [viewL, mapO, viewC, C.isPure, purel]) (.inr rfl) ?_
 simp [ty4]
 refine hK _ ?_; clear hK K
 (repeat refine ZQ ?_); refine awp_ret ?_; refine And.intro (Or.inr rfl) ?_
 simp [retC, resC, viewC, mapO]

/-- Whether a visit is right in no truth. -/
def strW (w : Ws) (i : Nat) : Bool := match w.vs[i]? with
  | some v => !(numsT Tr.area (tiV w v) true).any fun g => canC (co w (gl w)) [(v.day, g)]
  | none => false
def strangeW (w : Ws) : List Int := if openW w true = 0 then fixTo (strW w) w.vs.length else []

theorem strW_at {w : Ws} {i : Nat} (h : i < w.vs.length) : strW w i = !(numsT Tr.area (tiV w w.vs[i]) true).any fun g => canC (co w (gl w)) [(w.vs[i].day, g)] := by
 unfold strW; rw [List.getElem?_eq_getElem h]

theorem gl_find {w : Ws} (h : WsOk w) {i : Nat} (hi : i < w.vs.length) : (gl w).find? (fun p => p.1 == w.vs[i].day) = some (glV w w.vs[i]) := by
 cases hf : (gl w).find? (fun p => p.1 == w.vs[i].day) with
 | none =>
  rw [List.find?_eq_none] at hf
  exact absurd (by simp [glV]) (hf (glV w w.vs[i]) (List.mem_map.2 ⟨_, List.getElem_mem hi, rfl⟩))
 | some p =>
  have hm := List.mem_of_find?_eq_some hf
  have he := List.find?_some hf
  obtain ⟨v, hv, rfl⟩ := List.mem_map.1 hm
  obtain ⟨n, hn, rfl⟩ := List.getElem_of_mem hv
  simp only [glV, beq_iff_eq] at he
  by_cases h1 : n < i
  ·have := h.lt h1 hi; omega
  ·by_cases h2 : i < n
   ·have := h.lt h2 hn; omega
   ·obtain rfl : n = i := by omega
    rfl

theorem gl_findC {w : Ws} (h : WsOk w) {i : Nat} (hi : i < w.vs.length) : ∃ j, findC .int (encI w.vs[i].day) (rowsG (gl w)) 0 = some (some (j, slI (numsT Tr.area (tiV w w.vs[i]) true))) := by
 rcases findF slG w.vs[i].day (gl w) 0 with ⟨j, p, h1, h2⟩ | ⟨h1, _⟩
 ·rw [gl_find h hi] at h1
  cases h1
  exact ⟨j, h2⟩
 ·rw [gl_find h hi] at h1; cases h1

theorem w_strange28 (w : Ws) (hn : WsLen w) : Pure Tryz.prog 28 [encWs w] (.tup [.sl (strangeW w).isEmpty (openW w true != 0) ((strangeW w).map cI), encI (openW w true)]) := by
 by_cases hz : openW w true = 0
 ·obtain ⟨hok, his, hcan⟩ := openW_ok hz
  have hop := open_yes hn hz
  have hnum := hok.num
  have hl6 := hok.len
  have hT : strangeW w = fixTo (strW w) w.vs.length := if_pos hz
  obtain ⟨A, hA⟩ : ∃ A : Nat → List Int, ∀ i, A i = fixTo (strW w) i := ⟨_, fun _ => rfl⟩
  have hA0 : A 0 = [] := hA 0
  have hAl : ∀ i, (A i).length ≤ i := fun i => by rw [hA]; exact fixTo_len _ _
  have hAs : ∀ i : Nat, A (i + 1) = if strW w i then A i ++ [(i : Int)] else A i := fun i => by rw [hA, hA]; rfl
  rw [hT, hz, ← hA]
  clear hA hT
  refine ZF (fn := Tryz.f28) [.tmp 2, .tmp 3] ⟨Tryz.func28, rfl, by kernel_rfl⟩ fun x hx hσ => ?_
  (repeat refine ZQ ?_); refine ZR fun K hK => ?_; simp (maxSteps := 1000000) [ty28, ty37, ty29]; refine hK _ ?_; clear hK K
  (repeat refine ZQ ?_); refine ZR fun K hK => ?_; simp (maxSteps := 1000000) [ty28, ty3]
  refine ZP (hop) ?_; simp (maxSteps := 1000000) [ty89]
  refine hK _ ?_; clear hK K
  (repeat refine ZQ ?_); refine ZR fun K hK => ?_; simp (maxSteps := 1000000) [ty37]; refine hK _ ?_; clear hK K
  (repeat refine ZQ ?_); refine ZC (fun hd => ?_) (fun hd => ?_)
  ·simp at hd
  ·clear hd
   refine awp_skip ?_
   (repeat refine ZQ ?_); refine ZR fun K hK => ?_; simp (maxSteps := 1000000) [ty29]; refine hK _ ?_; clear hK K
   (repeat refine ZQ ?_); refine ZR fun K hK => ?_; simp (maxSteps := 1000000) [ty28, ty26]; refine hK _ ?_; clear hK K
   (repeat refine ZQ ?_); refine awp_block ?_
   refine AWP.weak ?_ (wk_nil 6 6 1 (fu := true) (by simp) (by simp))
   refine awp_loop (fun i : Nat => ⟨ofL [(1, .ptr 1 13 0 0), (4, .ptr 4 15 0 0), (6, .own 6 1 0 (A i).length), (19, sVs w.nl w.fu w.vs), (20, encI w.vs.length), (21, encI i)], stoT [(1, 1, .live (obWs w)), (4, 4, .live (obCd w (gl w) true [])), (6, 6, .live ⟨(A i).isEmpty, false, 1, (A i).map cI⟩)]⟩)
    (fun i => i ≤ w.vs.length) (fun i => w.vs.length - i) 0 (Nat.zero_le _) ?_ ?_
   ·rw [hA0]
    exact ZW
   ·intro i hi
    have hl := hAl i
    have hst := hAs i
    have hwi : IntKind.i64.wrap ((i : Int) + 1) = ((i + 1 : Nat) : Int) := by rw [wrap_id (by omega) (by omega)]; rfl
    generalize hacc : A i = acc at *
    (repeat refine ZQ ?_); refine ZR fun K hK => ?_; simp (maxSteps := 1000000) [ty3]; refine hK _ ?_; clear hK K
    (repeat refine ZQ ?_); refine ZC (fun hc1 => ?_) (fun hc1 => ?_)
    ·simp at hc1
     obtain ⟨j, hfd⟩ := gl_findC hok hc1
     simp only [encI] at hfd
     have hsw := strW_at hc1
     have hln := numsT_len Tr.area (tiV w w.vs[i]) true
     generalize numsT Tr.area (tiV w w.vs[i]) true = U at *
     simp only [slI] at hfd
     have hcl := contains58 U.isEmpty U.isEmpty U 70 [.ip (cCd w (gl w) true []) 0, .ip (cVs w.vs[i]) 0] (fun g => canC (co w (gl w)) [(w.vs[i].day, g)]) (by simp [purel, C.isPure]) (by omega) (fun g _ => str70 w (gl w) true [] w.vs[i] g hnum)
     generalize (U.any fun g => canC (co w (gl w)) [(w.vs[i].day, g)]) = b at *
     rw [hsw] at hst
     refine awp_skip ?_
     (repeat refine ZQ ?_); refine awp_block ?_
     (repeat refine ZQ ?_); refine ZR fun K hK => ?_; simp (maxSteps := 1000000) [ty26, ty53, ty3, hc1]; refine hK _ ?_; clear hK K
     (repeat refine ZQ ?_); refine ZR fun K hK => ?_; simp (maxSteps := 1000000) [ty81]; refine hK _ ?_; clear hK K; (first | show AWP _ _ _ _ _ | show ∃ _, _ | skip)
     cases b
     ·simp at hst
      (repeat refine ZQ ?_); refine ZR fun K hK => ?_; simp (maxSteps := 1000000) [ty89, ty85, ty29, ty53, ty3, keyQ, hfd]
      refine callL hcl (by simp [viewL, mapO, viewC, C.isPure, purel]) (.inr rfl) ?_
      simp [ty4]
      refine hK _ ?_; clear hK K
      (repeat refine ZQ ?_); refine ZC (fun hd => ?_) (fun hd => ?_)
      ·clear hd
       (repeat refine ZQ ?_); refine ZR fun K hK => ?_; simp (maxSteps := 1000000) [ty29, ty3]
       refine ⟨by omega, ?_⟩
       refine hK _ ?_; clear hK K
       (repeat refine ZQ ?_); refine ZR fun K hK => ?_; simp (maxSteps := 1000000) [ty3]; refine hK _ ?_; clear hK K; (first | show AWP _ _ _ _ _ | show ∃ _, _ | skip)
       refine ⟨i + 1, by omega, by omega, ?_⟩
       rw [hwi]
       refine wk_shape (T := [(1, 1, .live (obWs w)), (4, 4, .live (obCd w (gl w) true [])), (6, 38, .live ⟨(A (i + 1)).isEmpty, false, 1, (A (i + 1)).map cI⟩)]) (shp0 hσ (by simp) (by simp) ?_) ?_
       ·simp [SlotOk, hst]
        exact ⟨.same (by simp [purel, C.isPure]), .same (by simp [purel, C.isPure]), .same (by simp [purel, C.isPure])⟩
       ·simp [mtc, mtl, mT, C.isPure, purel, hst]
      ·simp at hd
     ·simp at hst
      (repeat refine ZQ ?_); refine ZR fun K hK => ?_; simp (maxSteps := 1000000) [ty89, ty85, ty29, ty53, ty3, keyQ, hfd]
      refine callL hcl (by simp [viewL, mapO, viewC, C.isPure, purel]) (.inr rfl) ?_
      simp [ty4]
      refine hK _ ?_; clear hK K
      (repeat refine ZQ ?_); refine ZC (fun hd => ?_) (fun hd => ?_)
      ·simp at hd
      ·clear hd
       refine awp_skip ?_
       (repeat refine ZQ ?_); refine ZR fun K hK => ?_; simp (maxSteps := 1000000) [ty3]; refine hK _ ?_; clear hK K; (first | show AWP _ _ _ _ _ | show ∃ _, _ | skip)
       refine ⟨i + 1, by omega, by omega, ?_⟩
       rw [hst, hwi]
       exact ZW
    ·simp at hc1
     (repeat refine ZQ ?_); refine awp_exit ?_; (first | show AWP _ _ _ _ _ | show ∃ _, _ | skip)
     have hiN : i = w.vs.length := by omega
     subst hiN
     rw [hacc]
     (repeat refine ZQ ?_); refine ZR fun K hK => ?_; simp (maxSteps := 1000000) [ty29, ty37]; refine hK _ ?_; clear hK K
     (repeat refine ZQ ?_); refine awp_ret ?_; refine And.intro (Or.inr rfl) ?_
     simp [retC, resC, viewC, mapO, purel, C.isPure]
 ·have hop := open_no hn hz
  have hT : strangeW w = [] := if_neg hz
  refine ZF (fn := Tryz.f28) [.tmp 2, .tmp 3] ⟨Tryz.func28, rfl, by kernel_rfl⟩ fun x hx hσ => ?_
  (repeat refine ZQ ?_); refine ZR fun K hK => ?_; simp (maxSteps := 1000000) [ty28, ty37, ty29]; refine hK _ ?_; clear hK K
  (repeat refine ZQ ?_); refine ZR fun K hK => ?_; simp (maxSteps := 1000000) [ty28, ty3]
  refine ZP (hop) ?_; simp (maxSteps := 1000000) [ty89]
  refine hK _ ?_; clear hK K
  (repeat refine ZQ ?_); refine ZR fun K hK => ?_; simp (maxSteps := 1000000) [ty37]; refine hK _ ?_; clear hK K
  (repeat refine ZQ ?_); refine ZC (hc := by simp [hz]; rfl) (fun hd => ?_) (fun hd => ?_)
  ·clear hd
   (repeat refine ZQ ?_); refine ZR fun K hK => ?_; simp (maxSteps := 1000000) [ty37, ty29]; refine hK _ ?_; clear hK K
   (repeat refine ZQ ?_); refine awp_ret ?_; refine And.intro (Or.inr rfl) ?_
   simp [retC, resC, viewC, mapO, hT, hz]
  ·simp [hz] at hd

set_option maxHeartbeats 16000000
set_option maxRecDepth 20000

-- THE THEOREM OF EACH TRUTH


theorem driftS_in {s : Int × Int} {n : Int} (hn : 0 ≤ n) : (0 ≤ (driftS s n).1) ∧ (driftS s n).1 ≤ n ∧ n ≤ (driftS s n).2 ∧ s.2 ≤ (driftS s n).2 ∧ (0 ≤ s.1 → (driftS s n).1 ≤ s.1) := by
 unfold driftS
 refine ⟨?_, ?_, ?_, ?_, ?_⟩
 ·simp only; split <;> omega
 ·simp only; split <;> omega
 ·simp only; split <;> omega
 ·simp only; split <;> omega
 ·intro h; simp only; split <;> omega

theorem drift_in1 : ∀ (L : List Int) (f : Int → Int) (s : Int × Int), (∀ z ∈ L, 0 ≤ f z) →
  (0 ≤ s.1 → 0 ≤ (L.foldl (fun s z => driftS s (f z)) s).1 ∧ (L.foldl (fun s z => driftS s (f z)) s).1 ≤ s.1) ∧ s.2 ≤ (L.foldl (fun s z => driftS s (f z)) s).2 ∧ ∀ z ∈ L, 0 ≤ (L.foldl (fun s z => driftS s (f z)) s).1 ∧ (L.foldl (fun s z => driftS s (f z)) s).1 ≤ f z ∧ f z ≤ (L.foldl (fun s z => driftS s (f z)) s).2
 | [], f, s, _ => ⟨fun h => ⟨h, Int.le_refl _⟩, Int.le_refl _, by simp⟩
 | a :: L, f, s, h => by
  have ha := driftS_in (s := s) (h a (by simp))
  have ih := drift_in1 L f (driftS s (f a)) fun z hz => h z (by simp [hz])
  simp only [List.foldl_cons]
  have h1 := ih.1 ha.1
  refine ⟨fun hs => ⟨h1.1, Int.le_trans h1.2 (ha.2.2.2.2 hs)⟩, Int.le_trans ha.2.2.2.1 ih.2.1, fun z hz => ?_⟩
  rcases List.mem_cons.1 hz with rfl | hz
  ·exact ⟨h1.1, Int.le_trans h1.2 ha.2.1, Int.le_trans ha.2.2.1 ih.2.1⟩
  ·exact ih.2.2 z hz

theorem drift_in2 (c : Co) (a b : Int) : ∀ (L : List Int) (s : Int × Int), (∀ g ∈ L, onC c b [(a, g)] ≠ [] ∧ ∀ z ∈ onC c b [(a, g)], 0 ≤ g - z) →
  (0 ≤ s.1 → 0 ≤ (L.foldl (fun s g => driftIn c a b g s) s).1 ∧ (L.foldl (fun s g => driftIn c a b g s) s).1 ≤ s.1) ∧ s.2 ≤ (L.foldl (fun s g => driftIn c a b g s) s).2 ∧ ∀ g ∈ L, ∀ z ∈ onC c b [(a, g)], (L.foldl (fun s g => driftIn c a b g s) s).1 ≤ g - z ∧ g - z ≤ (L.foldl (fun s g => driftIn c a b g s) s).2
 | [], s, _ => ⟨fun h => ⟨h, Int.le_refl _⟩, Int.le_refl _, by simp⟩
 | g :: L, s, h => by
  have hg := h g (by simp)
  have h1 : (0 ≤ s.1 → 0 ≤ (driftIn c a b g s).1 ∧ (driftIn c a b g s).1 ≤ s.1) ∧ s.2 ≤ (driftIn c a b g s).2 ∧ ∀ z ∈ onC c b [(a, g)], 0 ≤ (driftIn c a b g s).1 ∧ (driftIn c a b g s).1 ≤ g - z ∧ g - z ≤ (driftIn c a b g s).2 := drift_in1 (onC c b [(a, g)]) (fun z => g - z) s hg.2
  have ih := drift_in2 c a b L (driftIn c a b g s) fun z hz => h z (by simp [hz])
  obtain ⟨z0, hz0⟩ := List.exists_mem_of_ne_nil _ hg.1
  have h2 := ih.1 (h1.2.2 z0 hz0).1
  simp only [List.foldl_cons]
  refine ⟨fun hs => ⟨h2.1, Int.le_trans h2.2 (h1.1 hs).2⟩, Int.le_trans h1.2.1 ih.2.1, fun y hy z hz => ?_⟩
  rcases List.mem_cons.1 hy with rfl | hy
  ·have := h1.2.2 z hz
   exact ⟨Int.le_trans h2.2 this.2.1, Int.le_trans this.2.2 ih.2.1⟩
  ·exact ih.2.2 y hy z hz

theorem drift_has {c : Co} {p : Nat → Int} (hp : Tru c p) {a b : Nat} (hab : a ≤ b) (hb : b ≤ c.last.toNat) : (driftL c a b).1 ≤ p a - p b ∧ p a - p b ≤ (driftL c a b).2 := by
 have ha : a ≤ c.last.toNat := by omega
 have hm : p a ∈ onC c a [] := (on_nil c a ha _).2 ⟨p, hp, rfl⟩
 have hz : p b ∈ onC c b [((a : Int), p a)] := (on_one c a b _ ha hb _).2 ⟨p, hp, rfl, rfl⟩
 refine (drift_in2 c a b (onC c a []) (-1, 0) fun g hg => ⟨on_ne_one hg ha hb, fun z hz => ?_⟩).2.2 _ hm _ hz
 obtain ⟨q, hq, e1, e2⟩ := (on_one c a b g ha hb z).1 hz
 have := tru_drop hq hab hb
 rw [e1, e2] at this
 exact this.1

theorem strange_few {w : Ws} (hok : WsOk w) {p : Nat → Int} (hp : Tru (co w (gl w)) p) : (fixTo (strW w) w.vs.length).length ≤ wrL (gl w) p := by
 have hl := hok.last
 have key : ∀ i, i ≤ w.vs.length → (fixTo (strW w) i).length ≤ (w.vs.take i).countP fun v => !decide (p v.day.toNat ∈ numsT Tr.area (tiV w v) true) := by
  intro i
  induction i with
  | zero => intro _; simp
  | succ i ih =>
   intro hi
   have h1 := ih (by omega)
   have h2 := count_step (fun v => !decide (p v.day.toNat ∈ numsT Tr.area (tiV w v) true)) (show i < w.vs.length by omega)
   rw [h2]
   simp only [fixTo]
   cases hs : strW w i
   ·simp only [Bool.false_eq_true, if_false]; omega
   ·have hb : (!decide (p w.vs[i].day.toNat ∈ numsT Tr.area (tiV w w.vs[i]) true)) = true := by
     rw [Bool.not_eq_true', decide_eq_false_iff_not]
     intro hm
     have hd := hok.day i (by omega)
     rw [strW_at (by omega), Bool.not_eq_true', Bool.eq_false_iff] at hs
     refine hs (List.any_eq_true.2 ⟨_, hm, ?_⟩)
     have he : ((w.vs[i].day.toNat : Nat) : Int) = w.vs[i].day := by omega
     have := (can_one (co w (gl w)) w.vs[i].day.toNat (p w.vs[i].day.toNat) (by simp only; omega)).2 ⟨p, hp, rfl⟩
     rw [he] at this
     exact this
    simp only [hb, if_true, List.length_append, List.length_singleton]
    omega
 have h := key w.vs.length (Nat.le_refl _)
 rw [List.take_length] at h
 rw [wrL_gl]
 exact h

theorem few_le {w : Ws} (hok : WsOk w) {l : List Int} (hl : isTruB w l = true) : 0 ≤ fewC (co w (gl w)) [] ∧ fewC (co w (gl w)) [] ≤ wrL (gl w) (pF l) := by
 obtain ⟨h1, h2⟩ := (isTruB_iff hok).1 hl
 obtain ⟨g1, g2⟩ := glOk hok
 have hla := hok.last
 have hw := wrL_wrs (p := pF l) (d := w.last.toNat) g1 fun q hq => by have := g2 q hq; omega
 rw [hw]
 rcases few_spec (co w (gl w)) [] with ⟨_, hn⟩ | ⟨h3, _, h4⟩
 ·exact absurd h2.1 (hn _)
 ·exact ⟨h3, h4 _ h2.1⟩

set_option maxHeartbeats 8000000

set_option maxHeartbeats 8000000

-- a copy of an instrument

set_option maxHeartbeats 8000000

set_option maxHeartbeats 8000000

set_option maxHeartbeats 16000000
set_option maxRecDepth 20000

-- THE THEOREM OF WHAT A VISIT TELLS


end Go.Proofs.YtknoachjpoibaaaGreat

