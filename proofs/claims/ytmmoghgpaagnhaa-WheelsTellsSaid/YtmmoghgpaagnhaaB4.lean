/- The machine of abstract values and the contracts of the functions of the program, which the statements of this seat share. No condition. -/
import Derived.Test.YtmmoghgpaagnhaaB3

set_option linter.unusedSimpArgs false
set_option linter.unusedVariables false
set_option linter.constructorNameAsVariable false

namespace Go.Proofs.Ytmmoghgpaagnhaa
open Go Go.Abs

set_option maxHeartbeats 4000000

def fixTo (q : Nat → Bool) : Nat → List Int
  | 0 => []
  | n + 1 => if q n then fixTo q n ++ [(n : Int)] else fixTo q n

@[simp] theorem fixTo_zero (q : Nat → Bool) : fixTo q 0 = [] := rfl
theorem fixTo_len (q : Nat → Bool) : ∀ n, (fixTo q n).length ≤ n
  | 0 => Nat.le_refl _
  | n + 1 => by have := fixTo_len q n; simp only [fixTo]; split <;> simp <;> omega

theorem fixTo_congr {q r : Nat → Bool} : ∀ {n : Nat}, (∀ i, i < n → q i = r i) → fixTo q n = fixTo r n
  | 0, _ => rfl
  | n + 1, h => by rw [fixTo, fixTo, h n (by omega), fixTo_congr fun i hi => h i (by omega)]

/-- Whether no truth has a walk right. -/
def strB (w : Wh) (l : List Wl) (i : Nat) : Bool := (truthsL w l).all fun t => !(match l[i]? with | some y => rightB w y t | none => false)

theorem strB_at {w : Wh} {l : List Wl} {i : Nat} (hi : i < l.length) : strB w l i = (truthsL w l).all fun t => !rightB w l[i] t := by simp [strB, List.getElem?_eq_getElem hi]

def strI (w : Wh) (l : List Wl) : List Int := if openI w l true = 0 then fixTo (strB w l) l.length else []

theorem strange38 (w : Wh) (nl fu : Bool) (l : List Wl) (hn : l.length ≤ 1000) : Pure Try.prog 38 [encWh w, sWl nl fu l] (.tup [.sl (strI w l).isEmpty (openI w l true != 0) ((strI w l).map cI), encI (openI w l true)]) := by
  refine pure_of (fn := Try.f38) [.tmp 4, .tmp 5] ⟨Try.func38, rfl, by kernel_rfl⟩ (by kernel_rfl) (by kernel_rfl) (by kernel_rfl) fun x hx hσ => ?_
  repeat refine awp_seq ?_
  refine awp_reg1 (by rw [hx]; kernel_rfl) fun K hK => ?_
  simp (config := { maxSteps := 1000000 }) [ty25]
  refine hK _ ?_
  clear hK K
  first | show AWP _ _ _ _ _ | show ∃ _, _ | skip
  repeat refine awp_seq ?_
  refine awp_scope ?_
  repeat refine awp_seq ?_
  refine awp_reg1 (by rw [hx]; kernel_rfl) fun K hK => ?_
  simp (config := { maxSteps := 1000000 }) [ty25, ty79]
  refine callP (open49 w nl fu true l hn) (by first | (simp; done) | (simp [*]; done)) ?_
  simp (config := { maxSteps := 1000000 }) [ty79]
  refine hK _ ?_
  clear hK K
  first | show AWP _ _ _ _ _ | show ∃ _, _ | skip
  repeat refine awp_seq ?_
  refine awp_reg1 (by rw [hx]; kernel_rfl) fun K hK => ?_
  simp (config := { maxSteps := 1000000 }) [ty31]
  refine hK _ ?_
  clear hK K
  first | show AWP _ _ _ _ _ | show ∃ _, _ | skip
  by_cases hz : openI w l true = 0
  · obtain ⟨hc0, _, hT⟩ := openI_ok hz
    obtain ⟨hw, hl, h8⟩ := checkI_ok hc0
    have hbd := truthsL_bd l hw
    repeat refine awp_seq ?_
    refine awp_cond (by simp [hz]; rfl) (by rw [hx]; simp) (fun hd => ?_) (fun hd => ?_)
    · simp at hd
    · clear hd
      refine awp_skip ?_
      first | show AWP _ _ _ _ _ | show ∃ _, _ | skip
      repeat refine awp_seq ?_
      refine awp_reg1 (by rw [hx]; kernel_rfl) fun K hK => ?_
      simp (config := { maxSteps := 1000000 }) []
      refine hK _ ?_
      clear hK K
      first | show AWP _ _ _ _ _ | show ∃ _, _ | skip
      repeat refine awp_seq ?_
      refine awp_label ?_
      repeat refine awp_seq ?_
      refine awp_reg1 (by rw [hx]; kernel_rfl) fun K hK => ?_
      simp (config := { maxSteps := 1000000 }) [ty26]
      refine hK _ ?_
      clear hK K
      first | show AWP _ _ _ _ _ | show ∃ _, _ | skip
      repeat refine awp_seq ?_
      refine awp_block ?_
      refine AWP.weak ?_ (wk_nil 8 8 1 (fu := true) (by simp) (by simp))
      refine awp_loop (fun i : Nat => ⟨ofL [(1, sWl nl fu l), (6, .ptr 6 9 0 0), (8, .own 8 1 0 (fixTo (strB w l) i).length), (21, sWl nl fu l), (22, encI l.length), (23, encI i)], stoT [(6, 6, .live (obDesk w nl fu l)), (8, 8, .live ⟨(fixTo (strB w l) i).isEmpty, false, 1, (fixTo (strB w l) i).map cI⟩)]⟩)
        (fun i => i ≤ l.length) (fun i => l.length - i) 0 (by simp) ?_ ?_
      · refine wk_shape (shp0 hσ (by simp) (by simp) ?_) ?_
        · simp [SlotOk] <;> (repeat' (first | exact .same (by simp [purel, C.isPure]) | exact .cons (by simp [mtl, mtc, mT, mH, C.isPure, purel]) (by simp) .nil | refine And.intro ?_ ?_))
        · simp [mtc, mtl, mT, C.isPure, purel, fixTo] <;> (try simp (disch := omega) [wrap_id]) <;> (try omega)
      · intro i hi
        have hlen := fixTo_len (strB w l) i
        repeat refine awp_seq ?_
        refine awp_reg1 (by rw [hx]; kernel_rfl) fun K hK => ?_
        simp (config := { maxSteps := 1000000 }) [ty3]
        refine hK _ ?_
        clear hK K
        first | show AWP _ _ _ _ _ | show ∃ _, _ | skip
        repeat refine awp_seq ?_
        refine awp_cond (by simp; rfl) (by rw [hx]; simp) (fun hc1 => ?_) (fun hc1 => ?_)
        · simp at hc1
          refine awp_skip ?_
          first | show AWP _ _ _ _ _ | show ∃ _, _ | skip
          repeat refine awp_seq ?_
          refine awp_block ?_
          repeat refine awp_seq ?_
          refine awp_reg1 (by rw [hx]; kernel_rfl) fun K hK => ?_
          simp (config := { maxSteps := 1000000 }) [ty26, ty39, hc1]
          refine hK _ ?_
          clear hK K
          first | show AWP _ _ _ _ _ | show ∃ _, _ | skip
          repeat refine awp_seq ?_
          refine awp_reg1 (by rw [hx]; kernel_rfl) fun K hK => ?_
          simp (config := { maxSteps := 1000000 }) [ty79]
          refine hK _ ?_
          clear hK K
          first | show AWP _ _ _ _ _ | show ∃ _, _ | skip
          repeat refine awp_seq ?_
          refine awp_block ?_
          have hqi := strB_at (w := w) hc1
          obtain ⟨stop, hstop⟩ : ∃ stop, stop = (truthsL w l).findIdx fun t => rightB w l[i] t := ⟨_, rfl⟩
          have hsl : stop ≤ (truthsL w l).length := hstop ▸ List.findIdx_le_length
          generalize hL : fixTo (strB w l) i = A at hlen
          refine awp_range0 2000000 [2000006, 2000008, 2000010] (fun _ => [(2000006, 2000006, .live (obDesk w nl fu l)), (2000008, 2000008, .live ⟨A.isEmpty, false, 1, A.map cI⟩), (2000010, 2000010, .live ⟨false, false, 5, [cWl l[i]]⟩)]) (itTr (truthsL w l)) stop (.exit 1)
            [(1, sWl nl fu l), (6, .ptr 2000006 9 0 0), (8, .own 2000008 1 0 A.length), (9, encI i), (10, .ptr 2000010 5 0 0), (21, sWl nl fu l), (22, encI l.length), (23, encI i), (29, .fn (.func 57) [encDesk w nl fu l] [])] [(6, .ptr 2000006 9 0 0), (10, .ptr 2000010 5 0 0)]
            (first := [encDesk w nl fu l]) (caps := []) ?_ hσ (by simp) (by rw [hx]; decide) ⟨by simp [purel, C.isPure], rfl⟩ (it_truths w nl fu l hw hl hn) (by simpa using hsl) (by simp) (by simp) (fun i => by simp) ?_ (by simp [C.wi, wil]) (by simp [C.wi, wil]) ?_ ?_ ?_ ?_
          · refine wk_shape2 [(2000006, 6, .live (obDesk w nl fu l)), (2000008, 8, .live ⟨A.isEmpty, false, 1, A.map cI⟩), (2000010, 10, .live ⟨false, false, 5, [cWl l[i]]⟩)] (by first | rfl | (simp only [if_pos, if_true]; rfl)) (shp0 hσ (by simp) (by simp) ?_) ?_
            · simp [SlotOk] <;> (repeat' (first | exact .same (by simp [purel, C.isPure]) | exact .cons (by simp [mtl, mtc, mT, mH, C.isPure, purel]) (by simp) .nil | refine And.intro ?_ ?_))
            · simp [mtc, mtl, mT, C.isPure, purel] <;> (try simp (disch := omega) [wrap_id]) <;> (try omega)
          · intro _
            simp [wil, C.wi]
          · intro args ha
            obtain ⟨t, ht, rfl⟩ := List.mem_map.1 ha
            simp [purel, C.isPure]
          · intro j args hit hj y y2 hy1 hy2 hyσ hy
            obtain ⟨t, ht, rfl⟩ := itTr_get hit
            have hj' := (List.getElem?_eq_some_iff.1 ht).1
            have htj : (truthsL w l)[j] = t := (List.getElem?_eq_some_iff.1 ht).2
            have hta : t ∈ allT w := (List.mem_filter.1 (List.mem_of_getElem? ht)).1
            have hx0 := hx
            have hx := hy1.trans hx0
            repeat refine awp_seq ?_
            refine awp_reg1 (by rw [hx]; kernel_rfl) fun K hK => ?_
            simp (config := { maxSteps := 1000000 }) [ty100, putPs]
            refine hK _ ?_
            clear hK K
            first | show AWP _ _ _ _ _ | show ∃ _, _ | skip
            refine ⟨by simp, ?_⟩
            have hx := hy2.trans hx0
            repeat refine awp_seq ?_
            refine awp_block ?_
            repeat refine awp_seq ?_
            refine awp_reg1 (by rw [hx]; kernel_rfl) fun K hK => ?_
            simp (config := { maxSteps := 1000000 }) [ty79, ty39, ty100]
            refine callP (right_c w nl fu l l[i] t hw (hl _ (List.getElem_mem hc1)) (allT_ok hw hta)) (by first | (simp; done) | (simp [*]; done)) ?_
            simp (config := { maxSteps := 1000000 }) []
            refine hK _ ?_
            clear hK K
            first | show AWP _ _ _ _ _ | show ∃ _, _ | skip
            cases hb : rightB w l[i] t
            · repeat refine awp_seq ?_
              refine awp_cond (by simp [hb]; rfl) (by rw [hx]; simp) (fun hd => ?_) (fun hd => ?_)
              · simp at hd
              · clear hd
                refine awp_skip ?_
                have : j ≠ stop := by
                  rintro rfl
                  have := List.findIdx_getElem (p := fun t => rightB w l[i] t) (xs := truthsL w l) (w := by rw [← hstop]; exact hj')
                  simp only [← hstop, htj, hb] at this
                  cases this
                refine ⟨by rw [if_neg this], ?_⟩
                refine wk_round (E := []) [(2000000, 2000000, .gh), (2000006, 2000006, .live (obDesk w nl fu l)), (2000008, 2000008, .live ⟨A.isEmpty, false, 1, A.map cI⟩), (2000010, 2000010, .live ⟨false, false, 5, [cWl l[i]]⟩)] (by first | rfl | (simp <;> rfl)) hy (by simp [mT]) (by simp) (by simp) ?_ (by simp)
                · simp [SlotOk] <;> (repeat' (first | exact .same (by simp [purel, C.isPure]) | exact .cons (by simp [mtl, mtc, mT, mH, C.isPure, purel]) (by simp) .nil | refine And.intro ?_ ?_)) <;> (try simp (disch := omega) [wrap_id]) <;> (try omega)
            · repeat refine awp_seq ?_
              refine awp_cond (by simp [hb]; rfl) (by rw [hx]; simp) (fun hd => ?_) (fun hd => ?_)
              · clear hd
                refine awp_exit ?_
                have : j = stop := by
                  refine Nat.le_antisymm hj (Classical.byContradiction fun hlt => ?_)
                  have := List.not_of_lt_findIdx (p := fun t => rightB w l[i] t) (xs := truthsL w l) (i := j) (by rw [← hstop]; omega)
                  simp only [htj, hb] at this
                  cases this
                refine ⟨by rw [if_pos this]; rfl, ?_⟩
                refine wk_round (E := []) [(2000000, 2000000, .gh), (2000006, 2000006, .live (obDesk w nl fu l)), (2000008, 2000008, .live ⟨A.isEmpty, false, 1, A.map cI⟩), (2000010, 2000010, .live ⟨false, false, 5, [cWl l[i]]⟩)] (by first | rfl | (simp <;> rfl)) hy (by simp [mT]) (by simp) (by simp) ?_ (by simp)
                · simp [SlotOk] <;> (repeat' (first | exact .same (by simp [purel, C.isPure]) | exact .cons (by simp [mtl, mtc, mT, mH, C.isPure, purel]) (by simp) .nil | refine And.intro ?_ ?_)) <;> (try simp (disch := omega) [wrap_id]) <;> (try omega)
              · simp at hd
          · intro he s' hs'
            refine AWP.weak ?_ hs'
            have hst : strB w l i = true := by
              rw [hqi, List.all_eq_true]
              intro t ht
              obtain ⟨j, hj, rfl⟩ := List.getElem_of_mem ht
              have := List.not_of_lt_findIdx (p := fun t => rightB w l[i] t) (xs := truthsL w l) (i := j) (by rw [← hstop, he]; simpa using hj)
              simpa using this
            have hf1 : fixTo (strB w l) (i + 1) = A ++ [(i : Int)] := by simp only [fixTo, hst, if_true, hL]
            repeat refine awp_seq ?_
            refine awp_reg1 (by rw [hx]; kernel_rfl) fun K hK => ?_
            simp (config := { maxSteps := 1000000 }) [ty45, ty3]
            refine ⟨by omega, ?_⟩
            refine hK _ ?_
            clear hK K
            first | show AWP _ _ _ _ _ | show ∃ _, _ | skip
            repeat refine awp_seq ?_
            refine awp_reg1 (by rw [hx]; kernel_rfl) fun K hK => ?_
            simp (config := { maxSteps := 1000000 }) [ty3]
            refine hK _ ?_
            clear hK K
            first | show AWP _ _ _ _ _ | show ∃ _, _ | skip
            rw [wrap_id (by omega) (by omega)]
            refine ⟨i + 1, by omega, by omega, ?_⟩
            refine wk_shape (T := [(6, 2000006, .live (obDesk w nl fu l)), (8, 38, .live ⟨(fixTo (strB w l) (i + 1)).isEmpty, false, 1, (fixTo (strB w l) (i + 1)).map cI⟩)]) (shp0 hσ (by simp) (by simp) ?_) ?_
            · simp [SlotOk, hf1]
              exact ⟨.same (by simp [purel, C.isPure]), .same (by simp [purel, C.isPure])⟩
            · simp [mtc, mtl, mT, C.isPure, hf1]
          · intro hlt
            have hst : strB w l i = false := by
              rw [hqi, Bool.eq_false_iff]
              intro h
              rw [List.all_eq_true] at h
              have hlt' : stop < (truthsL w l).length := by simpa using hlt
              have h1 := h _ (List.getElem_mem hlt')
              have := List.findIdx_getElem (p := fun t => rightB w l[i] t) (xs := truthsL w l) (w := by rw [← hstop]; exact hlt')
              simp only [← hstop] at this
              rw [this] at h1
              cases h1
            have hf1 : fixTo (strB w l) (i + 1) = A := by simp only [fixTo, hst, hL]; rfl
            refine awp_exit ?_
            repeat refine awp_seq ?_
            repeat refine awp_seq ?_
            refine awp_reg1 (by rw [hx]; kernel_rfl) fun K hK => ?_
            simp (config := { maxSteps := 1000000 }) [ty3]
            refine hK _ ?_
            clear hK K
            first | show AWP _ _ _ _ _ | show ∃ _, _ | skip
            rw [wrap_id (by omega) (by omega)]
            refine ⟨i + 1, by omega, by omega, ?_⟩
            refine wk_shape (T := [(6, 2000006, .live (obDesk w nl fu l)), (8, 2000008, .live ⟨(fixTo (strB w l) (i + 1)).isEmpty, false, 1, (fixTo (strB w l) (i + 1)).map cI⟩)]) (shp0 hσ (by simp) (by simp) ?_) ?_
            · simp [SlotOk, hf1]
              exact ⟨.same (by simp [purel, C.isPure]), .same (by simp [purel, C.isPure])⟩
            · simp [mtc, mtl, mT, C.isPure, hf1]
        · simp at hc1
          repeat refine awp_seq ?_
          refine awp_exit ?_
          first | show AWP _ _ _ _ _ | show ∃ _, _ | skip
          have : i = l.length := by omega
          subst this
          repeat refine awp_seq ?_
          refine awp_reg1 (by rw [hx]; kernel_rfl) fun K hK => ?_
          simp (config := { maxSteps := 1000000 }) []
          refine hK _ ?_
          clear hK K
          first | show AWP _ _ _ _ _ | show ∃ _, _ | skip
          repeat refine awp_seq ?_
          refine awp_ret ?_
          refine And.intro (Or.inr rfl) ?_
          refine ⟨_, by simp [retC, resC]; rfl, ?_⟩
          unfold viewC
          rw [if_neg (by simp [C.isPure, purel])]
          simp only [mapO]
          rw [viewC_own (o := ⟨(fixTo (strB w l) l.length).isEmpty, false, 1, (fixTo (strB w l) l.length).map cI⟩) (by simp) rfl (by simp) (by simp [purel, C.isPure]), viewC_self rfl]
          simp [strI, hz]
  · have hs : strI w l = [] := if_neg hz
    repeat refine awp_seq ?_
    refine awp_cond (by simp [hz]; rfl) (by rw [hx]; simp) (fun hd => ?_) (fun hd => ?_)
    · clear hd
      repeat refine awp_seq ?_
      refine awp_reg1 (by rw [hx]; kernel_rfl) fun K hK => ?_
      simp (config := { maxSteps := 1000000 }) []
      refine hK _ ?_
      clear hK K
      first | show AWP _ _ _ _ _ | show ∃ _, _ | skip
      repeat refine awp_seq ?_
      refine awp_ret ?_
      refine And.intro (Or.inr rfl) ?_
      simp [retC, resC, viewC, mapO, hs, hz]
    · simp [hz] at hd

end Go.Proofs.Ytmmoghgpaagnhaa

/- Families of objects by number, and a range over a function with them. No condition. -/
namespace Go.Abs
section
variable {P : Program} {x : Ctx}

theorem fk_ex : ∃ f : Nat → Nat, ∀ e, f e = e + 3000000 := ⟨fun e => e + 3000000, fun _ => rfl⟩
/-- The key of object e of the family. -/
noncomputable def fk : Nat → Nat := Classical.choose fk_ex
theorem fk_eq (e : Nat) : fk e = e + 3000000 := Classical.choose_spec fk_ex e
@[simp] theorem fk_inj (e d : Nat) : (fk e = fk d) = (e = d) := by
  rw [fk_eq, fk_eq]; exact propext ⟨fun h => by omega, fun h => by rw [h]⟩
@[simp] theorem fk_ne {e n : Nat} (h : n < 3000000) : (fk e = n) = False := eq_false (by rw [fk_eq]; omega)
@[simp] theorem ne_fk {e n : Nat} (h : n < 3000000) : (n = fk e) = False := eq_false (by rw [fk_eq]; omega)

/-- A store: a list, and N slots from 3000000 on. -/
def famS (T : List (Nat × Nat × Slot)) (N : Nat) (M : Nat → Slot) : Nat → Slot := fun k => if 3000000 ≤ k ∧ k < N + 3000000 then M (k - 3000000) else stoT T k

theorem famS_apply (T : List (Nat × Nat × Slot)) (N : Nat) (M : Nat → Slot) (k : Nat) : famS T N M k = if 3000000 ≤ k ∧ k < N + 3000000 then M (k - 3000000) else stoT T k := rfl

@[simp] theorem famS_fk (T : List (Nat × Nat × Slot)) (N : Nat) (M : Nat → Slot) (e : Nat) : famS T N M (fk e) = if e < N then M e else stoT T (fk e) := by
  rw [famS_apply]
  have h1 : fk e - 3000000 = e := by rw [fk_eq]; omega
  by_cases h : e < N
  · rw [if_pos h, if_pos (by rw [fk_eq]; omega), h1]
  · rw [if_neg h, if_neg (by rw [fk_eq]; omega)]
@[simp] theorem famS_lo (T : List (Nat × Nat × Slot)) (N : Nat) (M : Nat → Slot) {k : Nat} (h : k < 3000000) : famS T N M k = stoT T k := by
  rw [famS_apply, if_neg (by omega)]

theorem famS_rfam {L : Nat} (hL : L < 3000000) (T : List (Nat × Nat × Slot)) (N : Nat) (M : Nat → Slot) (i : Nat) (fam : Nat → Nat → Slot) (h : fam i = famS T N M) : rfam L fam i = famS ((L, L, .gh) :: T) N M := by
  funext k
  unfold rfam
  rw [h]
  by_cases e : k = L
  · subst e
    have : ¬ (3000000 ≤ k ∧ k < N + 3000000) := by omega
    simp [famS_apply, this, stoT]
  · rw [if_neg e]
    simp [famS_apply, stoT, upd, e]

/-- New keys and old ones. -/
def mF (T : List (Nat × Nat × Slot)) (N : Nat) (old : Nat → Nat) : Nat → Nat → Prop := fun a b => mT T a b ∨ ∃ e, e < N ∧ a = fk e ∧ b = old e

theorem mF_T {T : List (Nat × Nat × Slot)} {N : Nat} {old : Nat → Nat} {a b : Nat} (h : mT T a b) : mF T N old a b := .inl h
theorem mF_M {T : List (Nat × Nat × Slot)} {N : Nat} {old : Nat → Nat} {e b : Nat} (he : e < N) (h : old e = b) : mF T N old (fk e) b := .inr ⟨e, he, rfl, h.symm⟩

/-- A SHAPE WITH A FAMILY. -/
theorem wk_fam {s : AS} {E : List (Nat × C)} {T : List (Nat × Nat × Slot)} {N : Nat} {M : Nat → Slot} (old : Nat → Nat) (hT : ∀ p ∈ T, p.1 < 3000000 ∧ p.2.1 < 3000000) (n1 : (T.map (·.1)).Nodup) (n2 : (T.map (·.2.1)).Nodup)
    (ho : ∀ e, e < N → old e = fk e ∨ (old e < 3000000 ∧ old e ∉ T.map (·.2.1) ∧ ∀ e', e' < N → old e' = old e → e' = e))
    (hm : ∀ e, e < N → SlotOk (mF T N old) (s.sto (old e)) (M e)) (ok : ∀ p ∈ T, SlotOk (mF T N old) (s.sto p.2.1) p.2.2) (hE : ∀ p ∈ E, mtc (mF T N old) (s.env p.1) p.2)
    (hx : ∀ k, x.σ k ≠ .free → (x.σ k ≠ .gh ∨ ∃ p ∈ x.lp, p.2.2.1 = k) → mF T N old k k) : Wk x s ⟨ofL E, famS T N M⟩ := by
  have mTlt : ∀ {a b}, mT T a b → a < 3000000 ∧ b < 3000000 := by
    intro a b h
    obtain ⟨q, hq⟩ := mem_mT.1 h
    exact hT _ hq
  have mTin : ∀ {a b}, mT T a b → b ∈ T.map (·.2.1) := by
    intro a b h
    obtain ⟨q, hq⟩ := mem_mT.1 h
    exact List.mem_map.2 ⟨_, hq, rfl⟩
  have ov : ∀ e, e < N → ∀ b, mT T b (old e) → False := by
    intro e he b hb
    rcases ho e he with h | ⟨h1, h2, _⟩
    · have := (mTlt hb).2; rw [h, fk_eq] at this; omega
    · exact h2 (mTin hb)
  refine wk_shpG (m := mF T N old) (old := fun a => if 3000000 ≤ a then old (a - 3000000) else oldT T a) ⟨fun a b h => ?_, fun a b k ha hb => ?_, fun a b h => ?_, fun a ha => ?_, hx⟩ hE
  · rcases h with h | ⟨e, he, rfl, rfl⟩
    · have := (mTlt h).1
      rw [if_neg (by omega)]
      obtain ⟨q, hq⟩ := mem_mT.1 h
      exact oldT_mem n1 hq
    · have h1 : fk e - 3000000 = e := by rw [fk_eq]; omega
      rw [if_pos (by rw [fk_eq]; omega), h1]
  · rcases ha with ha | ⟨e, he, rfl, rfl⟩ <;> rcases hb with hb | ⟨e', he', rfl, hb⟩
    · obtain ⟨q, hq⟩ := mem_mT.1 ha
      obtain ⟨q', hq'⟩ := mem_mT.1 hb
      exact (Prod.mk.inj (nodup_snd n2 hq hq' rfl)).1
    · subst hb; exact (ov e' he' _ ha).elim
    · exact (ov e he _ hb).elim
    · have : e = e' := by
        rcases ho e he with h | ⟨h1, h2, h3⟩
        · rcases ho e' he' with g | ⟨g1, g2, g3⟩
          · rw [h, g, fk_inj] at hb; exact hb
          · rw [h, fk_eq] at hb; omega
        · exact (h3 e' he' hb.symm).symm
      rw [this]
  · rcases h with h | ⟨e, he, rfl, rfl⟩
    · have hlt := (mTlt h).1
      obtain ⟨q, hq⟩ := mem_mT.1 h
      have h1 := ok _ hq
      have h2 := stoT_mem n1 hq
      simp only at h1 h2
      have : ¬ (3000000 ≤ a ∧ a < N + 3000000) := by omega
      simp only [famS_apply, if_neg this]
      rw [h2]; exact h1
    · have := hm e he
      rw [famS_fk, if_pos he]
      exact this
  · simp only [famS_apply] at ha
    split at ha
    · rename_i hk
      exact ⟨old (a - 3000000), .inr ⟨a - 3000000, by omega, by rw [fk_eq]; omega, rfl⟩⟩
    · obtain ⟨p, hp, rfl, hs⟩ := stoT_some ha
      exact ⟨p.2.1, .inl (mem_mT.2 ⟨p.2.2, hp⟩)⟩

/-- Slots that say nothing. -/
theorem wk_gh {env : Nat → C} {σ σ' : Nat → Slot} (h : ∀ k, σ' k = σ k ∨ (σ k = .free ∧ σ' k = .gh)) : Wk x ⟨env, σ⟩ ⟨env, σ'⟩ := by
  intro ρ a w hs
  have hf1 := hs.toFrm
  have hlv : ∀ k o, σ' k = .live o ↔ σ k = .live o := by
    intro k o
    rcases h k with e | ⟨e1, e2⟩
    · rw [e]
    · rw [e1, e2]; simp
  have hown : ∀ b, Owned ρ σ' b ↔ Owned ρ σ b := by
    intro b
    constructor
    · rintro ⟨k, o, e1, e2, e3⟩; exact ⟨k, o, (hlv k o).1 e1, e2, e3⟩
    · rintro ⟨k, o, e1, e2, e3⟩; exact ⟨k, o, (hlv k o).2 e1, e2, e3⟩
  have hK0 : Keeps (x.Gd ρ σ) (x.Gd ρ σ') ρ ρ σ σ' w w := by
    refine .of (fun D hD => hD) ⟨fun b hb hlt => ⟨⟨hb.1, fun ho => hb.2 ((hown b).1 ho)⟩, hlt, .inl rfl⟩, fun k hk => ?_, fun k o hk => .inr ⟨o, (hlv k o).2 hk, rfl, rfl, rfl, fun hn => ⟨rfl, fun cs el fz hc => ⟨_, _, _, hc, Nat.le_refl _⟩⟩⟩⟩
    rcases h k with e | ⟨e1, e2⟩
    · rw [e]; exact hk
    · rw [e1] at hk; cases hk
  have hf2 : Frm x ρ σ' w := by
    refine ⟨⟨fun k o hk hn => (hf1.sto.ob k o ((hlv k o).1 hk) hn).keeps hK0.toKeeps0 rfl, fun k o hk hn => hf1.sto.nil k o ((hlv k o).1 hk) hn, fun k k' o o' hk hk' hn hn' he => hf1.sto.inj k k' o o' ((hlv k o).1 hk) ((hlv k' o').1 hk') hn hn' he⟩,
      fun b hb => hf1.own b ((hown b).1 hb), hf1.frame, ⟨hf1.rcd.loop, fun p hp => ?_⟩, hf1.size, hf1.os, hf1.tape, hf1.output, hf1.hist.trans hK0.toKeeps0⟩
    obtain ⟨q1, q2, q3⟩ := hf1.rcd.rdy p hp
    refine ⟨q1, q2, ?_⟩
    rcases h p.2.2.1 with e | ⟨e1, e2⟩
    · rw [e]; exact q3
    · rcases q3 with ⟨q3, _⟩ | ⟨q3, _⟩ <;> exact absurd (e1.symm.trans q3) (by simp)
  exact ⟨ρ, { hf2 with nt := hs.nt, defers := hs.defers, inr := hs.inr, env := fun t ht => (hs.env t ht).keeps hK0 }⟩

theorem wk_famGh {env : Nat → C} {T : List (Nat × Nat × Slot)} (hT : ∀ p ∈ T, p.1 < 3000000) (N : Nat) : Wk x ⟨env, stoT T⟩ ⟨env, famS T N fun _ => .gh⟩ := by
  refine wk_gh fun k => ?_
  by_cases h : 3000000 ≤ k ∧ k < N + 3000000
  · refine .inr ⟨?_, by simp [famS_apply, h]⟩
    refine Classical.byContradiction fun hf => ?_
    obtain ⟨p, hp, rfl, _⟩ := stoT_some hf
    have := hT p hp
    omega
  · exact .inl (by simp [famS_apply, h])

/-- In a round of a loop. -/
structure RndS (L : Nat) (fam : Nat → Nat → Slot) (i : Nat) (y : Ctx) : Prop where
  σ : y.σ = rfam L fam i
  lp : ∀ p ∈ y.lp, p.2.2.1 = L

/-- A RANGE OVER A FUNCTION, in a function that began without objects, any family. -/
theorem awp_rangeG {t : Nat} {ps : Array Tmp} {assign body : Code} {Q : Exit → AS → Prop} (L : Nat) (K : List Nat) (fam : Nat → Nat → Slot) (items : List (List C)) (stop : Nat) (jc : Code) (E0 El : List (Nat × C)) {gf : FuncId} {first caps : List C}
    {s : AS} (hw0 : Wk x s ⟨ofL E0, fam 0⟩) (hx : x.σ = freeS) (hfam : FamOk L K fam) (hg : ofL E0 t = .fn (.func gf) first caps) (hgt : t < x.nt) (hpu : purel first = true ∧ purel caps = true) (hit : ItC P L gf first caps items) (hstop : stop ≤ items.length)
    (hE0 : ∀ p ∈ E0, p.2.wi K = true) (hE : ∀ p ∈ El, p.2.wi K = true ∧ ofL E0 p.1 = p.2) (hps : ∀ args ∈ items, purel args = true ∧ args.length = ps.size)
    (hround : ∀ i args, items[i]? = some args → i ≤ stop → ∀ (y y2 : Ctx), y.nt = x.nt → y2.nt = x.nt → RndS L fam i y → RndS L fam i y2 →
      AWP P y assign ⟨putPs (ofL El) ps.toList args, rfam L fam i⟩ (nextQ (fun s' => s'.sto L = .gh ∧ AWP P y2 body s' fun e s'' => (if i = stop then jumpOf e = some jc else e = .normal) ∧ Wk y2 s'' ⟨fun _ => .any, rfam L fam (i + 1)⟩) fun _ _ => False))
    (hdone : stop = items.length → ∀ s', Wk x s' ⟨ofL E0, fam items.length⟩ → Q .normal s')
    (hjump : stop < items.length → AWP P x jc ⟨ofL E0, fam (stop + 1)⟩ Q) : AWP P x (.rangeFunc (.tmp t) ps assign body) s Q := by
  have hLK : L ∉ K := fun h => Nat.lt_irrefl _ (hfam.lt L h)
  have hend : ∀ n, Wk x ⟨ofL E0, ovS (L :: K) (fam 0) (stg L fam stop n)⟩ ⟨ofL E0, fam n⟩ := by
    intro n
    have hov : ∀ k ∈ K, ovS (L :: K) (fam 0) (stg L fam stop n) k = fam n k := by
      intro k hk
      have hne : k ≠ L := fun e => hLK (e ▸ hk)
      rw [ovS_in (by simp [hk])]
      simp only [stg, if_neg hne]
    have hsh : ShpG x (ovS (L :: K) (fam 0) (stg L fam stop n)) (fam n) (fun a b => a = b ∧ a ∈ K) id := by
      refine ⟨fun a b h => h.1, fun a b k h1 h2 => h1.1.trans h2.1.symm, ?_, fun a ha => ⟨a, rfl, Classical.byContradiction fun h => ha (hfam.out n a h)⟩, fun k hk => absurd (by rw [hx]; rfl) hk⟩
      rintro a b ⟨rfl, ha⟩
      rw [hov a ha]
      cases h : fam n a with
      | free => exact (hfam.st n a ha h).elim
      | dead => exact trivial
      | gh => rfl
      | live o => exact ⟨rfl, rfl, rfl, rows_self (ks := K) (fun k hk => ⟨rfl, hk⟩) _ (hfam.wi n a o h) (hfam.ce n a o h)⟩
    exact wk_shpE hsh fun t => mt_self (ks := K) (fun k hk => ⟨rfl, hk⟩) _ (ofL_wi hE0 t)
  refine AWP.weak ?_ hw0
  intro hY ρ a w hs
  have hlp0 : ∀ p ∈ x.lp, False := by
    intro p hp
    have := (hs.toFrm.rcd.rdy p hp).2.1
    rw [hx] at this
    exact this rfl
  refine awp_range (x := x) (g := .tmp t) (s := ⟨ofL E0, fam 0⟩) L K fam items stop jc (ofL El) hg (fun t' ht => by cases ht; exact hgt) hpu hit hstop hfam (hfam.out 0 L hLK) (fun k hk => rfl) (ofL_E hE) hps (fun k hk => absurd (by rw [hx]; rfl) hk) ?_ (fun e => hdone e _ (hend _)) (fun e => AWP.weak (hjump e) (hend _)) hY ρ a w hs
  intro i args hit' hi l y y2 hy hy2
  have mk : ∀ {z : Ctx}, RndX z x.nt l L (rfam L fam i) x.Y x.ex x.lp → RndS L fam i z := by
    intro z hz
    refine ⟨hz.σ, fun p hp => ?_⟩
    obtain ⟨o, o', e⟩ := hz.lp
    rw [e] at hp
    rcases List.mem_cons.1 hp with rfl | hp
    · rfl
    · exact (hlp0 p hp).elim
  refine AWP.mono (hround i args hit' hi y y2 hy.nt hy2.nt (mk hy) (mk hy2)) ?_
  intro e s' he
  cases e with
  | normal => exact ⟨he.1, AWP.mono he.2 fun e' s'' h => h⟩
  | _ => exact he

/-- A family of the store's shape. -/
theorem famOkS {L : Nat} {K : List Nat} {N : Nat} {T : Nat → List (Nat × Nat × Slot)} {M : Nat → Nat → Slot} (hL : L < 3000000) (hK : ∀ k ∈ K, L < k ∧ k < 3000000) (nd : K.Nodup) (hT : ∀ i, (T i).map (·.1) = K)
    (hst : ∀ i, ∀ p ∈ T i, ∃ o, p.2.2 = .live o ∧ o.rows.all (wil (K ++ (List.range N).map fk)) = true ∧ o.rows.all (fun r => r.all C.cell) = true)
    (hM : ∀ i e, e < N → M i e ≠ .free ∧ ∀ o, M i e = .live o → o.rows.all (wil (K ++ (List.range N).map fk)) = true ∧ o.rows.all (fun r => r.all C.cell) = true) :
    FamOk L (K ++ (List.range N).map fk) fun i => famS (T i) N (M i) := by
  have memM : ∀ {k}, k ∈ (List.range N).map fk ↔ 3000000 ≤ k ∧ k < N + 3000000 := by
    intro k
    simp only [List.mem_map, List.mem_range]
    constructor
    · rintro ⟨a, h, rfl⟩; rw [fk_eq]; omega
    · rintro ⟨h1, h2⟩; exact ⟨k - 3000000, by omega, by rw [fk_eq]; omega⟩
  have key : ∀ i k o, famS (T i) N (M i) k = .live o → o.rows.all (wil (K ++ (List.range N).map fk)) = true ∧ o.rows.all (fun r => r.all C.cell) = true := by
    intro i k o h
    simp only [famS_apply] at h
    split at h
    · rename_i hk
      exact (hM i (k - 3000000) (by omega)).2 o h
    · obtain ⟨p, hp, rfl, e⟩ := stoT_some (by rw [h]; simp)
      obtain ⟨o', h1, h2⟩ := hst i p hp
      rw [e, h1] at h
      cases h
      exact h2
  refine ⟨fun k hk => ?_, ?_, fun i k hk => ?_, fun i k hk => ?_, fun i k o h => (key i k o h).1, fun i k o h => (key i k o h).2⟩
  · rcases List.mem_append.1 hk with hk | hk
    · exact (hK k hk).1
    · have := memM.1 hk; omega
  · refine List.nodup_append.2 ⟨nd, ?_, fun a ha b hb e => ?_⟩
    · exact List.pairwise_map.2 (List.nodup_range.imp fun h e => h (by simpa using e))
    · subst e
      have := (hK a ha).2
      have := memM.1 hb
      omega
  · simp only [List.mem_append, not_or] at hk
    have h1 : ¬ (3000000 ≤ k ∧ k < N + 3000000) := fun h => hk.2 (memM.2 h)
    simp only [famS_apply, if_neg h1]
    refine Classical.byContradiction fun hf => ?_
    obtain ⟨p, hp, rfl, _⟩ := stoT_some hf
    exact hk.1 (by rw [← hT i]; exact List.mem_map.2 ⟨p, hp, rfl⟩)
  · rcases List.mem_append.1 hk with hk | hk
    · have h1 : ¬ (3000000 ≤ k ∧ k < N + 3000000) := by have := (hK k hk).2; omega
      simp only [famS_apply, if_neg h1]
      rw [← hT i] at hk
      obtain ⟨p, hp, rfl⟩ := List.mem_map.1 hk
      rw [stoT_mem (by rw [hT i]; exact nd) hp]
      obtain ⟨o, h2, _⟩ := hst i p hp
      rw [h2]; simp
    · have h1 := memM.1 hk
      simp only [famS_apply, if_pos h1]
      exact (hM i _ (by omega)).1

/-- A shape with a family, in a round. -/
theorem wk_famR {y : Ctx} {L i : Nat} {fam : Nat → Nat → Slot} {T0 : List (Nat × Nat × Slot)} {M0 : Nat → Slot} {s : AS} {E : List (Nat × C)} {T : List (Nat × Nat × Slot)} {N : Nat} {M : Nat → Slot} (old : Nat → Nat) (hy : RndS L fam i y) (h0 : rfam L fam i = famS T0 N M0)
    (hT0 : ∀ k ∈ T0.map (·.1), mT T k k) (hLT : L ∈ T0.map (·.1)) (hM0 : ∀ e, e < N → M0 e ≠ .gh → old e = fk e)
    (hT : ∀ p ∈ T, p.1 < 3000000 ∧ p.2.1 < 3000000) (n1 : (T.map (·.1)).Nodup) (n2 : (T.map (·.2.1)).Nodup)
    (ho : ∀ e, e < N → old e = fk e ∨ (old e < 3000000 ∧ old e ∉ T.map (·.2.1) ∧ ∀ e', e' < N → old e' = old e → e' = e))
    (hm : ∀ e, e < N → SlotOk (mF T N old) (s.sto (old e)) (M e)) (ok : ∀ p ∈ T, SlotOk (mF T N old) (s.sto p.2.1) p.2.2) (hE : ∀ p ∈ E, mtc (mF T N old) (s.env p.1) p.2) : Wk y s ⟨ofL E, famS T N M⟩ := by
  refine wk_fam old hT n1 n2 ho hm ok hE fun k hk hk2 => ?_
  rcases hk2 with hk2 | ⟨p, hp, rfl⟩
  · rw [hy.σ, h0] at hk hk2
    simp only [famS_apply] at hk hk2
    split at hk
    · rename_i h1
      rw [if_pos h1] at hk2
      exact .inr ⟨k - 3000000, by omega, by rw [fk_eq]; omega, by rw [hM0 _ (by omega) hk2, fk_eq]; omega⟩
    · obtain ⟨q, hq, rfl, _⟩ := stoT_some hk
      exact .inl (hT0 _ (List.mem_map.2 ⟨q, hq, rfl⟩))
  · rw [hy.lp p hp]
    exact .inl (hT0 _ hLT)

end
end Go.Abs

namespace Go.Proofs.Ytmmoghgpaagnhaa
open Go Go.Abs

set_option maxHeartbeats 4000000

@[simp] theorem ev_mapNil (s : AS) : s.ev (.const (.map none)) = .md true [] := rfl

def rtB (w : Wh) (a b : Int) (e : Nat) (t : Tr) : Bool := rightB w ⟨a, b, 0, 0, e⟩ t
/-- The areas of truths at an end, with how often. -/
def kvE (w : Wh) (l : List Wl) (a b : Int) (e j : Nat) : List (Int × Int) := kvOf Tr.area (((truthsL w l).take j).filter (rtB w a b e))
noncomputable def mpC (e : Nat) (kv : List (Int × Int)) : C := if kv = [] then .md true [] else .mp (fk e)
def mpSl (kv : List (Int × Int)) : Slot := if kv = [] then .gh else .live (mapOb kv)
noncomputable def rowsM (N : Nat) (f : Nat → List (Int × Int)) : List (List C) := (List.range N).map fun e => [mpC e (f e)]

def maxTo (f : Nat → Nat) : Nat → Nat
  | 0 => 0
  | n + 1 => max (maxTo f n) (f n)

def worstN (w : Wh) (l : List Wl) (a b : Int) : Nat := maxTo (fun e => (kvE w l a b e (truthsL w l).length).length) w.full.toNat

theorem kvE_zero (w : Wh) (l : List Wl) (a b : Int) (e : Nat) : kvE w l a b e 0 = [] := by simp [kvE, kvOf]

theorem bump_ne (kv : List (Int × Int)) (a : Int) : bump kv a ≠ [] := by
  cases kv with
  | nil => simp [bump]
  | cons p kv => unfold bump; split <;> simp

theorem kvE_step (w : Wh) (l : List Wl) (a b : Int) (e : Nat) {j : Nat} (hj : j < (truthsL w l).length) : kvE w l a b e (j + 1) = if rtB w a b e (truthsL w l)[j] then bump (kvE w l a b e j) (truthsL w l)[j].area else kvE w l a b e j := by
  unfold kvE
  rw [List.take_succ_eq_append_getElem hj, List.filter_append]
  cases h : rtB w a b e (truthsL w l)[j]
  · simp [h]
  · simp only [h, List.filter_cons, List.filter_nil, if_true]
    rw [kvOf_app]

theorem rowsM_len (N : Nat) (f : Nat → List (Int × Int)) : (rowsM N f).length = N := by simp [rowsM]
theorem rowsM_get {N : Nat} {f : Nat → List (Int × Int)} {e : Nat} (he : e < N) : (rowsM N f)[e]? = some [mpC e (f e)] := by simp [rowsM, he]
theorem rowsM_nil {N : Nat} {f : Nat → List (Int × Int)} (h : ∀ e, f e = []) : rowsM N f = List.replicate N [.md true []] := by
  unfold rowsM
  apply List.ext_getElem
  · simp
  · intro i h1 h2
    simp [mpC, h]
theorem rowsM_set {N : Nat} {f g : Nat → List (Int × Int)} {e : Nat} (hne : g e ≠ []) (h : ∀ e', e' < N → e' ≠ e → f e' = g e') : (rowsM N f).set e [.mp (fk e)] = rowsM N g := by
  apply List.ext_getElem
  · simp [rowsM_len]
  · intro i h1 h2
    have hi : i < N := by simpa [rowsM_len] using h2
    rw [List.getElem_set]
    simp only [rowsM, List.getElem_map, List.getElem_range]
    split
    · rename_i hie; subst hie; simp [mpC, hne]
    · rename_i hie; rw [h i hi (fun e => hie e.symm)]

theorem mpSl_ok (m : Nat → Nat → Prop) (kv : List (Int × Int)) : SlotOk m (mpSl kv) (mpSl kv) := by
  unfold mpSl
  split
  · rfl
  · exact ⟨rfl, rfl, rfl, .same (rowsII_pure _)⟩

theorem rowsOk_ix {m : Nat → Nat → Prop} : ∀ {r s : List (List C)}, s.length = r.length → (∀ i (h1 : i < r.length) (h2 : i < s.length), mtl m r[i] s[i] ∧ s[i].all C.cell = true) → RowsOk m r s
  | [], [], _, _ => .nil
  | [], _ :: _, h, _ => by simp at h
  | _ :: _, [], h, _ => by simp at h
  | a :: r, b :: s, h, hi => .cons (hi 0 (by simp) (by simp)).1 (hi 0 (by simp) (by simp)).2 (rowsOk_ix (by simpa using h) fun i h1 h2 => hi (i + 1) (by simpa using h1) (by simpa using h2))

theorem mpC_cell (e : Nat) (kv : List (Int × Int)) : C.cell (mpC e kv) = true := by unfold mpC; split <;> rfl
theorem mpC_mt {m : Nat → Nat → Prop} {e : Nat} {kv : List (Int × Int)} (h : kv ≠ [] → m (fk e) (fk e)) : mtc m (mpC e kv) (mpC e kv) := by
  unfold mpC
  split
  · simp [mtc, C.isPure]
  · rename_i hk; exact h hk

/-- Rows as they were. -/
theorem rowsM_same {m : Nat → Nat → Prop} {N : Nat} {f g : Nat → List (Int × Int)} (hfg : ∀ e, e < N → f e = g e) (h : ∀ e, e < N → f e ≠ [] → m (fk e) (fk e)) : RowsOk m (rowsM N f) (rowsM N g) := by
  refine rowsOk_ix (by simp [rowsM_len]) fun i h1 h2 => ?_
  have hi : i < N := by simpa [rowsM_len] using h1
  simp only [rowsM, List.getElem_map, List.getElem_range, ← hfg i hi]
  exact ⟨⟨mpC_mt (h i hi), trivial⟩, by simp only [List.all_cons, List.all_nil, mpC_cell, Bool.and_true]⟩

/-- Rows with a map that is new. -/
theorem rowsM_new {m : Nat → Nat → Prop} {N q e : Nat} {f g : Nat → List (Int × Int)} (he : g e ≠ []) (hfg : ∀ i, i < N → i ≠ e → f i = g i) (h : ∀ i, i < N → i ≠ e → f i ≠ [] → m (fk i) (fk i)) (hq : m (fk e) q) :
    RowsOk m ((rowsM N f).set e [.mp q]) (rowsM N g) := by
  refine rowsOk_ix (by simp [rowsM_len]) fun i h1 h2 => ?_
  have hi : i < N := by simpa [rowsM_len] using h2
  rw [List.getElem_set]
  simp only [rowsM, List.getElem_map, List.getElem_range]
  split
  · rename_i hie; subst hie
    refine ⟨⟨?_, trivial⟩, by simp only [List.all_cons, List.all_nil, mpC_cell, Bool.and_true]⟩
    simp only [mpC, if_neg he]
    exact hq
  · rename_i hie
    rw [hfg i hi fun e => hie e.symm]
    exact ⟨⟨mpC_mt (hfg i hi (fun e => hie e.symm) ▸ h i hi fun e => hie e.symm), trivial⟩, by simp only [List.all_cons, List.all_nil, mpC_cell, Bool.and_true]⟩

/-- Rows of which one map has changed. -/
theorem rowsM_mp {m : Nat → Nat → Prop} {N e : Nat} {k : List (Int × Int)} {f g : Nat → List (Int × Int)} (hk : k ≠ []) (hf : f e = k) (hg : g e ≠ []) (hfg : ∀ i, i < N → i ≠ e → f i = g i) (h : ∀ i, i < N → m (fk i) (fk i)) :
    RowsOk m (rowsM N f) (rowsM N g) := by
  refine rowsOk_ix (by simp [rowsM_len]) fun i h1 h2 => ?_
  have hi : i < N := by simpa [rowsM_len] using h2
  simp only [rowsM, List.getElem_map, List.getElem_range]
  by_cases hie : i = e
  · subst hie
    refine ⟨⟨?_, trivial⟩, by simp only [List.all_cons, List.all_nil, mpC_cell, Bool.and_true]⟩
    simp only [mpC, if_neg hg, if_neg (hf ▸ hk : f i ≠ [])]
    exact h i hi
  · rw [hfg i hi hie]
    exact ⟨⟨mpC_mt fun _ => h i hi, trivial⟩, by simp only [List.all_cons, List.all_nil, mpC_cell, Bool.and_true]⟩

@[simp] abbrev deskB (w : Wh) (nl fu : Bool) (l : List Wl) : Ob := ⟨false, false, 9, [cDesk w nl fu l]⟩
@[simp] abbrev i1 (z : Int) : Ob := ⟨false, false, 1, [[encI z]]⟩
@[simp] noncomputable abbrev TW (w : Wh) (nl fu : Bool) (l : List Wl) (a b : Int) (N : Nat) (f : Nat → List (Int × Int)) : List (Nat × Nat × Slot) :=
  [(2000003, 2000003, .live (deskB w nl fu l)), (2000004, 2000004, .live (i1 a)), (2000005, 2000005, .live (i1 b)), (2000007, 2000007, .live ⟨false, false, 1, [[.own 2000016 1 0 N]]⟩), (2000016, 2000016, .live ⟨false, false, 1, rowsM N f⟩)]

@[simp] noncomputable abbrev TL (w : Wh) (nl fu : Bool) (l : List Wl) (a b : Int) (N : Nat) (t : Tr) (z : Int) (f : Nat → List (Int × Int)) : List (Nat × Nat × Slot) :=
  [(2000000, 2000000, .gh), (2000003, 2000003, .live (deskB w nl fu l)), (2000004, 2000004, .live (i1 a)), (2000005, 2000005, .live (i1 b)), (2000007, 2000007, .live ⟨false, false, 1, [[.own 2000016 1 0 N]]⟩), (2000016, 2000016, .live ⟨false, false, 1, rowsM N f⟩),
   (8, 8, .live ⟨false, false, 2, [cTr t]⟩), (9, 9, .live ⟨false, false, 5, [[encI a, encI b, encI 0, encI 0, encI z]]⟩)]

theorem worst51 (w : Wh) (nl fu : Bool) (l : List Wl) (a b : Int) (hw : WhOk w) (hl : ∀ y ∈ l, WlOk w y) (hn : l.length ≤ 1000) (ha : a = 1 ∨ a = -1) (hb : b = 1 ∨ b = -1) :
    Pure Try.prog 51 [encDesk w nl fu l, encI a, encI b] (encI (worstN w l a b)) := by
  have hbd := truthsL_bd l hw
  have hfull := hw.full
  obtain ⟨N, hN⟩ : ∃ N : Nat, w.full = N := ⟨w.full.toNat, by omega⟩
  have hNt : w.full.toNat = N := by omega
  refine pure_of (fn := Try.f51) [.tmp 6] ⟨Try.func51, rfl, by kernel_rfl⟩ (by kernel_rfl) (by kernel_rfl) (by kernel_rfl) fun x hx hσ => ?_
  repeat refine awp_seq ?_
  refine awp_reg1 (by rw [hx]; kernel_rfl) fun K hK => ?_
  simp (config := { maxSteps := 1000000 }) [ty79, ty3]
  refine hK _ ?_
  clear hK K
  first | show AWP _ _ _ _ _ | show ∃ _, _ | skip
  have hm1 : 0 ≤ w.full := by omega
  have hm2 : 8 * w.full ≤ 281474976710656 := by omega
  have hm3 : w.full ≤ 9223372036854775807 := by omega
  repeat refine awp_seq ?_
  refine awp_reg1 (by rw [hx]; kernel_rfl) fun K hK => ?_
  simp (config := { maxSteps := 1000000 }) [ty79, ty25, ty3, ty111, ty112, hm1, hm2, hm3, hNt]
  refine hK _ ?_
  clear hK K
  first | show AWP _ _ _ _ _ | show ∃ _, _ | skip
  repeat refine awp_seq ?_
  refine awp_reg1 (by rw [hx]; kernel_rfl) fun K hK => ?_
  simp (config := { maxSteps := 1000000 }) [ty79]
  refine hK _ ?_
  clear hK K
  first | show AWP _ _ _ _ _ | show ∃ _, _ | skip
  repeat refine awp_seq ?_
  refine awp_block ?_
  have h0 : ∀ e, kvE w l a b e 0 = [] := kvE_zero w l a b
  have hfam := famOkS (L := 2000000) (K := [2000003, 2000004, 2000005, 2000007, 2000016]) (N := N) (T := fun i => TW w nl fu l a b N (kvE w l a b · i)) (M := fun i e => mpSl (kvE w l a b e i)) (by decide) (by simp) (by simp) (fun i => by simp)
    (fun i p hp => by
      simp only [TW, List.mem_cons, List.not_mem_nil, or_false] at hp
      rcases hp with rfl | rfl | rfl | rfl | rfl
      · exact ⟨_, rfl, by simp [wil, C.wi], by simp⟩
      · exact ⟨_, rfl, by simp [wil, C.wi], by simp⟩
      · exact ⟨_, rfl, by simp [wil, C.wi], by simp⟩
      · exact ⟨_, rfl, by simp [wil, C.wi], by simp⟩
      · refine ⟨_, rfl, ?_, ?_⟩
        · simp only [rowsM, List.all_map, List.all_eq_true, List.mem_range, Function.comp]
          intro e he
          unfold mpC
          split
          · simp [wil, C.wi]
          · simp [wil, C.wi, he]
        · simp only [rowsM, List.all_map, List.all_eq_true, List.mem_range, Function.comp]
          intro e he
          unfold mpC
          split <;> simp)
    (fun i e he => by
      unfold mpSl
      split
      · simp
      · refine ⟨by simp, fun o ho => ?_⟩
        cases ho
        exact ⟨rowsII_wil _ _, rowsII_cell _⟩)
  refine awp_rangeG 2000000 _ _ (itTr (truthsL w l)) (truthsL w l).length .ret
    [(3, .ptr 2000003 9 0 0), (4, .ptr 2000004 1 0 0), (5, .ptr 2000005 1 0 0), (7, .ptr 2000007 1 0 0), (18, .fn (.func 57) [encDesk w nl fu l] [])] [(3, .ptr 2000003 9 0 0), (4, .ptr 2000004 1 0 0), (5, .ptr 2000005 1 0 0), (7, .ptr 2000007 1 0 0)]
    (first := [encDesk w nl fu l]) (caps := []) ?_ hσ hfam (by simp) (by rw [hx]; decide) ⟨by simp [purel, C.isPure], rfl⟩ (it_truths w nl fu l hw hl hn) (by simp) (by simp [C.wi, wil]) (by simp [C.wi, wil]) ?_ ?_ ?_ ?_
  · refine Wk.trans (wk_shape (E := [(3, .ptr 2000003 9 0 0), (4, .ptr 2000004 1 0 0), (5, .ptr 2000005 1 0 0), (7, .ptr 2000007 1 0 0), (18, .fn (.func 57) [encDesk w nl fu l] [])]) (T := [(2000003, 3, .live (deskB w nl fu l)), (2000004, 4, .live (i1 a)), (2000005, 5, .live (i1 b)), (2000007, 7, .live ⟨false, false, 1, [[.own 2000016 1 0 N]]⟩), (2000016, 16, .live ⟨false, false, 1, List.replicate N [.md true []]⟩)])
      (shp0 hσ (by simp) (by simp) ?_) ?_) ?_
    · simp [SlotOk]
      refine ⟨.same (by simp [purel, C.isPure]), .same (by simp [purel, C.isPure]), .same (by simp [purel, C.isPure]), .cons (by simp [mtl, mtc, mT]) (by simp) .nil, .same (by simp [purel, C.isPure])⟩
    · simp [mtc, mtl, mT, C.isPure, purel]
    · have e1 : (fun e => mpSl (kvE w l a b e 0)) = fun _ => Slot.gh := by funext e; rw [h0]; rfl
      have e2 : rowsM N (fun e => kvE w l a b e 0) = List.replicate N [.md true []] := rowsM_nil h0
      simp only [TW, e1, e2]
      exact wk_famGh (by simp) N
  · intro args ha
    obtain ⟨t, ht, rfl⟩ := List.mem_map.1 ha
    simp [purel, C.isPure]
  · intro i args hit hi y y2 hy1 hy2 hyS hy2S
    obtain ⟨t, ht, rfl⟩ := itTr_get hit
    have hi' := (List.getElem?_eq_some_iff.1 ht).1
    have hti : (truthsL w l)[i] = t := (List.getElem?_eq_some_iff.1 ht).2
    have hta : t ∈ allT w := (List.mem_filter.1 (List.mem_of_getElem? ht)).1
    have hst := fun e => kvE_step w l a b e hi'
    rw [hti] at hst
    have hr0 := fun i => famS_rfam (L := 2000000) (by decide) (TW w nl fu l a b N (kvE w l a b · i)) N (fun e => mpSl (kvE w l a b e i)) i (fun i => famS (TW w nl fu l a b N (kvE w l a b · i)) N fun e => mpSl (kvE w l a b e i)) rfl
    rw [hr0 i, hr0 (i + 1)]
    have hx0 := hx
    have hx := hy1.trans hx0
    repeat refine awp_seq ?_
    refine awp_reg1 (by rw [hx]; kernel_rfl) fun K hK => ?_
    simp (config := { maxSteps := 1000000 }) [ty100, putPs]
    refine hK _ ?_
    clear hK K
    first | show AWP _ _ _ _ _ | show ∃ _, _ | skip
    refine ⟨by simp, ?_⟩
    have hx := hy2.trans hx0
    repeat refine awp_seq ?_
    refine awp_block ?_
    repeat refine awp_seq ?_
    refine awp_reg1 (by rw [hx]; kernel_rfl) fun K hK => ?_
    simp (config := { maxSteps := 1000000 }) [ty3, ty39]
    refine hK _ ?_
    clear hK K
    first | show AWP _ _ _ _ _ | show ∃ _, _ | skip
    repeat refine awp_seq ?_
    refine awp_reg1 (by rw [hx]; kernel_rfl) fun K hK => ?_
    simp (config := { maxSteps := 1000000 }) [ty79, ty25, ty3]
    refine hK _ ?_
    clear hK K
    first | show AWP _ _ _ _ _ | show ∃ _, _ | skip
    repeat refine awp_seq ?_
    refine awp_block ?_
    obtain ⟨kv0, hkv0⟩ : ∃ kv0, kv0 = fun e => kvE w l a b e i := ⟨_, rfl⟩
    obtain ⟨kv1, hkv1⟩ : ∃ kv1, kv1 = fun e => kvE w l a b e (i + 1) := ⟨_, rfl⟩
    have hst' : ∀ e, kv1 e = if rtB w a b e t then bump (kv0 e) t.area else kv0 e := by rw [hkv0, hkv1]; exact hst
    have hf0 : ∀ e, kvE w l a b e i = kv0 e := fun e => by rw [hkv0]
    have hf1 : ∀ e, kvE w l a b e (i + 1) = kv1 e := fun e => by rw [hkv1]
    simp only [hf0, hf1]
    obtain ⟨g, hg⟩ : ∃ g : Nat → Nat → List (Int × Int), g = fun j e => if e < j then kv1 e else kv0 e := ⟨_, rfl⟩
    have hg0 : ∀ e, g 0 e = kv0 e := fun e => by rw [hg]; simp
    have hgN : ∀ e, e < N → g N e = kv1 e := fun e he => by rw [hg]; simp [he]
    have hgj : ∀ j, g j j = kv0 j := fun j => by rw [hg]; simp
    have hgs : ∀ j e, g (j + 1) e = if e = j then kv1 e else g j e := fun j e => by
      rw [hg]; simp only
      by_cases h1 : e = j
      · rw [if_pos h1, if_pos (by omega)]
      · rw [if_neg h1]
        by_cases h2 : e < j
        · rw [if_pos h2, if_pos (by omega)]
        · rw [if_neg h2, if_neg (by omega)]
    refine awp_loop (fun j : Nat => ⟨ofL [(3, .ptr 2000003 9 0 0), (4, .ptr 2000004 1 0 0), (5, .ptr 2000005 1 0 0), (7, .ptr 2000007 1 0 0), (8, .ptr 8 2 0 0), (9, .ptr 9 5 0 0), (25, encI w.full), (26, encI j)], famS (TL w nl fu l a b N t ((j - 1 : Nat) : Int) (g j)) N fun e => mpSl (g j e)⟩)
      (fun j => j ≤ N) (fun j => N - j) 0 (Nat.zero_le _) ?_ ?_
    · refine wk_famR (fk) hy2S (hr0 i) (by simp [mT]) (by simp) (fun _ _ _ => rfl) (by simp) (by simp) (by simp) (fun e he => .inl rfl) ?_ ?_ ?_
      · intro e he
        simp [he, hg0]
        exact mpSl_ok _ _
      · simp [SlotOk]
        exact ⟨.same (by simp [purel, C.isPure]), .same (by simp [purel, C.isPure]), .same (by simp [purel, C.isPure]), .cons (by simp [mtl, mtc, mT, mF]) (by simp) .nil, rowsM_same (fun e _ => (hg0 e).symm) fun e he _ => mF_M he rfl, .same (by simp [purel, C.isPure]), .same (by simp [purel, C.isPure])⟩
      · simp [mtc, mtl, mT, mF, C.isPure, purel]
    · intro j hj
      repeat refine awp_seq ?_
      refine awp_reg1 (by rw [hx]; kernel_rfl) fun K hK => ?_
      simp (config := { maxSteps := 1000000 }) [ty3]
      refine hK _ ?_
      clear hK K
      first | show AWP _ _ _ _ _ | show ∃ _, _ | skip
      repeat refine awp_seq ?_
      refine awp_cond (by simp; rfl) (by rw [hx]; simp) (fun hc1 => ?_) (fun hc1 => ?_)
      · simp at hc1
        have hjN : j < N := by omega
        refine awp_skip ?_
        first | show AWP _ _ _ _ _ | show ∃ _, _ | skip
        repeat refine awp_seq ?_
        refine awp_block ?_
        repeat refine awp_seq ?_
        refine awp_reg1 (by rw [hx]; kernel_rfl) fun K hK => ?_
        simp (config := { maxSteps := 1000000 }) [ty39, ty3]
        refine hK _ ?_
        clear hK K
        first | show AWP _ _ _ _ _ | show ∃ _, _ | skip
        repeat refine awp_seq ?_
        refine awp_reg1 (by rw [hx]; kernel_rfl) fun K hK => ?_
        simp (config := { maxSteps := 1000000 }) [ty79, ty39, ty100]
        have hcl := right_c w nl fu l ⟨a, b, 0, 0, j⟩ t hw ⟨ha, hb, by simp, by simp; omega, by simp; omega⟩ (allT_ok hw hta)
        refine callP (hcl) (by first | (simp; done) | (simp [*]; done)) ?_
        simp (config := { maxSteps := 1000000 }) []
        refine hK _ ?_
        clear hK K
        first | show AWP _ _ _ _ _ | show ∃ _, _ | skip
        cases hr : rtB w a b j t
        · have hr' : rightB w ⟨a, b, 0, 0, j⟩ t = false := hr
          repeat refine awp_seq ?_
          refine awp_cond (by simp [hr']; rfl) (by rw [hx]; simp) (fun hd => ?_) (fun hd => ?_)
          · clear hd
            repeat refine awp_seq ?_
            refine awp_exit ?_
            first | show AWP _ _ _ _ _ | show ∃ _, _ | skip
            repeat refine awp_seq ?_
            refine awp_reg1 (by rw [hx]; kernel_rfl) fun K hK => ?_
            simp (config := { maxSteps := 1000000 }) [ty3]
            refine hK _ ?_
            clear hK K
            first | show AWP _ _ _ _ _ | show ∃ _, _ | skip
            rw [wrap_id (by omega) (by omega)]
            have hgs' : ∀ e, g (j + 1) e = g j e := fun e => by
              rw [hgs]
              split
              · rename_i hej; subst hej; rw [hgj, hst', hr]; rfl
              · rfl
            have hpj : ((j + 1 - 1 : Nat) : Int) = j := by simp
            refine ⟨j + 1, by omega, by omega, ?_⟩
            refine wk_famR (fk) hy2S (hr0 i) (by simp [mT]) (by simp) (fun _ _ _ => rfl) (by simp) (by simp) (by simp) (fun e he => .inl rfl) ?_ ?_ ?_
            · intro e he
              simp [he, hgs']
              exact mpSl_ok _ _
            · simp [SlotOk]
              exact ⟨.same (by simp [purel, C.isPure]), .same (by simp [purel, C.isPure]), .same (by simp [purel, C.isPure]), .cons (by simp [mtl, mtc, mT, mF]) (by simp) .nil, rowsM_same (fun e _ => (hgs' e).symm) fun e he _ => mF_M he rfl, .same (by simp [purel, C.isPure]), .same (by simp [purel, C.isPure])⟩
            · simp [mtc, mtl, mT, mF, C.isPure, purel]
          · simp [hr'] at hd
        · have hr' : rightB w ⟨a, b, 0, 0, j⟩ t = true := hr
          repeat refine awp_seq ?_
          refine awp_cond (by simp [hr']; rfl) (by rw [hx]; simp) (fun hd => ?_) (fun hd => ?_)
          · simp [hr'] at hd
          · clear hd
            refine awp_skip ?_
            first | show AWP _ _ _ _ _ | show ∃ _, _ | skip
            by_cases hk0 : kv0 j = []
            · have hrow : ∀ h, (rowsM N (g j))[j]'h = [.md true []] := fun h => by
                have h1 : (rowsM N (g j))[j]? = some [.md true []] := by rw [rowsM_get hjN, hgj, hk0]; rfl
                rw [List.getElem?_eq_getElem h] at h1
                exact Option.some.inj h1
              repeat refine awp_seq ?_
              refine awp_reg1 (by rw [hx]; kernel_rfl) fun K hK => ?_
              simp (config := { maxSteps := 1000000 }) [ty111, ty39, ty3, ty112, rowsM_len, hjN, hrow]
              refine hK _ ?_
              clear hK K
              first | show AWP _ _ _ _ _ | show ∃ _, _ | skip
              repeat refine awp_seq ?_
              refine awp_cond (by simp; rfl) (by rw [hx]; simp) (fun hd => ?_) (fun hd => ?_)
              · clear hd
                repeat refine awp_seq ?_
                refine awp_reg1 (by rw [hx]; kernel_rfl) fun K hK => ?_
                simp (config := { maxSteps := 1000000 }) [ty111, ty39, ty3, ty112, rowsM_len, hjN, hrow]
                refine hK _ ?_
                clear hK K
                first | show AWP _ _ _ _ _ | show ∃ _, _ | skip
                have hff : findC .int (encI t.area) [] 0 = some none := rfl
                repeat refine awp_seq ?_
                refine awp_drw3 [] [0, 1, 2, 3, 4, 5, 6, 7, 8, 9] (by rw [hx]; kernel_rfl) (by kernel_rfl) (by kernel_rfl) (by kernel_rfl) fun K hK => ?_
                simp (config := { maxSteps := 1000000 }) [ty111, ty39, ty3, ty112, ty100, rowsM_len, hjN, hff]
                refine hK _ ?_
                clear hK K
                first | show AWP _ _ _ _ _ | show ∃ _, _ | skip
                repeat refine awp_seq ?_
                refine awp_reg1 (by rw [hx]; kernel_rfl) fun K hK => ?_
                simp (config := { maxSteps := 1000000 }) [ty3]
                refine hK _ ?_
                clear hK K
                first | show AWP _ _ _ _ _ | show ∃ _, _ | skip
                have hwj : IntKind.i64.wrap ((j : Int) + 1) = j + 1 := wrap_id (by omega) (by omega)
                have hk1 : kv1 j = [(t.area, 1)] := by rw [hst', hr, if_pos rfl, hk0]; rfl
                have hg1 : g (j + 1) j = [(t.area, 1)] := by rw [hgs, if_pos rfl, hk1]
                have hgo : ∀ e, e ≠ j → g (j + 1) e = g j e := fun e he => by rw [hgs, if_neg he]
                have hpj : ((j + 1 - 1 : Nat) : Int) = j := by simp
                have hwr : IntKind.i64.wrap 1 = 1 := by decide
                refine ⟨j + 1, by omega, by omega, ?_⟩
                refine wk_famR (fun e => if e = j then 44 else fk e) hy2S (hr0 i) (by simp [mT]) (by simp) ?_ (by simp) (by simp) (by simp) ?_ ?_ ?_ ?_
                · intro e he hne
                  by_cases hej : e = j
                  · subst hej
                    rw [hf0, hk0] at hne
                    exact absurd rfl hne
                  · simp [hej]
                · intro e he
                  by_cases hej : e = j
                  · subst hej
                    refine .inr ⟨by simp, by simp, fun e' _ h => ?_⟩
                    simp only [if_true] at h
                    split at h
                    · assumption
                    · simp at h
                  · simp [hej]
                · intro e he
                  by_cases hej : e = j
                  · subst hej
                    simp [hg1, hwr]
                    rw [show mpSl [(t.area, 1)] = .live (mapOb [(t.area, 1)]) from if_neg (by simp)]
                    exact ⟨rfl, rfl, rfl, .same rfl⟩
                  · simp [hej, he, hgo]
                    exact mpSl_ok _ _
                · simp [SlotOk]
                  exact ⟨.same (by simp [purel, C.isPure]), .same (by simp [purel, C.isPure]), .same (by simp [purel, C.isPure]), .cons (by simp [mtl, mtc, mT, mF]) (by simp) .nil, rowsM_new (by rw [hg1]; simp) (fun e _ h => (hgo e h).symm) (fun e he hne _ => mF_M he (if_neg hne)) (mF_M hjN (if_pos rfl)), .same (by simp [purel, C.isPure]), .same (by simp [purel, C.isPure])⟩
                · simp [mtc, mtl, mT, mF, C.isPure, purel, hwj]
              · simp at hd
            · have hrow : ∀ h, (rowsM N (g j))[j]'h = [.mp (fk j)] := fun h => by
                have h1 : (rowsM N (g j))[j]? = some [.mp (fk j)] := by rw [rowsM_get hjN, hgj]; simp [mpC, hk0]
                rw [List.getElem?_eq_getElem h] at h1
                exact Option.some.inj h1
              have hsl : mpSl (g j j) = .live (mapOb (kv0 j)) := by rw [hgj]; simp [mpSl, hk0]
              repeat refine awp_seq ?_
              refine awp_reg1 (by rw [hx]; kernel_rfl) fun K hK => ?_
              simp (config := { maxSteps := 1000000 }) [ty111, ty39, ty3, ty112, rowsM_len, hjN, hrow, hsl]
              refine hK _ ?_
              clear hK K
              first | show AWP _ _ _ _ _ | show ∃ _, _ | skip
              repeat refine awp_seq ?_
              refine awp_cond (by simp; rfl) (by rw [hx]; simp) (fun hd => ?_) (fun hd => ?_)
              · simp at hd
              · clear hd
                refine awp_skip ?_
                first | show AWP _ _ _ _ _ | show ∃ _, _ | skip
                rcases find_bump t.area (kv0 j) 0 with ⟨q, n, h1, h2, h3⟩ | ⟨h1, h2⟩
                · rw [Nat.zero_add] at h1
                  repeat refine awp_seq ?_
                  refine awp_drw3 [] [0, 1, 2, 3, 4, 5, 6, 7, 8, 9] (by rw [hx]; kernel_rfl) (by kernel_rfl) (by kernel_rfl) (by kernel_rfl) fun K hK => ?_
                  simp (config := { maxSteps := 1000000 }) [ty111, ty39, ty3, ty112, ty100, rowsM_len, hjN, hrow, hsl, h1]
                  refine hK _ ?_
                  clear hK K
                  first | show AWP _ _ _ _ _ | show ∃ _, _ | skip
                  repeat refine awp_seq ?_
                  refine awp_reg1 (by rw [hx]; kernel_rfl) fun K hK => ?_
                  simp (config := { maxSteps := 1000000 }) [ty3]
                  refine hK _ ?_
                  clear hK K
                  first | show AWP _ _ _ _ _ | show ∃ _, _ | skip
                  have hwj : IntKind.i64.wrap ((j : Int) + 1) = j + 1 := wrap_id (by omega) (by omega)
                  have hk1 : kv1 j = bump (kv0 j) t.area := by rw [hst', hr, if_pos rfl]
                  have hg1 : g (j + 1) j = bump (kv0 j) t.area := by rw [hgs, if_pos rfl, hk1]
                  have hgo : ∀ e, e ≠ j → g (j + 1) e = g j e := fun e he => by rw [hgs, if_neg he]
                  have hpj : ((j + 1 - 1 : Nat) : Int) = j := by simp
                  have hmp1 : mpSl (bump (kv0 j) t.area) = .live (mapOb (bump (kv0 j) t.area)) := if_neg (bump_ne _ _)
                  have hnb : 0 ≤ n ∧ n ≤ 410000 := by
                    have h4 := (kvOf_facts Tr.area (((truthsL w l).take i).filter (rtB w a b j))).2.2 (t.area, n) (by have h5 := hf0 j; unfold kvE at h5; rw [h5]; exact h3)
                    have h5 : (((truthsL w l).take i).filter (rtB w a b j)).length ≤ (truthsL w l).length := Nat.le_trans (List.length_filter_le _ _) (by simp; omega)
                    simp only at h4
                    omega
                  have hwr : IntKind.i64.wrap (n + 1) = n + 1 := wrap_id (by omega) (by omega)
                  have h2' : (rowsII (kv0 j)).set q [C.int .i64 t.area, C.int .i64 (n + 1)] = rowsII (bump (kv0 j) t.area) := h2
                  refine ⟨j + 1, by omega, by omega, ?_⟩
                  refine wk_famR (fk) hy2S (hr0 i) (by simp [mT]) (by simp) (fun _ _ _ => rfl) (by simp) (by simp) (by simp) (fun e he => .inl rfl) ?_ ?_ ?_
                  · intro e he
                    by_cases hej : e = j
                    · subst hej
                      simp [hg1, hmp1, he, hwr]
                      exact ⟨rfl, rfl, rfl, by rw [h2']; exact .same (rowsII_pure _)⟩
                    · simp [hej, he, hgo]
                      exact mpSl_ok _ _
                  · simp [SlotOk]
                    exact ⟨.same (by simp [purel, C.isPure]), .same (by simp [purel, C.isPure]), .same (by simp [purel, C.isPure]), .cons (by simp [mtl, mtc, mT, mF]) (by simp) .nil, rowsM_mp hk0 (hgj j) (by rw [hg1]; exact bump_ne _ _) (fun e _ h => (hgo e h).symm) (fun e he => mF_M he rfl), .same (by simp [purel, C.isPure]), .same (by simp [purel, C.isPure])⟩
                  · simp [mtc, mtl, mT, mF, C.isPure, purel, hwj]
                · repeat refine awp_seq ?_
                  refine awp_drw3 [] [0, 1, 2, 3, 4, 5, 6, 7, 8, 9] (by rw [hx]; kernel_rfl) (by kernel_rfl) (by kernel_rfl) (by kernel_rfl) fun K hK => ?_
                  simp (config := { maxSteps := 1000000 }) [ty111, ty39, ty3, ty112, ty100, rowsM_len, hjN, hrow, hsl, h1]
                  refine hK _ ?_
                  clear hK K
                  first | show AWP _ _ _ _ _ | show ∃ _, _ | skip
                  repeat refine awp_seq ?_
                  refine awp_reg1 (by rw [hx]; kernel_rfl) fun K hK => ?_
                  simp (config := { maxSteps := 1000000 }) [ty3]
                  refine hK _ ?_
                  clear hK K
                  first | show AWP _ _ _ _ _ | show ∃ _, _ | skip
                  have hwj : IntKind.i64.wrap ((j : Int) + 1) = j + 1 := wrap_id (by omega) (by omega)
                  have hk1 : kv1 j = bump (kv0 j) t.area := by rw [hst', hr, if_pos rfl]
                  have hg1 : g (j + 1) j = bump (kv0 j) t.area := by rw [hgs, if_pos rfl, hk1]
                  have hgo : ∀ e, e ≠ j → g (j + 1) e = g j e := fun e he => by rw [hgs, if_neg he]
                  have hpj : ((j + 1 - 1 : Nat) : Int) = j := by simp
                  have hmp1 : mpSl (bump (kv0 j) t.area) = .live (mapOb (bump (kv0 j) t.area)) := if_neg (bump_ne _ _)
                  have hwr : IntKind.i64.wrap 1 = 1 := by decide
                  have h2' : rowsII (kv0 j) ++ [[C.int .i64 t.area, C.int .i64 1]] = rowsII (bump (kv0 j) t.area) := h2
                  refine ⟨j + 1, by omega, by omega, ?_⟩
                  refine wk_famR (fk) hy2S (hr0 i) (by simp [mT]) (by simp) (fun _ _ _ => rfl) (by simp) (by simp) (by simp) (fun e he => .inl rfl) ?_ ?_ ?_
                  · intro e he
                    by_cases hej : e = j
                    · subst hej
                      simp [hg1, hmp1, he, hwr]
                      exact ⟨rfl, rfl, rfl, by rw [h2']; exact .same (rowsII_pure _)⟩
                    · simp [hej, he, hgo]
                      exact mpSl_ok _ _
                  · simp [SlotOk]
                    exact ⟨.same (by simp [purel, C.isPure]), .same (by simp [purel, C.isPure]), .same (by simp [purel, C.isPure]), .cons (by simp [mtl, mtc, mT, mF]) (by simp) .nil, rowsM_mp hk0 (hgj j) (by rw [hg1]; exact bump_ne _ _) (fun e _ h => (hgo e h).symm) (fun e he => mF_M he rfl), .same (by simp [purel, C.isPure]), .same (by simp [purel, C.isPure])⟩
                  · simp [mtc, mtl, mT, mF, C.isPure, purel, hwj]
      · simp at hc1
        repeat refine awp_seq ?_
        refine awp_exit ?_
        first | show AWP _ _ _ _ _ | show ∃ _, _ | skip
        obtain rfl : j = N := by omega
        refine ⟨by rw [if_neg (by omega)], ?_⟩
        refine wk_famR (E := []) (T := (2000000, 2000000, .gh) :: TW w nl fu l a b j kv1) (fk) hy2S (hr0 i) (by simp [mT]) (by simp) (fun _ _ _ => rfl) (by simp) (by simp) (by simp) (fun e he => .inl rfl) ?_ ?_ (by simp)
        · intro e he
          simp [he, hgN]
          exact mpSl_ok _ _
        · simp [SlotOk]
          exact ⟨.same (by simp [purel, C.isPure]), .same (by simp [purel, C.isPure]), .same (by simp [purel, C.isPure]), .cons (by simp [mtl, mtc, mT, mF]) (by simp) .nil, rowsM_same hgN fun e he _ => mF_M he rfl⟩
  · intro he s' hs'
    refine AWP.weak ?_ hs'
    have hlen : (itTr (truthsL w l)).length = (truthsL w l).length := by simp
    rw [hlen]
    repeat refine awp_seq ?_
    refine awp_reg1 (by rw [hx]; kernel_rfl) fun K hK => ?_
    simp (config := { maxSteps := 1000000 }) []
    refine hK _ ?_
    clear hK K
    first | show AWP _ _ _ _ _ | show ∃ _, _ | skip
    repeat refine awp_seq ?_
    refine awp_reg1 (by rw [hx]; kernel_rfl) fun K hK => ?_
    simp (config := { maxSteps := 1000000 }) [ty111]
    refine hK _ ?_
    clear hK K
    first | show AWP _ _ _ _ _ | show ∃ _, _ | skip
    repeat refine awp_seq ?_
    refine awp_block ?_
    obtain ⟨kv, hkv⟩ : ∃ kv, kv = fun e => kvE w l a b e (truthsL w l).length := ⟨_, rfl⟩
    have hkv' : ∀ e, kvE w l a b e (truthsL w l).length = kv e := fun e => by rw [hkv]
    have hwn : worstN w l a b = maxTo (fun e => (kv e).length) N := by unfold worstN; rw [hNt, hkv]
    have hlb : ∀ e, (kv e).length ≤ 410000 := by
      intro e
      rw [hkv]
      refine Nat.le_trans (kvOf_len _ _) (Nat.le_trans (List.length_filter_le _ _) ?_)
      simp; omega
    have hmx : ∀ k, maxTo (fun e => (kv e).length) k ≤ 410000 := by
      intro k
      induction k with
      | zero => simp [maxTo]
      | succ k ih => simp only [maxTo]; have := hlb k; omega
    simp only [hkv']
    refine awp_loop (fun k : Nat => ⟨ofL [(10, encI (maxTo (fun e => (kv e).length) k)), (56, .own 2000016 1 0 N), (57, encI N), (58, encI k)], famS (TW w nl fu l a b N fun e => kv e) N fun e => mpSl (kv e)⟩)
      (fun k => k ≤ N) (fun k => N - k) 0 (Nat.zero_le _) ?_ ?_
    · refine wk_fam fk (by simp) (by simp) (by simp) (fun e he => .inl rfl) ?_ ?_ ?_ fun k hk => absurd (by rw [hσ]; rfl) hk
      · intro e he
        simp [he]
        exact mpSl_ok _ _
      · simp [SlotOk]
        exact ⟨.same (by simp [purel, C.isPure]), .same (by simp [purel, C.isPure]), .same (by simp [purel, C.isPure]), .cons (by simp [mtl, mtc, mT, mF]) (by simp) .nil, rowsM_same (fun _ _ => rfl) fun e he _ => mF_M he rfl⟩
      · simp [mtc, mtl, mT, mF, C.isPure, purel, maxTo]
    · intro k hk
      repeat refine awp_seq ?_
      refine awp_reg1 (by rw [hx]; kernel_rfl) fun K hK => ?_
      simp (config := { maxSteps := 1000000 }) [ty3]
      refine hK _ ?_
      clear hK K
      first | show AWP _ _ _ _ _ | show ∃ _, _ | skip
      repeat refine awp_seq ?_
      refine awp_cond (by simp; rfl) (by rw [hx]; simp) (fun hc1 => ?_) (fun hc1 => ?_)
      · simp at hc1
        refine awp_skip ?_
        first | show AWP _ _ _ _ _ | show ∃ _, _ | skip
        repeat refine awp_seq ?_
        refine awp_block ?_
        have hwk : IntKind.i64.wrap ((k : Int) + 1) = k + 1 := wrap_id (by omega) (by omega)
        have hstep : maxTo (fun e => (kv e).length) (k + 1) = max (maxTo (fun e => (kv e).length) k) (kv k).length := rfl
        by_cases hk0 : kv k = []
        · have hrow : ∀ h, (rowsM N kv)[k]'h = [.md true []] := fun h => by
            have h1 : (rowsM N kv)[k]? = some [.md true []] := by rw [rowsM_get hc1, hk0]; rfl
            rw [List.getElem?_eq_getElem h] at h1
            exact Option.some.inj h1
          repeat refine awp_seq ?_
          refine awp_reg1 (by rw [hx]; kernel_rfl) fun K hK => ?_
          simp (config := { maxSteps := 1000000 }) [ty111, ty112, rowsM_len, hc1, hrow]
          refine hK _ ?_
          clear hK K
          first | show AWP _ _ _ _ _ | show ∃ _, _ | skip
          repeat refine awp_seq ?_
          refine awp_reg1 (by rw [hx]; kernel_rfl) fun K hK => ?_
          simp (config := { maxSteps := 1000000 }) [ty112, ty3]
          refine hK _ ?_
          clear hK K
          first | show AWP _ _ _ _ _ | show ∃ _, _ | skip
          repeat refine awp_seq ?_
          refine awp_reg1 (by rw [hx]; kernel_rfl) fun K hK => ?_
          simp (config := { maxSteps := 1000000 }) [ty3]
          refine hK _ ?_
          clear hK K
          first | show AWP _ _ _ _ _ | show ∃ _, _ | skip
          refine ⟨k + 1, by omega, by omega, ?_⟩
          refine wk_fam fk (by simp) (by simp) (by simp) (fun e he => .inl rfl) ?_ ?_ ?_ fun k hk => absurd (by rw [hσ]; rfl) hk
          · intro e he
            simp [he]
            exact mpSl_ok _ _
          · simp [SlotOk]
            exact ⟨.same (by simp [purel, C.isPure]), .same (by simp [purel, C.isPure]), .same (by simp [purel, C.isPure]), .cons (by simp [mtl, mtc, mT, mF]) (by simp) .nil, rowsM_same (fun _ _ => rfl) fun e he _ => mF_M he rfl⟩
          · simp [mtc, mtl, mT, mF, C.isPure, purel, maxTo, hwk, hk0]
            omega
        · have hrow : ∀ h, (rowsM N kv)[k]'h = [.mp (fk k)] := fun h => by
            have h1 : (rowsM N kv)[k]? = some [.mp (fk k)] := by rw [rowsM_get hc1]; simp [mpC, hk0]
            rw [List.getElem?_eq_getElem h] at h1
            exact Option.some.inj h1
          have hsl : mpSl (kv k) = .live (mapOb (kv k)) := by simp [mpSl, hk0]
          repeat refine awp_seq ?_
          refine awp_reg1 (by rw [hx]; kernel_rfl) fun K hK => ?_
          simp (config := { maxSteps := 1000000 }) [ty111, ty112, rowsM_len, hc1, hrow]
          refine hK _ ?_
          clear hK K
          first | show AWP _ _ _ _ _ | show ∃ _, _ | skip
          repeat refine awp_seq ?_
          refine awp_reg1 (by rw [hx]; kernel_rfl) fun K hK => ?_
          simp (config := { maxSteps := 1000000 }) [ty112, ty3, hc1, hsl]
          refine hK _ ?_
          clear hK K
          first | show AWP _ _ _ _ _ | show ∃ _, _ | skip
          repeat refine awp_seq ?_
          refine awp_reg1 (by rw [hx]; kernel_rfl) fun K hK => ?_
          simp (config := { maxSteps := 1000000 }) [ty3]
          refine hK _ ?_
          clear hK K
          first | show AWP _ _ _ _ _ | show ∃ _, _ | skip
          refine ⟨k + 1, by omega, by omega, ?_⟩
          refine wk_fam fk (by simp) (by simp) (by simp) (fun e he => .inl rfl) ?_ ?_ ?_ fun k hk => absurd (by rw [hσ]; rfl) hk
          · intro e he
            simp [he]
            exact mpSl_ok _ _
          · simp [SlotOk]
            exact ⟨.same (by simp [purel, C.isPure]), .same (by simp [purel, C.isPure]), .same (by simp [purel, C.isPure]), .cons (by simp [mtl, mtc, mT, mF]) (by simp) .nil, rowsM_same (fun _ _ => rfl) fun e he _ => mF_M he rfl⟩
          · simp [mtc, mtl, mT, mF, C.isPure, purel, maxTo, hwk]
            split <;> omega
      · simp at hc1
        repeat refine awp_seq ?_
        refine awp_exit ?_
        first | show AWP _ _ _ _ _ | show ∃ _, _ | skip
        obtain rfl : k = N := by omega
        repeat refine awp_seq ?_
        refine awp_reg1 (by rw [hx]; kernel_rfl) fun K hK => ?_
        simp (config := { maxSteps := 1000000 }) []
        refine hK _ ?_
        clear hK K
        first | show AWP _ _ _ _ _ | show ∃ _, _ | skip
        repeat refine awp_seq ?_
        refine awp_ret ?_
        refine And.intro (Or.inr rfl) ?_
        simp [retC, resC, viewC, mapO, hwn]
  · intro hlt
    simp at hlt

end Go.Proofs.Ytmmoghgpaagnhaa

namespace Go.Proofs.Ytmmoghgpaagnhaa
open Go Go.Abs

set_option maxHeartbeats 4000000

theorem oneB_iff (n : Int) : oneB n = true ↔ n = 1 ∨ n = -1 := by simp [oneB]

def worstI (w : Wh) (l : List Wl) (a b : Int) : Nat := if openI w l (oneB a && oneB b) = 0 then worstN w l a b else 0

theorem openI_is {w : Wh} {l : List Wl} {is : Bool} (h : openI w l is = 0) : is = true := by
  unfold openI at h
  split at h
  · omega
  · split at h
    · omega
    · rename_i h2; simpa using h2

theorem openI_t {w : Wh} {l : List Wl} {is : Bool} (h : openI w l is = 0) : openI w l true = 0 := by
  have := openI_is h
  subst this
  exact h


theorem worst14 (w : Wh) (nl fu : Bool) (l : List Wl) (a b : Int) (hn : l.length ≤ 1000) : Pure Try.prog 14 [encWh w, sWl nl fu l, encI a, encI b] (.tup [encI (worstI w l a b), encI (openI w l (oneB a && oneB b))]) := by
  refine pure_of (fn := Try.f14) [.tmp 8, .tmp 9] ⟨Try.func14, rfl, by kernel_rfl⟩ (by kernel_rfl) (by kernel_rfl) (by kernel_rfl) fun x hx hσ => ?_
  repeat refine awp_seq ?_
  refine awp_reg1 (by rw [hx]; kernel_rfl) fun K hK => ?_
  simp (config := { maxSteps := 1000000 }) [ty25]
  refine hK _ ?_
  clear hK K
  first | show AWP _ _ _ _ _ | show ∃ _, _ | skip
  cases ha : oneB a
  · have h1 := one50 a
    rw [ha] at h1
    repeat refine awp_seq ?_
    refine awp_drw3 [] [0, 1, 2, 3, 4, 5, 6, 7, 8, 9, 10, 11, 12, 13, 14] (by rw [hx]; kernel_rfl) (by kernel_rfl) (by kernel_rfl) (by kernel_rfl) fun K hK => ?_
    simp (config := { maxSteps := 1000000 }) [ty25, ty79]
    refine callPD (h1) (by first | (simp; done) | (simp [*]; done)) (by simp) ?_
    simp (config := { maxSteps := 1000000 }) [ty79]
    refine callPD (open49 w nl fu false l hn) (by first | (simp; done) | (simp [*]; done)) (by simp) ?_
    simp (config := { maxSteps := 1000000 }) [ty79]
    refine hK _ ?_
    clear hK K
    first | show AWP _ _ _ _ _ | show ∃ _, _ | skip
    repeat refine awp_seq ?_
    refine awp_reg1 (by rw [hx]; kernel_rfl) fun K hK => ?_
    simp (config := { maxSteps := 1000000 }) [ty31]
    refine hK _ ?_
    clear hK K
    first | show AWP _ _ _ _ _ | show ∃ _, _ | skip
    by_cases hz : openI w l false = 0
    · obtain ⟨hc0, _, hT⟩ := openI_ok (openI_t hz)
      obtain ⟨hw, hl, h8⟩ := checkI_ok hc0
      have his := openI_is hz
      have hb' : oneB b = true := (absurd his (by simp))
      repeat refine awp_seq ?_
      refine awp_cond (by simp [hz]; rfl) (by rw [hx]; simp) (fun hd => ?_) (fun hd => ?_)
      · simp at hd
      · clear hd
        refine awp_skip ?_
        first | show AWP _ _ _ _ _ | show ∃ _, _ | skip
        repeat refine awp_seq ?_
        refine awp_reg1 (by rw [hx]; kernel_rfl) fun K hK => ?_
        simp (config := { maxSteps := 1000000 }) [ty79]
        refine callP (worst51 w nl fu l a b hw hl hn ((oneB_iff a).1 (absurd his (by simp))) ((oneB_iff b).1 hb')) (by first | (simp; done) | (simp [*]; done)) ?_
        simp (config := { maxSteps := 1000000 }) [ty79]
        refine hK _ ?_
        clear hK K
        first | show AWP _ _ _ _ _ | show ∃ _, _ | skip
        repeat refine awp_seq ?_
        refine awp_ret ?_
        refine And.intro (Or.inr rfl) ?_
        simp [retC, resC, viewC, mapO, worstI, ha, hz]
    · repeat refine awp_seq ?_
      refine awp_cond (by simp [hz]; rfl) (by rw [hx]; simp) (fun hd => ?_) (fun hd => ?_)
      · clear hd
        repeat refine awp_seq ?_
        refine awp_reg1 (by rw [hx]; kernel_rfl) fun K hK => ?_
        simp (config := { maxSteps := 1000000 }) []
        refine hK _ ?_
        clear hK K
        first | show AWP _ _ _ _ _ | show ∃ _, _ | skip
        repeat refine awp_seq ?_
        refine awp_ret ?_
        refine And.intro (Or.inr rfl) ?_
        simp [retC, resC, viewC, mapO, worstI, ha, hz]
      · simp [hz] at hd
  · have h1 := one50 a
    have h2 := one50 b
    rw [ha] at h1
    repeat refine awp_seq ?_
    refine awp_drw3 [] [0, 1, 2, 3, 4, 5, 6, 7, 8, 9, 10, 11, 12, 13, 14] (by rw [hx]; kernel_rfl) (by kernel_rfl) (by kernel_rfl) (by kernel_rfl) fun K hK => ?_
    simp (config := { maxSteps := 1000000 }) [ty25, ty79]
    refine callPD (h1) (by first | (simp; done) | (simp [*]; done)) (by simp) ?_
    simp (config := { maxSteps := 1000000 }) [ty79]
    refine callPD (h2) (by first | (simp; done) | (simp [*]; done)) (by simp) ?_
    simp (config := { maxSteps := 1000000 }) [ty79]
    refine callPD (open49 w nl fu (oneB b) l hn) (by first | (simp; done) | (simp [*]; done)) (by simp) ?_
    simp (config := { maxSteps := 1000000 }) [ty79]
    refine hK _ ?_
    clear hK K
    first | show AWP _ _ _ _ _ | show ∃ _, _ | skip
    repeat refine awp_seq ?_
    refine awp_reg1 (by rw [hx]; kernel_rfl) fun K hK => ?_
    simp (config := { maxSteps := 1000000 }) [ty31]
    refine hK _ ?_
    clear hK K
    first | show AWP _ _ _ _ _ | show ∃ _, _ | skip
    by_cases hz : openI w l (oneB b) = 0
    · obtain ⟨hc0, _, hT⟩ := openI_ok (openI_t hz)
      obtain ⟨hw, hl, h8⟩ := checkI_ok hc0
      have his := openI_is hz
      have hb' : oneB b = true := his
      repeat refine awp_seq ?_
      refine awp_cond (by simp [hz]; rfl) (by rw [hx]; simp) (fun hd => ?_) (fun hd => ?_)
      · simp at hd
      · clear hd
        refine awp_skip ?_
        first | show AWP _ _ _ _ _ | show ∃ _, _ | skip
        repeat refine awp_seq ?_
        refine awp_reg1 (by rw [hx]; kernel_rfl) fun K hK => ?_
        simp (config := { maxSteps := 1000000 }) [ty79]
        refine callP (worst51 w nl fu l a b hw hl hn ((oneB_iff a).1 ha) ((oneB_iff b).1 hb')) (by first | (simp; done) | (simp [*]; done)) ?_
        simp (config := { maxSteps := 1000000 }) [ty79]
        refine hK _ ?_
        clear hK K
        first | show AWP _ _ _ _ _ | show ∃ _, _ | skip
        repeat refine awp_seq ?_
        refine awp_ret ?_
        refine And.intro (Or.inr rfl) ?_
        simp [retC, resC, viewC, mapO, worstI, ha, hz]
    · repeat refine awp_seq ?_
      refine awp_cond (by simp [hz]; rfl) (by rw [hx]; simp) (fun hd => ?_) (fun hd => ?_)
      · clear hd
        repeat refine awp_seq ?_
        refine awp_reg1 (by rw [hx]; kernel_rfl) fun K hK => ?_
        simp (config := { maxSteps := 1000000 }) []
        refine hK _ ?_
        clear hK K
        first | show AWP _ _ _ _ _ | show ∃ _, _ | skip
        repeat refine awp_seq ?_
        refine awp_ret ?_
        refine And.intro (Or.inr rfl) ?_
        simp [retC, resC, viewC, mapO, worstI, ha, hz]
      · simp [hz] at hd

end Go.Proofs.Ytmmoghgpaagnhaa

namespace Go.Proofs.Ytmmoghgpaagnhaa
open Go Go.Abs

set_option maxHeartbeats 4000000

-- the reference's Check

theorem ref31 (w : Wh) (nl fu : Bool) (l : List Wl) (hn : l.length ≤ 1000) : Pure Try.prog 31 [encWh w, sWl nl fu l] (encI (checkI w l)) := by
  refine pure_of (fn := Try.f31) [.tmp 4] ⟨Try.func31, rfl, by kernel_rfl⟩ (by kernel_rfl) (by kernel_rfl) (by kernel_rfl) fun x hx hσ => ?_
  repeat refine awp_seq ?_
  refine awp_reg1 (by rw [hx]; kernel_rfl) fun K hK => ?_
  simp (config := { maxSteps := 1000000 }) [ty25]
  refine hK _ ?_
  clear hK K
  first | show AWP _ _ _ _ _ | show ∃ _, _ | skip
  repeat refine awp_seq ?_
  refine awp_reg1 (by rw [hx]; kernel_rfl) fun K hK => ?_
  simp (config := { maxSteps := 1000000 }) [ty25]
  refine callP (isWheel67 w) (by first | (simp; done) | (simp [*]; done)) ?_
  simp (config := { maxSteps := 1000000 }) []
  refine hK _ ?_
  clear hK K
  first | show AWP _ _ _ _ _ | show ∃ _, _ | skip
  cases hb : wheelB w
  · repeat refine awp_seq ?_
    refine awp_cond (by simp [hb]; rfl) (by rw [hx]; simp) (fun hd => ?_) (fun hd => ?_)
    · clear hd
      repeat refine awp_seq ?_
      refine awp_reg1 (by rw [hx]; kernel_rfl) fun K hK => ?_
      simp (config := { maxSteps := 1000000 }) []
      refine hK _ ?_
      clear hK K
      first | show AWP _ _ _ _ _ | show ∃ _, _ | skip
      repeat refine awp_seq ?_
      refine awp_ret ?_
      refine And.intro (Or.inr rfl) ?_
      simp [retC, resC, viewC, mapO, checkI, hb]
    · simp at hd
  · have hw := wheelB_iff.1 hb
    repeat refine awp_seq ?_
    refine awp_cond (by simp [hb]; rfl) (by rw [hx]; simp) (fun hd => ?_) (fun hd => ?_)
    · simp at hd
    · clear hd
      refine awp_skip ?_
      first | show AWP _ _ _ _ _ | show ∃ _, _ | skip
      repeat refine awp_seq ?_
      refine awp_reg1 (by rw [hx]; kernel_rfl) fun K hK => ?_
      simp (config := { maxSteps := 1000000 }) []
      refine hK _ ?_
      clear hK K
      first | show AWP _ _ _ _ _ | show ∃ _, _ | skip
      repeat refine awp_seq ?_
      refine awp_block ?_
      refine awp_loop (fun i : Nat => ⟨ofL [(1, sWl nl fu l), (2, .ptr 2 8 0 0), (5, encI i)], stoT [(2, 2, .live (obWh w))]⟩)
        (fun i => i ≤ l.length ∧ ∀ j (hj : j < l.length), j < i → walkB w l[j] = true) (fun i => l.length - i) 0 ⟨Nat.zero_le _, fun j hj h => by omega⟩ ?_ ?_
      · refine wk_shape (shp0 hσ (by simp) (by simp) ?_) ?_
        · simp [SlotOk] <;> (repeat' (first | exact .same (by simp [purel, C.isPure]) | exact .cons (by simp [mtl, mtc, mT, mH, C.isPure, purel]) (by simp) .nil | refine And.intro ?_ ?_))
        · simp [mtc, mtl, mT, C.isPure, purel] <;> (try simp (disch := omega) [wrap_id]) <;> (try omega)
      · rintro i ⟨hi, hj⟩
        repeat refine awp_seq ?_
        refine awp_reg1 (by rw [hx]; kernel_rfl) fun K hK => ?_
        simp (config := { maxSteps := 1000000 }) [ty26, ty3]
        refine hK _ ?_
        clear hK K
        first | show AWP _ _ _ _ _ | show ∃ _, _ | skip
        repeat refine awp_seq ?_
        refine awp_cond (by simp; rfl) (by rw [hx]; simp) (fun hc => ?_) (fun hc => ?_)
        · simp at hc
          refine awp_skip ?_
          first | show AWP _ _ _ _ _ | show ∃ _, _ | skip
          repeat refine awp_seq ?_
          refine awp_block ?_
          repeat refine awp_seq ?_
          refine awp_drw3 [] [0, 1, 2, 3, 4, 5, 6] (by rw [hx]; kernel_rfl) (by kernel_rfl) (by kernel_rfl) (by kernel_rfl) fun K hK => ?_
          simp (config := { maxSteps := 1000000 }) [ty25, ty26, ty39, hc]
          refine callPD (isWalk25 w l[i] (by have := hw.full; omega)) (by first | (simp; done) | (simp [*]; done)) (by simp) ?_
          simp (config := { maxSteps := 1000000 }) [ty39]
          refine hK _ ?_
          clear hK K
          first | show AWP _ _ _ _ _ | show ∃ _, _ | skip
          cases ha : walkB w l[i]
          · repeat refine awp_seq ?_
            refine awp_cond (by simp [ha]; rfl) (by rw [hx]; simp) (fun hd => ?_) (fun hd => ?_)
            · clear hd
              repeat refine awp_seq ?_
              refine awp_reg1 (by rw [hx]; kernel_rfl) fun K hK => ?_
              simp (config := { maxSteps := 1000000 }) []
              refine hK _ ?_
              clear hK K
              first | show AWP _ _ _ _ _ | show ∃ _, _ | skip
              repeat refine awp_seq ?_
              refine awp_ret ?_
              refine And.intro (Or.inr rfl) ?_
              have : l.all (walkB w) = false := by
                rw [Bool.eq_false_iff]
                intro h
                rw [List.all_eq_true] at h
                rw [h _ (List.getElem_mem hc)] at ha
                cases ha
              simp [retC, resC, viewC, mapO, checkI, hb, this]
            · simp at hd
          · repeat refine awp_seq ?_
            refine awp_cond (by simp [ha]; rfl) (by rw [hx]; simp) (fun hd => ?_) (fun hd => ?_)
            · simp at hd
            · clear hd
              refine awp_skip ?_
              first | show AWP _ _ _ _ _ | show ∃ _, _ | skip
              repeat refine awp_seq ?_
              refine awp_reg1 (by rw [hx]; kernel_rfl) fun K hK => ?_
              simp (config := { maxSteps := 1000000 }) [ty3]
              refine hK _ ?_
              clear hK K
              first | show AWP _ _ _ _ _ | show ∃ _, _ | skip
              rw [wrap_id (by omega) (by omega)]
              refine ⟨i + 1, ⟨by omega, fun j hj' h => ?_⟩, by omega, ?_⟩
              · by_cases e : j = i
                · subst e; exact ha
                · exact hj j hj' (by omega)
              · refine wk_shape (shp0 hσ (by simp) (by simp) ?_) ?_
                · simp [SlotOk] <;> (repeat' (first | exact .same (by simp [purel, C.isPure]) | exact .cons (by simp [mtl, mtc, mT, mH, C.isPure, purel]) (by simp) .nil | refine And.intro ?_ ?_))
                · simp [mtc, mtl, mT, C.isPure, purel] <;> (try simp (disch := omega) [wrap_id]) <;> (try omega)
        · simp at hc
          repeat refine awp_seq ?_
          refine awp_exit ?_
          first | show AWP _ _ _ _ _ | show ∃ _, _ | skip
          have hall : l.all (walkB w) = true := by
            rw [List.all_eq_true]
            intro y hy
            obtain ⟨i', hi', rfl⟩ := List.getElem_of_mem hy
            exact hj i' hi' (by omega)
          by_cases hl8 : (8 : Int) < (l.length : Int)
          · repeat refine awp_seq ?_
            refine awp_reg1 (by rw [hx]; kernel_rfl) fun K hK => ?_
            simp (config := { maxSteps := 1000000 }) [ty26, ty3, hl8]
            refine hK _ ?_
            clear hK K
            first | show AWP _ _ _ _ _ | show ∃ _, _ | skip
            repeat refine awp_seq ?_
            refine awp_cond (by simp [hl8]; rfl) (by rw [hx]; simp) (fun hd => ?_) (fun hd => ?_)
            · clear hd
              repeat refine awp_seq ?_
              refine awp_reg1 (by rw [hx]; kernel_rfl) fun K hK => ?_
              simp (config := { maxSteps := 1000000 }) []
              refine hK _ ?_
              clear hK K
              first | show AWP _ _ _ _ _ | show ∃ _, _ | skip
              repeat refine awp_seq ?_
              refine awp_ret ?_
              refine And.intro (Or.inr rfl) ?_
              simp [retC, resC, viewC, mapO, checkI, hb]
              omega
            · simp at hd
          · repeat refine awp_seq ?_
            refine awp_reg1 (by rw [hx]; kernel_rfl) fun K hK => ?_
            simp (config := { maxSteps := 1000000 }) [ty26, ty3, hl8]
            refine hK _ ?_
            clear hK K
            first | show AWP _ _ _ _ _ | show ∃ _, _ | skip
            repeat refine awp_seq ?_
            refine awp_cond (by simp [hl8]; rfl) (by rw [hx]; simp) (fun hd => ?_) (fun hd => ?_)
            · simp at hd
            · clear hd
              refine awp_skip ?_
              first | show AWP _ _ _ _ _ | show ∃ _, _ | skip
              repeat refine awp_seq ?_
              refine awp_reg1 (by rw [hx]; kernel_rfl) fun K hK => ?_
              simp (config := { maxSteps := 1000000 }) []
              refine hK _ ?_
              clear hK K
              first | show AWP _ _ _ _ _ | show ∃ _, _ | skip
              repeat refine awp_seq ?_
              refine awp_ret ?_
              refine And.intro (Or.inr rfl) ?_
              simp [retC, resC, viewC, mapO, checkI, hb, hall]
              omega

-- IsRight

theorem right_iff {w : Wh} {x : Wl} {t : Tr} (hw : WhOk w) (hx : WlOk w x) : rightB w x t = true ↔ ∃ s o : Int, (0 ≤ s ∧ s ≤ w.slip) ∧ (-2 * w.read ≤ o ∧ o ≤ 2 * w.read) ∧ w.full ∣ x.fin - x.start - (x.sense * (t.area - x.inside * w.circle - s) + x.side * t.skew + o) := by
  have hf := hw.full
  have hr := hw.read
  have hs := hw.slip
  unfold rightB
  simp only [decide_eq_true_eq]
  generalize x.inside * w.circle = ci
  generalize x.side * t.skew = sk
  generalize w.full = F at *
  have key : ∀ (Z lo hi : Int), (Z - lo) % F ≤ hi - lo ↔ ∃ v, lo ≤ v ∧ v ≤ hi ∧ F ∣ Z - v := by
    intro Z lo hi
    have h1 := Int.emod_nonneg (Z - lo) (show F ≠ 0 by omega)
    have h3 := Int.emod_add_mul_ediv (Z - lo) F
    constructor
    · intro h
      refine ⟨lo + (Z - lo) % F, by omega, by omega, (Z - lo) / F, by omega⟩
    · rintro ⟨v, g1, g2, q, g3⟩
      have : Z - lo = (v - lo) + F * q := by omega
      rw [this, Int.add_mul_emod_self_left]
      have h4 := Int.emod_add_mul_ediv (v - lo) F
      have h5 : 0 ≤ (v - lo) / F := Int.ediv_nonneg (by omega) (by omega)
      have h6 : 0 ≤ F * ((v - lo) / F) := Int.mul_nonneg (by omega) h5
      omega
  rcases hx.sense with e | e
  · rw [e]
    simp only [show (1 : Int) > 0 by decide, if_true]
    rw [key]
    constructor
    · rintro ⟨v, g1, g2, g3⟩
      by_cases h : v < -2 * w.read
      · exact ⟨-2 * w.read - v, -2 * w.read, by omega, by omega, by rw [show x.fin - x.start - (1 * (t.area - ci - (-2 * w.read - v)) + sk + -2 * w.read) = x.fin - x.start - (1 * (t.area - ci) + sk) - v by omega]; exact g3⟩
      · exact ⟨0, v, by omega, by omega, by rw [show x.fin - x.start - (1 * (t.area - ci - 0) + sk + v) = x.fin - x.start - (1 * (t.area - ci) + sk) - v by omega]; exact g3⟩
    · rintro ⟨s, o, g1, g2, g3⟩
      exact ⟨o - s, by omega, by omega, by rw [show x.fin - x.start - (1 * (t.area - ci) + sk) - (o - s) = x.fin - x.start - (1 * (t.area - ci - s) + sk + o) by omega]; exact g3⟩
  · rw [e]
    simp only [show ¬ (-1 : Int) > 0 by decide, if_false]
    rw [key]
    constructor
    · rintro ⟨v, g1, g2, g3⟩
      by_cases h : v > 2 * w.read
      · exact ⟨v - 2 * w.read, 2 * w.read, by omega, by omega, by rw [show x.fin - x.start - (-1 * (t.area - ci - (v - 2 * w.read)) + sk + 2 * w.read) = x.fin - x.start - (-1 * (t.area - ci) + sk) - v by omega]; exact g3⟩
      · exact ⟨0, v, by omega, by omega, by rw [show x.fin - x.start - (-1 * (t.area - ci - 0) + sk + v) = x.fin - x.start - (-1 * (t.area - ci) + sk) - v by omega]; exact g3⟩
    · rintro ⟨s, o, g1, g2, g3⟩
      exact ⟨o + s, by omega, by omega, by rw [show x.fin - x.start - (-1 * (t.area - ci) + sk) - (o + s) = x.fin - x.start - (-1 * (t.area - ci - s) + sk + o) by omega]; exact g3⟩

@[simp] abbrev obWl (x : Wl) : Ob := ⟨false, false, 5, [cWl x]⟩
@[simp] abbrev obTr (t : Tr) : Ob := ⟨false, false, 2, [cTr t]⟩

theorem ref43 (w : Wh) (y : Wl) (t : Tr) (hw : WhOk w) (hx0 : WlOk w y) (ht : TrOk t) : Pure Try.prog 43 [encWh w, encWl y, encTr t] (.bool (rightB w y t)) := by
  obtain ⟨b1, b2, b3⟩ := roll_bd hw hx0 ht
  have hri := right_iff (t := t) hw hx0
  have hf := hw.full
  have hr := hw.read
  have hs := hw.slip
  have y1 := hx0.start
  have y2 := hx0.fin
  have a1 := ht.area
  obtain ⟨S, hS⟩ : ∃ S : Nat, w.slip = S := ⟨w.slip.toNat, by omega⟩
  obtain ⟨R, hR⟩ : ∃ R : Nat, 2 * w.read = R := ⟨(2 * w.read).toNat, by omega⟩
  obtain ⟨hit, hhit⟩ : ∃ hit : Nat → Nat → Prop, hit = fun (s o : Nat) => w.full ∣ y.fin - y.start - (y.sense * (t.area - y.inside * w.circle - (s : Int)) + y.side * t.skew + (-2 * w.read + (o : Int))) := ⟨_, rfl⟩
  refine pure_of (fn := Try.f43) [.tmp 6] ⟨Try.func43, rfl, by kernel_rfl⟩ (by kernel_rfl) (by kernel_rfl) (by kernel_rfl) fun x hx hσ => ?_
  repeat refine awp_seq ?_
  refine awp_reg1 (by rw [hx]; kernel_rfl) fun K hK => ?_
  simp (config := { maxSteps := 1000000 }) [ty25, ty39, ty61]
  refine hK _ ?_
  clear hK K
  first | show AWP _ _ _ _ _ | show ∃ _, _ | skip
  repeat refine awp_seq ?_
  refine awp_reg1 (by rw [hx]; kernel_rfl) fun K hK => ?_
  simp (config := { maxSteps := 1000000 }) []
  refine hK _ ?_
  clear hK K
  first | show AWP _ _ _ _ _ | show ∃ _, _ | skip
  repeat refine awp_seq ?_
  refine awp_block ?_
  refine awp_loop (fun s : Nat => ⟨ofL [(3, .ptr 3 8 0 0), (4, .ptr 4 5 0 0), (5, .ptr 5 2 0 0), (7, encI s)], stoT [(3, 3, .live (obWh w)), (4, 4, .live (obWl y)), (5, 5, .live (obTr t))]⟩)
    (fun s => s ≤ S + 1 ∧ ∀ s', s' < s → ∀ o, o ≤ 2 * R → ¬ hit s' o) (fun s => S + 1 - s) 0 ⟨Nat.zero_le _, fun s' h => by omega⟩ ?_ ?_
  · refine wk_shape (shp0 hσ (by simp) (by simp) ?_) ?_
    · simp [SlotOk] <;> (repeat' (first | exact .same (by simp [purel, C.isPure]) | exact .cons (by simp [mtl, mtc, mT, mH, C.isPure, purel]) (by simp) .nil | refine And.intro ?_ ?_))
    · simp [mtc, mtl, mT, C.isPure, purel] <;> (try simp (disch := omega) [wrap_id]) <;> (try omega)
  · rintro s ⟨hsS, hno⟩
    repeat refine awp_seq ?_
    refine awp_reg1 (by rw [hx]; kernel_rfl) fun K hK => ?_
    simp (config := { maxSteps := 1000000 }) [ty25, ty3]
    refine hK _ ?_
    clear hK K
    first | show AWP _ _ _ _ _ | show ∃ _, _ | skip
    repeat refine awp_seq ?_
    refine awp_cond (by simp; rfl) (by rw [hx]; simp) (fun hc => ?_) (fun hc => ?_)
    · simp at hc
      refine awp_skip ?_
      first | show AWP _ _ _ _ _ | show ∃ _, _ | skip
      repeat refine awp_seq ?_
      refine awp_block ?_
      repeat refine awp_seq ?_
      refine awp_reg1 (by rw [hx]; kernel_rfl) fun K hK => ?_
      simp (config := { maxSteps := 1000000 }) [ty25, ty3]
      refine hK _ ?_
      clear hK K
      first | show AWP _ _ _ _ _ | show ∃ _, _ | skip
      rw [wrap_id (z := -2 * w.read) (by omega) (by omega)]
      repeat refine awp_seq ?_
      refine awp_block ?_
      refine awp_loop (fun o : Nat => ⟨ofL [(3, .ptr 3 8 0 0), (4, .ptr 4 5 0 0), (5, .ptr 5 2 0 0), (7, encI s), (8, encI (-2 * w.read + o))], stoT [(3, 3, .live (obWh w)), (4, 4, .live (obWl y)), (5, 5, .live (obTr t))]⟩)
        (fun o => o ≤ 2 * R + 1 ∧ ∀ o', o' < o → ¬ hit s o') (fun o => 2 * R + 1 - o) 0 ⟨Nat.zero_le _, fun s' h => by omega⟩ ?_ ?_
      · refine wk_shape (shp0 hσ (by simp) (by simp) ?_) ?_
        · simp [SlotOk] <;> (repeat' (first | exact .same (by simp [purel, C.isPure]) | exact .cons (by simp [mtl, mtc, mT, mH, C.isPure, purel]) (by simp) .nil | refine And.intro ?_ ?_))
        · simp [mtc, mtl, mT, C.isPure, purel] <;> (try simp (disch := omega) [wrap_id]) <;> (try omega)
      · rintro o ⟨hoR, hno2⟩
        repeat refine awp_seq ?_
        refine awp_reg1 (by rw [hx]; kernel_rfl) fun K hK => ?_
        simp (config := { maxSteps := 1000000 }) [ty25, ty3]
        refine hK _ ?_
        clear hK K
        first | show AWP _ _ _ _ _ | show ∃ _, _ | skip
        rw [wrap_id (z := 2 * w.read) (by omega) (by omega)]
        repeat refine awp_seq ?_
        refine awp_cond (by simp; rfl) (by rw [hx]; simp) (fun hc2 => ?_) (fun hc2 => ?_)
        · simp at hc2
          refine awp_skip ?_
          first | show AWP _ _ _ _ _ | show ∃ _, _ | skip
          repeat refine awp_seq ?_
          refine awp_block ?_
          have g1 : -10100 ≤ y.sense * (t.area - y.inside * w.circle - s) ∧ y.sense * (t.area - y.inside * w.circle - s) ≤ 10100 := by
            rcases hx0.sense with e | e <;> rw [e] <;> omega
          have e1 := wrap_id (z := y.inside * w.circle) (by omega) (by omega)
          have e2 := wrap_id (z := t.area - y.inside * w.circle) (by omega) (by omega)
          have e3 := wrap_id (z := t.area - y.inside * w.circle - s) (by omega) (by omega)
          have e4 := wrap_id (z := y.sense * (t.area - y.inside * w.circle - s)) (by omega) (by omega)
          have e5 := wrap_id (z := y.side * t.skew) (by omega) (by omega)
          have e6 := wrap_id (z := y.sense * (t.area - y.inside * w.circle - s) + y.side * t.skew) (by omega) (by omega)
          have e7 := wrap_id (z := y.sense * (t.area - y.inside * w.circle - s) + y.side * t.skew + (-2 * w.read + o)) (by omega) (by omega)
          repeat refine awp_seq ?_
          refine awp_reg1 (by rw [hx]; kernel_rfl) fun K hK => ?_
          simp (config := { maxSteps := 1000000 }) [ty25, ty39, ty61, ty3, e1, e2, e3, e4, e5, e6, e7]
          refine hK _ ?_
          clear hK K
          first | show AWP _ _ _ _ _ | show ∃ _, _ | skip
          have e8 := wrap_id (z := y.fin - y.start) (by omega) (by omega)
          have e9 := wrap_id (z := y.fin - y.start - (y.sense * (t.area - y.inside * w.circle - s) + y.side * t.skew + (-2 * w.read + o))) (by omega) (by omega)
          have hf0 : w.full ≠ 0 := by omega
          have hbd := tmod_bd (a := y.fin - y.start - (y.sense * (t.area - y.inside * w.circle - s) + y.side * t.skew + (-2 * w.read + o))) (f := w.full) (by omega)
          have hdv : hit s o ↔ (y.fin - y.start - (y.sense * (t.area - y.inside * w.circle - s) + y.side * t.skew + (-2 * w.read + o))).tmod w.full = 0 := by
            rw [hhit]; exact Int.dvd_iff_tmod_eq_zero
          have e10 := wrap_id (z := (y.fin - y.start - (y.sense * (t.area - y.inside * w.circle - s) + y.side * t.skew + (-2 * w.read + o))).tmod w.full) (by omega) (by omega)
          repeat refine awp_seq ?_
          refine awp_reg1 (by rw [hx]; kernel_rfl) fun K hK => ?_
          simp (config := { maxSteps := 1000000 }) [ty25, ty39, ty3, e8, e9, hf0, e10]
          refine hK _ ?_
          clear hK K
          first | show AWP _ _ _ _ _ | show ∃ _, _ | skip
          by_cases hh : hit s o
          · have hz := hdv.1 hh
            repeat refine awp_seq ?_
            refine awp_cond (by simp [hz]; rfl) (by rw [hx]; simp) (fun hd => ?_) (fun hd => ?_)
            · clear hd
              repeat refine awp_seq ?_
              refine awp_reg1 (by rw [hx]; kernel_rfl) fun K hK => ?_
              simp (config := { maxSteps := 1000000 }) []
              refine hK _ ?_
              clear hK K
              first | show AWP _ _ _ _ _ | show ∃ _, _ | skip
              repeat refine awp_seq ?_
              refine awp_ret ?_
              refine And.intro (Or.inr rfl) ?_
              have : rightB w y t = true := hri.2 ⟨s, -2 * w.read + o, by omega, by omega, by rw [hhit] at hh; exact hh⟩
              rw [this]
              simp [retC, resC, viewC, mapO]
            · simp [hz] at hd
          · have hz : (y.fin - y.start - (y.sense * (t.area - y.inside * w.circle - s) + y.side * t.skew + (-2 * w.read + o))).tmod w.full ≠ 0 := fun e => hh (hdv.2 e)
            repeat refine awp_seq ?_
            refine awp_cond (by simp [hz]; rfl) (by rw [hx]; simp) (fun hd => ?_) (fun hd => ?_)
            · simp [hz] at hd
            · clear hd
              refine awp_skip ?_
              first | show AWP _ _ _ _ _ | show ∃ _, _ | skip
              repeat refine awp_seq ?_
              refine awp_reg1 (by rw [hx]; kernel_rfl) fun K hK => ?_
              simp (config := { maxSteps := 1000000 }) [ty3]
              refine hK _ ?_
              clear hK K
              first | show AWP _ _ _ _ _ | show ∃ _, _ | skip
              rw [wrap_id (z := -2 * w.read + o + 1) (by omega) (by omega)]
              refine ⟨o + 1, ⟨by omega, fun o' h => ?_⟩, by omega, ?_⟩
              · by_cases e : o' = o
                · subst e; exact hh
                · exact hno2 o' (by omega)
              · refine wk_shape (shp0 hσ (by simp) (by simp) ?_) ?_
                · simp [SlotOk] <;> (repeat' (first | exact .same (by simp [purel, C.isPure]) | exact .cons (by simp [mtl, mtc, mT, mH, C.isPure, purel]) (by simp) .nil | refine And.intro ?_ ?_))
                · simp [mtc, mtl, mT, C.isPure, purel] <;> (try simp (disch := omega) [wrap_id]) <;> (try omega)
        · simp at hc2
          repeat refine awp_seq ?_
          refine awp_exit ?_
          first | show AWP _ _ _ _ _ | show ∃ _, _ | skip
          repeat refine awp_seq ?_
          refine awp_reg1 (by rw [hx]; kernel_rfl) fun K hK => ?_
          simp (config := { maxSteps := 1000000 }) [ty3]
          refine hK _ ?_
          clear hK K
          first | show AWP _ _ _ _ _ | show ∃ _, _ | skip
          rw [wrap_id (by omega) (by omega)]
          refine ⟨s + 1, ⟨by omega, fun s' h => ?_⟩, by omega, ?_⟩
          · by_cases e : s' = s
            · subst e; exact fun o' ho' => hno2 o' (by omega)
            · exact hno s' (by omega)
          · refine wk_shape (shp0 hσ (by simp) (by simp) ?_) ?_
            · simp [SlotOk] <;> (repeat' (first | exact .same (by simp [purel, C.isPure]) | exact .cons (by simp [mtl, mtc, mT, mH, C.isPure, purel]) (by simp) .nil | refine And.intro ?_ ?_))
            · simp [mtc, mtl, mT, C.isPure, purel] <;> (try simp (disch := omega) [wrap_id]) <;> (try omega)
    · simp at hc
      repeat refine awp_seq ?_
      refine awp_exit ?_
      first | show AWP _ _ _ _ _ | show ∃ _, _ | skip
      repeat refine awp_seq ?_
      refine awp_reg1 (by rw [hx]; kernel_rfl) fun K hK => ?_
      simp (config := { maxSteps := 1000000 }) []
      refine hK _ ?_
      clear hK K
      first | show AWP _ _ _ _ _ | show ∃ _, _ | skip
      repeat refine awp_seq ?_
      refine awp_ret ?_
      refine And.intro (Or.inr rfl) ?_
      have : rightB w y t = false := by
        rw [Bool.eq_false_iff]
        intro h
        obtain ⟨s0, o0, q1, q2, q3⟩ := hri.1 h
        refine hno s0.toNat (by omega) (o0 + 2 * w.read).toNat (by omega) ?_
        rw [hhit]
        have h1 : ((s0.toNat : Nat) : Int) = s0 := by omega
        have h2 : -2 * w.read + (((o0 + 2 * w.read).toNat : Nat) : Int) = o0 := by omega
        simp only [h1, h2]
        exact q3
      rw [this]
      simp [retC, resC, viewC, mapO]

end Go.Proofs.Ytmmoghgpaagnhaa

namespace Go.Proofs.Ytmmoghgpaagnhaa
open Go Go.Abs

set_option maxHeartbeats 4000000

theorem ref42 (w : Wh) (nl fu : Bool) (l : List Wl) (t : Tr) (hw : WhOk w) (hl : ∀ y ∈ l, WlOk w y) (hn : l.length ≤ 1000) (ht : TrOk t) : Pure Try.prog 42 [encWh w, sWl nl fu l, encTr t] (encI (wrongsN w l t)) := by
  refine pure_of (fn := Try.f42) [.tmp 6] ⟨Try.func42, rfl, by kernel_rfl⟩ (by kernel_rfl) (by kernel_rfl) (by kernel_rfl) fun x hx hσ => ?_
  repeat refine awp_seq ?_
  refine awp_reg1 (by rw [hx]; kernel_rfl) fun K hK => ?_
  simp (config := { maxSteps := 1000000 }) [ty25, ty61]
  refine hK _ ?_
  clear hK K
  first | show AWP _ _ _ _ _ | show ∃ _, _ | skip
  repeat refine awp_seq ?_
  refine awp_reg1 (by rw [hx]; kernel_rfl) fun K hK => ?_
  simp (config := { maxSteps := 1000000 }) []
  refine hK _ ?_
  clear hK K
  first | show AWP _ _ _ _ _ | show ∃ _, _ | skip
  repeat refine awp_seq ?_
  refine awp_reg1 (by rw [hx]; kernel_rfl) fun K hK => ?_
  simp (config := { maxSteps := 1000000 }) []
  refine hK _ ?_
  clear hK K
  first | show AWP _ _ _ _ _ | show ∃ _, _ | skip
  repeat refine awp_seq ?_
  refine awp_block ?_
  refine awp_loop (fun i : Nat => ⟨ofL [(1, sWl nl fu l), (3, .ptr 3 8 0 0), (5, .ptr 5 2 0 0), (7, encI (wrongsN w (l.take i) t)), (8, encI i)], stoT [(3, 3, .live (obWh w)), (5, 5, .live (obTr t))]⟩)
    (fun i => i ≤ l.length) (fun i => l.length - i) 0 (by simp) ?_ ?_
  · refine wk_shape (shp0 hσ (by simp) (by simp) ?_) ?_
    · simp [SlotOk] <;> (repeat' (first | exact .same (by simp [purel, C.isPure]) | exact .cons (by simp [mtl, mtc, mT, mH, C.isPure, purel]) (by simp) .nil | refine And.intro ?_ ?_))
    · simp [mtc, mtl, mT, C.isPure, purel, wrongsN] <;> (try simp (disch := omega) [wrap_id]) <;> (try omega)
  · intro i hi
    repeat refine awp_seq ?_
    refine awp_reg1 (by rw [hx]; kernel_rfl) fun K hK => ?_
    simp (config := { maxSteps := 1000000 }) [ty26, ty3]
    refine hK _ ?_
    clear hK K
    first | show AWP _ _ _ _ _ | show ∃ _, _ | skip
    repeat refine awp_seq ?_
    refine awp_cond (by simp; rfl) (by rw [hx]; simp) (fun hc => ?_) (fun hc => ?_)
    · simp at hc
      refine awp_skip ?_
      first | show AWP _ _ _ _ _ | show ∃ _, _ | skip
      repeat refine awp_seq ?_
      refine awp_block ?_
      repeat refine awp_seq ?_
      refine awp_drw3 [] [0, 1, 2, 3, 4, 5, 6, 7] (by rw [hx]; kernel_rfl) (by kernel_rfl) (by kernel_rfl) (by kernel_rfl) fun K hK => ?_
      simp (config := { maxSteps := 1000000 }) [ty25, ty26, ty39, ty61, hc]
      refine callPD (ref43 w l[i] t hw (hl _ (List.getElem_mem hc)) ht) (by first | (simp; done) | (simp [*]; done)) (by simp) ?_
      simp (config := { maxSteps := 1000000 }) [ty4]
      refine hK _ ?_
      clear hK K
      first | show AWP _ _ _ _ _ | show ∃ _, _ | skip
      have hst := wrongsN_step w l t hc
      have hle := wrongsN_le w (l.take i) t
      rw [List.length_take] at hle
      cases hb : rightB w l[i] t
      · rw [hb] at hst
        simp at hst
        repeat refine awp_seq ?_
        refine awp_cond (by simp [hb]; rfl) (by rw [hx]; simp) (fun hd => ?_) (fun hd => ?_)
        · clear hd
          repeat refine awp_seq ?_
          refine awp_reg1 (by rw [hx]; kernel_rfl) fun K hK => ?_
          simp (config := { maxSteps := 1000000 }) [ty3]
          refine hK _ ?_
          clear hK K
          first | show AWP _ _ _ _ _ | show ∃ _, _ | skip
          repeat refine awp_seq ?_
          refine awp_reg1 (by rw [hx]; kernel_rfl) fun K hK => ?_
          simp (config := { maxSteps := 1000000 }) [ty3]
          refine hK _ ?_
          clear hK K
          first | show AWP _ _ _ _ _ | show ∃ _, _ | skip
          refine ⟨i + 1, by omega, by omega, ?_⟩
          refine wk_shape (shp0 hσ (by simp) (by simp) ?_) ?_
          · simp [SlotOk] <;> (repeat' (first | exact .same (by simp [purel, C.isPure]) | exact .cons (by simp [mtl, mtc, mT, mH, C.isPure, purel]) (by simp) .nil | refine And.intro ?_ ?_))
          · simp [mtc, mtl, mT, C.isPure, purel, hst] <;> (try simp (disch := omega) [wrap_id]) <;> (try omega)
        · simp at hd
      · rw [hb] at hst
        simp at hst
        repeat refine awp_seq ?_
        refine awp_cond (by simp [hb]; rfl) (by rw [hx]; simp) (fun hd => ?_) (fun hd => ?_)
        · simp at hd
        · clear hd
          refine awp_skip ?_
          first | show AWP _ _ _ _ _ | show ∃ _, _ | skip
          repeat refine awp_seq ?_
          refine awp_reg1 (by rw [hx]; kernel_rfl) fun K hK => ?_
          simp (config := { maxSteps := 1000000 }) [ty3]
          refine hK _ ?_
          clear hK K
          first | show AWP _ _ _ _ _ | show ∃ _, _ | skip
          refine ⟨i + 1, by omega, by omega, ?_⟩
          refine wk_shape (shp0 hσ (by simp) (by simp) ?_) ?_
          · simp [SlotOk] <;> (repeat' (first | exact .same (by simp [purel, C.isPure]) | exact .cons (by simp [mtl, mtc, mT, mH, C.isPure, purel]) (by simp) .nil | refine And.intro ?_ ?_))
          · simp [mtc, mtl, mT, C.isPure, purel, hst] <;> (try simp (disch := omega) [wrap_id]) <;> (try omega)
    · simp at hc
      repeat refine awp_seq ?_
      refine awp_exit ?_
      first | show AWP _ _ _ _ _ | show ∃ _, _ | skip
      repeat refine awp_seq ?_
      refine awp_reg1 (by rw [hx]; kernel_rfl) fun K hK => ?_
      simp (config := { maxSteps := 1000000 }) []
      refine hK _ ?_
      clear hK K
      first | show AWP _ _ _ _ _ | show ∃ _, _ | skip
      repeat refine awp_seq ?_
      refine awp_ret ?_
      refine And.intro (Or.inr rfl) ?_
      have : i = l.length := by omega
      subst this
      rw [List.take_length]
      simp [retC, resC, viewC, mapO]

def isTruthB (w : Wh) (l : List Wl) (t : Tr) : Bool := withinB t.area w.glow w.ghigh && withinB t.skew (-w.skew) w.skew && isT w l t

theorem ref40 (w : Wh) (nl fu : Bool) (l : List Wl) (t : Tr) (hw : WhOk w) (hl : ∀ y ∈ l, WlOk w y) (hn : l.length ≤ 1000) : Pure Try.prog 40 [encWh w, sWl nl fu l, encTr t] (.bool (isTruthB w l t)) := by
  have hs := hw.skew
  have hg := hw.guess
  have hwr : IntKind.i64.wrap (-w.skew) = -w.skew := wrap_id (by omega) (by omega)
  have c1 := within60 t.area w.glow w.ghigh
  have c2 := within60 t.skew (-w.skew) w.skew
  refine pure_of (fn := Try.f40) [.tmp 6] ⟨Try.func40, rfl, by kernel_rfl⟩ (by kernel_rfl) (by kernel_rfl) (by kernel_rfl) fun x hx hσ => ?_
  repeat refine awp_seq ?_
  refine awp_reg1 (by rw [hx]; kernel_rfl) fun K hK => ?_
  simp (config := { maxSteps := 1000000 }) [ty25, ty61]
  refine hK _ ?_
  clear hK K
  first | show AWP _ _ _ _ _ | show ∃ _, _ | skip
  cases h1 : withinB t.area w.glow w.ghigh
  · rw [h1] at c1
    repeat refine awp_seq ?_
    refine awp_drw3 [] [0, 1, 2, 3, 4, 5, 6, 7, 8, 9, 10, 11, 12, 13, 14, 15, 16, 17, 18, 19, 20, 21, 22, 23, 24, 25, 26, 27, 28] (by rw [hx]; kernel_rfl) (by kernel_rfl) (by kernel_rfl) (by kernel_rfl) fun K hK => ?_
    simp (config := { maxSteps := 1000000 }) [ty25, ty61, ty23, ty3]
    refine callPD (c1) (by first | (simp; done) | (simp [*]; done)) (by simp) ?_
    simp (config := { maxSteps := 1000000 }) [ty4]
    refine hK _ ?_
    clear hK K
    first | show AWP _ _ _ _ _ | show ∃ _, _ | skip
    repeat refine awp_seq ?_
    refine awp_ret ?_
    refine And.intro (Or.inr rfl) ?_
    simp [retC, resC, viewC, mapO, isTruthB, h1]
  · rw [h1] at c1
    cases h2 : withinB t.skew (-w.skew) w.skew
    · rw [h2] at c2
      repeat refine awp_seq ?_
      refine awp_drw3 [] [0, 1, 2, 3, 4, 5, 6, 7, 8, 9, 10, 11, 12, 13, 14, 15, 16, 17, 18, 19, 20, 21, 22, 23, 24, 25, 26, 27, 28] (by rw [hx]; kernel_rfl) (by kernel_rfl) (by kernel_rfl) (by kernel_rfl) fun K hK => ?_
      simp (config := { maxSteps := 1000000 }) [ty25, ty61, ty23, ty3]
      refine callPD (c1) (by first | (simp; done) | (simp [*]; done)) (by simp) ?_
      simp (config := { maxSteps := 1000000 }) [ty4, ty61, ty25, ty3, hwr]
      refine callPD (c2) (by first | (simp; done) | (simp [*]; done)) (by simp) ?_
      simp (config := { maxSteps := 1000000 }) [ty4]
      refine hK _ ?_
      clear hK K
      first | show AWP _ _ _ _ _ | show ∃ _, _ | skip
      repeat refine awp_seq ?_
      refine awp_ret ?_
      refine And.intro (Or.inr rfl) ?_
      simp [retC, resC, viewC, mapO, isTruthB, h1, h2]
    · rw [h2] at c2
      have h3 : w.glow ≤ t.area ∧ t.area ≤ w.ghigh := by simpa [withinB] using h1
      have h4 : -w.skew ≤ t.skew ∧ t.skew ≤ w.skew := by simpa [withinB] using h2
      repeat refine awp_seq ?_
      refine awp_drw3 [] [0, 1, 2, 3, 4, 5, 6, 7, 8, 9, 10, 11, 12, 13, 14, 15, 16, 17, 18, 19, 20, 21, 22, 23, 24, 25, 26, 27, 28] (by rw [hx]; kernel_rfl) (by kernel_rfl) (by kernel_rfl) (by kernel_rfl) fun K hK => ?_
      simp (config := { maxSteps := 1000000 }) [ty25, ty61, ty23, ty3]
      refine callPD (c1) (by first | (simp; done) | (simp [*]; done)) (by simp) ?_
      simp (config := { maxSteps := 1000000 }) [ty4, ty61, ty25, ty3, hwr]
      refine callPD (c2) (by first | (simp; done) | (simp [*]; done)) (by simp) ?_
      simp (config := { maxSteps := 1000000 }) [ty4, ty25, ty26, ty61]
      refine callPD (ref42 w nl fu l t hw hl hn ⟨by omega, by omega⟩) (by first | (simp; done) | (simp [*]; done)) (by simp) ?_
      simp (config := { maxSteps := 1000000 }) [ty4, ty25, ty3]
      refine hK _ ?_
      clear hK K
      first | show AWP _ _ _ _ _ | show ∃ _, _ | skip
      repeat refine awp_seq ?_
      refine awp_ret ?_
      refine And.intro (Or.inr rfl) ?_
      simp [retC, resC, viewC, mapO, isTruthB, h1, h2, isT]

theorem isTruthB_all {w : Wh} {l : List Wl} {t : Tr} (ht : t ∈ allT w) : isTruthB w l t = isT w l t := by
  have := allT_mem.1 ht
  simp [isTruthB, withinB, this]

@[simp] abbrev obTs (L : List Tr) : Ob := ⟨L.isEmpty, false, 2, L.map cTr⟩

theorem allT_pos {w : Wh} (hw : WhOk w) : 0 < nA w ∧ 0 < nS w := by
  have := hw.guess
  have := hw.skew
  unfold nA nS
  omega

def upT (w : Wh) (n : Nat) : List Tr := (allT w).take n
@[simp] theorem upT_zero (w : Wh) : upT w 0 = [] := rfl
theorem upT_len {w : Wh} {n : Nat} (h : n ≤ nA w * nS w) : (upT w n).length = n := by rw [upT, List.length_take, allT_len]; omega
theorem upT_step {w : Wh} {a s : Nat} (ha : a < nA w) (hs : s < nS w) : upT w (a * nS w + s + 1) = upT w (a * nS w + s) ++ [⟨w.glow + a, -w.skew + s⟩] := by
  unfold upT
  have h1 : a * nS w + s < (allT w).length := by rw [allT_len]; exact in_rows ha hs
  rw [List.take_succ_eq_append_getElem h1]
  have h2 := allT_get ha hs
  rw [List.getElem?_eq_getElem h1] at h2
  rw [Option.some.inj h2]

theorem ref68 (w : Wh) (hw : WhOk w) : Fresh Try.prog 68 [encWh w] (obTs (allT w)) := by
  have hs := hw.skew
  have hg := hw.guess
  have hA : (nA w : Int) = w.ghigh - w.glow + 1 := by unfold nA; omega
  have hS : (nS w : Int) = 2 * w.skew + 1 := by unfold nS; omega
  have hwr : IntKind.i64.wrap (-w.skew) = -w.skew := wrap_id (by omega) (by omega)
  have hbA : nA w ≤ 10000 := by omega
  have hbS : nS w ≤ 41 := by omega
  have hlen := allT_len w
  have hNN : nA w * nS w ≤ 410000 := by
    have : nA w * nS w ≤ 10000 * 41 := Nat.mul_le_mul hbA hbS
    omega
  refine fresh_of (fn := Try.f68) [.tmp 2] ⟨Try.func68, rfl, by kernel_rfl⟩ (by kernel_rfl) (by kernel_rfl) (by kernel_rfl) fun x hx hσ => ?_
  repeat refine awp_seq ?_
  refine awp_reg1 (by rw [hx]; kernel_rfl) fun K hK => ?_
  simp (config := { maxSteps := 1000000 }) [ty25]
  refine hK _ ?_
  clear hK K
  first | show AWP _ _ _ _ _ | show ∃ _, _ | skip
  repeat refine awp_seq ?_
  refine awp_reg1 (by rw [hx]; kernel_rfl) fun K hK => ?_
  simp (config := { maxSteps := 1000000 }) []
  refine hK _ ?_
  clear hK K
  first | show AWP _ _ _ _ _ | show ∃ _, _ | skip
  repeat refine awp_seq ?_
  refine awp_reg1 (by rw [hx]; kernel_rfl) fun K hK => ?_
  simp (config := { maxSteps := 1000000 }) [ty25, ty23, ty3]
  refine hK _ ?_
  clear hK K
  first | show AWP _ _ _ _ _ | show ∃ _, _ | skip
  repeat refine awp_seq ?_
  refine awp_block ?_
  refine AWP.weak ?_ (wk_nil 3 3 2 (fu := true) (by simp) (by simp))
  refine awp_loop (fun a : Nat => ⟨ofL [(1, .ptr 1 8 0 0), (3, .own 3 2 0 (a * nS w)), (4, encI (w.glow + a))], stoT [(1, 1, .live (obWh w)), (3, 3, .live (obTs (upT w (a * nS w))))]⟩)
    (fun a => a ≤ nA w) (fun a => nA w - a) 0 (by simp) ?_ ?_
  · refine wk_shape (shp0 hσ (by simp) (by simp) ?_) ?_
    · simp [SlotOk] <;> (repeat' (first | exact .same (by simp [purel, C.isPure]) | exact .cons (by simp [mtl, mtc, mT, mH, C.isPure, purel]) (by simp) .nil | refine And.intro ?_ ?_))
    · simp [mtc, mtl, mT, C.isPure, purel] <;> (try simp (disch := omega) [wrap_id]) <;> (try omega)
  · intro a ha
    repeat refine awp_seq ?_
    refine awp_reg1 (by rw [hx]; kernel_rfl) fun K hK => ?_
    simp (config := { maxSteps := 1000000 }) [ty25, ty23, ty3]
    refine hK _ ?_
    clear hK K
    first | show AWP _ _ _ _ _ | show ∃ _, _ | skip
    repeat refine awp_seq ?_
    refine awp_cond (by simp; rfl) (by rw [hx]; simp) (fun hc => ?_) (fun hc => ?_)
    · simp at hc
      have haA : a < nA w := by omega
      refine awp_skip ?_
      first | show AWP _ _ _ _ _ | show ∃ _, _ | skip
      repeat refine awp_seq ?_
      refine awp_block ?_
      repeat refine awp_seq ?_
      refine awp_reg1 (by rw [hx]; kernel_rfl) fun K hK => ?_
      simp (config := { maxSteps := 1000000 }) [ty25, ty3]
      refine hK _ ?_
      clear hK K
      first | show AWP _ _ _ _ _ | show ∃ _, _ | skip
      rw [hwr]
      repeat refine awp_seq ?_
      refine awp_block ?_
      refine awp_loop (fun s : Nat => ⟨ofL [(1, .ptr 1 8 0 0), (3, .own 3 2 0 (a * nS w + s)), (4, encI (w.glow + a)), (5, encI (-w.skew + s))], stoT [(1, 1, .live (obWh w)), (3, 3, .live (obTs (upT w (a * nS w + s))))]⟩)
        (fun s => s ≤ nS w) (fun s => nS w - s) 0 (by simp) ?_ ?_
      · refine wk_shape (shp0 hσ (by simp) (by simp) ?_) ?_
        · simp [SlotOk] <;> (repeat' (first | exact .same (by simp [purel, C.isPure]) | exact .cons (by simp [mtl, mtc, mT, mH, C.isPure, purel]) (by simp) .nil | refine And.intro ?_ ?_))
        · simp [mtc, mtl, mT, C.isPure, purel] <;> (try simp (disch := omega) [wrap_id]) <;> (try omega)
      · intro s hsS
        have hle : a * nS w + s ≤ nA w * nS w := by
          have : (a + 1) * nS w ≤ nA w * nS w := Nat.mul_le_mul_right _ (by omega)
          rw [Nat.add_mul] at this; omega
        have hlt := upT_len hle
        repeat refine awp_seq ?_
        refine awp_reg1 (by rw [hx]; kernel_rfl) fun K hK => ?_
        simp (config := { maxSteps := 1000000 }) [ty25, ty3]
        refine hK _ ?_
        clear hK K
        first | show AWP _ _ _ _ _ | show ∃ _, _ | skip
        repeat refine awp_seq ?_
        refine awp_cond (by simp; rfl) (by rw [hx]; simp) (fun hc2 => ?_) (fun hc2 => ?_)
        · simp at hc2
          have hsl : s < nS w := by omega
          refine awp_skip ?_
          first | show AWP _ _ _ _ _ | show ∃ _, _ | skip
          repeat refine awp_seq ?_
          refine awp_block ?_
          have hst := upT_step haA hsl
          repeat refine awp_seq ?_
          refine awp_reg1 (by rw [hx]; kernel_rfl) fun K hK => ?_
          simp (config := { maxSteps := 1000000 }) [ty61, ty84, ty3, hlt]
          refine ⟨by omega, ?_⟩
          refine hK _ ?_
          clear hK K
          first | show AWP _ _ _ _ _ | show ∃ _, _ | skip
          repeat refine awp_seq ?_
          refine awp_reg1 (by rw [hx]; kernel_rfl) fun K hK => ?_
          simp (config := { maxSteps := 1000000 }) [ty3]
          refine hK _ ?_
          clear hK K
          first | show AWP _ _ _ _ _ | show ∃ _, _ | skip
          rw [wrap_id (by omega) (by omega)]
          refine ⟨s + 1, by omega, by omega, ?_⟩
          refine wk_shape (T := [(1, 1, .live (obWh w)), (3, 30, .live (obTs (upT w (a * nS w + (s + 1)))))]) (shp0 hσ (by simp) (by simp) ?_) ?_
          · simp [SlotOk, ← Nat.add_assoc, hst]
            exact ⟨.same (by simp [purel, C.isPure]), .same (by simp [purel, C.isPure])⟩
          · simp [mtc, mtl, mT, C.isPure, ← Nat.add_assoc]
            omega
        · simp at hc2
          repeat refine awp_seq ?_
          refine awp_exit ?_
          first | show AWP _ _ _ _ _ | show ∃ _, _ | skip
          have hsn : s = nS w := by omega
          repeat refine awp_seq ?_
          refine awp_reg1 (by rw [hx]; kernel_rfl) fun K hK => ?_
          simp (config := { maxSteps := 1000000 }) [ty3]
          refine hK _ ?_
          clear hK K
          first | show AWP _ _ _ _ _ | show ∃ _, _ | skip
          rw [wrap_id (by omega) (by omega)]
          have hsa : a * nS w + s = (a + 1) * nS w := by rw [hsn, Nat.add_mul, Nat.one_mul]
          rw [hsa]
          refine ⟨a + 1, by omega, by omega, ?_⟩
          refine wk_shape (shp0 hσ (by simp) (by simp) ?_) ?_
          · simp [SlotOk] <;> (repeat' (first | exact .same (by simp [purel, C.isPure]) | exact .cons (by simp [mtl, mtc, mT, mH, C.isPure, purel]) (by simp) .nil | refine And.intro ?_ ?_))
          · simp [mtc, mtl, mT, C.isPure, purel] <;> (try simp (disch := omega) [wrap_id]) <;> (try omega)
    · simp at hc
      repeat refine awp_seq ?_
      refine awp_exit ?_
      first | show AWP _ _ _ _ _ | show ∃ _, _ | skip
      have han : a = nA w := by omega
      have hal : upT w (a * nS w) = allT w := by rw [upT, han, ← hlen, List.take_length]
      rw [hal]
      repeat refine awp_seq ?_
      refine awp_reg1 (by rw [hx]; kernel_rfl) fun K hK => ?_
      simp (config := { maxSteps := 1000000 }) []
      refine hK _ ?_
      clear hK K
      first | show AWP _ _ _ _ _ | show ∃ _, _ | skip
      repeat refine awp_seq ?_
      refine awp_ret ?_
      refine ⟨.inr rfl, .inl ⟨3, ?_, ?_, ?_⟩⟩
      · simp [retC, resC, viewC, mapO, hlen, han]
      · simp
      · simp [purel, C.isPure]

end Go.Proofs.Ytmmoghgpaagnhaa

namespace Go.Proofs.Ytmmoghgpaagnhaa
open Go Go.Abs

set_option maxHeartbeats 4000000

theorem ref32 (w : Wh) (nl fu : Bool) (l : List Wl) (hn : l.length ≤ 1000) : Pure Try.prog 32 [encWh w, sWl nl fu l] (.tup [encI (fewestN w l), encI (checkI w l)]) := by
  refine pure_of (fn := Try.f32) [.tmp 4, .tmp 5] ⟨Try.func32, rfl, by kernel_rfl⟩ (by kernel_rfl) (by kernel_rfl) (by kernel_rfl) fun x hx hσ => ?_
  repeat refine awp_seq ?_
  refine awp_reg1 (by rw [hx]; kernel_rfl) fun K hK => ?_
  simp (config := { maxSteps := 1000000 }) [ty25]
  refine hK _ ?_
  clear hK K
  first | show AWP _ _ _ _ _ | show ∃ _, _ | skip
  repeat refine awp_seq ?_
  refine awp_reg1 (by rw [hx]; kernel_rfl) fun K hK => ?_
  simp (config := { maxSteps := 1000000 }) [ty25]
  refine callP (ref31 w nl fu l hn) (by first | (simp; done) | (simp [*]; done)) ?_
  simp (config := { maxSteps := 1000000 }) []
  refine hK _ ?_
  clear hK K
  first | show AWP _ _ _ _ _ | show ∃ _, _ | skip
  repeat refine awp_seq ?_
  refine awp_reg1 (by rw [hx]; kernel_rfl) fun K hK => ?_
  simp (config := { maxSteps := 1000000 }) [ty31]
  refine hK _ ?_
  clear hK K
  first | show AWP _ _ _ _ _ | show ∃ _, _ | skip
  by_cases hz : checkI w l = 0
  · obtain ⟨hw, hl, h8⟩ := checkI_ok hz
    have hbd := allT_bd hw
    repeat refine awp_seq ?_
    refine awp_cond (by simp [hz]; rfl) (by rw [hx]; simp) (fun hd => ?_) (fun hd => ?_)
    · simp at hd
    · clear hd
      refine awp_skip ?_
      first | show AWP _ _ _ _ _ | show ∃ _, _ | skip
      repeat refine awp_seq ?_
      refine awp_reg1 (by rw [hx]; kernel_rfl) fun K hK => ?_
      simp (config := { maxSteps := 1000000 }) [ty26]
      refine hK _ ?_
      clear hK K
      first | show AWP _ _ _ _ _ | show ∃ _, _ | skip
      repeat refine awp_seq ?_
      refine awp_reg1 (by rw [hx]; kernel_rfl) fun K hK => ?_
      simp (config := { maxSteps := 1000000 }) [ty25]
      refine freshL (ref68 w hw) (by simp [purel, C.isPure]) rfl ?_
      simp
      refine hK _ ?_
      clear hK K
      first | show AWP _ _ _ _ _ | show ∃ _, _ | skip
      repeat refine awp_seq ?_
      refine awp_reg1 (by rw [hx]; kernel_rfl) fun K hK => ?_
      simp (config := { maxSteps := 1000000 }) []
      refine hK _ ?_
      clear hK K
      first | show AWP _ _ _ _ _ | show ∃ _, _ | skip
      repeat refine awp_seq ?_
      refine awp_block ?_
      refine awp_loop (fun i : Nat => ⟨ofL [(1, sWl nl fu l), (2, .ptr 2 8 0 0), (7, encI (leastN w l ((allT w).take i))), (8, .own 19 2 0 (allT w).length), (9, encI i)], stoT [(2, 2, .live (obWh w)), (19, 19, .live (obTs (allT w)))]⟩)
        (fun i => i ≤ (allT w).length) (fun i => (allT w).length - i) 0 (by simp) ?_ ?_
      · refine wk_shape (shp0 hσ (by simp) (by simp) ?_) ?_
        · simp [SlotOk] <;> (repeat' (first | exact .same (by simp [purel, C.isPure]) | exact .cons (by simp [mtl, mtc, mT, mH, C.isPure, purel]) (by simp) .nil | refine And.intro ?_ ?_))
        · simp [mtc, mtl, mT, C.isPure, purel, leastN] <;> (try simp (disch := omega) [wrap_id]) <;> (try omega)
      · intro i hi
        repeat refine awp_seq ?_
        refine awp_reg1 (by rw [hx]; kernel_rfl) fun K hK => ?_
        simp (config := { maxSteps := 1000000 }) [ty84, ty3]
        refine hK _ ?_
        clear hK K
        first | show AWP _ _ _ _ _ | show ∃ _, _ | skip
        repeat refine awp_seq ?_
        refine awp_cond (by simp; rfl) (by rw [hx]; simp) (fun hc => ?_) (fun hc => ?_)
        · simp at hc
          refine awp_skip ?_
          first | show AWP _ _ _ _ _ | show ∃ _, _ | skip
          repeat refine awp_seq ?_
          refine awp_block ?_
          have hta : (allT w)[i] ∈ allT w := List.getElem_mem hc
          have hne : allT w ≠ [] := List.ne_nil_of_mem hta
          have hst := leastN_step w l hc
          have hle := leastN_le w l ((allT w).take i)
          have hwl := wrongsN_le w l (allT w)[i]
          repeat refine awp_seq ?_
          refine awp_drw3 [] [0, 1, 2, 3, 4, 5, 6, 7, 8, 9] (by rw [hx]; kernel_rfl) (by kernel_rfl) (by kernel_rfl) (by kernel_rfl) fun K hK => ?_
          simp (config := { maxSteps := 1000000 }) [ty25, ty26, ty84, ty61, ty3, hc, hne]
          refine callPD (ref42 w nl fu l (allT w)[i] hw hl hn (allT_ok hw hta)) (by first | (simp; done) | (simp [*]; done)) (by simp) ?_
          simp (config := { maxSteps := 1000000 }) [ty3]
          refine hK _ ?_
          clear hK K
          first | show AWP _ _ _ _ _ | show ∃ _, _ | skip
          repeat refine awp_seq ?_
          refine awp_reg1 (by rw [hx]; kernel_rfl) fun K hK => ?_
          simp (config := { maxSteps := 1000000 }) [ty3]
          refine hK _ ?_
          clear hK K
          first | show AWP _ _ _ _ _ | show ∃ _, _ | skip
          rw [wrap_id (by omega) (by omega)]
          refine ⟨i + 1, by omega, by omega, ?_⟩
          have hmin : (if wrongsN w l (allT w)[i] < leastN w l ((allT w).take i) then (wrongsN w l (allT w)[i] : Int) else (leastN w l ((allT w).take i) : Int)) = (leastN w l ((allT w).take (i + 1)) : Int) := by
            rw [hst]; split <;> omega
          refine wk_shape (shp0 hσ (by simp) (by simp) ?_) ?_
          · simp [SlotOk] <;> (repeat' (first | exact .same (by simp [purel, C.isPure]) | exact .cons (by simp [mtl, mtc, mT, mH, C.isPure, purel]) (by simp) .nil | refine And.intro ?_ ?_))
          · simp [mtc, mtl, mT, C.isPure, purel, hmin] <;> (try simp (disch := omega) [wrap_id]) <;> (try omega)
        · simp at hc
          repeat refine awp_seq ?_
          refine awp_exit ?_
          first | show AWP _ _ _ _ _ | show ∃ _, _ | skip
          have : i = (allT w).length := by omega
          rw [this, List.take_length]
          repeat refine awp_seq ?_
          refine awp_reg1 (by rw [hx]; kernel_rfl) fun K hK => ?_
          simp (config := { maxSteps := 1000000 }) []
          refine hK _ ?_
          clear hK K
          first | show AWP _ _ _ _ _ | show ∃ _, _ | skip
          repeat refine awp_seq ?_
          refine awp_ret ?_
          refine And.intro (Or.inr rfl) ?_
          simp [retC, resC, viewC, mapO, fewestN, hz]
  · repeat refine awp_seq ?_
    refine awp_cond (by simp [hz]; rfl) (by rw [hx]; simp) (fun hd => ?_) (fun hd => ?_)
    · clear hd
      repeat refine awp_seq ?_
      refine awp_reg1 (by rw [hx]; kernel_rfl) fun K hK => ?_
      simp (config := { maxSteps := 1000000 }) []
      refine hK _ ?_
      clear hK K
      first | show AWP _ _ _ _ _ | show ∃ _, _ | skip
      repeat refine awp_seq ?_
      refine awp_ret ?_
      refine And.intro (Or.inr rfl) ?_
      simp [retC, resC, viewC, mapO, fewestN, hz]
    · simp [hz] at hd

@[simp] theorem take_cTr (L : List Tr) : List.take L.length (L.map cTr) = L.map cTr := List.take_of_length_le (by simp)

def knownL (w : Wh) (l : List Wl) (is : Bool) : List Tr := if openI w l is = 0 then truthsL w l else []
@[simp] abbrev slT (L : List Tr) : C := .sl L.isEmpty L.isEmpty (L.map cTr)

theorem openI_bad {w : Wh} {l : List Wl} {is : Bool} (h : checkI w l ≠ 0) : openI w l is = checkI w l := by simp [openI, h]
theorem openI_f {w : Wh} {l : List Wl} (h : checkI w l = 0) : openI w l false = 1 := by simp [openI, h]
theorem openI_no {w : Wh} {l : List Wl} (h : checkI w l = 0) (h2 : truthsL w l = []) : openI w l true = 3 := by simp [openI, h, h2]
theorem openI_yes {w : Wh} {l : List Wl} (h : checkI w l = 0) (h2 : truthsL w l ≠ []) : openI w l true = 0 := by simp [openI, h, h2]

theorem filter_step {α : Type} (p : α → Bool) {L : List α} {i : Nat} (hi : i < L.length) : (L.take (i + 1)).filter p = (L.take i).filter p ++ if p L[i] then [L[i]] else [] := by
  rw [List.take_succ_eq_append_getElem hi, List.filter_append]
  cases h : p L[i] <;> simp [h]

theorem ref52 (w : Wh) (nl fu is : Bool) (l : List Wl) (hn : l.length ≤ 1000) : Pure Try.prog 52 [encWh w, sWl nl fu l, .bool is] (.tup [slT (knownL w l is), encI (openI w l is)]) := by
  refine pure_of (fn := Try.f52) [.tmp 6, .tmp 7] ⟨Try.func52, rfl, by kernel_rfl⟩ (by kernel_rfl) (by kernel_rfl) (by kernel_rfl) fun x hx hσ => ?_
  repeat refine awp_seq ?_
  refine awp_reg1 (by rw [hx]; kernel_rfl) fun K hK => ?_
  simp (config := { maxSteps := 1000000 }) [ty25]
  refine hK _ ?_
  clear hK K
  first | show AWP _ _ _ _ _ | show ∃ _, _ | skip
  repeat refine awp_seq ?_
  refine awp_reg1 (by rw [hx]; kernel_rfl) fun K hK => ?_
  simp (config := { maxSteps := 1000000 }) [ty25]
  refine callP (ref31 w nl fu l hn) (by first | (simp; done) | (simp [*]; done)) ?_
  simp (config := { maxSteps := 1000000 }) []
  refine hK _ ?_
  clear hK K
  first | show AWP _ _ _ _ _ | show ∃ _, _ | skip
  repeat refine awp_seq ?_
  refine awp_reg1 (by rw [hx]; kernel_rfl) fun K hK => ?_
  simp (config := { maxSteps := 1000000 }) [ty31]
  refine hK _ ?_
  clear hK K
  first | show AWP _ _ _ _ _ | show ∃ _, _ | skip
  by_cases hz : checkI w l = 0
  · obtain ⟨hw, hl, h8⟩ := checkI_ok hz
    have hbd := allT_bd hw
    repeat refine awp_seq ?_
    refine awp_cond (by simp [hz]; rfl) (by rw [hx]; simp) (fun hd => ?_) (fun hd => ?_)
    · simp at hd
    · clear hd
      refine awp_skip ?_
      first | show AWP _ _ _ _ _ | show ∃ _, _ | skip
      repeat refine awp_seq ?_
      refine awp_reg1 (by rw [hx]; kernel_rfl) fun K hK => ?_
      simp (config := { maxSteps := 1000000 }) [ty4]
      refine hK _ ?_
      clear hK K
      first | show AWP _ _ _ _ _ | show ∃ _, _ | skip
      cases is
      · have ho := openI_f hz
        repeat refine awp_seq ?_
        refine awp_cond (by simp; rfl) (by rw [hx]; simp) (fun hd => ?_) (fun hd => ?_)
        · clear hd
          repeat refine awp_seq ?_
          refine awp_reg1 (by rw [hx]; kernel_rfl) fun K hK => ?_
          simp (config := { maxSteps := 1000000 }) []
          refine hK _ ?_
          clear hK K
          first | show AWP _ _ _ _ _ | show ∃ _, _ | skip
          repeat refine awp_seq ?_
          refine awp_ret ?_
          refine And.intro (Or.inr rfl) ?_
          simp [retC, resC, viewC, mapO, knownL, ho]
        · simp at hd
      · repeat refine awp_seq ?_
        refine awp_cond (by simp; rfl) (by rw [hx]; simp) (fun hd => ?_) (fun hd => ?_)
        · simp at hd
        · clear hd
          refine awp_skip ?_
          first | show AWP _ _ _ _ _ | show ∃ _, _ | skip
          repeat refine awp_seq ?_
          refine awp_reg1 (by rw [hx]; kernel_rfl) fun K hK => ?_
          simp (config := { maxSteps := 1000000 }) []
          refine hK _ ?_
          clear hK K
          first | show AWP _ _ _ _ _ | show ∃ _, _ | skip
          repeat refine awp_seq ?_
          refine awp_reg1 (by rw [hx]; kernel_rfl) fun K hK => ?_
          simp (config := { maxSteps := 1000000 }) [ty25]
          refine freshL (ref68 w hw) (by simp [purel, C.isPure]) rfl ?_
          simp
          refine hK _ ?_
          clear hK K
          first | show AWP _ _ _ _ _ | show ∃ _, _ | skip
          repeat refine awp_seq ?_
          refine awp_reg1 (by rw [hx]; kernel_rfl) fun K hK => ?_
          simp (config := { maxSteps := 1000000 }) []
          refine hK _ ?_
          clear hK K
          first | show AWP _ _ _ _ _ | show ∃ _, _ | skip
          repeat refine awp_seq ?_
          refine awp_block ?_
          refine AWP.weak ?_ (wk_nil 9 9 2 (fu := true) (by simp) (by simp))
          obtain ⟨O, hO⟩ : ∃ O : Nat → List Tr, O = fun i => ((allT w).take i).filter (isT w l) := ⟨_, rfl⟩
          have hO0 : O 0 = [] := by rw [hO]; rfl
          have hOn : O (allT w).length = truthsL w l := by rw [hO]; simp only [List.take_length]; rfl
          have hOs : ∀ i (hi : i < (allT w).length), O (i + 1) = O i ++ if isT w l (allT w)[i] then [(allT w)[i]] else [] := fun i hi => by
            rw [hO]; exact filter_step _ hi
          have hOl : ∀ i, (O i).length ≤ (allT w).length := fun i => by
            rw [hO]; exact Nat.le_trans (List.length_filter_le _ _) (by simp; omega)
          refine awp_loop (fun i : Nat => ⟨ofL [(1, sWl nl fu l), (3, .ptr 3 8 0 0), (9, .own 9 2 0 (O i).length), (10, .own 21 2 0 (allT w).length), (11, encI i)], stoT [(3, 3, .live (obWh w)), (9, 9, .live (obTs (O i))), (21, 21, .live (obTs (allT w)))]⟩)
            (fun i => i ≤ (allT w).length) (fun i => (allT w).length - i) 0 (by simp) ?_ ?_
          · simp only [hO0]
            refine wk_shape (shp0 hσ (by simp) (by simp) ?_) ?_
            · simp [SlotOk] <;> (repeat' (first | exact .same (by simp [purel, C.isPure]) | exact .cons (by simp [mtl, mtc, mT, mH, C.isPure, purel]) (by simp) .nil | refine And.intro ?_ ?_))
            · simp [mtc, mtl, mT, C.isPure, purel] <;> (try simp (disch := omega) [wrap_id]) <;> (try omega)
          · intro i hi
            have hOli := hOl i
            repeat refine awp_seq ?_
            refine awp_reg1 (by rw [hx]; kernel_rfl) fun K hK => ?_
            simp (config := { maxSteps := 1000000 }) [ty84, ty3]
            refine hK _ ?_
            clear hK K
            first | show AWP _ _ _ _ _ | show ∃ _, _ | skip
            repeat refine awp_seq ?_
            refine awp_cond (by simp; rfl) (by rw [hx]; simp) (fun hc => ?_) (fun hc => ?_)
            · simp at hc
              refine awp_skip ?_
              first | show AWP _ _ _ _ _ | show ∃ _, _ | skip
              repeat refine awp_seq ?_
              refine awp_block ?_
              have hta : (allT w)[i] ∈ allT w := List.getElem_mem hc
              have hne : allT w ≠ [] := List.ne_nil_of_mem hta
              have hst := hOs i hc
              have hwi := wrap_id (z := (i : Int) + 1) (by omega) (by omega)
              have h40 := ref40 w nl fu l (allT w)[i] hw hl hn
              rw [isTruthB_all hta] at h40
              repeat refine awp_seq ?_
              refine awp_drw3 [] [0, 1, 2, 3, 4, 5, 6] (by rw [hx]; kernel_rfl) (by kernel_rfl) (by kernel_rfl) (by kernel_rfl) fun K hK => ?_
              simp (config := { maxSteps := 1000000 }) [ty25, ty26, ty84, ty61, hc, hne]
              refine callPD (h40) (by first | (simp; done) | (simp [*]; done)) (by simp) ?_
              simp (config := { maxSteps := 1000000 }) [ty4]
              refine hK _ ?_
              clear hK K
              first | show AWP _ _ _ _ _ | show ∃ _, _ | skip
              cases hb : isT w l (allT w)[i]
              · rw [hb] at hst
                simp at hst
                repeat refine awp_seq ?_
                refine awp_cond (by simp [hb]; rfl) (by rw [hx]; simp) (fun hd => ?_) (fun hd => ?_)
                · simp at hd
                · clear hd
                  refine awp_skip ?_
                  first | show AWP _ _ _ _ _ | show ∃ _, _ | skip
                  repeat refine awp_seq ?_
                  refine awp_reg1 (by rw [hx]; kernel_rfl) fun K hK => ?_
                  simp (config := { maxSteps := 1000000 }) [ty3]
                  refine hK _ ?_
                  clear hK K
                  first | show AWP _ _ _ _ _ | show ∃ _, _ | skip
                  refine ⟨i + 1, by omega, by omega, ?_⟩
                  rw [hst]
                  refine wk_shape (shp0 hσ (by simp) (by simp) ?_) ?_
                  · simp [SlotOk] <;> (repeat' (first | exact .same (by simp [purel, C.isPure]) | exact .cons (by simp [mtl, mtc, mT, mH, C.isPure, purel]) (by simp) .nil | refine And.intro ?_ ?_))
                  · simp [mtc, mtl, mT, C.isPure, purel, hwi] <;> (try simp (disch := omega) [wrap_id]) <;> (try omega)
              · rw [hb] at hst
                simp at hst
                repeat refine awp_seq ?_
                refine awp_cond (by simp [hb]; rfl) (by rw [hx]; simp) (fun hd => ?_) (fun hd => ?_)
                · clear hd
                  repeat refine awp_seq ?_
                  refine awp_reg1 (by rw [hx]; kernel_rfl) fun K hK => ?_
                  simp (config := { maxSteps := 1000000 }) [ty84, ty61, hc, hne]
                  refine ⟨by omega, ?_⟩
                  refine hK _ ?_
                  clear hK K
                  first | show AWP _ _ _ _ _ | show ∃ _, _ | skip
                  repeat refine awp_seq ?_
                  refine awp_reg1 (by rw [hx]; kernel_rfl) fun K hK => ?_
                  simp (config := { maxSteps := 1000000 }) [ty3]
                  refine hK _ ?_
                  clear hK K
                  first | show AWP _ _ _ _ _ | show ∃ _, _ | skip
                  refine ⟨i + 1, by omega, by omega, ?_⟩
                  refine wk_shape (T := [(3, 3, .live (obWh w)), (9, 41, .live (obTs (O (i + 1)))), (21, 21, .live (obTs (allT w)))]) (shp0 hσ (by simp) (by simp) ?_) ?_
                  · simp [SlotOk, hst]
                    exact ⟨.same (by simp [purel, C.isPure]), .same (by simp [purel, C.isPure]), .same (by simp [purel, C.isPure])⟩
                  · simp [mtc, mtl, mT, C.isPure, hst, hwi]
                · simp at hd
            · simp at hc
              repeat refine awp_seq ?_
              refine awp_exit ?_
              first | show AWP _ _ _ _ _ | show ∃ _, _ | skip
              have : i = (allT w).length := by omega
              rw [this, hOn]
              repeat refine awp_seq ?_
              refine awp_reg1 (by rw [hx]; kernel_rfl) fun K hK => ?_
              simp (config := { maxSteps := 1000000 }) [ty84, ty3]
              refine hK _ ?_
              clear hK K
              first | show AWP _ _ _ _ _ | show ∃ _, _ | skip
              by_cases hT : truthsL w l = []
              · have ho := openI_no hz hT
                repeat refine awp_seq ?_
                refine awp_cond (by simp [hT]; rfl) (by rw [hx]; simp) (fun hd => ?_) (fun hd => ?_)
                · clear hd
                  repeat refine awp_seq ?_
                  refine awp_reg1 (by rw [hx]; kernel_rfl) fun K hK => ?_
                  simp (config := { maxSteps := 1000000 }) []
                  refine hK _ ?_
                  clear hK K
                  first | show AWP _ _ _ _ _ | show ∃ _, _ | skip
                  repeat refine awp_seq ?_
                  refine awp_ret ?_
                  refine And.intro (Or.inr rfl) ?_
                  simp [retC, resC, viewC, mapO, knownL, ho]
                · simp [hT] at hd
              · have ho := openI_yes hz hT
                have hlen : (truthsL w l).length ≠ 0 := fun e => hT (List.eq_nil_of_length_eq_zero e)
                repeat refine awp_seq ?_
                refine awp_cond (by simp [hlen]; rfl) (by rw [hx]; simp) (fun hd => ?_) (fun hd => ?_)
                · simp [hlen, hT] at hd
                · clear hd
                  refine awp_skip ?_
                  first | show AWP _ _ _ _ _ | show ∃ _, _ | skip
                  repeat refine awp_seq ?_
                  refine awp_reg1 (by rw [hx]; kernel_rfl) fun K hK => ?_
                  simp (config := { maxSteps := 1000000 }) []
                  refine hK _ ?_
                  clear hK K
                  first | show AWP _ _ _ _ _ | show ∃ _, _ | skip
                  repeat refine awp_seq ?_
                  refine awp_ret ?_
                  refine And.intro (Or.inr rfl) ?_
                  have hk : knownL w l true = truthsL w l := if_pos ho
                  rw [hk]
                  have hne : (truthsL w l).isEmpty = false := by simp [hT]
                  simp [retC, resC, viewC, mapO, hne, ho, purel, C.isPure]
  · have ho := openI_bad (is := is) hz
    repeat refine awp_seq ?_
    refine awp_cond (by simp [hz]; rfl) (by rw [hx]; simp) (fun hd => ?_) (fun hd => ?_)
    · clear hd
      repeat refine awp_seq ?_
      refine awp_reg1 (by rw [hx]; kernel_rfl) fun K hK => ?_
      simp (config := { maxSteps := 1000000 }) []
      refine hK _ ?_
      clear hK K
      first | show AWP _ _ _ _ _ | show ∃ _, _ | skip
      repeat refine awp_seq ?_
      refine awp_ret ?_
      refine And.intro (Or.inr rfl) ?_
      simp [retC, resC, viewC, mapO, knownL, hz, ho]
    · simp [hz] at hd

end Go.Proofs.Ytmmoghgpaagnhaa

namespace Go.Proofs.Ytmmoghgpaagnhaa
open Go Go.Abs

set_option maxHeartbeats 4000000

theorem in41 (nl fu : Bool) (A : List Int) (n : Int) (hn : A.length ≤ 1000000) : Pure Try.prog 41 [.sl nl fu (A.map cI), encI n] (.bool (decide (n ∈ A))) := by
  refine pure_of (fn := Try.f41) [.tmp 4] ⟨Try.func41, rfl, by kernel_rfl⟩ (by kernel_rfl) (by kernel_rfl) (by kernel_rfl) fun x hx hσ => ?_
  repeat refine awp_seq ?_
  refine awp_reg1 (by rw [hx]; kernel_rfl) fun K hK => ?_
  simp (config := { maxSteps := 1000000 }) []
  refine hK _ ?_
  clear hK K
  first | show AWP _ _ _ _ _ | show ∃ _, _ | skip
  repeat refine awp_seq ?_
  refine awp_reg1 (by rw [hx]; kernel_rfl) fun K hK => ?_
  simp (config := { maxSteps := 1000000 }) []
  refine hK _ ?_
  clear hK K
  first | show AWP _ _ _ _ _ | show ∃ _, _ | skip
  repeat refine awp_seq ?_
  refine awp_block ?_
  refine awp_loop (fun i : Nat => ⟨ofL [(0, .sl nl fu (A.map cI)), (1, encI n), (5, encI i)], stoT []⟩)
    (fun i => i ≤ A.length ∧ ∀ j (hj : j < A.length), j < i → A[j] ≠ n) (fun i => A.length - i) 0 ⟨Nat.zero_le _, fun j hj h => by omega⟩ ?_ ?_
  · refine wk_shape (shp0 hσ (by simp) (by simp) ?_) ?_
    · simp [SlotOk] <;> (repeat' (first | exact .same (by simp [purel, C.isPure]) | exact .cons (by simp [mtl, mtc, mT, mH, C.isPure, purel]) (by simp) .nil | refine And.intro ?_ ?_))
    · simp [mtc, mtl, mT, C.isPure, purel] <;> (try simp (disch := omega) [wrap_id]) <;> (try omega)
  · rintro i ⟨hi, hj⟩
    repeat refine awp_seq ?_
    refine awp_reg1 (by rw [hx]; kernel_rfl) fun K hK => ?_
    simp (config := { maxSteps := 1000000 }) [ty45, ty3]
    refine hK _ ?_
    clear hK K
    first | show AWP _ _ _ _ _ | show ∃ _, _ | skip
    repeat refine awp_seq ?_
    refine awp_cond (by simp; rfl) (by rw [hx]; simp) (fun hc => ?_) (fun hc => ?_)
    · simp at hc
      refine awp_skip ?_
      first | show AWP _ _ _ _ _ | show ∃ _, _ | skip
      repeat refine awp_seq ?_
      refine awp_block ?_
      repeat refine awp_seq ?_
      refine awp_reg1 (by rw [hx]; kernel_rfl) fun K hK => ?_
      simp (config := { maxSteps := 1000000 }) [ty45, ty3, hc]
      refine hK _ ?_
      clear hK K
      first | show AWP _ _ _ _ _ | show ∃ _, _ | skip
      by_cases hb : A[i] = n
      · repeat refine awp_seq ?_
        refine awp_cond (by simp [hb]; rfl) (by rw [hx]; simp) (fun hd => ?_) (fun hd => ?_)
        · clear hd
          repeat refine awp_seq ?_
          refine awp_reg1 (by rw [hx]; kernel_rfl) fun K hK => ?_
          simp (config := { maxSteps := 1000000 }) []
          refine hK _ ?_
          clear hK K
          first | show AWP _ _ _ _ _ | show ∃ _, _ | skip
          repeat refine awp_seq ?_
          refine awp_ret ?_
          refine And.intro (Or.inr rfl) ?_
          have : decide (n ∈ A) = true := by
            rw [decide_eq_true_eq]
            exact hb ▸ List.getElem_mem hc
          rw [this]
          simp [retC, resC, viewC, mapO]
        · simp [hb] at hd
      · repeat refine awp_seq ?_
        refine awp_cond (by simp [hb]; rfl) (by rw [hx]; simp) (fun hd => ?_) (fun hd => ?_)
        · simp [hb] at hd
        · clear hd
          refine awp_skip ?_
          first | show AWP _ _ _ _ _ | show ∃ _, _ | skip
          repeat refine awp_seq ?_
          refine awp_reg1 (by rw [hx]; kernel_rfl) fun K hK => ?_
          simp (config := { maxSteps := 1000000 }) [ty3]
          refine hK _ ?_
          clear hK K
          first | show AWP _ _ _ _ _ | show ∃ _, _ | skip
          rw [wrap_id (by omega) (by omega)]
          refine ⟨i + 1, ⟨by omega, fun j hj' h => ?_⟩, by omega, ?_⟩
          · by_cases e : j = i
            · subst e; exact hb
            · exact hj j hj' (by omega)
          · refine wk_shape (shp0 hσ (by simp) (by simp) ?_) ?_
            · simp [SlotOk] <;> (repeat' (first | exact .same (by simp [purel, C.isPure]) | exact .cons (by simp [mtl, mtc, mT, mH, C.isPure, purel]) (by simp) .nil | refine And.intro ?_ ?_))
            · simp [mtc, mtl, mT, C.isPure, purel] <;> (try simp (disch := omega) [wrap_id]) <;> (try omega)
    · simp at hc
      repeat refine awp_seq ?_
      refine awp_exit ?_
      first | show AWP _ _ _ _ _ | show ∃ _, _ | skip
      have : decide (n ∈ A) = false := by
        rw [decide_eq_false_iff_not]
        intro h
        obtain ⟨j, hj', e⟩ := List.getElem_of_mem h
        exact hj j hj' (by omega) e
      rw [this]
      repeat refine awp_seq ?_
      refine awp_reg1 (by rw [hx]; kernel_rfl) fun K hK => ?_
      simp (config := { maxSteps := 1000000 }) []
      refine hK _ ?_
      clear hK K
      first | show AWP _ _ _ _ _ | show ∃ _, _ | skip
      repeat refine awp_seq ?_
      refine awp_ret ?_
      refine And.intro (Or.inr rfl) ?_
      simp [retC, resC, viewC, mapO]

theorem in81 (nl fu : Bool) (A : List Int) (n : Int) (hn : A.length ≤ 1000000) : Pure Try.prog 81 [.sl nl fu (A.map cI), encI n] (.bool (decide (n ∈ A))) := by
  refine pure_of (fn := Try.f81) [.tmp 4] ⟨Try.func81, rfl, by kernel_rfl⟩ (by kernel_rfl) (by kernel_rfl) (by kernel_rfl) fun x hx hσ => ?_
  repeat refine awp_seq ?_
  refine awp_reg1 (by rw [hx]; kernel_rfl) fun K hK => ?_
  simp (config := { maxSteps := 1000000 }) []
  refine hK _ ?_
  clear hK K
  first | show AWP _ _ _ _ _ | show ∃ _, _ | skip
  repeat refine awp_seq ?_
  refine awp_reg1 (by rw [hx]; kernel_rfl) fun K hK => ?_
  simp (config := { maxSteps := 1000000 }) []
  refine callP (in41 nl fu A n hn) (by first | (simp; done) | (simp [*]; done)) ?_
  simp (config := { maxSteps := 1000000 }) []
  refine hK _ ?_
  clear hK K
  first | show AWP _ _ _ _ _ | show ∃ _, _ | skip
  repeat refine awp_seq ?_
  refine awp_ret ?_
  refine And.intro (Or.inr rfl) ?_
  simp [retC, resC, viewC, mapO]

/-- Areas as they come, each once. -/
def addA (A : List Int) (t : Tr) : List Int := if t.area ∈ A then A else A ++ [t.area]
def areasR (L : List Tr) : List Int := L.foldl addA []

theorem areasR_step {L : List Tr} {i : Nat} (hi : i < L.length) : areasR (L.take (i + 1)) = addA (areasR (L.take i)) L[i] := by
  unfold areasR
  rw [List.take_succ_eq_append_getElem hi, List.foldl_append]
  rfl

theorem areasR_app (L : List Tr) (t : Tr) : areasR (L ++ [t]) = addA (areasR L) t := by
  unfold areasR; rw [List.foldl_append]; rfl

theorem areasR_len (L : List Tr) : (areasR L).length ≤ L.length := by
  induction L using list_rev_ind with
  | h0 => simp [areasR]
  | h1 L t ih =>
    rw [areasR_app]
    unfold addA
    split <;> simp <;> omega

theorem ref69 (nl fu : Bool) (L : List Tr) (hn : L.length ≤ 410000) : Pure Try.prog 69 [.sl nl fu (L.map cTr)] (.sl (areasR L).isEmpty false ((areasR L).map cI)) := by
  obtain ⟨O, hO⟩ : ∃ O : Nat → List Int, O = fun i => areasR (L.take i) := ⟨_, rfl⟩
  have hO0 : O 0 = [] := by rw [hO]; rfl
  have hOn : O L.length = areasR L := by rw [hO]; simp only [List.take_length]
  have hOs : ∀ i (hi : i < L.length), O (i + 1) = addA (O i) L[i] := fun i hi => by rw [hO]; exact areasR_step hi
  have hOl : ∀ i, (O i).length ≤ L.length := fun i => by
    rw [hO]; exact Nat.le_trans (areasR_len _) (by simp; omega)
  refine pure_of (fn := Try.f69) [.tmp 2] ⟨Try.func69, rfl, by kernel_rfl⟩ (by kernel_rfl) (by kernel_rfl) (by kernel_rfl) fun x hx hσ => ?_
  repeat refine awp_seq ?_
  refine awp_reg1 (by rw [hx]; kernel_rfl) fun K hK => ?_
  simp (config := { maxSteps := 1000000 }) []
  refine hK _ ?_
  clear hK K
  first | show AWP _ _ _ _ _ | show ∃ _, _ | skip
  repeat refine awp_seq ?_
  refine awp_reg1 (by rw [hx]; kernel_rfl) fun K hK => ?_
  simp (config := { maxSteps := 1000000 }) []
  refine hK _ ?_
  clear hK K
  first | show AWP _ _ _ _ _ | show ∃ _, _ | skip
  repeat refine awp_seq ?_
  refine awp_reg1 (by rw [hx]; kernel_rfl) fun K hK => ?_
  simp (config := { maxSteps := 1000000 }) []
  refine hK _ ?_
  clear hK K
  first | show AWP _ _ _ _ _ | show ∃ _, _ | skip
  repeat refine awp_seq ?_
  refine awp_block ?_
  refine AWP.weak ?_ (wk_nil 3 3 1 (fu := true) (by simp) (by simp))
  refine awp_loop (fun i : Nat => ⟨ofL [(0, .sl nl fu (L.map cTr)), (3, .own 3 1 0 (O i).length), (4, encI i)], stoT [(3, 3, .live ⟨(O i).isEmpty, false, 1, (O i).map cI⟩)]⟩)
    (fun i => i ≤ L.length) (fun i => L.length - i) 0 (Nat.zero_le _) ?_ ?_
  · simp only [hO0]
    refine wk_shape (shp0 hσ (by simp) (by simp) ?_) ?_
    · simp [SlotOk] <;> (repeat' (first | exact .same (by simp [purel, C.isPure]) | exact .cons (by simp [mtl, mtc, mT, mH, C.isPure, purel]) (by simp) .nil | refine And.intro ?_ ?_))
    · simp [mtc, mtl, mT, C.isPure, purel] <;> (try simp (disch := omega) [wrap_id]) <;> (try omega)
  · intro i hi
    have hOli := hOl i
    repeat refine awp_seq ?_
    refine awp_reg1 (by rw [hx]; kernel_rfl) fun K hK => ?_
    simp (config := { maxSteps := 1000000 }) [ty84, ty3]
    refine hK _ ?_
    clear hK K
    first | show AWP _ _ _ _ _ | show ∃ _, _ | skip
    repeat refine awp_seq ?_
    refine awp_cond (by simp; rfl) (by rw [hx]; simp) (fun hc => ?_) (fun hc => ?_)
    · simp at hc
      refine awp_skip ?_
      first | show AWP _ _ _ _ _ | show ∃ _, _ | skip
      repeat refine awp_seq ?_
      refine awp_block ?_
      have hst := hOs i hc
      have hwi := wrap_id (z := (i : Int) + 1) (by omega) (by omega)
      repeat refine awp_seq ?_
      refine awp_reg1 (by rw [hx]; kernel_rfl) fun K hK => ?_
      simp (config := { maxSteps := 1000000 }) [ty84, ty61, ty3, hc]
      refine callL (in81 (O i).isEmpty false (O i) L[i].area (by omega)) (by simp [viewL, mapO, viewC, C.isPure, purel]) (.inr rfl) ?_
      simp [ty4]
      refine hK _ ?_
      clear hK K
      first | show AWP _ _ _ _ _ | show ∃ _, _ | skip
      by_cases hb : L[i].area ∈ O i
      rotate_left
      · have hst2 : O (i + 1) = O i ++ [L[i].area] := by rw [hst, addA, if_neg hb]
        repeat refine awp_seq ?_
        refine awp_cond (by simp [hb]; rfl) (by rw [hx]; simp) (fun hd => ?_) (fun hd => ?_)
        · clear hd
          repeat refine awp_seq ?_
          refine awp_reg1 (by rw [hx]; kernel_rfl) fun K hK => ?_
          simp (config := { maxSteps := 1000000 }) [ty84, ty45, ty61, ty3, hc]
          refine ⟨by omega, ?_⟩
          refine hK _ ?_
          clear hK K
          first | show AWP _ _ _ _ _ | show ∃ _, _ | skip
          repeat refine awp_seq ?_
          refine awp_reg1 (by rw [hx]; kernel_rfl) fun K hK => ?_
          simp (config := { maxSteps := 1000000 }) [ty3]
          refine hK _ ?_
          clear hK K
          first | show AWP _ _ _ _ _ | show ∃ _, _ | skip
          refine ⟨i + 1, by omega, by omega, ?_⟩
          refine wk_shape (T := [(3, 26, .live ⟨(O (i + 1)).isEmpty, false, 1, (O (i + 1)).map cI⟩)]) (shp0 hσ (by simp) (by simp) ?_) ?_
          · simp [SlotOk, hst2]
            exact .same (by simp [purel, C.isPure])
          · simp [mtc, mtl, mT, C.isPure, hst2, hwi]
        · simp [hb] at hd
      · have hst2 : O (i + 1) = O i := by rw [hst, addA, if_pos hb]
        repeat refine awp_seq ?_
        refine awp_cond (by simp [hb]; rfl) (by rw [hx]; simp) (fun hd => ?_) (fun hd => ?_)
        · simp [hb] at hd
        · clear hd
          refine awp_skip ?_
          first | show AWP _ _ _ _ _ | show ∃ _, _ | skip
          repeat refine awp_seq ?_
          refine awp_reg1 (by rw [hx]; kernel_rfl) fun K hK => ?_
          simp (config := { maxSteps := 1000000 }) [ty3]
          refine hK _ ?_
          clear hK K
          first | show AWP _ _ _ _ _ | show ∃ _, _ | skip
          refine ⟨i + 1, by omega, by omega, ?_⟩
          rw [hst2]
          refine wk_shape (shp0 hσ (by simp) (by simp) ?_) ?_
          · simp [SlotOk] <;> (repeat' (first | exact .same (by simp [purel, C.isPure]) | exact .cons (by simp [mtl, mtc, mT, mH, C.isPure, purel]) (by simp) .nil | refine And.intro ?_ ?_))
          · simp [mtc, mtl, mT, C.isPure, purel, hwi] <;> (try simp (disch := omega) [wrap_id]) <;> (try omega)
    · simp at hc
      repeat refine awp_seq ?_
      refine awp_exit ?_
      first | show AWP _ _ _ _ _ | show ∃ _, _ | skip
      have : i = L.length := by omega
      rw [this, hOn]
      repeat refine awp_seq ?_
      refine awp_reg1 (by rw [hx]; kernel_rfl) fun K hK => ?_
      simp (config := { maxSteps := 1000000 }) []
      refine hK _ ?_
      clear hK K
      first | show AWP _ _ _ _ _ | show ∃ _, _ | skip
      repeat refine awp_seq ?_
      refine awp_ret ?_
      refine And.intro (Or.inr rfl) ?_
      simp [retC, resC, viewC, mapO, purel, C.isPure]
      done

end Go.Proofs.Ytmmoghgpaagnhaa

namespace Go.Proofs.Ytmmoghgpaagnhaa
open Go Go.Abs

set_option maxHeartbeats 4000000

-- laws of lists

theorem sorted_eq {A B : List Int} (h1 : A.Pairwise (· ≤ ·)) (h2 : B.Pairwise (· ≤ ·)) (n1 : A.Nodup) (n2 : B.Nodup) (h : ∀ b, b ∈ A ↔ b ∈ B) : A = B := by
  refine List.Perm.eq_of_pairwise (le := fun a b => a ≤ b) (fun a b _ _ h1 h2 => by omega) h1 h2 ((List.perm_ext_iff_of_nodup n1 n2).2 h)

theorem areasR_mem (L : List Tr) (b : Int) : b ∈ areasR L ↔ ∃ t ∈ L, t.area = b := by
  induction L using list_rev_ind with
  | h0 => simp [areasR]
  | h1 L t ih =>
    rw [areasR_app]
    unfold addA
    have : (∃ u ∈ L ++ [t], u.area = b) ↔ (∃ u ∈ L, u.area = b) ∨ t.area = b := by
      simp only [List.mem_append, List.mem_singleton]
      constructor
      · rintro ⟨u, hu | rfl, e⟩
        · exact .inl ⟨u, hu, e⟩
        · exact .inr e
      · rintro (⟨u, hu, e⟩ | e)
        · exact ⟨u, .inl hu, e⟩
        · exact ⟨t, .inr rfl, e⟩
    rw [this]
    split
    · rename_i hm
      constructor
      · exact fun h => .inl (ih.1 h)
      · rintro (h | rfl)
        · exact ih.2 h
        · exact hm
    · simp only [List.mem_append, List.mem_singleton, ih]
      constructor
      · rintro (h | rfl)
        · exact .inl h
        · exact .inr rfl
      · rintro (h | rfl)
        · exact .inl h
        · exact .inr rfl

theorem areasR_nodup (L : List Tr) : (areasR L).Nodup := by
  induction L using list_rev_ind with
  | h0 => simp [areasR]
  | h1 L t ih =>
    rw [areasR_app]
    unfold addA
    split
    · exact ih
    · rename_i hm
      refine List.nodup_append.2 ⟨ih, by simp, fun a ha b hb e => ?_⟩
      simp at hb
      subst hb; subst e
      exact hm ha

theorem areasR_sorted (L : List Tr) (h : L.Pairwise fun a b => a.area ≤ b.area) : (areasR L).Pairwise (· ≤ ·) := by
  induction L using list_rev_ind with
  | h0 => simp [areasR]
  | h1 L t ih =>
    rw [areasR_app]
    have h2 := List.pairwise_append.1 h
    have ih' := ih h2.1
    unfold addA
    split
    · exact ih'
    · refine List.pairwise_append.2 ⟨ih', by simp, fun a ha b hb => ?_⟩
      simp at hb
      subst hb
      obtain ⟨u, hu, rfl⟩ := (areasR_mem L a).1 ha
      exact h2.2.2 u hu t (by simp)

theorem areasR_eq {L : List Tr} (h : L.Pairwise fun a b => a.area ≤ b.area) : areasR L = kindsL Tr.area L :=
  sorted_eq (areasR_sorted L h) (kindsL_sorted _ _) (areasR_nodup L) (kindsL_nodup _ _) fun b => by rw [areasR_mem, kindsL_mem]

theorem allT_sorted (w : Wh) : (allT w).Pairwise fun a b => a.area ≤ b.area := by
  unfold allT
  refine List.pairwise_map.2 ?_
  refine List.Pairwise.imp ?_ List.pairwise_lt_range
  intro i j h
  simp only
  have : i / nS w ≤ j / nS w := Nat.div_le_div_right (Nat.le_of_lt h)
  omega

theorem truthsL_sorted (w : Wh) (l : List Wl) : (truthsL w l).Pairwise fun a b => a.area ≤ b.area := (allT_sorted w).filter _

theorem areas_nums (w : Wh) (l : List Wl) : areasR (knownL w l true) = numsI Tr.area w l := by
  unfold knownL numsI
  split
  · exact areasR_eq (truthsL_sorted w l)
  · rfl

theorem knownL_bd {w : Wh} {l : List Wl} {is : Bool} : (knownL w l is).length ≤ 410000 := by
  unfold knownL
  split
  · rename_i h
    exact truthsL_bd l (checkI_ok (openI_ok (openI_t h)).1).1
  · simp

theorem many_known (w : Wh) (l : List Wl) : manyN w l = (knownL w l true).length := by
  unfold manyN knownL
  split <;> rfl

theorem ref33 (w : Wh) (nl fu : Bool) (l : List Wl) (hn : l.length ≤ 1000) : Pure Try.prog 33 [encWh w, sWl nl fu l] (.tup [encI (manyN w l), encI (openI w l true)]) := by
  refine pure_of (fn := Try.f33) [.tmp 4, .tmp 5] ⟨Try.func33, rfl, by kernel_rfl⟩ (by kernel_rfl) (by kernel_rfl) (by kernel_rfl) fun x hx hσ => ?_
  repeat refine awp_seq ?_
  refine awp_reg1 (by rw [hx]; kernel_rfl) fun K hK => ?_
  simp (config := { maxSteps := 1000000 }) [ty25]
  refine hK _ ?_
  clear hK K
  first | show AWP _ _ _ _ _ | show ∃ _, _ | skip
  repeat refine awp_seq ?_
  refine awp_reg1 (by rw [hx]; kernel_rfl) fun K hK => ?_
  simp (config := { maxSteps := 1000000 }) [ty25]
  refine callP (ref52 w nl fu true l hn) (by first | (simp; done) | (simp [*]; done)) ?_
  simp (config := { maxSteps := 1000000 }) [ty84]
  refine hK _ ?_
  clear hK K
  first | show AWP _ _ _ _ _ | show ∃ _, _ | skip
  repeat refine awp_seq ?_
  refine awp_reg1 (by rw [hx]; kernel_rfl) fun K hK => ?_
  simp (config := { maxSteps := 1000000 }) [ty84]
  refine hK _ ?_
  clear hK K
  first | show AWP _ _ _ _ _ | show ∃ _, _ | skip
  repeat refine awp_seq ?_
  refine awp_ret ?_
  refine And.intro (Or.inr rfl) ?_
  simp [retC, resC, viewC, mapO, many_known]

theorem ref34 (w : Wh) (nl fu : Bool) (l : List Wl) (hn : l.length ≤ 1000) : Pure Try.prog 34 [encWh w, sWl nl fu l] (.tup [.sl (numsI Tr.area w l).isEmpty false ((numsI Tr.area w l).map cI), encI (openI w l true)]) := by
  rw [← areas_nums]
  refine pure_of (fn := Try.f34) [.tmp 4, .tmp 5] ⟨Try.func34, rfl, by kernel_rfl⟩ (by kernel_rfl) (by kernel_rfl) (by kernel_rfl) fun x hx hσ => ?_
  repeat refine awp_seq ?_
  refine awp_reg1 (by rw [hx]; kernel_rfl) fun K hK => ?_
  simp (config := { maxSteps := 1000000 }) [ty25]
  refine hK _ ?_
  clear hK K
  first | show AWP _ _ _ _ _ | show ∃ _, _ | skip
  repeat refine awp_seq ?_
  refine awp_reg1 (by rw [hx]; kernel_rfl) fun K hK => ?_
  simp (config := { maxSteps := 1000000 }) [ty25]
  refine callP (ref52 w nl fu true l hn) (by first | (simp; done) | (simp [*]; done)) ?_
  simp (config := { maxSteps := 1000000 }) [ty84]
  refine hK _ ?_
  clear hK K
  first | show AWP _ _ _ _ _ | show ∃ _, _ | skip
  repeat refine awp_seq ?_
  refine awp_reg1 (by rw [hx]; kernel_rfl) fun K hK => ?_
  simp (config := { maxSteps := 1000000 }) [ty84]
  refine callP (ref69 (knownL w l true).isEmpty (knownL w l true).isEmpty (knownL w l true) knownL_bd) (by first | (simp; done) | (simp [*]; done)) ?_
  simp (config := { maxSteps := 1000000 }) [ty45]
  refine hK _ ?_
  clear hK K
  first | show AWP _ _ _ _ _ | show ∃ _, _ | skip
  repeat refine awp_seq ?_
  refine awp_ret ?_
  refine And.intro (Or.inr rfl) ?_
  simp [retC, resC, viewC, mapO]

theorem bound_known {w : Wh} {l : List Wl} (h : openI w l true = 0) : ∃ h0 : 0 < (truthsL w l).length, (boundI w l).1 = (truthsL w l)[0].area ∧ (boundI w l).2 = (truthsL w l)[(truthsL w l).length - 1].area := by
  obtain ⟨_, _, hT⟩ := openI_ok h
  have h0 : 0 < (truthsL w l).length := List.length_pos_iff.2 hT
  refine ⟨h0, ?_⟩
  obtain ⟨h1, h2, h3⟩ := numsI_ok (f := Tr.area) h
  have hp : 0 < (numsI Tr.area w l).length := List.length_pos_iff.2 h3
  obtain ⟨e1, e2⟩ := ends_eq _ hp
  unfold boundI
  simp only
  rw [e1, e2]
  have hs := kindsL_sorted Tr.area (truthsL w l)
  rw [← h1] at hs
  have hmem : ∀ b, b ∈ numsI Tr.area w l ↔ ∃ t ∈ truthsL w l, t.area = b := fun b => by rw [h1]; exact kindsL_mem _ _ b
  have hts := truthsL_sorted w l
  have le0 : ∀ b ∈ numsI Tr.area w l, (numsI Tr.area w l)[0] ≤ b := by
    intro b hb
    obtain ⟨i, hi, rfl⟩ := List.getElem_of_mem hb
    by_cases e : i = 0
    · subst e; exact Int.le_refl _
    · exact List.pairwise_iff_getElem.1 hs 0 i hp hi (by omega)
  have leN : ∀ b ∈ numsI Tr.area w l, b ≤ (numsI Tr.area w l)[(numsI Tr.area w l).length - 1] := by
    intro b hb
    obtain ⟨i, hi, rfl⟩ := List.getElem_of_mem hb
    by_cases e : i = (numsI Tr.area w l).length - 1
    · subst e; exact Int.le_refl _
    · exact List.pairwise_iff_getElem.1 hs i _ hi (by omega) (by omega)
  have tle0 : ∀ t ∈ truthsL w l, (truthsL w l)[0].area ≤ t.area := by
    intro t ht
    obtain ⟨i, hi, rfl⟩ := List.getElem_of_mem ht
    by_cases e : i = 0
    · subst e; exact Int.le_refl _
    · exact List.pairwise_iff_getElem.1 hts 0 i h0 hi (by omega)
  have tleN : ∀ t ∈ truthsL w l, t.area ≤ (truthsL w l)[(truthsL w l).length - 1].area := by
    intro t ht
    obtain ⟨i, hi, rfl⟩ := List.getElem_of_mem ht
    by_cases e : i = (truthsL w l).length - 1
    · subst e; exact Int.le_refl _
    · exact List.pairwise_iff_getElem.1 hts i _ hi (by omega) (by omega)
  constructor
  · obtain ⟨t, ht, e⟩ := (hmem _).1 (List.getElem_mem hp)
    have h5 := tle0 t ht
    have h6 := le0 _ ((hmem _).2 ⟨_, List.getElem_mem h0, rfl⟩)
    omega
  · obtain ⟨t, ht, e⟩ := (hmem _).1 (List.getElem_mem (show (numsI Tr.area w l).length - 1 < (numsI Tr.area w l).length by omega))
    have h5 := tleN t ht
    have h6 := leN _ ((hmem _).2 ⟨_, List.getElem_mem (show (truthsL w l).length - 1 < (truthsL w l).length by omega), rfl⟩)
    omega

theorem ref35 (w : Wh) (nl fu : Bool) (l : List Wl) (hn : l.length ≤ 1000) : Pure Try.prog 35 [encWh w, sWl nl fu l] (.tup [.agg [encI (boundI w l).1, encI (boundI w l).2], encI (openI w l true)]) := by
  have hkb := knownL_bd (w := w) (l := l) (is := true)
  refine pure_of (fn := Try.f35) [.cell 4 23, .tmp 5] ⟨Try.func35, rfl, by kernel_rfl⟩ (by kernel_rfl) (by kernel_rfl) (by kernel_rfl) fun x hx hσ => ?_
  repeat refine awp_seq ?_
  refine awp_reg1 (by rw [hx]; kernel_rfl) fun K hK => ?_
  simp (config := { maxSteps := 1000000 }) [ty25, ty23]
  refine hK _ ?_
  clear hK K
  first | show AWP _ _ _ _ _ | show ∃ _, _ | skip
  repeat refine awp_seq ?_
  refine awp_reg1 (by rw [hx]; kernel_rfl) fun K hK => ?_
  simp (config := { maxSteps := 1000000 }) [ty25]
  refine callP (ref52 w nl fu true l hn) (by first | (simp; done) | (simp [*]; done)) ?_
  simp (config := { maxSteps := 1000000 }) [ty84]
  refine hK _ ?_
  clear hK K
  first | show AWP _ _ _ _ _ | show ∃ _, _ | skip
  repeat refine awp_seq ?_
  refine awp_reg1 (by rw [hx]; kernel_rfl) fun K hK => ?_
  simp (config := { maxSteps := 1000000 }) [ty31]
  refine hK _ ?_
  clear hK K
  first | show AWP _ _ _ _ _ | show ∃ _, _ | skip
  by_cases hz : openI w l true = 0
  · have hk : knownL w l true = truthsL w l := if_pos hz
    rw [hk] at hkb ⊢
    obtain ⟨hpos, hb⟩ := bound_known hz
    repeat refine awp_seq ?_
    refine awp_cond (by simp [hz]; rfl) (by rw [hx]; simp) (fun hd => ?_) (fun hd => ?_)
    · simp at hd
    · clear hd
      refine awp_skip ?_
      first | show AWP _ _ _ _ _ | show ∃ _, _ | skip
      have hwr : IntKind.i64.wrap ((truthsL w l).length - 1) = ((truthsL w l).length - 1 : Nat) := by
        rw [wrap_id (by omega) (by omega)]; omega
      have hlt : (truthsL w l).length - 1 < (truthsL w l).length := by omega
      repeat refine awp_seq ?_
      refine awp_drw3 [] [0, 1, 2, 3, 4, 5, 6, 7, 8, 9, 10, 11, 12, 13] (by rw [hx]; kernel_rfl) (by kernel_rfl) (by kernel_rfl) (by kernel_rfl) fun K hK => ?_
      simp (config := { maxSteps := 1000000 }) [ty84, ty61, ty3, ty23, hpos, hwr, hlt]
      refine hK _ ?_
      clear hK K
      first | show AWP _ _ _ _ _ | show ∃ _, _ | skip
      repeat refine awp_seq ?_
      refine awp_ret ?_
      refine And.intro (Or.inr rfl) ?_
      simp [retC, resC, viewC, mapO, ty23, hz, hb]
  · have hz0 := numsI_zero (f := Tr.area) hz
    repeat refine awp_seq ?_
    refine awp_cond (by simp [hz]; rfl) (by rw [hx]; simp) (fun hd => ?_) (fun hd => ?_)
    · clear hd
      repeat refine awp_seq ?_
      refine awp_reg1 (by rw [hx]; kernel_rfl) fun K hK => ?_
      simp (config := { maxSteps := 1000000 }) [ty23]
      refine hK _ ?_
      clear hK K
      first | show AWP _ _ _ _ _ | show ∃ _, _ | skip
      repeat refine awp_seq ?_
      refine awp_ret ?_
      refine And.intro (Or.inr rfl) ?_
      simp [retC, resC, viewC, mapO, hz0, boundI, ty23]
    · simp [hz] at hd

end Go.Proofs.Ytmmoghgpaagnhaa

namespace Go.Proofs.Ytmmoghgpaagnhaa
open Go Go.Abs

set_option maxHeartbeats 4000000

/-- A wheel without wrong walks. -/
def noWrong (w : Wh) : Wh := { w with wrong := 0 }
def tellsI (w : Wh) (l : List Wl) (k : Int) : List Int := if checkI w l ≠ 0 then [] else if withinB k 0 (l.length - 1) = false then [] else numsI Tr.area (noWrong w) ((l.drop k.toNat).take 1)
def tellsE (w : Wh) (l : List Wl) (k : Int) : Int := if checkI w l ≠ 0 then checkI w l else if withinB k 0 (l.length - 1) = false then 1 else openI (noWrong w) ((l.drop k.toNat).take 1) true

theorem tells27 (w : Wh) (nl fu : Bool) (l : List Wl) (k : Int) (hn : l.length ≤ 1000) : Pure Try.prog 27 [encWh w, sWl nl fu l, encI k] (.tup [slI (tellsI w l k), encI (tellsE w l k)]) := by
  refine pure_of (fn := Try.f27) [.tmp 6, .tmp 7] ⟨Try.func27, rfl, by kernel_rfl⟩ (by kernel_rfl) (by kernel_rfl) (by kernel_rfl) fun x hx hσ => ?_
  repeat refine awp_seq ?_
  refine awp_reg1 (by rw [hx]; kernel_rfl) fun K hK => ?_
  simp (config := { maxSteps := 1000000 }) [ty25]
  refine hK _ ?_
  clear hK K
  first | show AWP _ _ _ _ _ | show ∃ _, _ | skip
  repeat refine awp_seq ?_
  refine awp_reg1 (by rw [hx]; kernel_rfl) fun K hK => ?_
  simp (config := { maxSteps := 1000000 }) [ty25]
  refine callP (check30 w nl fu l hn) (by first | (simp; done) | (simp [*]; done)) ?_
  simp (config := { maxSteps := 1000000 }) []
  refine hK _ ?_
  clear hK K
  first | show AWP _ _ _ _ _ | show ∃ _, _ | skip
  repeat refine awp_seq ?_
  refine awp_reg1 (by rw [hx]; kernel_rfl) fun K hK => ?_
  simp (config := { maxSteps := 1000000 }) [ty31]
  refine hK _ ?_
  clear hK K
  first | show AWP _ _ _ _ _ | show ∃ _, _ | skip
  by_cases hz : checkI w l = 0
  · obtain ⟨hw, hl, h8⟩ := checkI_ok hz
    repeat refine awp_seq ?_
    refine awp_cond (by simp [hz]; rfl) (by rw [hx]; simp) (fun hd => ?_) (fun hd => ?_)
    · simp at hd
    · clear hd
      refine awp_skip ?_
      first | show AWP _ _ _ _ _ | show ∃ _, _ | skip
      have hwr : IntKind.i64.wrap ((l.length : Int) - 1) = l.length - 1 := wrap_id (by omega) (by omega)
      repeat refine awp_seq ?_
      refine awp_reg1 (by rw [hx]; kernel_rfl) fun K hK => ?_
      simp (config := { maxSteps := 1000000 }) [ty26, ty3, hwr]
      refine callP (within61 k 0 (l.length - 1)) (by first | (simp; done) | (simp [*]; done)) ?_
      simp (config := { maxSteps := 1000000 }) [ty4]
      refine hK _ ?_
      clear hK K
      first | show AWP _ _ _ _ _ | show ∃ _, _ | skip
      cases hb : withinB k 0 (l.length - 1)
      · repeat refine awp_seq ?_
        refine awp_cond (by simp [hb]; rfl) (by rw [hx]; simp) (fun hd => ?_) (fun hd => ?_)
        · clear hd
          repeat refine awp_seq ?_
          refine awp_reg1 (by rw [hx]; kernel_rfl) fun K hK => ?_
          simp (config := { maxSteps := 1000000 }) []
          refine hK _ ?_
          clear hK K
          first | show AWP _ _ _ _ _ | show ∃ _, _ | skip
          repeat refine awp_seq ?_
          refine awp_ret ?_
          refine And.intro (Or.inr rfl) ?_
          simp [retC, resC, viewC, mapO, tellsI, tellsE, hz, hb]
        · simp at hd
      · repeat refine awp_seq ?_
        refine awp_cond (by simp [hb]; rfl) (by rw [hx]; simp) (fun hd => ?_) (fun hd => ?_)
        · simp at hd
        · clear hd
          refine awp_skip ?_
          first | show AWP _ _ _ _ _ | show ∃ _, _ | skip
          have hk : 0 ≤ k ∧ k ≤ l.length - 1 := by simpa [withinB] using hb
          obtain ⟨j, rfl⟩ : ∃ j : Nat, k = j := ⟨k.toNat, by omega⟩
          have hj : j + 1 ≤ l.length := by omega
          repeat refine awp_seq ?_
          refine awp_reg1 (by rw [hx]; kernel_rfl) fun K hK => ?_
          simp (config := { maxSteps := 1000000 }) [ty25, ty3]
          refine hK _ ?_
          clear hK K
          first | show AWP _ _ _ _ _ | show ∃ _, _ | skip
          have hk1 : IntKind.i64.wrap ((j : Int) + 1) = j + 1 := wrap_id (by omega) (by omega)
          have hk2 : (0 : Int) ≤ j + 1 := by omega
          have hk3 : ((j : Int) + 1).toNat = j + 1 := by omega
          have hrow : List.take 1 (List.drop j (l.map cWl)) = ((l.drop j).take 1).map cWl := by rw [List.map_take, List.map_drop]
          repeat refine awp_seq ?_
          refine awp_drw3 [] [0, 1, 2, 3, 4, 5, 6, 7, 8, 9, 10] (by rw [hx]; kernel_rfl) (by kernel_rfl) (by kernel_rfl) (by kernel_rfl) fun K hK => ?_
          simp (config := { maxSteps := 1000000 }) [ty25, ty26, ty39, ty45, ty3, hk1, hk2, hk3, hj]
          rw [hrow]
          have hA := areas22 (noWrong w) nl (fu && j + 1 == l.length) ((l.drop j).take 1) (by simp; omega)
          rw [show encWh (noWrong w) = .agg [encI w.full, encI w.read, encI w.slip, encI w.skew, encI w.circle, encI w.glow, encI w.ghigh, encI 0] from rfl] at hA
          refine callPD (hA) (by first | (simp; done) | (simp [*]; done)) (by simp) ?_
          simp (config := { maxSteps := 1000000 }) [ty45]
          refine hK _ ?_
          clear hK K
          first | show AWP _ _ _ _ _ | show ∃ _, _ | skip
          repeat refine awp_seq ?_
          refine awp_ret ?_
          refine And.intro (Or.inr rfl) ?_
          have hA1 : tellsI w l j = numsI Tr.area (noWrong w) ((l.drop j).take 1) := by simp [tellsI, hz, hb]
          have hA2 : tellsE w l j = openI (noWrong w) ((l.drop j).take 1) true := by simp [tellsE, hz, hb]
          simp [retC, resC, viewC, mapO, hA1, hA2]
  · repeat refine awp_seq ?_
    refine awp_cond (by simp [hz]; rfl) (by rw [hx]; simp) (fun hd => ?_) (fun hd => ?_)
    · clear hd
      repeat refine awp_seq ?_
      refine awp_reg1 (by rw [hx]; kernel_rfl) fun K hK => ?_
      simp (config := { maxSteps := 1000000 }) []
      refine hK _ ?_
      clear hK K
      first | show AWP _ _ _ _ _ | show ∃ _, _ | skip
      repeat refine awp_seq ?_
      refine awp_ret ?_
      refine And.intro (Or.inr rfl) ?_
      simp [retC, resC, viewC, mapO, tellsI, tellsE, hz]
    · simp [hz] at hd

end Go.Proofs.Ytmmoghgpaagnhaa

namespace Go.Proofs.Ytmmoghgpaagnhaa
open Go Go.Abs

set_option maxHeartbeats 4000000

def skq (w : Wh) (L : List Tr) (i : Nat) : Bool := L.any fun t => decide (t.skew = -w.skew + i)
def skewsR (w : Wh) (L : List Tr) : Nat → List Int
  | 0 => []
  | n + 1 => if skq w L n then skewsR w L n ++ [-w.skew + n] else skewsR w L n
@[simp] theorem skewsR_zero (w : Wh) (L : List Tr) : skewsR w L 0 = [] := rfl

theorem skewsR_len (w : Wh) (L : List Tr) : ∀ n, (skewsR w L n).length ≤ n
  | 0 => Nat.le_refl _
  | n + 1 => by have := skewsR_len w L n; simp only [skewsR]; split <;> simp <;> omega

theorem skewsR_mem (w : Wh) (L : List Tr) (b : Int) : ∀ n, b ∈ skewsR w L n ↔ ∃ i, i < n ∧ skq w L i = true ∧ b = -w.skew + i
  | 0 => by simp
  | n + 1 => by
    have ih := skewsR_mem w L b n
    simp only [skewsR]
    split
    · rename_i h
      rw [List.mem_append, ih, List.mem_singleton]
      constructor
      · rintro (⟨i, h1, h2, h3⟩ | h1)
        · exact ⟨i, by omega, h2, h3⟩
        · exact ⟨n, by omega, h, h1⟩
      · rintro ⟨i, h1, h2, h3⟩
        by_cases e : i = n
        · subst e; exact .inr h3
        · exact .inl ⟨i, by omega, h2, h3⟩
    · rename_i h
      rw [ih]
      constructor
      · rintro ⟨i, h1, h2, h3⟩; exact ⟨i, by omega, h2, h3⟩
      · rintro ⟨i, h1, h2, h3⟩
        by_cases e : i = n
        · subst e; exact absurd h2 h
        · exact ⟨i, by omega, h2, h3⟩

theorem skewsR_lt (w : Wh) (L : List Tr) : ∀ n, (skewsR w L n).Pairwise (· < ·)
  | 0 => by simp
  | n + 1 => by
    have ih := skewsR_lt w L n
    simp only [skewsR]
    split
    · refine List.pairwise_append.2 ⟨ih, by simp, fun a ha b hb => ?_⟩
      simp at hb
      subst hb
      obtain ⟨i, h1, _, rfl⟩ := (skewsR_mem w L a n).1 ha
      omega
    · exact ih

theorem skews_nums (w : Wh) (l : List Wl) (h : openI w l true = 0) : skewsR w (truthsL w l) (nS w) = numsI Tr.skew w l := by
  have hw := (checkI_ok (openI_ok h).1).1
  have hs := hw.skew
  rw [(numsI_ok h).1]
  refine sorted_eq ((skewsR_lt w _ _).imp (fun h => Int.le_of_lt h)) (kindsL_sorted _ _) ((skewsR_lt w _ _).imp (fun h => Int.ne_of_lt h)) (kindsL_nodup _ _) fun b => ?_
  rw [skewsR_mem, kindsL_mem]
  constructor
  · rintro ⟨i, h1, h2, rfl⟩
    simp only [skq, List.any_eq_true, decide_eq_true_eq] at h2
    exact h2
  · rintro ⟨t, ht, rfl⟩
    have := allT_mem.1 (List.mem_filter.1 ht).1
    refine ⟨(t.skew + w.skew).toNat, by unfold nS; omega, ?_, by omega⟩
    simp only [skq, List.any_eq_true, decide_eq_true_eq]
    exact ⟨t, ht, by omega⟩

theorem ref37 (w : Wh) (nl fu : Bool) (l : List Wl) (hn : l.length ≤ 1000) : Pure Try.prog 37 [encWh w, sWl nl fu l] (.tup [.sl (numsI Tr.skew w l).isEmpty (openI w l true != 0) ((numsI Tr.skew w l).map cI), encI (openI w l true)]) := by
  have hkb := knownL_bd (w := w) (l := l) (is := true)
  refine pure_of (fn := Try.f37) [.tmp 4, .tmp 5] ⟨Try.func37, rfl, by kernel_rfl⟩ (by kernel_rfl) (by kernel_rfl) (by kernel_rfl) fun x hx hσ => ?_
  repeat refine awp_seq ?_
  refine awp_reg1 (by rw [hx]; kernel_rfl) fun K hK => ?_
  simp (config := { maxSteps := 1000000 }) [ty25]
  refine hK _ ?_
  clear hK K
  first | show AWP _ _ _ _ _ | show ∃ _, _ | skip
  repeat refine awp_seq ?_
  refine awp_reg1 (by rw [hx]; kernel_rfl) fun K hK => ?_
  simp (config := { maxSteps := 1000000 }) [ty25]
  refine callP (ref52 w nl fu true l hn) (by first | (simp; done) | (simp [*]; done)) ?_
  simp (config := { maxSteps := 1000000 }) [ty84]
  refine hK _ ?_
  clear hK K
  first | show AWP _ _ _ _ _ | show ∃ _, _ | skip
  repeat refine awp_seq ?_
  refine awp_reg1 (by rw [hx]; kernel_rfl) fun K hK => ?_
  simp (config := { maxSteps := 1000000 }) [ty31]
  refine hK _ ?_
  clear hK K
  first | show AWP _ _ _ _ _ | show ∃ _, _ | skip
  by_cases hz : openI w l true = 0
  · have hk : knownL w l true = truthsL w l := if_pos hz
    rw [← skews_nums w l hz]
    rw [hk] at hkb ⊢
    have hs := (checkI_ok (openI_ok hz).1).1.skew
    have hS : (nS w : Int) = 2 * w.skew + 1 := by unfold nS; omega
    generalize hL : truthsL w l = L at *
    repeat refine awp_seq ?_
    refine awp_cond (by simp [hz]; rfl) (by rw [hx]; simp) (fun hd => ?_) (fun hd => ?_)
    · simp at hd
    · clear hd
      refine awp_skip ?_
      first | show AWP _ _ _ _ _ | show ∃ _, _ | skip
      repeat refine awp_seq ?_
      refine awp_reg1 (by rw [hx]; kernel_rfl) fun K hK => ?_
      simp (config := { maxSteps := 1000000 }) []
      refine hK _ ?_
      clear hK K
      first | show AWP _ _ _ _ _ | show ∃ _, _ | skip
      have hwr : IntKind.i64.wrap (-w.skew) = -w.skew := wrap_id (by omega) (by omega)
      repeat refine awp_seq ?_
      refine awp_reg1 (by rw [hx]; kernel_rfl) fun K hK => ?_
      simp (config := { maxSteps := 1000000 }) [ty25, ty3, hwr]
      refine hK _ ?_
      clear hK K
      first | show AWP _ _ _ _ _ | show ∃ _, _ | skip
      repeat refine awp_seq ?_
      refine awp_block ?_
      refine AWP.weak ?_ (wk_nil 8 8 1 (fu := true) (by simp) (by simp))
      obtain ⟨O, hO⟩ : ∃ O : Nat → List Int, O = fun i => skewsR w L i := ⟨_, rfl⟩
      have hOe : ∀ i, skewsR w L i = O i := fun i => by rw [hO]
      have hO0 : O 0 = [] := by rw [hO]; rfl
      have hOs : ∀ i, O (i + 1) = if skq w L i then O i ++ [-w.skew + i] else O i := fun i => by rw [hO]; rfl
      have hOl : ∀ i, (O i).length ≤ i := fun i => by rw [hO]; exact skewsR_len w L i
      rw [hOe]
      refine awp_loop (fun i : Nat => ⟨ofL [(2, .ptr 2 8 0 0), (6, slT L), (8, .own 8 1 0 (O i).length), (9, encI (-w.skew + i))], stoT [(2, 2, .live (obWh w)), (8, 8, .live ⟨(O i).isEmpty, false, 1, (O i).map cI⟩)]⟩)
        (fun i => i ≤ nS w) (fun i => nS w - i) 0 (Nat.zero_le _) ?_ ?_
      · simp only [hO0]
        refine wk_shape (shp0 hσ (by simp) (by simp) ?_) ?_
        · simp [SlotOk] <;> (repeat' (first | exact .same (by simp [purel, C.isPure]) | exact .cons (by simp [mtl, mtc, mT, mH, C.isPure, purel]) (by simp) .nil | refine And.intro ?_ ?_))
        · simp [mtc, mtl, mT, C.isPure, purel] <;> (try simp (disch := omega) [wrap_id]) <;> (try omega)
      · intro i hi
        have hOli := hOl i
        repeat refine awp_seq ?_
        refine awp_reg1 (by rw [hx]; kernel_rfl) fun K hK => ?_
        simp (config := { maxSteps := 1000000 }) [ty25, ty3]
        refine hK _ ?_
        clear hK K
        first | show AWP _ _ _ _ _ | show ∃ _, _ | skip
        repeat refine awp_seq ?_
        refine awp_cond (by simp; rfl) (by rw [hx]; simp) (fun hc => ?_) (fun hc => ?_)
        · simp at hc
          have hiS : i < nS w := by omega
          have hst := hOs i
          have hwi := wrap_id (z := -w.skew + (i : Int) + 1) (by omega) (by omega)
          refine awp_skip ?_
          first | show AWP _ _ _ _ _ | show ∃ _, _ | skip
          repeat refine awp_seq ?_
          refine awp_block ?_
          repeat refine awp_seq ?_
          refine awp_reg1 (by rw [hx]; kernel_rfl) fun K hK => ?_
          simp (config := { maxSteps := 1000000 }) []
          refine hK _ ?_
          clear hK K
          first | show AWP _ _ _ _ _ | show ∃ _, _ | skip
          repeat refine awp_seq ?_
          refine awp_block ?_
          refine awp_loop (fun j : Nat => ⟨ofL [(2, .ptr 2 8 0 0), (6, slT L), (8, .own 8 1 0 (O i).length), (9, encI (-w.skew + i)), (10, encI j)], stoT [(2, 2, .live (obWh w)), (8, 8, .live ⟨(O i).isEmpty, false, 1, (O i).map cI⟩)]⟩)
            (fun j => j ≤ L.length ∧ ∀ j' (h : j' < L.length), j' < j → L[j'].skew ≠ -w.skew + i) (fun j => L.length - j) 0 ⟨Nat.zero_le _, fun j' _ h => by omega⟩ ?_ ?_
          · refine wk_shape (shp0 hσ (by simp) (by simp) ?_) ?_
            · simp [SlotOk] <;> (repeat' (first | exact .same (by simp [purel, C.isPure]) | exact .cons (by simp [mtl, mtc, mT, mH, C.isPure, purel]) (by simp) .nil | refine And.intro ?_ ?_))
            · simp [mtc, mtl, mT, C.isPure, purel] <;> (try simp (disch := omega) [wrap_id]) <;> (try omega)
          · rintro j ⟨hj, hno⟩
            repeat refine awp_seq ?_
            refine awp_reg1 (by rw [hx]; kernel_rfl) fun K hK => ?_
            simp (config := { maxSteps := 1000000 }) [ty84, ty3]
            refine hK _ ?_
            clear hK K
            first | show AWP _ _ _ _ _ | show ∃ _, _ | skip
            repeat refine awp_seq ?_
            refine awp_cond (by simp; rfl) (by rw [hx]; simp) (fun hc2 => ?_) (fun hc2 => ?_)
            · simp at hc2
              refine awp_skip ?_
              first | show AWP _ _ _ _ _ | show ∃ _, _ | skip
              repeat refine awp_seq ?_
              refine awp_block ?_
              have hne : L ≠ [] := by rintro rfl; simp at hc2
              repeat refine awp_seq ?_
              refine awp_reg1 (by rw [hx]; kernel_rfl) fun K hK => ?_
              simp (config := { maxSteps := 1000000 }) [ty84, ty61, ty3, hc2, hne]
              refine hK _ ?_
              clear hK K
              first | show AWP _ _ _ _ _ | show ∃ _, _ | skip
              by_cases hb : L[j].skew = -w.skew + i
              · repeat refine awp_seq ?_
                refine awp_cond (by simp [hb]; rfl) (by rw [hx]; simp) (fun hd => ?_) (fun hd => ?_)
                · clear hd
                  have hq : skq w L i = true := by
                    simp only [skq, List.any_eq_true, decide_eq_true_eq]
                    exact ⟨_, List.getElem_mem hc2, hb⟩
                  rw [hq, if_pos rfl] at hst
                  repeat refine awp_seq ?_
                  refine awp_reg1 (by rw [hx]; kernel_rfl) fun K hK => ?_
                  simp (config := { maxSteps := 1000000 }) [ty45, ty3]
                  refine ⟨by omega, ?_⟩
                  refine hK _ ?_
                  clear hK K
                  first | show AWP _ _ _ _ _ | show ∃ _, _ | skip
                  repeat refine awp_seq ?_
                  refine awp_exit ?_
                  first | show AWP _ _ _ _ _ | show ∃ _, _ | skip
                  repeat refine awp_seq ?_
                  refine awp_reg1 (by rw [hx]; kernel_rfl) fun K hK => ?_
                  simp (config := { maxSteps := 1000000 }) [ty3]
                  refine hK _ ?_
                  clear hK K
                  first | show AWP _ _ _ _ _ | show ∃ _, _ | skip
                  refine ⟨i + 1, by omega, by omega, ?_⟩
                  refine wk_shape (T := [(2, 2, .live (obWh w)), (8, 45, .live ⟨(O (i + 1)).isEmpty, false, 1, (O (i + 1)).map cI⟩)]) (shp0 hσ (by simp) (by simp) ?_) ?_
                  · simp [SlotOk, hst]
                    exact ⟨.same (by simp [purel, C.isPure]), .same (by simp [purel, C.isPure])⟩
                  · simp [mtc, mtl, mT, C.isPure, purel, hst, hwi]
                    omega
                · simp [hb] at hd
              · repeat refine awp_seq ?_
                refine awp_cond (by simp [hb]; rfl) (by rw [hx]; simp) (fun hd => ?_) (fun hd => ?_)
                · simp [hb] at hd
                · clear hd
                  refine awp_skip ?_
                  first | show AWP _ _ _ _ _ | show ∃ _, _ | skip
                  repeat refine awp_seq ?_
                  refine awp_reg1 (by rw [hx]; kernel_rfl) fun K hK => ?_
                  simp (config := { maxSteps := 1000000 }) [ty3]
                  refine hK _ ?_
                  clear hK K
                  first | show AWP _ _ _ _ _ | show ∃ _, _ | skip
                  rw [wrap_id (z := (j : Int) + 1) (by omega) (by omega)]
                  refine ⟨j + 1, ⟨by omega, fun j' h1 h2 => ?_⟩, by omega, ?_⟩
                  · by_cases e : j' = j
                    · subst e; exact hb
                    · exact hno j' h1 (by omega)
                  · refine wk_shape (shp0 hσ (by simp) (by simp) ?_) ?_
                    · simp [SlotOk] <;> (repeat' (first | exact .same (by simp [purel, C.isPure]) | exact .cons (by simp [mtl, mtc, mT, mH, C.isPure, purel]) (by simp) .nil | refine And.intro ?_ ?_))
                    · simp [mtc, mtl, mT, C.isPure, purel] <;> (try simp (disch := omega) [wrap_id]) <;> (try omega)
            · simp at hc2
              repeat refine awp_seq ?_
              refine awp_exit ?_
              first | show AWP _ _ _ _ _ | show ∃ _, _ | skip
              have hq : skq w L i = false := by
                rw [Bool.eq_false_iff]
                intro h
                simp only [skq, List.any_eq_true, decide_eq_true_eq] at h
                obtain ⟨t, ht, e⟩ := h
                obtain ⟨j', h1, rfl⟩ := List.getElem_of_mem ht
                exact hno j' h1 (by omega) e
              rw [hq, if_neg (by simp)] at hst
              repeat refine awp_seq ?_
              refine awp_reg1 (by rw [hx]; kernel_rfl) fun K hK => ?_
              simp (config := { maxSteps := 1000000 }) [ty3]
              refine hK _ ?_
              clear hK K
              first | show AWP _ _ _ _ _ | show ∃ _, _ | skip
              refine ⟨i + 1, by omega, by omega, ?_⟩
              rw [hst]
              refine wk_shape (shp0 hσ (by simp) (by simp) ?_) ?_
              · simp [SlotOk] <;> (repeat' (first | exact .same (by simp [purel, C.isPure]) | exact .cons (by simp [mtl, mtc, mT, mH, C.isPure, purel]) (by simp) .nil | refine And.intro ?_ ?_))
              · simp [mtc, mtl, mT, C.isPure, purel, hwi] <;> (try simp (disch := omega) [wrap_id]) <;> (try omega)
        · simp at hc
          repeat refine awp_seq ?_
          refine awp_exit ?_
          first | show AWP _ _ _ _ _ | show ∃ _, _ | skip
          have : i = nS w := by omega
          rw [this]
          repeat refine awp_seq ?_
          refine awp_reg1 (by rw [hx]; kernel_rfl) fun K hK => ?_
          simp (config := { maxSteps := 1000000 }) []
          refine hK _ ?_
          clear hK K
          first | show AWP _ _ _ _ _ | show ∃ _, _ | skip
          repeat refine awp_seq ?_
          refine awp_ret ?_
          refine And.intro (Or.inr rfl) ?_
          simp [retC, resC, viewC, mapO, purel, C.isPure, hz]
  · have hz0 := numsI_zero (f := Tr.skew) hz
    repeat refine awp_seq ?_
    refine awp_cond (by simp [hz]; rfl) (by rw [hx]; simp) (fun hd => ?_) (fun hd => ?_)
    · clear hd
      repeat refine awp_seq ?_
      refine awp_reg1 (by rw [hx]; kernel_rfl) fun K hK => ?_
      simp (config := { maxSteps := 1000000 }) []
      refine hK _ ?_
      clear hK K
      first | show AWP _ _ _ _ _ | show ∃ _, _ | skip
      repeat refine awp_seq ?_
      refine awp_ret ?_
      refine And.intro (Or.inr rfl) ?_
      simp [retC, resC, viewC, mapO, hz0, hz]
    · simp [hz] at hd

end Go.Proofs.Ytmmoghgpaagnhaa

namespace Go.Proofs.Ytmmoghgpaagnhaa
open Go Go.Abs

set_option maxHeartbeats 4000000

theorem any_step {α : Type} (p : α → Bool) {L : List α} {i : Nat} (hi : i < L.length) : (L.take (i + 1)).any p = ((L.take i).any p || p L[i]) := by
  rw [List.take_succ_eq_append_getElem hi, List.any_append]
  simp

theorem ref39 (w : Wh) (nl fu : Bool) (l : List Wl) (hn : l.length ≤ 1000) : Pure Try.prog 39 [encWh w, sWl nl fu l] (.tup [.sl (strI w l).isEmpty (openI w l true != 0) ((strI w l).map cI), encI (openI w l true)]) := by
  have hkb := knownL_bd (w := w) (l := l) (is := true)
  refine pure_of (fn := Try.f39) [.tmp 4, .tmp 5] ⟨Try.func39, rfl, by kernel_rfl⟩ (by kernel_rfl) (by kernel_rfl) (by kernel_rfl) fun x hx hσ => ?_
  repeat refine awp_seq ?_
  refine awp_reg1 (by rw [hx]; kernel_rfl) fun K hK => ?_
  simp (config := { maxSteps := 1000000 }) [ty25]
  refine hK _ ?_
  clear hK K
  first | show AWP _ _ _ _ _ | show ∃ _, _ | skip
  repeat refine awp_seq ?_
  refine awp_reg1 (by rw [hx]; kernel_rfl) fun K hK => ?_
  simp (config := { maxSteps := 1000000 }) [ty25]
  refine callP (ref52 w nl fu true l hn) (by first | (simp; done) | (simp [*]; done)) ?_
  simp (config := { maxSteps := 1000000 }) [ty84]
  refine hK _ ?_
  clear hK K
  first | show AWP _ _ _ _ _ | show ∃ _, _ | skip
  repeat refine awp_seq ?_
  refine awp_reg1 (by rw [hx]; kernel_rfl) fun K hK => ?_
  simp (config := { maxSteps := 1000000 }) [ty31]
  refine hK _ ?_
  clear hK K
  first | show AWP _ _ _ _ _ | show ∃ _, _ | skip
  by_cases hz : openI w l true = 0
  · have hk : knownL w l true = truthsL w l := if_pos hz
    obtain ⟨hc0, _, hT⟩ := openI_ok hz
    obtain ⟨hw, hl, h8⟩ := checkI_ok hc0
    have hsI : strI w l = fixTo (strB w l) l.length := if_pos hz
    have hkb2 : (truthsL w l).length ≤ 410000 := by rw [← hk]; exact hkb
    rw [hsI, hk]
    obtain ⟨O, hO⟩ : ∃ O : Nat → List Int, O = fun i => fixTo (strB w l) i := ⟨_, rfl⟩
    have hOe : ∀ i, fixTo (strB w l) i = O i := fun i => by rw [hO]
    have hO0 : O 0 = [] := by rw [hO]; rfl
    have hOs : ∀ i, O (i + 1) = if strB w l i then O i ++ [(i : Int)] else O i := fun i => by rw [hO]; rfl
    have hOl : ∀ i, (O i).length ≤ i := fun i => by rw [hO]; exact fixTo_len _ i
    have hTok : ∀ t ∈ truthsL w l, TrOk t := fun t ht => allT_ok hw (List.mem_filter.1 ht).1
    have hsB := fun i (hi : i < l.length) => strB_at (w := w) hi
    rw [hOe]
    generalize hL : truthsL w l = L at *
    repeat refine awp_seq ?_
    refine awp_cond (by simp [hz]; rfl) (by rw [hx]; simp) (fun hd => ?_) (fun hd => ?_)
    · simp at hd
    · clear hd
      refine awp_skip ?_
      first | show AWP _ _ _ _ _ | show ∃ _, _ | skip
      repeat refine awp_seq ?_
      refine awp_reg1 (by rw [hx]; kernel_rfl) fun K hK => ?_
      simp (config := { maxSteps := 1000000 }) []
      refine hK _ ?_
      clear hK K
      first | show AWP _ _ _ _ _ | show ∃ _, _ | skip
      repeat refine awp_seq ?_
      refine awp_reg1 (by rw [hx]; kernel_rfl) fun K hK => ?_
      simp (config := { maxSteps := 1000000 }) []
      refine hK _ ?_
      clear hK K
      first | show AWP _ _ _ _ _ | show ∃ _, _ | skip
      repeat refine awp_seq ?_
      refine awp_block ?_
      refine AWP.weak ?_ (wk_nil 8 8 1 (fu := true) (by simp) (by simp))
      refine awp_loop (fun i : Nat => ⟨ofL [(1, sWl nl fu l), (2, .ptr 2 8 0 0), (6, slT L), (8, .own 8 1 0 (O i).length), (9, encI i)], stoT [(2, 2, .live (obWh w)), (8, 8, .live ⟨(O i).isEmpty, false, 1, (O i).map cI⟩)]⟩)
        (fun i => i ≤ l.length) (fun i => l.length - i) 0 (Nat.zero_le _) ?_ ?_
      · simp only [hO0]
        refine wk_shape (shp0 hσ (by simp) (by simp) ?_) ?_
        · simp [SlotOk] <;> (repeat' (first | exact .same (by simp [purel, C.isPure]) | exact .cons (by simp [mtl, mtc, mT, mH, C.isPure, purel]) (by simp) .nil | refine And.intro ?_ ?_))
        · simp [mtc, mtl, mT, C.isPure, purel] <;> (try simp (disch := omega) [wrap_id]) <;> (try omega)
      · intro i hi
        have hOli := hOl i
        repeat refine awp_seq ?_
        refine awp_reg1 (by rw [hx]; kernel_rfl) fun K hK => ?_
        simp (config := { maxSteps := 1000000 }) [ty26, ty3]
        refine hK _ ?_
        clear hK K
        first | show AWP _ _ _ _ _ | show ∃ _, _ | skip
        repeat refine awp_seq ?_
        refine awp_cond (by simp; rfl) (by rw [hx]; simp) (fun hc => ?_) (fun hc => ?_)
        · simp at hc
          have hst := hOs i
          have hwi := wrap_id (z := (i : Int) + 1) (by omega) (by omega)
          have hsBi := hsB i hc
          refine awp_skip ?_
          first | show AWP _ _ _ _ _ | show ∃ _, _ | skip
          repeat refine awp_seq ?_
          refine awp_block ?_
          repeat refine awp_seq ?_
          refine awp_reg1 (by rw [hx]; kernel_rfl) fun K hK => ?_
          simp (config := { maxSteps := 1000000 }) []
          refine hK _ ?_
          clear hK K
          first | show AWP _ _ _ _ _ | show ∃ _, _ | skip
          repeat refine awp_seq ?_
          refine awp_reg1 (by rw [hx]; kernel_rfl) fun K hK => ?_
          simp (config := { maxSteps := 1000000 }) []
          refine hK _ ?_
          clear hK K
          first | show AWP _ _ _ _ _ | show ∃ _, _ | skip
          repeat refine awp_seq ?_
          refine awp_block ?_
          obtain ⟨r, hr⟩ : ∃ r : Nat → Bool, r = fun j => (L.take j).any (rightB w l[i]) := ⟨_, rfl⟩
          have hr0 : r 0 = false := by rw [hr]; rfl
          have hrs : ∀ j (hj : j < L.length), r (j + 1) = (r j || rightB w l[i] L[j]) := fun j hj => by rw [hr]; exact any_step _ hj
          have hrn : strB w l i = !r L.length := by
            rw [hsBi, hr]
            simp only [List.take_length, List.all_eq_not_any_not, Bool.not_not]
          refine awp_loop (fun j : Nat => ⟨ofL [(1, sWl nl fu l), (2, .ptr 2 8 0 0), (6, slT L), (8, .own 8 1 0 (O i).length), (9, encI i), (10, .bool (r j)), (11, encI j)], stoT [(2, 2, .live (obWh w)), (8, 8, .live ⟨(O i).isEmpty, false, 1, (O i).map cI⟩)]⟩)
            (fun j => j ≤ L.length) (fun j => L.length - j) 0 (Nat.zero_le _) ?_ ?_
          · simp only [hr0]
            refine wk_shape (shp0 hσ (by simp) (by simp) ?_) ?_
            · simp [SlotOk] <;> (repeat' (first | exact .same (by simp [purel, C.isPure]) | exact .cons (by simp [mtl, mtc, mT, mH, C.isPure, purel]) (by simp) .nil | refine And.intro ?_ ?_))
            · simp [mtc, mtl, mT, C.isPure, purel] <;> (try simp (disch := omega) [wrap_id]) <;> (try omega)
          · intro j hj
            repeat refine awp_seq ?_
            refine awp_reg1 (by rw [hx]; kernel_rfl) fun K hK => ?_
            simp (config := { maxSteps := 1000000 }) [ty84, ty3]
            refine hK _ ?_
            clear hK K
            first | show AWP _ _ _ _ _ | show ∃ _, _ | skip
            repeat refine awp_seq ?_
            refine awp_cond (by simp; rfl) (by rw [hx]; simp) (fun hc2 => ?_) (fun hc2 => ?_)
            · simp at hc2
              refine awp_skip ?_
              first | show AWP _ _ _ _ _ | show ∃ _, _ | skip
              repeat refine awp_seq ?_
              refine awp_block ?_
              have hne : L ≠ [] := by rintro rfl; simp at hc2
              have hrj := hrs j hc2
              have hwj := wrap_id (z := (j : Int) + 1) (by omega) (by omega)
              cases hb : r j
              · rw [hb, Bool.false_or] at hrj
                repeat refine awp_seq ?_
                refine awp_drw3 [] [0, 1, 2, 3, 4, 5, 6, 7, 8, 9, 10, 11, 12, 13] (by rw [hx]; kernel_rfl) (by kernel_rfl) (by kernel_rfl) (by kernel_rfl) fun K hK => ?_
                simp (config := { maxSteps := 1000000 }) [ty25, ty26, ty39, ty84, ty61, hc, hc2, hne]
                refine callPD (ref43 w l[i] L[j] hw (hl _ (List.getElem_mem hc)) (hTok _ (List.getElem_mem hc2))) (by first | (simp; done) | (simp [*]; done)) (by simp) ?_
                simp (config := { maxSteps := 1000000 }) [ty4]
                refine hK _ ?_
                clear hK K
                first | show AWP _ _ _ _ _ | show ∃ _, _ | skip
                repeat refine awp_seq ?_
                refine awp_reg1 (by rw [hx]; kernel_rfl) fun K hK => ?_
                simp (config := { maxSteps := 1000000 }) [ty3]
                refine hK _ ?_
                clear hK K
                first | show AWP _ _ _ _ _ | show ∃ _, _ | skip
                refine ⟨j + 1, by omega, by omega, ?_⟩
                rw [hrj]
                refine wk_shape (shp0 hσ (by simp) (by simp) ?_) ?_
                · simp [SlotOk] <;> (repeat' (first | exact .same (by simp [purel, C.isPure]) | exact .cons (by simp [mtl, mtc, mT, mH, C.isPure, purel]) (by simp) .nil | refine And.intro ?_ ?_))
                · simp [mtc, mtl, mT, C.isPure, purel, hwj] <;> (try simp (disch := omega) [wrap_id]) <;> (try omega)
              · rw [hb, Bool.true_or] at hrj
                repeat refine awp_seq ?_
                refine awp_drw3 [] [0, 1, 2, 3, 4, 5, 6, 7, 8, 9, 10, 11, 12, 13] (by rw [hx]; kernel_rfl) (by kernel_rfl) (by kernel_rfl) (by kernel_rfl) fun K hK => ?_
                simp (config := { maxSteps := 1000000 }) [ty25, ty26, ty39, ty84, ty61, hc, hc2, hne]
                refine hK _ ?_
                clear hK K
                first | show AWP _ _ _ _ _ | show ∃ _, _ | skip
                repeat refine awp_seq ?_
                refine awp_reg1 (by rw [hx]; kernel_rfl) fun K hK => ?_
                simp (config := { maxSteps := 1000000 }) [ty3]
                refine hK _ ?_
                clear hK K
                first | show AWP _ _ _ _ _ | show ∃ _, _ | skip
                refine ⟨j + 1, by omega, by omega, ?_⟩
                rw [hrj]
                refine wk_shape (shp0 hσ (by simp) (by simp) ?_) ?_
                · simp [SlotOk] <;> (repeat' (first | exact .same (by simp [purel, C.isPure]) | exact .cons (by simp [mtl, mtc, mT, mH, C.isPure, purel]) (by simp) .nil | refine And.intro ?_ ?_))
                · simp [mtc, mtl, mT, C.isPure, purel, hwj] <;> (try simp (disch := omega) [wrap_id]) <;> (try omega)
            · simp at hc2
              repeat refine awp_seq ?_
              refine awp_exit ?_
              first | show AWP _ _ _ _ _ | show ∃ _, _ | skip
              have : j = L.length := by omega
              rw [this]
              repeat refine awp_seq ?_
              refine awp_reg1 (by rw [hx]; kernel_rfl) fun K hK => ?_
              simp (config := { maxSteps := 1000000 }) [ty4]
              refine hK _ ?_
              clear hK K
              first | show AWP _ _ _ _ _ | show ∃ _, _ | skip
              cases hb : r L.length
              · rw [hb] at hrn
                rw [hrn] at hst
                simp at hst
                repeat refine awp_seq ?_
                refine awp_cond (by simp [hb]; rfl) (by rw [hx]; simp) (fun hd => ?_) (fun hd => ?_)
                · clear hd
                  repeat refine awp_seq ?_
                  refine awp_reg1 (by rw [hx]; kernel_rfl) fun K hK => ?_
                  simp (config := { maxSteps := 1000000 }) [ty45, ty3]
                  refine ⟨by omega, ?_⟩
                  refine hK _ ?_
                  clear hK K
                  first | show AWP _ _ _ _ _ | show ∃ _, _ | skip
                  repeat refine awp_seq ?_
                  refine awp_reg1 (by rw [hx]; kernel_rfl) fun K hK => ?_
                  simp (config := { maxSteps := 1000000 }) [ty3]
                  refine hK _ ?_
                  clear hK K
                  first | show AWP _ _ _ _ _ | show ∃ _, _ | skip
                  refine ⟨i + 1, by omega, by omega, ?_⟩
                  refine wk_shape (T := [(2, 2, .live (obWh w)), (8, 51, .live ⟨(O (i + 1)).isEmpty, false, 1, (O (i + 1)).map cI⟩)]) (shp0 hσ (by simp) (by simp) ?_) ?_
                  · simp [SlotOk, hst]
                    exact ⟨.same (by simp [purel, C.isPure]), .same (by simp [purel, C.isPure])⟩
                  · simp [mtc, mtl, mT, C.isPure, purel, hst, hwi]
                · simp at hd
              · rw [hb] at hrn
                rw [hrn] at hst
                simp at hst
                repeat refine awp_seq ?_
                refine awp_cond (by simp [hb]; rfl) (by rw [hx]; simp) (fun hd => ?_) (fun hd => ?_)
                · simp at hd
                · clear hd
                  refine awp_skip ?_
                  first | show AWP _ _ _ _ _ | show ∃ _, _ | skip
                  repeat refine awp_seq ?_
                  refine awp_reg1 (by rw [hx]; kernel_rfl) fun K hK => ?_
                  simp (config := { maxSteps := 1000000 }) [ty3]
                  refine hK _ ?_
                  clear hK K
                  first | show AWP _ _ _ _ _ | show ∃ _, _ | skip
                  refine ⟨i + 1, by omega, by omega, ?_⟩
                  rw [hst]
                  refine wk_shape (shp0 hσ (by simp) (by simp) ?_) ?_
                  · simp [SlotOk] <;> (repeat' (first | exact .same (by simp [purel, C.isPure]) | exact .cons (by simp [mtl, mtc, mT, mH, C.isPure, purel]) (by simp) .nil | refine And.intro ?_ ?_))
                  · simp [mtc, mtl, mT, C.isPure, purel, hwi] <;> (try simp (disch := omega) [wrap_id]) <;> (try omega)
        · simp at hc
          repeat refine awp_seq ?_
          refine awp_exit ?_
          first | show AWP _ _ _ _ _ | show ∃ _, _ | skip
          have : i = l.length := by omega
          rw [this]
          repeat refine awp_seq ?_
          refine awp_reg1 (by rw [hx]; kernel_rfl) fun K hK => ?_
          simp (config := { maxSteps := 1000000 }) []
          refine hK _ ?_
          clear hK K
          first | show AWP _ _ _ _ _ | show ∃ _, _ | skip
          repeat refine awp_seq ?_
          refine awp_ret ?_
          refine And.intro (Or.inr rfl) ?_
          simp [retC, resC, viewC, mapO, purel, C.isPure, hz]
  · have hs : strI w l = [] := if_neg hz
    repeat refine awp_seq ?_
    refine awp_cond (by simp [hz]; rfl) (by rw [hx]; simp) (fun hd => ?_) (fun hd => ?_)
    · clear hd
      repeat refine awp_seq ?_
      refine awp_reg1 (by rw [hx]; kernel_rfl) fun K hK => ?_
      simp (config := { maxSteps := 1000000 }) []
      refine hK _ ?_
      clear hK K
      first | show AWP _ _ _ _ _ | show ∃ _, _ | skip
      repeat refine awp_seq ?_
      refine awp_ret ?_
      refine And.intro (Or.inr rfl) ?_
      simp [retC, resC, viewC, mapO, hs, hz]
    · simp [hz] at hd

theorem ref45 (w : Wh) (nl fu : Bool) (l : List Wl) (k : Int) (hn : l.length ≤ 1000) : Pure Try.prog 45 [encWh w, sWl nl fu l, encI k] (.tup [.sl (tellsI w l k).isEmpty (checkI w l != 0 || !withinB k 0 (l.length - 1)) ((tellsI w l k).map cI), encI (tellsE w l k)]) := by
  refine pure_of (fn := Try.f45) [.tmp 6, .tmp 7] ⟨Try.func45, rfl, by kernel_rfl⟩ (by kernel_rfl) (by kernel_rfl) (by kernel_rfl) fun x hx hσ => ?_
  repeat refine awp_seq ?_
  refine awp_reg1 (by rw [hx]; kernel_rfl) fun K hK => ?_
  simp (config := { maxSteps := 1000000 }) [ty25]
  refine hK _ ?_
  clear hK K
  first | show AWP _ _ _ _ _ | show ∃ _, _ | skip
  repeat refine awp_seq ?_
  refine awp_reg1 (by rw [hx]; kernel_rfl) fun K hK => ?_
  simp (config := { maxSteps := 1000000 }) [ty25]
  refine callP (ref31 w nl fu l hn) (by first | (simp; done) | (simp [*]; done)) ?_
  simp (config := { maxSteps := 1000000 }) []
  refine hK _ ?_
  clear hK K
  first | show AWP _ _ _ _ _ | show ∃ _, _ | skip
  repeat refine awp_seq ?_
  refine awp_reg1 (by rw [hx]; kernel_rfl) fun K hK => ?_
  simp (config := { maxSteps := 1000000 }) [ty31]
  refine hK _ ?_
  clear hK K
  first | show AWP _ _ _ _ _ | show ∃ _, _ | skip
  by_cases hz : checkI w l = 0
  · obtain ⟨hw, hl, h8⟩ := checkI_ok hz
    repeat refine awp_seq ?_
    refine awp_cond (by simp [hz]; rfl) (by rw [hx]; simp) (fun hd => ?_) (fun hd => ?_)
    · simp at hd
    · clear hd
      refine awp_skip ?_
      first | show AWP _ _ _ _ _ | show ∃ _, _ | skip
      have hwr : IntKind.i64.wrap ((l.length : Int) - 1) = l.length - 1 := wrap_id (by omega) (by omega)
      repeat refine awp_seq ?_
      refine awp_reg1 (by rw [hx]; kernel_rfl) fun K hK => ?_
      simp (config := { maxSteps := 1000000 }) [ty26, ty3, hwr]
      refine callP (within60 k 0 (l.length - 1)) (by first | (simp; done) | (simp [*]; done)) ?_
      simp (config := { maxSteps := 1000000 }) [ty4]
      refine hK _ ?_
      clear hK K
      first | show AWP _ _ _ _ _ | show ∃ _, _ | skip
      cases hb : withinB k 0 (l.length - 1)
      · repeat refine awp_seq ?_
        refine awp_cond (by simp [hb]; rfl) (by rw [hx]; simp) (fun hd => ?_) (fun hd => ?_)
        · clear hd
          repeat refine awp_seq ?_
          refine awp_reg1 (by rw [hx]; kernel_rfl) fun K hK => ?_
          simp (config := { maxSteps := 1000000 }) []
          refine hK _ ?_
          clear hK K
          first | show AWP _ _ _ _ _ | show ∃ _, _ | skip
          repeat refine awp_seq ?_
          refine awp_ret ?_
          refine And.intro (Or.inr rfl) ?_
          simp [retC, resC, viewC, mapO, tellsI, tellsE, hz, hb]
        · simp at hd
      · repeat refine awp_seq ?_
        refine awp_cond (by simp [hb]; rfl) (by rw [hx]; simp) (fun hd => ?_) (fun hd => ?_)
        · simp at hd
        · clear hd
          refine awp_skip ?_
          first | show AWP _ _ _ _ _ | show ∃ _, _ | skip
          have hk : 0 ≤ k ∧ k ≤ l.length - 1 := by simpa [withinB] using hb
          obtain ⟨j, rfl⟩ : ∃ j : Nat, k = j := ⟨k.toNat, by omega⟩
          have hj : j + 1 ≤ l.length := by omega
          repeat refine awp_seq ?_
          refine awp_reg1 (by rw [hx]; kernel_rfl) fun K hK => ?_
          simp (config := { maxSteps := 1000000 }) [ty25, ty3]
          refine hK _ ?_
          clear hK K
          first | show AWP _ _ _ _ _ | show ∃ _, _ | skip
          repeat refine awp_seq ?_
          refine awp_reg1 (by rw [hx]; kernel_rfl) fun K hK => ?_
          simp (config := { maxSteps := 1000000 }) [ty25, ty3]
          refine hK _ ?_
          clear hK K
          first | show AWP _ _ _ _ _ | show ∃ _, _ | skip
          have hk1 : IntKind.i64.wrap ((j : Int) + 1) = j + 1 := wrap_id (by omega) (by omega)
          have hk2 : (0 : Int) ≤ j + 1 := by omega
          have hk3 : ((j : Int) + 1).toNat = j + 1 := by omega
          have hrow : List.take 1 (List.drop j (l.map cWl)) = ((l.drop j).take 1).map cWl := by rw [List.map_take, List.map_drop]
          repeat refine awp_seq ?_
          refine awp_drw3 [] [0, 1, 2, 3, 4, 5, 6, 7, 8, 9, 10] (by rw [hx]; kernel_rfl) (by kernel_rfl) (by kernel_rfl) (by kernel_rfl) fun K hK => ?_
          simp (config := { maxSteps := 1000000 }) [ty25, ty26, ty39, ty45, ty3, hk1, hk2, hk3, hj]
          rw [hrow]
          have hA := ref34 (noWrong w) nl (fu && j + 1 == l.length) ((l.drop j).take 1) (by simp; omega)
          rw [show encWh (noWrong w) = .agg [encI w.full, encI w.read, encI w.slip, encI w.skew, encI w.circle, encI w.glow, encI w.ghigh, encI 0] from rfl] at hA
          refine callPD (hA) (by first | (simp; done) | (simp [*]; done)) (by simp) ?_
          simp (config := { maxSteps := 1000000 }) [ty45]
          refine hK _ ?_
          clear hK K
          first | show AWP _ _ _ _ _ | show ∃ _, _ | skip
          repeat refine awp_seq ?_
          refine awp_ret ?_
          refine And.intro (Or.inr rfl) ?_
          have hA1 : tellsI w l j = numsI Tr.area (noWrong w) ((l.drop j).take 1) := by simp [tellsI, hz, hb]
          have hA2 : tellsE w l j = openI (noWrong w) ((l.drop j).take 1) true := by simp [tellsE, hz, hb]
          simp [retC, resC, viewC, mapO, hA1, hA2, hz, hb]
  · repeat refine awp_seq ?_
    refine awp_cond (by simp [hz]; rfl) (by rw [hx]; simp) (fun hd => ?_) (fun hd => ?_)
    · clear hd
      repeat refine awp_seq ?_
      refine awp_reg1 (by rw [hx]; kernel_rfl) fun K hK => ?_
      simp (config := { maxSteps := 1000000 }) []
      refine hK _ ?_
      clear hK K
      first | show AWP _ _ _ _ _ | show ∃ _, _ | skip
      repeat refine awp_seq ?_
      refine awp_ret ?_
      refine And.intro (Or.inr rfl) ?_
      simp [retC, resC, viewC, mapO, tellsI, tellsE, hz]
    · simp [hz] at hd

end Go.Proofs.Ytmmoghgpaagnhaa

/- A slice of an array that is an object: the array becomes an object of its elements. No condition. -/
namespace Go.Abs
section
variable {P : Program} {x : Ctx} {ρ : Nat → Nat} {σ : Nat → Slot} {w : World}

/-- An object under another key, of rows of another length. -/
theorem Frm.rerow (h : Frm x ρ σ w) {k d sz n SZ : Nat} {row : List C} (hk : σ k = .live ⟨false, false, SZ, [row]⟩) (hd : σ d = .free) (hz : 0 < sz) (hn : n * sz = SZ) (hpos : 0 < n) :
    Frm x (upd ρ d (ρ k)) (upd (upd σ k .dead) d (.live ⟨false, false, sz, chunk sz n row⟩)) w ∧ Keeps (x.Gd ρ σ) (x.Gd (upd ρ d (ρ k)) (upd (upd σ k .dead) d (.live ⟨false, false, sz, chunk sz n row⟩))) ρ (upd ρ d (ρ k)) σ (upd (upd σ k .dead) d (.live ⟨false, false, sz, chunk sz n row⟩)) w w ∧
      (∀ cs el fz, w.heap[ρ k]? = some (.cells cs el fz) → n * sz ≤ cs.size) := by
  have hdk : d ≠ k := by rintro rfl; rw [hd] at hk; cases hk
  obtain ⟨σ', hσ'⟩ : ∃ σ', σ' = upd (upd σ k .dead) d (.live ⟨false, false, sz, chunk sz n row⟩) := ⟨_, rfl⟩
  obtain ⟨ρ', hρ'⟩ : ∃ ρ', ρ' = upd ρ d (ρ k) := ⟨_, rfl⟩
  rw [← hσ', ← hρ']
  have e1 : σ' d = .live ⟨false, false, sz, chunk sz n row⟩ := by rw [hσ', upd_same]
  have e2 : σ' k = .dead := by rw [hσ', upd_ne _ _ (Ne.symm hdk), upd_same]
  have e3 : ∀ q, q ≠ d → q ≠ k → σ' q = σ q := fun q h1 h2 => by rw [hσ', upd_ne _ _ h1, upd_ne _ _ h2]
  have r1 : ρ' d = ρ k := by rw [hρ', upd_same]
  have r2 : ∀ q, q ≠ d → ρ' q = ρ q := fun q h1 => by rw [hρ', upd_ne _ _ h1]
  have hlv : ∀ q o, σ' q = .live o → q = d ∨ (q ≠ d ∧ q ≠ k ∧ σ q = .live o) := by
    intro q o hq
    by_cases h1 : q = d
    · exact .inl h1
    · by_cases h2 : q = k
      · rw [h2, e2] at hq; cases hq
      · exact .inr ⟨h1, h2, by rw [← e3 q h1 h2]; exact hq⟩
  have hown : ∀ b, Owned ρ' σ' b ↔ Owned ρ σ b := by
    intro b
    constructor
    · rintro ⟨q, o, q1, q2, q3⟩
      rcases hlv q o q1 with rfl | ⟨h1, h2, h3⟩
      · exact ⟨k, _, hk, rfl, by rw [← r1]; exact q3⟩
      · exact ⟨q, o, h3, q2, by rw [← r2 q h1]; exact q3⟩
    · rintro ⟨q, o, q1, q2, q3⟩
      by_cases h2 : q = k
      · subst h2; exact ⟨d, _, e1, rfl, r1.trans q3⟩
      · have h1 : q ≠ d := by rintro rfl; rw [hd] at q1; cases q1
        exact ⟨q, o, by rw [e3 q h1 h2]; exact q1, q2, by rw [r2 q h1]; exact q3⟩
  have hK : Keeps (x.Gd ρ σ) (x.Gd ρ' σ') ρ ρ' σ σ' w w := by
    refine .of (fun D hD => hD) ⟨fun b hb hlt => ⟨⟨hb.1, fun ho => hb.2 ((hown b).1 ho)⟩, hlt, .inl rfl⟩, fun q hq => ?_, fun q o hq => ?_⟩
    · by_cases h2 : q = k
      · rw [h2]; exact e2
      · rw [e3 q (by rintro rfl; rw [hd] at hq; cases hq) h2]; exact hq
    · by_cases h2 : q = k
      · exact .inl (by rw [h2]; exact e2)
      · have h1 : q ≠ d := by rintro rfl; rw [hd] at hq; cases hq
        exact .inr ⟨o, by rw [e3 q h1 h2]; exact hq, rfl, rfl, rfl, fun hn' => ⟨r2 q h1, fun cs el fz hc => ⟨_, _, _, hc, Nat.le_refl _⟩⟩⟩
  have hob := h.sto.ob k _ hk rfl
  have hSZ : SZ ≠ 0 := by rw [← hn]; exact Nat.ne_of_gt (Nat.mul_pos hpos hz)
  obtain ⟨cs0, el0, c1, c2, c3⟩ := hob.cel hSZ
  have hrow := c3 0 row rfl
  simp only [List.length_cons, List.length_nil, Nat.zero_add, Nat.one_mul] at c2 hrow
  refine ⟨⟨⟨fun q o hq hn' => ?_, fun q o hq hn' => ?_, fun q q' o o' hq hq' hn1 hn2 he => ?_⟩, fun b hb => h.own b ((hown b).1 hb), h.frame, ⟨h.rcd.loop, fun p hp => ?_⟩, h.size, h.os, h.tape, h.output, h.hist.trans hK.toKeeps0⟩, hK, fun cs el fz hc => by rw [c1] at hc; cases hc; rw [hn]; exact c2⟩
  · rcases hlv q o hq with rfl | ⟨h1, h2, h3⟩
    · rw [e1] at hq; cases hq
      rw [r1]
      refine ⟨fun _ => ⟨cs0, el0, c1, by rw [chunk_length, hn]; exact c2, fun i r hi => ?_⟩, fun e => absurd e (Nat.ne_of_gt hz)⟩
      simp only at hi
      rw [chunk_get] at hi
      split at hi
      · rename_i hin
        simp only [Option.some.injEq] at hi
        subst hi
        have hle : i * sz + sz ≤ row.length := by
          rw [hrow.1, ← hn, ← Nat.succ_mul]
          exact Nat.mul_le_mul_right _ hin
        refine ⟨by simp; omega, fun j c hj => ?_⟩
        have hj' : j < sz := by
          have := (List.getElem?_eq_some_iff.1 hj).1
          simp at this; omega
        rw [List.getElem?_take_of_lt hj', List.getElem?_drop] at hj
        have := hrow.2 (i * sz + j) c hj
        exact ⟨by simpa using this.1.keeps hK, this.2⟩
      · cases hi
    · rw [r2 q h1]
      exact (h.sto.ob q o h3 hn').keeps hK.toKeeps0 rfl
  · rcases hlv q o hq with rfl | ⟨h1, h2, h3⟩
    · rw [e1] at hq; cases hq; cases hn'
    · exact h.sto.nil q o h3 hn'
  · rcases hlv q o hq with rfl | ⟨h1, h2, h3⟩ <;> rcases hlv q' o' hq' with rfl | ⟨g1, g2, g3⟩
    · rfl
    · rw [r1, r2 q' g1] at he
      exact absurd (h.sto.inj _ _ _ _ hk g3 rfl hn2 he).symm g2
    · rw [r1, r2 q h1] at he
      exact absurd (h.sto.inj _ _ _ _ h3 hk hn1 rfl he) h2
    · rw [r2 q h1, r2 q' g1] at he
      exact h.sto.inj _ _ _ _ h3 g3 hn1 hn2 he
  · obtain ⟨q1, q2, q3⟩ := h.rcd.rdy p hp
    refine ⟨q1, q2, ?_⟩
    have h2 : p.2.2.1 ≠ k := by
      intro e
      rw [e, hk] at q3
      rcases q3 with ⟨q3, _⟩ | ⟨q3, _⟩ <;> cases q3
    have h1 : p.2.2.1 ≠ d := by
      intro e
      rw [e, hd] at q3
      rcases q3 with ⟨q3, _⟩ | ⟨q3, _⟩ <;> cases q3
    rw [e3 _ h1 h2]
    exact q3

/-- A region that begins with a slice of an array. -/
theorem awp_regArr {id dst q k d sz n SZ : Nat} {t : TypeId} {e : TypeId} {ie : TI} {rest : List Oper} {row : List C} {ty : TypeId} {pos : String} {after : Array Edge} {s : AS} {Q : Exit → AS → Prop}
    (hnt : ((⟨some dst, .slice t (.tmp q) none none none, ty, pos, after, none⟩ : Oper) :: rest).toArray.all (inNt x.nt) = true)
    (hkind : (tyOf P t).map TI.kind = some (.array n e)) (he : tyOf P e = some ie) (hsz : ie.size = sz) (henv : s.env q = .ptr k SZ 0 0) (hk : s.sto k = .live ⟨false, false, SZ, [row]⟩) (hd : s.sto d = .free) (hz : 0 < sz) (hn : n * sz = SZ) (hpos : 0 < n)
    (h : ∀ K : AS → Prop, (∀ s', Q .normal s' → K s') → evalL P x.Y ((⟨some dst, .slice t (.tmp q) none none none, ty, pos, after, none⟩ : Oper) :: rest).toArray rest ⟨upd s.env dst (.own d sz 0 n), upd (upd s.sto k .dead) d (.live ⟨false, false, sz, chunk sz n row⟩)⟩ K) :
    AWP P x (.region id ((⟨some dst, .slice t (.tmp q) none none none, ty, pos, after, none⟩ : Oper) :: rest).toArray false) s Q := by
  intro hY ρ a w hs
  refine wpIn_region ?_
  obtain ⟨ops, hops⟩ : ∃ ops, ops = ((⟨some dst, .slice t (.tmp q) none none none, ty, pos, after, none⟩ : Oper) :: rest).toArray := ⟨_, rfl⟩
  rw [← hops] at hnt h ⊢
  have key : ∀ l : List Nat, (l.map fun i => ops[i]?) = ((⟨some dst, .slice t (.tmp q) none none none, ty, pos, after, none⟩ : Oper) :: rest).map some → wpOpsIn (Fx x.rnd) 0 P ops (QL x Q) l a w := by
    intro l hl
    cases l with
    | nil => simp at hl
    | cons i l =>
      simp only [List.map_cons, List.cons.injEq] at hl
      rw [wpOpsIn_cons]
      refine wpOpIn_mono (K := fun a' w' => ∃ ρ', Sim x ρ' ⟨upd s.env dst (.own d sz 0 n), upd (upd s.sto k .dead) d (.live ⟨false, false, sz, chunk sz n row⟩)⟩ a' w') ?_ ?_
      · rintro a' w' ⟨ρ', h'⟩
        exact evalL_sound hY hnt (fun ρ s a w h1 h2 => ⟨ρ, s, h1, h2⟩) l rest ρ' _ a' w' hl.2 h' (h _ fun _ h => h)
      · have hino : inNt x.nt (⟨some dst, .slice t (.tmp q) none none none, ty, pos, after, none⟩ : Oper) = true := by
          rw [Array.all_eq_true_iff_forall_mem] at hnt
          exact hnt _ (Array.mem_of_getElem? hl.1)
        unfold wpOpIn
        simp only [hl.1]
        rw [if_pos (by unfold Region.wanted; rfl)]
        refine wpIn_fx (fun c hc => by cases hc) ?_
        have hq := hs.ev (.tmp q) (inNt_ops hino _ (by simp [Op.operands]))
        have hq' : CR (x.Gd ρ s.sto) ρ s.sto w (.ptr k SZ 0 0) (a.eval (.tmp q)) := by
          have : s.ev (.tmp q) = .ptr k SZ 0 0 := henv
          rw [← this]; exact hq
        obtain ⟨o, g1, g2, g3, g4⟩ := hq'.ptrOf (by simp [isLive, hk])
        obtain ⟨i', inf, d', z, ht, hkd⟩ := tyOf_kind hkind
        cases d' <;> simp [kindOf] at hkd
        obtain ⟨en, ee⟩ := hkd
        obtain ⟨inf', d2, z', ht'⟩ := tyOf_ok he
        obtain ⟨f1, f2, f3⟩ := hs.toFrm.rerow hk hd hz hn hpos
        have hrun : (execOp a.eval (⟨some dst, .slice t (.tmp q) none none none, ty, pos, after, none⟩ : Oper)).run P w = .ok (.value (.slice (some ⟨ρ k, 0, none⟩) n n)) w := by
          have hb := bounds_sound (P := P) (G := x.Gd ρ s.sto) (ρ := ρ) (σ := s.sto) (w := w) (b := false) (len := n) (cap := n) (l := 0) (h := n) (m := n) (lo := none) (hi := none) (mx := none) (evC := fun _ => .any) (evV := fun _ => undef) (by simp) (by simp [boundC]) (by simp [boundC]) (by simp [boundC]) (Nat.zero_le _) (Nat.le_refl _) (Nat.le_refl _) (by simp)
          simp only [Option.map_none] at hb
          simp only [execOp, Option.map_none, Instr.sliceAt, Sem.run_bind, Result.andThen_ok, ht.run_und w, g4, Instr.sureAddr, Sem.run_pure, en, ee, hb, ht'.run_size w]
          have : ¬ n = 0 := by omega
          simp [this, Addr.add]
        rw [hrun, Oper.uponIn_value]
        have hcr := CR.own (G := x.Gd (upd ρ d (ρ k)) (upd (upd s.sto k .dead) d (.live ⟨false, false, sz, chunk sz n row⟩))) (ρ := upd ρ d (ρ k)) (σ := upd (upd s.sto k .dead) d (.live ⟨false, false, sz, chunk sz n row⟩)) (w := w) (k := d) (sz := sz) (lo := 0) (n := n) (cap := n) (f := 0) (m := n)
          (upd_same _ _ _) rfl rfl (Nat.ne_of_gt hz) (Nat.le_refl _) (by simp) rfl (fun cs el fz hc => by
            rw [upd_same] at hc
            have := f3 cs el fz hc
            simpa using this)
        rw [upd_same] at hcr
        exact ⟨_, (hs.change f2 f1).put (d := some dst) (inNt_dst hino) hcr⟩
  refine key _ ?_
  have hto : ((⟨some dst, .slice t (.tmp q) none none none, ty, pos, after, none⟩ : Oper) :: rest) = ops.toList := by rw [hops]
  rw [hto]
  apply List.ext_getElem?
  intro i
  simp only [List.getElem?_map]
  by_cases hi : i < ops.size
  · simp [hi]
  · rw [List.getElem?_eq_none (by simp; omega), List.getElem?_eq_none (by simp; omega)]; rfl

end
end Go.Abs

namespace Go.Proofs.Ytmmoghgpaagnhaa
open Go Go.Abs

set_option maxHeartbeats 4000000

@[simp] abbrev encP (p : Int × Int) : C := .agg [encI p.1, encI p.2]
@[simp] abbrev cP (p : Int × Int) : List C := [encI p.1, encI p.2]
def rowsP (v : Int × Int → Int) (ks : List (Int × Int)) : List (List C) := ks.map fun p => [encP p, encI (v p)]
@[simp] theorem rowsP_pure (v : Int × Int → Int) (ks : List (Int × Int)) : (rowsP v ks).all purel = true := by simp [rowsP, purel, C.isPure]
@[simp] theorem rowsP_wil (K : List Nat) (v : Int × Int → Int) (ks : List (Int × Int)) : (rowsP v ks).all (wil K) = true := by simp [rowsP, wil, C.wi]

@[simp] abbrev mapObP (v : Int × Int → Int) (ks : List (Int × Int)) : Ob := ⟨false, false, 0, rowsP v ks⟩
@[simp] abbrev boxM (k : Nat) : Ob := ⟨false, false, 1, [[.mp k]]⟩

theorem findP (v : Int × Int → Int) : ∀ (ks : List (Int × Int)) (p : Int × Int) (i : Nat), p ∈ ks → ∃ j, findC (.flat [.i64, .i64]) (encP p) (rowsP v ks) i = some (some (j, encI (v p)))
  | [], p, i, h => by simp at h
  | q :: ks, p, i, h => by
    by_cases hq : p = q
    · subst hq
      exact ⟨i, by simp [rowsP, findC, sameC, eqInts]⟩
    · have hm : p ∈ ks := by simpa [hq] using h
      obtain ⟨j, hj⟩ := findP v ks p (i + 1) hm
      refine ⟨j, ?_⟩
      have : eqInts [.i64, .i64] (cP p) (cP q) = some false := by
        have : ¬ (p.1 = q.1 ∧ p.2 = q.2) := fun h => hq (Prod.ext h.1 h.2)
        simp [eqInts]
        intro h1 h2
        exact this ⟨h1, h2⟩
      have hr : rowsP v (q :: ks) = [encP q, encI (v q)] :: rowsP v ks := rfl
      rw [hr]
      simp only [findC, sameC, this]
      exact hj

theorem doesD {P : Program} {Y : YRel} {ops : Array Oper} {na : List Nat} {l : List (Nat × Oper)} {K : AS → Prop} {s : AS} {d : Option Nat} {f : FuncId} {args : List C} {r : C} {σ' : Nat → Slot} (hp : Does P f s.sto args r σ')
    (h : evalD P Y ops na l ⟨putE s.env d r, σ'⟩ K) : contCD P Y ops na l K s d 0 f args :=
  .inr (.inr (.inl ⟨.inl rfl, r, σ', hp, fun h => by simp at h, h⟩))

theorem next56 (v : Int × Int → Int) (ks : List (Int × Int)) (p q : Int × Int) (hp : p ∈ ks) (hq : q ∈ ks) : Eff Try.prog 56 [(1009, boxM 1027), (1027, mapObP v ks)] [encP p, encP q, .ptr 1009 1 0 0] (encI (IntKind.i64.wrap (v p - v q))) [(1009, boxM 1027), (1027, mapObP v ks)] := by
  obtain ⟨j1, h1⟩ := findP v ks p 0 hp
  obtain ⟨j2, h2⟩ := findP v ks q 0 hq
  refine eff_of_body (fn := Try.f56) [.tmp 5] ⟨Try.func56, rfl, by kernel_rfl⟩ (by kernel_rfl) (by kernel_rfl) (by kernel_rfl) ?_ ?_ fun x hx hσ => ?_
  · simp [wil, C.wi, keysO]
  · intro p hp
    simp only [List.mem_cons, List.not_mem_nil, or_false] at hp
    rcases hp with rfl | rfl
    · simp [wil, C.wi, keysO]
    · exact rowsP_wil _ _ _
  repeat refine awp_seq ?_
  refine awp_reg1 (by rw [hx]; kernel_rfl) fun K hK => ?_
  simp (config := { maxSteps := 1000000 }) [ty88]
  refine hK _ ?_
  clear hK K
  first | show AWP _ _ _ _ _ | show ∃ _, _ | skip
  repeat refine awp_seq ?_
  refine awp_drw3 [] [0, 1, 2, 3, 4, 5, 6, 7] (by rw [hx]; kernel_rfl) (by kernel_rfl) (by kernel_rfl) (by kernel_rfl) fun K hK => ?_
  simp (config := { maxSteps := 1000000 }) [ty90, ty88, ty3, keyQ, h1, h2]
  refine hK _ ?_
  clear hK K
  first | show AWP _ _ _ _ _ | show ∃ _, _ | skip
  refine awp_ret ?_
  refine ⟨.inr rfl, _, [(1009, 1009, .live (boxM 1027)), (1027, 1027, .live (mapObP v ks))], by simp [retC, resC]; rfl, shpX hσ (by simp [keysO, mT]) (by simp) (by simp) ?_, by simp [mtc, mT, C.isPure], rfl⟩
  simp [SlotOk]
  exact ⟨.cons (by simp [mtl, mtc, mT]) (by simp) .nil, .same (rowsP_pure _ _)⟩

def minTo (v : Int × Int → Int) (ks : List (Int × Int)) : Nat → Int × Int
  | 0 => ks.headD (0, 0)
  | i + 1 => if v (ks.getD i (0, 0)) < v (minTo v ks i) then ks.getD i (0, 0) else minTo v ks i

theorem minTo_mem (v : Int × Int → Int) {ks : List (Int × Int)} (h : ks ≠ []) : ∀ i, i ≤ ks.length → minTo v ks i ∈ ks
  | 0, _ => by
    cases ks with
    | nil => exact absurd rfl h
    | cons a l => simp [minTo]
  | i + 1, hi => by
    simp only [minTo]
    split
    · have : i < ks.length := by omega
      rw [List.getD_eq_getElem?_getD, List.getElem?_eq_getElem this]
      exact List.getElem_mem this
    · exact minTo_mem v h i (by omega)

@[simp] abbrev obP (ks : List (Int × Int)) : Ob := ⟨false, false, 2, ks.map cP⟩

theorem min55 (v : Int × Int → Int) (ks : List (Int × Int)) (hne : ks ≠ []) (hn : ks.length ≤ 1000) (hv : ∀ p ∈ ks, 0 ≤ v p ∧ v p ≤ 1000000) :
    Eff Try.prog 55 [(1001, obP ks), (1009, boxM 1027), (1027, mapObP v ks)] [.own 1001 2 0 ks.length, .fn (.func 56) [] [.ptr 1009 1 0 0]] (encP (minTo v ks ks.length)) [(1001, obP ks), (1009, boxM 1027), (1027, mapObP v ks)] := by
  have hpos : 0 < ks.length := List.length_pos_iff.2 hne
  have hp1 : ¬ ((ks.length : Int) < 1) := by omega
  have h0 : ks[0] = ks.headD (0, 0) := by cases ks with
    | nil => exact absurd rfl hne
    | cons a l => rfl
  have hm1' : minTo v ks 1 = ks[0] := by
    simp only [minTo, ← h0]
    have : ks.getD 0 (0, 0) = ks[0] := by rw [List.getD_eq_getElem?_getD, List.getElem?_eq_getElem hpos]; rfl
    rw [this, if_neg (Int.lt_irrefl _)]
  refine eff_of_body (fn := Try.f55) [.cell 4 88] ⟨Try.func55, rfl, by kernel_rfl⟩ (by kernel_rfl) (by kernel_rfl) (by kernel_rfl) ?_ ?_ fun x hx hσ => ?_
  · simp [wil, C.wi, keysO]
  · intro p hp
    simp only [List.mem_cons, List.not_mem_nil, or_false] at hp
    rcases hp with rfl | rfl | rfl
    · simp [wil, C.wi, keysO]
    · simp [wil, C.wi, keysO]
    · exact rowsP_wil _ _ _
  repeat refine awp_seq ?_
  refine awp_reg1 (by rw [hx]; kernel_rfl) fun K hK => ?_
  simp (config := { maxSteps := 1000000 }) [ty88]
  refine hK _ ?_
  clear hK K
  first | show AWP _ _ _ _ _ | show ∃ _, _ | skip
  repeat refine awp_seq ?_
  refine awp_reg1 (by rw [hx]; kernel_rfl) fun K hK => ?_
  simp (config := { maxSteps := 1000000 }) [ty92, ty3]
  refine hK _ ?_
  clear hK K
  first | show AWP _ _ _ _ _ | show ∃ _, _ | skip
  repeat refine awp_seq ?_
  refine awp_cond (by simp [hp1]; rfl) (by rw [hx]; simp) (fun hd => ?_) (fun hd => ?_)
  · simp at hd
  clear hd
  refine awp_skip ?_
  first | show AWP _ _ _ _ _ | show ∃ _, _ | skip
  repeat refine awp_seq ?_
  refine awp_reg1 (by rw [hx]; kernel_rfl) fun K hK => ?_
  simp (config := { maxSteps := 1000000 }) [ty92, ty88, hpos]
  refine hK _ ?_
  clear hK K
  first | show AWP _ _ _ _ _ | show ∃ _, _ | skip
  repeat refine awp_seq ?_
  refine awp_reg1 (by rw [hx]; kernel_rfl) fun K hK => ?_
  simp (config := { maxSteps := 1000000 }) []
  refine hK _ ?_
  clear hK K
  first | show AWP _ _ _ _ _ | show ∃ _, _ | skip
  repeat refine awp_seq ?_
  refine awp_block ?_
  refine awp_loop (fun i : Nat => ⟨ofL [(0, .own 1001 2 0 ks.length), (1, .fn (.func 56) [] [.ptr 1009 1 0 0]), (4, .ptr 4 2 0 0), (5, .ptr 5 2 0 0), (6, encI i)],
      stoT [(1001, 1001, .live (obP ks)), (1009, 1009, .live (boxM 1027)), (1027, 1027, .live (mapObP v ks)), (4, 4, .live ⟨false, false, 2, [cP (0, 0)]⟩), (5, 5, .live ⟨false, false, 2, [cP (minTo v ks i)]⟩)]⟩)
    (fun i => 1 ≤ i ∧ i ≤ ks.length) (fun i => ks.length - i) 1 ⟨Nat.le_refl _, hpos⟩ ?_ ?_
  · refine wk_shape (shpX hσ (by simp [keysO, mT]) (by simp) (by simp) ?_) ?_
    · simp [SlotOk, hm1']
      exact ⟨.same (by simp [purel, C.isPure]), .cons (by simp [mtl, mtc, mT]) (by simp) .nil, .same (rowsP_pure _ _), .same (by simp [purel, C.isPure]), .same (by simp [purel, C.isPure])⟩
    · simp [mtc, mtl, mT, C.isPure, purel]
  · rintro i ⟨hi1, hi⟩
    repeat refine awp_seq ?_
    refine awp_reg1 (by rw [hx]; kernel_rfl) fun K hK => ?_
    simp (config := { maxSteps := 1000000 }) [ty92, ty3]
    refine hK _ ?_
    clear hK K
    first | show AWP _ _ _ _ _ | show ∃ _, _ | skip
    repeat refine awp_seq ?_
    refine awp_cond (by simp; rfl) (by rw [hx]; simp) (fun hc1 => ?_) (fun hc1 => ?_)
    · simp at hc1
      refine awp_skip ?_
      first | show AWP _ _ _ _ _ | show ∃ _, _ | skip
      repeat refine awp_seq ?_
      refine awp_block ?_
      have hm1 := minTo_mem v hne i hi
      have hm2 : ks[i] ∈ ks := List.getElem_mem hc1
      have hv1 := hv _ hm1
      have hv2 := hv _ hm2
      have hgd : ks.getD i (0, 0) = ks[i] := by rw [List.getD_eq_getElem?_getD, List.getElem?_eq_getElem hc1]; rfl
      have hstep : minTo v ks (i + 1) = if v ks[i] < v (minTo v ks i) then ks[i] else minTo v ks i := by simp only [minTo, hgd]
      have hwi : IntKind.i64.wrap ((i : Int) + 1) = i + 1 := wrap_id (by omega) (by omega)
      repeat refine awp_seq ?_
      refine awp_drw3 [4006] [0, 1, 2, 3, 4, 5, 6, 7] (by rw [hx]; kernel_rfl) (by kernel_rfl) (by kernel_rfl) (by kernel_rfl) fun K hK => ?_
      simp (config := { maxSteps := 1000000 }) [ty92, ty88, hc1]
      refine doesD ((next56 v ks ks[i] (minTo v ks i) hm2 hm1).does ?_ ?_) ?_
      · simp [keysO]
      · simp [keysO]
      simp [ty3]
      rw [wrap_id (by omega) (by omega)]
      refine hK _ ?_
      clear hK K
      first | show AWP _ _ _ _ _ | show ∃ _, _ | skip
      by_cases hb : v ks[i] - v (minTo v ks i) < 0
      · repeat refine awp_seq ?_
        refine awp_cond (by simp [hb]; rfl) (by rw [hx]; simp) (fun hd => ?_) (fun hd => ?_)
        · clear hd
          repeat refine awp_seq ?_
          refine awp_reg1 (by rw [hx]; kernel_rfl) fun K hK => ?_
          simp (config := { maxSteps := 1000000 }) [ty92, ty88, hc1]
          refine hK _ ?_
          clear hK K
          first | show AWP _ _ _ _ _ | show ∃ _, _ | skip
          repeat refine awp_seq ?_
          refine awp_reg1 (by rw [hx]; kernel_rfl) fun K hK => ?_
          simp (config := { maxSteps := 1000000 }) [ty3]
          refine hK _ ?_
          clear hK K
          first | show AWP _ _ _ _ _ | show ∃ _, _ | skip
          refine ⟨i + 1, ⟨by omega, by omega⟩, by omega, ?_⟩
          rw [if_pos (by omega)] at hstep
          refine wk_shape (shpX hσ (by simp [keysO, mT]) (by simp) (by simp) ?_) ?_
          · simp [SlotOk, hstep]
            exact ⟨.same (by simp [purel, C.isPure]), .cons (by simp [mtl, mtc, mT]) (by simp) .nil, .same (rowsP_pure _ _), .same (by simp [purel, C.isPure]), .same (by simp [purel, C.isPure])⟩
          · simp [mtc, mtl, mT, C.isPure, purel, hwi]
        · simp at hd
      · repeat refine awp_seq ?_
        refine awp_cond (by simp [hb]; rfl) (by rw [hx]; simp) (fun hd => ?_) (fun hd => ?_)
        · simp at hd
        · clear hd
          refine awp_skip ?_
          first | show AWP _ _ _ _ _ | show ∃ _, _ | skip
          repeat refine awp_seq ?_
          refine awp_reg1 (by rw [hx]; kernel_rfl) fun K hK => ?_
          simp (config := { maxSteps := 1000000 }) [ty3]
          refine hK _ ?_
          clear hK K
          first | show AWP _ _ _ _ _ | show ∃ _, _ | skip
          refine ⟨i + 1, ⟨by omega, by omega⟩, by omega, ?_⟩
          rw [if_neg (by omega)] at hstep
          refine wk_shape (shpX hσ (by simp [keysO, mT]) (by simp) (by simp) ?_) ?_
          · simp [SlotOk, hstep]
            exact ⟨.same (by simp [purel, C.isPure]), .cons (by simp [mtl, mtc, mT]) (by simp) .nil, .same (rowsP_pure _ _), .same (by simp [purel, C.isPure]), .same (by simp [purel, C.isPure])⟩
          · simp [mtc, mtl, mT, C.isPure, purel, hwi]
    · simp at hc1
      repeat refine awp_seq ?_
      refine awp_exit ?_
      first | show AWP _ _ _ _ _ | show ∃ _, _ | skip
      obtain rfl : i = ks.length := by omega
      repeat refine awp_seq ?_
      refine awp_reg1 (by rw [hx]; kernel_rfl) fun K hK => ?_
      simp (config := { maxSteps := 1000000 }) [ty88]
      refine hK _ ?_
      clear hK K
      first | show AWP _ _ _ _ _ | show ∃ _, _ | skip
      refine awp_ret ?_
      refine ⟨.inr rfl, _, [(1001, 1001, .live (obP ks)), (1009, 1009, .live (boxM 1027)), (1027, 1027, .live (mapObP v ks))], by simp [retC, resC, ty88]; rfl, shpX hσ (by simp [keysO, mT]) (by simp) (by simp) ?_, by simp [mtc, mtl, mT, C.isPure, purel], rfl⟩
      simp [SlotOk]
      exact ⟨.same (by simp [purel, C.isPure]), .cons (by simp [mtl, mtc, mT]) (by simp) .nil, .same (rowsP_pure _ _)⟩

end Go.Proofs.Ytmmoghgpaagnhaa

namespace Go.Proofs.Ytmmoghgpaagnhaa
open Go Go.Abs

set_option maxHeartbeats 4000000

def K4 : List (Int × Int) := [(1, 1), (1, -1), (-1, 1), (-1, -1)]

theorem findP_none (v : Int × Int → Int) : ∀ (ks : List (Int × Int)) (p : Int × Int) (i : Nat), p ∉ ks → findC (.flat [.i64, .i64]) (encP p) (rowsP v ks) i = some none
  | [], p, i, h => rfl
  | q :: ks, p, i, h => by
    have hq : p ≠ q := fun e => h (by simp [e])
    have hm : p ∉ ks := fun e => h (by simp [e])
    have : eqInts [.i64, .i64] (cP p) (cP q) = some false := by
      have : ¬ (p.1 = q.1 ∧ p.2 = q.2) := fun h => hq (Prod.ext h.1 h.2)
      simp [eqInts]
      intro h1 h2
      exact this ⟨h1, h2⟩
    have hr : rowsP v (q :: ks) = [encP q, encI (v q)] :: rowsP v ks := rfl
    rw [hr]
    simp only [findC, sameC, this]
    exact findP_none v ks p (i + 1) hm

def worstV (w : Wh) (l : List Wl) (p : Int × Int) : Int := worstN w l p.1 p.2
def nextI (w : Wh) (l : List Wl) : Int × Int := if openI w l true = 0 then minTo (worstV w l) K4 4 else (0, 0)

theorem maxTo_le {f : Nat → Nat} {m : Nat} (h : ∀ e, f e ≤ m) : ∀ n, maxTo f n ≤ m
  | 0 => Nat.zero_le _
  | n + 1 => by have := maxTo_le h n; have := h n; simp only [maxTo]; omega

theorem worstN_le (w : Wh) (l : List Wl) (hw : WhOk w) (a b : Int) : worstN w l a b ≤ 410000 := by
  have hbd := truthsL_bd l hw
  refine maxTo_le (fun e => ?_) _
  refine Nat.le_trans (kvOf_len _ _) (Nat.le_trans (List.length_filter_le _ _) ?_)
  simp; omega

@[simp] abbrev flat4 : List C := [encI 1, encI 1, encI 1, encI (-1), encI (-1), encI 1, encI (-1), encI (-1)]


theorem next16 (w : Wh) (nl fu : Bool) (l : List Wl) (hn : l.length ≤ 1000) : Pure Try.prog 16 [encWh w, sWl nl fu l] (.tup [encI (nextI w l).1, encI (nextI w l).2, encI (openI w l true)]) := by
  refine pure_of (fn := Try.f16) [.tmp 4, .tmp 5, .tmp 6] ⟨Try.func16, rfl, by kernel_rfl⟩ (by kernel_rfl) (by kernel_rfl) (by kernel_rfl) fun x hx hσ => ?_
  repeat refine awp_seq ?_
  refine awp_reg1 (by rw [hx]; kernel_rfl) fun K hK => ?_
  simp (config := { maxSteps := 1000000 }) [ty25]
  refine hK _ ?_
  clear hK K
  first | show AWP _ _ _ _ _ | show ∃ _, _ | skip
  repeat refine awp_seq ?_
  refine awp_reg1 (by rw [hx]; kernel_rfl) fun K hK => ?_
  simp (config := { maxSteps := 1000000 }) [ty25, ty79]
  refine callP (open49 w nl fu true l hn) (by first | (simp; done) | (simp [*]; done)) ?_
  simp (config := { maxSteps := 1000000 }) [ty79]
  refine hK _ ?_
  clear hK K
  first | show AWP _ _ _ _ _ | show ∃ _, _ | skip
  repeat refine awp_seq ?_
  refine awp_reg1 (by rw [hx]; kernel_rfl) fun K hK => ?_
  simp (config := { maxSteps := 1000000 }) [ty31]
  refine hK _ ?_
  clear hK K
  first | show AWP _ _ _ _ _ | show ∃ _, _ | skip
  by_cases hz : openI w l true = 0
  · obtain ⟨hc0, _, hT⟩ := openI_ok hz
    obtain ⟨hw, hl, h8⟩ := checkI_ok hc0
    have hwl := worstN_le w l hw
    repeat refine awp_seq ?_
    refine awp_cond (by simp [hz]; rfl) (by rw [hx]; simp) (fun hd => ?_) (fun hd => ?_)
    · simp at hd
    · clear hd
      refine awp_skip ?_
      first | show AWP _ _ _ _ _ | show ∃ _, _ | skip
      repeat refine awp_seq ?_
      refine awp_reg1 (by rw [hx]; kernel_rfl) fun K hK => ?_
      simp (config := { maxSteps := 1000000 }) [ty88, ty89, ty3]
      refine hK _ ?_
      clear hK K
      first | show AWP _ _ _ _ _ | show ∃ _, _ | skip
      repeat refine awp_seq ?_
      refine awp_reg1 (by rw [hx]; kernel_rfl) fun K hK => ?_
      simp (config := { maxSteps := 1000000 }) [ty90]
      refine hK _ ?_
      clear hK K
      first | show AWP _ _ _ _ _ | show ∃ _, _ | skip
      repeat refine awp_seq ?_
      refine awp_reg1 (by rw [hx]; kernel_rfl) fun K hK => ?_
      simp (config := { maxSteps := 1000000 }) [ty89]
      refine hK _ ?_
      clear hK K
      first | show AWP _ _ _ _ _ | show ∃ _, _ | skip
      repeat refine awp_seq ?_
      refine awp_block ?_
      obtain ⟨v, hv⟩ : ∃ v, v = worstV w l := ⟨_, rfl⟩
      have hvp : ∀ a b, (worstN w l a b : Int) = v (a, b) := fun a b => by rw [hv]; rfl
      refine awp_loop (fun i : Nat => ⟨ofL [(6, encI (openI w l true)), (7, .ptr 7 9 0 0), (8, .ptr 8 8 0 0), (9, .ptr 1009 1 0 0), (28, .agg flat4), (29, encI i)],
          stoT [(7, 7, .live (obDesk w nl fu l)), (8, 8, .live ⟨false, false, 8, [flat4]⟩), (1009, 1009, .live (boxM 1027)), (1027, 1027, .live (mapObP v (K4.take i)))]⟩)
        (fun i => i ≤ 4) (fun i => 4 - i) 0 (Nat.zero_le _) ?_ ?_
      · refine wk_shape (T := [(7, 7, .live (obDesk w nl fu l)), (8, 8, .live ⟨false, false, 8, [flat4]⟩), (1009, 9, .live (boxM 1027)), (1027, 27, .live (mapObP v (K4.take 0)))]) (shp0 hσ (by simp) (by simp) ?_) ?_
        · simp [SlotOk, rowsP]
          exact ⟨.same (by simp [purel, C.isPure]), .same (by simp [purel, C.isPure]), .cons (by simp [mtl, mtc, mT]) (by simp) .nil, .nil⟩
        · simp [mtc, mtl, mT, C.isPure, purel]
      · intro i hi
        obtain ⟨ks, hks⟩ : ∃ ks, ks = K4.take i := ⟨_, rfl⟩
        rw [← hks]
        repeat refine awp_seq ?_
        refine awp_reg1 (by rw [hx]; kernel_rfl) fun K hK => ?_
        simp (config := { maxSteps := 1000000 }) [ty3]
        refine hK _ ?_
        clear hK K
        first | show AWP _ _ _ _ _ | show ∃ _, _ | skip
        repeat refine awp_seq ?_
        refine awp_cond (by simp; rfl) (by rw [hx]; simp) (fun hc1 => ?_) (fun hc1 => ?_)
        · simp at hc1
          refine awp_skip ?_
          first | show AWP _ _ _ _ _ | show ∃ _, _ | skip
          repeat refine awp_seq ?_
          refine awp_block ?_
          have hi4 : i = 0 ∨ i = 1 ∨ i = 2 ∨ i = 3 := by omega
          rcases hi4 with rfl | rfl | rfl | rfl
          · have hp := findP_none v ks (1, 1) 0 (by rw [hks]; decide)
            have hr : rowsP v ks ++ [[encP (1, 1), encI (worstN w l 1 1)]] = rowsP v (K4.take (0 + 1)) := by
              rw [hvp, hks]
              rfl
            simp only [encP] at hp hr
            repeat refine awp_seq ?_
            refine awp_reg1 (by rw [hx]; kernel_rfl) fun K hK => ?_
            simp (config := { maxSteps := 1000000 }) [ty89, ty88]
            refine hK _ ?_
            clear hK K
            first | show AWP _ _ _ _ _ | show ∃ _, _ | skip
            repeat refine awp_seq ?_
            refine awp_drw3 [] [0, 1, 2, 3, 4, 5, 6, 7, 8] (by rw [hx]; kernel_rfl) (by kernel_rfl) (by kernel_rfl) (by kernel_rfl) fun K hK => ?_
            simp (config := { maxSteps := 1000000 }) [ty90, ty88, ty79, ty3, keyQ]
            refine callPD (worst51 w nl fu l 1 1 hw hl hn (by decide) (by decide)) (by first | (simp; done) | (simp [*]; done)) (by simp) ?_
            simp (config := { maxSteps := 1000000 }) [ty90, ty88, ty3, keyQ, hp]
            refine hK _ ?_
            clear hK K
            first | show AWP _ _ _ _ _ | show ∃ _, _ | skip
            simp only [encI] at hr
            rw [hr]
            repeat refine awp_seq ?_
            refine awp_reg1 (by rw [hx]; kernel_rfl) fun K hK => ?_
            simp (config := { maxSteps := 1000000 }) [ty3]
            refine hK _ ?_
            clear hK K
            first | show AWP _ _ _ _ _ | show ∃ _, _ | skip
            refine ⟨0 + 1, by omega, by omega, ?_⟩
            refine wk_shape (shp0 hσ (by simp) (by simp) ?_) ?_
            · simp only [List.mem_cons, List.not_mem_nil, or_false]
              rintro p (rfl | rfl | rfl | rfl)
              · exact ⟨rfl, rfl, rfl, .same (by simp [purel, C.isPure])⟩
              · exact ⟨rfl, rfl, rfl, .same (by simp [purel, C.isPure])⟩
              · exact ⟨rfl, rfl, rfl, .cons (by simp [mtl, mtc, mT]) (by simp) .nil⟩
              · exact ⟨rfl, rfl, rfl, .same (rowsP_pure _ _)⟩
            · simp [mtc, mtl, mT, C.isPure, purel]
              decide
          · have hp := findP_none v ks (1, (-1)) 0 (by rw [hks]; decide)
            have hr : rowsP v ks ++ [[encP (1, (-1)), encI (worstN w l 1 (-1))]] = rowsP v (K4.take (1 + 1)) := by
              rw [hvp, hks]
              rfl
            simp only [encP] at hp hr
            repeat refine awp_seq ?_
            refine awp_reg1 (by rw [hx]; kernel_rfl) fun K hK => ?_
            simp (config := { maxSteps := 1000000 }) [ty89, ty88]
            refine hK _ ?_
            clear hK K
            first | show AWP _ _ _ _ _ | show ∃ _, _ | skip
            repeat refine awp_seq ?_
            refine awp_drw3 [] [0, 1, 2, 3, 4, 5, 6, 7, 8] (by rw [hx]; kernel_rfl) (by kernel_rfl) (by kernel_rfl) (by kernel_rfl) fun K hK => ?_
            simp (config := { maxSteps := 1000000 }) [ty90, ty88, ty79, ty3, keyQ]
            refine callPD (worst51 w nl fu l 1 (-1) hw hl hn (by decide) (by decide)) (by first | (simp; done) | (simp [*]; done)) (by simp) ?_
            simp (config := { maxSteps := 1000000 }) [ty90, ty88, ty3, keyQ, hp]
            refine hK _ ?_
            clear hK K
            first | show AWP _ _ _ _ _ | show ∃ _, _ | skip
            simp only [encI] at hr
            rw [hr]
            repeat refine awp_seq ?_
            refine awp_reg1 (by rw [hx]; kernel_rfl) fun K hK => ?_
            simp (config := { maxSteps := 1000000 }) [ty3]
            refine hK _ ?_
            clear hK K
            first | show AWP _ _ _ _ _ | show ∃ _, _ | skip
            refine ⟨1 + 1, by omega, by omega, ?_⟩
            refine wk_shape (shp0 hσ (by simp) (by simp) ?_) ?_
            · simp only [List.mem_cons, List.not_mem_nil, or_false]
              rintro p (rfl | rfl | rfl | rfl)
              · exact ⟨rfl, rfl, rfl, .same (by simp [purel, C.isPure])⟩
              · exact ⟨rfl, rfl, rfl, .same (by simp [purel, C.isPure])⟩
              · exact ⟨rfl, rfl, rfl, .cons (by simp [mtl, mtc, mT]) (by simp) .nil⟩
              · exact ⟨rfl, rfl, rfl, .same (rowsP_pure _ _)⟩
            · simp [mtc, mtl, mT, C.isPure, purel]
              decide
          · have hp := findP_none v ks ((-1), 1) 0 (by rw [hks]; decide)
            have hr : rowsP v ks ++ [[encP ((-1), 1), encI (worstN w l (-1) 1)]] = rowsP v (K4.take (2 + 1)) := by
              rw [hvp, hks]
              rfl
            simp only [encP] at hp hr
            repeat refine awp_seq ?_
            refine awp_reg1 (by rw [hx]; kernel_rfl) fun K hK => ?_
            simp (config := { maxSteps := 1000000 }) [ty89, ty88]
            refine hK _ ?_
            clear hK K
            first | show AWP _ _ _ _ _ | show ∃ _, _ | skip
            repeat refine awp_seq ?_
            refine awp_drw3 [] [0, 1, 2, 3, 4, 5, 6, 7, 8] (by rw [hx]; kernel_rfl) (by kernel_rfl) (by kernel_rfl) (by kernel_rfl) fun K hK => ?_
            simp (config := { maxSteps := 1000000 }) [ty90, ty88, ty79, ty3, keyQ]
            refine callPD (worst51 w nl fu l (-1) 1 hw hl hn (by decide) (by decide)) (by first | (simp; done) | (simp [*]; done)) (by simp) ?_
            simp (config := { maxSteps := 1000000 }) [ty90, ty88, ty3, keyQ, hp]
            refine hK _ ?_
            clear hK K
            first | show AWP _ _ _ _ _ | show ∃ _, _ | skip
            simp only [encI] at hr
            rw [hr]
            repeat refine awp_seq ?_
            refine awp_reg1 (by rw [hx]; kernel_rfl) fun K hK => ?_
            simp (config := { maxSteps := 1000000 }) [ty3]
            refine hK _ ?_
            clear hK K
            first | show AWP _ _ _ _ _ | show ∃ _, _ | skip
            refine ⟨2 + 1, by omega, by omega, ?_⟩
            refine wk_shape (shp0 hσ (by simp) (by simp) ?_) ?_
            · simp only [List.mem_cons, List.not_mem_nil, or_false]
              rintro p (rfl | rfl | rfl | rfl)
              · exact ⟨rfl, rfl, rfl, .same (by simp [purel, C.isPure])⟩
              · exact ⟨rfl, rfl, rfl, .same (by simp [purel, C.isPure])⟩
              · exact ⟨rfl, rfl, rfl, .cons (by simp [mtl, mtc, mT]) (by simp) .nil⟩
              · exact ⟨rfl, rfl, rfl, .same (rowsP_pure _ _)⟩
            · simp [mtc, mtl, mT, C.isPure, purel]
              decide
          · have hp := findP_none v ks ((-1), (-1)) 0 (by rw [hks]; decide)
            have hr : rowsP v ks ++ [[encP ((-1), (-1)), encI (worstN w l (-1) (-1))]] = rowsP v (K4.take (3 + 1)) := by
              rw [hvp, hks]
              rfl
            simp only [encP] at hp hr
            repeat refine awp_seq ?_
            refine awp_reg1 (by rw [hx]; kernel_rfl) fun K hK => ?_
            simp (config := { maxSteps := 1000000 }) [ty89, ty88]
            refine hK _ ?_
            clear hK K
            first | show AWP _ _ _ _ _ | show ∃ _, _ | skip
            repeat refine awp_seq ?_
            refine awp_drw3 [] [0, 1, 2, 3, 4, 5, 6, 7, 8] (by rw [hx]; kernel_rfl) (by kernel_rfl) (by kernel_rfl) (by kernel_rfl) fun K hK => ?_
            simp (config := { maxSteps := 1000000 }) [ty90, ty88, ty79, ty3, keyQ]
            refine callPD (worst51 w nl fu l (-1) (-1) hw hl hn (by decide) (by decide)) (by first | (simp; done) | (simp [*]; done)) (by simp) ?_
            simp (config := { maxSteps := 1000000 }) [ty90, ty88, ty3, keyQ, hp]
            refine hK _ ?_
            clear hK K
            first | show AWP _ _ _ _ _ | show ∃ _, _ | skip
            simp only [encI] at hr
            rw [hr]
            repeat refine awp_seq ?_
            refine awp_reg1 (by rw [hx]; kernel_rfl) fun K hK => ?_
            simp (config := { maxSteps := 1000000 }) [ty3]
            refine hK _ ?_
            clear hK K
            first | show AWP _ _ _ _ _ | show ∃ _, _ | skip
            refine ⟨3 + 1, by omega, by omega, ?_⟩
            refine wk_shape (shp0 hσ (by simp) (by simp) ?_) ?_
            · simp only [List.mem_cons, List.not_mem_nil, or_false]
              rintro p (rfl | rfl | rfl | rfl)
              · exact ⟨rfl, rfl, rfl, .same (by simp [purel, C.isPure])⟩
              · exact ⟨rfl, rfl, rfl, .same (by simp [purel, C.isPure])⟩
              · exact ⟨rfl, rfl, rfl, .cons (by simp [mtl, mtc, mT]) (by simp) .nil⟩
              · exact ⟨rfl, rfl, rfl, .same (rowsP_pure _ _)⟩
            · simp [mtc, mtl, mT, C.isPure, purel]
              decide
        · simp at hc1
          repeat refine awp_seq ?_
          refine awp_exit ?_
          first | show AWP _ _ _ _ _ | show ∃ _, _ | skip
          obtain rfl : i = 4 := by omega
          have hks' : ks = K4 := hks
          rw [hks']
          repeat refine awp_seq ?_
          refine awp_regArr (d := 1001) (k := 8) (SZ := 8) (sz := 2) (n := 4) (row := flat4) (by rw [hx]; kernel_rfl) (by simp [ty89]) ty88 rfl (by simp) (by simp) (by simp) (by decide) rfl (by decide) fun K hK => ?_
          simp
          have hv4 : ∀ p ∈ K4, 0 ≤ v p ∧ v p ≤ 1000000 := by
            intro p _
            have := hwl p.1 p.2
            rw [hv]
            simp only [worstV]
            omega
          refine doesL ((min55 v K4 (by decide) (by decide) hv4).does ?_ ?_) ?_
          · simp [keysO]
            rfl
          · simp [keysO]
          simp [ty88]
          refine hK _ ?_
          clear hK K
          first | show AWP _ _ _ _ _ | show ∃ _, _ | skip
          repeat refine awp_seq ?_
          refine awp_drw3 [] [0, 1, 2, 3, 4, 5, 6] (by rw [hx]; kernel_rfl) (by kernel_rfl) (by kernel_rfl) (by kernel_rfl) fun K hK => ?_
          simp (config := { maxSteps := 1000000 }) [ty88, ty3]
          refine hK _ ?_
          clear hK K
          first | show AWP _ _ _ _ _ | show ∃ _, _ | skip
          repeat refine awp_seq ?_
          refine awp_ret ?_
          refine And.intro (Or.inr rfl) ?_
          have h4 : K4.length = 4 := rfl
          simp [retC, resC, viewC, mapO, nextI, hz, h4, hv]
  · repeat refine awp_seq ?_
    refine awp_cond (by simp [hz]; rfl) (by rw [hx]; simp) (fun hd => ?_) (fun hd => ?_)
    · clear hd
      repeat refine awp_seq ?_
      refine awp_reg1 (by rw [hx]; kernel_rfl) fun K hK => ?_
      simp (config := { maxSteps := 1000000 }) []
      refine hK _ ?_
      clear hK K
      first | show AWP _ _ _ _ _ | show ∃ _, _ | skip
      repeat refine awp_seq ?_
      refine awp_ret ?_
      refine And.intro (Or.inr rfl) ?_
      simp [retC, resC, viewC, mapO, nextI, hz]
    · simp [hz] at hd

end Go.Proofs.Ytmmoghgpaagnhaa

