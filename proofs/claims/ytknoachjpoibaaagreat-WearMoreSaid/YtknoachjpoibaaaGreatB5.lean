/- The machine of abstract values and the contracts of the functions of the program, which the statements of this seat share. No condition. -/
import Derived.Test.YtknoachjpoibaaaGreatB4
import Derived.ProofKit
import Derived.OpenShut
import Derived.ChangeStays
import Derived.Test.YtknoachjpoibaaaGreatRows
import Derived.WalkKit

set_option linter.unusedSimpArgs false
set_option linter.unusedVariables false
set_option linter.constructorNameAsVariable false

namespace Go.Proofs.YtknoachjpoibaaaGreat
open Go Go.Abs

set_option maxHeartbeats 8000000

-- Due

def byC (c : Cl) (g : Int) : Bool := decide (c.most < absI (seenA c.size g - c.size))
/-- The first day on which the instrument can err beyond a class. -/
def dueO (c : Co) (k : Cl) : Option Nat := (List.range (c.last + 1).toNat).find? fun d => (onC c (d : Nat) []).any (byC k)
def dueV (w : Ws) (k : Cl) : Int := if openW w (classB k) = 0 then (match dueO (co w (gl w)) k with | some d => (d : Int) | none => 0) else 0
def dueE (w : Ws) (k : Cl) : Int := if openW w (classB k) = 0 then (match dueO (co w (gl w)) k with | some _ => 0 | none => 3) else openW w (classB k)

theorem dueO_some {c : Co} {k : Cl} {i N : Nat} (hN : (c.last + 1).toNat = N) (hi : i < N) (h0 : ∀ d, d < i → (onC c (d : Nat) []).any (byC k) = false) (h1 : (onC c (i : Nat) []).any (byC k) = true) : dueO c k = some i := by
 unfold dueO
 rw [hN, List.find?_range_eq_some]
 exact ⟨h1, List.mem_range.2 hi, fun j hj => by rw [h0 j hj]; rfl⟩
theorem dueO_none {c : Co} {k : Cl} {N : Nat} (hN : (c.last + 1).toNat = N) (h0 : ∀ d, d < N → (onC c (d : Nat) []).any (byC k) = false) : dueO c k = none := by
 unfold dueO
 rw [hN, List.find?_range_eq_none]
 exact fun j hj => by rw [h0 j hj]; rfl


theorem w_due16 (w : Ws) (k : Cl) (hn : WsLen w) : Pure Tryz.prog 16 [encWs w, encCl k] (.tup [encI (dueV w k), encI (dueE w k)]) := by
 have hcb : classB k = (areaB k.size && countB k.most) := rfl
 by_cases hz : openW w (classB k) = 0
 ·obtain ⟨hok, his, hcan⟩ := openW_ok hz
  have hop := open_yes hn hz
  have hnum := hok.num
  have hl := hok.last
  have hV : dueV w k = (match dueO (co w (gl w)) k with | some d => (d : Int) | none => 0) := if_pos hz
  have hE : dueE w k = (match dueO (co w (gl w)) k with | some _ => 0 | none => 3) := if_pos hz
  rw [hV, hE]
  obtain ⟨N, hN⟩ : ∃ N : Nat, (w.last + 1).toNat = N := ⟨_, rfl⟩
  have hN' : (N : Int) = w.last + 1 := by omega
  have hw1 : IntKind.i64.wrap (w.last + 1) = (N : Int) := by rw [wrap_id (by omega) (by omega)]; omega
  have hsome := fun i hi => dueO_some (c := co w (gl w)) (k := k) (i := i) hN hi
  have hnone := dueO_none (c := co w (gl w)) (k := k) hN
  have hit := fun day : Nat => on98 w (gl w) true true [] [] day hnum (by simp)
  simp only [rowsK_nil] at hit
  have hmem : ∀ (day : Nat), ∀ z ∈ onC (co w (gl w)) (day : Nat) [], -50 ≤ z ∧ z ≤ 50 := fun day z hz' => by
   have h1 := onC_bd hz'
   have h2 := hnum.gain
   simp only at h1
   omega
  have hln := fun day : Nat => onC_len (co w (gl w)) (day : Nat) [] hnum.gain
  generalize dueO (co w (gl w)) k = D at *
  rw [hcb, Bool.and_eq_true] at his
  obtain ⟨h1, h2⟩ := his
  have ha := areaB_iff.1 h1
  rw [hcb, h1, h2] at hop
  simp only [Bool.and_self] at hop
  refine ZF (fn := Tryz.f16) [.cell 4 3, .cell 5 37] ⟨Tryz.func16, rfl, by kernel_rfl⟩ fun x hx hσ => ?_
  (repeat refine ZQ ?_); refine ZR fun K hK => ?_; simp (maxSteps := 1000000) [ty28, ty37, ty3, ty31]; refine hK _ ?_; clear hK K
  (repeat refine ZQ ?_); refine ZD [] [0, 1, 2, 3, 4, 5, 6, 7, 8, 9, 10, 11, 12, 13, 14, 15] fun K hK => ?_; simp (maxSteps := 1000000) [ty28, ty3, ty4, ty31]
  refine ZE (isArea58 k.size) ?_; simp (maxSteps := 1000000) [ty28, ty3, ty4, ty31, h1]
  refine ZE (isCount59 k.most) ?_; simp (maxSteps := 1000000) [ty28, ty3, ty4, ty31, h2]
  refine ZE (hop) ?_; simp (maxSteps := 1000000) [ty89]
  refine hK _ ?_; clear hK K
  (repeat refine ZQ ?_); refine ZR fun K hK => ?_; simp (maxSteps := 1000000) [ty37]; refine hK _ ?_; clear hK K
  (repeat refine ZQ ?_); refine ZC (fun hd => ?_) (fun hd => ?_)
  ·simp at hd
  ·clear hd
   refine awp_skip ?_
   (repeat refine ZQ ?_); refine ZR fun K hK => ?_; simp (maxSteps := 1000000) [ty28, ty3, hw1]; refine hK _ ?_; clear hK K
   (repeat refine ZQ ?_); refine awp_block ?_
   refine awp_loop (fun i : Nat => ⟨ofL [(3, .ptr 3 2 0 0), (4, .ptr 4 1 0 0), (5, .ptr 5 1 0 0), (6, .ptr 6 15 0 0), (29, encI N), (30, encI i)], stoT [(3, 3, .live ⟨false, false, 2, [cCl k]⟩), (4, 4, .live (obI 0)), (5, 5, .live (obI 0)), (6, 6, .live (obCd w (gl w) true []))]⟩)
    (fun i => i ≤ N ∧ ∀ d, d < i → (onC (co w (gl w)) (d : Nat) []).any (byC k) = false) (fun i => N - i) 0 (by simp) ?_ ?_
   ·exact ZW
   ·intro i ⟨hi, hd0⟩
    (repeat refine ZQ ?_); refine ZR fun K hK => ?_; simp (maxSteps := 1000000) [ty3]; refine hK _ ?_; clear hK K
    (repeat refine ZQ ?_); refine ZC (fun hc1 => ?_) (fun hc1 => ?_)
    ·simp at hc1
     have hwi : IntKind.i64.wrap ((i : Int) + 1) = ((i + 1 : Nat) : Int) := by rw [wrap_id (by omega) (by omega)]; rfl
     have hsm := hsome i hc1 hd0
     have hiti := hit i
     have hmi := hmem i
     have hli := hln i
     have hd1 : (onC (co w (gl w)) (i : Nat) []).any (byC k) = false → ∀ d, d < i + 1 → (onC (co w (gl w)) (d : Nat) []).any (byC k) = false := fun h d hd => by
      by_cases e : d = i
      ·rw [e]; exact h
      ·exact hd0 d (by omega)
     clear hnone hsome hit hmem hln
     generalize hLL : onC (co w (gl w)) (i : Nat) [] = L at *
     refine awp_skip ?_
     (repeat refine ZQ ?_); refine awp_block ?_
     (repeat refine ZQ ?_); refine ZR fun K hK => ?_; simp (maxSteps := 1000000) [ty3]; refine hK _ ?_; clear hK K
     (repeat refine ZQ ?_); refine ZR fun K hK => ?_; simp (maxSteps := 1000000) [ty89, ty3, ty87]
     refine ZP (on60 w (gl w) true true [] [] i) ?_; simp (maxSteps := 1000000) [ty92]
     refine hK _ ?_; clear hK K
     (repeat refine ZQ ?_); refine awp_block ?_
     obtain ⟨stop, hstop⟩ : ∃ stop, stop = L.findIdx (byC k) := ⟨_, rfl⟩
     have hsl : stop ≤ L.length := hstop ▸ List.findIdx_le_length
     refine awp_range0 1000000 [1000003, 1000004, 1000005, 1000006, 1000008] (fun m => [(1000003, 1000003, .live ⟨false, false, 2, [cCl k]⟩), (1000004, 1000004, .live (obI (if stop < m then (i : Int) else 0))), (1000005, 1000005, .live (obI 0)), (1000006, 1000006, .live (obCd w (gl w) true [])), (1000008, 1000008, .live (obI i))]) (itI L) stop .ret
      [(3, .ptr 1000003 2 0 0), (4, .ptr 1000004 1 0 0), (5, .ptr 1000005 1 0 0), (6, .ptr 1000006 15 0 0), (8, .ptr 1000008 1 0 0), (29, encI N), (30, encI i), (35, .fn (.func 98) [] [.ip (cCd w (gl w) true []) 0, .ip [encI i] 0, .ip [.md true []] 0])] [(3, .ptr 1000003 2 0 0), (4, .ptr 1000004 1 0 0), (5, .ptr 1000005 1 0 0), (8, .ptr 1000008 1 0 0)]
      (first := []) (caps := [.ip (cCd w (gl w) true []) 0, .ip [encI i] 0, .ip [.md true []] 0]) ?_ hσ (by simp) (by rw [hx]; decide) ⟨rfl, by simp [purel, C.isPure]⟩ hiti (by simpa using hsl) (by simp) (by simp) (fun i => by simp) (fun i => by simp [wil, C.wi]) (by simp [C.wi, wil]) (by simp [C.wi, wil]) ?_ ?_ ?_ ?_
     ·refine wk_shape2 [(1000003, 3, .live ⟨false, false, 2, [cCl k]⟩), (1000004, 4, .live (obI (if stop < 0 then (i : Int) else 0))), (1000005, 5, .live (obI 0)), (1000006, 6, .live (obCd w (gl w) true [])), (1000008, 8, .live (obI i))] (by first | rfl | (simp only [if_pos, if_true]; rfl)) (shp0 hσ (by simp) (by simp) ?_) ?_
      ·simp [SlotOk] <;> (repeat' (first | (refine RowsOk.same ?_; simp [purel, C.isPure]; done) | (refine rowsCons ?_; simp [mtl, mtc, mT, mH, C.isPure, purel]; done) | (refine rowsCons ?_; simp [mtl, mtc, mT, mH, C.isPure, purel]) | refine And.intro ?_ ?_))
      ·simp [mtc, mtl, mT, C.isPure, purel] <;> (try simp (disch := omega) [wrap_id]) <;> (try omega)
     ·intro args ha
      obtain ⟨y, hy, rfl⟩ := List.mem_map.1 ha
      simp [purel, C.isPure]
     ·intro m args hit hm y y2 hy1 hy2 hyσ hy
      obtain ⟨g, ht, rfl⟩ := itI_get hit
      have hm' := (List.getElem?_eq_some_iff.1 ht).1
      have htm : L[m] = g := (List.getElem?_eq_some_iff.1 ht).2
      have hgb := hmi g (List.mem_of_getElem? ht)
      have hsb := seenA_bd ha hgb
      have hw2 : IntKind.i64.wrap (seenA k.size g - k.size) = seenA k.size g - k.size := wrap_id (by omega) (by omega)
      have hw3 : IntKind.i64.wrap (-(seenA k.size g - k.size)) = -(seenA k.size g - k.size) := wrap_id (by omega) (by omega)
      have hby : byC k g = decide (k.most < if seenA k.size g - k.size < -(seenA k.size g - k.size) then -(seenA k.size g - k.size) else seenA k.size g - k.size) := by
       unfold byC absI
       congr 2
       split <;> split <;> omega
      have hx0 := hx
      have hx := hy1.trans hx0
      (repeat refine ZQ ?_); refine ZR fun K hK => ?_; simp (maxSteps := 1000000) [ty3, putPs]; refine hK _ ?_; clear hK K; (first | show AWP _ _ _ _ _ | show ∃ _, _ | skip)
      refine ⟨by simp, ?_⟩
      have hx := hy2.trans hx0
      (repeat refine ZQ ?_); refine awp_block ?_
      (repeat refine ZQ ?_); refine ZD [] [0, 1, 2, 3, 4, 5, 6, 7] fun K hK => ?_; simp (maxSteps := 1000000) [ty3, ty31]
      refine ZE (seen61 k.size g ha hgb) ?_; simp (maxSteps := 1000000) [ty3, ty31, hw2]
      refine hK _ ?_; clear hK K; (first | show AWP _ _ _ _ _ | show ∃ _, _ | skip)
      cases hb : byC k g
      ·have hne : m ≠ stop := by
        rintro rfl
        have := List.findIdx_getElem (p := byC k) (xs := L) (w := by rw [← hstop]; exact hm')
        simp only [← hstop, htm, hb] at this
        cases this
       rw [hb] at hby
       have hby := of_decide_eq_false hby.symm
       (repeat refine ZQ ?_); refine ZR fun K hK => ?_; simp (maxSteps := 1000000) [ty3, ty31, hw3, hby]; refine hK _ ?_; clear hK K
       (repeat refine ZQ ?_); refine ZC (hc := by simp [hby]; rfl) (fun hd => ?_) (fun hd => ?_)
       ·simp [hby] at hd
       ·clear hd
        refine awp_skip ?_
        refine ⟨by rw [if_neg hne], ?_⟩
        rw [if_neg (show ¬ stop < m + 1 by omega)]
        rw [if_neg (show ¬ stop < m by omega)]
        refine wk_round (E := []) [(1000000, 1000000, .gh), (1000003, 1000003, .live ⟨false, false, 2, [cCl k]⟩), (1000004, 1000004, .live (obI 0)), (1000005, 1000005, .live (obI 0)), (1000006, 1000006, .live (obCd w (gl w) true [])), (1000008, 1000008, .live (obI i))] (by first | rfl | (simp <;> rfl)) hy (by simp [mT]) (by simp) (by simp) ?_ (by simp)
        ·simp [SlotOk] <;> (repeat' (first | (refine RowsOk.same ?_; simp [purel, C.isPure]; done) | (refine rowsCons ?_; simp [mtl, mtc, mT, mH, C.isPure, purel]; done) | (refine rowsCons ?_; simp [mtl, mtc, mT, mH, C.isPure, purel]) | refine And.intro ?_ ?_)) <;> (try simp (disch := omega) [wrap_id]) <;> (try omega)
      ·have heq : m = stop := by
        refine Nat.le_antisymm hm (Classical.byContradiction fun hlt => ?_)
        have := List.not_of_lt_findIdx (p := byC k) (xs := L) (i := m) (by rw [← hstop]; omega)
        simp only [htm, hb] at this
        cases this
       rw [hb] at hby
       have hby := of_decide_eq_true hby.symm
       (repeat refine ZQ ?_); refine ZR fun K hK => ?_; simp (maxSteps := 1000000) [ty3, ty31, hw3, hby]; refine hK _ ?_; clear hK K
       (repeat refine ZQ ?_); refine ZC (hc := by simp [hby]; rfl) (fun hd => ?_) (fun hd => ?_)
       ·clear hd
        (repeat refine ZQ ?_); refine ZR fun K hK => ?_; simp (maxSteps := 1000000) [ty3, ty37]; refine hK _ ?_; clear hK K
        refine awp_ret ?_
        refine ⟨by rw [if_pos heq]; rfl, ?_⟩
        rw [if_pos (show stop < m + 1 by omega)]
        refine wk_round (E := []) [(1000000, 1000000, .gh), (1000003, 1000003, .live ⟨false, false, 2, [cCl k]⟩), (1000004, 1000004, .live (obI i)), (1000005, 1000005, .live (obI 0)), (1000006, 1000006, .live (obCd w (gl w) true [])), (1000008, 1000008, .live (obI i))] (by first | rfl | (simp <;> rfl)) hy (by simp [mT]) (by simp) (by simp) ?_ (by simp)
        ·simp [SlotOk] <;> (repeat' (first | (refine RowsOk.same ?_; simp [purel, C.isPure]; done) | (refine rowsCons ?_; simp [mtl, mtc, mT, mH, C.isPure, purel]; done) | (refine rowsCons ?_; simp [mtl, mtc, mT, mH, C.isPure, purel]) | refine And.intro ?_ ?_)) <;> (try simp (disch := omega) [wrap_id]) <;> (try omega)
       ·simp [hby] at hd
     ·intro he s' hs'
      refine AWP.weak ?_ hs'
      have hany : L.any (byC k) = false := by
       rw [Bool.eq_false_iff]
       intro e
       obtain ⟨g, hg, h1⟩ := List.any_eq_true.1 e
       have := List.findIdx_lt_length_of_exists ⟨g, hg, h1⟩
       rw [← hstop, he] at this
       simp at this
      rw [if_neg (by omega)]
      (repeat refine ZQ ?_); refine ZR fun K hK => ?_; simp (maxSteps := 1000000) [ty3]; refine hK _ ?_; clear hK K; (first | show AWP _ _ _ _ _ | show ∃ _, _ | skip)
      refine ⟨i + 1, ⟨by omega, hd1 hany⟩, by omega, ?_⟩
      rw [hwi]
      refine wk_shape2 [(3, 1000003, .live ⟨false, false, 2, [cCl k]⟩), (4, 1000004, .live (obI 0)), (5, 1000005, .live (obI 0)), (6, 1000006, .live (obCd w (gl w) true []))] (by first | rfl | (simp only [if_pos, if_true]; rfl)) (shp0 hσ (by simp) (by simp) ?_) ?_
      ·simp [SlotOk] <;> (repeat' (first | (refine RowsOk.same ?_; simp [purel, C.isPure]; done) | (refine rowsCons ?_; simp [mtl, mtc, mT, mH, C.isPure, purel]; done) | (refine rowsCons ?_; simp [mtl, mtc, mT, mH, C.isPure, purel]) | refine And.intro ?_ ?_))
      ·simp [mtc, mtl, mT, C.isPure, purel] <;> (try simp (disch := omega) [wrap_id]) <;> (try omega)
     ·intro hlt
      have hlt' : stop < L.length := by simpa using hlt
      have hany : L.any (byC k) = true := by
       have := List.findIdx_getElem (p := byC k) (xs := L) (w := by rw [← hstop]; exact hlt')
       exact List.any_eq_true.2 ⟨_, List.getElem_mem _, this⟩
      have hD := hsm hany
      rw [if_pos (by omega), hD]
      refine awp_ret ?_
      refine ⟨.inr rfl, ?_⟩
      simp [retC, resC, viewC, mapO, ty3, ty37]
    ·simp at hc1
     (repeat refine ZQ ?_); refine awp_exit ?_; (first | show AWP _ _ _ _ _ | show ∃ _, _ | skip)
     have hiN : i = N := by omega
     subst hiN
     have hD := hnone hd0
     rw [hD]
     (repeat refine ZQ ?_); refine ZR fun K hK => ?_; simp (maxSteps := 1000000) [ty3, ty37]; refine hK _ ?_; clear hK K
     (repeat refine ZQ ?_); refine awp_ret ?_; refine And.intro (Or.inr rfl) ?_
     simp [retC, resC, viewC, mapO, ty3, ty37]
 ·have hop := open_no hn hz
  have hV : dueV w k = 0 := if_neg hz
  have hE : dueE w k = openW w (classB k) := if_neg hz
  rw [hV, hE]
  cases h1 : areaB k.size
  ·have hc0 : classB k = false := by rw [hcb, h1]; rfl
   rw [hc0] at hop hz ⊢
   refine ZF (fn := Tryz.f16) [.cell 4 3, .cell 5 37] ⟨Tryz.func16, rfl, by kernel_rfl⟩ fun x hx hσ => ?_
   (repeat refine ZQ ?_); refine ZR fun K hK => ?_; simp (maxSteps := 1000000) [ty28, ty37, ty3, ty31]; refine hK _ ?_; clear hK K
   (repeat refine ZQ ?_); refine ZD [] [0, 1, 2, 3, 4, 5, 6, 7, 8, 9, 10, 11, 12, 13, 14, 15] fun K hK => ?_; simp (maxSteps := 1000000) [ty28, ty3, ty4, ty31]
   refine ZE (isArea58 k.size) ?_; simp (maxSteps := 1000000) [ty28, ty3, ty4, ty31, h1]
   refine ZE (hop) ?_; simp (maxSteps := 1000000) [ty89]
   refine hK _ ?_; clear hK K
   (repeat refine ZQ ?_); refine ZR fun K hK => ?_; simp (maxSteps := 1000000) [ty37]; refine hK _ ?_; clear hK K
   (repeat refine ZQ ?_); refine ZC (hc := by simp [hz]; rfl) (fun hd => ?_) (fun hd => ?_)
   ·clear hd
    (repeat refine ZQ ?_); refine ZR fun K hK => ?_; simp (maxSteps := 1000000) [ty37, ty3]; refine hK _ ?_; clear hK K
    (repeat refine ZQ ?_); refine awp_ret ?_; refine And.intro (Or.inr rfl) ?_
    simp [retC, resC, viewC, mapO, hz, ty3, ty37]
   ·simp [hz] at hd
  ·have hc0 : classB k = countB k.most := by rw [hcb, h1]; rfl
   rw [hc0] at hop hz ⊢
   refine ZF (fn := Tryz.f16) [.cell 4 3, .cell 5 37] ⟨Tryz.func16, rfl, by kernel_rfl⟩ fun x hx hσ => ?_
   (repeat refine ZQ ?_); refine ZR fun K hK => ?_; simp (maxSteps := 1000000) [ty28, ty37, ty3, ty31]; refine hK _ ?_; clear hK K
   (repeat refine ZQ ?_); refine ZD [] [0, 1, 2, 3, 4, 5, 6, 7, 8, 9, 10, 11, 12, 13, 14, 15] fun K hK => ?_; simp (maxSteps := 1000000) [ty28, ty3, ty4, ty31]
   refine ZE (isArea58 k.size) ?_; simp (maxSteps := 1000000) [ty28, ty3, ty4, ty31, h1]
   refine ZE (isCount59 k.most) ?_; simp (maxSteps := 1000000) [ty28, ty3, ty4, ty31]
   refine ZE (hop) ?_; simp (maxSteps := 1000000) [ty89]
   refine hK _ ?_; clear hK K
   (repeat refine ZQ ?_); refine ZR fun K hK => ?_; simp (maxSteps := 1000000) [ty37]; refine hK _ ?_; clear hK K
   (repeat refine ZQ ?_); refine ZC (hc := by simp [hz]; rfl) (fun hd => ?_) (fun hd => ?_)
   ·clear hd
    (repeat refine ZQ ?_); refine ZR fun K hK => ?_; simp (maxSteps := 1000000) [ty37, ty3]; refine hK _ ?_; clear hK K
    (repeat refine ZQ ?_); refine awp_ret ?_; refine And.intro (Or.inr rfl) ?_
    simp [retC, resC, viewC, mapO, hz, ty3, ty37]
   ·simp [hz] at hd

set_option maxHeartbeats 8000000

-- Blame

def blameL (L : List Int) (a s : Int) : Int := if L.countP (fun g => seenA a g == s) = L.length then 1 else if L.countP (fun g => seenA a g == s) = 0 then 2 else 3
def blameW (w : Ws) (day a s : Int) : Int := if openW w (dayB w day && areaB a && countB s) = 0 then blameL (onC (co w (gl w)) day []) a s else 0


theorem w_blame50 (w : Ws) (day a s : Int) (hn : WsLen w) : Pure Tryz.prog 50 [encWs w, encI day, encI a, encI s] (.tup [encI (blameW w day a s), encI (openW w (dayB w day && areaB a && countB s))]) := by
 by_cases hz : openW w (dayB w day && areaB a && countB s) = 0
 ·obtain ⟨hok, his, hcan⟩ := openW_ok hz
  have hop := open_yes hn hz
  have hnum := hok.num
  have hT : blameW w day a s = blameL (onC (co w (gl w)) day []) a s := if_pos hz
  have hit := on98 w (gl w) true true [] [] day hnum (by simp)
  simp only [rowsK_nil] at hit
  have hmem : ∀ z ∈ onC (co w (gl w)) day [], -50 ≤ z ∧ z ≤ 50 := fun z hz' => by
   have h1 := onC_bd hz'
   have h2 := hnum.gain
   simp only at h1
   omega
  have hln := onC_len (co w (gl w)) day [] hnum.gain
  rw [hT, hz]
  generalize onC (co w (gl w)) day [] = L at *
  simp only [Bool.and_eq_true] at his
  obtain ⟨⟨h1, h2⟩, h3⟩ := his
  have ha := areaB_iff.1 h2
  rw [h1, h2, h3] at hop
  simp only [Bool.and_self] at hop
  have hst := fun i (hi : i < L.length) => count_step (fun g => seenA a g == s) hi
  have hcb := fun i => List.countP_le_length (p := fun g => seenA a g == s) (l := L.take i)
  obtain ⟨n, hnn⟩ : ∃ n : Nat → Nat, ∀ i, (L.take i).countP (fun g => seenA a g == s) = n i := ⟨_, fun _ => rfl⟩
  have hn0 : n 0 = 0 := by rw [← hnn]; simp
  have hnN : L.countP (fun g => seenA a g == s) = n L.length := by rw [← hnn, List.take_length]
  have hbl : blameL L a s = if n L.length = L.length then 1 else if n L.length = 0 then 2 else 3 := by unfold blameL; rw [hnN]
  rw [hbl]
  simp only [hnn] at hst hcb
  have hnl : ∀ i, i ≤ L.length → n i ≤ i := fun i hi => by have := hcb i; rw [List.length_take] at this; omega
  refine ZF (fn := Tryz.f50) [.tmp 8, .tmp 9] ⟨Tryz.func50, rfl, by kernel_rfl⟩ fun x hx hσ => ?_
  (repeat refine ZQ ?_); refine ZR fun K hK => ?_; simp (maxSteps := 1000000) [ty28, ty37, ty3]; refine hK _ ?_; clear hK K
  (repeat refine ZQ ?_); refine ZD [] [0, 1, 2, 3, 4, 5, 6, 7, 8, 9, 10, 11, 12, 13, 14, 15, 16, 17, 18] fun K hK => ?_; simp (maxSteps := 1000000) [ty28, ty3, ty4]
  refine ZE (isDay62 w day) ?_; simp (maxSteps := 1000000) [ty28, ty3, ty4, h1]
  refine ZE (isArea58 a) ?_; simp (maxSteps := 1000000) [ty28, ty3, ty4, h2]
  refine ZE (isCount59 s) ?_; simp (maxSteps := 1000000) [ty28, ty3, ty4, h3]
  refine ZE (hop) ?_; simp (maxSteps := 1000000) [ty89]
  refine hK _ ?_; clear hK K
  (repeat refine ZQ ?_); refine ZR fun K hK => ?_; simp (maxSteps := 1000000) [ty37]; refine hK _ ?_; clear hK K
  (repeat refine ZQ ?_); refine ZC (fun hd => ?_) (fun hd => ?_)
  ·simp at hd
  ·clear hd
   refine awp_skip ?_
   (repeat refine ZQ ?_); refine ZR fun K hK => ?_; simp (maxSteps := 1000000) [ty3]; refine hK _ ?_; clear hK K
   (repeat refine ZQ ?_); refine ZR fun K hK => ?_; simp (maxSteps := 1000000) [ty89, ty3, ty87]
   refine ZP (on60 w (gl w) true true [] [] day) ?_; simp (maxSteps := 1000000) [ty92]
   refine hK _ ?_; clear hK K
   (repeat refine ZQ ?_); refine awp_block ?_
   refine awp_range0 1000000 [1000006, 1000007, 1000012, 1000013] (fun i => [(1000006, 1000006, .live (obI a)), (1000007, 1000007, .live (obI s)), (1000012, 1000012, .live (obI (n i : Nat))), (1000013, 1000013, .live (obI ((i - n i : Nat) : Int)))]) (itI L) L.length .ret
    [(6, .ptr 1000006 1 0 0), (7, .ptr 1000007 1 0 0), (12, .ptr 1000012 1 0 0), (13, .ptr 1000013 1 0 0), (36, .fn (.func 98) [] [.ip (cCd w (gl w) true []) 0, .ip [encI day] 0, .ip [.md true []] 0])] [(6, .ptr 1000006 1 0 0), (7, .ptr 1000007 1 0 0), (12, .ptr 1000012 1 0 0), (13, .ptr 1000013 1 0 0)]
    (first := []) (caps := [.ip (cCd w (gl w) true []) 0, .ip [encI day] 0, .ip [.md true []] 0]) ?_ hσ (by simp) (by rw [hx]; decide) ⟨rfl, by simp [purel, C.isPure]⟩ hit (by simp) (by simp) (by simp) (fun i => by simp) (fun i => by simp [wil, C.wi]) (by simp [C.wi, wil]) (by simp [C.wi, wil]) ?_ ?_ ?_ ?_
   ·refine wk_shape2 [(1000006, 6, .live (obI a)), (1000007, 7, .live (obI s)), (1000012, 12, .live (obI (n 0 : Nat))), (1000013, 13, .live (obI ((0 - n 0 : Nat) : Int)))] (by first | rfl | (simp only [if_pos, if_true, hn0]; rfl)) (shp0 hσ (by simp) (by simp) ?_) ?_
    ·simp [SlotOk, hn0] <;> (repeat' (first | (refine RowsOk.same ?_; simp [purel, C.isPure]; done) | (refine rowsCons ?_; simp [mtl, mtc, mT, mH, C.isPure, purel]; done) | (refine rowsCons ?_; simp [mtl, mtc, mT, mH, C.isPure, purel]) | refine And.intro ?_ ?_))
    ·simp [mtc, mtl, mT, C.isPure, purel, hn0] <;> (try simp (disch := omega) [wrap_id]) <;> (try omega)
   ·intro args ha
    obtain ⟨y, hy, rfl⟩ := List.mem_map.1 ha
    simp [purel, C.isPure]
   ·intro i args hit hi y y2 hy1 hy2 hyσ hy
    obtain ⟨g, ht, rfl⟩ := itI_get hit
    have hi' := (List.getElem?_eq_some_iff.1 ht).1
    have hti : L[i] = g := (List.getElem?_eq_some_iff.1 ht).2
    have hgb := hmem g (List.mem_of_getElem? ht)
    have hsi := hst i hi'
    rw [hti] at hsi
    have hli := hnl i (by omega)
    have hx0 := hx
    have hx := hy1.trans hx0
    (repeat refine ZQ ?_); refine ZR fun K hK => ?_; simp (maxSteps := 1000000) [ty3, putPs]; refine hK _ ?_; clear hK K; (first | show AWP _ _ _ _ _ | show ∃ _, _ | skip)
    refine ⟨by simp, ?_⟩
    have hx := hy2.trans hx0
    (repeat refine ZQ ?_); refine awp_block ?_
    cases hb : seenA a g == s
    ·rw [hb] at hsi
     simp at hsi
     have hw1 : IntKind.i64.wrap (((i - n i : Nat) : Int) + 1) = ((i + 1 - n i : Nat) : Int) := by rw [wrap_id (by omega) (by omega)]; omega
     (repeat refine ZQ ?_); refine ZD [] [0, 1, 2, 3, 4] fun K hK => ?_; simp (maxSteps := 1000000) [ty3]
     refine ZE (seen61 a g ha hgb) ?_; simp (maxSteps := 1000000) [ty3, hb]
     refine hK _ ?_; clear hK K
     (repeat refine ZQ ?_); refine ZC (hc := by simp [hb]; rfl) (fun hd => ?_) (fun hd => ?_)
     ·simp [hb] at hd
     ·clear hd
      (repeat refine ZQ ?_); refine ZR fun K hK => ?_; simp (maxSteps := 1000000) [ty3, hw1]; refine hK _ ?_; clear hK K; (first | show AWP _ _ _ _ _ | show ∃ _, _ | skip)
      refine ⟨by rw [if_neg (by omega)], ?_⟩
      rw [hsi]
      refine wk_round (E := []) [(1000000, 1000000, .gh), (1000006, 1000006, .live (obI a)), (1000007, 1000007, .live (obI s)), (1000012, 1000012, .live (obI (n i : Nat))), (1000013, 1000013, .live (obI ((i + 1 - n i : Nat) : Int)))] (by first | rfl | (simp <;> rfl)) hy (by simp [mT]) (by simp) (by simp) ?_ (by simp)
      ·simp [SlotOk] <;> (repeat' (first | (refine RowsOk.same ?_; simp [purel, C.isPure]; done) | (refine rowsCons ?_; simp [mtl, mtc, mT, mH, C.isPure, purel]; done) | (refine rowsCons ?_; simp [mtl, mtc, mT, mH, C.isPure, purel]) | refine And.intro ?_ ?_)) <;> (try simp (disch := omega) [wrap_id]) <;> (try omega)
    ·rw [hb] at hsi
     simp at hsi
     have hw1 : IntKind.i64.wrap ((n i : Int) + 1) = ((n i + 1 : Nat) : Int) := by rw [wrap_id (by omega) (by omega)]; omega
     have hw2 : i + 1 - (n i + 1) = i - n i := by omega
     (repeat refine ZQ ?_); refine ZD [] [0, 1, 2, 3, 4] fun K hK => ?_; simp (maxSteps := 1000000) [ty3]
     refine ZE (seen61 a g ha hgb) ?_; simp (maxSteps := 1000000) [ty3, hb]
     refine hK _ ?_; clear hK K
     (repeat refine ZQ ?_); refine ZC (hc := by simp [hb]; rfl) (fun hd => ?_) (fun hd => ?_)
     ·clear hd
      (repeat refine ZQ ?_); refine ZR fun K hK => ?_; simp (maxSteps := 1000000) [ty3, hw1]; refine hK _ ?_; clear hK K; (first | show AWP _ _ _ _ _ | show ∃ _, _ | skip)
      refine ⟨by rw [if_neg (by omega)], ?_⟩
      rw [hsi, hw2]
      refine wk_round (E := []) [(1000000, 1000000, .gh), (1000006, 1000006, .live (obI a)), (1000007, 1000007, .live (obI s)), (1000012, 1000012, .live (obI (n i + 1 : Nat))), (1000013, 1000013, .live (obI ((i - n i : Nat) : Int)))] (by first | rfl | (simp <;> rfl)) hy (by simp [mT]) (by simp) (by simp) ?_ (by simp)
      ·simp [SlotOk] <;> (repeat' (first | (refine RowsOk.same ?_; simp [purel, C.isPure]; done) | (refine rowsCons ?_; simp [mtl, mtc, mT, mH, C.isPure, purel]; done) | (refine rowsCons ?_; simp [mtl, mtc, mT, mH, C.isPure, purel]) | refine And.intro ?_ ?_)) <;> (try simp (disch := omega) [wrap_id]) <;> (try omega)
     ·simp [hb] at hd
   ·intro he s' hs'
    refine AWP.weak ?_ hs'
    have hli := hnl L.length (Nat.le_refl _)
    have hrl : (itI L).length = L.length := he.symm
    rw [hrl]
    (repeat refine ZQ ?_); refine awp_block ?_
    by_cases e1 : n L.length = L.length
    ·have e1' : (((L.length - n L.length : Nat) : Int) == 0) = true := by rw [beq_iff_eq]; omega
     rw [if_pos e1]
     (repeat refine ZQ ?_); refine ZR fun K hK => ?_; simp (maxSteps := 1000000) [ty3, e1']; refine hK _ ?_; clear hK K
     (repeat refine ZQ ?_); refine ZC (hc := by simp [e1']; rfl) (fun hd => ?_) (fun hd => ?_)
     ·clear hd
      (repeat refine ZQ ?_); refine ZR fun K hK => ?_; simp (maxSteps := 1000000) [ty3, ty37]; refine hK _ ?_; clear hK K
      (repeat refine ZQ ?_); refine awp_ret ?_; refine And.intro (Or.inr rfl) ?_
      simp [retC, resC, viewC, mapO]
     ·simp [e1'] at hd
    ·have e1' : (((L.length - n L.length : Nat) : Int) == 0) = false := by rw [beq_eq_false_iff_ne]; omega
     rw [if_neg e1]
     (repeat refine ZQ ?_); refine ZR fun K hK => ?_; simp (maxSteps := 1000000) [ty3, e1']; refine hK _ ?_; clear hK K
     (repeat refine ZQ ?_); refine ZC (hc := by simp [e1']; rfl) (fun hd => ?_) (fun hd => ?_)
     ·simp [e1'] at hd
     ·clear hd
      by_cases e2 : n L.length = 0
      ·have e2' : ((n L.length : Int) == 0) = true := by rw [beq_iff_eq]; omega
       rw [if_pos e2]
       (repeat refine ZQ ?_); refine ZR fun K hK => ?_; simp (maxSteps := 1000000) [ty3, e2']; refine hK _ ?_; clear hK K
       (repeat refine ZQ ?_); refine ZC (hc := by simp [e2']; rfl) (fun hd => ?_) (fun hd => ?_)
       ·clear hd
        (repeat refine ZQ ?_); refine ZR fun K hK => ?_; simp (maxSteps := 1000000) [ty3, ty37]; refine hK _ ?_; clear hK K
        (repeat refine ZQ ?_); refine awp_ret ?_; refine And.intro (Or.inr rfl) ?_
        simp [retC, resC, viewC, mapO]
       ·simp [e2'] at hd
      ·have e2' : ((n L.length : Int) == 0) = false := by rw [beq_eq_false_iff_ne]; omega
       rw [if_neg e2]
       (repeat refine ZQ ?_); refine ZR fun K hK => ?_; simp (maxSteps := 1000000) [ty3, e2']; refine hK _ ?_; clear hK K
       (repeat refine ZQ ?_); refine ZC (hc := by simp [e2']; rfl) (fun hd => ?_) (fun hd => ?_)
       ·simp [e2'] at hd
       ·clear hd
        refine awp_skip ?_
        (repeat refine ZQ ?_); refine ZR fun K hK => ?_; simp (maxSteps := 1000000) [ty3, ty37]; refine hK _ ?_; clear hK K
        (repeat refine ZQ ?_); refine awp_ret ?_; refine And.intro (Or.inr rfl) ?_
        simp [retC, resC, viewC, mapO]
   ·intro hlt
    simp at hlt
 ·have hop := open_no hn hz
  have hT : blameW w day a s = 0 := if_neg hz
  rw [hT]
  cases h1 : dayB w day
  ·rw [h1] at hop hz
   simp only [Bool.false_and] at hop hz ⊢
   refine ZF (fn := Tryz.f50) [.tmp 8, .tmp 9] ⟨Tryz.func50, rfl, by kernel_rfl⟩ fun x hx hσ => ?_
   (repeat refine ZQ ?_); refine ZR fun K hK => ?_; simp (maxSteps := 1000000) [ty28, ty37, ty3]; refine hK _ ?_; clear hK K
   (repeat refine ZQ ?_); refine ZD [] [0, 1, 2, 3, 4, 5, 6, 7, 8, 9, 10, 11, 12, 13, 14, 15, 16, 17, 18] fun K hK => ?_; simp (maxSteps := 1000000) [ty28, ty3, ty4]
   refine ZE (isDay62 w day) ?_; simp (maxSteps := 1000000) [ty28, ty3, ty4, h1]
   refine ZE (hop) ?_; simp (maxSteps := 1000000) [ty89]
   refine hK _ ?_; clear hK K
   (repeat refine ZQ ?_); refine ZR fun K hK => ?_; simp (maxSteps := 1000000) [ty37]; refine hK _ ?_; clear hK K
   (repeat refine ZQ ?_); refine ZC (hc := by simp [hz]; rfl) (fun hd => ?_) (fun hd => ?_)
   ·clear hd
    (repeat refine ZQ ?_); refine ZR fun K hK => ?_; simp (maxSteps := 1000000) [ty37]; refine hK _ ?_; clear hK K
    (repeat refine ZQ ?_); refine awp_ret ?_; refine And.intro (Or.inr rfl) ?_
    simp [retC, resC, viewC, mapO, hz]
   ·simp [hz] at hd
  ·cases h2 : areaB a
   ·rw [h1, h2] at hop hz
    simp only [Bool.false_and, Bool.true_and] at hop hz ⊢
    refine ZF (fn := Tryz.f50) [.tmp 8, .tmp 9] ⟨Tryz.func50, rfl, by kernel_rfl⟩ fun x hx hσ => ?_
    (repeat refine ZQ ?_); refine ZR fun K hK => ?_; simp (maxSteps := 1000000) [ty28, ty37, ty3]; refine hK _ ?_; clear hK K
    (repeat refine ZQ ?_); refine ZD [] [0, 1, 2, 3, 4, 5, 6, 7, 8, 9, 10, 11, 12, 13, 14, 15, 16, 17, 18] fun K hK => ?_; simp (maxSteps := 1000000) [ty28, ty3, ty4]
    refine ZE (isDay62 w day) ?_; simp (maxSteps := 1000000) [ty28, ty3, ty4, h1]
    refine ZE (isArea58 a) ?_; simp (maxSteps := 1000000) [ty28, ty3, ty4, h2]
    refine ZE (hop) ?_; simp (maxSteps := 1000000) [ty89]
    refine hK _ ?_; clear hK K
    (repeat refine ZQ ?_); refine ZR fun K hK => ?_; simp (maxSteps := 1000000) [ty37]; refine hK _ ?_; clear hK K
    (repeat refine ZQ ?_); refine ZC (hc := by simp [hz]; rfl) (fun hd => ?_) (fun hd => ?_)
    ·clear hd
     (repeat refine ZQ ?_); refine ZR fun K hK => ?_; simp (maxSteps := 1000000) [ty37]; refine hK _ ?_; clear hK K
     (repeat refine ZQ ?_); refine awp_ret ?_; refine And.intro (Or.inr rfl) ?_
     simp [retC, resC, viewC, mapO, hz]
    ·simp [hz] at hd
   ·rw [h1, h2] at hop hz
    simp only [Bool.true_and] at hop hz ⊢
    refine ZF (fn := Tryz.f50) [.tmp 8, .tmp 9] ⟨Tryz.func50, rfl, by kernel_rfl⟩ fun x hx hσ => ?_
    (repeat refine ZQ ?_); refine ZR fun K hK => ?_; simp (maxSteps := 1000000) [ty28, ty37, ty3]; refine hK _ ?_; clear hK K
    (repeat refine ZQ ?_); refine ZD [] [0, 1, 2, 3, 4, 5, 6, 7, 8, 9, 10, 11, 12, 13, 14, 15, 16, 17, 18] fun K hK => ?_; simp (maxSteps := 1000000) [ty28, ty3, ty4]
    refine ZE (isDay62 w day) ?_; simp (maxSteps := 1000000) [ty28, ty3, ty4, h1]
    refine ZE (isArea58 a) ?_; simp (maxSteps := 1000000) [ty28, ty3, ty4, h2]
    refine ZE (isCount59 s) ?_; simp (maxSteps := 1000000) [ty28, ty3, ty4]
    refine ZE (hop) ?_; simp (maxSteps := 1000000) [ty89]
    refine hK _ ?_; clear hK K
    (repeat refine ZQ ?_); refine ZR fun K hK => ?_; simp (maxSteps := 1000000) [ty37]; refine hK _ ?_; clear hK K
    (repeat refine ZQ ?_); refine ZC (hc := by simp [hz]; rfl) (fun hd => ?_) (fun hd => ?_)
    ·clear hd
     (repeat refine ZQ ?_); refine ZR fun K hK => ?_; simp (maxSteps := 1000000) [ty37]; refine hK _ ?_; clear hK K
     (repeat refine ZQ ?_); refine awp_ret ?_; refine And.intro (Or.inr rfl) ?_
     simp [retC, resC, viewC, mapO, hz]
    ·simp [hz] at hd

set_option maxHeartbeats 8000000

-- Doubt and Next

theorem on_ne_nil {c : Co} (h : canC c [] = true) {d : Nat} (hd : d ≤ c.last.toNat) : onC c d [] ≠ [] := by
 obtain ⟨p, hp⟩ := (can_nil c).1 h
 exact List.ne_nil_of_mem ((on_nil c d hd (p d)).2 ⟨p, hp, rfl⟩)

def doubtW (w : Ws) : Int := if openW w true = 0 then doubtC (co w (gl w)) [] else 0

theorem w_doubt25 (w : Ws) (hn : WsLen w) : Pure Tryz.prog 25 [encWs w] (.tup [encI (doubtW w), encI (openW w true)]) := by
 by_cases hz : openW w true = 0
 ·obtain ⟨hok, his, hcan⟩ := openW_ok hz
  have hop := open_yes hn hz
  have hco := doubt67 w (gl w) true true [] [] hok.num (by simp) fun d hd => on_ne_nil hcan hd
  simp only [rowsK_nil] at hco
  have hT : doubtW w = doubtC (co w (gl w)) [] := if_pos hz
  refine ZF (fn := Tryz.f25) [.tmp 2, .tmp 3] ⟨Tryz.func25, rfl, by kernel_rfl⟩ fun x hx hσ => ?_
  (repeat refine ZQ ?_); refine ZR fun K hK => ?_; simp (maxSteps := 1000000) [ty28, ty37]; refine hK _ ?_; clear hK K
  (repeat refine ZQ ?_); refine ZR fun K hK => ?_; simp (maxSteps := 1000000) [ty28, ty3]
  refine ZP (hop) ?_; simp (maxSteps := 1000000) [ty89]
  refine hK _ ?_; clear hK K
  (repeat refine ZQ ?_); refine ZR fun K hK => ?_; simp (maxSteps := 1000000) [ty37]; refine hK _ ?_; clear hK K
  (repeat refine ZQ ?_); refine ZC (fun hd => ?_) (fun hd => ?_)
  ·simp at hd
  ·clear hd
   refine awp_skip ?_
   (repeat refine ZQ ?_); refine ZR fun K hK => ?_; simp (maxSteps := 1000000) [ty89, ty3, ty87]
   refine ZP (hco) ?_; simp (maxSteps := 1000000) [ty3]
   refine hK _ ?_; clear hK K
   (repeat refine ZQ ?_); refine awp_ret ?_; refine And.intro (Or.inr rfl) ?_
   simp [retC, resC, viewC, mapO, hT, hz]
 ·have hop := open_no hn hz
  have hT : doubtW w = 0 := if_neg hz
  refine ZF (fn := Tryz.f25) [.tmp 2, .tmp 3] ⟨Tryz.func25, rfl, by kernel_rfl⟩ fun x hx hσ => ?_
  (repeat refine ZQ ?_); refine ZR fun K hK => ?_; simp (maxSteps := 1000000) [ty28, ty37]; refine hK _ ?_; clear hK K
  (repeat refine ZQ ?_); refine ZR fun K hK => ?_; simp (maxSteps := 1000000) [ty28, ty3]
  refine ZP (hop) ?_; simp (maxSteps := 1000000) [ty89]
  refine hK _ ?_; clear hK K
  (repeat refine ZQ ?_); refine ZR fun K hK => ?_; simp (maxSteps := 1000000) [ty37]; refine hK _ ?_; clear hK K
  (repeat refine ZQ ?_); refine ZC (hc := by simp [hz]; rfl) (fun hd => ?_) (fun hd => ?_)
  ·clear hd
   (repeat refine ZQ ?_); refine ZR fun K hK => ?_; simp (maxSteps := 1000000) [ty37]; refine hK _ ?_; clear hK K
   (repeat refine ZQ ?_); refine awp_ret ?_; refine And.intro (Or.inr rfl) ?_
   simp [retC, resC, viewC, mapO, hT]
  ·simp [hz] at hd

set_option maxHeartbeats 4000000

def isTrB (t : Ti) (k : Tr) : Bool := withinB k.area (-t.gain) t.gain && withinB k.skew (-t.w.skew) t.w.skew && t.ts.all (fun y => allowB t.w y k)

theorem q_check30 (t : Ti) (hn : TiLen t) : Pure Tryz.prog 78 [encTi t] (encI (checkT t)) := by
 have hlt := hn.ts
 refine ZF (fn := Tryz.f78) [.tmp 2] ⟨Tryz.func78, rfl, by kernel_rfl⟩ fun x hx hσ => ?_
 (repeat refine ZQ ?_); refine ZR fun K hK => ?_; simp (maxSteps := 1000000) [ty62]; refine hK _ ?_; clear hK K; (first | show AWP _ _ _ _ _ | show ∃ _, _ | skip)
 have c1 := q_within60 t.gain 0 50
 cases h1 : withinB t.gain 0 50
 ·rw [h1] at c1
  have hT : checkT t = 90 := by unfold checkT; rw [if_pos (.inl (by simpa [withinB] using h1))]
  (repeat refine ZQ ?_); refine ZR fun K hK => ?_; simp (maxSteps := 1000000) [ty62, ty3]
  refine ZP (c1) ?_; simp (maxSteps := 1000000)
  refine hK _ ?_; clear hK K
  (repeat refine ZQ ?_); refine ZC (fun hd => ?_) (fun hd => ?_)
  ·clear hd
   (repeat refine ZQ ?_); refine ZR fun K hK => ?_; simp (maxSteps := 1000000); refine hK _ ?_; clear hK K
   (repeat refine ZQ ?_); refine awp_ret ?_; refine And.intro (Or.inr rfl) ?_
   simp [retC, resC, viewC, mapO, hT]
  ·simp at hd
 ·rw [h1] at c1
  by_cases h6 : (6 : Int) < (t.ts.length : Int)
  ·have hT : checkT t = 90 := by unfold checkT; rw [if_pos (.inr (.inl (by omega)))]
   (repeat refine ZQ ?_); refine ZR fun K hK => ?_; simp (maxSteps := 1000000) [ty62, ty3]
   refine ZP (c1) ?_; simp (maxSteps := 1000000) [ty62, ty51, ty3, h6]
   refine hK _ ?_; clear hK K
   (repeat refine ZQ ?_); refine ZC (hc := by simp [h6]; rfl) (fun hd => ?_) (fun hd => ?_)
   ·clear hd
    (repeat refine ZQ ?_); refine ZR fun K hK => ?_; simp (maxSteps := 1000000); refine hK _ ?_; clear hK K
    (repeat refine ZQ ?_); refine awp_ret ?_; refine And.intro (Or.inr rfl) ?_
    simp [retC, resC, viewC, mapO, hT]
   ·simp [h6] at hd
  ·(repeat refine ZQ ?_); refine ZR fun K hK => ?_; simp (maxSteps := 1000000) [ty62, ty3]
   refine ZP (c1) ?_; simp (maxSteps := 1000000) [ty62, ty51, ty3, h6]
   refine hK _ ?_; clear hK K
   (repeat refine ZQ ?_); refine ZC (hc := by simp [h6]; rfl) (fun hd => ?_) (fun hd => ?_)
   ·simp [h6] at hd
   ·clear hd
    refine awp_skip ?_
    (repeat refine ZQ ?_); refine ZR fun K hK => ?_; simp (maxSteps := 1000000); refine hK _ ?_; clear hK K
    (repeat refine ZQ ?_); refine awp_block ?_
    refine awp_loop (fun i : Nat => ⟨ofL [(1, .ptr 1 10 0 0), (3, encI i)], stoT [(1, 1, .live (obTi t))]⟩)
     (fun i => i ≤ t.ts.length ∧ ∀ j, (h : j < t.ts.length) → j < i → areaB t.ts[j].area = true) (fun i => t.ts.length - i) 0 (by simp) ?_ ?_
    ·exact Zw
    ·intro i ⟨hi, hj⟩
     (repeat refine ZQ ?_); refine ZR fun K hK => ?_; simp (maxSteps := 1000000) [ty62, ty51, ty3]; refine hK _ ?_; clear hK K
     (repeat refine ZQ ?_); refine ZC (fun hc => ?_) (fun hc => ?_)
     ·simp at hc
      refine awp_skip ?_
      (repeat refine ZQ ?_); refine awp_block ?_
      have c2 := q_within60 t.ts[i].area 0 9000
      cases hb : areaB t.ts[i].area
      ·have hb' : withinB t.ts[i].area 0 9000 = false := by simpa [areaB, withinB] using hb
       rw [hb'] at c2
       (repeat refine ZQ ?_); refine ZR fun K hK => ?_; simp (maxSteps := 1000000) [ty62, ty51, ty119, ty3, hc]
       refine ZP (c2) ?_; simp (maxSteps := 1000000)
       refine hK _ ?_; clear hK K; (first | show AWP _ _ _ _ _ | show ∃ _, _ | skip)
       have hT : checkT t = 90 := by
        have hal : t.ts.all (fun x => areaB x.area) = false := by
         rw [List.all_eq_false]
         exact ⟨_, List.getElem_mem hc, by rw [hb]; decide⟩
        unfold checkT; rw [if_pos (.inr (.inr hal))]
       (repeat refine ZQ ?_); refine ZC (fun hd => ?_) (fun hd => ?_)
       ·clear hd
        (repeat refine ZQ ?_); refine ZR fun K hK => ?_; simp (maxSteps := 1000000); refine hK _ ?_; clear hK K
        (repeat refine ZQ ?_); refine awp_ret ?_; refine And.intro (Or.inr rfl) ?_
        simp [retC, resC, viewC, mapO, hT]
       ·simp at hd
      ·have hb' : withinB t.ts[i].area 0 9000 = true := by simpa [areaB, withinB] using hb
       rw [hb'] at c2
       (repeat refine ZQ ?_); refine ZR fun K hK => ?_; simp (maxSteps := 1000000) [ty62, ty51, ty119, ty3, hc]
       refine ZP (c2) ?_; simp (maxSteps := 1000000)
       refine hK _ ?_; clear hK K
       (repeat refine ZQ ?_); refine ZC (fun hd => ?_) (fun hd => ?_)
       ·simp at hd
       ·clear hd
        refine awp_skip ?_
        (repeat refine ZQ ?_); refine ZR fun K hK => ?_; simp (maxSteps := 1000000) [ty3]; refine hK _ ?_; clear hK K; (first | show AWP _ _ _ _ _ | show ∃ _, _ | skip)
        rw [wrap_id (by omega) (by omega)]
        refine ⟨i + 1, ⟨by omega, fun j h4 h5 => ?_⟩, by omega, ?_⟩
        ·by_cases e : j = i
         ·subst e; exact hb
         ·exact hj j h4 (by omega)
        ·exact Zw
     ·simp at hc
      (repeat refine ZQ ?_); refine awp_exit ?_; (first | show AWP _ _ _ _ _ | show ∃ _, _ | skip)
      have hal : t.ts.all (fun x => areaB x.area) = true := by
       rw [List.all_eq_true]
       intro y hy
       obtain ⟨j, h4, rfl⟩ := List.getElem_of_mem hy
       exact hj j h4 (by omega)
      have hT : checkT t = (if t.ts = [] then checkI t.w [] else checksI t.w t.ts) := by
       unfold checkT; rw [if_neg]
       rintro (h | h | h)
       ·have : withinB t.gain 0 50 = false := by simpa [withinB] using h
        rw [h1] at this; cases this
       ·omega
       ·rw [hal] at h; cases h
      (repeat refine ZQ ?_); refine ZR fun K hK => ?_; simp (maxSteps := 1000000); refine hK _ ?_; clear hK K
      (repeat refine ZQ ?_); refine awp_block ?_
      refine awp_loop (fun i : Nat => ⟨ofL [(1, .ptr 1 10 0 0), (4, encI i)], stoT [(1, 1, .live (obTi t))]⟩)
       (fun i => i ≤ t.ts.length ∧ ∀ j, (h : j < t.ts.length) → j < i → checkI t.w t.ts[j].l = 0) (fun i => t.ts.length - i) 0 (by simp) ?_ ?_
      ·exact Zw
      ·intro i ⟨hi, hj⟩
       (repeat refine ZQ ?_); refine ZR fun K hK => ?_; simp (maxSteps := 1000000) [ty62, ty51, ty3]; refine hK _ ?_; clear hK K
       (repeat refine ZQ ?_); refine ZC (fun hc => ?_) (fun hc => ?_)
       ·simp at hc
        refine awp_skip ?_
        (repeat refine ZQ ?_); refine awp_block ?_
        have h0 : t.ts ≠ [] := by intro e; rw [e] at hc; simp at hc
        (repeat refine ZQ ?_); refine ZD [] [0, 1, 2, 3, 4, 5, 6, 7, 8, 9] fun K hK => ?_; simp (maxSteps := 1000000) [ty62, ty25, ty51, ty119, ty117, hc]
        refine ZE (ref31 t.w t.ts[i].nl t.ts[i].fu t.ts[i].l (hn.l _ (List.getElem_mem hc))) ?_; simp (maxSteps := 1000000)
        refine hK _ ?_; clear hK K
        (repeat refine ZQ ?_); refine ZR fun K hK => ?_; simp (maxSteps := 1000000) [ty37]; refine hK _ ?_; clear hK K; (first | show AWP _ _ _ _ _ | show ∃ _, _ | skip)
        by_cases hz : checkI t.w t.ts[i].l = 0
        ·(repeat refine ZQ ?_); refine ZC (hc := by simp [hz]; rfl) (fun hd => ?_) (fun hd => ?_)
         ·simp at hd
         ·clear hd
          refine awp_skip ?_
          (repeat refine ZQ ?_); refine ZR fun K hK => ?_; simp (maxSteps := 1000000) [ty3]; refine hK _ ?_; clear hK K; (first | show AWP _ _ _ _ _ | show ∃ _, _ | skip)
          rw [wrap_id (by omega) (by omega)]
          refine ⟨i + 1, ⟨by omega, fun j h4 h5 => ?_⟩, by omega, ?_⟩
          ·by_cases e : j = i
           ·subst e; exact hz
           ·exact hj j h4 (by omega)
          ·exact Zw
        ·(repeat refine ZQ ?_); refine ZC (hc := by simp [hz]; rfl) (fun hd => ?_) (fun hd => ?_)
         ·clear hd
          (repeat refine ZQ ?_); refine ZR fun K hK => ?_; simp (maxSteps := 1000000); refine hK _ ?_; clear hK K
          (repeat refine ZQ ?_); refine awp_ret ?_; refine And.intro (Or.inr rfl) ?_
          simp [retC, resC, viewC, mapO, hT, h0, checksI_at hc hj hz]
         ·simp [hz] at hd
       ·simp at hc
        (repeat refine ZQ ?_); refine awp_exit ?_
        (repeat refine ZQ ?_); refine ZR fun K hK => ?_; simp (maxSteps := 1000000) [ty62, ty25]
        refine ZP (ref31 t.w true true [] (by simp)) ?_; simp (maxSteps := 1000000)
        refine hK _ ?_; clear hK K
        (repeat refine ZQ ?_); refine awp_ret ?_; refine And.intro (Or.inr rfl) ?_
        have hjj : ∀ j, (h : j < t.ts.length) → checkI t.w t.ts[j].l = 0 := fun j h => hj j h (by omega)
        by_cases h0 : t.ts = []
        ·simp [retC, resC, viewC, mapO, hT, h0]
        ·have hw0 : checkI t.w [] = 0 := by
          obtain ⟨y, hy⟩ := List.exists_mem_of_ne_nil _ h0
          obtain ⟨j, h4, rfl⟩ := List.getElem_of_mem hy
          have := wheelB_iff.2 (checkI_ok (hjj j h4)).1
          simp [checkI, this]
         simp [retC, resC, viewC, mapO, hT, h0, checksI_all hjj, hw0]

theorem testBit_all {n i : Nat} (h : i < n) : (2 ^ n - 1).testBit i = true := by
 rw [Nat.testBit_two_pow_sub_one]; simpa using h

theorem isTrB_okS {t : Ti} {k : Tr} (hk : k ∈ allT (gwT t)) : isTrB t k = okS t (allS t) k := by
 have h1 := allT_mem.1 hk
 have e1 : (gwT t).glow = -t.gain := rfl
 have e2 : (gwT t).ghigh = t.gain := rfl
 have e3 : (gwT t).skew = t.w.skew := rfl
 rw [e1, e2, e3] at h1
 have h2 : isTrB t k = t.ts.all (fun y => allowB t.w y k) := by
  unfold isTrB withinB
  simp [h1]
 rw [h2]
 cases hb : t.ts.all (fun y => allowB t.w y k)
 ·rw [List.all_eq_false] at hb
  obtain ⟨y, hy, hb⟩ := hb
  obtain ⟨j, h4, rfl⟩ := List.getElem_of_mem hy
  exact (okS_false h4 (testBit_all h4) (by simpa using hb)).symm
 ·rw [List.all_eq_true] at hb
  exact (okS_true fun i hi _ => hb _ (List.getElem_mem hi)).symm

theorem truths_filter (t : Ti) : (allT (gwT t)).filter (isTrB t) = truthsS t (allS t) :=
 List.filter_congr fun k hk => isTrB_okS hk

/-- The truths that are known. -/
def knownT (t : Ti) (is : Bool) : List Tr := if openT t is = 0 then truthsS t (allS t) else []

set_option maxHeartbeats 4000000

theorem truthsS_sorted (t : Ti) (n : Nat) : (truthsS t n).Pairwise fun a b => a.area ≤ b.area := (allT_sorted (gwT t)).filter _

theorem gains_nums (t : Ti) : areasR (knownT t true) = numsT Tr.area t true := by
 unfold knownT numsT
 split
 ·exact areasR_eq (truthsS_sorted t _)
 ·rfl

set_option maxHeartbeats 4000000

set_option maxHeartbeats 4000000

/-- The numbers are those of tests. -/
def InT (t : Ti) (l : List Int) : Prop := ∀ z ∈ l, 0 ≤ z ∧ z < t.ts.length

theorem InT.take {t : Ti} {l : List Int} (h : InT t l) (i : Nat) : InT t (l.take i) := fun z hz => h z (List.mem_of_mem_take hz)

@[simp] abbrev cTo (t : Ti) (c : C) : List C := [encI t.w.full, encI t.w.read, encI t.w.slip, encI t.w.skew, encI t.w.circle, encI t.w.glow, encI t.w.ghigh, encI t.w.wrong, encI t.gain, c]

set_option maxHeartbeats 4000000

/-- What a list of tests is like at a place. -/
def ListAt (n : Nat) (l : List Int) (i : Nat) (h : i < l.length) : Prop := (0 ≤ l[i] ∧ l[i] ≤ (n : Int) - 1) ∧ (∀ _ : 0 < i, l[i - 1] < l[i])
/-- The numbers are those of tests, strictly ascending. -/
def ListOk (n : Nat) (l : List Int) : Prop := ∀ i (h : i < l.length), ListAt n l i h

instance (n : Nat) (l : List Int) (i : Nat) (h : i < l.length) : Decidable (ListAt n l i h) := by unfold ListAt; exact inferInstance
instance (n : Nat) (l : List Int) : Decidable (ListOk n l) := by unfold ListOk; exact inferInstance

set_option maxHeartbeats 4000000

-- plain laws of sets and lists

theorem ListOk.lt {n : Nat} {l : List Int} (h : ListOk n l) : l.Pairwise (· < ·) := by
 refine List.pairwise_iff_getElem.2 fun i j hi hj hij => ?_
 obtain ⟨d, rfl⟩ : ∃ d, j = i + 1 + d := ⟨j - i - 1, by omega⟩
 clear hij
 induction d with
 | zero => exact (h (i + 1) hj).2 (by omega)
 | succ d ih =>
  have h1 := ih (by omega)
  have h2 := (h (i + 1 + (d + 1)) hj).2 (by omega)
  simp only [show i + 1 + (d + 1) - 1 = i + 1 + d by omega] at h2
  exact Int.lt_trans h1 h2

set_option maxHeartbeats 8000000

@[simp] abbrev slF (A : List Int) : C := .sl A.isEmpty false (A.map cI)
def rowsF (t : Ti) (S : List Nat) : List (List C) := S.map fun s => [slF (listS t s)]

@[simp] theorem rowsF_len (t : Ti) (S : List Nat) : (rowsF t S).length = S.length := by simp [rowsF]
@[simp] theorem rowsF_pure (t : Ti) (S : List Nat) : (rowsF t S).all purel = true := by simp [rowsF, purel, C.isPure]
set_option maxHeartbeats 8000000

set_option maxHeartbeats 8000000

def copyY (y : Ts) : Ts := { y with nl := false, fu := false }
/-- An equal trial in new memory. -/
def copyT (t : Ti) : Ti := { t with nl := t.ts.isEmpty, fu := false, ts := t.ts.map copyY }

theorem set_last {α : Type} (A : List α) (x y : α) {n : Nat} (h : n = A.length) : (A ++ [x]).set n y = A ++ [y] := by
 subst h
 rw [List.set_append_right _ _ (Nat.le_refl _)]
 simp

theorem q_copy10 (t : Ti) (hl : TiLen t) : Pure Tryz.prog 66 [encTi t] (encTi (copyT t)) := by
  have hlt := hl.ts
  obtain ⟨U, hU⟩ : ∃ U : Nat → List Ts, ∀ i, U i = (t.ts.take i).map copyY := ⟨_, fun _ => rfl⟩
  have hU0 : U 0 = [] := by rw [hU]; rfl
  have hUl : ∀ i, i ≤ t.ts.length → (U i).length = i := fun i hi => by rw [hU]; simp; omega
  have hUs : ∀ i (hi : i < t.ts.length), U (i + 1) = U i ++ [copyY t.ts[i]] := fun i hi => by rw [hU, hU, List.take_succ_eq_append_getElem hi, List.map_append]; rfl
  have hUn : t.ts.map copyY = U t.ts.length := by rw [hU, List.take_length]
  unfold copyT
  rw [hUn]
  clear hUn hU
  refine ZF (fn := Tryz.f66) [.cell 2 62] ⟨Tryz.func66, rfl, by kernel_rfl⟩ fun x hx hσ => ?_
  (repeat refine ZQ ?_); refine ZR fun K hK => ?_; simp (maxSteps := 1000000) [ty62]; refine hK _ ?_; clear hK K
  (repeat refine ZQ ?_); refine ZR fun K hK => ?_; simp (maxSteps := 1000000) [ty62]; refine hK _ ?_; clear hK K
  (repeat refine ZQ ?_); refine ZR fun K hK => ?_; simp (maxSteps := 1000000) [ty62, ty51]; refine hK _ ?_; clear hK K
  (repeat refine ZQ ?_); refine ZR fun K hK => ?_; simp (maxSteps := 1000000); refine hK _ ?_; clear hK K
  (repeat refine ZQ ?_); refine awp_block ?_
  refine AWP.weak ?_ (wk_nilCell 3 0 9 1000 2 (o := ⟨false, false, 10, [cTo t (.sl true true [])]⟩) (row := cTo t (.sl true true [])) (fu := true) (by simp) rfl rfl rfl (by simp) (by decide))
  refine awp_loop (fun i : Nat => ⟨ofL [(1, .ptr 1 10 0 0), (2, .ptr 2 10 0 0), (3, .ptr 3 10 0 0), (4, encI i)],
      stoT [(1, 1, .live (obTi t)), (2, 2, .live ⟨false, false, 10, [[encI 0, encI 0, encI 0, encI 0, encI 0, encI 0, encI 0, encI 0, encI 0, .sl true true []]]⟩), (3, 3, .live ⟨false, false, 10, [cTo t (.own 1000 2 0 i)]⟩), (1000, 1000, .live ⟨(U i).isEmpty, false, 2, (U i).map cTs⟩)]⟩)
    (fun i => i ≤ t.ts.length) (fun i => t.ts.length - i) 0 (by simp) ?_ ?_
  · refine wk_shape (shp0 hσ (by simp) (by simp) ?_) ?_
    · simp [SlotOk, hU0] <;> (repeat' (first | (refine RowsOk.same ?_; simp [purel, C.isPure]; done) | (refine rowsCons ?_; simp [mtl, mtc, mT, mH, C.isPure, purel]; done) | (refine rowsCons ?_; simp [mtl, mtc, mT, mH, C.isPure, purel]) | refine And.intro ?_ ?_))
    · simp [mtc, mtl, mT, C.isPure, purel, hU0] <;> (try simp (disch := omega) [wrap_id]) <;> (try omega)
  · intro i hi
    have hUi := hUl i hi
    (repeat refine ZQ ?_); refine ZR fun K hK => ?_; simp (maxSteps := 1000000) [ty62, ty51, ty3]; refine hK _ ?_; clear hK K
    (repeat refine ZQ ?_); refine ZC (fun hc => ?_) (fun hc => ?_)
    · simp at hc
      refine awp_skip ?_
      (repeat refine ZQ ?_); refine awp_block ?_
      have hst := hUs i hc
      have hln := hl.l _ (List.getElem_mem hc)
      obtain ⟨y, hy⟩ : ∃ y, y = t.ts[i] := ⟨_, rfl⟩
      generalize hV : U i = V at *
      have hwi : IntKind.i64.wrap ((i : Int) + 1) = ((i + 1 : Nat) : Int) := by rw [wrap_id (by omega) (by omega)]; rfl
      (repeat refine ZQ ?_); refine ZD [1001, 1003, 1007, 1010, 1014, 15, 17, 5018, 11000] [0, 1, 2, 3, 4, 5, 6, 7, 8, 9, 10, 11, 12, 13, 14, 15, 16, 17, 18, 19, 20] fun K hK => ?_; simp (maxSteps := 1000000) [ty62, ty51, ty3, ty119, ty117, ty121, hc, ← hy]
      refine ⟨⟨by rw [hy]; omega, by rw [hy]; omega⟩, ⟨by omega, by omega, by omega⟩, ?_⟩
      refine hK _ ?_; clear hK K; (first | show AWP _ _ _ _ _ | show ∃ _, _ | skip)
      rw [← hy] at hst
      refine AWP.weak ?_ (wk_frzCell 29 32 i 1 (o := ⟨y.l.isEmpty, true, 5, y.l.map cWl⟩) (oq := ⟨false, false, 2, V.map cTs ++ [[encI y.area, .own 29 5 0 y.l.length]]⟩) (row := [encI y.area, .own 29 5 0 y.l.length]) (c := .own 29 5 0 y.l.length) (c' := sWl false false y.l) (by simp) (by simp [purel, C.isPure]) (by simp) (by decide) rfl
        (by show (V.map cTs ++ [[encI y.area, .own 29 5 0 y.l.length]])[i]? = _
            rw [List.getElem?_append_right (by simp; omega)]
            simp [hUi]) rfl (by
        have := fz_own (k := 29) (sz := 5) (n := y.l.length) (b := false) (o := ⟨y.l.isEmpty, true, 5, y.l.map cWl⟩) rfl (by simp) (by simp)
        simpa using this) rfl)
      have hset : (V.map cTs ++ [[encI y.area, .own 29 5 0 y.l.length]]).set i [encI y.area, sWl false false y.l] = (V ++ [copyY y]).map cTs := by
        rw [set_last _ _ _ (by simp [hUi])]
        simp [copyY]
      simp only [List.set_cons_succ, List.set_cons_zero]
      rw [hset]
      (repeat refine ZQ ?_); refine ZR fun K hK => ?_; simp (maxSteps := 1000000) [ty3]; refine hK _ ?_; clear hK K; (first | show AWP _ _ _ _ _ | show ∃ _, _ | skip)
      refine ⟨i + 1, by omega, by omega, ?_⟩
      rw [hst, hwi]
      refine wk_shape2 [(1, 1, .live (obTi t)), (2, 2, .live ⟨false, false, 10, [[encI 0, encI 0, encI 0, encI 0, encI 0, encI 0, encI 0, encI 0, encI 0, .sl true true []]]⟩), (3, 3, .live ⟨false, false, 10, [cTo t (.own 1000 2 0 (i + 1))]⟩), (1000, 32, .live ⟨(V ++ [copyY y]).isEmpty, false, 2, (V ++ [copyY y]).map cTs⟩)] (by first | rfl | (simp only [if_pos, if_true]; rfl)) (shp0 hσ (by simp) (by simp) ?_) ?_
      · simp [SlotOk] <;> (repeat' (first | (refine RowsOk.same ?_; simp [purel, C.isPure]; done) | (refine rowsCons ?_; simp [mtl, mtc, mT, mH, C.isPure, purel]; done) | (refine rowsCons ?_; simp [mtl, mtc, mT, mH, C.isPure, purel]) | refine And.intro ?_ ?_))
      · simp [mtc, mtl, mT, C.isPure, purel] <;> (try simp (disch := omega) [wrap_id]) <;> (try omega)
    · simp at hc
      (repeat refine ZQ ?_); refine awp_exit ?_; (first | show AWP _ _ _ _ _ | show ∃ _, _ | skip)
      have hin : i = t.ts.length := by omega
      rw [hin] at hUi ⊢
      have hem : (U t.ts.length).isEmpty = t.ts.isEmpty := by
        cases h1 : U t.ts.length <;> cases h2 : t.ts <;> rw [h1, h2] at hUi <;> simp at hUi <;> rfl
      generalize U t.ts.length = V at *
      rw [hem]
      refine AWP.weak ?_ (wk_frzCell 1000 3 0 9 (o := ⟨t.ts.isEmpty, false, 2, V.map cTs⟩) (oq := ⟨false, false, 10, [cTo t (.own 1000 2 0 t.ts.length)]⟩) (row := cTo t (.own 1000 2 0 t.ts.length)) (c := .own 1000 2 0 t.ts.length) (c' := sTs t.ts.isEmpty false V) (by simp) (by simp [purel, C.isPure]) (by simp) (by decide) rfl rfl rfl (fz_own rfl (by simp [hUi]) (by simp)) rfl)
      (repeat refine ZQ ?_); refine ZR fun K hK => ?_; simp (maxSteps := 1000000) [ty62]; refine hK _ ?_; clear hK K
      (repeat refine ZQ ?_); refine awp_ret ?_; refine And.intro (Or.inr rfl) ?_
      simp [retC, resC, viewC, mapO, ty62]

set_option maxHeartbeats 4000000

set_option maxHeartbeats 4000000

set_option maxHeartbeats 4000000

set_option maxHeartbeats 4000000

theorem fe23 : flatEq Tryz.prog 23 = some [.i64, .i64] := by kernel_rfl

theorem same29 (a1 a2 b1 b2 : Bool) (A B : List Int) (hn : A.length ≤ 1000000) (hm : B.length ≤ 1000000) : Pure Tryz.prog 38 [.sl a1 a2 (A.map cI), .sl b1 b2 (B.map cI)] (.bool (decide (A = B))) := by
 refine ZF (fn := Tryz.f38) [.tmp 4] ⟨Tryz.func38, rfl, by kernel_rfl⟩ fun x hx hσ => ?_
 (repeat refine ZQ ?_); refine ZR fun K hK => ?_; simp (maxSteps := 1000000); refine hK _ ?_; clear hK K; (first | show AWP _ _ _ _ _ | show ∃ _, _ | skip)
 by_cases hl : A.length = B.length
 ·(repeat refine ZQ ?_); refine ZR fun K hK => ?_; simp (maxSteps := 1000000) [ty29, ty3, hl]; refine hK _ ?_; clear hK K
  (repeat refine ZQ ?_); refine ZC (hc := by simp [hl]; rfl) (fun hd => ?_) (fun hd => ?_)
  ·simp at hd
  ·clear hd
   refine awp_skip ?_
   (repeat refine ZQ ?_); refine ZR fun K hK => ?_; simp (maxSteps := 1000000); refine hK _ ?_; clear hK K
   (repeat refine ZQ ?_); refine awp_block ?_
   refine awp_loop (fun i : Nat => ⟨ofL [(0, .sl a1 a2 (A.map cI)), (1, .sl b1 b2 (B.map cI)), (5, encI i)], stoT []⟩)
    (fun i => i ≤ A.length ∧ ∀ j (h1 : j < A.length) (h2 : j < B.length), j < i → A[j] = B[j]) (fun i => A.length - i) 0 ⟨Nat.zero_le _, fun j _ _ h => by omega⟩ ?_ ?_
   ·exact Zw
   ·rintro i ⟨hi, hj⟩
    (repeat refine ZQ ?_); refine ZR fun K hK => ?_; simp (maxSteps := 1000000) [ty29, ty3]; refine hK _ ?_; clear hK K
    (repeat refine ZQ ?_); refine ZC (fun hc => ?_) (fun hc => ?_)
    ·simp at hc
     have hcB : i < B.length := by omega
     refine awp_skip ?_
     (repeat refine ZQ ?_); refine awp_block ?_
     (repeat refine ZQ ?_); refine ZD [] [0, 1, 2, 3, 4, 5, 6, 7, 8] fun K hK => ?_; simp (maxSteps := 1000000) [ty29, ty3, hc, hcB]; refine hK _ ?_; clear hK K; (first | show AWP _ _ _ _ _ | show ∃ _, _ | skip)
     by_cases hb : A[i] = B[i]
     ·(repeat refine ZQ ?_); refine ZC (hc := by simp [hb]; rfl) (fun hd => ?_) (fun hd => ?_)
      ·simp [hb] at hd
      ·clear hd
       refine awp_skip ?_
       (repeat refine ZQ ?_); refine ZR fun K hK => ?_; simp (maxSteps := 1000000) [ty3]; refine hK _ ?_; clear hK K; (first | show AWP _ _ _ _ _ | show ∃ _, _ | skip)
       rw [wrap_id (by omega) (by omega)]
       refine ⟨i + 1, ⟨by omega, fun j h1 h2 h => ?_⟩, by omega, ?_⟩
       ·by_cases e : j = i
        ·subst e; exact hb
        ·exact hj j h1 h2 (by omega)
       ·exact Zw
     ·(repeat refine ZQ ?_); refine ZC (hc := by simp [hb]; rfl) (fun hd => ?_) (fun hd => ?_)
      ·clear hd
       (repeat refine ZQ ?_); refine ZR fun K hK => ?_; simp (maxSteps := 1000000); refine hK _ ?_; clear hK K
       (repeat refine ZQ ?_); refine awp_ret ?_; refine And.intro (Or.inr rfl) ?_
       have : decide (A = B) = false := by
        rw [decide_eq_false_iff_not]
        rintro rfl
        exact hb rfl
       rw [this]
       simp [retC, resC, viewC, mapO]
      ·simp [hb] at hd
    ·simp at hc
     (repeat refine ZQ ?_); refine awp_exit ?_; (first | show AWP _ _ _ _ _ | show ∃ _, _ | skip)
     have : decide (A = B) = true := by
      rw [decide_eq_true_eq]
      exact List.ext_getElem hl fun j h1 h2 => hj j h1 h2 (by omega)
     rw [this]
     (repeat refine ZQ ?_); refine ZR fun K hK => ?_; simp (maxSteps := 1000000); refine hK _ ?_; clear hK K
     (repeat refine ZQ ?_); refine awp_ret ?_; refine And.intro (Or.inr rfl) ?_
     simp [retC, resC, viewC, mapO]
 ·have : decide (A = B) = false := by
   rw [decide_eq_false_iff_not]
   rintro rfl
   exact hl rfl
  rw [this]
  (repeat refine ZQ ?_); refine ZR fun K hK => ?_; simp (maxSteps := 1000000) [ty29, ty3, hl]; refine hK _ ?_; clear hK K
  (repeat refine ZQ ?_); refine ZC (hc := by simp [hl]; rfl) (fun hd => ?_) (fun hd => ?_)
  ·clear hd
   (repeat refine ZQ ?_); refine ZR fun K hK => ?_; simp (maxSteps := 1000000); refine hK _ ?_; clear hK K
   (repeat refine ZQ ?_); refine awp_ret ?_; refine And.intro (Or.inr rfl) ?_
   simp [retC, resC, viewC, mapO]
  ·simp at hd
   exact absurd (by omega) hl

set_option maxHeartbeats 4000000

def wX : Wh := ⟨100, 0, 0, 2, 0, 40, 60, 0⟩
def yA : Wl := ⟨1, 1, 0, 10, 62⟩
def yB : Wl := ⟨1, -1, 0, 62, 16⟩

theorem example48 : Pure Tryz.prog 96 [] (.tup [encWh wX, sWl false true [yA, yB]]) := by
 refine ZF (fn := Tryz.f96) [.cell 0 25, .tmp 1] ⟨Tryz.func96, rfl, by kernel_rfl⟩ fun x hx hσ => ?_
 (repeat refine ZQ ?_); refine ZR fun K hK => ?_; simp (maxSteps := 1000000) [ty25]; refine hK _ ?_; clear hK K
 (repeat refine ZQ ?_); refine ZR fun K hK => ?_; simp (maxSteps := 1000000) [ty25, ty23, ty121, ty117]; refine hK _ ?_; clear hK K
 (repeat refine ZQ ?_); refine awp_ret ?_; refine And.intro (Or.inr rfl) ?_
 simp [retC, resC, viewC, mapO, ty25, wX, yA, yB]

set_option maxHeartbeats 8000000

-- what the laws use: the example, what is far, what is the same

set_option maxHeartbeats 8000000

theorem least_ex {p : Nat → Prop} (h : ∃ n, p n) : ∃ n, p n ∧ ∀ m, m < n → ¬ p m := by
 obtain ⟨n, hn⟩ := h
 induction n using Nat.strongRecOn with
 | ind n ih =>
  by_cases g : ∃ m, m < n ∧ p m
  ·obtain ⟨m, hm, hp⟩ := g
   exact ih m hm hp
  ·exact ⟨n, hn, fun m hm hp => g ⟨m, hm, hp⟩⟩

def mxTo (l : List Ts) : Nat → Int
 | 0 => 0
 | i + 1 => let m := mxTo l i; let n : Int := match l[i]? with | some y => y.l.length | none => 0; if m < n then n else m

theorem mxTo_step {l : List Ts} {i : Nat} (hi : i < l.length) : mxTo l (i + 1) = if mxTo l i < (l[i].l.length : Int) then (l[i].l.length : Int) else mxTo l i := by
 simp only [mxTo, List.getElem?_eq_getElem hi]
theorem mxTo_bd {l : List Ts} (h : ∀ j (hj : j < l.length), l[j].l.length ≤ 20) : ∀ i, 0 ≤ mxTo l i ∧ mxTo l i ≤ 20
 | 0 => by simp [mxTo]
 | i + 1 => by
  have ih := mxTo_bd h i
  by_cases hi : i < l.length
  ·have := h i hi
   rw [mxTo_step hi]
   split <;> omega
  ·simp only [mxTo, List.getElem?_eq_none (by omega : l.length ≤ i)]
   split <;> omega


/-- What is far enough. -/
def NearT (t : Ti) : Prop := t.ts.length ≤ 20 ∧ ∀ y ∈ t.ts, y.l.length ≤ 20

theorem far8 (t : Ti) : ∃ b, Pure Tryz.prog 73 [encTi t] (.bool b) ∧ (b = false → NearT t) := by
 by_cases h20 : (20 : Int) < t.ts.length
 ·refine ⟨true, ?_, by simp⟩
  refine ZF (fn := Tryz.f73) [.tmp 2] ⟨Tryz.func73, rfl, by kernel_rfl⟩ fun x hx hσ => ?_
  (repeat refine ZQ ?_); refine ZR fun K hK => ?_; simp (maxSteps := 1000000) [ty62]; refine hK _ ?_; clear hK K
  (repeat refine ZQ ?_); refine ZR fun K hK => ?_; simp (maxSteps := 1000000) [ty62, ty51, ty3, h20]; refine hK _ ?_; clear hK K
  (repeat refine ZQ ?_); refine ZC (hc := by simp [h20]; rfl) (fun hd => ?_) (fun hd => ?_)
  ·clear hd
   (repeat refine ZQ ?_); refine ZR fun K hK => ?_; simp (maxSteps := 1000000); refine hK _ ?_; clear hK K
   (repeat refine ZQ ?_); refine awp_ret ?_; refine And.intro (Or.inr rfl) ?_
   simp [retC, resC, viewC, mapO]
  ·simp at hd
 ·by_cases hall : ∀ j (hj : j < t.ts.length), t.ts[j].l.length ≤ 20
  ·have hl : TiLen t := ⟨by omega, fun y hy => by
    obtain ⟨j, hj, rfl⟩ := List.getElem_of_mem hy
    have := hall j hj; omega⟩
   have hnear : NearT t := ⟨by omega, fun y hy => by
    obtain ⟨j, hj, rfl⟩ := List.getElem_of_mem hy
    exact hall j hj⟩
   have hmb := mxTo_bd hall
   obtain ⟨M, hM⟩ : ∃ M, (if (if t.w.read < t.w.slip then t.w.slip else t.w.read) < t.w.skew then t.w.skew else if t.w.read < t.w.slip then t.w.slip else t.w.read) = M := ⟨_, rfl⟩
   by_cases hz : checkT t = 0
   ·refine ⟨decide (2 < M) || decide (120 < t.w.full) || decide (6 < t.gain) || decide (4 < (t.ts.length : Int)) || decide (2 < mxTo t.ts t.ts.length), ?_, fun _ => hnear⟩
    refine ZF (fn := Tryz.f73) [.tmp 2] ⟨Tryz.func73, rfl, by kernel_rfl⟩ fun x hx hσ => ?_
    (repeat refine ZQ ?_); refine ZR fun K hK => ?_; simp (maxSteps := 1000000) [ty62]; refine hK _ ?_; clear hK K
    (repeat refine ZQ ?_); refine ZR fun K hK => ?_; simp (maxSteps := 1000000) [ty62, ty51, ty3, h20]; refine hK _ ?_; clear hK K
    (repeat refine ZQ ?_); refine ZC (hc := by simp [h20]; rfl) (fun hd => ?_) (fun hd => ?_)
    ·simp at hd
    ·clear hd
     refine awp_skip ?_
     (repeat refine ZQ ?_); refine ZR fun K hK => ?_; simp (maxSteps := 1000000); refine hK _ ?_; clear hK K
     (repeat refine ZQ ?_); refine ZR fun K hK => ?_; simp (maxSteps := 1000000); refine hK _ ?_; clear hK K
     (repeat refine ZQ ?_); refine awp_block ?_
     refine awp_loop (fun i : Nat => ⟨ofL [(1, .ptr 1 10 0 0), (3, encI (mxTo t.ts i)), (4, encI i)], stoT [(1, 1, .live (obTi t))]⟩)
      (fun i => i ≤ t.ts.length) (fun i => t.ts.length - i) 0 (Nat.zero_le _) ?_ ?_
     ·refine wk_shape (shp0 hσ (by simp) (by simp) ?_) ?_
      ·simp [SlotOk, mxTo] <;> (repeat' (first | (refine RowsOk.same ?_; simp [purel, C.isPure]; done) | (refine rowsCons ?_; simp [mtl, mtc, mT, mH, C.isPure, purel]; done) | (refine rowsCons ?_; simp [mtl, mtc, mT, mH, C.isPure, purel]) | refine And.intro ?_ ?_))
      ·simp [mtc, mtl, mT, C.isPure, purel, mxTo] <;> (try simp (disch := omega) [wrap_id]) <;> (try omega)
     ·intro i hi
      (repeat refine ZQ ?_); refine ZR fun K hK => ?_; simp (maxSteps := 1000000) [ty62, ty51, ty3]; refine hK _ ?_; clear hK K
      (repeat refine ZQ ?_); refine ZC (fun hc => ?_) (fun hc => ?_)
      ·simp at hc
       refine awp_skip ?_
       (repeat refine ZQ ?_); refine awp_block ?_
       have hst := mxTo_step hc
       have hx20 : ¬ (20 : Int) < (t.ts[i].l.length : Int) := by have := hall i hc; omega
       have hwi : IntKind.i64.wrap ((i : Int) + 1) = ((i + 1 : Nat) : Int) := by rw [wrap_id (by omega) (by omega)]; rfl
       (repeat refine ZQ ?_); refine ZR fun K hK => ?_; simp (maxSteps := 1000000) [ty62, ty51, ty119, ty117, ty3, hc, hx20]; refine hK _ ?_; clear hK K
       (repeat refine ZQ ?_); refine ZC (hc := by simp [hx20]; rfl) (fun hd => ?_) (fun hd => ?_)
       ·simp [hx20] at hd
       ·clear hd
        refine awp_skip ?_
        (repeat refine ZQ ?_); refine ZR fun K hK => ?_; simp (maxSteps := 1000000) [ty62, ty51, ty119, ty117, ty3, hc]; refine hK _ ?_; clear hK K
        (repeat refine ZQ ?_); refine ZR fun K hK => ?_; simp (maxSteps := 1000000) [ty3]; refine hK _ ?_; clear hK K; (first | show AWP _ _ _ _ _ | show ∃ _, _ | skip)
        refine ⟨i + 1, by omega, by omega, ?_⟩
        rw [hst, hwi]
        exact ZW
      ·simp at hc
       (repeat refine ZQ ?_); refine awp_exit ?_; (first | show AWP _ _ _ _ _ | show ∃ _, _ | skip)
       have hin : i = t.ts.length := by omega
       rw [hin]
       generalize mxTo t.ts t.ts.length = X at *
       by_cases h1 : 2 < M
       ·(repeat refine ZQ ?_); refine ZR fun K hK => ?_; simp (maxSteps := 1000000) [ty62]
        refine ZP (q_check30 t hl) ?_; simp (maxSteps := 1000000) [ty37, hz, ty3, ty62, ty25, ty51, hM, h1]
        refine hK _ ?_; clear hK K
        (repeat refine ZQ ?_); refine awp_ret ?_; refine And.intro (Or.inr rfl) ?_
        simp [retC, resC, viewC, mapO, h1]
       ·by_cases h2 : 120 < t.w.full
        ·(repeat refine ZQ ?_); refine ZR fun K hK => ?_; simp (maxSteps := 1000000) [ty62]
         refine ZP (q_check30 t hl) ?_; simp (maxSteps := 1000000) [ty37, hz, ty3, ty62, ty25, ty51, hM, h1, h2]
         refine hK _ ?_; clear hK K
         (repeat refine ZQ ?_); refine awp_ret ?_; refine And.intro (Or.inr rfl) ?_
         simp [retC, resC, viewC, mapO, h1, h2]
        ·by_cases h3 : 6 < t.gain
         ·(repeat refine ZQ ?_); refine ZR fun K hK => ?_; simp (maxSteps := 1000000) [ty62]
          refine ZP (q_check30 t hl) ?_; simp (maxSteps := 1000000) [ty37, hz, ty3, ty62, ty25, ty51, hM, h1, h2, h3]
          refine hK _ ?_; clear hK K
          (repeat refine ZQ ?_); refine awp_ret ?_; refine And.intro (Or.inr rfl) ?_
          simp [retC, resC, viewC, mapO, h1, h2, h3]
         ·by_cases h4 : (4 : Int) < (t.ts.length : Int)
          ·(repeat refine ZQ ?_); refine ZR fun K hK => ?_; simp (maxSteps := 1000000) [ty62]
           refine ZP (q_check30 t hl) ?_; simp (maxSteps := 1000000) [ty37, hz, ty3, ty62, ty25, ty51, hM, h1, h2, h3, h4]
           refine hK _ ?_; clear hK K
           (repeat refine ZQ ?_); refine awp_ret ?_; refine And.intro (Or.inr rfl) ?_
           simp [retC, resC, viewC, mapO, h1, h2, h3, h4]
          ·by_cases h5 : 2 < X
           ·(repeat refine ZQ ?_); refine ZR fun K hK => ?_; simp (maxSteps := 1000000) [ty62]
            refine ZP (q_check30 t hl) ?_; simp (maxSteps := 1000000) [ty37, hz, ty3, ty62, ty25, ty51, hM, h1, h2, h3, h4, h5]
            refine hK _ ?_; clear hK K
            (repeat refine ZQ ?_); refine awp_ret ?_; refine And.intro (Or.inr rfl) ?_
            simp [retC, resC, viewC, mapO, h1, h2, h3, h4, h5]
           ·(repeat refine ZQ ?_); refine ZR fun K hK => ?_; simp (maxSteps := 1000000) [ty62]
            refine ZP (q_check30 t hl) ?_; simp (maxSteps := 1000000) [ty37, hz, ty3, ty62, ty25, ty51, hM, h1, h2, h3, h4, h5]
            refine hK _ ?_; clear hK K
            (repeat refine ZQ ?_); refine awp_ret ?_; refine And.intro (Or.inr rfl) ?_
            simp [retC, resC, viewC, mapO, h1, h2, h3, h4, h5]
   ·refine ⟨false, ?_, fun _ => hnear⟩
    have hz' : (checkT t == 0) = false := by simpa using hz
    refine ZF (fn := Tryz.f73) [.tmp 2] ⟨Tryz.func73, rfl, by kernel_rfl⟩ fun x hx hσ => ?_
    (repeat refine ZQ ?_); refine ZR fun K hK => ?_; simp (maxSteps := 1000000) [ty62]; refine hK _ ?_; clear hK K
    (repeat refine ZQ ?_); refine ZR fun K hK => ?_; simp (maxSteps := 1000000) [ty62, ty51, ty3, h20]; refine hK _ ?_; clear hK K
    (repeat refine ZQ ?_); refine ZC (hc := by simp [h20]; rfl) (fun hd => ?_) (fun hd => ?_)
    ·simp at hd
    ·clear hd
     refine awp_skip ?_
     (repeat refine ZQ ?_); refine ZR fun K hK => ?_; simp (maxSteps := 1000000); refine hK _ ?_; clear hK K
     (repeat refine ZQ ?_); refine ZR fun K hK => ?_; simp (maxSteps := 1000000); refine hK _ ?_; clear hK K
     (repeat refine ZQ ?_); refine awp_block ?_
     refine awp_loop (fun i : Nat => ⟨ofL [(1, .ptr 1 10 0 0), (3, encI (mxTo t.ts i)), (4, encI i)], stoT [(1, 1, .live (obTi t))]⟩)
      (fun i => i ≤ t.ts.length) (fun i => t.ts.length - i) 0 (Nat.zero_le _) ?_ ?_
     ·refine wk_shape (shp0 hσ (by simp) (by simp) ?_) ?_
      ·simp [SlotOk, mxTo] <;> (repeat' (first | (refine RowsOk.same ?_; simp [purel, C.isPure]; done) | (refine rowsCons ?_; simp [mtl, mtc, mT, mH, C.isPure, purel]; done) | (refine rowsCons ?_; simp [mtl, mtc, mT, mH, C.isPure, purel]) | refine And.intro ?_ ?_))
      ·simp [mtc, mtl, mT, C.isPure, purel, mxTo] <;> (try simp (disch := omega) [wrap_id]) <;> (try omega)
     ·intro i hi
      (repeat refine ZQ ?_); refine ZR fun K hK => ?_; simp (maxSteps := 1000000) [ty62, ty51, ty3]; refine hK _ ?_; clear hK K
      (repeat refine ZQ ?_); refine ZC (fun hc => ?_) (fun hc => ?_)
      ·simp at hc
       refine awp_skip ?_
       (repeat refine ZQ ?_); refine awp_block ?_
       have hst := mxTo_step hc
       have hx20 : ¬ (20 : Int) < (t.ts[i].l.length : Int) := by have := hall i hc; omega
       have hwi : IntKind.i64.wrap ((i : Int) + 1) = ((i + 1 : Nat) : Int) := by rw [wrap_id (by omega) (by omega)]; rfl
       (repeat refine ZQ ?_); refine ZR fun K hK => ?_; simp (maxSteps := 1000000) [ty62, ty51, ty119, ty117, ty3, hc, hx20]; refine hK _ ?_; clear hK K
       (repeat refine ZQ ?_); refine ZC (hc := by simp [hx20]; rfl) (fun hd => ?_) (fun hd => ?_)
       ·simp [hx20] at hd
       ·clear hd
        refine awp_skip ?_
        (repeat refine ZQ ?_); refine ZR fun K hK => ?_; simp (maxSteps := 1000000) [ty62, ty51, ty119, ty117, ty3, hc]; refine hK _ ?_; clear hK K
        (repeat refine ZQ ?_); refine ZR fun K hK => ?_; simp (maxSteps := 1000000) [ty3]; refine hK _ ?_; clear hK K; (first | show AWP _ _ _ _ _ | show ∃ _, _ | skip)
        refine ⟨i + 1, by omega, by omega, ?_⟩
        rw [hst, hwi]
        exact ZW
      ·simp at hc
       (repeat refine ZQ ?_); refine awp_exit ?_
       (repeat refine ZQ ?_); refine ZR fun K hK => ?_; simp (maxSteps := 1000000) [ty62]
       refine ZP (q_check30 t hl) ?_; simp (maxSteps := 1000000) [ty37, hz', ty3, ty62]
       refine hK _ ?_; clear hK K
       (repeat refine ZQ ?_); refine awp_ret ?_; refine And.intro (Or.inr rfl) ?_
       simp [retC, resC, viewC, mapO]
  ·refine ⟨true, ?_, by simp⟩
   obtain ⟨J, hJ, hJl, hJm⟩ : ∃ J, ∃ hJ : J < t.ts.length, 20 < t.ts[J].l.length ∧ ∀ j (hj : j < t.ts.length), j < J → t.ts[j].l.length ≤ 20 := by
    have hex : ∃ J, ∃ hJ : J < t.ts.length, 20 < t.ts[J].l.length := by
     refine Classical.byContradiction fun h => hall fun j hj => ?_
     exact Classical.byContradiction fun g => h ⟨j, hj, by omega⟩
    obtain ⟨J, ⟨hJ, hJ20⟩, hmin⟩ := least_ex hex
    refine ⟨J, hJ, hJ20, fun j hj hlt => ?_⟩
    exact Classical.byContradiction fun g => hmin j hlt ⟨hj, by omega⟩
   refine ZF (fn := Tryz.f73) [.tmp 2] ⟨Tryz.func73, rfl, by kernel_rfl⟩ fun x hx hσ => ?_
   (repeat refine ZQ ?_); refine ZR fun K hK => ?_; simp (maxSteps := 1000000) [ty62]; refine hK _ ?_; clear hK K
   (repeat refine ZQ ?_); refine ZR fun K hK => ?_; simp (maxSteps := 1000000) [ty62, ty51, ty3, h20]; refine hK _ ?_; clear hK K
   (repeat refine ZQ ?_); refine ZC (hc := by simp [h20]; rfl) (fun hd => ?_) (fun hd => ?_)
   ·simp at hd
   ·clear hd
    refine awp_skip ?_
    (repeat refine ZQ ?_); refine ZR fun K hK => ?_; simp (maxSteps := 1000000); refine hK _ ?_; clear hK K
    (repeat refine ZQ ?_); refine ZR fun K hK => ?_; simp (maxSteps := 1000000); refine hK _ ?_; clear hK K
    (repeat refine ZQ ?_); refine awp_block ?_
    refine awp_loop (fun i : Nat => ⟨ofL [(1, .ptr 1 10 0 0), (3, encI (mxTo t.ts i)), (4, encI i)], stoT [(1, 1, .live (obTi t))]⟩)
     (fun i => i ≤ J) (fun i => J - i) 0 (Nat.zero_le _) ?_ ?_
    ·refine wk_shape (shp0 hσ (by simp) (by simp) ?_) ?_
     ·simp [SlotOk, mxTo] <;> (repeat' (first | (refine RowsOk.same ?_; simp [purel, C.isPure]; done) | (refine rowsCons ?_; simp [mtl, mtc, mT, mH, C.isPure, purel]; done) | (refine rowsCons ?_; simp [mtl, mtc, mT, mH, C.isPure, purel]) | refine And.intro ?_ ?_))
     ·simp [mtc, mtl, mT, C.isPure, purel, mxTo] <;> (try simp (disch := omega) [wrap_id]) <;> (try omega)
    ·intro i hi
     have hc : i < t.ts.length := by omega
     (repeat refine ZQ ?_); refine ZR fun K hK => ?_; simp (maxSteps := 1000000) [ty62, ty51, ty3, hc]; refine hK _ ?_; clear hK K
     (repeat refine ZQ ?_); refine ZC (fun hd => ?_) (fun hd => ?_)
     ·refine awp_skip ?_
      (repeat refine ZQ ?_); refine awp_block ?_
      by_cases hiJ : i = J
      ·have hx20 : (20 : Int) < (t.ts[i].l.length : Int) := by subst hiJ; omega
       (repeat refine ZQ ?_); refine ZR fun K hK => ?_; simp (maxSteps := 1000000) [ty62, ty51, ty119, ty117, ty3, hc, hx20]; refine hK _ ?_; clear hK K
       (repeat refine ZQ ?_); refine ZC (hc := by simp [hx20]; rfl) (fun hd => ?_) (fun hd => ?_)
       ·clear hd
        (repeat refine ZQ ?_); refine ZR fun K hK => ?_; simp (maxSteps := 1000000); refine hK _ ?_; clear hK K
        (repeat refine ZQ ?_); refine awp_ret ?_; refine And.intro (Or.inr rfl) ?_
        simp [retC, resC, viewC, mapO]
       ·simp [hx20] at hd
      ·have hst := mxTo_step hc
       have hx20 : ¬ (20 : Int) < (t.ts[i].l.length : Int) := by have := hJm i hc (by omega); omega
       have hwi : IntKind.i64.wrap ((i : Int) + 1) = ((i + 1 : Nat) : Int) := by rw [wrap_id (by omega) (by omega)]; rfl
       (repeat refine ZQ ?_); refine ZR fun K hK => ?_; simp (maxSteps := 1000000) [ty62, ty51, ty119, ty117, ty3, hc, hx20]; refine hK _ ?_; clear hK K
       (repeat refine ZQ ?_); refine ZC (hc := by simp [hx20]; rfl) (fun hd => ?_) (fun hd => ?_)
       ·simp [hx20] at hd
       ·clear hd
        refine awp_skip ?_
        (repeat refine ZQ ?_); refine ZR fun K hK => ?_; simp (maxSteps := 1000000) [ty62, ty51, ty119, ty117, ty3, hc]; refine hK _ ?_; clear hK K
        (repeat refine ZQ ?_); refine ZR fun K hK => ?_; simp (maxSteps := 1000000) [ty3]; refine hK _ ?_; clear hK K; (first | show AWP _ _ _ _ _ | show ∃ _, _ | skip)
        refine ⟨i + 1, by omega, by omega, ?_⟩
        rw [hst, hwi]
        exact ZW
     ·exact absurd hd (by simp [hc])

theorem NearT.len {t : Ti} (h : NearT t) : TiLen t := ⟨by have := h.1; omega, fun y hy => by have := h.2 y hy; omega⟩

set_option maxHeartbeats 2000000

-- the plain law: lists of gains, as the reference has them

theorem glOk {w : Ws} (h : WsOk w) : ((gl w).map (·.1)).Nodup ∧ ∀ p ∈ gl w, 0 ≤ p.1 ∧ p.1 ≤ w.last := by
 constructor
 ·have e : (gl w).map (·.1) = w.vs.map (·.day) := by unfold gl; rw [List.map_map]; rfl
  rw [e]
  refine List.pairwise_iff_getElem.2 fun i j hi hj hij => ?_
  simp only [List.length_map] at hi hj
  simp only [List.getElem_map]
  have := h.lt hij hj
  omega
 ·intro p hp
  obtain ⟨v, hv, rfl⟩ := List.mem_map.1 hp
  obtain ⟨i, hi, rfl⟩ := List.getElem_of_mem hv
  exact h.day i hi

set_option maxHeartbeats 8000000

-- the reference of wear: the small functions, and whether an instrument is valid

theorem withinB2 (n lo hi : Int) : withinB n lo hi = (decide (lo ≤ n) && decide (n ≤ hi)) := by unfold withinB; exact Bool.decide_and _ _

theorem q_within77 (n lo hi : Int) : Pure Tryz.prog 77 [encI n, encI lo, encI hi] (.bool (withinB n lo hi)) := by
 refine ZF (fn := Tryz.f77) [.tmp 6] ⟨Tryz.func77, rfl, by kernel_rfl⟩ fun x hx hσ => ?_
 (repeat refine ZQ ?_); refine ZR fun K hK => ?_; simp (maxSteps := 1000000); refine hK _ ?_; clear hK K
 (repeat refine ZQ ?_); refine ZR fun K hK => ?_; simp (maxSteps := 1000000)
 refine ZP (within79 n lo hi) ?_; simp (maxSteps := 1000000)
 refine hK _ ?_; clear hK K
 (repeat refine ZQ ?_); refine awp_ret ?_; refine And.intro (Or.inr rfl) ?_
 simp [retC, resC, viewC, mapO]

theorem q_trialOf27 (w : Ws) (nl fu : Bool) (ts : List Ts) : Pure Tryz.prog 27 [encWs w, sTs nl fu ts] (encTi ⟨w.w, w.gain, nl, fu, ts⟩) := by
 refine ZF (fn := Tryz.f27) [.cell 4 62] ⟨Tryz.func27, rfl, by kernel_rfl⟩ fun x hx hσ => ?_
 (repeat refine ZQ ?_); refine ZR fun K hK => ?_; simp (maxSteps := 1000000) [ty28, ty62]; refine hK _ ?_; clear hK K
 (repeat refine ZQ ?_); refine ZR fun K hK => ?_; simp (maxSteps := 1000000) [ty28, ty62, ty25, ty3, ty51]; refine hK _ ?_; clear hK K
 (repeat refine ZQ ?_); refine awp_ret ?_; refine And.intro (Or.inr rfl) ?_
 simp [retC, resC, viewC, mapO, ty62]


theorem q_check32 (w : Ws) (hn : WsLen w) : Pure Tryz.prog 32 [encWs w] (encI (checkW w)) := by
  have hlt := hn.vs
  refine ZF (fn := Tryz.f32) [.tmp 2] ⟨Tryz.func32, rfl, by kernel_rfl⟩ fun x hx hσ => ?_
  (repeat refine ZQ ?_); refine ZR fun K hK => ?_; simp (maxSteps := 1000000) [ty28]; refine hK _ ?_; clear hK K; (first | show AWP _ _ _ _ _ | show ∃ _, _ | skip)
  cases hb1 : withinB w.last 1 30
  · have hT : checkW w = 130 := by unfold checkW rangeB; rw [if_pos (.inl (by rw [withinB2] at hb1; rw [hb1]; simp))]
    (repeat refine ZQ ?_); refine ZR fun K hK => ?_; simp (maxSteps := 1000000) [ty28, ty3]
    refine ZP (q_within77 w.last 1 30) ?_; simp (maxSteps := 1000000) [hb1, ty4]
    refine hK _ ?_; clear hK K; (first | show AWP _ _ _ _ _ | show ∃ _, _ | skip)
    · (repeat refine ZQ ?_); refine ZC (hc := by simp [hb1]; rfl) (fun hd => ?_) (fun hd => ?_)
      · clear hd
        (repeat refine ZQ ?_); refine ZR fun K hK => ?_; simp (maxSteps := 1000000); refine hK _ ?_; clear hK K
        (repeat refine ZQ ?_); refine awp_ret ?_; refine And.intro (Or.inr rfl) ?_
        simp [retC, resC, viewC, mapO, hT]
      · simp [hb1] at hd
  · cases hb2 : withinB w.drop 0 10
    · have hT : checkW w = 130 := by unfold checkW rangeB; rw [if_pos (.inl (by rw [withinB2] at hb2; rw [hb2]; simp))]
      (repeat refine ZQ ?_); refine ZR fun K hK => ?_; simp (maxSteps := 1000000) [ty28, ty3]
      refine ZP (q_within77 w.last 1 30) ?_; simp (maxSteps := 1000000) [hb1, ty4, ty28, ty3]
      refine ZP (q_within77 w.drop 0 10) ?_; simp (maxSteps := 1000000) [hb2, ty4, ty28, ty3]
      refine hK _ ?_; clear hK K; (first | show AWP _ _ _ _ _ | show ∃ _, _ | skip)
      · (repeat refine ZQ ?_); refine ZC (hc := by simp [hb2]; rfl) (fun hd => ?_) (fun hd => ?_)
        · clear hd
          (repeat refine ZQ ?_); refine ZR fun K hK => ?_; simp (maxSteps := 1000000); refine hK _ ?_; clear hK K
          (repeat refine ZQ ?_); refine awp_ret ?_; refine And.intro (Or.inr rfl) ?_
          simp [retC, resC, viewC, mapO, hT]
        · simp [hb2] at hd
    · cases hb3 : withinB w.wrong 0 6
      · have hT : checkW w = 130 := by unfold checkW rangeB; rw [if_pos (.inl (by rw [withinB2] at hb3; rw [hb3]; simp))]
        (repeat refine ZQ ?_); refine ZR fun K hK => ?_; simp (maxSteps := 1000000) [ty28, ty3]
        refine ZP (q_within77 w.last 1 30) ?_; simp (maxSteps := 1000000) [hb1, ty4, ty28, ty3]
        refine ZP (q_within77 w.drop 0 10) ?_; simp (maxSteps := 1000000) [hb2, ty4, ty28, ty3]
        refine ZP (q_within77 w.wrong 0 6) ?_; simp (maxSteps := 1000000) [hb3, ty4, ty28, ty3]
        refine hK _ ?_; clear hK K; (first | show AWP _ _ _ _ _ | show ∃ _, _ | skip)
        · (repeat refine ZQ ?_); refine ZC (hc := by simp [hb3]; rfl) (fun hd => ?_) (fun hd => ?_)
          · clear hd
            (repeat refine ZQ ?_); refine ZR fun K hK => ?_; simp (maxSteps := 1000000); refine hK _ ?_; clear hK K
            (repeat refine ZQ ?_); refine awp_ret ?_; refine And.intro (Or.inr rfl) ?_
            simp [retC, resC, viewC, mapO, hT]
          · simp [hb3] at hd
      · by_cases h6 : (6 : Int) < (w.vs.length : Int)
        · have hT : checkW w = 130 := by unfold checkW rangeB; rw [if_pos (.inl (by rw [show decide ((w.vs.length : Int) ≤ 6) = false by simpa using h6]; simp))]
          (repeat refine ZQ ?_); refine ZR fun K hK => ?_; simp (maxSteps := 1000000) [ty28, ty3]
          refine ZP (q_within77 w.last 1 30) ?_; simp (maxSteps := 1000000) [hb1, ty4, ty28, ty3]
          refine ZP (q_within77 w.drop 0 10) ?_; simp (maxSteps := 1000000) [hb2, ty4, ty28, ty3]
          refine ZP (q_within77 w.wrong 0 6) ?_; simp (maxSteps := 1000000) [hb3, ty4, ty28, ty3, ty26, h6]
          refine hK _ ?_; clear hK K; (first | show AWP _ _ _ _ _ | show ∃ _, _ | skip)
          · (repeat refine ZQ ?_); refine ZC (hc := by simp [h6]; rfl) (fun hd => ?_) (fun hd => ?_)
            · clear hd
              (repeat refine ZQ ?_); refine ZR fun K hK => ?_; simp (maxSteps := 1000000); refine hK _ ?_; clear hK K
              (repeat refine ZQ ?_); refine awp_ret ?_; refine And.intro (Or.inr rfl) ?_
              simp [retC, resC, viewC, mapO, hT]
            · simp [h6] at hd
        · have hR : rangeB w = true := by
            unfold rangeB; rw [withinB2] at hb1 hb2 hb3; rw [hb1, hb2, hb3]; simp; omega
          (repeat refine ZQ ?_); refine ZR fun K hK => ?_; simp (maxSteps := 1000000) [ty28, ty3]
          refine ZP (q_within77 w.last 1 30) ?_; simp (maxSteps := 1000000) [hb1, ty4, ty28, ty3]
          refine ZP (q_within77 w.drop 0 10) ?_; simp (maxSteps := 1000000) [hb2, ty4, ty28, ty3]
          refine ZP (q_within77 w.wrong 0 6) ?_; simp (maxSteps := 1000000) [hb3, ty4, ty28, ty3, ty26, h6]
          refine hK _ ?_; clear hK K
          (repeat refine ZQ ?_); refine ZC (hc := by simp [h6]; rfl) (fun hd => ?_) (fun hd => ?_)
          · simp [h6] at hd
          · clear hd
            refine awp_skip ?_
            (repeat refine ZQ ?_); refine ZR fun K hK => ?_; simp (maxSteps := 1000000) [ty3]; refine hK _ ?_; clear hK K
            (repeat refine ZQ ?_); refine awp_block ?_
            refine awp_loop (fun i : Nat => ⟨ofL [(1, .ptr 1 13 0 0), (3, encI i)], stoT [(1, 1, .live (obWs w))]⟩)
              (fun i => i ≤ w.vs.length ∧ ∀ j, j < i → okDay w j = true) (fun i => w.vs.length - i) 0 (by simp) ?_ ?_
            · exact Zw
            · intro i ⟨hi, hj0⟩
              (repeat refine ZQ ?_); refine ZR fun K hK => ?_; simp (maxSteps := 1000000) [ty28, ty26, ty3]; refine hK _ ?_; clear hK K
              (repeat refine ZQ ?_); refine ZC (fun hc1 => ?_) (fun hc1 => ?_)
              · simp at hc1
                have hwi : IntKind.i64.wrap ((i : Int) + 1) = ((i + 1 : Nat) : Int) := by rw [wrap_id (by omega) (by omega)]; rfl
                have hdw : dayB w w.vs[i].day = withinB w.vs[i].day 0 w.last := (withinB2 _ _ _).symm
                refine awp_skip ?_
                (repeat refine ZQ ?_); refine awp_block ?_
                cases hdb : withinB w.vs[i].day 0 w.last
                · have hok : okDay w i = false := by unfold okDay; rw [List.getElem?_eq_getElem hc1]; simp [hdw, hdb]
                  have hne : (List.range w.vs.length).all (okDay w) = false := List.all_eq_false.2 ⟨i, List.mem_range.2 hc1, by rw [hok]; simp⟩
                  have hT : checkW w = 130 := if_pos (.inr hne)
                  (repeat refine ZQ ?_); refine ZD [] [0, 1, 2, 3, 4, 5, 6, 7, 8, 9, 10, 11, 12, 13, 14, 15, 16, 17, 18, 19, 20, 21, 22, 23, 24, 25, 26, 27, 28, 29] fun K hK => ?_; simp (maxSteps := 1000000) [ty53, ty28, ty26, ty3, hc1]
                  refine ZE (q_within77 w.vs[i].day 0 w.last) ?_; simp (maxSteps := 1000000) [hdb, ty4, ty53, ty28, ty3]
                  refine hK _ ?_; clear hK K
                  (repeat refine ZQ ?_); refine ZC (fun hd => ?_) (fun hd => ?_)
                  · clear hd
                    (repeat refine ZQ ?_); refine ZR fun K hK => ?_; simp (maxSteps := 1000000); refine hK _ ?_; clear hK K
                    (repeat refine ZQ ?_); refine awp_ret ?_; refine And.intro (Or.inr rfl) ?_
                    simp [retC, resC, viewC, mapO, hT]
                  · simp at hd
                · by_cases hi0 : i = 0
                  · subst hi0
                    have hok : okDay w 0 = true := by rw [okDay_zero hc1, hdw, hdb]
                    (repeat refine ZQ ?_); refine ZD [] [0, 1, 2, 3, 4, 5, 6, 7, 8, 9, 10, 11, 12, 13, 14, 15, 16, 17, 18, 19, 20, 21, 22, 23, 24, 25, 26, 27, 28, 29] fun K hK => ?_; simp (maxSteps := 1000000) [ty53, ty28, ty26, ty3, hc1]
                    refine ZE (q_within77 w.vs[0].day 0 w.last) ?_; simp (maxSteps := 1000000) [hdb, ty4, ty53, ty28, ty3]
                    refine hK _ ?_; clear hK K
                    (repeat refine ZQ ?_); refine ZC (fun hd => ?_) (fun hd => ?_)
                    · simp at hd
                    · clear hd
                      refine awp_skip ?_
                      (repeat refine ZQ ?_); refine ZR fun K hK => ?_; simp (maxSteps := 1000000) [ty3]; refine hK _ ?_; clear hK K; (first | show AWP _ _ _ _ _ | show ∃ _, _ | skip)
                      refine ⟨1, ⟨by omega, fun j h1 => by obtain rfl : j = 0 := by omega
                                                           exact hok⟩, by omega, ?_⟩
                      exact Zw
                  · obtain ⟨n, rfl⟩ : ∃ n, i = n + 1 := ⟨i - 1, by omega⟩
                    have hnl : n < w.vs.length := by omega
                    have hok := okDay_succ hc1
                    rw [hdw, hdb] at hok
                    have hw1 : IntKind.i64.wrap (n : Int) = (n : Int) := wrap_id (by omega) (by omega)
                    have hpos : (0 : Int) < ((n + 1 : Nat) : Int) := by omega
                    have h01 : (0 : Int) ≤ (n : Int) + 1 := by omega
                    by_cases hlt1 : w.vs[n].day < w.vs[n + 1].day
                    · have hle : ¬ w.vs[n + 1].day ≤ w.vs[n].day := by omega
                      rw [decide_eq_true hlt1] at hok
                      (repeat refine ZQ ?_); refine ZD [] [0, 1, 2, 3, 4, 5, 6, 7, 8, 9, 10, 11, 12, 13, 14, 15, 16, 17, 18, 19, 20, 21, 22, 23, 24, 25, 26, 27, 28, 29] fun K hK => ?_; simp (maxSteps := 1000000) [ty53, ty28, ty26, ty3, hc1, h01]
                      refine ZE (q_within77 w.vs[n+1].day 0 w.last) ?_; simp (maxSteps := 1000000) [hdb, ty4, ty53, ty28, ty3, ty26, hw1, hc1, hnl, hpos, hle, h01]
                      refine hK _ ?_; clear hK K
                      (repeat refine ZQ ?_); refine ZC (hc := by simp [hle]; rfl) (fun hd => ?_) (fun hd => ?_)
                      · simp [hle] at hd
                      · clear hd
                        refine awp_skip ?_
                        (repeat refine ZQ ?_); refine ZR fun K hK => ?_; simp (maxSteps := 1000000) [ty3]; refine hK _ ?_; clear hK K; (first | show AWP _ _ _ _ _ | show ∃ _, _ | skip)
                        refine ⟨n + 1 + 1, ⟨by omega, fun j h1 => ?_⟩, by omega, ?_⟩
                        · by_cases hjn : j = n + 1
                          · subst hjn; exact hok
                          · exact hj0 j (by omega)
                        · exact Zw
                    · have hle : w.vs[n + 1].day ≤ w.vs[n].day := by omega
                      rw [decide_eq_false hlt1] at hok
                      have hok : okDay w (n + 1) = false := hok
                      have hne : (List.range w.vs.length).all (okDay w) = false := List.all_eq_false.2 ⟨n + 1, List.mem_range.2 hc1, by rw [hok]; simp⟩
                      have hT : checkW w = 130 := if_pos (.inr hne)
                      (repeat refine ZQ ?_); refine ZD [] [0, 1, 2, 3, 4, 5, 6, 7, 8, 9, 10, 11, 12, 13, 14, 15, 16, 17, 18, 19, 20, 21, 22, 23, 24, 25, 26, 27, 28, 29] fun K hK => ?_; simp (maxSteps := 1000000) [ty53, ty28, ty26, ty3, hc1, h01]
                      refine ZE (q_within77 w.vs[n+1].day 0 w.last) ?_; simp (maxSteps := 1000000) [hdb, ty4, ty53, ty28, ty3, ty26, hw1, hc1, hnl, hpos, hle, h01]
                      refine hK _ ?_; clear hK K
                      (repeat refine ZQ ?_); refine ZC (hc := by simp [hle]; rfl) (fun hd => ?_) (fun hd => ?_)
                      · clear hd
                        (repeat refine ZQ ?_); refine ZR fun K hK => ?_; simp (maxSteps := 1000000); refine hK _ ?_; clear hK K
                        (repeat refine ZQ ?_); refine awp_ret ?_; refine And.intro (Or.inr rfl) ?_
                        simp [retC, resC, viewC, mapO, hT]
                      · simp [hle] at hd
              · simp at hc1
                (repeat refine ZQ ?_); refine awp_exit ?_; (first | show AWP _ _ _ _ _ | show ∃ _, _ | skip)
                have hall : (List.range w.vs.length).all (okDay w) = true := by
                  rw [List.all_eq_true]; intro j hj; exact hj0 j (by have := List.mem_range.1 hj; omega)
                have hT : checkW w = (if w.vs = [] then checkT (tiN w) else checksW w w.vs) := by
                  unfold checkW; rw [if_neg (by rw [hR, hall]; simp)]
                (repeat refine ZQ ?_); refine ZR fun K hK => ?_; simp (maxSteps := 1000000) [ty3]; refine hK _ ?_; clear hK K
                (repeat refine ZQ ?_); refine awp_block ?_
                refine awp_loop (fun i : Nat => ⟨ofL [(1, .ptr 1 13 0 0), (4, encI i)], stoT [(1, 1, .live (obWs w))]⟩)
                  (fun i => i ≤ w.vs.length ∧ ∀ j, (h : j < w.vs.length) → j < i → checkT (tiV w w.vs[j]) = 0) (fun i => w.vs.length - i) 0 (by simp) ?_ ?_
                · exact Zw
                · intro i ⟨hi, hj⟩
                  (repeat refine ZQ ?_); refine ZR fun K hK => ?_; simp (maxSteps := 1000000) [ty28, ty26, ty3]; refine hK _ ?_; clear hK K
                  (repeat refine ZQ ?_); refine ZC (fun hc1 => ?_) (fun hc1 => ?_)
                  · simp at hc1
                    refine awp_skip ?_
                    (repeat refine ZQ ?_); refine awp_block ?_
                    have h0 : w.vs ≠ [] := by intro e; rw [e] at hc1; simp at hc1
                    (repeat refine ZQ ?_); refine ZD [] [0, 1, 2, 3, 4, 5, 6, 7, 8, 9] fun K hK => ?_; simp (maxSteps := 1000000) [ty28, ty26, ty53, ty51, ty3, hc1]
                    refine ZE (q_trialOf27 w w.vs[i].nl w.vs[i].fu w.vs[i].ts) ?_; simp (maxSteps := 1000000) [ty62]
                    refine ZE (q_check30 (tiV w w.vs[i]) (hn.l _ (List.getElem_mem hc1))) ?_; simp (maxSteps := 1000000)
                    refine hK _ ?_; clear hK K; (first | show AWP _ _ _ _ _ | show ∃ _, _ | skip)
                    by_cases hz : checkT (tiV w w.vs[i]) = 0
                    · (repeat refine ZQ ?_); refine ZR fun K hK => ?_; simp (maxSteps := 1000000) [ty37, hz]; refine hK _ ?_; clear hK K
                      (repeat refine ZQ ?_); refine ZC (hc := by simp [hz]; rfl) (fun hd => ?_) (fun hd => ?_)
                      · simp at hd
                      · clear hd
                        refine awp_skip ?_
                        (repeat refine ZQ ?_); refine ZR fun K hK => ?_; simp (maxSteps := 1000000) [ty3]; refine hK _ ?_; clear hK K; (first | show AWP _ _ _ _ _ | show ∃ _, _ | skip)
                        refine ⟨i + 1, ⟨by omega, fun j h1 h2 => ?_⟩, by omega, ?_⟩
                        · by_cases hji : j = i
                          · subst hji; assumption
                          · exact hj j h1 (by omega)
                        · exact Zw
                    · (repeat refine ZQ ?_); refine ZR fun K hK => ?_; simp (maxSteps := 1000000) [ty37]; refine hK _ ?_; clear hK K
                      (repeat refine ZQ ?_); refine ZC (hc := by simp [hz]; rfl) (fun hd => ?_) (fun hd => ?_)
                      · clear hd
                        (repeat refine ZQ ?_); refine ZR fun K hK => ?_; simp (maxSteps := 1000000); refine hK _ ?_; clear hK K
                        (repeat refine ZQ ?_); refine awp_ret ?_; refine And.intro (Or.inr rfl) ?_
                        simp [retC, resC, viewC, mapO, hT, h0, checksW_at hc1 hj hz]
                      · simp [hz] at hd
                  · simp at hc1
                    (repeat refine ZQ ?_); refine awp_exit ?_; (first | show AWP _ _ _ _ _ | show ∃ _, _ | skip)
                    have hz := checksW_all (fun j h => hj j h (by omega))
                    have hfin : checkT (tiN w) = checkW w := by
                      rw [hT]
                      split
                      · rfl
                      · rename_i h0
                        rw [hz]
                        have hp : 0 < w.vs.length := List.length_pos_iff.2 h0
                        exact checkT_base (hj 0 hp (by omega))
                    (repeat refine ZQ ?_); refine ZR fun K hK => ?_; simp (maxSteps := 1000000) [ty28]
                    refine ZP (q_trialOf27 w true true []) ?_; simp (maxSteps := 1000000) [ty62]
                    refine ZP (q_check30 (tiN w) ⟨by simp, by simp⟩) ?_; simp (maxSteps := 1000000)
                    refine hK _ ?_; clear hK K
                    (repeat refine ZQ ?_); refine awp_ret ?_; refine And.intro (Or.inr rfl) ?_
                    simp [retC, resC, viewC, mapO, hfin]

set_option maxHeartbeats 8000000

-- the reference of wear: gains of visits, and whether gains are a truth

@[simp] abbrev rowN (L : List Int) : List C := [.sl L.isEmpty false (L.map cI)]
def gsN (w : Ws) : List (List C) := w.vs.map fun v => rowN (numsT Tr.area (tiV w v) true)
@[simp] theorem gsN_len (w : Ws) : (gsN w).length = w.vs.length := by simp [gsN]
@[simp] theorem gsN_pure (w : Ws) : (gsN w).all purel = true := all_purel_map fun _ => rfl
set_option maxHeartbeats 8000000

-- the examples of wear

def tsE (s a b : Int) : Ts := ⟨1000, false, true, [⟨1, s, 0, a, b⟩]⟩
def wE : Ws := ⟨wX, 6, 6, 1, false, true, [⟨0, false, true, [tsE 1 10 12]⟩, ⟨4, false, true, [tsE 1 10 10]⟩], 0⟩
def zE : Ws := ⟨wX, 6, 6, 1, false, true, [⟨0, false, true, [tsE 1 10 10, tsE (-1) 0 0]⟩], 0⟩
def kE : Cl := ⟨1000, 2⟩

theorem test97 (s a b : Int) : Pure Tryz.prog 97 [encI s, encI a, encI b] (encTs (tsE s a b)) := by
 refine ZF (fn := Tryz.f97) [.cell 6 119] ⟨Tryz.func97, rfl, by kernel_rfl⟩ fun x hx hσ => ?_
 (repeat refine ZQ ?_); refine ZR fun K hK => ?_; simp (maxSteps := 1000000) [ty119]; refine hK _ ?_; clear hK K
 (repeat refine ZQ ?_); refine ZR fun K hK => ?_; simp (maxSteps := 1000000) [ty119, ty121, ty117, ty3]; refine hK _ ?_; clear hK K
 (repeat refine ZQ ?_); refine awp_ret ?_; refine And.intro (Or.inr rfl) ?_
 simp [retC, resC, viewC, mapO, ty119, tsE]

theorem example56 : Pure Tryz.prog 56 [] (.tup [encWs wE, encWs zE]) := by
 have h := example48
 simp only [encWh, cWh, sWl, cWl, wX, yA, yB, List.map_cons, List.map_nil] at h
 have t1 := test97 1 10 12
 have t2 := test97 1 10 10
 have t3 := test97 (-1) 0 0
 simp only [encTs, cTs, tsE, sWl, cWl, List.map_cons, List.map_nil] at t1 t2 t3
 refine ZF (fn := Tryz.f56) [.cell 0 28, .cell 1 28] ⟨Tryz.func56, rfl, by kernel_rfl⟩ fun x hx hσ => ?_
 (repeat refine ZQ ?_); refine ZR fun K hK => ?_; simp (maxSteps := 1000000) [ty28]; refine hK _ ?_; clear hK K
 (repeat refine ZQ ?_); refine ZR fun K hK => ?_; simp (maxSteps := 1000000) [ty25]
 refine ZP (h) ?_; simp (maxSteps := 1000000) [ty25]
 refine hK _ ?_; clear hK K
 (repeat refine ZQ ?_); refine ZR fun K hK => ?_; simp (maxSteps := 1000000) [ty25, ty28]; refine hK _ ?_; clear hK K
 (repeat refine ZQ ?_); refine ZR fun K hK => ?_; simp (maxSteps := 1000000) [ty28]; refine hK _ ?_; clear hK K
 (repeat refine ZQ ?_); refine ZR fun K hK => ?_; simp (maxSteps := 1000000) [ty28, ty53, ty51, ty119, ty26]
 refine ZP (t1) ?_; simp (maxSteps := 1000000) [ty28, ty53, ty51, ty119, ty26]
 refine ZP (t2) ?_; simp (maxSteps := 1000000) [ty28, ty53, ty51, ty119, ty26]
 refine hK _ ?_; clear hK K
 (repeat refine ZQ ?_); refine ZR fun K hK => ?_; simp (maxSteps := 1000000) [ty28, ty53, ty51, ty119, ty26]
 refine ZP (t2) ?_; simp (maxSteps := 1000000) [ty28, ty53, ty51, ty119, ty26]
 refine ZP (t3) ?_; simp (maxSteps := 1000000) [ty28, ty53, ty51, ty119, ty26]
 refine hK _ ?_; clear hK K
 (repeat refine ZQ ?_); refine ZD [1001, 2002, 10000] [0, 1, 2, 3] fun K hK => ?_; simp (maxSteps := 1000000) [ty28]; refine hK _ ?_; clear hK K
 (repeat refine ZQ ?_); refine awp_ret ?_; refine And.intro (Or.inr rfl) ?_
 simp [retC, resC, viewC, mapO, ty28, wE, zE, tsE, wX]

theorem wE_len : WsLen wE := ⟨by decide, fun v hv => by
 simp only [wE, List.mem_cons, List.not_mem_nil, or_false] at hv
 rcases hv with rfl | rfl <;> exact ⟨by decide, by decide⟩⟩
theorem zE_len : WsLen zE := ⟨by decide, fun v hv => by
 simp only [zE, List.mem_cons, List.not_mem_nil, or_false] at hv
 subst hv; exact ⟨by decide, by decide⟩⟩

theorem gl_areas (w : Ws) : gl w = w.vs.map fun v => (v.day, areasR (knownT (tiV w v) true)) := by
 unfold gl
 refine List.map_congr_left fun v _ => ?_
 unfold glV
 rw [gains_nums]
theorem wE_gl : gl wE = [(0, [0, 1, 2, 3, 4]), (4, [-2, -1, 0, 1, 2])] := by rw [gl_areas]; decide +kernel
theorem zE_gl : gl zE = [(0, [0])] := by rw [gl_areas]; decide +kernel
theorem wE_check : checkW wE = 0 := by decide +kernel
theorem zE_check : checkW zE = 0 := by decide +kernel
theorem openW_true {w : Ws} {is : Bool} (h1 : checkW w = 0) (h2 : is = true) (h3 : canC (co w (gl w)) [] = true) : openW w is = 0 := by
 unfold openW; rw [if_neg (by simpa using h1), if_neg (by rw [h2]; simp), if_neg (by rw [h3]; simp)]
theorem wE_can : canC (co wE (gl wE)) [] = true := by rw [wE_gl]; decide +kernel
theorem zE_can : canC (co zE (gl zE)) [] = true := by rw [zE_gl]; decide +kernel
theorem wE_open {is : Bool} (h : is = true) : openW wE is = 0 := openW_true wE_check h wE_can
theorem zE_open {is : Bool} (h : is = true) : openW zE is = 0 := openW_true zE_check h zE_can
theorem wE_on : onW wE 4 = [-2, -1, 0, 1, 2] := by
 unfold onW; rw [if_pos (wE_open (by decide)), wE_gl]; decide +kernel
theorem wE_drift : driftW wE 0 6 = (0, 6) := by
 unfold driftW; rw [if_pos (wE_open (by decide)), wE_gl]; decide +kernel
theorem zE_dueO : dueO (co zE (gl zE)) kE = some 3 := by rw [zE_gl]; decide +kernel
theorem zE_doubt : doubtW zE = 21 := by
 unfold doubtW; rw [if_pos (zE_open rfl), zE_gl]; decide +kernel
theorem wE_blame : blameW wE 0 1000 1005 = 2 := by
 unfold blameW; rw [if_pos (wE_open (by decide)), wE_gl]; decide +kernel

theorem works15 : Pure Tryz.prog 15 [] (.bool true) := by
 have hx1 := example56
 have c1 := w_on18 wE 4 wE_len
 rw [wE_on, wE_open (by decide)] at c1
 have c2 := w_drift22 wE 0 6 wE_len
 rw [wE_drift, wE_open (by decide)] at c2
 have hkc : classB kE = true := by decide
 have c3 := w_due16 zE kE zE_len
 have hv : dueV zE kE = 3 := by unfold dueV; rw [if_pos (zE_open hkc), zE_dueO]; rfl
 have he : dueE zE kE = 0 := by unfold dueE; rw [if_pos (zE_open hkc), zE_dueO]
 rw [hv, he] at c3
 have c4 := w_doubt25 zE zE_len
 rw [zE_doubt, zE_open rfl] at c4
 have c5 := w_blame50 wE 0 1000 1005 wE_len
 rw [wE_blame, wE_open (by decide)] at c5
 have s1 := same29 false false false true [-2, -1, 0, 1, 2] [-2, -1, 0, 1, 2] (by decide) (by decide)
 simp only [decide_true] at s1
 simp only [slI, List.map_cons, List.map_nil, List.isEmpty_cons, cI, encP] at c1 c2 s1
 simp only [kE] at c3
 generalize wE = w at *
 generalize zE = z at *
 refine ZF (fn := Tryz.f15) [.tmp 0] ⟨Tryz.func15, rfl, by kernel_rfl⟩ fun x hx hσ => ?_
 (repeat refine ZQ ?_); refine ZR fun K hK => ?_; simp (maxSteps := 1000000); refine hK _ ?_; clear hK K
 (repeat refine ZQ ?_); refine ZR fun K hK => ?_; simp (maxSteps := 1000000) [ty28]
 refine ZP (hx1) ?_; simp (maxSteps := 1000000) [ty28]
 refine hK _ ?_; clear hK K
 (repeat refine ZQ ?_); refine ZR fun K hK => ?_; simp (maxSteps := 1000000) [ty28]
 refine ZP (c1) ?_; simp (maxSteps := 1000000) [ty29]
 refine hK _ ?_; clear hK K
 (repeat refine ZQ ?_); refine ZR fun K hK => ?_; simp (maxSteps := 1000000) [ty28, ty23]
 refine ZP (c2) ?_; simp (maxSteps := 1000000) [ty23]
 refine hK _ ?_; clear hK K
 (repeat refine ZQ ?_); refine ZR fun K hK => ?_; simp (maxSteps := 1000000) [ty28, ty31]
 refine ZP (c3) ?_; simp (maxSteps := 1000000)
 refine hK _ ?_; clear hK K
 (repeat refine ZQ ?_); refine ZR fun K hK => ?_; simp (maxSteps := 1000000) [ty28]
 refine ZP (c4) ?_; simp (maxSteps := 1000000)
 refine hK _ ?_; clear hK K
 (repeat refine ZQ ?_); refine ZR fun K hK => ?_; simp (maxSteps := 1000000) [ty28]
 refine ZP (c5) ?_; simp (maxSteps := 1000000)
 refine hK _ ?_; clear hK K
 (repeat refine ZQ ?_); refine ZR fun K hK => ?_; simp (maxSteps := 1000000) [ty37, ty29, ty3, ty4, ty23, fe23]
 refine ZP (s1) ?_; simp (maxSteps := 1000000) [ty37, ty29, ty3, ty4, ty23, fe23, eqInts]
 refine hK _ ?_; clear hK K
 (repeat refine ZQ ?_); refine awp_ret ?_; refine And.intro (Or.inr rfl) ?_
 simp [retC, resC, viewC, mapO]

set_option maxHeartbeats 8000000

-- what is far, what is ready, and the laws' small functions

/-- What is near enough. -/
structure NearW (w : Ws) : Prop where
  vs : w.vs.length ≤ 20
  l : ∀ v ∈ w.vs, NearT (tiV w v)
  small : checkW w = 0 → w.gain ≤ 3 ∧ w.last ≤ 5 ∧ w.vs.length ≤ 3

theorem NearW.len {w : Ws} (h : NearW w) : WsLen w := ⟨by have := h.vs; omega, fun v hv => (h.l v hv).len⟩




theorem far30 (w : Ws) : ∃ b, Pure Tryz.prog 30 [encWs w] (.bool b) ∧ (b = false → NearW w) := by
 by_cases h20 : (20 : Int) < w.vs.length
 ·refine ⟨true, ?_, by simp⟩
  refine ZF (fn := Tryz.f30) [.tmp 2] ⟨Tryz.func30, rfl, by kernel_rfl⟩ fun x hx hσ => ?_
  (repeat refine ZQ ?_); refine ZR fun K hK => ?_; simp (maxSteps := 1000000) [ty28]; refine hK _ ?_; clear hK K
  (repeat refine ZQ ?_); refine ZR fun K hK => ?_; simp (maxSteps := 1000000) [ty28, ty26, ty3, h20]; refine hK _ ?_; clear hK K
  (repeat refine ZQ ?_); refine ZC (hc := by simp [h20]; rfl) (fun hd => ?_) (fun hd => ?_)
  ·clear hd
   (repeat refine ZQ ?_); refine ZR fun K hK => ?_; simp (maxSteps := 1000000); refine hK _ ?_; clear hK K
   (repeat refine ZQ ?_); refine awp_ret ?_; refine And.intro (Or.inr rfl) ?_
   simp [retC, resC, viewC, mapO]
  ·simp at hd
 ·obtain ⟨B, hB⟩ : ∃ B : Vs → Bool, ∀ v, Pure Tryz.prog 73 [encTi (tiV w v)] (.bool (B v)) ∧ (B v = false → NearT (tiV w v)) := Classical.axiomOfChoice fun v => far8 (tiV w v)
  obtain ⟨bN, hN, hNn⟩ := far8 (tiN w)
  by_cases hall : ∀ j, (h : j < w.vs.length) → B w.vs[j] = false
  ·have hnl : ∀ v ∈ w.vs, NearT (tiV w v) := fun v hv => by
    obtain ⟨j, hj, rfl⟩ := List.getElem_of_mem hv
    exact (hB _).2 (hall j hj)
   have hlen : WsLen w := ⟨by omega, fun v hv => (hnl v hv).len⟩
   have hck := q_check32 w hlen
   have main : ∀ b : Bool, (∀ (P : Bool → Prop), P (bN || ((checkW w == 0) && (decide (3 < w.gain) || decide (5 < w.last) || decide (3 < (w.vs.length : Int))))) → P b) → Pure Tryz.prog 30 [encWs w] (.bool b) := by
    intro b hb0
    refine hb0 (fun b => Pure Tryz.prog 30 [encWs w] (.bool b)) ?_
    refine ZF (fn := Tryz.f30) [.tmp 2] ⟨Tryz.func30, rfl, by kernel_rfl⟩ fun x hx hσ => ?_
    (repeat refine ZQ ?_); refine ZR fun K hK => ?_; simp (maxSteps := 1000000) [ty28]; refine hK _ ?_; clear hK K
    (repeat refine ZQ ?_); refine ZR fun K hK => ?_; simp (maxSteps := 1000000) [ty28, ty26, ty3, h20]; refine hK _ ?_; clear hK K
    (repeat refine ZQ ?_); refine ZC (hc := by simp [h20]; rfl) (fun hd => ?_) (fun hd => ?_)
    ·simp [h20] at hd
    ·clear hd
     refine awp_skip ?_
     (repeat refine ZQ ?_); refine ZR fun K hK => ?_; simp (maxSteps := 1000000) [ty3]; refine hK _ ?_; clear hK K
     (repeat refine ZQ ?_); refine awp_block ?_
     refine awp_loop (fun i : Nat => ⟨ofL [(1, .ptr 1 13 0 0), (3, encI i)], stoT [(1, 1, .live (obWs w))]⟩)
      (fun i => i ≤ w.vs.length ∧ ∀ j, (h : j < w.vs.length) → j < i → B w.vs[j] = false) (fun i => w.vs.length - i) 0 (by simp) ?_ ?_
     ·exact Zw
     ·intro i ⟨hi, hj⟩
      (repeat refine ZQ ?_); refine ZR fun K hK => ?_; simp (maxSteps := 1000000) [ty28, ty26, ty3]; refine hK _ ?_; clear hK K
      (repeat refine ZQ ?_); refine ZC (fun hc => ?_) (fun hc => ?_)
      ·simp at hc
       have hcal := (hB w.vs[i]).1
       have hwi : IntKind.i64.wrap ((i : Int) + 1) = ((i + 1 : Nat) : Int) := by rw [wrap_id (by omega) (by omega)]; rfl
       refine awp_skip ?_
       (repeat refine ZQ ?_); refine awp_block ?_
       cases hb : B w.vs[i]
       ·rw [hb] at hcal
        (repeat refine ZQ ?_); refine ZD [] [0, 1, 2, 3, 4, 5, 6, 7, 8] fun K hK => ?_; simp (maxSteps := 1000000) [ty28, ty26, ty53, ty51, ty3, hc]
        refine ZE (q_trialOf27 w w.vs[i].nl w.vs[i].fu w.vs[i].ts) ?_; simp (maxSteps := 1000000) [ty62]
        refine ZE (hcal) ?_; simp (maxSteps := 1000000)
        refine hK _ ?_; clear hK K
        (repeat refine ZQ ?_); refine ZC (fun hd => ?_) (fun hd => ?_)
        ·simp at hd
        ·clear hd
         refine awp_skip ?_
         (repeat refine ZQ ?_); refine ZR fun K hK => ?_; simp (maxSteps := 1000000) [ty3]; refine hK _ ?_; clear hK K; (first | show AWP _ _ _ _ _ | show ∃ _, _ | skip)
         refine ⟨i + 1, ⟨by omega, fun j h1 h2 => ?_⟩, by omega, ?_⟩
         ·by_cases hji : j = i
          ·subst hji; exact hb
          ·exact hj j h1 (by omega)
         ·rw [hwi]
          exact Zw
       ·rw [hb] at hcal
        have := hall i hc; rw [hb] at this; cases this
      ·simp at hc
       (repeat refine ZQ ?_); refine awp_exit ?_; (first | show AWP _ _ _ _ _ | show ∃ _, _ | skip)
       cases bN
       ·cases hz : checkW w == 0
        ·(repeat refine ZQ ?_); refine ZR fun K hK => ?_; simp (maxSteps := 1000000) [ty28]
         refine ZP (q_trialOf27 w true true []) ?_; simp (maxSteps := 1000000) [ty62, ty28]
         refine ZP (hN) ?_; simp (maxSteps := 1000000) [ty4, ty28, ty3]
         refine ZP (hck) ?_; simp (maxSteps := 1000000) [ty37, ty28, ty3, hz]
         refine hK _ ?_; clear hK K
         (repeat refine ZQ ?_); refine awp_ret ?_; refine And.intro (Or.inr rfl) ?_
         simp [retC, resC, viewC, mapO, hz]
        ·by_cases h1 : 3 < w.gain
         ·(repeat refine ZQ ?_); refine ZR fun K hK => ?_; simp (maxSteps := 1000000) [ty28]
          refine ZP (q_trialOf27 w true true []) ?_; simp (maxSteps := 1000000) [ty62, ty28]
          refine ZP (hN) ?_; simp (maxSteps := 1000000) [ty4, ty28, ty3]
          refine ZP (hck) ?_; simp (maxSteps := 1000000) [ty37, ty28, ty3, ty26, hz, h1]
          refine hK _ ?_; clear hK K
          (repeat refine ZQ ?_); refine awp_ret ?_; refine And.intro (Or.inr rfl) ?_
          simp [retC, resC, viewC, mapO, hz, h1]
         ·by_cases h2 : 5 < w.last
          ·(repeat refine ZQ ?_); refine ZR fun K hK => ?_; simp (maxSteps := 1000000) [ty28]
           refine ZP (q_trialOf27 w true true []) ?_; simp (maxSteps := 1000000) [ty62, ty28]
           refine ZP (hN) ?_; simp (maxSteps := 1000000) [ty4, ty28, ty3]
           refine ZP (hck) ?_; simp (maxSteps := 1000000) [ty37, ty28, ty3, ty26, hz, h1, h2]
           refine hK _ ?_; clear hK K
           (repeat refine ZQ ?_); refine awp_ret ?_; refine And.intro (Or.inr rfl) ?_
           simp [retC, resC, viewC, mapO, hz, h1, h2]
          ·(repeat refine ZQ ?_); refine ZR fun K hK => ?_; simp (maxSteps := 1000000) [ty28]
           refine ZP (q_trialOf27 w true true []) ?_; simp (maxSteps := 1000000) [ty62, ty28]
           refine ZP (hN) ?_; simp (maxSteps := 1000000) [ty4, ty28, ty3]
           refine ZP (hck) ?_; simp (maxSteps := 1000000) [ty37, ty28, ty3, ty26, hz, h1, h2]
           refine hK _ ?_; clear hK K
           (repeat refine ZQ ?_); refine awp_ret ?_; refine And.intro (Or.inr rfl) ?_
           simp [retC, resC, viewC, mapO, hz, h1, h2]
       ·(repeat refine ZQ ?_); refine ZR fun K hK => ?_; simp (maxSteps := 1000000) [ty28]
        refine ZP (q_trialOf27 w true true []) ?_; simp (maxSteps := 1000000) [ty62, ty28]
        refine ZP (hN) ?_; simp (maxSteps := 1000000) [ty4, ty28, ty3]
        refine hK _ ?_; clear hK K
        (repeat refine ZQ ?_); refine awp_ret ?_; refine And.intro (Or.inr rfl) ?_
        simp [retC, resC, viewC, mapO]
   refine ⟨_, main _ (fun P h => h), fun h => ⟨by omega, hnl, fun hz => ?_⟩⟩
   simp only [Bool.or_eq_false_iff] at h
   have h2 := h.2
   rw [hz] at h2
   simp at h2
   omega
  ·refine ⟨true, ?_, by simp⟩
   refine ZF (fn := Tryz.f30) [.tmp 2] ⟨Tryz.func30, rfl, by kernel_rfl⟩ fun x hx hσ => ?_
   (repeat refine ZQ ?_); refine ZR fun K hK => ?_; simp (maxSteps := 1000000) [ty28]; refine hK _ ?_; clear hK K
   (repeat refine ZQ ?_); refine ZR fun K hK => ?_; simp (maxSteps := 1000000) [ty28, ty26, ty3, h20]; refine hK _ ?_; clear hK K
   (repeat refine ZQ ?_); refine ZC (hc := by simp [h20]; rfl) (fun hd => ?_) (fun hd => ?_)
   ·simp [h20] at hd
   ·clear hd
    refine awp_skip ?_
    (repeat refine ZQ ?_); refine ZR fun K hK => ?_; simp (maxSteps := 1000000) [ty3]; refine hK _ ?_; clear hK K
    (repeat refine ZQ ?_); refine awp_block ?_
    refine awp_loop (fun i : Nat => ⟨ofL [(1, .ptr 1 13 0 0), (3, encI i)], stoT [(1, 1, .live (obWs w))]⟩)
     (fun i => i ≤ w.vs.length ∧ ∀ j, (h : j < w.vs.length) → j < i → B w.vs[j] = false) (fun i => w.vs.length - i) 0 (by simp) ?_ ?_
    ·exact Zw
    ·intro i ⟨hi, hj⟩
     (repeat refine ZQ ?_); refine ZR fun K hK => ?_; simp (maxSteps := 1000000) [ty28, ty26, ty3]; refine hK _ ?_; clear hK K
     (repeat refine ZQ ?_); refine ZC (fun hc => ?_) (fun hc => ?_)
     ·simp at hc
      have hcal := (hB w.vs[i]).1
      have hwi : IntKind.i64.wrap ((i : Int) + 1) = ((i + 1 : Nat) : Int) := by rw [wrap_id (by omega) (by omega)]; rfl
      refine awp_skip ?_
      (repeat refine ZQ ?_); refine awp_block ?_
      cases hb : B w.vs[i]
      ·rw [hb] at hcal
       (repeat refine ZQ ?_); refine ZD [] [0, 1, 2, 3, 4, 5, 6, 7, 8] fun K hK => ?_; simp (maxSteps := 1000000) [ty28, ty26, ty53, ty51, ty3, hc]
       refine ZE (q_trialOf27 w w.vs[i].nl w.vs[i].fu w.vs[i].ts) ?_; simp (maxSteps := 1000000) [ty62]
       refine ZE (hcal) ?_; simp (maxSteps := 1000000)
       refine hK _ ?_; clear hK K
       (repeat refine ZQ ?_); refine ZC (fun hd => ?_) (fun hd => ?_)
       ·simp at hd
       ·clear hd
        refine awp_skip ?_
        (repeat refine ZQ ?_); refine ZR fun K hK => ?_; simp (maxSteps := 1000000) [ty3]; refine hK _ ?_; clear hK K; (first | show AWP _ _ _ _ _ | show ∃ _, _ | skip)
        refine ⟨i + 1, ⟨by omega, fun j h1 h2 => ?_⟩, by omega, ?_⟩
        ·by_cases hji : j = i
         ·subst hji; exact hb
         ·exact hj j h1 (by omega)
        ·rw [hwi]
         exact Zw
      ·rw [hb] at hcal
       (repeat refine ZQ ?_); refine ZD [] [0, 1, 2, 3, 4, 5, 6, 7, 8] fun K hK => ?_; simp (maxSteps := 1000000) [ty28, ty26, ty53, ty51, ty3, hc]
       refine ZE (q_trialOf27 w w.vs[i].nl w.vs[i].fu w.vs[i].ts) ?_; simp (maxSteps := 1000000) [ty62]
       refine ZE (hcal) ?_; simp (maxSteps := 1000000)
       refine hK _ ?_; clear hK K
       (repeat refine ZQ ?_); refine ZC (fun hd => ?_) (fun hd => ?_)
       ·clear hd
        (repeat refine ZQ ?_); refine ZR fun K hK => ?_; simp (maxSteps := 1000000); refine hK _ ?_; clear hK K
        (repeat refine ZQ ?_); refine awp_ret ?_; refine And.intro (Or.inr rfl) ?_
        simp [retC, resC, viewC, mapO]
       ·simp at hd
     ·simp at hc
      exact absurd (fun j h => hj j h (by omega)) hall

theorem ready13 (w : Ws) : ∃ b, Pure Tryz.prog 13 [encWs w] (.bool b) ∧ (b = true → checkW w = 0 ∧ NearW w) := by
 obtain ⟨f, hF, hf⟩ := far30 w
 cases f
 ·have hn := hf rfl
  have hck := q_check32 w hn.len
  refine ⟨checkW w == 0, ?_, fun h => ⟨by simpa using h, hn⟩⟩
  refine ZF (fn := Tryz.f13) [.tmp 2] ⟨Tryz.func13, rfl, by kernel_rfl⟩ fun x hx hσ => ?_
  (repeat refine ZQ ?_); refine ZR fun K hK => ?_; simp (maxSteps := 1000000) [ty28]; refine hK _ ?_; clear hK K
  (repeat refine ZQ ?_); refine ZR fun K hK => ?_; simp (maxSteps := 1000000) [ty28]
  refine ZP (hF) ?_; simp (maxSteps := 1000000) [ty4, ty28]
  refine ZP (hck) ?_; simp (maxSteps := 1000000) [ty37, ty4]
  refine hK _ ?_; clear hK K
  (repeat refine ZQ ?_); refine awp_ret ?_; refine And.intro (Or.inr rfl) ?_
  simp [retC, resC, viewC, mapO]
 ·refine ⟨false, ?_, by simp⟩
  refine ZF (fn := Tryz.f13) [.tmp 2] ⟨Tryz.func13, rfl, by kernel_rfl⟩ fun x hx hσ => ?_
  (repeat refine ZQ ?_); refine ZR fun K hK => ?_; simp (maxSteps := 1000000) [ty28]; refine hK _ ?_; clear hK K
  (repeat refine ZQ ?_); refine ZR fun K hK => ?_; simp (maxSteps := 1000000) [ty28]
  refine ZP (hF) ?_; simp (maxSteps := 1000000) [ty4, ty28]
  refine hK _ ?_; clear hK K
  (repeat refine ZQ ?_); refine awp_ret ?_; refine And.intro (Or.inr rfl) ?_
  simp [retC, resC, viewC, mapO]

theorem isKnown17 (e : Int) : Pure Tryz.prog 17 [encI e] (.bool (e == 0 || e == 3)) := by
 refine ZF (fn := Tryz.f17) [.tmp 2] ⟨Tryz.func17, rfl, by kernel_rfl⟩ fun x hx hσ => ?_
 (repeat refine ZQ ?_); refine ZR fun K hK => ?_; simp (maxSteps := 1000000); refine hK _ ?_; clear hK K; (first | show AWP _ _ _ _ _ | show ∃ _, _ | skip)
 cases h : (e == (0 : Int))
 ·(repeat refine ZQ ?_); refine ZR fun K hK => ?_; simp (maxSteps := 1000000) [ty37, h]; refine hK _ ?_; clear hK K
  (repeat refine ZQ ?_); refine awp_ret ?_; refine And.intro (Or.inr rfl) ?_
  simp [retC, resC, viewC, mapO, h]
 ·(repeat refine ZQ ?_); refine ZR fun K hK => ?_; simp (maxSteps := 1000000) [ty37, h]; refine hK _ ?_; clear hK K
  (repeat refine ZQ ?_); refine awp_ret ?_; refine And.intro (Or.inr rfl) ?_
  simp [retC, resC, viewC, mapO, h]

theorem l_in45 (nl fu : Bool) (A : List Int) (n : Int) (hn : A.length ≤ 1000000) : Pure Tryz.prog 45 [.sl nl fu (A.map cI), encI n] (.bool (decide (n ∈ A))) := by
 refine ZF (fn := Tryz.f45) [.tmp 4] ⟨Tryz.func45, rfl, by kernel_rfl⟩ fun x hx hσ => ?_
 (repeat refine ZQ ?_); refine ZR fun K hK => ?_; simp (maxSteps := 1000000); refine hK _ ?_; clear hK K
 (repeat refine ZQ ?_); refine ZR fun K hK => ?_; simp (maxSteps := 1000000)
 refine ZP (in41 nl fu A n hn) ?_; simp (maxSteps := 1000000)
 refine hK _ ?_; clear hK K
 (repeat refine ZQ ?_); refine awp_ret ?_; refine And.intro (Or.inr rfl) ?_
 simp [retC, resC, viewC, mapO]

theorem l_subset29 (nl fu nl' fu' : Bool) (A B : List Int) (hA : A.length ≤ 1000000) (hB : B.length ≤ 1000000) (hs : ∀ x ∈ A, x ∈ B) (hl : A.length ≤ B.length) : Pure Tryz.prog 29 [.sl nl fu (A.map cI), .sl nl' fu' (B.map cI)] (.bool true) := by
 refine ZF (fn := Tryz.f29) [.tmp 4] ⟨Tryz.func29, rfl, by kernel_rfl⟩ fun x hx hσ => ?_
 (repeat refine ZQ ?_); refine ZR fun K hK => ?_; simp (maxSteps := 1000000); refine hK _ ?_; clear hK K
 (repeat refine ZQ ?_); refine ZR fun K hK => ?_; simp (maxSteps := 1000000) [ty3]; refine hK _ ?_; clear hK K
 (repeat refine ZQ ?_); refine awp_block ?_
 refine awp_loop (fun i : Nat => ⟨ofL [(0, .sl nl fu (A.map cI)), (1, .sl nl' fu' (B.map cI)), (5, encI i)], stoT []⟩)
  (fun i => i ≤ A.length) (fun i => A.length - i) 0 (Nat.zero_le _) ?_ ?_
 ·exact Zw
 ·intro i hi
  (repeat refine ZQ ?_); refine ZR fun K hK => ?_; simp (maxSteps := 1000000) [ty29, ty3]; refine hK _ ?_; clear hK K
  (repeat refine ZQ ?_); refine ZC (fun hc => ?_) (fun hc => ?_)
  ·simp at hc
   have hwi : IntKind.i64.wrap ((i : Int) + 1) = ((i + 1 : Nat) : Int) := by rw [wrap_id (by omega) (by omega)]; rfl
   have hm := hs _ (List.getElem_mem hc)
   have hcal := l_in45 nl' fu' B A[i] hB
   rw [decide_eq_true hm] at hcal
   refine awp_skip ?_
   (repeat refine ZQ ?_); refine awp_block ?_
   (repeat refine ZQ ?_); refine ZR fun K hK => ?_; simp (maxSteps := 1000000) [ty29, ty3, hc]
   refine ZP (hcal) ?_; simp (maxSteps := 1000000) [ty4]
   refine hK _ ?_; clear hK K
   (repeat refine ZQ ?_); refine ZC (fun hd => ?_) (fun hd => ?_)
   ·simp at hd
   ·clear hd
    refine awp_skip ?_
    (repeat refine ZQ ?_); refine ZR fun K hK => ?_; simp (maxSteps := 1000000) [ty3]; refine hK _ ?_; clear hK K; (first | show AWP _ _ _ _ _ | show ∃ _, _ | skip)
    refine ⟨i + 1, by omega, by omega, ?_⟩
    rw [hwi]
    exact Zw
  ·simp at hc
   (repeat refine ZQ ?_); refine awp_exit ?_; (first | show AWP _ _ _ _ _ | show ∃ _, _ | skip)
   have hle : (A.length : Int) ≤ (B.length : Int) := by omega
   (repeat refine ZQ ?_); refine ZR fun K hK => ?_; simp (maxSteps := 1000000) [ty29, ty3, hle]; refine hK _ ?_; clear hK K
   (repeat refine ZQ ?_); refine awp_ret ?_; refine And.intro (Or.inr rfl) ?_
   simp [retC, resC, viewC, mapO]

/-- The question of the laws: two days, an area, and a seen area. -/
structure As where
  a : Int
  b : Int
  area : Int
  seen : Int
end Go.Proofs.YtknoachjpoibaaaGreat

/- What comes in, as data; and how a law's statement follows from a contract of data. No condition. -/
namespace Go.Abs
open Go.ChangeShapes Go.WideShapes Go.ChangeAt Go.RowKit

/-- The make of a cell. -/
inductive Sh where
  | int (k : IntKind)
  | bool
  | str
  | sl (l : List Sh)

mutual
/-- A value of a make. -/
def Fit : Sh → C → Prop
  | .int k, c => ∃ n, c = .int k n ∧ (Lit.int k n).wf = true
  | .bool, c => ∃ b, c = .bool b
  | .str, c => ∃ s : ByteArray, c = .str s ∧ s.size ≤ maxLen
  | .sl l, c => ∃ nl rows, c = .sl nl false rows ∧ (nl = true → rows = []) ∧ rows.length ≤ maxLen ∧ ∀ row ∈ rows, FitL l row
def FitL : List Sh → List C → Prop
  | [], m => m = []
  | s :: l, m => ∃ c r, m = c :: r ∧ Fit s c ∧ FitL l r
end

def shFs (P : Program) (g : TypeId → Option (List Sh)) : Nat → List Field → Option (List Sh)
 | _, [] => some []
 | o, f :: fs => match g f.type, shFs P g (o + P.cellsOf f.type) fs with
  | some l, some m => if f.offset = o ∧ l.length = P.cellsOf f.type then some (l ++ m) else none
  | _, _ => none

/-- The makes of a type's cells. -/
def shT (P : Program) : Nat → TypeId → Option (List Sh)
  | 0, _ => none
  | n + 1, t => match P.underlying t with
    | some (.int k) => some [.int k]
    | some .bool => some [.bool]
    | some .string => some [.str]
    | some (.slice e) => match shT P n e with
      | some l => if l.length = P.cellsOf e ∧ 0 < l.length then some [.sl l] else none
      | none => none
    | some (.struct fs) => match shFs P (shT P n) 0 fs.toList with
      | some l => if l.length = P.cellsOf t then some l else none
      | none => none
    | _ => none

theorem FitL.len : ∀ {l : List Sh} {m : List C}, FitL l m → m.length = l.length
 | [], m, h => by simp only [FitL] at h; subst h; rfl
 | s :: l, m, h => by
  simp only [FitL] at h
  obtain ⟨c, r, rfl, _, h⟩ := h
  simp [FitL.len h]

theorem FitL.append : ∀ {l l' : List Sh} {m m' : List C}, FitL l m → FitL l' m' → FitL (l ++ l') (m ++ m')
 | [], l', m, m', h, h' => by simp only [FitL] at h; subst h; exact h'
 | s :: l, l', m, m', h, h' => by
  simp only [FitL] at h
  obtain ⟨c, r, rfl, h1, h2⟩ := h
  simp only [List.cons_append, FitL]
  exact ⟨c, r ++ m', rfl, h1, h2.append h'⟩

def anyG : Nat → Prop := fun _ => True

/-- Cells that stand for values. -/
def OpL (W : World) (m : List C) (cs : List Value) : Prop := m.length = cs.length ∧ ∀ (i : Nat) (c : C), m[i]? = some c → PR anyG W c (cs[i]?.getD undef) ∧ c.cell = true

theorem exists_list {α : Type} {Q : Nat → α → Prop} : ∀ {n : Nat}, (∀ i, i < n → ∃ x, Q i x) → ∃ l : List α, l.length = n ∧ ∀ i x, l[i]? = some x → Q i x
 | 0, _ => ⟨[], rfl, by simp⟩
 | n + 1, h => by
  obtain ⟨l, h1, h2⟩ := exists_list (n := n) fun i hi => h i (by omega)
  obtain ⟨x, hx⟩ := h n (by omega)
  refine ⟨l ++ [x], by simp [h1], fun i y hy => ?_⟩
  rcases Nat.lt_or_ge i l.length with hlt | hge
  ·rw [List.getElem?_append_left hlt] at hy
   exact h2 i y hy
  ·rw [List.getElem?_append_right hge] at hy
   have : i = n := by
    have := (List.getElem?_eq_some_iff.1 hy).1
    simp at this; omega
   subst this
   rw [h1, Nat.sub_self] at hy
   simp at hy
   subst hy; exact hx

section
variable {H : Type} {enc : TypeId × Value → H} {P : Program} {W : World}

theorem spot_of {a : Addr} {q n : Nat} {v : Value} (h : W.cell? ((a.add q).add n) = some v) (h0 : q = 0 ∧ n = 0) : a.spot = none := by
 obtain ⟨rfl, rfl⟩ := h0
 simp only [Addr.add, if_true] at h
 unfold World.cell? at h
 split at h
 ·split at h
  ·simp at h
  ·rename_i hs
   cases hsp : a.spot with
   | none => rfl
   | some z => simp [hsp] at hs
 ·simp at h

theorem addr_full {a : Addr} (h : a.spot = none) (q n : Nat) : (a.add q).add n = ⟨a.block, a.off + (q + n), none⟩ := by
 obtain ⟨b, o, s⟩ := a
 simp only at h
 subst h
 rw [addr_add, addr_add, Nat.add_assoc]

theorem cells_at {a : Addr} {n : Nat} {cs : List Value} (h : W.cells? 0 a n = some cs) : cs.length = n ∧ ∀ i, i < n → W.cell? (a.add i) = cs[i]? := by
 unfold World.cells? at h
 rw [if_pos (Nat.zero_le _)] at h
 refine ⟨by simpa using mapM_some_length h, fun i hi => ?_⟩
 exact mapM_some_get h i i (by rw [List.getElem?_range hi])

theorem block_lt {a : Addr} {v : Value} (h : W.cell? a = some v) : a.block < W.heap.size := by
 unfold World.cell? at h
 split at h
 ·rename_i hh; exact (Array.getElem?_eq_some_iff.1 hh).1
 ·simp at h

/-- WHAT IS READ IS DATA. -/
theorem open_sound : ∀ (n : Nat) {fuel : Nat} {t : TypeId} {cs : List Value} {x : DataW H × List MemPlace} {shs : List Sh}, shT P n t = some shs → DataW.trod enc P W 0 (fun _ => true) true fuel t cs = some x →
    ∃ m, FitL shs m ∧ OpL W m cs
  | 0, _, _, _, _, _, h, _ => by simp [shT] at h
  | n + 1, fuel, t, cs, x, shs, h, ht => by
    unfold shT at h
    split at h
    · rename_i k hk
      simp only [Option.some.injEq] at h
      subst h
      obtain ⟨z, rfl, _, hw⟩ := DataW.trod_int hk ht
      refine ⟨[.int k z], ⟨_, _, rfl, ⟨z, rfl, hw⟩, rfl⟩, rfl, fun i c hi => ?_⟩
      cases i with
      | zero => simp at hi; subst hi; exact ⟨.int _ _, rfl⟩
      | succ i => simp at hi
    · rename_i hk
      simp only [Option.some.injEq] at h
      subst h
      obtain ⟨z, rfl, _⟩ := DataW.trod_bool hk ht
      refine ⟨[.bool z], ⟨_, _, rfl, ⟨z, rfl⟩, rfl⟩, rfl, fun i c hi => ?_⟩
      cases i with
      | zero => simp at hi; subst hi; exact ⟨.bool _, rfl⟩
      | succ i => simp at hi
    · rename_i hk
      simp only [Option.some.injEq] at h
      subst h
      obtain ⟨z, rfl, _, hz⟩ := DataW.trod_string hk ht
      refine ⟨[.str z], ⟨_, _, rfl, ⟨z, rfl, hz⟩, rfl⟩, rfl, fun i c hi => ?_⟩
      cases i with
      | zero => simp at hi; subst hi; exact ⟨.str _, rfl⟩
      | succ i => simp at hi
    · rename_i e hk
      split at h
      · rename_i l hl
        split at h
        · rename_i hc
          obtain ⟨hc1, hc2⟩ := hc
          simp only [Option.some.injEq] at h
          subst h
          have one : ∀ {nl : Bool} {rows : List (List C)} {v : Value}, cs = [v] → (nl = true → rows = []) → rows.length ≤ maxLen → (∀ row ∈ rows, FitL l row) → PR anyG W (.sl nl false rows) v → ∃ m, FitL [.sl l] m ∧ OpL W m cs := by
            intro nl rows v hcs h1 h2 h3 h4
            subst hcs
            refine ⟨[.sl nl false rows], ⟨_, _, rfl, ⟨nl, rows, rfl, h1, h2, h3⟩, rfl⟩, rfl, fun i c hi => ?_⟩
            cases i with
            | zero => simp at hi; subst hi; exact ⟨h4, rfl⟩
            | succ i => simp at hi
          rcases DataW.trod_slice hk ht with ⟨rfl, _⟩ | ⟨a, len, cap, elems, rest, q, _, rfl, _, hb, hlc, hcm, hel, hat, hsp, _⟩
          · exact one rfl (fun _ => rfl) (by simp) (by simp) (.slnil _)
          · obtain ⟨hrl, hrat⟩ := hsp rfl
            by_cases hcap : cap = 0
            · have : len = 0 := by omega
              subst this
              subst hcap
              exact one (nl := false) (rows := []) rfl (by simp) (by simp) (by simp) (.slemp _ _)
            · have hspot : a.spot = none ∧ a.block < W.heap.size := by
                by_cases h0 : len = 0
                · have := hrat 0 (by omega)
                  rw [List.getElem?_eq_getElem (by omega), Option.bind_eq_some_iff] at this
                  obtain ⟨cs0, g1, _⟩ := this
                  obtain ⟨g2, g3⟩ := cells_at g1
                  have g4 := g3 0 (by omega)
                  rw [List.getElem?_eq_getElem (by omega), h0] at g4
                  have hs := spot_of g4 ⟨by simp, rfl⟩
                  refine ⟨hs, ?_⟩
                  have := block_lt g4
                  rw [addr_full hs] at this
                  exact this
                · have := hat 0 (by omega)
                  rw [List.getElem?_eq_getElem (by omega), Option.bind_eq_some_iff] at this
                  obtain ⟨cs0, g1, _⟩ := this
                  obtain ⟨g2, g3⟩ := cells_at g1
                  have g4 := g3 0 (by omega)
                  rw [List.getElem?_eq_getElem (by omega)] at g4
                  have hs := spot_of g4 ⟨by simp, rfl⟩
                  refine ⟨hs, ?_⟩
                  have := block_lt g4
                  rw [addr_full hs] at this
                  exact this
              obtain ⟨hs, hlt⟩ := hspot
              have hrow : ∀ i, i < len → ∃ row, FitL l row ∧ ∀ (j : Nat) (c : C), row[j]? = some c → ∃ v, W.cell? ⟨a.block, a.off + (i * P.cellsOf e + j), none⟩ = some v ∧ PR anyG W c v ∧ c.cell = true := by
                intro i hi
                have h1 := hat i hi
                rw [List.getElem?_eq_getElem (by omega), Option.bind_eq_some_iff] at h1
                obtain ⟨cs0, g1, g2⟩ := h1
                obtain ⟨g3, g4⟩ := cells_at g1
                obtain ⟨row, r1, r2, r3⟩ := open_sound n hl g2
                refine ⟨row, r1, fun j c hj => ?_⟩
                have hjl : j < row.length := (List.getElem?_eq_some_iff.1 hj).1
                have g5 := g4 j (by omega)
                rw [addr_full hs] at g5
                obtain ⟨r4, r5⟩ := r3 j c hj
                rw [List.getElem?_eq_getElem (by omega)] at g5 r4
                exact ⟨_, g5, r4, r5⟩
              obtain ⟨rows, w1, w2⟩ := exists_list hrow
              refine one (nl := false) (rows := rows) rfl (by simp) (by omega) (fun row hr => ?_) ?_
              · obtain ⟨i, hi, rfl⟩ := List.getElem_of_mem hr
                exact (w2 i _ (List.getElem?_eq_getElem hi)).1
              · obtain ⟨b, o, s⟩ := a
                simp only at hs hlt
                subst hs
                refine .sl (sz := P.cellsOf e) (fun i j => (W.cell? ⟨b, o + (i * P.cellsOf e + j), none⟩).getD undef) trivial hlt w1.symm (by simp) (by omega) ?_ ?_ ?_ ?_
                · intro i row hi
                  rw [(w2 i row hi).1.len, hc1]
                · intro i row hi j c hj
                  obtain ⟨v, q1, q2, q3⟩ := (w2 i row hi).2 j c hj
                  simp only at q1
                  rw [q1]; rfl
                · intro i row hi j c hj
                  obtain ⟨v, q1, q2, q3⟩ := (w2 i row hi).2 j c hj
                  exact q3
                · intro i row hi j c hj
                  obtain ⟨v, q1, q2, q3⟩ := (w2 i row hi).2 j c hj
                  simp only at q1
                  rw [q1]; exact q2
        · simp at h
      · simp at h
    · rename_i fs hk
      split at h
      · rename_i l hl
        split at h
        · rename_i hc
          simp only [Option.some.injEq] at h
          subst h
          obtain ⟨xs, q, _, _, hlen, hxl, hf⟩ := DataW.trod_struct hk ht
          have go : ∀ (fl : List Field) (o : Nat) (shs : List Sh), shFs P (shT P n) o fl = some shs → (∀ f ∈ fl, ∃ y, DataW.trod enc P W 0 (fun _ => true) true q f.type ((cs.drop f.offset).take (P.cellsOf f.type)) = some y) → o + shs.length ≤ cs.length →
              ∃ m, FitL shs m ∧ ∀ (i : Nat) (c : C), m[i]? = some c → PR anyG W c (cs[o + i]?.getD undef) ∧ c.cell = true := by
            intro fl
            induction fl with
            | nil =>
              intro o shs h1 _ _
              simp only [shFs, Option.some.injEq] at h1
              subst h1
              exact ⟨[], rfl, by simp⟩
            | cons f fl ih =>
              intro o shs h1 h2 h3
              unfold shFs at h1
              split at h1
              · rename_i l1 l2 e1 e2
                split at h1
                · rename_i hc2
                  obtain ⟨ho, hl1⟩ := hc2
                  simp only [Option.some.injEq] at h1
                  subst h1
                  simp only [List.length_append] at h3
                  obtain ⟨y, hy⟩ := h2 f (by simp)
                  obtain ⟨m1, p1, p2, p3⟩ := open_sound n e1 hy
                  obtain ⟨m2, p4, p5⟩ := ih (o + P.cellsOf f.type) l2 e2 (fun g hg => h2 g (by simp [hg])) (by omega)
                  have hm1 := p1.len
                  refine ⟨m1 ++ m2, p1.append p4, fun i c hi => ?_⟩
                  rcases Nat.lt_or_ge i m1.length with hlt | hge
                  · rw [List.getElem?_append_left hlt] at hi
                    have := p3 i c hi
                    rw [List.getElem?_take_of_lt (by omega), List.getElem?_drop, ho] at this
                    exact this
                  · rw [List.getElem?_append_right hge] at hi
                    have := p5 _ c hi
                    rw [show o + P.cellsOf f.type + (i - m1.length) = o + i by omega] at this
                    exact this
                · simp at h1
              · simp at h1
          obtain ⟨m, m1, m2⟩ := go fs.toList 0 l hl (fun f hfm => by
            obtain ⟨i, hi, rfl⟩ := List.getElem_of_mem hfm
            have := hf i fs.toList[i] (by simp)
            rw [List.getElem?_eq_getElem (by simp at hi; omega)] at this
            exact ⟨_, this⟩) (by omega)
          exact ⟨m, m1, by rw [m1.len]; omega, fun i c hi => by have := m2 i c hi; rwa [Nat.zero_add] at this⟩
        · simp at h
      · simp at h
    · simp at h

def isAggT (P : Program) (t : TypeId) : Bool :=
 match P.underlying t with
 | some (.struct _) => true
 | _ => false

/-- What the parameters stand for. -/
def ArgsFit (P : Program) : List TypeId → List C → Prop
  | [], cs => cs = []
  | t :: ts, cs => ∃ shs m c r, cs = c :: r ∧ shT P 9 t = some shs ∧ FitL shs m ∧ (if isAggT P t then c = .agg m else m = [c]) ∧ ArgsFit P ts r

theorem open_args : ∀ {ts : List TypeId} {vs : List Value} {ds : List (DataW H)} {ps : List MemPlace}, DataW.TrodAll enc P W 0 (fun _ => true) true ts vs ds ps →
  (∀ (j : Nat) t v, ts[j]? = some t → vs[j]? = some v → ∃ base, Value.okWide P W .any base t v) → (ts.all fun t => (shT P 9 t).isSome) = true →
  ∃ cargs, ArgsFit P ts cargs ∧ cargs.length = vs.length ∧ ∀ (i : Nat) (c : C), cargs[i]? = some c → PR anyG W c (vs[i]?.getD undef)
 | [], [], [], _, _, _, _ => ⟨[], rfl, rfl, by simp⟩
 | t :: ts, v :: vs, d :: ds, ps, h, hv, hs => by
  obtain ⟨p, q, ⟨fuel, h1⟩, h2, _⟩ := h
  simp only [List.all_cons, Bool.and_eq_true] at hs
  obtain ⟨hs1, hs2⟩ := hs
  rw [Option.isSome_iff_exists] at hs1
  obtain ⟨shs, hs1⟩ := hs1
  obtain ⟨m, m1, m2, m3⟩ := open_sound 9 hs1 h1
  obtain ⟨cargs, a1, a2, a3⟩ := open_args h2 (fun j t' v' e1 e2 => hv (j + 1) t' v' (by simpa using e1) (by simpa using e2)) hs2
  obtain ⟨base, hok⟩ := hv 0 t v rfl rfl
  have fin : ∀ c, (if isAggT P t then c = .agg m else m = [c]) → PR anyG W c v → ∃ cargs, ArgsFit P (t :: ts) cargs ∧ cargs.length = (v :: vs).length ∧ ∀ (i : Nat) (c : C), cargs[i]? = some c → PR anyG W c ((v :: vs)[i]?.getD undef) := by
   intro c hc hp
   refine ⟨c :: cargs, ⟨shs, m, c, cargs, rfl, hs1, m1, hc, a1⟩, by simp [a2], fun i c' hi => ?_⟩
   cases i with
   | zero => simp at hi; subst hi; simpa using hp
   | succ i => simp at hi ⊢; exact a3 i c' hi
  by_cases hag : isAggT P t = true
  ·have hag0 := hag
   unfold isAggT at hag
   split at hag
   ·rename_i fs hfs
    obtain ⟨cs, rfl, hcs⟩ := okWide_struct hfs hok
    refine fin (.agg m) (by rw [if_pos hag0]) (.agg (by rw [m2]; simp [Value.cells]) fun i c hi => ?_)
    have := (m3 i c hi).1
    simpa [Value.cells] using this
   ·simp at hag
  ·have hag0 := hag
   have hone : ∃ sh, shs = [sh] ∧ oneCell v = true := by
    unfold isAggT at hag
    unfold shT at hs1
    split at hs1
    ·rename_i k hk
     obtain ⟨n, rfl⟩ := okWide_int hk hok
     exact ⟨_, (by simpa using hs1.symm), rfl⟩
    ·rename_i hk
     obtain ⟨n, rfl⟩ := okWide_bool hk hok
     exact ⟨_, (by simpa using hs1.symm), rfl⟩
    ·rename_i hk
     obtain ⟨n, rfl⟩ := okWide_string hk hok
     exact ⟨_, (by simpa using hs1.symm), rfl⟩
    ·rename_i e hk
     obtain ⟨a, l, cp, rfl⟩ := okWide_slice hk hok
     split at hs1
     ·split at hs1
      ·exact ⟨_, (by simpa using hs1.symm), rfl⟩
      ·simp at hs1
     ·simp at hs1
    ·rename_i fs hk
     rw [hk] at hag; simp at hag
    ·simp at hs1
   obtain ⟨sh, rfl, hov⟩ := hone
   have hm := m1.len
   have hm1 : m.length = 1 := hm
   obtain ⟨c, rfl⟩ := List.length_eq_one_iff.1 hm1
   refine fin c (by rw [if_neg hag0]) ?_
   have := (m3 0 c rfl).1
   rw [cells_one hov] at this
   simpa using this
 | [], _ :: _, _, _, h, _, _ => h.elim
 | [], [], _ :: _, _, h, _, _ => h.elim
 | _ :: _, [], _, _, h, _, _ => h.elim
 | _ :: _, _ :: _, [], _, h, _, _ => h.elim

/-- No slice of things without size. -/
def noEmptyB (P : Program) : Bool := (List.range P.types.size).all fun t => match P.underlying t with
  | some (.slice e) => decide (0 < P.cellsOf e)
  | _ => true

theorem same_of {W' : World} (g : Grew W W') {p : MemPlace} (h : p.block < W.heap.size) : W.sameAt W' p := by
 cases p with
 | cell b off =>
  show W'.cell? _ = W.cell? _
  unfold World.cell?
  rw [g.heap b h]
 | map b => exact g.heap b h

theorem shut_args {W' : World} (hl : laidOutB P = true) (hm : mapsRowed P = true) (hz : noEmptyB P = true) (g : Grew W W') {sp : Nat → Bool} : ∀ {ts : List TypeId} {vs : List Value} {ds : List (DataW H)} {ps : List MemPlace},
  (ts.all fun t => decide (t < P.types.size)) = true → DataW.TrodAll enc P W 0 (fun _ => true) true ts vs ds ps → (∀ p ∈ ps, p.block < W.heap.size) → (∀ p ∈ ps, sp p.block = true) → DataW.TrodAll enc P W' 0 sp true ts vs ds ps
 | [], [], [], _, _, h, _, _ => h
 | t :: ts, v :: vs, d :: ds, ps, ht, h, hb, hs => by
  obtain ⟨p, q, ⟨fuel, h1⟩, h2, rfl⟩ := h
  simp only [List.all_cons, Bool.and_eq_true, decide_eq_true_eq] at ht
  refine ⟨p, q, ⟨fuel, ?_⟩, shut_args hl hm hz g ht.2 h2 (fun r hr => hb r (by simp [hr])) (fun r hr => hs r (by simp [hr])), rfl⟩
  refine DataW.trod_stays (T := (· < P.types.size)) (kids_rows hl hm) (fun {t e} h3 h4 => ?_) (fun h => by simp at h) ht.1 h1 (fun r hr => same_of g (hb r (by simp; exact .inl hr))) (fun r hr => hs r (by simp; exact .inl hr))
  unfold noEmptyB at hz
  rw [List.all_eq_true] at hz
  have := hz t (by simpa using h3)
  rw [h4] at this
  simpa using this
 | [], _ :: _, _, _, _, h, _, _ => h.elim
 | [], [], _ :: _, _, _, h, _, _ => h.elim
 | _ :: _, [], _, _, _, h, _, _ => h.elim
 | _ :: _, _ :: _, [], _, _, h, _, _ => h.elim

theorem kept_of {W' : World} (g : Grew W W') (may : MemPlace → Prop) : W.keptBut W' may := by
 refine ⟨g.os, g.output, fun i hi => ?_⟩
 rw [g.heap i hi]
 cases h : W.heap[i]? with
 | none => trivial
 | some o => cases o <;> simp

/-- A LAW's STATEMENT, from a contract of data. -/
theorem law_contract {f : FuncId} {fn : Func} {s : ChangeSpec} {tb : TypeId} (hrt : fn.resultTypes = #[tb]) (htb : P.underlying tb = some .bool) (hvars : s.vars = [])
    (hspec : ∀ (ds : List (DataW H)), ds.length = fn.params.toList.length → s.fn H ds = { results := [.lit (.bool true)], args := ds })
    (hl : laidOutB P = true) (hm : mapsRowed P = true) (hz : noEmptyB P = true) (ht : (fn.params.toList.all fun t => decide (t < P.types.size)) = true) (hsh : (fn.params.toList.all fun t => (shT P 9 t).isSome) = true)
    (hcall : ∀ cargs, ArgsFit P fn.params.toList cargs → Pure P f cargs (.bool true))
    (W : World) (base : Nat) (args : Array Value) (ds gs : List (DataW H)) (before : List MemPlace) (hval : ∀ (j : Nat) t v, fn.params[j]? = some t → args[j]? = some v → Value.okWide P W .any base t v)
    (hW : DataW.Whole enc P fn.params.toList s.vars false W args.toList ds gs before) :
    Calls P f args W fun e W' => ∃ v, e = .returned v ∧ s.post enc P fn false true false false W args v W' := by
  have hW' := hW
  obtain ⟨p, q, hA, hV, rfl, hfz, hnd⟩ := hW
  rw [hvars] at hV
  obtain ⟨rfl, rfl⟩ := trodVars_none hV
  obtain ⟨cargs, c1, c2, c3⟩ := open_args hA (fun j t v e1 e2 => ⟨base, hval j t v (by simpa using e1) (by simpa using e2)⟩) hsh
  have hlen : ds.length = fn.params.toList.length := by
    have : ∀ {ts : List TypeId} {vs : List Value} {ds : List (DataW H)} {ps : List MemPlace}, DataW.TrodAll enc P W 0 (fun _ => true) true ts vs ds ps → ds.length = ts.length := by
      intro ts
      induction ts with
      | nil => intro vs ds ps h; cases vs <;> cases ds <;> first | rfl | exact h.elim
      | cons t ts ih =>
        intro vs ds ps h
        cases vs with
        | nil => exact h.elim
        | cons v vs =>
          cases ds with
          | nil => exact h.elim
          | cons d ds =>
            obtain ⟨_, _, _, h2, _⟩ := h
            simp [ih h2]
    exact this hA
  refine ((hcall cargs c1).calls anyG W args ⟨by simpa using c2.symm, fun i c hi => by have := c3 i c hi; simpa using this⟩).mono ?_
  rintro e W' ⟨v, rfl, hr, g⟩
  cases hr
  refine ⟨_, rfl, ds, [], p, [], p, [], ?_, ?_, ?_, ?_, kept_of g _, by simp⟩
  · simpa using hW'
  · rw [hspec (ds ++ []) (by simpa using hlen), hrt]
    refine ⟨[], [], ⟨1, ?_⟩, rfl, rfl⟩
    simp [DataW.trod, htb, Value.cells]
  · rw [hspec (ds ++ []) (by simpa using hlen)]
    simp only [List.append_nil]
    have hlt := hW'.lt
    exact shut_args hl hm hz g ht hA (fun r hr => hlt r (by simpa using hr)) (fun r hr => by simpa using hlt r (by simpa using hr))
  · rw [hvars, hspec (ds ++ []) (by simpa using hlen)]
    rfl
end
end Go.Abs

namespace Go.Proofs.YtknoachjpoibaaaGreat
open Go Go.Abs

set_option maxHeartbeats 2000000
set_option maxRecDepth 100000

-- what comes in

abbrev i64s (n : Nat) : List Sh := List.replicate n (.int .i64)

theorem rows_map {α : Type} {f : α → List C} : ∀ {rows : List (List C)}, (∀ row ∈ rows, ∃ a, row = f a) → ∃ l : List α, rows = l.map f
 | [], _ => ⟨[], rfl⟩
 | r :: rows, h => by
  obtain ⟨a, rfl⟩ := h r (by simp)
  obtain ⟨l, rfl⟩ := rows_map (rows := rows) fun x hx => h x (by simp [hx])
  exact ⟨a :: l, rfl⟩

theorem fit_app {l : List Sh} : ∀ {n : Nat} {m : List C}, FitL (i64s n ++ l) m → ∃ (zs : List Int) (r : List C), zs.length = n ∧ m = zs.map encI ++ r ∧ FitL l r
 | 0, m, h => ⟨[], m, rfl, rfl, by simpa using h⟩
 | n + 1, m, h => by
  simp only [i64s, List.replicate_succ, List.cons_append, FitL, Fit] at h
  obtain ⟨c, r, rfl, ⟨z, rfl, _⟩, h2⟩ := h
  obtain ⟨zs, r', h3, rfl, h4⟩ := fit_app h2
  exact ⟨z :: zs, r', by simp [h3], rfl, h4⟩

theorem fit_flat {n : Nat} {m : List C} (h : FitL (i64s n) m) : ∃ zs : List Int, zs.length = n ∧ m = zs.map encI := by
 have h' : FitL (i64s n ++ []) m := by simpa using h
 obtain ⟨zs, r, h1, h2, h3⟩ := fit_app h'
 simp only [FitL] at h3
 subst h3
 exact ⟨zs, h1, by simpa using h2⟩

theorem fit_sl {s l : List Sh} {m : List C} (h : FitL (.sl s :: l) m) : ∃ (nl : Bool) (rows r : List (List C)) (m' : List C), m = .sl nl false rows :: m' ∧ (∀ row ∈ rows, FitL s row) ∧ FitL l m' := by
 simp only [FitL, Fit] at h
 obtain ⟨c, r, rfl, ⟨nl, rows, rfl, _, _, h5⟩, h6⟩ := h
 exact ⟨nl, rows, [], r, rfl, h5, h6⟩

theorem arg_agg {t : TypeId} {s : List Sh} (hs : shT Tryz.prog 9 t = some s) (ha : isAggT Tryz.prog t = true) {cs : List C} {ts : List TypeId} (h : ArgsFit Tryz.prog (t :: ts) cs) : ∃ (m r : List C), cs = .agg m :: r ∧ FitL s m ∧ ArgsFit Tryz.prog ts r := by
 simp only [ArgsFit] at h
 obtain ⟨shs, m, c, r, rfl, h1, h2, h3, h4⟩ := h
 rw [hs] at h1
 cases h1
 rw [ha, if_pos rfl] at h3
 subst h3
 exact ⟨m, r, rfl, h2, h4⟩

theorem sh28 : shT Tryz.prog 9 28 = some (i64s 11 ++ ([.sl [.int .i64, .sl [.int .i64, .sl (i64s 5)]]] ++ i64s 1)) := by kernel_rfl
theorem ag28 : isAggT Tryz.prog 28 = true := by kernel_rfl
theorem sh31 : shT Tryz.prog 9 31 = some (i64s 2) := by kernel_rfl
theorem ag31 : isAggT Tryz.prog 31 = true := by kernel_rfl
theorem sh55 : shT Tryz.prog 9 55 = some ([.int .i64, .sl [.int .i64, .sl (i64s 5)]] ++ i64s 3) := by kernel_rfl
theorem ag55 : isAggT Tryz.prog 55 = true := by kernel_rfl

theorem fit_walks {rows : List (List C)} (h : ∀ row ∈ rows, FitL (i64s 5) row) : ∃ l : List Wl, rows = l.map cWl := by
 refine rows_map fun row hr => ?_
 obtain ⟨zs, e1, rfl⟩ := fit_flat (h row hr)
 match zs, e1 with
 | [a, b, c, d, e], _ => exact ⟨⟨a, b, c, d, e⟩, rfl⟩

theorem fit_test {l : List Sh} {m : List C} (h : FitL (.int .i64 :: .sl (i64s 5) :: l) m) : ∃ (y : Ts) (m' : List C), m = cTs y ++ m' ∧ FitL l m' := by
 have h' : FitL (i64s 1 ++ (.sl (i64s 5) :: l)) m := h
 obtain ⟨zs, r, e1, rfl, h2⟩ := fit_app h'
 obtain ⟨nl, rows, _, m', rfl, h3, h4⟩ := fit_sl h2
 obtain ⟨wl, rfl⟩ := fit_walks h3
 match zs, e1 with
 | [a], _ => exact ⟨⟨a, nl, false, wl⟩, m', rfl, h4⟩

theorem fit_visit {l : List Sh} {m : List C} (h : FitL (.int .i64 :: .sl [.int .i64, .sl (i64s 5)] :: l) m) : ∃ (v : Vs) (m' : List C), m = cVs v ++ m' ∧ FitL l m' := by
 have h' : FitL (i64s 1 ++ (.sl [.int .i64, .sl (i64s 5)] :: l)) m := h
 obtain ⟨zs, r, e1, rfl, h2⟩ := fit_app h'
 obtain ⟨nl, rows, _, m', rfl, h3, h4⟩ := fit_sl h2
 obtain ⟨ts, rfl⟩ := rows_map (f := cTs) (rows := rows) fun row hr => by
  obtain ⟨y, m', rfl, h6⟩ := fit_test (l := []) (h3 row hr)
  simp only [FitL] at h6
  subst h6
  exact ⟨y, by simp⟩
 match zs, e1 with
 | [a], _ => exact ⟨⟨a, nl, false, ts⟩, m', rfl, h4⟩

theorem argWear {cs : List C} {ts : List TypeId} (h : ArgsFit Tryz.prog (28 :: ts) cs) : ∃ (w : Ws) (r : List C), cs = encWs w :: r ∧ ArgsFit Tryz.prog ts r := by
 obtain ⟨m, r, rfl, h1, h2⟩ := arg_agg sh28 ag28 h
 obtain ⟨zs, r', e1, rfl, h3⟩ := fit_app h1
 obtain ⟨nl, rows, _, m', rfl, h4, h5⟩ := fit_sl h3
 obtain ⟨ys, e2, rfl⟩ := fit_flat h5
 obtain ⟨l, rfl⟩ := rows_map (f := cVs) (rows := rows) fun row hr => by
  obtain ⟨v, m', rfl, h6⟩ := fit_visit (l := []) (h4 row hr)
  simp only [FitL] at h6
  subst h6
  exact ⟨v, by simp⟩
 match zs, e1, ys, e2 with
 | [a, b, c, d, e, f, g, i, j, k, n], _, [o], _ => exact ⟨⟨⟨a, b, c, d, e, f, g, i⟩, j, k, n, nl, false, l, o⟩, r, rfl, h2⟩

theorem argClass {cs : List C} {ts : List TypeId} (h : ArgsFit Tryz.prog (31 :: ts) cs) : ∃ (c : Cl) (r : List C), cs = encCl c :: r ∧ ArgsFit Tryz.prog ts r := by
 obtain ⟨m, r, rfl, h1, h2⟩ := arg_agg sh31 ag31 h
 obtain ⟨zs, e1, rfl⟩ := fit_flat h1
 match zs, e1 with
 | [a, b], _ => exact ⟨⟨a, b⟩, r, rfl, h2⟩
theorem argMore {cs : List C} {ts : List TypeId} (h : ArgsFit Tryz.prog (55 :: ts) cs) : ∃ (v : Vs) (a b c : Int) (r : List C), cs = .agg (cVs v ++ [encI a, encI b, encI c]) :: r ∧ ArgsFit Tryz.prog ts r := by
 obtain ⟨m, r, rfl, h1, h2⟩ := arg_agg sh55 ag55 h
 obtain ⟨v, m', rfl, h3⟩ := fit_visit h1
 obtain ⟨zs, e1, rfl⟩ := fit_flat h3
 match zs, e1 with
 | [a, b, c], _ => exact ⟨v, a, b, c, r, rfl, h2⟩

theorem arg_end {cs : List C} (h : ArgsFit Tryz.prog [] cs) : cs = [] := h

end Go.Proofs.YtknoachjpoibaaaGreat

/- The facts of the program that every statement's join asks. No condition. -/
namespace Go.Proofs.YtknoachjpoibaaaGreat
open Go Go.Abs
open Go.ChangeShapes Go.WideShapes Go.ChangeAt Go.RowKit

theorem J.own : ownKnob Tryz.prog.godebug = none := by kernel_rfl
theorem J.laid : laidOutB Tryz.prog = true := by kernel_rfl
theorem J.maps : mapsRowed Tryz.prog = true := by kernel_rfl
theorem J.sized : noEmptyB Tryz.prog = true := by kernel_rfl
theorem J.ub : Tryz.prog.underlying 4 = some .bool := by kernel_rfl
end Go.Proofs.YtknoachjpoibaaaGreat

namespace Go.Proofs.YtknoachjpoibaaaGreat
open Go Go.Abs

set_option maxHeartbeats 4000000

-- plain laws of the day to come back; Beyond

theorem due_some {c : Co} {k : Cl} {n : Nat} (h : dueO c k = some n) : n < (c.last + 1).toNat ∧ (onC c (n : Nat) []).any (byC k) = true ∧ ∀ d, d < n → (onC c (d : Nat) []).any (byC k) = false := by
 unfold dueO at h
 rw [List.find?_range_eq_some] at h
 exact ⟨List.mem_range.1 h.2.1, h.1, fun d hd => by have := h.2.2 d hd; simpa using this⟩
theorem due_none {c : Co} {k : Cl} (h : dueO c k = none) : ∀ d, d < (c.last + 1).toNat → (onC c (d : Nat) []).any (byC k) = false := by
 unfold dueO at h
 rw [List.find?_range_eq_none] at h
 exact fun d hd => by have := h d hd; simpa using this

theorem openW_known {w : Ws} (h : checkW w = 0) : openW w true = 0 ∨ openW w true = 3 := by
 unfold openW
 rw [if_neg (by simpa using h), if_neg (by simp)]
 split
 ·exact .inr rfl
 ·exact .inl rfl

theorem openW_true' {w : Ws} (h1 : checkW w = 0) (h3 : canC (co w (gl w)) [] = true) : openW w true = 0 := by
 unfold openW; rw [if_neg (by simpa using h1), if_neg (by simp), if_neg (by rw [h3]; simp)]

theorem dueE_known {w : Ws} {k : Cl} (h : checkW w = 0) (hk : classB k = true) : dueE w k = 0 ∨ dueE w k = 3 := by
 unfold dueE
 split
 ·split
  ·exact .inl rfl
  ·exact .inr rfl
 ·rw [hk]; exact openW_known h

theorem dueE_zero {w : Ws} {k : Cl} (h : dueE w k = 0) : openW w (classB k) = 0 ∧ ∃ n, dueO (co w (gl w)) k = some n ∧ dueV w k = n := by
 unfold dueE at h
 by_cases hz : openW w (classB k) = 0
 ·rw [if_pos hz] at h
  refine ⟨hz, ?_⟩
  unfold dueV
  rw [if_pos hz]
  cases hd : dueO (co w (gl w)) k with
  | none => rw [hd] at h; simp at h
  | some n => exact ⟨n, rfl, rfl⟩
 ·rw [if_neg hz] at h; exact absurd h hz

set_option maxHeartbeats 16000000

-- THE THEOREM THAT IT ONLY WEARS


theorem seqN_sorted (a : Int) (n : Nat) : (seqN a n).Pairwise (· < ·) := by
 unfold seqN
 rw [List.pairwise_map]
 exact List.pairwise_lt_range.imp fun h => by omega

theorem onC_sorted (c : Co) (day : Int) (M : List (Int × Int)) : (onC c day M).Pairwise (· < ·) := (seqN_sorted _ _).filter _

set_option maxHeartbeats 8000000

-- Errs

set_option maxHeartbeats 8000000

-- Real

set_option maxHeartbeats 16000000
set_option maxRecDepth 20000

-- THE THEOREM OF THE BLAME


set_option maxHeartbeats 8000000

-- Strange and Real

set_option maxHeartbeats 16000000
set_option maxRecDepth 20000

-- THE THEOREM OF EACH TRUTH


set_option maxHeartbeats 8000000

set_option maxHeartbeats 8000000

-- a copy of an instrument

def copyV (v : Vs) : Vs := ⟨v.day, v.ts.isEmpty, false, v.ts.map copyY⟩
def copyW (w : Ws) : Ws := { w with nl := w.vs.isEmpty, fu := false, vs := w.vs.map copyV }

@[simp] abbrev cWo (w : Ws) (c : C) : List C := [encI w.w.full, encI w.w.read, encI w.w.slip, encI w.w.skew, encI w.w.circle, encI w.w.glow, encI w.w.ghigh, encI w.w.wrong, encI w.gain, encI w.last, encI w.drop, c, encI w.wrong]
@[simp] abbrev zWs : List C := [encI 0, encI 0, encI 0, encI 0, encI 0, encI 0, encI 0, encI 0, encI 0, encI 0, encI 0, .sl true true [], encI 0]

theorem q_copy23 (w : Ws) (hn : WsLen w) : Pure Tryz.prog 23 [encWs w] (encWs (copyW w)) := by
 have hlt := hn.vs
 obtain ⟨U, hU⟩ : ∃ U : Nat → List Vs, ∀ i, U i = (w.vs.take i).map copyV := ⟨_, fun _ => rfl⟩
 have hU0 : U 0 = [] := by rw [hU]; rfl
 have hUl : ∀ i, i ≤ w.vs.length → (U i).length = i := fun i hi => by rw [hU]; simp; omega
 have hUs : ∀ i (hi : i < w.vs.length), U (i + 1) = U i ++ [copyV w.vs[i]] := fun i hi => by rw [hU, hU, List.take_succ_eq_append_getElem hi, List.map_append]; rfl
 have hUn : w.vs.map copyV = U w.vs.length := by rw [hU, List.take_length]
 unfold copyW
 rw [hUn]
 clear hUn hU
 refine ZF (fn := Tryz.f23) [.cell 2 28] ⟨Tryz.func23, rfl, by kernel_rfl⟩ fun x hx hσ => ?_
 (repeat refine ZQ ?_); refine ZR fun K hK => ?_; simp (maxSteps := 1000000) [ty28]; refine hK _ ?_; clear hK K
 (repeat refine ZQ ?_); refine ZR fun K hK => ?_; simp (maxSteps := 1000000) [ty28]; refine hK _ ?_; clear hK K
 (repeat refine ZQ ?_); refine ZR fun K hK => ?_; simp (maxSteps := 1000000) [ty28, ty26]; refine hK _ ?_; clear hK K
 (repeat refine ZQ ?_); refine ZR fun K hK => ?_; simp (maxSteps := 1000000) [ty3]; refine hK _ ?_; clear hK K
 (repeat refine ZQ ?_); refine awp_block ?_
 refine AWP.weak ?_ (wk_nilCell 3 0 11 1000 2 (o := ⟨false, false, 13, [cWo w (.sl true true [])]⟩) (row := cWo w (.sl true true [])) (fu := true) (by simp) rfl rfl rfl (by simp) (by decide))
 refine awp_loop (fun i : Nat => ⟨ofL [(1, .ptr 1 13 0 0), (2, .ptr 2 13 0 0), (3, .ptr 3 13 0 0), (4, encI i)],
   stoT [(1, 1, .live (obWs w)), (2, 2, .live ⟨false, false, 13, [zWs]⟩), (3, 3, .live ⟨false, false, 13, [cWo w (.own 1000 2 0 i)]⟩), (1000, 1000, .live ⟨(U i).isEmpty, false, 2, (U i).map cVs⟩)]⟩)
  (fun i => i ≤ w.vs.length) (fun i => w.vs.length - i) 0 (Nat.zero_le _) ?_ ?_
 ·refine wk_shape (shp0 hσ (by simp) (by simp) ?_) ?_
  ·simp [SlotOk, hU0] <;> (repeat' (first | (refine RowsOk.same ?_; simp [purel, C.isPure]; done) | (refine rowsCons ?_; simp [mtl, mtc, mT, mH, C.isPure, purel]; done) | (refine rowsCons ?_; simp [mtl, mtc, mT, mH, C.isPure, purel]) | refine And.intro ?_ ?_))
  ·simp [mtc, mtl, mT, C.isPure, purel, hU0] <;> (try simp (disch := omega) [wrap_id]) <;> (try omega)
 ·intro i hi
  have hUi := hUl i hi
  (repeat refine ZQ ?_); refine ZR fun K hK => ?_; simp (maxSteps := 1000000) [ty28, ty26, ty3]; refine hK _ ?_; clear hK K
  (repeat refine ZQ ?_); refine ZC (fun hc => ?_) (fun hc => ?_)
  ·simp at hc
   refine awp_skip ?_
   (repeat refine ZQ ?_); refine awp_block ?_
   have hst := hUs i hc
   have hln := hn.l _ (List.getElem_mem hc)
   have hcp := q_copy10 (tiV w w.vs[i]) hln
   simp only [copyT] at hcp
   have hcv : copyV w.vs[i] = ⟨w.vs[i].day, w.vs[i].ts.isEmpty, false, w.vs[i].ts.map copyY⟩ := rfl
   rw [hcv] at hst
   generalize hV : U i = V at *
   have hwi : IntKind.i64.wrap ((i : Int) + 1) = ((i + 1 : Nat) : Int) := by rw [wrap_id (by omega) (by omega)]; rfl
   generalize w.vs[i].ts.map copyY = tc at *
   (repeat refine ZQ ?_); refine ZD [] [0, 1, 2, 3, 4, 5, 6, 7, 8, 9, 10, 11, 12, 13, 14, 15, 16, 17, 18, 19, 20, 21, 22] fun K hK => ?_; simp (maxSteps := 1000000) [ty28, ty26, ty3, ty53, ty51, ty62, hc]
   refine ZE (q_trialOf27 w w.vs[i].nl w.vs[i].fu w.vs[i].ts) ?_; simp (maxSteps := 1000000) [ty62]
   refine ZE (hcp) ?_; simp (maxSteps := 1000000) [ty28, ty26, ty3, ty53, ty51, ty62, hc, hUi]
   refine ⟨by omega, ?_⟩
   refine hK _ ?_; clear hK K
   (repeat refine ZQ ?_); refine ZR fun K hK => ?_; simp (maxSteps := 1000000) [ty3]; refine hK _ ?_; clear hK K; (first | show AWP _ _ _ _ _ | show ∃ _, _ | skip)
   refine ⟨i + 1, by omega, by omega, ?_⟩
   rw [hst, hwi]
   refine wk_shape2 [(1, 1, .live (obWs w)), (2, 2, .live ⟨false, false, 13, [zWs]⟩), (3, 3, .live ⟨false, false, 13, [cWo w (.own 1000 2 0 (i + 1))]⟩), (1000, 34, .live ⟨(V ++ [(⟨w.vs[i].day, w.vs[i].ts.isEmpty, false, tc⟩ : Vs)]).isEmpty, false, 2, (V ++ [(⟨w.vs[i].day, w.vs[i].ts.isEmpty, false, tc⟩ : Vs)]).map cVs⟩)] (by first | rfl | (simp only [if_pos, if_true]; rfl)) (shp0 hσ (by simp) (by simp) ?_) ?_
   ·simp [SlotOk] <;> (repeat' (first | (refine RowsOk.same ?_; simp [purel, C.isPure]; done) | (refine rowsCons ?_; simp [mtl, mtc, mT, mH, C.isPure, purel]; done) | (refine rowsCons ?_; simp [mtl, mtc, mT, mH, C.isPure, purel]) | refine And.intro ?_ ?_))
   ·simp [mtc, mtl, mT, C.isPure, purel] <;> (try simp (disch := omega) [wrap_id]) <;> (try omega)
  ·simp at hc
   (repeat refine ZQ ?_); refine awp_exit ?_; (first | show AWP _ _ _ _ _ | show ∃ _, _ | skip)
   have hin : i = w.vs.length := by omega
   rw [hin] at hUi ⊢
   have hem : (U w.vs.length).isEmpty = w.vs.isEmpty := by
    cases h1 : U w.vs.length <;> cases h2 : w.vs <;> rw [h1, h2] at hUi <;> simp at hUi <;> rfl
   generalize U w.vs.length = V at *
   rw [hem]
   refine AWP.weak ?_ (wk_frzCell 1000 3 0 11 (o := ⟨w.vs.isEmpty, false, 2, V.map cVs⟩) (oq := ⟨false, false, 13, [cWo w (.own 1000 2 0 w.vs.length)]⟩) (row := cWo w (.own 1000 2 0 w.vs.length)) (c := .own 1000 2 0 w.vs.length) (c' := .sl w.vs.isEmpty false (V.map cVs)) (by simp) (all_purel_map fun _ => rfl) (by simp) (by decide) rfl rfl rfl (fz_own rfl (by simp [hUi]) (by simp)) rfl)
   (repeat refine ZQ ?_); refine ZR fun K hK => ?_; simp (maxSteps := 1000000) [ty28]; refine hK _ ?_; clear hK K
   (repeat refine ZQ ?_); refine awp_ret ?_; refine And.intro (Or.inr rfl) ?_
   simp [retC, resC, viewC, mapO, ty28]

set_option maxHeartbeats 8000000

theorem isTrB_mem {t : Ti} {k : Tr} (h : isTrB t k = true) : k ∈ truthsS t (allS t) := by
 have hk : k ∈ allT (gwT t) := by
  unfold isTrB at h
  simp only [Bool.and_eq_true] at h
  have h1 : -t.gain ≤ k.area ∧ k.area ≤ t.gain := by simpa [withinB] using h.1.1
  have h2 : -t.w.skew ≤ k.skew ∧ k.skew ≤ t.w.skew := by simpa [withinB] using h.1.2
  exact allT_mem.2 ⟨h1, h2⟩
 rw [← truths_filter]
 exact List.mem_filter.2 ⟨hk, h⟩

set_option maxHeartbeats 8000000

theorem sub_len {α : Type} : ∀ (A B : List α), A.Nodup → (∀ a ∈ A, a ∈ B) → A.length ≤ B.length
 | [], _, _, _ => Nat.zero_le _
 | a :: A, B, hn, hs => by
  have h1 := List.nodup_cons.1 hn
  obtain ⟨P, Q, rfl⟩ := List.append_of_mem (hs a (by simp))
  have ih := sub_len A (P ++ Q) h1.2 fun b hb => by
   have hne : b ≠ a := fun e => h1.1 (e ▸ hb)
   have := hs b (by simp [hb])
   simp [hne] at this
   simp [this]
  simp only [List.length_append, List.length_cons] at ih ⊢
  omega

/-- All truths of a trial. -/
abbrev trL (t : Ti) : List Tr := truthsS t (allS t)

theorem trL_mem {t : Ti} {k : Tr} : k ∈ trL t ↔ isTrB t k = true := by
 refine ⟨fun h => ?_, isTrB_mem⟩
 have h' : k ∈ (allT (gwT t)).filter (isTrB t) := by rw [truths_filter]; exact h
 exact (List.mem_filter.1 h').2
theorem openT_true {t : Ti} (h : checkT t = 0) : openT t true = if trL t = [] then 3 else 0 := by
 unfold openT
 rw [if_neg (by simpa using h), if_neg (by decide)]

theorem nums_sub {f : Tr → Int} {t o : Ti} {is : Bool} (ht : openT t is = 0) (ho : openT o is = 0) (hs : ∀ k ∈ trL o, k ∈ trL t) :
  (∀ z ∈ numsT f o is, z ∈ numsT f t is) ∧ (numsT f o is).length ≤ (numsT f t is).length := by
 have h1 : ∀ z ∈ numsT f o is, z ∈ numsT f t is := by
  intro z hz
  obtain ⟨_, k, hk, e⟩ := numsT_mem hz
  rw [(numsT_ok ht).1, kindsL_mem]
  exact ⟨k, hs k hk, e⟩
 refine ⟨h1, sub_len _ _ ?_ h1⟩
 rw [(numsT_ok ho).1]
 exact kindsL_nodup _ _

/-- A greater gain, in new memory. -/
def wideT (t : Ti) (g : Int) : Ti := { copyT t with gain := t.gain + g }

theorem copy_all (w : Wh) (l : List Ts) (k : Tr) : (l.map copyY).all (fun y => allowB w y k) = l.all fun y => allowB w y k := by
 rw [List.all_map]; rfl

theorem wide_sub (t : Ti) {g : Int} (hg : 0 ≤ g) : ∀ k ∈ trL t, k ∈ trL (wideT t g) := by
 intro k hk
 rw [trL_mem] at hk ⊢
 unfold isTrB at hk ⊢
 have e1 : (wideT t g).ts = t.ts.map copyY := rfl
 have e2 : (wideT t g).w = t.w := rfl
 have e3 : (wideT t g).gain = t.gain + g := rfl
 rw [e1, e2, e3, copy_all]
 simp only [Bool.and_eq_true, withinB, decide_eq_true_eq] at hk ⊢
 refine ⟨⟨⟨?_, ?_⟩, hk.1.2⟩, hk.2⟩ <;> omega

set_option maxHeartbeats 16000000
set_option maxRecDepth 20000

-- THE THEOREM OF WHAT A VISIT TELLS


end Go.Proofs.YtknoachjpoibaaaGreat

