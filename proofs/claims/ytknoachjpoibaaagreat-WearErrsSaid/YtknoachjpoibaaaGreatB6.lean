/- The machine of abstract values and the contracts of the functions of the program, which the statements of this seat share. No condition. -/
import Derived.Test.YtknoachjpoibaaaGreatB5

set_option linter.unusedSimpArgs false
set_option linter.unusedVariables false
set_option linter.constructorNameAsVariable false

namespace Go.Proofs.YtknoachjpoibaaaGreat
open Go Go.Abs

set_option maxHeartbeats 8000000

-- Real

/-- What Real answers. -/
def realW (w : Ws) (day s : Int) : List Int := if openW w (dayB w day && countB s) = 0 then fixTo (fun a => (onC (co w (gl w)) day []).any fun g => seenA a g == s) 9001 else []


theorem w_real48 (w : Ws) (day s : Int) (hn : WsLen w) : Pure Tryz.prog 48 [encWs w, encI day, encI s] (.tup [.sl (realW w day s).isEmpty (openW w (dayB w day && countB s) != 0) ((realW w day s).map cI), encI (openW w (dayB w day && countB s))]) := by
 by_cases hz : openW w (dayB w day && countB s) = 0
 ·obtain ⟨hok, his, hcan⟩ := openW_ok hz
  have hop := open_yes hn hz
  have hnum := hok.num
  have hT : realW w day s = fixTo (fun a => (onC (co w (gl w)) day []).any fun g => seenA a g == s) 9001 := if_pos hz
  have hco := collOn w (gl w) true true [] [] day hnum (by simp)
  simp only [rowsK_nil] at hco
  have hmem : ∀ z ∈ onC (co w (gl w)) day [], -50 ≤ z ∧ z ≤ 50 := fun z hz' => by
   have h1 := onC_bd hz'
   have h2 := hnum.gain
   simp only at h1
   omega
  have hln := onC_len (co w (gl w)) day [] hnum.gain
  rw [hT, hz]
  generalize onC (co w (gl w)) day [] = G at *
  obtain ⟨A, hA⟩ : ∃ A : Nat → List Int, ∀ i, A i = fixTo (fun a => G.any fun g => seenA a g == s) i := ⟨_, fun _ => rfl⟩
  have hA0 : A 0 = [] := hA 0
  have hAl : ∀ i, (A i).length ≤ i := fun i => by rw [hA]; exact fixTo_len _ _
  have hAs : ∀ i : Nat, A (i + 1) = if (G.any fun g => seenA i g == s) then A i ++ [(i : Int)] else A i := fun i => by rw [hA, hA]; rfl
  rw [← hA]
  clear hA hT
  simp only [Bool.and_eq_true] at his
  rw [his.1, his.2] at hop
  simp only [Bool.and_self] at hop
  refine ZF (fn := Tryz.f48) [.tmp 6, .tmp 7] ⟨Tryz.func48, rfl, by kernel_rfl⟩ fun x hx hσ => ?_
  (repeat refine ZQ ?_); refine ZR fun K hK => ?_; simp (maxSteps := 1000000) [ty28, ty37, ty29]; refine hK _ ?_; clear hK K
  (repeat refine ZQ ?_)
  refine awp_scope ?_
  (repeat refine ZQ ?_); refine ZD [] [0, 1, 2, 3, 4, 5, 6, 7, 8, 9, 10, 11, 12, 13, 14] fun K hK => ?_; simp (maxSteps := 1000000) [ty28, ty3, ty4]
  refine ZE (isDay62 w day) ?_; simp (maxSteps := 1000000) [ty28, ty3, ty4, his.1]
  refine ZE (isCount59 s) ?_; simp (maxSteps := 1000000) [ty28, ty3, ty4, his.2]
  refine ZE (hop) ?_; simp (maxSteps := 1000000) [ty89]
  refine hK _ ?_; clear hK K
  (repeat refine ZQ ?_); refine ZR fun K hK => ?_; simp (maxSteps := 1000000) [ty37]; refine hK _ ?_; clear hK K
  (repeat refine ZQ ?_); refine ZC (fun hd => ?_) (fun hd => ?_)
  ·simp at hd
  ·clear hd
   refine awp_skip ?_
   (repeat refine ZQ ?_); refine ZR fun K hK => ?_; simp (maxSteps := 1000000) [ty89, ty3, ty87]
   refine ZP (on60 w (gl w) true true [] [] day) ?_; simp (maxSteps := 1000000) [ty92]
   refine ZP (hco) ?_; simp (maxSteps := 1000000) [ty29]
   refine hK _ ?_; clear hK K
   (repeat refine ZQ ?_); refine ZR fun K hK => ?_; simp (maxSteps := 1000000) [ty29]; refine hK _ ?_; clear hK K
   refine awp_seq ?_
   refine awp_label ?_
   (repeat refine ZQ ?_); refine ZR fun K hK => ?_; simp (maxSteps := 1000000) [ty3]; refine hK _ ?_; clear hK K
   (repeat refine ZQ ?_); refine awp_block ?_
   refine AWP.weak ?_ (wk_nil 11 11 1 (fu := true) (by simp) (by simp))
   refine awp_loop (fun i : Nat => ⟨ofL [(2, encI s), (10, slI G), (11, .own 11 1 0 (A i).length), (34, encI i)], stoT [(11, 11, .live ⟨(A i).isEmpty, false, 1, (A i).map cI⟩)]⟩)
    (fun i => i ≤ 9001) (fun i => 9001 - i) 0 (Nat.zero_le _) ?_ ?_
   ·rw [hA0]
    exact ZW
   ·intro i hi
    have hl := hAl i
    have hst := hAs i
    have hwi : IntKind.i64.wrap ((i : Int) + 1) = ((i + 1 : Nat) : Int) := by rw [wrap_id (by omega) (by omega)]; rfl
    generalize hacc : A i = acc at *
    by_cases hq : (i : Int) < 9001
    ·(repeat refine ZQ ?_); refine ZR fun K hK => ?_; simp (maxSteps := 1000000) [ty3, hq]; refine hK _ ?_; clear hK K
     (repeat refine ZQ ?_); refine ZC (hc := by simp [hq]; rfl) (fun hd => ?_) (fun hd => ?_)
     ·clear hd
      refine awp_skip ?_
      (repeat refine ZQ ?_); refine awp_block ?_
      (repeat refine ZQ ?_); refine ZR fun K hK => ?_; simp (maxSteps := 1000000) [ty3]; refine hK _ ?_; clear hK K
      (repeat refine ZQ ?_); refine ZR fun K hK => ?_; simp (maxSteps := 1000000) [ty29, ty3]; refine hK _ ?_; clear hK K
      (repeat refine ZQ ?_); refine awp_block ?_
      refine awp_loop (fun k : Nat => ⟨ofL [(2, encI s), (10, slI G), (11, .own 11 1 0 acc.length), (12, encI i), (34, encI i), (37, slI G), (38, encI G.length), (39, encI k)], stoT [(11, 11, .live ⟨acc.isEmpty, false, 1, acc.map cI⟩)]⟩)
       (fun k => k ≤ G.length ∧ ∀ m, (h : m < G.length) → m < k → (seenA i G[m] == s) = false) (fun k => G.length - k) 0 (by simp) ?_ ?_
      ·exact ZW
      ·intro k ⟨hk, hkm⟩
       (repeat refine ZQ ?_); refine ZR fun K hK => ?_; simp (maxSteps := 1000000) [ty3]; refine hK _ ?_; clear hK K
       (repeat refine ZQ ?_); refine ZC (fun hc2 => ?_) (fun hc2 => ?_)
       ·simp at hc2
        have hwk : IntKind.i64.wrap ((k : Int) + 1) = ((k + 1 : Nat) : Int) := by rw [wrap_id (by omega) (by omega)]; rfl
        have hsn := seen61 i G[k] ⟨by omega, by omega⟩ (hmem _ (List.getElem_mem hc2))
        refine awp_skip ?_
        (repeat refine ZQ ?_); refine awp_block ?_
        (repeat refine ZQ ?_); refine ZR fun K hK => ?_; simp (maxSteps := 1000000) [ty29, ty3, hc2]; refine hK _ ?_; clear hK K; (first | show AWP _ _ _ _ _ | show ∃ _, _ | skip)
        cases hb : seenA i G[k] == s
        ·(repeat refine ZQ ?_); refine ZR fun K hK => ?_; simp (maxSteps := 1000000) [ty3]
         refine ZP (hsn) ?_; simp (maxSteps := 1000000) [ty3, hb]
         refine hK _ ?_; clear hK K
         (repeat refine ZQ ?_); refine ZC (hc := by simp [hb]; rfl) (fun hd => ?_) (fun hd => ?_)
         ·simp [hb] at hd
         ·clear hd
          refine awp_skip ?_
          (repeat refine ZQ ?_); refine ZR fun K hK => ?_; simp (maxSteps := 1000000) [ty3]; refine hK _ ?_; clear hK K; (first | show AWP _ _ _ _ _ | show ∃ _, _ | skip)
          refine ⟨k + 1, ⟨by omega, fun m h1 h2 => ?_⟩, by omega, ?_⟩
          ·by_cases hmk : m = k
           ·subst hmk; exact hb
           ·exact hkm m h1 (by omega)
          ·rw [hwk]
           exact ZW
        ·have hany : (G.any fun g => seenA i g == s) = true := List.any_eq_true.2 ⟨_, List.getElem_mem hc2, hb⟩
         rw [hany] at hst
         simp at hst
         (repeat refine ZQ ?_); refine ZR fun K hK => ?_; simp (maxSteps := 1000000) [ty3]
         refine ZP (hsn) ?_; simp (maxSteps := 1000000) [ty3, hb]
         refine hK _ ?_; clear hK K
         (repeat refine ZQ ?_); refine ZC (hc := by simp [hb]; rfl) (fun hd => ?_) (fun hd => ?_)
         ·clear hd
          (repeat refine ZQ ?_); refine ZR fun K hK => ?_; simp (maxSteps := 1000000) [ty29, ty3]
          refine ⟨by omega, ?_⟩
          refine hK _ ?_; clear hK K
          (repeat refine ZQ ?_); refine awp_exit ?_
          (repeat refine ZQ ?_); refine ZR fun K hK => ?_; simp (maxSteps := 1000000) [ty3]; refine hK _ ?_; clear hK K; (first | show AWP _ _ _ _ _ | show ∃ _, _ | skip)
          refine ⟨i + 1, by omega, by omega, ?_⟩
          rw [hwi]
          refine wk_shape (T := [(11, 51, .live ⟨(A (i + 1)).isEmpty, false, 1, (A (i + 1)).map cI⟩)]) (shp0 hσ (by simp) (by simp) ?_) ?_
          ·simp [SlotOk, hst]
           exact .same (by simp [purel, C.isPure])
          ·simp [mtc, mtl, mT, C.isPure, purel, hst]
         ·simp [hb] at hd
       ·simp at hc2
        (repeat refine ZQ ?_); refine awp_exit ?_; (first | show AWP _ _ _ _ _ | show ∃ _, _ | skip)
        have hany : (G.any fun g => seenA i g == s) = false := by
         rw [Bool.eq_false_iff]
         intro e
         obtain ⟨g, hg, h1⟩ := List.any_eq_true.1 e
         obtain ⟨m, hm, rfl⟩ := List.getElem_of_mem hg
         rw [hkm m hm (by omega)] at h1
         cases h1
        rw [hany] at hst
        simp at hst
        (repeat refine ZQ ?_); refine ZR fun K hK => ?_; simp (maxSteps := 1000000) [ty3]; refine hK _ ?_; clear hK K; (first | show AWP _ _ _ _ _ | show ∃ _, _ | skip)
        refine ⟨i + 1, by omega, by omega, ?_⟩
        rw [hst, hwi]
        exact ZW
     ·simp [hq] at hd
    ·(repeat refine ZQ ?_); refine ZR fun K hK => ?_; simp (maxSteps := 1000000) [ty3, hq]; refine hK _ ?_; clear hK K
     (repeat refine ZQ ?_); refine ZC (hc := by simp [hq]; rfl) (fun hd => ?_) (fun hd => ?_)
     ·simp [hq] at hd
     ·clear hd
      (repeat refine ZQ ?_); refine awp_exit ?_; (first | show AWP _ _ _ _ _ | show ∃ _, _ | skip)
      obtain rfl : i = 9001 := by omega
      rw [hacc]
      (repeat refine ZQ ?_); refine ZR fun K hK => ?_; simp (maxSteps := 1000000) [ty29, ty37]; refine hK _ ?_; clear hK K
      (repeat refine ZQ ?_); refine awp_ret ?_; refine And.intro (Or.inr rfl) ?_
      simp [retC, resC, viewC, mapO, purel, C.isPure]
 ·have hop := open_no hn hz
  have hT : realW w day s = [] := if_neg hz
  rw [hT]
  cases hd : dayB w day
  ·rw [hd] at hop hz
   simp only [Bool.false_and] at hop hz ⊢
   refine ZF (fn := Tryz.f48) [.tmp 6, .tmp 7] ⟨Tryz.func48, rfl, by kernel_rfl⟩ fun x hx hσ => ?_
   (repeat refine ZQ ?_); refine ZR fun K hK => ?_; simp (maxSteps := 1000000) [ty28, ty37, ty29]; refine hK _ ?_; clear hK K
   (repeat refine ZQ ?_)
   refine awp_scope ?_
   (repeat refine ZQ ?_); refine ZD [] [0, 1, 2, 3, 4, 5, 6, 7, 8, 9, 10, 11, 12, 13, 14] fun K hK => ?_; simp (maxSteps := 1000000) [ty28, ty3, ty4]
   refine ZE (isDay62 w day) ?_; simp (maxSteps := 1000000) [ty28, ty3, ty4, hd]
   refine ZE (hop) ?_; simp (maxSteps := 1000000) [ty89]
   refine hK _ ?_; clear hK K
   (repeat refine ZQ ?_); refine ZR fun K hK => ?_; simp (maxSteps := 1000000) [ty37]; refine hK _ ?_; clear hK K
   (repeat refine ZQ ?_); refine ZC (hc := by simp [hz]; rfl) (fun hd => ?_) (fun hd => ?_)
   ·clear hd
    (repeat refine ZQ ?_); refine ZR fun K hK => ?_; simp (maxSteps := 1000000) [ty37, ty29]; refine hK _ ?_; clear hK K
    (repeat refine ZQ ?_); refine awp_ret ?_; refine And.intro (Or.inr rfl) ?_
    simp [retC, resC, viewC, mapO, hz]
   ·simp [hz] at hd
  ·rw [hd] at hop hz
   simp only [Bool.true_and] at hop hz ⊢
   refine ZF (fn := Tryz.f48) [.tmp 6, .tmp 7] ⟨Tryz.func48, rfl, by kernel_rfl⟩ fun x hx hσ => ?_
   (repeat refine ZQ ?_); refine ZR fun K hK => ?_; simp (maxSteps := 1000000) [ty28, ty37, ty29]; refine hK _ ?_; clear hK K
   (repeat refine ZQ ?_)
   refine awp_scope ?_
   (repeat refine ZQ ?_); refine ZD [] [0, 1, 2, 3, 4, 5, 6, 7, 8, 9, 10, 11, 12, 13, 14] fun K hK => ?_; simp (maxSteps := 1000000) [ty28, ty3, ty4]
   refine ZE (isDay62 w day) ?_; simp (maxSteps := 1000000) [ty28, ty3, ty4, hd]
   refine ZE (isCount59 s) ?_; simp (maxSteps := 1000000) [ty28, ty3, ty4]
   refine ZE (hop) ?_; simp (maxSteps := 1000000) [ty89]
   refine hK _ ?_; clear hK K
   (repeat refine ZQ ?_); refine ZR fun K hK => ?_; simp (maxSteps := 1000000) [ty37]; refine hK _ ?_; clear hK K
   (repeat refine ZQ ?_); refine ZC (hc := by simp [hz]; rfl) (fun hd => ?_) (fun hd => ?_)
   ·clear hd
    (repeat refine ZQ ?_); refine ZR fun K hK => ?_; simp (maxSteps := 1000000) [ty37, ty29]; refine hK _ ?_; clear hK K
    (repeat refine ZQ ?_); refine awp_ret ?_; refine And.intro (Or.inr rfl) ?_
    simp [retC, resC, viewC, mapO, hz]
   ·simp [hz] at hd

set_option maxHeartbeats 16000000
set_option maxRecDepth 20000

-- THE THEOREM OF THE BLAME


set_option maxHeartbeats 8000000

-- Strange and Real

theorem str70 (w : Ws) (G : List (Int × List Int)) (nl : Bool) (M : List (Int × Int)) (v : Vs) (g : Int) (hw : WsNum w G) : Pure Tryz.prog 70 [encI g, .ip (cCd w G nl M) 0, .ip (cVs v) 0] (.bool (canC (co w G) [(v.day, g)])) := by
 have h := can71 w G false nl [(v.day, g)] M hw
 have hob : rowsK [(v.day, g)] = [[encI v.day, encI g]] := rfl
 rw [hob] at h
 refine ZF (fn := Tryz.f70) [.tmp 4] ⟨Tryz.func70, rfl, by kernel_rfl⟩ fun x hx hσ => ?_
 (repeat refine ZQ ?_); refine ZR fun K hK => ?_; simp (maxSteps := 1000000); refine hK _ ?_; clear hK K
 (repeat refine ZQ ?_); refine ZR fun K hK => ?_; simp (maxSteps := 1000000) [ty89, ty87, ty53, ty3, keyQ, findC]
 refine callL h (by simp [viewL, mapO, viewC, C.isPure, purel]) (.inr rfl) ?_
 simp [ty4]
 refine hK _ ?_; clear hK K
 (repeat refine ZQ ?_); refine awp_ret ?_; refine And.intro (Or.inr rfl) ?_
 simp [retC, resC, viewC, mapO]

/-- Whether a visit is right in no truth. -/
def strW (w : Ws) (i : Nat) : Bool := match w.vs[i]? with
  | some v => !(numsT Tr.area (tiV w v) true).any fun g => canC (co w (gl w)) [(v.day, g)]
  | none => false
def strangeW (w : Ws) : List Int := if openW w true = 0 then fixTo (strW w) w.vs.length else []

theorem strW_at {w : Ws} {i : Nat} (h : i < w.vs.length) : strW w i = !(numsT Tr.area (tiV w w.vs[i]) true).any fun g => canC (co w (gl w)) [(w.vs[i].day, g)] := by
 unfold strW; rw [List.getElem?_eq_getElem h]

theorem gl_find {w : Ws} (h : WsOk w) {i : Nat} (hi : i < w.vs.length) : (gl w).find? (fun p => p.1 == w.vs[i].day) = some (glV w w.vs[i]) := by
 cases hf : (gl w).find? (fun p => p.1 == w.vs[i].day) with
 | none =>
  rw [List.find?_eq_none] at hf
  exact absurd (by simp [glV]) (hf (glV w w.vs[i]) (List.mem_map.2 ⟨_, List.getElem_mem hi, rfl⟩))
 | some p =>
  have hm := List.mem_of_find?_eq_some hf
  have he := List.find?_some hf
  obtain ⟨v, hv, rfl⟩ := List.mem_map.1 hm
  obtain ⟨n, hn, rfl⟩ := List.getElem_of_mem hv
  simp only [glV, beq_iff_eq] at he
  by_cases h1 : n < i
  ·have := h.lt h1 hi; omega
  ·by_cases h2 : i < n
   ·have := h.lt h2 hn; omega
   ·obtain rfl : n = i := by omega
    rfl

theorem gl_findC {w : Ws} (h : WsOk w) {i : Nat} (hi : i < w.vs.length) : ∃ j, findC .int (encI w.vs[i].day) (rowsG (gl w)) 0 = some (some (j, slI (numsT Tr.area (tiV w w.vs[i]) true))) := by
 rcases findF slG w.vs[i].day (gl w) 0 with ⟨j, p, h1, h2⟩ | ⟨h1, _⟩
 ·rw [gl_find h hi] at h1
  cases h1
  exact ⟨j, h2⟩
 ·rw [gl_find h hi] at h1; cases h1

theorem w_strange28 (w : Ws) (hn : WsLen w) : Pure Tryz.prog 28 [encWs w] (.tup [.sl (strangeW w).isEmpty (openW w true != 0) ((strangeW w).map cI), encI (openW w true)]) := by
 by_cases hz : openW w true = 0
 ·obtain ⟨hok, his, hcan⟩ := openW_ok hz
  have hop := open_yes hn hz
  have hnum := hok.num
  have hl6 := hok.len
  have hT : strangeW w = fixTo (strW w) w.vs.length := if_pos hz
  obtain ⟨A, hA⟩ : ∃ A : Nat → List Int, ∀ i, A i = fixTo (strW w) i := ⟨_, fun _ => rfl⟩
  have hA0 : A 0 = [] := hA 0
  have hAl : ∀ i, (A i).length ≤ i := fun i => by rw [hA]; exact fixTo_len _ _
  have hAs : ∀ i : Nat, A (i + 1) = if strW w i then A i ++ [(i : Int)] else A i := fun i => by rw [hA, hA]; rfl
  rw [hT, hz, ← hA]
  clear hA hT
  refine ZF (fn := Tryz.f28) [.tmp 2, .tmp 3] ⟨Tryz.func28, rfl, by kernel_rfl⟩ fun x hx hσ => ?_
  (repeat refine ZQ ?_); refine ZR fun K hK => ?_; simp (maxSteps := 1000000) [ty28, ty37, ty29]; refine hK _ ?_; clear hK K
  (repeat refine ZQ ?_); refine ZR fun K hK => ?_; simp (maxSteps := 1000000) [ty28, ty3]
  refine ZP (hop) ?_; simp (maxSteps := 1000000) [ty89]
  refine hK _ ?_; clear hK K
  (repeat refine ZQ ?_); refine ZR fun K hK => ?_; simp (maxSteps := 1000000) [ty37]; refine hK _ ?_; clear hK K
  (repeat refine ZQ ?_); refine ZC (fun hd => ?_) (fun hd => ?_)
  ·simp at hd
  ·clear hd
   refine awp_skip ?_
   (repeat refine ZQ ?_); refine ZR fun K hK => ?_; simp (maxSteps := 1000000) [ty29]; refine hK _ ?_; clear hK K
   (repeat refine ZQ ?_); refine ZR fun K hK => ?_; simp (maxSteps := 1000000) [ty28, ty26]; refine hK _ ?_; clear hK K
   (repeat refine ZQ ?_); refine awp_block ?_
   refine AWP.weak ?_ (wk_nil 6 6 1 (fu := true) (by simp) (by simp))
   refine awp_loop (fun i : Nat => ⟨ofL [(1, .ptr 1 13 0 0), (4, .ptr 4 15 0 0), (6, .own 6 1 0 (A i).length), (19, sVs w.nl w.fu w.vs), (20, encI w.vs.length), (21, encI i)], stoT [(1, 1, .live (obWs w)), (4, 4, .live (obCd w (gl w) true [])), (6, 6, .live ⟨(A i).isEmpty, false, 1, (A i).map cI⟩)]⟩)
    (fun i => i ≤ w.vs.length) (fun i => w.vs.length - i) 0 (Nat.zero_le _) ?_ ?_
   ·rw [hA0]
    exact ZW
   ·intro i hi
    have hl := hAl i
    have hst := hAs i
    have hwi : IntKind.i64.wrap ((i : Int) + 1) = ((i + 1 : Nat) : Int) := by rw [wrap_id (by omega) (by omega)]; rfl
    generalize hacc : A i = acc at *
    (repeat refine ZQ ?_); refine ZR fun K hK => ?_; simp (maxSteps := 1000000) [ty3]; refine hK _ ?_; clear hK K
    (repeat refine ZQ ?_); refine ZC (fun hc1 => ?_) (fun hc1 => ?_)
    ·simp at hc1
     obtain ⟨j, hfd⟩ := gl_findC hok hc1
     simp only [encI] at hfd
     have hsw := strW_at hc1
     have hln := numsT_len Tr.area (tiV w w.vs[i]) true
     generalize numsT Tr.area (tiV w w.vs[i]) true = U at *
     simp only [slI] at hfd
     have hcl := contains58 U.isEmpty U.isEmpty U 70 [.ip (cCd w (gl w) true []) 0, .ip (cVs w.vs[i]) 0] (fun g => canC (co w (gl w)) [(w.vs[i].day, g)]) (by simp [purel, C.isPure]) (by omega) (fun g _ => str70 w (gl w) true [] w.vs[i] g hnum)
     generalize (U.any fun g => canC (co w (gl w)) [(w.vs[i].day, g)]) = b at *
     rw [hsw] at hst
     refine awp_skip ?_
     (repeat refine ZQ ?_); refine awp_block ?_
     (repeat refine ZQ ?_); refine ZR fun K hK => ?_; simp (maxSteps := 1000000) [ty26, ty53, ty3, hc1]; refine hK _ ?_; clear hK K
     (repeat refine ZQ ?_); refine ZR fun K hK => ?_; simp (maxSteps := 1000000) [ty81]; refine hK _ ?_; clear hK K; (first | show AWP _ _ _ _ _ | show ∃ _, _ | skip)
     cases b
     ·simp at hst
      (repeat refine ZQ ?_); refine ZR fun K hK => ?_; simp (maxSteps := 1000000) [ty89, ty85, ty29, ty53, ty3, keyQ, hfd]
      refine callL hcl (by simp [viewL, mapO, viewC, C.isPure, purel]) (.inr rfl) ?_
      simp [ty4]
      refine hK _ ?_; clear hK K
      (repeat refine ZQ ?_); refine ZC (fun hd => ?_) (fun hd => ?_)
      ·clear hd
       (repeat refine ZQ ?_); refine ZR fun K hK => ?_; simp (maxSteps := 1000000) [ty29, ty3]
       refine ⟨by omega, ?_⟩
       refine hK _ ?_; clear hK K
       (repeat refine ZQ ?_); refine ZR fun K hK => ?_; simp (maxSteps := 1000000) [ty3]; refine hK _ ?_; clear hK K; (first | show AWP _ _ _ _ _ | show ∃ _, _ | skip)
       refine ⟨i + 1, by omega, by omega, ?_⟩
       rw [hwi]
       refine wk_shape (T := [(1, 1, .live (obWs w)), (4, 4, .live (obCd w (gl w) true [])), (6, 38, .live ⟨(A (i + 1)).isEmpty, false, 1, (A (i + 1)).map cI⟩)]) (shp0 hσ (by simp) (by simp) ?_) ?_
       ·simp [SlotOk, hst]
        exact ⟨.same (by simp [purel, C.isPure]), .same (by simp [purel, C.isPure]), .same (by simp [purel, C.isPure])⟩
       ·simp [mtc, mtl, mT, C.isPure, purel, hst]
      ·simp at hd
     ·simp at hst
      (repeat refine ZQ ?_); refine ZR fun K hK => ?_; simp (maxSteps := 1000000) [ty89, ty85, ty29, ty53, ty3, keyQ, hfd]
      refine callL hcl (by simp [viewL, mapO, viewC, C.isPure, purel]) (.inr rfl) ?_
      simp [ty4]
      refine hK _ ?_; clear hK K
      (repeat refine ZQ ?_); refine ZC (fun hd => ?_) (fun hd => ?_)
      ·simp at hd
      ·clear hd
       refine awp_skip ?_
       (repeat refine ZQ ?_); refine ZR fun K hK => ?_; simp (maxSteps := 1000000) [ty3]; refine hK _ ?_; clear hK K; (first | show AWP _ _ _ _ _ | show ∃ _, _ | skip)
       refine ⟨i + 1, by omega, by omega, ?_⟩
       rw [hst, hwi]
       exact ZW
    ·simp at hc1
     (repeat refine ZQ ?_); refine awp_exit ?_; (first | show AWP _ _ _ _ _ | show ∃ _, _ | skip)
     have hiN : i = w.vs.length := by omega
     subst hiN
     rw [hacc]
     (repeat refine ZQ ?_); refine ZR fun K hK => ?_; simp (maxSteps := 1000000) [ty29, ty37]; refine hK _ ?_; clear hK K
     (repeat refine ZQ ?_); refine awp_ret ?_; refine And.intro (Or.inr rfl) ?_
     simp [retC, resC, viewC, mapO, purel, C.isPure]
 ·have hop := open_no hn hz
  have hT : strangeW w = [] := if_neg hz
  refine ZF (fn := Tryz.f28) [.tmp 2, .tmp 3] ⟨Tryz.func28, rfl, by kernel_rfl⟩ fun x hx hσ => ?_
  (repeat refine ZQ ?_); refine ZR fun K hK => ?_; simp (maxSteps := 1000000) [ty28, ty37, ty29]; refine hK _ ?_; clear hK K
  (repeat refine ZQ ?_); refine ZR fun K hK => ?_; simp (maxSteps := 1000000) [ty28, ty3]
  refine ZP (hop) ?_; simp (maxSteps := 1000000) [ty89]
  refine hK _ ?_; clear hK K
  (repeat refine ZQ ?_); refine ZR fun K hK => ?_; simp (maxSteps := 1000000) [ty37]; refine hK _ ?_; clear hK K
  (repeat refine ZQ ?_); refine ZC (hc := by simp [hz]; rfl) (fun hd => ?_) (fun hd => ?_)
  ·clear hd
   (repeat refine ZQ ?_); refine ZR fun K hK => ?_; simp (maxSteps := 1000000) [ty37, ty29]; refine hK _ ?_; clear hK K
   (repeat refine ZQ ?_); refine awp_ret ?_; refine And.intro (Or.inr rfl) ?_
   simp [retC, resC, viewC, mapO, hT, hz]
  ·simp [hz] at hd

set_option maxHeartbeats 16000000
set_option maxRecDepth 20000

-- THE THEOREM OF EACH TRUTH


theorem driftS_in {s : Int × Int} {n : Int} (hn : 0 ≤ n) : (0 ≤ (driftS s n).1) ∧ (driftS s n).1 ≤ n ∧ n ≤ (driftS s n).2 ∧ s.2 ≤ (driftS s n).2 ∧ (0 ≤ s.1 → (driftS s n).1 ≤ s.1) := by
 unfold driftS
 refine ⟨?_, ?_, ?_, ?_, ?_⟩
 ·simp only; split <;> omega
 ·simp only; split <;> omega
 ·simp only; split <;> omega
 ·simp only; split <;> omega
 ·intro h; simp only; split <;> omega

theorem drift_in1 : ∀ (L : List Int) (f : Int → Int) (s : Int × Int), (∀ z ∈ L, 0 ≤ f z) →
  (0 ≤ s.1 → 0 ≤ (L.foldl (fun s z => driftS s (f z)) s).1 ∧ (L.foldl (fun s z => driftS s (f z)) s).1 ≤ s.1) ∧ s.2 ≤ (L.foldl (fun s z => driftS s (f z)) s).2 ∧ ∀ z ∈ L, 0 ≤ (L.foldl (fun s z => driftS s (f z)) s).1 ∧ (L.foldl (fun s z => driftS s (f z)) s).1 ≤ f z ∧ f z ≤ (L.foldl (fun s z => driftS s (f z)) s).2
 | [], f, s, _ => ⟨fun h => ⟨h, Int.le_refl _⟩, Int.le_refl _, by simp⟩
 | a :: L, f, s, h => by
  have ha := driftS_in (s := s) (h a (by simp))
  have ih := drift_in1 L f (driftS s (f a)) fun z hz => h z (by simp [hz])
  simp only [List.foldl_cons]
  have h1 := ih.1 ha.1
  refine ⟨fun hs => ⟨h1.1, Int.le_trans h1.2 (ha.2.2.2.2 hs)⟩, Int.le_trans ha.2.2.2.1 ih.2.1, fun z hz => ?_⟩
  rcases List.mem_cons.1 hz with rfl | hz
  ·exact ⟨h1.1, Int.le_trans h1.2 ha.2.1, Int.le_trans ha.2.2.1 ih.2.1⟩
  ·exact ih.2.2 z hz

theorem drift_in2 (c : Co) (a b : Int) : ∀ (L : List Int) (s : Int × Int), (∀ g ∈ L, onC c b [(a, g)] ≠ [] ∧ ∀ z ∈ onC c b [(a, g)], 0 ≤ g - z) →
  (0 ≤ s.1 → 0 ≤ (L.foldl (fun s g => driftIn c a b g s) s).1 ∧ (L.foldl (fun s g => driftIn c a b g s) s).1 ≤ s.1) ∧ s.2 ≤ (L.foldl (fun s g => driftIn c a b g s) s).2 ∧ ∀ g ∈ L, ∀ z ∈ onC c b [(a, g)], (L.foldl (fun s g => driftIn c a b g s) s).1 ≤ g - z ∧ g - z ≤ (L.foldl (fun s g => driftIn c a b g s) s).2
 | [], s, _ => ⟨fun h => ⟨h, Int.le_refl _⟩, Int.le_refl _, by simp⟩
 | g :: L, s, h => by
  have hg := h g (by simp)
  have h1 : (0 ≤ s.1 → 0 ≤ (driftIn c a b g s).1 ∧ (driftIn c a b g s).1 ≤ s.1) ∧ s.2 ≤ (driftIn c a b g s).2 ∧ ∀ z ∈ onC c b [(a, g)], 0 ≤ (driftIn c a b g s).1 ∧ (driftIn c a b g s).1 ≤ g - z ∧ g - z ≤ (driftIn c a b g s).2 := drift_in1 (onC c b [(a, g)]) (fun z => g - z) s hg.2
  have ih := drift_in2 c a b L (driftIn c a b g s) fun z hz => h z (by simp [hz])
  obtain ⟨z0, hz0⟩ := List.exists_mem_of_ne_nil _ hg.1
  have h2 := ih.1 (h1.2.2 z0 hz0).1
  simp only [List.foldl_cons]
  refine ⟨fun hs => ⟨h2.1, Int.le_trans h2.2 (h1.1 hs).2⟩, Int.le_trans h1.2.1 ih.2.1, fun y hy z hz => ?_⟩
  rcases List.mem_cons.1 hy with rfl | hy
  ·have := h1.2.2 z hz
   exact ⟨Int.le_trans h2.2 this.2.1, Int.le_trans this.2.2 ih.2.1⟩
  ·exact ih.2.2 y hy z hz

theorem drift_has {c : Co} {p : Nat → Int} (hp : Tru c p) {a b : Nat} (hab : a ≤ b) (hb : b ≤ c.last.toNat) : (driftL c a b).1 ≤ p a - p b ∧ p a - p b ≤ (driftL c a b).2 := by
 have ha : a ≤ c.last.toNat := by omega
 have hm : p a ∈ onC c a [] := (on_nil c a ha _).2 ⟨p, hp, rfl⟩
 have hz : p b ∈ onC c b [((a : Int), p a)] := (on_one c a b _ ha hb _).2 ⟨p, hp, rfl, rfl⟩
 refine (drift_in2 c a b (onC c a []) (-1, 0) fun g hg => ⟨on_ne_one hg ha hb, fun z hz => ?_⟩).2.2 _ hm _ hz
 obtain ⟨q, hq, e1, e2⟩ := (on_one c a b g ha hb z).1 hz
 have := tru_drop hq hab hb
 rw [e1, e2] at this
 exact this.1

set_option maxHeartbeats 8000000

theorem checksI_copy (w : Wh) : ∀ l : List Ts, checksI w (l.map copyY) = checksI w l
 | [] => rfl
 | y :: l => by
  have ih := checksI_copy w l
  simp only [List.map_cons, checksI, ih]
  rfl
theorem copy_check (t : Ti) : checkT (copyT t) = checkT t := by
 unfold checkT
 have e1 : (copyT t).ts = t.ts.map copyY := rfl
 have e2 : (copyT t).w = t.w := rfl
 have e3 : (copyT t).gain = t.gain := rfl
 rw [e1, e2, e3, List.length_map, List.all_map, checksI_copy]
 have e4 : ((fun x : Ts => areaB x.area) ∘ copyY) = fun x => areaB x.area := rfl
 have e5 : (t.ts.map copyY = []) = (t.ts = []) := by simp
 simp only [e4, e5]
theorem copy_okS (t : Ti) (n : Nat) (k : Tr) : okS (copyT t) n k = okS t n k := by
 unfold okS
 have e1 : (copyT t).ts = t.ts.map copyY := rfl
 rw [e1, List.length_map]
 congr 1
 funext i
 rw [List.getElem?_map]
 cases t.ts[i]? <;> rfl
theorem copy_truths (t : Ti) (n : Nat) : truthsS (copyT t) n = truthsS t n := by
 unfold truthsS
 have : okS (copyT t) n = okS t n := by funext k; exact copy_okS t n k
 rw [this]
 rfl
theorem copy_allS (t : Ti) : allS (copyT t) = allS t := by
 unfold allS
 have e1 : (copyT t).ts = t.ts.map copyY := rfl
 rw [e1, List.length_map]
theorem copy_openT (t : Ti) (is : Bool) : openT (copyT t) is = openT t is := by unfold openT; rw [copy_check, copy_allS, copy_truths]
theorem copy_nums (f : Tr → Int) (t : Ti) (is : Bool) : numsT f (copyT t) is = numsT f t is := by unfold numsT; rw [copy_openT, copy_allS, copy_truths]
theorem copy_len {t : Ti} (h : TiLen t) : TiLen (copyT t) := by
 have e1 : (copyT t).ts = t.ts.map copyY := rfl
 refine ⟨by rw [e1, List.length_map]; exact h.ts, fun y hy => ?_⟩
 rw [e1] at hy
 obtain ⟨z, hz, rfl⟩ := List.mem_map.1 hy
 exact h.l z hz

set_option maxHeartbeats 8000000

-- a copy of an instrument

def copyV (v : Vs) : Vs := ⟨v.day, v.ts.isEmpty, false, v.ts.map copyY⟩
def copyW (w : Ws) : Ws := { w with nl := w.vs.isEmpty, fu := false, vs := w.vs.map copyV }

@[simp] abbrev cWo (w : Ws) (c : C) : List C := [encI w.w.full, encI w.w.read, encI w.w.slip, encI w.w.skew, encI w.w.circle, encI w.w.glow, encI w.w.ghigh, encI w.w.wrong, encI w.gain, encI w.last, encI w.drop, c, encI w.wrong]
@[simp] abbrev zWs : List C := [encI 0, encI 0, encI 0, encI 0, encI 0, encI 0, encI 0, encI 0, encI 0, encI 0, encI 0, .sl true true [], encI 0]

theorem q_copy23 (w : Ws) (hn : WsLen w) : Pure Tryz.prog 23 [encWs w] (encWs (copyW w)) := by
 have hlt := hn.vs
 obtain ⟨U, hU⟩ : ∃ U : Nat → List Vs, ∀ i, U i = (w.vs.take i).map copyV := ⟨_, fun _ => rfl⟩
 have hU0 : U 0 = [] := by rw [hU]; rfl
 have hUl : ∀ i, i ≤ w.vs.length → (U i).length = i := fun i hi => by rw [hU]; simp; omega
 have hUs : ∀ i (hi : i < w.vs.length), U (i + 1) = U i ++ [copyV w.vs[i]] := fun i hi => by rw [hU, hU, List.take_succ_eq_append_getElem hi, List.map_append]; rfl
 have hUn : w.vs.map copyV = U w.vs.length := by rw [hU, List.take_length]
 unfold copyW
 rw [hUn]
 clear hUn hU
 refine ZF (fn := Tryz.f23) [.cell 2 28] ⟨Tryz.func23, rfl, by kernel_rfl⟩ fun x hx hσ => ?_
 (repeat refine ZQ ?_); refine ZR fun K hK => ?_; simp (maxSteps := 1000000) [ty28]; refine hK _ ?_; clear hK K
 (repeat refine ZQ ?_); refine ZR fun K hK => ?_; simp (maxSteps := 1000000) [ty28]; refine hK _ ?_; clear hK K
 (repeat refine ZQ ?_); refine ZR fun K hK => ?_; simp (maxSteps := 1000000) [ty28, ty26]; refine hK _ ?_; clear hK K
 (repeat refine ZQ ?_); refine ZR fun K hK => ?_; simp (maxSteps := 1000000) [ty3]; refine hK _ ?_; clear hK K
 (repeat refine ZQ ?_); refine awp_block ?_
 refine AWP.weak ?_ (wk_nilCell 3 0 11 1000 2 (o := ⟨false, false, 13, [cWo w (.sl true true [])]⟩) (row := cWo w (.sl true true [])) (fu := true) (by simp) rfl rfl rfl (by simp) (by decide))
 refine awp_loop (fun i : Nat => ⟨ofL [(1, .ptr 1 13 0 0), (2, .ptr 2 13 0 0), (3, .ptr 3 13 0 0), (4, encI i)],
   stoT [(1, 1, .live (obWs w)), (2, 2, .live ⟨false, false, 13, [zWs]⟩), (3, 3, .live ⟨false, false, 13, [cWo w (.own 1000 2 0 i)]⟩), (1000, 1000, .live ⟨(U i).isEmpty, false, 2, (U i).map cVs⟩)]⟩)
  (fun i => i ≤ w.vs.length) (fun i => w.vs.length - i) 0 (Nat.zero_le _) ?_ ?_
 ·refine wk_shape (shp0 hσ (by simp) (by simp) ?_) ?_
  ·simp [SlotOk, hU0] <;> (repeat' (first | (refine RowsOk.same ?_; simp [purel, C.isPure]; done) | (refine rowsCons ?_; simp [mtl, mtc, mT, mH, C.isPure, purel]; done) | (refine rowsCons ?_; simp [mtl, mtc, mT, mH, C.isPure, purel]) | refine And.intro ?_ ?_))
  ·simp [mtc, mtl, mT, C.isPure, purel, hU0] <;> (try simp (disch := omega) [wrap_id]) <;> (try omega)
 ·intro i hi
  have hUi := hUl i hi
  (repeat refine ZQ ?_); refine ZR fun K hK => ?_; simp (maxSteps := 1000000) [ty28, ty26, ty3]; refine hK _ ?_; clear hK K
  (repeat refine ZQ ?_); refine ZC (fun hc => ?_) (fun hc => ?_)
  ·simp at hc
   refine awp_skip ?_
   (repeat refine ZQ ?_); refine awp_block ?_
   have hst := hUs i hc
   have hln := hn.l _ (List.getElem_mem hc)
   have hcp := q_copy10 (tiV w w.vs[i]) hln
   simp only [copyT] at hcp
   have hcv : copyV w.vs[i] = ⟨w.vs[i].day, w.vs[i].ts.isEmpty, false, w.vs[i].ts.map copyY⟩ := rfl
   rw [hcv] at hst
   generalize hV : U i = V at *
   have hwi : IntKind.i64.wrap ((i : Int) + 1) = ((i + 1 : Nat) : Int) := by rw [wrap_id (by omega) (by omega)]; rfl
   generalize w.vs[i].ts.map copyY = tc at *
   (repeat refine ZQ ?_); refine ZD [] [0, 1, 2, 3, 4, 5, 6, 7, 8, 9, 10, 11, 12, 13, 14, 15, 16, 17, 18, 19, 20, 21, 22] fun K hK => ?_; simp (maxSteps := 1000000) [ty28, ty26, ty3, ty53, ty51, ty62, hc]
   refine ZE (q_trialOf27 w w.vs[i].nl w.vs[i].fu w.vs[i].ts) ?_; simp (maxSteps := 1000000) [ty62]
   refine ZE (hcp) ?_; simp (maxSteps := 1000000) [ty28, ty26, ty3, ty53, ty51, ty62, hc, hUi]
   refine ⟨by omega, ?_⟩
   refine hK _ ?_; clear hK K
   (repeat refine ZQ ?_); refine ZR fun K hK => ?_; simp (maxSteps := 1000000) [ty3]; refine hK _ ?_; clear hK K; (first | show AWP _ _ _ _ _ | show ∃ _, _ | skip)
   refine ⟨i + 1, by omega, by omega, ?_⟩
   rw [hst, hwi]
   refine wk_shape2 [(1, 1, .live (obWs w)), (2, 2, .live ⟨false, false, 13, [zWs]⟩), (3, 3, .live ⟨false, false, 13, [cWo w (.own 1000 2 0 (i + 1))]⟩), (1000, 34, .live ⟨(V ++ [(⟨w.vs[i].day, w.vs[i].ts.isEmpty, false, tc⟩ : Vs)]).isEmpty, false, 2, (V ++ [(⟨w.vs[i].day, w.vs[i].ts.isEmpty, false, tc⟩ : Vs)]).map cVs⟩)] (by first | rfl | (simp only [if_pos, if_true]; rfl)) (shp0 hσ (by simp) (by simp) ?_) ?_
   ·simp [SlotOk] <;> (repeat' (first | (refine RowsOk.same ?_; simp [purel, C.isPure]; done) | (refine rowsCons ?_; simp [mtl, mtc, mT, mH, C.isPure, purel]; done) | (refine rowsCons ?_; simp [mtl, mtc, mT, mH, C.isPure, purel]) | refine And.intro ?_ ?_))
   ·simp [mtc, mtl, mT, C.isPure, purel] <;> (try simp (disch := omega) [wrap_id]) <;> (try omega)
  ·simp at hc
   (repeat refine ZQ ?_); refine awp_exit ?_; (first | show AWP _ _ _ _ _ | show ∃ _, _ | skip)
   have hin : i = w.vs.length := by omega
   rw [hin] at hUi ⊢
   have hem : (U w.vs.length).isEmpty = w.vs.isEmpty := by
    cases h1 : U w.vs.length <;> cases h2 : w.vs <;> rw [h1, h2] at hUi <;> simp at hUi <;> rfl
   generalize U w.vs.length = V at *
   rw [hem]
   refine AWP.weak ?_ (wk_frzCell 1000 3 0 11 (o := ⟨w.vs.isEmpty, false, 2, V.map cVs⟩) (oq := ⟨false, false, 13, [cWo w (.own 1000 2 0 w.vs.length)]⟩) (row := cWo w (.own 1000 2 0 w.vs.length)) (c := .own 1000 2 0 w.vs.length) (c' := .sl w.vs.isEmpty false (V.map cVs)) (by simp) (all_purel_map fun _ => rfl) (by simp) (by decide) rfl rfl rfl (fz_own rfl (by simp [hUi]) (by simp)) rfl)
   (repeat refine ZQ ?_); refine ZR fun K hK => ?_; simp (maxSteps := 1000000) [ty28]; refine hK _ ?_; clear hK K
   (repeat refine ZQ ?_); refine awp_ret ?_; refine And.intro (Or.inr rfl) ?_
   simp [retC, resC, viewC, mapO, ty28]

theorem copyV_ti (w : Ws) (v : Vs) : tiV (copyW w) (copyV v) = copyT (tiV w v) := rfl
theorem copyW_num (w : Ws) (v : Vs) : numsT Tr.area (tiV (copyW w) (copyV v)) true = numsT Tr.area (tiV w v) true := by rw [copyV_ti, copy_nums]
theorem copyW_gl (w : Ws) : gl (copyW w) = gl w := by
 unfold gl copyW
 rw [List.map_map]
 refine List.map_congr_left fun v _ => ?_
 show (v.day, numsT Tr.area (tiV (copyW w) (copyV v)) true) = (v.day, numsT Tr.area (tiV w v) true)
 rw [copyW_num]
theorem copyW_checkT (w : Ws) (v : Vs) : checkT (tiV (copyW w) (copyV v)) = checkT (tiV w v) := by rw [copyV_ti, copy_check]
theorem copyW_checks (w : Ws) : ∀ l : List Vs, checksW (copyW w) (l.map copyV) = checksW w l
 | [] => rfl
 | v :: l => by simp only [List.map_cons, checksW]; rw [copyW_checkT, copyW_checks w l]
theorem copyW_okDay (w : Ws) (i : Nat) : okDay (copyW w) i = okDay w i := by
 unfold okDay copyW
 simp only [List.getElem?_map]
 cases w.vs[i]? with
 | none => rfl
 | some v =>
  cases w.vs[i - 1]? with
  | none => rfl
  | some u => rfl
theorem copyW_check (w : Ws) : checkW (copyW w) = checkW w := by
 have h1 : rangeB (copyW w) = rangeB w := by unfold rangeB copyW; simp
 have h2 : (copyW w).vs.length = w.vs.length := by simp [copyW]
 have h3 : (List.range (copyW w).vs.length).all (okDay (copyW w)) = (List.range w.vs.length).all (okDay w) := by
  rw [h2, show okDay (copyW w) = okDay w from funext fun i => copyW_okDay w i]
 unfold checkW
 rw [h1, h3]
 have h4 : (copyW w).vs = w.vs.map copyV := rfl
 rw [h4, copyW_checks]
 have h5 : (w.vs.map copyV = []) = (w.vs = []) := by simp
 simp only [h5]
 rfl
theorem copyW_co (w : Ws) : co (copyW w) (gl (copyW w)) = co w (gl w) := by rw [copyW_gl]; rfl
theorem copyW_open (w : Ws) (is : Bool) : openW (copyW w) is = openW w is := by unfold openW; rw [copyW_check, copyW_co]
theorem copyW_len {w : Ws} (h : WsLen w) : WsLen (copyW w) := ⟨by simp [copyW]; exact h.vs, fun v hv => by
 obtain ⟨u, hu, rfl⟩ := List.mem_map.1 hv
 rw [copyV_ti]
 exact copy_len (h.l u hu)⟩

set_option maxHeartbeats 8000000

set_option maxHeartbeats 8000000

set_option maxHeartbeats 16000000
set_option maxRecDepth 20000

-- THE THEOREM OF WHAT A VISIT TELLS


end Go.Proofs.YtknoachjpoibaaaGreat

