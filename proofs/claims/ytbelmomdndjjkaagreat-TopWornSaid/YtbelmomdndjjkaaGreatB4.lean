/- The machine of abstract values and the contracts of the functions of the program, which the statements of this seat share. No condition. -/
import Derived.Test.YtbelmomdndjjkaaGreatB3

set_option linter.unusedSimpArgs false
set_option linter.unusedVariables false
set_option linter.constructorNameAsVariable false

namespace Go.Proofs.YtbelmomdndjjkaaGreat
open Go Go.Abs

set_option maxHeartbeats 4000000

@[simp] abbrev mapOb (kv : List (Int × Int)) : Ob := ⟨false, false, 0, rowsII kv⟩
@[simp] abbrev F3 (g : FuncId) (kv : List (Int × Int)) : List (Nat × Nat × Slot) := [(2000003, 2000003, .live ⟨false, false, 1, [[.fn (.func g) [] []]]⟩), (2000005, 2000005, .live ⟨false, false, 1, [[.mp 2000007]]⟩), (2000007, 2000007, .live (mapOb kv))]

theorem bump_len (a : Int) : ∀ kv : List (Int × Int), (bump kv a).length ≤ kv.length + 1
 | [] => by simp [bump]
 | p :: kv => by
  unfold bump
  split
  ·simp
  ·have := bump_len a kv
   simp only [List.length_cons]; omega
theorem kvOf_len (f : Tr → Int) (L : List Tr) : (kvOf f L).length ≤ L.length := by
 induction L using list_rev_ind with
 | h0 => simp [kvOf]
 | h1 L t ih =>
  rw [kvOf_app]
  have := bump_len (f t) (kvOf f L)
  simp only [List.length_append, List.length_cons, List.length_nil]
  omega

theorem kinds58 (w : Wh) (nl fu : Bool) (l : List Wl) (g : FuncId) (f : Tr → Int) (hw : WhOk w) (hl : ∀ y ∈ l, WlOk w y) (hn : l.length ≤ 1000) (hf : ∀ t ∈ allT w, Pure Tryz.prog g [encTr t] (encI (f t)))
  (hfb : ∀ t ∈ allT w, -100000 ≤ f t ∧ f t ≤ 100000) :
  Fresh Tryz.prog 69 [encDesk w nl fu l, .fn (.func g) [] []] ⟨(kindsL f (truthsL w l)).isEmpty, false, 1, (kindsL f (truthsL w l)).map cI⟩ := by
 have hbd := truthsL_bd l hw
 refine fresh_of (fn := Tryz.f69) [.tmp 4] ⟨Tryz.func69, rfl, by kernel_rfl⟩ (by kernel_rfl) (by kernel_rfl) (by kernel_rfl) fun x hx hσ => ?_
 (repeat refine ZQ ?_); refine ZR fun K hK => ?_; simp (maxSteps := 1000000) [ty127, ty131]; refine hK _ ?_; clear hK K
 (repeat refine ZQ ?_); refine ZR fun K hK => ?_; simp (maxSteps := 1000000) [ty66]; refine hK _ ?_; clear hK K
 (repeat refine ZQ ?_); refine ZR fun K hK => ?_; simp (maxSteps := 1000000) [ty127]; refine hK _ ?_; clear hK K
 (repeat refine ZQ ?_); refine awp_block ?_
 refine awp_range0 2000000 [2000003, 2000005, 2000007] (fun i => F3 g (kvOf f ((truthsL w l).take i))) (itTr (truthsL w l)) (truthsL w l).length .ret
  [(3, .ptr 2000003 1 0 0), (5, .ptr 2000005 1 0 0), (9, .fn (.func 84) [encDesk w nl fu l] [])] [(3, .ptr 2000003 1 0 0), (5, .ptr 2000005 1 0 0)]
  (first := [encDesk w nl fu l]) (caps := []) ?_ hσ (by simp) (by rw [hx]; decide) ⟨by simp [purel, C.isPure], rfl⟩ (it_truths w nl fu l hw hl hn) (by simp) (by simp) (by simp) (fun i => by simp) (fun i p hp => by
   simp only [F3, List.mem_cons, List.not_mem_nil, or_false] at hp
   rcases hp with rfl | rfl | rfl
   ·exact ⟨_, rfl, by simp [wil, C.wi], by simp⟩
   ·exact ⟨_, rfl, by simp [wil, C.wi], by simp⟩
   ·exact ⟨_, rfl, rowsII_wil _ _, rowsII_cell _⟩) (by simp [C.wi, wil]) (by simp [C.wi, wil]) ?_ ?_ ?_ ?_
 ·refine wk_shape2 [(2000003, 3, .live ⟨false, false, 1, [[.fn (.func g) [] []]]⟩), (2000005, 5, .live ⟨false, false, 1, [[.mp 2000007]]⟩), (2000007, 7, .live (mapOb []))] (by first | rfl | (simp only [if_pos, if_true]; rfl)) (shp0 hσ (by simp) (by simp) ?_) ?_
  ·simp [SlotOk] <;> (repeat' (first | exact .same (by simp [purel, C.isPure]) | exact .cons (by simp [mtl, mtc, mT, mH, C.isPure, purel]) (by simp) .nil | refine And.intro ?_ ?_))
  ·simp [mtc, mtl, mT, C.isPure, purel] <;> (try simp (disch := omega) [wrap_id]) <;> (try omega)
 ·intro args ha
  obtain ⟨t, ht, rfl⟩ := List.mem_map.1 ha
  simp [purel, C.isPure]
 ·intro i args hit hi y y2 hy1 hy2 hyσ hy
  obtain ⟨t, ht, rfl⟩ := itTr_get hit
  have hi' := (List.getElem?_eq_some_iff.1 ht).1
  have hti : (truthsL w l)[i] = t := (List.getElem?_eq_some_iff.1 ht).2
  have hta : t ∈ allT w := (List.mem_filter.1 (List.mem_of_getElem? ht)).1
  have hst := kvOf_step f hi'
  rw [hti] at hst
  have hcb := (kvOf_facts f ((truthsL w l).take i)).2.2
  have hx0 := hx
  have hx := hy1.trans hx0
  (repeat refine ZQ ?_); refine ZR fun K hK => ?_; simp (maxSteps := 1000000) [ty133, putPs]; refine hK _ ?_; clear hK K; (first | show AWP _ _ _ _ _ | show ∃ _, _ | skip)
  refine ⟨by simp, ?_⟩
  have hx := hy2.trans hx0
  (repeat refine ZQ ?_); refine awp_block ?_
  generalize hkv : kvOf f ((truthsL w l).take i) = kv at *
  rcases find_bump (f t) kv 0 with ⟨j, n, h1, h2, h3⟩ | ⟨h1, h2⟩
  ·rw [Nat.zero_add] at h1
   have hnb := hcb _ h3
   rw [List.length_take] at hnb
   simp only at hnb
   (repeat refine ZQ ?_); refine ZD [] [0, 1, 2, 3, 4, 5, 6] fun K hK => ?_; simp (maxSteps := 1000000) [ty66, ty131, ty133, ty3]
   refine ZE (hf t hta) ?_; simp (maxSteps := 1000000) [ty66, ty131, ty133, ty3, h1]
   refine hK _ ?_; clear hK K; (first | show AWP _ _ _ _ _ | show ∃ _, _ | skip)
   have hwr : IntKind.i64.wrap (n + 1) = n + 1 := wrap_id (by omega) (by omega)
   have h2' : (rowsII kv).set j [C.int .i64 (f t), C.int .i64 (n + 1)] = rowsII (bump kv (f t)) := h2
   rw [hwr, h2']
   rw [hst]
   refine ⟨by rw [if_neg (by omega)], ?_⟩
   refine wk_round (E := []) [(2000000, 2000000, .gh), (2000003, 2000003, .live ⟨false, false, 1, [[.fn (.func g) [] []]]⟩), (2000005, 2000005, .live ⟨false, false, 1, [[.mp 2000007]]⟩), (2000007, 2000007, .live (mapOb (bump kv (f t))))] rfl hy (by simp [mT]) (by simp) (by simp) ?_ (by simp)
   simp [SlotOk]
   exact ⟨.same (by simp [purel, C.isPure]), .cons (by simp [mtl, mtc, mT]) (by simp) .nil, .same (rowsII_pure _)⟩
  ·(repeat refine ZQ ?_); refine ZD [] [0, 1, 2, 3, 4, 5, 6] fun K hK => ?_; simp (maxSteps := 1000000) [ty66, ty131, ty133, ty3]
   refine ZE (hf t hta) ?_; simp (maxSteps := 1000000) [ty66, ty131, ty133, ty3, h1]
   refine hK _ ?_; clear hK K; (first | show AWP _ _ _ _ _ | show ∃ _, _ | skip)
   have hwr : IntKind.i64.wrap 1 = 1 := by decide
   have h2' : rowsII kv ++ [[C.int .i64 (f t), C.int .i64 1]] = rowsII (bump kv (f t)) := h2
   rw [hwr, h2', hst]
   refine ⟨by rw [if_neg (by omega)], ?_⟩
   refine wk_round (E := []) [(2000000, 2000000, .gh), (2000003, 2000003, .live ⟨false, false, 1, [[.fn (.func g) [] []]]⟩), (2000005, 2000005, .live ⟨false, false, 1, [[.mp 2000007]]⟩), (2000007, 2000007, .live (mapOb (bump kv (f t))))] rfl hy (by simp [mT]) (by simp) (by simp) ?_ (by simp)
   simp [SlotOk]
   exact ⟨.same (by simp [purel, C.isPure]), .cons (by simp [mtl, mtc, mT]) (by simp) .nil, .same (rowsII_pure _)⟩
 ·intro he s' hs'
  refine AWP.weak ?_ hs'
  have hf3 := kvOf_facts f (truthsL w l)
  have hkb : ∀ p ∈ (kvOf f (truthsL w l)).map (fun p => (p.1, encI p.2)), -1000000000 ≤ p.1 ∧ p.1 ≤ 1000000000 := by
   intro p hp
   obtain ⟨q, hq, rfl⟩ := List.mem_map.1 hp
   obtain ⟨t, ht, e⟩ := (hf3.1 q.1).1 (List.mem_map.2 ⟨q, hq, rfl⟩)
   have := hfb t (List.mem_filter.1 ht).1
   simp only
   omega
  have hlen : (kvOf f (truthsL w l)).length ≤ 10000000 := by
   have := kvOf_len f (truthsL w l)
   omega
  have hkeq : ((kvOf f (truthsL w l)).map (fun p => (p.1, encI p.2))).map (·.1) = (kvOf f (truthsL w l)).map (·.1) := by simp
  have hrl : (itTr (truthsL w l)).length = (truthsL w l).length := he.symm
  rw [hrl, List.take_length]
  (repeat refine ZQ ?_); refine ZR fun K hK => ?_; simp (maxSteps := 1000000) [ty66]
  refine doesL (keys78 2000007 18 (o := mapOb (kvOf f (truthsL w l))) rfl rfl rfl rfl) ?_
  simp
  refine doesL (sorted77 2000007 18 19 (em := false) ((kvOf f (truthsL w l)).map (fun p => (p.1, encI p.2))) ?_ rfl rfl ?_ hkb ?_) ?_
  ·rw [← rowsII_KV]; rfl
  ·rw [hkeq]; exact hf3.2.1
  ·simpa using hlen
  rw [hkeq]
  simp
  refine hK _ ?_; clear hK K
  (repeat refine ZQ ?_)
  refine awp_ret ?_
  refine ⟨.inr rfl, .inl ⟨19, ?_, ?_, ?_⟩⟩
  ·simp [retC, resC, viewC, mapO, kindsL_len]
  ·have := kindsL_empty f (truthsL w l)
   simp [kindsL] at this
   simp [this, kindsL]
  ·simp [purel, C.isPure]
 ·intro hlt
  simp at hlt

set_option maxHeartbeats 4000000

@[simp] abbrev slI (A : List Int) : C := .sl A.isEmpty A.isEmpty (A.map cI)

@[simp] theorem take_cI (A : List Int) : List.take A.length (A.map cI) = A.map cI := List.take_of_length_le (by simp)

/-- What Areas and Skews say. -/
def numsI (f : Tr → Int) (w : Wh) (l : List Wl) : List Int := if openI w l true = 0 then kindsL f (truthsL w l) else []

theorem numsI_zero {f : Tr → Int} {w : Wh} {l : List Wl} (h : openI w l true ≠ 0) : numsI f w l = [] := if_neg h
theorem numsI_ok {f : Tr → Int} {w : Wh} {l : List Wl} (h : openI w l true = 0) : numsI f w l = kindsL f (truthsL w l) ∧ (numsI f w l).isEmpty = false ∧ numsI f w l ≠ [] := by
 have h2 : numsI f w l = kindsL f (truthsL w l) := if_pos h
 obtain ⟨_, _, hT⟩ := openI_ok h
 have h3 : numsI f w l ≠ [] := by
  rw [h2]
  intro e
  rcases List.exists_mem_of_ne_nil _ hT with ⟨t, ht⟩
  have := (kindsL_mem f (truthsL w l) (f t)).2 ⟨t, ht, rfl⟩
  rw [e] at this
  simp at this
 exact ⟨h2, by simpa [List.isEmpty_eq_false_iff] using h3, h3⟩

theorem area_bd {w : Wh} (hw : WhOk w) {t : Tr} (h : t ∈ allT w) : -100000 ≤ t.area ∧ t.area ≤ 100000 := by
 have h1 := allT_mem.1 h
 have h2 := hw.guess
 omega
theorem skew_bd {w : Wh} (hw : WhOk w) {t : Tr} (h : t ∈ allT w) : -100000 ≤ t.skew ∧ t.skew ≤ 100000 := by
 have h1 := allT_mem.1 h
 have h2 := hw.skew
 omega


theorem areas22 (w : Wh) (nl fu : Bool) (l : List Wl) (hn : l.length ≤ 1000) : Pure Tryz.prog 54 [encWh w, sWl nl fu l] (.tup [slI (numsI Tr.area w l), encI (openI w l true)]) := by
 refine ZF (fn := Tryz.f54) [.tmp 4, .tmp 5] ⟨Tryz.func54, rfl, by kernel_rfl⟩ fun x hx hσ => ?_
 (repeat refine ZQ ?_); refine ZR fun K hK => ?_; simp (maxSteps := 1000000) [ty25]; refine hK _ ?_; clear hK K
 (repeat refine ZQ ?_); refine ZR fun K hK => ?_; simp (maxSteps := 1000000) [ty25, ty127]
 refine ZP (open49 w nl fu true l hn) ?_; simp (maxSteps := 1000000) [ty127]
 refine hK _ ?_; clear hK K
 (repeat refine ZQ ?_); refine ZR fun K hK => ?_; simp (maxSteps := 1000000) [ty34]; refine hK _ ?_; clear hK K; (first | show AWP _ _ _ _ _ | show ∃ _, _ | skip)
 by_cases hz : openI w l true = 0
 ·obtain ⟨hc0, _, hT⟩ := openI_ok hz
  obtain ⟨hw, hl, h8⟩ := checkI_ok hc0
  have hne := numsI_ok (f := Tr.area) hz
  (repeat refine ZQ ?_); refine ZC (hc := by simp [hz]; rfl) (fun hd => ?_) (fun hd => ?_)
  ·simp at hd
  ·clear hd
   refine awp_skip ?_
   (repeat refine ZQ ?_); refine ZR fun K hK => ?_; simp (maxSteps := 1000000) [ty127]
   refine freshL (kinds58 w nl fu l 70 Tr.area hw hl hn (fun t _ => area59 t) (fun t ht => area_bd hw ht)) (by simp [purel, C.isPure]) rfl ?_
   simp
   refine hK _ ?_; clear hK K
   (repeat refine ZQ ?_); refine awp_ret ?_; refine And.intro (Or.inr rfl) ?_
   rw [← hne.1]
   simp [retC, resC, viewC, mapO, hne.2.1, hz, purel, C.isPure]
 ·have hz0 := numsI_zero (f := Tr.area) hz
  (repeat refine ZQ ?_); refine ZC (hc := by simp [hz]; rfl) (fun hd => ?_) (fun hd => ?_)
  ·clear hd
   (repeat refine ZQ ?_); refine ZR fun K hK => ?_; simp (maxSteps := 1000000); refine hK _ ?_; clear hK K
   (repeat refine ZQ ?_); refine awp_ret ?_; refine And.intro (Or.inr rfl) ?_
   simp [retC, resC, viewC, mapO, hz0]
  ·simp [hz] at hd

theorem skews36 (w : Wh) (nl fu : Bool) (l : List Wl) (hn : l.length ≤ 1000) : Pure Tryz.prog 80 [encWh w, sWl nl fu l] (.tup [slI (numsI Tr.skew w l), encI (openI w l true)]) := by
 refine ZF (fn := Tryz.f80) [.tmp 4, .tmp 5] ⟨Tryz.func80, rfl, by kernel_rfl⟩ fun x hx hσ => ?_
 (repeat refine ZQ ?_); refine ZR fun K hK => ?_; simp (maxSteps := 1000000) [ty25]; refine hK _ ?_; clear hK K
 (repeat refine ZQ ?_); refine ZR fun K hK => ?_; simp (maxSteps := 1000000) [ty25, ty127]
 refine ZP (open49 w nl fu true l hn) ?_; simp (maxSteps := 1000000) [ty127]
 refine hK _ ?_; clear hK K
 (repeat refine ZQ ?_); refine ZR fun K hK => ?_; simp (maxSteps := 1000000) [ty34]; refine hK _ ?_; clear hK K; (first | show AWP _ _ _ _ _ | show ∃ _, _ | skip)
 by_cases hz : openI w l true = 0
 ·obtain ⟨hc0, _, hT⟩ := openI_ok hz
  obtain ⟨hw, hl, h8⟩ := checkI_ok hc0
  have hne := numsI_ok (f := Tr.skew) hz
  (repeat refine ZQ ?_); refine ZC (hc := by simp [hz]; rfl) (fun hd => ?_) (fun hd => ?_)
  ·simp at hd
  ·clear hd
   refine awp_skip ?_
   (repeat refine ZQ ?_); refine ZR fun K hK => ?_; simp (maxSteps := 1000000) [ty127]
   refine freshL (kinds58 w nl fu l 101 Tr.skew hw hl hn (fun t _ => skew70 t) (fun t ht => skew_bd hw ht)) (by simp [purel, C.isPure]) rfl ?_
   simp
   refine hK _ ?_; clear hK K
   (repeat refine ZQ ?_); refine awp_ret ?_; refine And.intro (Or.inr rfl) ?_
   rw [← hne.1]
   simp [retC, resC, viewC, mapO, hne.2.1, hz, purel, C.isPure]
 ·have hz0 := numsI_zero (f := Tr.skew) hz
  (repeat refine ZQ ?_); refine ZC (hc := by simp [hz]; rfl) (fun hd => ?_) (fun hd => ?_)
  ·clear hd
   (repeat refine ZQ ?_); refine ZR fun K hK => ?_; simp (maxSteps := 1000000); refine hK _ ?_; clear hK K
   (repeat refine ZQ ?_); refine awp_ret ?_; refine And.intro (Or.inr rfl) ?_
   simp [retC, resC, viewC, mapO, hz0]
  ·simp [hz] at hd

theorem ends_eq (A : List Int) (h : 0 < A.length) : A.headD 0 = A[0] ∧ A.getLastD 0 = A[A.length - 1] := by
 cases A with
 | nil => simp at h
 | cons a A => simp [List.getLastD_eq_getLast?, List.getLast?_eq_getElem?]

theorem numsI_len (f : Tr → Int) (w : Wh) (l : List Wl) : (numsI f w l).length ≤ 410000 := by
 unfold numsI
 split
 ·rename_i h
  obtain ⟨hc0, _, hT⟩ := openI_ok h
  obtain ⟨hw, hl, h8⟩ := checkI_ok hc0
  have := truthsL_bd l hw
  have h2 := kvOf_len f (truthsL w l)
  rw [kindsL_len]; omega
 ·simp

set_option maxHeartbeats 2000000

-- trials: what they are, and whether they are valid

/-- A test. -/
structure Ts where
  area : Int
  nl : Bool
  fu : Bool
  l : List Wl

/-- A trial. -/
structure Ti where
  w : Wh
  gain : Int
  nl : Bool
  fu : Bool
  ts : List Ts

@[simp] abbrev cTs (x : Ts) : List C := [encI x.area, sWl x.nl x.fu x.l]
@[simp] abbrev encTs (x : Ts) : C := .agg (cTs x)
@[simp] abbrev sTs (nl fu : Bool) (l : List Ts) : C := .sl nl fu (l.map cTs)
@[simp] abbrev cTi (t : Ti) : List C := [encI t.w.full, encI t.w.read, encI t.w.slip, encI t.w.skew, encI t.w.circle, encI t.w.glow, encI t.w.ghigh, encI t.w.wrong, encI t.gain, sTs t.nl t.fu t.ts]
@[simp] abbrev encTi (t : Ti) : C := .agg (cTi t)

/-- Not too much of anything. -/
structure TiLen (t : Ti) : Prop where
  ts : t.ts.length ≤ 1000
  l : ∀ x ∈ t.ts, x.l.length ≤ 1000

def areaB (n : Int) : Bool := decide (0 ≤ n) && decide (n ≤ 9000)

theorem within69 (n a b : Int) : Pure Tryz.prog 51 [encI n, encI a, encI b] (.bool (decide (a ≤ n) && decide (n ≤ b))) := by
 refine ZF (fn := Tryz.f51) [.tmp 6] ⟨Tryz.func51, rfl, by kernel_rfl⟩ fun x hx hσ => ?_
 (repeat refine ZQ ?_); refine ZR fun K hK => ?_; simp (maxSteps := 1000000) [ty4]; refine hK _ ?_; clear hK K; (first | show AWP _ _ _ _ _ | show ∃ _, _ | skip)
 by_cases h : a ≤ n
 ·(repeat refine ZQ ?_); refine ZR fun K hK => ?_; simp (maxSteps := 1000000) [ty3, ty4, h]; refine hK _ ?_; clear hK K
  (repeat refine ZQ ?_); refine awp_ret ?_; refine And.intro (Or.inr rfl) ?_
  simp [retC, resC, viewC, mapO, h]
 ·(repeat refine ZQ ?_); refine ZR fun K hK => ?_; simp (maxSteps := 1000000) [ty3, ty4, h]; refine hK _ ?_; clear hK K
  (repeat refine ZQ ?_); refine awp_ret ?_; refine And.intro (Or.inr rfl) ?_
  simp [retC, resC, viewC, mapO, h]

theorem isArea53 (n : Int) : Pure Tryz.prog 25 [encI n] (.bool (areaB n)) := by
 refine ZF (fn := Tryz.f25) [.tmp 2] ⟨Tryz.func25, rfl, by kernel_rfl⟩ fun x hx hσ => ?_
 (repeat refine ZQ ?_); refine ZR fun K hK => ?_; simp (maxSteps := 1000000) [ty4]; refine hK _ ?_; clear hK K
 (repeat refine ZQ ?_); refine ZR fun K hK => ?_; simp (maxSteps := 1000000) [ty4]
 refine ZP (within69 n 0 9000) ?_; simp (maxSteps := 1000000) [ty4]
 refine hK _ ?_; clear hK K
 (repeat refine ZQ ?_); refine awp_ret ?_; refine And.intro (Or.inr rfl) ?_
 simp [retC, resC, viewC, mapO, areaB]

theorem strange68 (y : Ts) : Pure Tryz.prog 77 [encTs y] (.bool (!areaB y.area)) := by
 refine ZF (fn := Tryz.f77) [.tmp 2] ⟨Tryz.func77, rfl, by kernel_rfl⟩ fun x hx hσ => ?_
 (repeat refine ZQ ?_); refine ZR fun K hK => ?_; simp (maxSteps := 1000000) [ty55]; refine hK _ ?_; clear hK K
 (repeat refine ZQ ?_); refine ZR fun K hK => ?_; simp (maxSteps := 1000000) [ty55, ty3]
 refine ZP (isArea53 y.area) ?_; simp (maxSteps := 1000000) [ty4]
 refine hK _ ?_; clear hK K
 (repeat refine ZQ ?_); refine awp_ret ?_; refine And.intro (Or.inr rfl) ?_
 simp [retC, resC, viewC, mapO]

/-- Where the first strange test is. -/
def firstT (l : List Ts) : Int := if l.all (fun x => areaB x.area) then -1 else (l.findIdx fun x => !areaB x.area : Nat)

theorem firstT_at {l : List Ts} {i : Nat} (hi : i < l.length) (h0 : ∀ j, (h : j < l.length) → j < i → areaB l[j].area = true) (h1 : areaB l[i].area = false) : firstT l = i := by
 unfold firstT
 rw [if_neg]
 ·congr 1
  rw [List.findIdx_eq hi]
  exact ⟨by simp [h1], fun j hj => by simp [h0 j (by omega) hj]⟩
 ·intro h
  rw [List.all_eq_true] at h
  rw [h _ (List.getElem_mem hi)] at h1
  cases h1

theorem firstT_neg (l : List Ts) : decide (0 ≤ firstT l) = !l.all (fun x => areaB x.area) := by
 unfold firstT
 cases l.all (fun x => areaB x.area) <;> simp

theorem index89 (nl fu : Bool) (l : List Ts) (hn : l.length ≤ 1000) : Pure Tryz.prog 95 [sTs nl fu l, .fn (.func 77) [] []] (encI (firstT l)) := by
 refine ZF (fn := Tryz.f95) [.tmp 4] ⟨Tryz.func95, rfl, by kernel_rfl⟩ fun x hx hσ => ?_
 (repeat refine ZQ ?_); refine ZR fun K hK => ?_; simp (maxSteps := 1000000); refine hK _ ?_; clear hK K
 (repeat refine ZQ ?_); refine ZR fun K hK => ?_; simp (maxSteps := 1000000) [ty26]; refine hK _ ?_; clear hK K
 (repeat refine ZQ ?_); refine awp_block ?_
 refine awp_loop (fun i : Nat => ⟨ofL [(0, sTs nl fu l), (1, .fn (.func 77) [] []), (7, encI l.length), (8, encI i)], stoT []⟩)
  (fun i => i ≤ l.length ∧ ∀ j, (h : j < l.length) → j < i → areaB l[j].area = true) (fun i => l.length - i) 0 (by simp) ?_ ?_
 ·exact Zw
 ·intro i ⟨hi, hj⟩
  (repeat refine ZQ ?_); refine ZR fun K hK => ?_; simp (maxSteps := 1000000) [ty3]; refine hK _ ?_; clear hK K
  (repeat refine ZQ ?_); refine ZC (fun hc => ?_) (fun hc => ?_)
  ·simp at hc
   refine awp_skip ?_
   (repeat refine ZQ ?_); refine awp_block ?_
   (repeat refine ZQ ?_); refine ZR fun K hK => ?_; simp (maxSteps := 1000000); refine hK _ ?_; clear hK K
   (repeat refine ZQ ?_); refine ZR fun K hK => ?_; simp (maxSteps := 1000000) [ty26, ty55, hc]
   refine ZP (strange68 l[i]) ?_; simp (maxSteps := 1000000)
   refine hK _ ?_; clear hK K; (first | show AWP _ _ _ _ _ | show ∃ _, _ | skip)
   cases hb : areaB l[i].area
   ·(repeat refine ZQ ?_); refine ZC (hc := by simp [hb]; rfl) (fun hd => ?_) (fun hd => ?_)
    ·clear hd
     (repeat refine ZQ ?_); refine ZR fun K hK => ?_; simp (maxSteps := 1000000); refine hK _ ?_; clear hK K
     (repeat refine ZQ ?_); refine awp_ret ?_; refine And.intro (Or.inr rfl) ?_
     rw [firstT_at hc hj hb]
     simp [retC, resC, viewC, mapO]
    ·simp at hd
   ·(repeat refine ZQ ?_); refine ZC (hc := by simp [hb]; rfl) (fun hd => ?_) (fun hd => ?_)
    ·simp at hd
    ·clear hd
     refine awp_skip ?_
     (repeat refine ZQ ?_); refine ZR fun K hK => ?_; simp (maxSteps := 1000000) [ty3]; refine hK _ ?_; clear hK K; (first | show AWP _ _ _ _ _ | show ∃ _, _ | skip)
     refine ⟨i + 1, ⟨by omega, fun j h1 h2 => ?_⟩, by omega, ?_⟩
     ·by_cases hji : j = i
      ·subst hji; assumption
      ·exact hj j h1 (by omega)
     ·exact Zw
  ·simp at hc
   (repeat refine ZQ ?_); refine awp_exit ?_
   (repeat refine ZQ ?_); refine ZR fun K hK => ?_; simp (maxSteps := 1000000); refine hK _ ?_; clear hK K
   (repeat refine ZQ ?_); refine awp_ret ?_; refine And.intro (Or.inr rfl) ?_
   have : l.all (fun x => areaB x.area) = true := by
    rw [List.all_eq_true]
    intro y hy
    obtain ⟨i', hi', rfl⟩ := List.getElem_of_mem hy
    exact hj i' hi' (by omega)
   have : firstT l = -1 := by unfold firstT; rw [if_pos this]
   rw [this]
   simp [retC, resC, viewC, mapO]

theorem contains70 (nl fu : Bool) (l : List Ts) (hn : l.length ≤ 1000) : Pure Tryz.prog 78 [sTs nl fu l, .fn (.func 77) [] []] (.bool (!l.all (fun x => areaB x.area))) := by
 refine ZF (fn := Tryz.f78) [.tmp 4] ⟨Tryz.func78, rfl, by kernel_rfl⟩ fun x hx hσ => ?_
 (repeat refine ZQ ?_); refine ZR fun K hK => ?_; simp (maxSteps := 1000000); refine hK _ ?_; clear hK K
 (repeat refine ZQ ?_); refine ZR fun K hK => ?_; simp (maxSteps := 1000000)
 refine ZP (index89 nl fu l hn) ?_; simp (maxSteps := 1000000) [ty3]
 refine hK _ ?_; clear hK K
 (repeat refine ZQ ?_); refine awp_ret ?_; refine And.intro (Or.inr rfl) ?_
 simp [retC, resC, viewC, mapO]
 exact firstT_neg l

/-- The first error of a wheel with some walks. -/
def checksI (w : Wh) : List Ts → Int
  | [] => 0
  | x :: l => if checkI w x.l ≠ 0 then checkI w x.l else checksI w l

/-- What Check answers. -/
def checkT (t : Ti) : Int :=
  if (decide (0 ≤ t.gain) && decide (t.gain ≤ 50)) = false ∨ t.ts.length > 6 ∨ t.ts.all (fun x => areaB x.area) = false then 90
  else if t.ts = [] then checkI t.w [] else checksI t.w t.ts

theorem checksI_take {w : Wh} {l : List Ts} : ∀ {i : Nat} (_ : i ≤ l.length), (∀ j, (h : j < l.length) → j < i → checkI w l[j].l = 0) → checksI w l = checksI w (l.drop i) := by
 induction l with
 | nil => intro i _ _; simp
 | cons x l ih =>
  intro i hi h
  cases i with
  | zero => rfl
  | succ i =>
   have h0 := h 0 (by simp) (by omega)
   simp only [List.getElem_cons_zero] at h0
   simp only [checksI, h0, List.drop_succ_cons]
   exact ih (by simpa using hi) fun j hj h1 => by
    have := h (j + 1) (by simpa using hj) (by omega)
    rwa [List.getElem_cons_succ] at this

theorem checksI_at {w : Wh} {l : List Ts} {i : Nat} (hi : i < l.length) (h : ∀ j, (h : j < l.length) → j < i → checkI w l[j].l = 0) (h1 : checkI w l[i].l ≠ 0) : checksI w l = checkI w l[i].l := by
 rw [checksI_take (Nat.le_of_lt hi) h, List.drop_eq_getElem_cons hi, checksI, if_pos h1]

theorem checksI_all {w : Wh} {l : List Ts} (h : ∀ j, (h : j < l.length) → checkI w l[j].l = 0) : checksI w l = 0 := by
 rw [checksI_take (Nat.le_refl _) fun j hj _ => h j hj, List.drop_length]
 rfl

set_option maxHeartbeats 2000000

-- trials: what is seen, and the error

/-- The seen area. -/
def seenA (area gain : Int) : Int := area + area * gain / 1000

theorem mul_bd {a g : Int} (ha : 0 ≤ a ∧ a ≤ 9000) (hg : -50 ≤ g ∧ g ≤ 50) : -450000 ≤ a * g ∧ a * g ≤ 450000 := by
 constructor
 ·have h1 : a * (-50) ≤ a * g := Int.mul_le_mul_of_nonneg_left hg.1 ha.1
  omega
 ·have h1 : a * g ≤ a * 50 := Int.mul_le_mul_of_nonneg_left hg.2 ha.1
  omega

theorem seen55 (a g : Int) (ha : 0 ≤ a ∧ a ≤ 9000) (hg : -50 ≤ g ∧ g ≤ 50) : Pure Tryz.prog 27 [encI a, encI g] (encI (seenA a g)) := by
 have hb := mul_bd ha hg
 have hd : seenA a g = a + a * g / 1000 := rfl
 generalize hn : a * g = n at *
 have hwn : IntKind.i64.wrap n = n := wrap_id (by omega) (by omega)
 refine ZF (fn := Tryz.f27) [.tmp 4] ⟨Tryz.func27, rfl, by kernel_rfl⟩ fun x hx hσ => ?_
 (repeat refine ZQ ?_); refine ZR fun K hK => ?_; simp (maxSteps := 1000000) [ty3]; refine hK _ ?_; clear hK K
 (repeat refine ZQ ?_); refine ZR fun K hK => ?_; simp (maxSteps := 1000000) [ty3, hn, hwn]; refine hK _ ?_; clear hK K; (first | show AWP _ _ _ _ _ | show ∃ _, _ | skip)
 by_cases h0 : n < 0
 ·(repeat refine ZQ ?_); refine ZR fun K hK => ?_; simp (maxSteps := 1000000) [ty3, h0]; refine hK _ ?_; clear hK K
  (repeat refine ZQ ?_); refine ZC (hc := by simp [h0]; rfl) (fun hc => ?_) (fun hc => ?_)
  ·clear hc
   have h1 : IntKind.i64.wrap (-n) = -n := wrap_id (by omega) (by omega)
   have h2 : IntKind.i64.wrap (-n + 999) = -n + 999 := wrap_id (by omega) (by omega)
   have h3 : (-n + 999).tdiv 1000 = (-n + 999) / 1000 := Int.tdiv_eq_ediv_of_nonneg (by omega)
   have h4 : IntKind.i64.wrap ((-n + 999) / 1000) = (-n + 999) / 1000 := wrap_id (by omega) (by omega)
   have h6 : a - (-n + 999) / 1000 = seenA a g := by rw [hd]; omega
   have h5 : IntKind.i64.wrap (seenA a g) = seenA a g := wrap_id (by rw [hd]; omega) (by rw [hd]; omega)
   (repeat refine ZQ ?_); refine ZR fun K hK => ?_; simp (maxSteps := 1000000) [ty3, h1, h2, h3, h4, h5, h6]; refine hK _ ?_; clear hK K
   (repeat refine ZQ ?_); refine awp_ret ?_; refine And.intro (Or.inr rfl) ?_
   simp [retC, resC, viewC, mapO]
  ·simp at hc
 ·(repeat refine ZQ ?_); refine ZR fun K hK => ?_; simp (maxSteps := 1000000) [ty3, h0]; refine hK _ ?_; clear hK K
  (repeat refine ZQ ?_); refine ZC (hc := by simp [h0]; rfl) (fun hc => ?_) (fun hc => ?_)
  ·simp at hc
  ·clear hc
   refine awp_skip ?_; (first | show AWP _ _ _ _ _ | show ∃ _, _ | skip)
   have h3 : n.tdiv 1000 = n / 1000 := Int.tdiv_eq_ediv_of_nonneg (by omega)
   have h4 : IntKind.i64.wrap (n / 1000) = n / 1000 := wrap_id (by omega) (by omega)
   have h5 : IntKind.i64.wrap (a + n / 1000) = a + n / 1000 := wrap_id (by omega) (by omega)
   (repeat refine ZQ ?_); refine ZR fun K hK => ?_; simp (maxSteps := 1000000) [ty3, h3, h4, h5]; refine hK _ ?_; clear hK K
   (repeat refine ZQ ?_); refine awp_ret ?_; refine And.intro (Or.inr rfl) ?_
   simp [retC, resC, viewC, mapO, hd]

theorem seenA_bd {a g : Int} (ha : 0 ≤ a ∧ a ≤ 9000) (hg : -50 ≤ g ∧ g ≤ 50) : -450 ≤ seenA a g ∧ seenA a g ≤ 9450 := by
 have hb := mul_bd ha hg
 unfold seenA
 generalize a * g = n at *
 omega

def absI (n : Int) : Int := if n < 0 then -n else n
set_option maxHeartbeats 4000000

def fixTo (q : Nat → Bool) : Nat → List Int
 | 0 => []
 | n + 1 => if q n then fixTo q n ++ [(n : Int)] else fixTo q n

@[simp] theorem fixTo_zero (q : Nat → Bool) : fixTo q 0 = [] := rfl
set_option maxHeartbeats 4000000

@[simp] theorem ev_mapNil (s : AS) : s.ev (.const (.map none)) = .md true [] := rfl

@[simp] abbrev i1 (z : Int) : Ob := ⟨false, false, 1, [[encI z]]⟩
set_option maxHeartbeats 4000000

set_option maxHeartbeats 4000000

-- the reference's Check

theorem ref31 (w : Wh) (nl fu : Bool) (l : List Wl) (hn : l.length ≤ 1000) : Pure Tryz.prog 14 [encWh w, sWl nl fu l] (encI (checkI w l)) := by
 refine ZF (fn := Tryz.f14) [.tmp 4] ⟨Tryz.func14, rfl, by kernel_rfl⟩ fun x hx hσ => ?_
 (repeat refine ZQ ?_); refine ZR fun K hK => ?_; simp (maxSteps := 1000000) [ty25]; refine hK _ ?_; clear hK K
 (repeat refine ZQ ?_); refine ZR fun K hK => ?_; simp (maxSteps := 1000000) [ty25]
 refine ZP (isWheel67 w) ?_; simp (maxSteps := 1000000)
 refine hK _ ?_; clear hK K; (first | show AWP _ _ _ _ _ | show ∃ _, _ | skip)
 cases hb : wheelB w
 ·(repeat refine ZQ ?_); refine ZC (hc := by simp [hb]; rfl) (fun hd => ?_) (fun hd => ?_)
  ·clear hd
   (repeat refine ZQ ?_); refine ZR fun K hK => ?_; simp (maxSteps := 1000000); refine hK _ ?_; clear hK K
   (repeat refine ZQ ?_); refine awp_ret ?_; refine And.intro (Or.inr rfl) ?_
   simp [retC, resC, viewC, mapO, checkI, hb]
  ·simp at hd
 ·have hw := wheelB_iff.1 hb
  (repeat refine ZQ ?_); refine ZC (hc := by simp [hb]; rfl) (fun hd => ?_) (fun hd => ?_)
  ·simp at hd
  ·clear hd
   refine awp_skip ?_
   (repeat refine ZQ ?_); refine ZR fun K hK => ?_; simp (maxSteps := 1000000); refine hK _ ?_; clear hK K
   (repeat refine ZQ ?_); refine awp_block ?_
   refine awp_loop (fun i : Nat => ⟨ofL [(1, sWl nl fu l), (2, .ptr 2 8 0 0), (5, encI i)], stoT [(2, 2, .live (obWh w))]⟩)
    (fun i => i ≤ l.length ∧ ∀ j (hj : j < l.length), j < i → walkB w l[j] = true) (fun i => l.length - i) 0 ⟨Nat.zero_le _, fun j hj h => by omega⟩ ?_ ?_
   ·exact Zw
   ·rintro i ⟨hi, hj⟩
    (repeat refine ZQ ?_); refine ZR fun K hK => ?_; simp (maxSteps := 1000000) [ty53, ty3]; refine hK _ ?_; clear hK K
    (repeat refine ZQ ?_); refine ZC (fun hc => ?_) (fun hc => ?_)
    ·simp at hc
     refine awp_skip ?_
     (repeat refine ZQ ?_); refine awp_block ?_
     (repeat refine ZQ ?_); refine ZD [] [0, 1, 2, 3, 4, 5, 6] fun K hK => ?_; simp (maxSteps := 1000000) [ty25, ty53, ty82, hc]
     refine ZE (isWalk25 w l[i] (by have := hw.full; omega)) ?_; simp (maxSteps := 1000000) [ty82]
     refine hK _ ?_; clear hK K; (first | show AWP _ _ _ _ _ | show ∃ _, _ | skip)
     cases ha : walkB w l[i]
     ·(repeat refine ZQ ?_); refine ZC (hc := by simp [ha]; rfl) (fun hd => ?_) (fun hd => ?_)
      ·clear hd
       (repeat refine ZQ ?_); refine ZR fun K hK => ?_; simp (maxSteps := 1000000); refine hK _ ?_; clear hK K
       (repeat refine ZQ ?_); refine awp_ret ?_; refine And.intro (Or.inr rfl) ?_
       have : l.all (walkB w) = false := by
        rw [Bool.eq_false_iff]
        intro h
        rw [List.all_eq_true] at h
        rw [h _ (List.getElem_mem hc)] at ha
        cases ha
       simp [retC, resC, viewC, mapO, checkI, hb, this]
      ·simp at hd
     ·(repeat refine ZQ ?_); refine ZC (hc := by simp [ha]; rfl) (fun hd => ?_) (fun hd => ?_)
      ·simp at hd
      ·clear hd
       refine awp_skip ?_
       (repeat refine ZQ ?_); refine ZR fun K hK => ?_; simp (maxSteps := 1000000) [ty3]; refine hK _ ?_; clear hK K; (first | show AWP _ _ _ _ _ | show ∃ _, _ | skip)
       rw [wrap_id (by omega) (by omega)]
       refine ⟨i + 1, ⟨by omega, fun j hj' h => ?_⟩, by omega, ?_⟩
       ·by_cases e : j = i
        ·subst e; exact ha
        ·exact hj j hj' (by omega)
       ·exact Zw
    ·simp at hc
     (repeat refine ZQ ?_); refine awp_exit ?_; (first | show AWP _ _ _ _ _ | show ∃ _, _ | skip)
     have hall : l.all (walkB w) = true := by
      rw [List.all_eq_true]
      intro y hy
      obtain ⟨i', hi', rfl⟩ := List.getElem_of_mem hy
      exact hj i' hi' (by omega)
     by_cases hl8 : (8 : Int) < (l.length : Int)
     ·(repeat refine ZQ ?_); refine ZR fun K hK => ?_; simp (maxSteps := 1000000) [ty53, ty3, hl8]; refine hK _ ?_; clear hK K
      (repeat refine ZQ ?_); refine ZC (hc := by simp [hl8]; rfl) (fun hd => ?_) (fun hd => ?_)
      ·clear hd
       (repeat refine ZQ ?_); refine ZR fun K hK => ?_; simp (maxSteps := 1000000); refine hK _ ?_; clear hK K
       (repeat refine ZQ ?_); refine awp_ret ?_; refine And.intro (Or.inr rfl) ?_
       simp [retC, resC, viewC, mapO, checkI, hb]
       omega
      ·simp at hd
     ·(repeat refine ZQ ?_); refine ZR fun K hK => ?_; simp (maxSteps := 1000000) [ty53, ty3, hl8]; refine hK _ ?_; clear hK K
      (repeat refine ZQ ?_); refine ZC (hc := by simp [hl8]; rfl) (fun hd => ?_) (fun hd => ?_)
      ·simp at hd
      ·clear hd
       refine awp_skip ?_
       (repeat refine ZQ ?_); refine ZR fun K hK => ?_; simp (maxSteps := 1000000); refine hK _ ?_; clear hK K
       (repeat refine ZQ ?_); refine awp_ret ?_; refine And.intro (Or.inr rfl) ?_
       simp [retC, resC, viewC, mapO, checkI, hb, hall]
       omega

-- IsRight

set_option maxHeartbeats 4000000

@[simp] abbrev obTs (L : List Tr) : Ob := ⟨L.isEmpty, false, 2, L.map cTr⟩

def upT (w : Wh) (n : Nat) : List Tr := (allT w).take n
@[simp] theorem upT_zero (w : Wh) : upT w 0 = [] := rfl
theorem upT_len {w : Wh} {n : Nat} (h : n ≤ nA w * nS w) : (upT w n).length = n := by rw [upT, List.length_take, allT_len]; omega
theorem upT_step {w : Wh} {a s : Nat} (ha : a < nA w) (hs : s < nS w) : upT w (a * nS w + s + 1) = upT w (a * nS w + s) ++ [⟨w.glow + a, -w.skew + s⟩] := by
 unfold upT
 have h1 : a * nS w + s < (allT w).length := by rw [allT_len]; exact in_rows ha hs
 rw [List.take_succ_eq_append_getElem h1]
 have h2 := allT_get ha hs
 rw [List.getElem?_eq_getElem h1] at h2
 rw [Option.some.inj h2]

set_option maxHeartbeats 4000000

-- trials: all gains with all skews

/-- The wheel whose areas are the gains. -/
def gwT (t : Ti) : Wh := { t.w with glow := -t.gain, ghigh := t.gain }

/-- A trial that is valid as to its numbers. -/
structure TiNum (t : Ti) : Prop where
  gain : 0 ≤ t.gain ∧ t.gain ≤ 50
  skew : 0 ≤ t.w.skew ∧ t.w.skew ≤ 20

@[simp] abbrev obTi (t : Ti) : Ob := ⟨false, false, 10, [cTi t]⟩

theorem every98 (t : Ti) (hw : TiNum t) : Fresh Tryz.prog 62 [encTi t] (obTs (allT (gwT t))) := by
 have hs := hw.skew
 have hg := hw.gain
 have hA : (nA (gwT t) : Int) = t.gain - -t.gain + 1 := by unfold nA gwT; simp only; omega
 have hS : (nS (gwT t) : Int) = 2 * t.w.skew + 1 := by unfold nS gwT; simp only; omega
 have hwr : IntKind.i64.wrap (-t.w.skew) = -t.w.skew := wrap_id (by omega) (by omega)
 have hwg : IntKind.i64.wrap (-t.gain) = -t.gain := wrap_id (by omega) (by omega)
 have hbA : nA (gwT t) ≤ 101 := by omega
 have hbS : nS (gwT t) ≤ 41 := by omega
 have hlen := allT_len (gwT t)
 have hNN : nA (gwT t) * nS (gwT t) ≤ 410000 := by
  have : nA (gwT t) * nS (gwT t) ≤ 101 * 41 := Nat.mul_le_mul hbA hbS
  omega
 have hst0 : ∀ {a s : Nat} (ha : a < nA (gwT t)) (hs : s < nS (gwT t)), upT (gwT t) (a * nS (gwT t) + s + 1) = upT (gwT t) (a * nS (gwT t) + s) ++ [⟨-t.gain + a, -t.w.skew + s⟩] := fun ha hs => upT_step ha hs
 have hal0 : ∀ a, a = nA (gwT t) → upT (gwT t) (a * nS (gwT t)) = allT (gwT t) := fun a ha => by rw [upT, ha, ← hlen, List.take_length]
 have hul : ∀ {n}, n ≤ nA (gwT t) * nS (gwT t) → (upT (gwT t) n).length = n := fun h => upT_len h
 have hu0 : upT (gwT t) 0 = [] := rfl
 generalize hU : upT (gwT t) = U at *
 generalize hAl : allT (gwT t) = Al at *
 generalize nA (gwT t) = A at *
 generalize nS (gwT t) = S at *
 refine fresh_of (fn := Tryz.f62) [.tmp 2] ⟨Tryz.func62, rfl, by kernel_rfl⟩ (by kernel_rfl) (by kernel_rfl) (by kernel_rfl) fun x hx hσ => ?_
 (repeat refine ZQ ?_); refine ZR fun K hK => ?_; simp (maxSteps := 1000000) [ty28]; refine hK _ ?_; clear hK K
 (repeat refine ZQ ?_); refine ZR fun K hK => ?_; simp (maxSteps := 1000000) [ty28, ty3]; refine hK _ ?_; clear hK K; (first | show AWP _ _ _ _ _ | show ∃ _, _ | skip)
 rw [hwg]
 (repeat refine ZQ ?_); refine awp_block ?_
 refine AWP.weak ?_ (wk_nil 2 2 2 (fu := true) (by simp) (by simp))
 refine awp_loop (fun a : Nat => ⟨ofL [(1, .ptr 1 10 0 0), (2, .own 2 2 0 (a * S)), (3, encI (-t.gain + a))], stoT [(1, 1, .live (obTi t)), (2, 2, .live (obTs (U (a * S))))]⟩)
  (fun a => a ≤ A) (fun a => A - a) 0 (by simp) ?_ ?_
 ·simp only [Nat.zero_mul, hu0]
  exact Zw
 ·intro a ha
  (repeat refine ZQ ?_); refine ZR fun K hK => ?_; simp (maxSteps := 1000000) [ty28, ty3]; refine hK _ ?_; clear hK K
  (repeat refine ZQ ?_); refine ZC (fun hc => ?_) (fun hc => ?_)
  ·simp at hc
   have haA : a < A := by omega
   refine awp_skip ?_
   (repeat refine ZQ ?_); refine awp_block ?_
   (repeat refine ZQ ?_); refine ZR fun K hK => ?_; simp (maxSteps := 1000000) [ty28, ty25, ty3]; refine hK _ ?_; clear hK K; (first | show AWP _ _ _ _ _ | show ∃ _, _ | skip)
   rw [hwr]
   (repeat refine ZQ ?_); refine awp_block ?_
   refine awp_loop (fun s : Nat => ⟨ofL [(1, .ptr 1 10 0 0), (2, .own 2 2 0 (a * S + s)), (3, encI (-t.gain + a)), (4, encI (-t.w.skew + s))], stoT [(1, 1, .live (obTi t)), (2, 2, .live (obTs (U (a * S + s))))]⟩)
    (fun s => s ≤ S) (fun s => S - s) 0 (by simp) ?_ ?_
   ·exact Zw
   ·intro s hsS
    have hle : a * S + s ≤ A * S := by
     have : (a + 1) * S ≤ A * S := Nat.mul_le_mul_right _ (by omega)
     rw [Nat.add_mul] at this; omega
    have hlt := hul hle
    (repeat refine ZQ ?_); refine ZR fun K hK => ?_; simp (maxSteps := 1000000) [ty28, ty25, ty3]; refine hK _ ?_; clear hK K
    (repeat refine ZQ ?_); refine ZC (fun hc2 => ?_) (fun hc2 => ?_)
    ·simp at hc2
     have hsl : s < S := by omega
     refine awp_skip ?_
     (repeat refine ZQ ?_); refine awp_block ?_
     have hst := hst0 haA hsl
     (repeat refine ZQ ?_); refine ZR fun K hK => ?_; simp (maxSteps := 1000000) [ty63, ty121, ty3, hlt]
     refine ⟨by omega, ?_⟩
     refine hK _ ?_; clear hK K
     (repeat refine ZQ ?_); refine ZR fun K hK => ?_; simp (maxSteps := 1000000) [ty3]; refine hK _ ?_; clear hK K; (first | show AWP _ _ _ _ _ | show ∃ _, _ | skip)
     rw [wrap_id (by omega) (by omega)]
     refine ⟨s + 1, by omega, by omega, ?_⟩
     refine wk_shape (T := [(1, 1, .live (obTi t)), (2, 30, .live (obTs (U (a * S + (s + 1)))))]) (shp0 hσ (by simp) (by simp) ?_) ?_
     ·simp [SlotOk, ← Nat.add_assoc, hst]
      exact ⟨.same (by simp [purel, C.isPure]), .same (by simp [purel, C.isPure])⟩
     ·simp [mtc, mtl, mT, C.isPure, ← Nat.add_assoc]
      omega
    ·simp at hc2
     (repeat refine ZQ ?_); refine awp_exit ?_; (first | show AWP _ _ _ _ _ | show ∃ _, _ | skip)
     have hsn : s = S := by omega
     (repeat refine ZQ ?_); refine ZR fun K hK => ?_; simp (maxSteps := 1000000) [ty3]; refine hK _ ?_; clear hK K; (first | show AWP _ _ _ _ _ | show ∃ _, _ | skip)
     rw [wrap_id (by omega) (by omega)]
     have hsa : a * S + s = (a + 1) * S := by rw [hsn, Nat.add_mul, Nat.one_mul]
     rw [hsa]
     refine ⟨a + 1, by omega, by omega, ?_⟩
     exact Zw
  ·simp at hc
   (repeat refine ZQ ?_); refine awp_exit ?_; (first | show AWP _ _ _ _ _ | show ∃ _, _ | skip)
   have han : a = A := by omega
   have hal := hal0 a han
   rw [hal]
   (repeat refine ZQ ?_); refine ZR fun K hK => ?_; simp (maxSteps := 1000000); refine hK _ ?_; clear hK K
   (repeat refine ZQ ?_)
   refine awp_ret ?_
   refine ⟨.inr rfl, .inl ⟨2, ?_, ?_, ?_⟩⟩
   ·simp [retC, resC, viewC, mapO, hlen, han]
   ·simp
   ·simp [purel, C.isPure]

set_option maxHeartbeats 4000000

@[simp] theorem take_cTr (L : List Tr) : List.take L.length (L.map cTr) = L.map cTr := List.take_of_length_le (by simp)

set_option maxHeartbeats 4000000

/-- Areas as they come, each once. -/
def addA (A : List Int) (t : Tr) : List Int := if t.area ∈ A then A else A ++ [t.area]
def areasR (L : List Tr) : List Int := L.foldl addA []

theorem areasR_app (L : List Tr) (t : Tr) : areasR (L ++ [t]) = addA (areasR L) t := by
 unfold areasR; rw [List.foldl_append]; rfl

set_option maxHeartbeats 4000000

-- laws of lists

theorem sorted_eq {A B : List Int} (h1 : A.Pairwise (· ≤ ·)) (h2 : B.Pairwise (· ≤ ·)) (n1 : A.Nodup) (n2 : B.Nodup) (h : ∀ b, b ∈ A ↔ b ∈ B) : A = B := by
 refine List.Perm.eq_of_pairwise (le := fun a b => a ≤ b) (fun a b _ _ h1 h2 => by omega) h1 h2 ((List.perm_ext_iff_of_nodup n1 n2).2 h)

theorem areasR_mem (L : List Tr) (b : Int) : b ∈ areasR L ↔ ∃ t ∈ L, t.area = b := by
 induction L using list_rev_ind with
 | h0 => simp [areasR]
 | h1 L t ih =>
  rw [areasR_app]
  unfold addA
  have : (∃ u ∈ L ++ [t], u.area = b) ↔ (∃ u ∈ L, u.area = b) ∨ t.area = b := by
   simp only [List.mem_append, List.mem_singleton]
   constructor
   ·rintro ⟨u, hu | rfl, e⟩
    ·exact .inl ⟨u, hu, e⟩
    ·exact .inr e
   ·rintro (⟨u, hu, e⟩ | e)
    ·exact ⟨u, .inl hu, e⟩
    ·exact ⟨t, .inr rfl, e⟩
  rw [this]
  split
  ·rename_i hm
   constructor
   ·exact fun h => .inl (ih.1 h)
   ·rintro (h | rfl)
    ·exact ih.2 h
    ·exact hm
  ·simp only [List.mem_append, List.mem_singleton, ih]
   constructor
   ·rintro (h | rfl)
    ·exact .inl h
    ·exact .inr rfl
   ·rintro (h | rfl)
    ·exact .inl h
    ·exact .inr rfl

theorem areasR_nodup (L : List Tr) : (areasR L).Nodup := by
 induction L using list_rev_ind with
 | h0 => simp [areasR]
 | h1 L t ih =>
  rw [areasR_app]
  unfold addA
  split
  ·exact ih
  ·rename_i hm
   refine List.nodup_append.2 ⟨ih, by simp, fun a ha b hb e => ?_⟩
   simp at hb
   subst hb; subst e
   exact hm ha

theorem areasR_sorted (L : List Tr) (h : L.Pairwise fun a b => a.area ≤ b.area) : (areasR L).Pairwise (· ≤ ·) := by
 induction L using list_rev_ind with
 | h0 => simp [areasR]
 | h1 L t ih =>
  rw [areasR_app]
  have h2 := List.pairwise_append.1 h
  have ih' := ih h2.1
  unfold addA
  split
  ·exact ih'
  ·refine List.pairwise_append.2 ⟨ih', by simp, fun a ha b hb => ?_⟩
   simp at hb
   subst hb
   obtain ⟨u, hu, rfl⟩ := (areasR_mem L a).1 ha
   exact h2.2.2 u hu t (by simp)

theorem areasR_eq {L : List Tr} (h : L.Pairwise fun a b => a.area ≤ b.area) : areasR L = kindsL Tr.area L :=
 sorted_eq (areasR_sorted L h) (kindsL_sorted _ _) (areasR_nodup L) (kindsL_nodup _ _) fun b => by rw [areasR_mem, kindsL_mem]

theorem allT_sorted (w : Wh) : (allT w).Pairwise fun a b => a.area ≤ b.area := by
 unfold allT
 refine List.pairwise_map.2 ?_
 refine List.Pairwise.imp ?_ List.pairwise_lt_range
 intro i j h
 simp only
 have : i / nS w ≤ j / nS w := Nat.div_le_div_right (Nat.le_of_lt h)
 omega

set_option maxHeartbeats 4000000

set_option maxHeartbeats 4000000

def skq (w : Wh) (L : List Tr) (i : Nat) : Bool := L.any fun t => decide (t.skew = -w.skew + i)
def skewsR (w : Wh) (L : List Tr) : Nat → List Int
 | 0 => []
 | n + 1 => if skq w L n then skewsR w L n ++ [-w.skew + n] else skewsR w L n
@[simp] theorem skewsR_zero (w : Wh) (L : List Tr) : skewsR w L 0 = [] := rfl

set_option maxHeartbeats 4000000

-- trials: what a test allows

def oneW (w : Wh) (n : Int) : Wh := { w with glow := n, ghigh := n }
/-- The skews that a test tells with a gain. -/
def tellA (w : Wh) (y : Ts) (g : Int) : List Int := numsI Tr.skew (oneW w (seenA y.area g)) y.l
/-- Whether a test allows a gain and a skew. -/
def allowB (w : Wh) (y : Ts) (k : Tr) : Bool := decide (k.skew ∈ tellA w y k.area)
def rowK (k : Tr) : List C := [.agg [encI k.area, encI k.skew], encI 1]

theorem numsI_sorted (f : Tr → Int) (w : Wh) (l : List Wl) : (numsI f w l).Pairwise (· ≤ ·) ∧ (numsI f w l).Nodup := by
 unfold numsI
 split
 ·exact ⟨kindsL_sorted _ _, kindsL_nodup _ _⟩
 ·simp

theorem numsI_skew {w : Wh} {l : List Wl} {s : Int} (h : s ∈ numsI Tr.skew w l) : -w.skew ≤ s ∧ s ≤ w.skew := by
 unfold numsI at h
 split at h
 ·obtain ⟨t, ht, rfl⟩ := (kindsL_mem _ _ _).1 h
  exact (allT_mem.1 (List.mem_filter.1 ht).1).2
 ·simp at h

theorem upT_row {w : Wh} {a : Nat} (ha : a < nA w) : ∀ {s : Nat}, s ≤ nS w → upT w (a * nS w + s) = upT w (a * nS w) ++ (List.range s).map fun i => ⟨w.glow + a, -w.skew + (i : Nat)⟩
 | 0, _ => by simp
 | s + 1, hs => by
  rw [← Nat.add_assoc, upT_step ha (by omega), upT_row ha (by omega), List.range_succ, List.map_append, List.append_assoc]
  rfl

/-- What a test allows of the first truths. -/
def rowsA (t : Ti) (y : Ts) (n : Nat) : List Tr := (upT (gwT t) n).filter (allowB t.w y)

theorem rowsA_step (t : Ti) (y : Ts) {a : Nat} (ha : a < nA (gwT t)) : rowsA t y ((a + 1) * nS (gwT t)) = rowsA t y (a * nS (gwT t)) ++ (tellA t.w y (-t.gain + a)).map fun s => ⟨-t.gain + a, s⟩ := by
 unfold rowsA
 rw [Nat.add_mul, Nat.one_mul, upT_row ha (Nat.le_refl _), List.filter_append]
 congr 1
 have h1 : ((List.range (nS (gwT t))).map fun i => (⟨(gwT t).glow + a, -(gwT t).skew + (i : Nat)⟩ : Tr)) = ((List.range (nS (gwT t))).map fun i => -(gwT t).skew + ((i : Nat) : Int)).map fun s => ⟨-t.gain + a, s⟩ := by
  rw [List.map_map]
  rfl
 rw [h1, List.filter_map]
 congr 1
 have hs := numsI_sorted Tr.skew (oneW t.w (seenA y.area (-t.gain + a))) y.l
 have hsk : (gwT t).skew = t.w.skew := rfl
 have hlt : ((List.range (nS (gwT t))).map fun i => -(gwT t).skew + ((i : Nat) : Int)).Pairwise (· < ·) := by
  rw [List.pairwise_map]
  exact List.pairwise_lt_range.imp (by intro a b h; omega)
 refine sorted_eq ((hlt.imp (by intro a b h; omega)).filter _) hs.1 ((List.Pairwise.imp (by intro a b h e; omega) hlt : List.Nodup _).filter _) hs.2 fun b => ?_
 rw [List.mem_filter]
 simp only [Function.comp, allowB, decide_eq_true_eq]
 constructor
 ·exact fun h => h.2
 ·intro h
  refine ⟨?_, h⟩
  have h2 := numsI_skew h
  have h3 : (oneW t.w (seenA y.area (-t.gain + a))).skew = t.w.skew := rfl
  rw [h3] at h2
  rw [List.mem_map]
  refine ⟨(b + t.w.skew).toNat, ?_, ?_⟩
  ·rw [List.mem_range]
   unfold nS
   rw [hsk]
   omega
  ·rw [hsk]
   omega

theorem findK_none (k : Tr) : ∀ (L : List Tr) (i : Nat), k ∉ L → findC (.flat [.i64, .i64]) (.agg [encI k.area, encI k.skew]) (L.map rowK) i = some none
 | [], i, _ => rfl
 | y :: L, i, h => by
  simp only [List.mem_cons, not_or] at h
  have h1 : (decide (k.area = y.area) && decide (k.skew = y.skew)) = false := by
   cases e : (decide (k.area = y.area) && decide (k.skew = y.skew)) with
   | false => rfl
   | true =>
    simp only [Bool.and_eq_true, decide_eq_true_eq] at e
    obtain ⟨a, b⟩ := k
    obtain ⟨c, d⟩ := y
    simp only at e
    exact absurd (by rw [e.1, e.2]) h.1
  have h2 := findK_none k L (i + 1) h.2
  simp only [encI] at h2
  simp [rowK, findC, sameC, eqInts, h1, h2]

theorem rowsA_lt {t : Ti} {y : Ts} {a : Nat} (ha : a < nA (gwT t)) {k : Tr} (h : k ∈ rowsA t y (a * nS (gwT t))) : k.area < -t.gain + a := by
 have h1 := (List.mem_filter.1 h).1
 unfold upT at h1
 obtain ⟨i, hi, rfl⟩ := List.getElem_of_mem h1
 have hi2 : i < a * nS (gwT t) := by simp only [List.length_take] at hi; omega
 have hpos : 0 < nS (gwT t) := Nat.pos_of_ne_zero fun e => by rw [e] at hi2; simp at hi2
 rw [List.getElem_take]
 simp only [allT, List.getElem_map, List.getElem_range]
 have h3 : i / nS (gwT t) < a := by rw [Nat.div_lt_iff_lt_mul hpos]; exact hi2
 generalize i / nS (gwT t) = q at *
 have h4 : (gwT t).glow = -t.gain := rfl
 rw [h4]
 omega

/-- The new key is not there. -/
theorem rowsA_new {t : Ti} {y : Ts} {a i : Nat} (ha : a < nA (gwT t)) (hi : i < (tellA t.w y (-t.gain + a)).length) :
    (⟨-t.gain + a, (tellA t.w y (-t.gain + a))[i]⟩ : Tr) ∉ rowsA t y (a * nS (gwT t)) ++ ((tellA t.w y (-t.gain + a)).take i).map fun s => (⟨-t.gain + a, s⟩ : Tr) := by
  intro h
  rcases List.mem_append.1 h with h | h
  · have := rowsA_lt ha h
    simp only at this
    omega
  · rw [List.mem_map] at h
    obtain ⟨s, h1, h2⟩ := h
    have h3 : s = (tellA t.w y (-t.gain + a))[i] := by injection h2
    have hn := (numsI_sorted Tr.skew (oneW t.w (seenA y.area (-t.gain + a))) y.l).2
    obtain ⟨j, hj, e⟩ := List.getElem_of_mem h1
    rw [List.getElem_take] at e
    have hj2 : j < i := by simp only [List.length_take] at hj; omega
    have := (List.getElem_inj hn).1 (e.trans h3)
    omega

set_option maxHeartbeats 4000000

theorem fe63 : flatEq Tryz.prog 63 = some [.i64, .i64] := by kernel_rfl

@[simp] abbrev obK (L : List Tr) : Ob := ⟨false, false, 0, L.map rowK⟩

@[simp] theorem rowK_pure (k : Tr) : purel (rowK k) = true := rfl

/-- The wheel as it stands ahead of a round. -/
def wst (t : Ti) (y : Ts) (a : Nat) : Wh := if a = 0 then t.w else oneW t.w (seenA y.area (-t.gain + ((a - 1 : Nat) : Int)))

@[simp] theorem wst_full (t : Ti) (y : Ts) (a : Nat) : (wst t y a).full = t.w.full := by unfold wst; split <;> rfl
@[simp] theorem wst_read (t : Ti) (y : Ts) (a : Nat) : (wst t y a).read = t.w.read := by unfold wst; split <;> rfl
@[simp] theorem wst_slip (t : Ti) (y : Ts) (a : Nat) : (wst t y a).slip = t.w.slip := by unfold wst; split <;> rfl
@[simp] theorem wst_skew (t : Ti) (y : Ts) (a : Nat) : (wst t y a).skew = t.w.skew := by unfold wst; split <;> rfl
@[simp] theorem wst_circle (t : Ti) (y : Ts) (a : Nat) : (wst t y a).circle = t.w.circle := by unfold wst; split <;> rfl
@[simp] theorem wst_wrong (t : Ti) (y : Ts) (a : Nat) : (wst t y a).wrong = t.w.wrong := by unfold wst; split <;> rfl
theorem skewsA (w : Wh) (y : Ts) (g : Int) (hn : y.l.length ≤ 1000) : Pure Tryz.prog 80 [.agg [encI w.full, encI w.read, encI w.slip, encI w.skew, encI w.circle, encI (seenA y.area g), encI (seenA y.area g), encI w.wrong], sWl y.nl y.fu y.l] (.tup [slI (tellA w y g), encI (openI (oneW w (seenA y.area g)) y.l true)]) :=
 skews36 (oneW w (seenA y.area g)) y.nl y.fu y.l hn

theorem allowed82 (t : Ti) (y : Ts) (hw : TiNum t) (ha : 0 ≤ y.area ∧ y.area ≤ 9000) (hn : y.l.length ≤ 1000) : Pure Tryz.prog 60 [encTi t, encTs y] (.md false ((allT (gwT t)).filter (allowB t.w y) |>.map rowK)) := by
 have hs := hw.skew
 have hg := hw.gain
 have hA : (nA (gwT t) : Int) = t.gain - -t.gain + 1 := by unfold nA gwT; simp only; omega
 have hS : (nS (gwT t) : Int) = 2 * t.w.skew + 1 := by unfold nS gwT; simp only; omega
 have hwg : IntKind.i64.wrap (-t.gain) = -t.gain := wrap_id (by omega) (by omega)
 have hlen := allT_len (gwT t)
 have hfin : rowsA t y (nA (gwT t) * nS (gwT t)) = (allT (gwT t)).filter (allowB t.w y) := by unfold rowsA upT; rw [← hlen, List.take_length]
 have h0 : rowsA t y (0 * nS (gwT t)) = [] := by simp [rowsA]
 rw [← hfin]
 refine ZF (fn := Tryz.f60) [.tmp 4] ⟨Tryz.func60, rfl, by kernel_rfl⟩ fun x hx hσ => ?_
 (repeat refine ZQ ?_); refine ZR fun K hK => ?_; simp (maxSteps := 1000000) [ty28, ty55, ty118]; refine hK _ ?_; clear hK K
 (repeat refine ZQ ?_); refine ZR fun K hK => ?_; simp (maxSteps := 1000000) [ty118]; refine hK _ ?_; clear hK K
 (repeat refine ZQ ?_); refine ZR fun K hK => ?_; simp (maxSteps := 1000000) [ty28, ty25]; refine hK _ ?_; clear hK K
 (repeat refine ZQ ?_); refine ZR fun K hK => ?_; simp (maxSteps := 1000000) [ty28, ty3]; refine hK _ ?_; clear hK K; (first | show AWP _ _ _ _ _ | show ∃ _, _ | skip)
 rw [hwg]
 (repeat refine ZQ ?_); refine awp_block ?_
 refine awp_loop (fun a : Nat => ⟨ofL [(2, .ptr 2 10 0 0), (3, .ptr 3 2 0 0), (5, .mp 13), (6, .ptr 6 8 0 0), (7, encI (-t.gain + a))], stoT [(2, 2, .live (obTi t)), (3, 3, .live ⟨false, false, 2, [cTs y]⟩), (13, 13, .live (obK (rowsA t y (a * nS (gwT t))))), (6, 6, .live (obWh (wst t y a)))]⟩)
  (fun a => a ≤ nA (gwT t)) (fun a => nA (gwT t) - a) 0 (by simp) ?_ ?_
 ·rw [h0]
  simp only [wst, if_true]
  exact Zw
 ·intro a haA
  (repeat refine ZQ ?_); refine ZR fun K hK => ?_; simp (maxSteps := 1000000) [ty28, ty3]; refine hK _ ?_; clear hK K
  (repeat refine ZQ ?_); refine ZC (fun hc => ?_) (fun hc => ?_)
  ·simp at hc
   have hlt : a < nA (gwT t) := by omega
   refine awp_skip ?_
   (repeat refine ZQ ?_); refine awp_block ?_
   (repeat refine ZQ ?_); refine ZR fun K hK => ?_; simp (maxSteps := 1000000) [ty55, ty3]
   refine ZP (seen55 y.area (-t.gain + a) ha (by omega)) ?_; simp (maxSteps := 1000000) [ty3]
   refine hK _ ?_; clear hK K
   (repeat refine ZQ ?_); refine ZR fun K hK => ?_; simp (maxSteps := 1000000) [ty3, ty23, ty25]; refine hK _ ?_; clear hK K
   (repeat refine ZQ ?_); refine ZR fun K hK => ?_; simp (maxSteps := 1000000) [ty25, ty55, ty53]
   refine ZP (skewsA t.w y (-t.gain + a) hn) ?_; simp (maxSteps := 1000000) [ty43, ty34]
   refine hK _ ?_; clear hK K; (first | show AWP _ _ _ _ _ | show ∃ _, _ | skip)
   have hnew := fun i (hi : i < (tellA t.w y (-t.gain + a)).length) => findK_none _ _ 0 (rowsA_new (y := y) hlt hi)
   have hstep := rowsA_step t y hlt
   have hlen := numsI_len Tr.skew (oneW t.w (seenA y.area (-t.gain + a))) y.l
   have hTl : tellA t.w y (-t.gain + a) = numsI Tr.skew (oneW t.w (seenA y.area (-t.gain + a))) y.l := rfl
   rw [← hTl] at hlen
   clear hTl
   generalize tellA t.w y (-t.gain + a) = T at *
   generalize hV : rowsA t y (a * nS (gwT t)) = V at *
   obtain ⟨Lf, hLf⟩ : ∃ Lf : Nat → List Tr, ∀ i, Lf i = V ++ (T.take i).map fun s => (⟨-t.gain + a, s⟩ : Tr) := ⟨_, fun _ => rfl⟩
   have hL0 : Lf 0 = V := by rw [hLf]; simp
   have hLn : Lf T.length = rowsA t y ((a + 1) * nS (gwT t)) := by rw [hLf, hstep, List.take_length]
   have hLs : ∀ i (hi : i < T.length), Lf (i + 1) = Lf i ++ [⟨-t.gain + a, T[i]⟩] := fun i hi => by
    rw [hLf, hLf, List.take_succ_eq_append_getElem hi, List.map_append, ← List.append_assoc]; rfl
   have hLk : ∀ i (hi : i < T.length), findC (.flat [.i64, .i64]) (.agg [encI (-t.gain + a), encI T[i]]) ((Lf i).map rowK) 0 = some none := fun i hi => by
    rw [hLf]; exact hnew i hi
   clear hLf hnew hstep
   (repeat refine ZQ ?_); refine ZR fun K hK => ?_; simp (maxSteps := 1000000) [ty43]; refine hK _ ?_; clear hK K
   (repeat refine ZQ ?_); refine awp_block ?_
   refine awp_loop (fun i : Nat => ⟨ofL [(2, .ptr 2 10 0 0), (3, .ptr 3 2 0 0), (5, .mp 13), (6, .ptr 6 8 0 0), (7, encI (-t.gain + a)), (40, slI T), (41, encI T.length), (42, encI i)], stoT [(2, 2, .live (obTi t)), (3, 3, .live ⟨false, false, 2, [cTs y]⟩), (13, 13, .live (obK (Lf i))), (6, 6, .live (obWh (wst t y (a + 1))))]⟩)
    (fun i => i ≤ T.length) (fun i => T.length - i) 0 (by simp) ?_ ?_
   ·simp only [hL0]
    exact Zw
   ·intro i hi
    (repeat refine ZQ ?_); refine ZR fun K hK => ?_; simp (maxSteps := 1000000) [ty3]; refine hK _ ?_; clear hK K
    (repeat refine ZQ ?_); refine ZC (fun hc2 => ?_) (fun hc2 => ?_)
    ·simp at hc2
     have hit : i < T.length := by omega
     have hfi := hLk i hit
     have hsd := hLs i hit
     simp only [encI] at hfi
     refine awp_skip ?_
     (repeat refine ZQ ?_); refine awp_block ?_
     (repeat refine ZQ ?_); refine ZR fun K hK => ?_; simp (maxSteps := 1000000) [ty43, ty3, hit]; refine hK _ ?_; clear hK K
     (repeat refine ZQ ?_); refine ZD [7004] [0, 1, 2, 3, 4, 5, 6, 7, 8] fun K hK => ?_; simp (maxSteps := 1000000) [ty118, ty63, fe63, ty3, eqInts, hfi]; refine hK _ ?_; clear hK K
     (repeat refine ZQ ?_); refine ZR fun K hK => ?_; simp (maxSteps := 1000000) [ty3]; refine hK _ ?_; clear hK K; (first | show AWP _ _ _ _ _ | show ∃ _, _ | skip)
     rw [wrap_id (by omega) (by omega)]
     refine ⟨i + 1, by omega, by omega, ?_⟩
     simp only [hsd]
     have hwr : IntKind.i64.wrap 1 = 1 := by decide
     exact Zw (hE := by simp [mtc, mtl, mT, C.isPure, purel, hwr] <;> (try simp (disch := omega) [wrap_id]) <;> (try omega))
    ·simp at hc2
     (repeat refine ZQ ?_); refine awp_exit ?_; (first | show AWP _ _ _ _ _ | show ∃ _, _ | skip)
     have hiT : i = T.length := by omega
     rw [hiT, hLn]
     (repeat refine ZQ ?_); refine ZR fun K hK => ?_; simp (maxSteps := 1000000) [ty3]; refine hK _ ?_; clear hK K; (first | show AWP _ _ _ _ _ | show ∃ _, _ | skip)
     rw [wrap_id (by omega) (by omega)]
     refine ⟨a + 1, by omega, by omega, ?_⟩
     exact Zw
  ·simp at hc
   (repeat refine ZQ ?_); refine awp_exit ?_; (first | show AWP _ _ _ _ _ | show ∃ _, _ | skip)
   have han : a = nA (gwT t) := by omega
   (repeat refine ZQ ?_); refine ZR fun K hK => ?_; simp (maxSteps := 1000000) [ty118]; refine hK _ ?_; clear hK K
   (repeat refine ZQ ?_); refine awp_ret ?_; refine And.intro (Or.inr rfl) ?_
   rw [han]
   simp [retC, resC, viewC, mapO]

set_option maxHeartbeats 4000000


theorem check29 (t : Ti) (hn : TiLen t) : Pure Tryz.prog 59 [encTi t] (encI (checkT t)) := by
 have hlt := hn.ts
 refine ZF (fn := Tryz.f59) [.tmp 2] ⟨Tryz.func59, rfl, by kernel_rfl⟩ fun x hx hσ => ?_
 (repeat refine ZQ ?_); refine ZR fun K hK => ?_; simp (maxSteps := 1000000) [ty28]; refine hK _ ?_; clear hK K
 (repeat refine ZQ ?_); refine ZR fun K hK => ?_; simp (maxSteps := 1000000); refine hK _ ?_; clear hK K; (first | show AWP _ _ _ _ _ | show ∃ _, _ | skip)
 cases hg : (decide (0 ≤ t.gain) && decide (t.gain ≤ 50))
 ·have hT : checkT t = 90 := by unfold checkT; rw [if_pos (.inl hg)]
  (repeat refine ZQ ?_); refine ZR fun K hK => ?_; simp (maxSteps := 1000000) [ty28, ty3]
  refine ZP (within69 t.gain 0 50) ?_; simp (maxSteps := 1000000) [hg, ty3]
  refine hK _ ?_; clear hK K; (first | show AWP _ _ _ _ _ | show ∃ _, _ | skip)
  ·(repeat refine ZQ ?_); refine ZC (hc := by simp [hg]; rfl) (fun hd => ?_) (fun hd => ?_)
   ·clear hd
    (repeat refine ZQ ?_); refine ZR fun K hK => ?_; simp (maxSteps := 1000000); refine hK _ ?_; clear hK K
    (repeat refine ZQ ?_); refine awp_ret ?_; refine And.intro (Or.inr rfl) ?_
    simp [retC, resC, viewC, mapO, hT]
   ·simp [hg] at hd
 ·by_cases h6 : (6 : Int) < (t.ts.length : Int)
  ·have hT : checkT t = 90 := by unfold checkT; rw [if_pos (.inr (.inl (by omega)))]
   (repeat refine ZQ ?_); refine ZR fun K hK => ?_; simp (maxSteps := 1000000) [ty28, ty3]
   refine ZP (within69 t.gain 0 50) ?_; simp (maxSteps := 1000000) [hg, ty3, ty28, ty26, h6]
   refine hK _ ?_; clear hK K; (first | show AWP _ _ _ _ _ | show ∃ _, _ | skip)
   ·(repeat refine ZQ ?_); refine ZC (hc := by simp [h6]; rfl) (fun hd => ?_) (fun hd => ?_)
    ·clear hd
     (repeat refine ZQ ?_); refine ZR fun K hK => ?_; simp (maxSteps := 1000000); refine hK _ ?_; clear hK K
     (repeat refine ZQ ?_); refine awp_ret ?_; refine And.intro (Or.inr rfl) ?_
     simp [retC, resC, viewC, mapO, hT]
    ·simp [h6] at hd
  ·cases ha : t.ts.all (fun x => areaB x.area)
   ·have hT : checkT t = 90 := by unfold checkT; rw [if_pos (.inr (.inr ha))]
    (repeat refine ZQ ?_); refine ZR fun K hK => ?_; simp (maxSteps := 1000000) [ty28, ty3]
    refine ZP (within69 t.gain 0 50) ?_; simp (maxSteps := 1000000) [hg, ty3, ty28, ty26, h6]
    refine ZP (contains70 t.nl t.fu t.ts hlt) ?_; simp (maxSteps := 1000000) [ha]
    refine hK _ ?_; clear hK K; (first | show AWP _ _ _ _ _ | show ∃ _, _ | skip)
    ·(repeat refine ZQ ?_); refine ZC (hc := by simp [ha]; rfl) (fun hd => ?_) (fun hd => ?_)
     ·clear hd
      (repeat refine ZQ ?_); refine ZR fun K hK => ?_; simp (maxSteps := 1000000); refine hK _ ?_; clear hK K
      (repeat refine ZQ ?_); refine awp_ret ?_; refine And.intro (Or.inr rfl) ?_
      simp [retC, resC, viewC, mapO, hT]
     ·simp [ha] at hd
   ·have hT : checkT t = (if t.ts = [] then checkI t.w [] else checksI t.w t.ts) := by
     unfold checkT; rw [if_neg]
     rintro (h1 | h1 | h1)
     ·rw [hg] at h1; cases h1
     ·omega
     ·rw [ha] at h1; cases h1
    (repeat refine ZQ ?_); refine ZR fun K hK => ?_; simp (maxSteps := 1000000) [ty28, ty3]
    refine ZP (within69 t.gain 0 50) ?_; simp (maxSteps := 1000000) [hg, ty3, ty28, ty26, h6]
    refine ZP (contains70 t.nl t.fu t.ts hlt) ?_; simp (maxSteps := 1000000) [ha]
    refine hK _ ?_; clear hK K
    (repeat refine ZQ ?_); refine ZC (hc := by simp [ha]; rfl) (fun hd => ?_) (fun hd => ?_)
    ·simp [ha] at hd
    ·clear hd
     refine awp_skip ?_; (first | show AWP _ _ _ _ _ | show ∃ _, _ | skip)
     by_cases h0 : t.ts = []
     ·have h0' : (t.ts.length : Int) = 0 := by rw [h0]; rfl
      (repeat refine ZQ ?_); refine ZR fun K hK => ?_; simp (maxSteps := 1000000) [ty28, ty26, ty3, h0']; refine hK _ ?_; clear hK K
      (repeat refine ZQ ?_); refine ZC (hc := by simp [h0']; rfl) (fun hd => ?_) (fun hd => ?_)
      ·clear hd
       (repeat refine ZQ ?_); refine ZR fun K hK => ?_; simp (maxSteps := 1000000) [ty28, ty25]
       refine ZP (check30 t.w true true [] (by simp)) ?_; simp (maxSteps := 1000000)
       refine hK _ ?_; clear hK K
       (repeat refine ZQ ?_); refine awp_ret ?_; refine And.intro (Or.inr rfl) ?_
       simp [retC, resC, viewC, mapO, hT, h0]
      ·simp [h0'] at hd
     ·have h0' : ((t.ts.length : Int) == 0) = false := by
       rw [beq_eq_false_iff_ne]
       intro e; exact h0 (List.eq_nil_of_length_eq_zero (by omega))
      (repeat refine ZQ ?_); refine ZR fun K hK => ?_; simp (maxSteps := 1000000) [ty28, ty26, ty3, h0']; refine hK _ ?_; clear hK K
      (repeat refine ZQ ?_); refine ZC (hc := by simp [h0']; rfl) (fun hd => ?_) (fun hd => ?_)
      ·simp [h0'] at hd
      ·clear hd
       refine awp_skip ?_
       (repeat refine ZQ ?_); refine ZR fun K hK => ?_; simp (maxSteps := 1000000) [ty28, ty26]; refine hK _ ?_; clear hK K
       (repeat refine ZQ ?_); refine awp_block ?_
       refine awp_loop (fun i : Nat => ⟨ofL [(1, .ptr 1 10 0 0), (31, sTs t.nl t.fu t.ts), (32, encI t.ts.length), (33, encI i)], stoT [(1, 1, .live (obTi t))]⟩)
        (fun i => i ≤ t.ts.length ∧ ∀ j, (h : j < t.ts.length) → j < i → checkI t.w t.ts[j].l = 0) (fun i => t.ts.length - i) 0 (by simp) ?_ ?_
       ·exact Zw
       ·intro i ⟨hi, hj⟩
        (repeat refine ZQ ?_); refine ZR fun K hK => ?_; simp (maxSteps := 1000000) [ty3]; refine hK _ ?_; clear hK K
        (repeat refine ZQ ?_); refine ZC (fun hc1 => ?_) (fun hc1 => ?_)
        ·simp at hc1
         refine awp_skip ?_
         (repeat refine ZQ ?_); refine awp_block ?_
         (repeat refine ZQ ?_); refine ZR fun K hK => ?_; simp (maxSteps := 1000000) [ty26, ty55, hc1]; refine hK _ ?_; clear hK K
         (repeat refine ZQ ?_); refine ZR fun K hK => ?_; simp (maxSteps := 1000000) [ty28, ty25, ty55, ty53]
         refine ZP (check30 t.w t.ts[i].nl t.ts[i].fu t.ts[i].l (hn.l _ (List.getElem_mem hc1))) ?_; simp (maxSteps := 1000000)
         refine hK _ ?_; clear hK K
         (repeat refine ZQ ?_); refine ZR fun K hK => ?_; simp (maxSteps := 1000000) [ty34]; refine hK _ ?_; clear hK K; (first | show AWP _ _ _ _ _ | show ∃ _, _ | skip)
         by_cases hz : checkI t.w t.ts[i].l = 0
         ·(repeat refine ZQ ?_); refine ZC (hc := by simp [hz]; rfl) (fun hd => ?_) (fun hd => ?_)
          ·simp at hd
          ·clear hd
           refine awp_skip ?_
           (repeat refine ZQ ?_); refine ZR fun K hK => ?_; simp (maxSteps := 1000000) [ty3]; refine hK _ ?_; clear hK K; (first | show AWP _ _ _ _ _ | show ∃ _, _ | skip)
           refine ⟨i + 1, ⟨by omega, fun j h1 h2 => ?_⟩, by omega, ?_⟩
           ·by_cases hji : j = i
            ·subst hji; assumption
            ·exact hj j h1 (by omega)
           ·exact Zw
         ·(repeat refine ZQ ?_); refine ZC (hc := by simp [hz]; rfl) (fun hd => ?_) (fun hd => ?_)
          ·clear hd
           (repeat refine ZQ ?_); refine ZR fun K hK => ?_; simp (maxSteps := 1000000); refine hK _ ?_; clear hK K
           (repeat refine ZQ ?_); refine awp_ret ?_; refine And.intro (Or.inr rfl) ?_
           simp [retC, resC, viewC, mapO, hT, h0, checksI_at hc1 hj hz]
          ·simp [hz] at hd
        ·simp at hc1
         (repeat refine ZQ ?_); refine awp_exit ?_
         (repeat refine ZQ ?_); refine ZR fun K hK => ?_; simp (maxSteps := 1000000); refine hK _ ?_; clear hK K
         (repeat refine ZQ ?_); refine awp_ret ?_; refine And.intro (Or.inr rfl) ?_
         simp [retC, resC, viewC, mapO, hT, h0, checksI_all (fun j h => hj j h (by omega))]

/-- What a trial that is valid is like. -/
structure TiOk (t : Ti) : Prop where
  gain : 0 ≤ t.gain ∧ t.gain ≤ 50
  len : t.ts.length ≤ 6
  area : ∀ x ∈ t.ts, 0 ≤ x.area ∧ x.area ≤ 9000
  wh : WhOk t.w
  chk : ∀ x ∈ t.ts, checkI t.w x.l = 0

theorem checksI_zero {w : Wh} {l : List Ts} (h : checksI w l = 0) : ∀ x ∈ l, checkI w x.l = 0 := by
 induction l with
 | nil => simp
 | cons x l ih =>
  unfold checksI at h
  split at h
  ·contradiction
  ·rename_i h0
   intro y hy
   rcases List.mem_cons.1 hy with rfl | hy
   ·exact Classical.byContradiction fun e => h0 e
   ·exact ih h y hy

theorem checkT_ok {t : Ti} : checkT t = 0 ↔ TiOk t := by
 constructor
 ·intro h
  unfold checkT at h
  split at h
  ·omega
  ·rename_i h1
   simp only [not_or, Bool.not_eq_false, Bool.and_eq_true, decide_eq_true_eq] at h1
   obtain ⟨h1, h2, h3⟩ := h1
   have hch : ∀ x ∈ t.ts, checkI t.w x.l = 0 := by
    split at h
    ·rename_i h4; rw [h4]; simp
    ·exact checksI_zero h
   have hwh : WhOk t.w := by
    split at h
    ·exact (checkI_ok h).1
    ·rename_i h4
     obtain ⟨x, hx⟩ := List.exists_mem_of_ne_nil _ h4
     exact (checkI_ok (hch x hx)).1
   refine ⟨h1, by omega, fun x hx => ?_, hwh, hch⟩
   rw [List.all_eq_true] at h3
   have := h3 x hx
   simpa [areaB] using this
 ·intro h
  unfold checkT
  rw [if_neg]
  ·split
   ·have := h.wh
    have h2 : wheelB t.w = true := wheelB_iff.2 this
    simp [checkI, h2]
   ·exact checksI_all fun j hj => h.chk _ (List.getElem_mem hj)
  ·rintro (h1 | h1 | h1)
   ·have := h.gain
    simp [this] at h1
   ·have := h.len; omega
   ·have : t.ts.all (fun x => areaB x.area) = true := by
     rw [List.all_eq_true]
     intro x hx
     have := h.area x hx
     simp [areaB, this]
    rw [this] at h1; cases h1

theorem TiOk.num {t : Ti} (h : TiOk t) : TiNum t := ⟨h.gain, by have := h.wh.skew; omega⟩

set_option maxHeartbeats 4000000

theorem bit_fact6 : ∀ s : Fin 64, ∀ i : Fin 8, ((IntKind.u64).wrap ((((s.val : Int).fdiv (2 ^ min i.val IntKind.u64.bits) % 2 ^ IntKind.u64.bits).toNat &&& 1 % 2 ^ IntKind.u64.bits : Nat) : Int) == 1) = Nat.testBit s.val i.val := by
 decide +kernel

theorem has99 (s i : Nat) (hs : s < 64) (hi : i < 8) : Pure Tryz.prog 63 [.int .u64 s, encI i] (.bool (s.testBit i)) := by
 have := bit_fact6 ⟨s, hs⟩ ⟨i, hi⟩
 simp only at this
 have h0 : (0 : Int) ≤ i := by omega
 have h1 : ¬ (i : Int) < 0 := by omega
 refine ZF (fn := Tryz.f63) [.tmp 4] ⟨Tryz.func63, rfl, by kernel_rfl⟩ fun x hx hσ => ?_
 (repeat refine ZQ ?_); refine ZR fun K hK => ?_; simp (maxSteps := 1000000); refine hK _ ?_; clear hK K
 (repeat refine ZQ ?_); refine ZR fun K hK => ?_; simp (maxSteps := 1000000) [ty93, ty3, h0, h1]; refine hK _ ?_; clear hK K; (first | show AWP _ _ _ _ _ | show ∃ _, _ | skip)
 rw [this]
 (repeat refine ZQ ?_); refine awp_ret ?_; refine And.intro (Or.inr rfl) ?_
 simp [retC, resC, viewC, mapO]

/-- Whether a truth is allowed by those tests that a set has. -/
def okS (t : Ti) (n : Nat) (k : Tr) : Bool := (List.range t.ts.length).all fun i => !n.testBit i || (match t.ts[i]? with | some y => allowB t.w y k | none => true)
/-- The truths if just some tests were made. -/
def truthsS (t : Ti) (n : Nat) : List Tr := (allT (gwT t)).filter (okS t n)
/-- What a test allows, as a map's rows. -/
def alR (t : Ti) (y : Ts) : List (List C) := ((allT (gwT t)).filter (allowB t.w y)).map rowK

@[simp] abbrev cFile (t : Ti) (nl fu : Bool) : List C := [encI t.w.full, encI t.w.read, encI t.w.slip, encI t.w.skew, encI t.w.circle, encI t.w.glow, encI t.w.ghigh, encI t.w.wrong, encI t.gain, sTs t.nl t.fu t.ts, .sl nl fu (t.ts.map fun y => [.md false (alR t y)])]
@[simp] abbrev encFile (t : Ti) (nl fu : Bool) : C := .ip (cFile t nl fu) 0

theorem findK (k : Tr) : ∀ (L : List Tr) (i : Nat), (k ∈ L ∧ ∃ j, findC (.flat [.i64, .i64]) (.agg [.int .i64 k.area, .int .i64 k.skew]) (L.map rowK) i = some (some (j, .int .i64 1))) ∨ (k ∉ L ∧ findC (.flat [.i64, .i64]) (.agg [.int .i64 k.area, .int .i64 k.skew]) (L.map rowK) i = some none)
 | [], i => .inr ⟨by simp, rfl⟩
 | y :: L, i => by
  by_cases h : k = y
  ·subst h
   refine .inl ⟨by simp, i, ?_⟩
   simp [rowK, findC, sameC, eqInts]
  ·have h1 : (decide (k.area = y.area) && decide (k.skew = y.skew)) = false := by
    cases e : (decide (k.area = y.area) && decide (k.skew = y.skew)) with
    | false => rfl
    | true =>
     simp only [Bool.and_eq_true, decide_eq_true_eq] at e
     obtain ⟨a, b⟩ := k
     obtain ⟨c, d⟩ := y
     simp only at e
     exact absurd (by rw [e.1, e.2]) h
   have hs : findC (.flat [.i64, .i64]) (.agg [.int .i64 k.area, .int .i64 k.skew]) ((y :: L).map rowK) i = findC (.flat [.i64, .i64]) (.agg [.int .i64 k.area, .int .i64 k.skew]) (L.map rowK) (i + 1) := by
    simp [rowK, findC, sameC, eqInts, h1]
   rw [hs]
   rcases findK k L (i + 1) with ⟨h2, h3⟩ | ⟨h2, h3⟩
   ·exact .inl ⟨by simp [h2], h3⟩
   ·exact .inr ⟨by simp [h2, h], h3⟩

theorem findAl (t : Ti) (y : Ts) {k : Tr} (hk : k ∈ allT (gwT t)) : (allowB t.w y k = true ∧ ∃ j, findC (.flat [.i64, .i64]) (.agg [.int .i64 k.area, .int .i64 k.skew]) (alR t y) 0 = some (some (j, .int .i64 1))) ∨
  (allowB t.w y k = false ∧ findC (.flat [.i64, .i64]) (.agg [.int .i64 k.area, .int .i64 k.skew]) (alR t y) 0 = some none) := by
 rcases findK k ((allT (gwT t)).filter (allowB t.w y)) 0 with ⟨h1, h2⟩ | ⟨h1, h2⟩
 ·exact .inl ⟨(List.mem_filter.1 h1).2, h2⟩
 ·refine .inr ⟨?_, h2⟩
  rw [Bool.eq_false_iff]
  intro e
  exact h1 (List.mem_filter.2 ⟨hk, e⟩)

theorem okS_true {t : Ti} {n : Nat} {k : Tr} (h : ∀ i, (hi : i < t.ts.length) → n.testBit i = true → allowB t.w t.ts[i] k = true) : okS t n k = true := by
 unfold okS
 rw [List.all_eq_true]
 intro i hi
 rw [List.mem_range] at hi
 rw [List.getElem?_eq_getElem hi]
 cases hb : n.testBit i
 ·rfl
 ·simp [h i hi hb]

theorem okS_false {t : Ti} {n : Nat} {k : Tr} {i : Nat} (hi : i < t.ts.length) (hb : n.testBit i = true) (h : allowB t.w t.ts[i] k = false) : okS t n k = false := by
 unfold okS
 rw [List.all_eq_false]
 refine ⟨i, List.mem_range.2 hi, ?_⟩
 rw [List.getElem?_eq_getElem hi]
 simp [hb, h]

set_option maxHeartbeats 4000000

theorem every_bd {t : Ti} (hw : TiNum t) : (allT (gwT t)).length ≤ 410000 := by
 have hs := hw.skew
 have hg := hw.gain
 have hA : (nA (gwT t) : Int) = t.gain - -t.gain + 1 := by unfold nA gwT; simp only; omega
 have hS : (nS (gwT t) : Int) = 2 * t.w.skew + 1 := by unfold nS gwT; simp only; omega
 rw [allT_len]
 have : nA (gwT t) * nS (gwT t) ≤ 101 * 41 := Nat.mul_le_mul (by omega) (by omega)
 omega

theorem it_tr (t : Ti) (nl fu : Bool) (n : Nat) (hw : TiOk t) (hn : n < 64) : ItC Tryz.prog 1000000 61 [] [.ip [encFile t nl fu] 0, .ip [.int .u64 n] 0] (itTr (truthsS t n)) := by
  have hlen6 := hw.len
  have hbd := every_bd hw.num
  refine it_of (fn := Tryz.f61) [] ⟨Tryz.func61, rfl, by kernel_rfl⟩ (by kernel_rfl) (by kernel_rfl) (by kernel_rfl) fun x hx q ks fam stop hrnd hstop hfam hσ hY => ?_; rw [stg_hiS hfam]
  rw [show (itTr (truthsS t n)).length = (truthsS t n).length by simp] at hstop ⊢
  have hmem : ∀ i (h : i < (allT (gwT t)).length), (allT (gwT t))[i] ∈ allT (gwT t) := fun i h => List.getElem_mem h
  have hgetS : ∀ i (h : i < (allT (gwT t)).length), okS t n (allT (gwT t))[i] = true → (itTr (truthsS t n))[((allT (gwT t)).take i).countP (okS t n)]? = some [encTr (allT (gwT t))[i]] := fun i h hb => by
    have := filter_get (okS t n) h hb
    simp [truthsS, this]
  have hstep0 := fun i (h : i < (allT (gwT t)).length) => count_step (okS t n) h
  have hfull : ((allT (gwT t)).take (allT (gwT t)).length).countP (okS t n) = (truthsS t n).length := by
    rw [List.take_length, List.countP_eq_length_filter]; rfl
  have hmono := fun i => count_mono (okS t n) (allT (gwT t)) (a := i) (b := (allT (gwT t)).length)
  have hfind := fun i (h : i < (allT (gwT t)).length) (y : Ts) => findAl t y (hmem i h)
  have hev := every98 t hw.num
  clear hmem
  obtain ⟨L, hL⟩ : ∃ L, L = allT (gwT t) := ⟨_, rfl⟩
  obtain ⟨j, hj⟩ : ∃ j : Nat → Nat, ∀ i, ((allT (gwT t)).take i).countP (okS t n) = j i := ⟨_, fun _ => rfl⟩
  simp only [hj] at hgetS hstep0 hfull hmono
  rw [← hL] at hev hbd
  simp only [← hL] at hgetS hstep0 hfull hmono hfind
  refine awp_scope ?_
  (repeat refine ZQ ?_)
  refine awp_label ?_
  (repeat refine ZQ ?_); refine ZR fun K hK => ?_; simp (maxSteps := 1000000) [ty87, ty117, ty28]
  refine freshL hev (by simp [purel, C.isPure]) (by simp) ?_
  simp [ty121]
  refine hK _ ?_; clear hK K
  (repeat refine ZQ ?_); refine awp_block ?_
  refine awp_loop (fun i : Nat => ⟨ofL [(0, .fn (.yield q) [] []), (1, .ip [encFile t nl fu] 0), (2, .ip [.int .u64 n] 0), (12, .own 12 2 0 L.length), (13, encI L.length), (14, encI i)], hiS 1000000 (stoT [(12, 12, .live (obTs L))]) (stg 1000000 fam stop (j i))⟩)
    (fun i => i ≤ L.length ∧ j i ≤ stop) (fun i => L.length - i) 0 ?_ ?_ ?_
  · refine ⟨Nat.zero_le _, ?_⟩
    rw [← hj]; simp
  · have : j 0 = 0 := by rw [← hj]; simp
    rw [this]
    refine wk_shapeH hfam ?_ (by simp) (by simp) (by simp) ?_ (hx_stg hfam hσ) ?_
    · intro k hk
      have hne : ∀ n : Nat, n < 1000 → k ≠ n := fun n hn => by omega
      simp [upd, hk, hne]
    · simp [SlotOk] <;> (repeat' (first | exact .same (by simp [purel, C.isPure]) | exact .cons (by simp [mtl, mtc, mT, mH, C.isPure, purel]) (by simp) .nil | refine And.intro ?_ ?_))
    · simp [mtc, mtl, mH, mT, C.isPure, purel] <;> (try simp (disch := omega) [wrap_id]) <;> (try omega)
  · intro i ⟨hi, hst⟩
    (repeat refine ZQ ?_); refine ZR fun K hK => ?_; simp (maxSteps := 1000000) [ty3]; refine hK _ ?_; clear hK K
    (repeat refine ZQ ?_); refine ZC (fun hc => ?_) (fun hc => ?_)
    · simp at hc
      refine awp_skip ?_
      (repeat refine ZQ ?_); refine awp_block ?_
      have hji := hstep0 i hc
      have hne : L ≠ [] := by intro e; rw [e] at hc; simp at hc
      have hf := hfind i hc
      have hgs := hgetS i hc
      (repeat refine ZQ ?_); refine ZR fun K hK => ?_; simp (maxSteps := 1000000) [ty121, ty63, hc, hne]; refine hK _ ?_; clear hK K
      (repeat refine ZQ ?_); refine ZR fun K hK => ?_; simp (maxSteps := 1000000) [ty87, ty117, ty115]; refine hK _ ?_; clear hK K; (first | show AWP _ _ _ _ _ | show ∃ _, _ | skip)
      generalize hk : L[i] = k at *
      (repeat refine ZQ ?_); refine awp_block ?_
      refine awp_loop (fun a : Nat => ⟨ofL [(0, .fn (.yield q) [] []), (1, .ip [encFile t nl fu] 0), (2, .ip [.int .u64 n] 0), (5, .ptr 5 2 0 0), (12, .own 12 2 0 L.length), (13, encI L.length), (14, encI i), (21, .sl nl fu (t.ts.map fun y => [.md false (alR t y)])), (22, encI t.ts.length), (23, encI a)],
          hiS 1000000 (stoT [(5, 5, .live ⟨false, false, 2, [cTr k]⟩), (12, 12, .live (obTs L))]) (stg 1000000 fam stop (j i))⟩)
        (fun a => a ≤ t.ts.length ∧ ∀ b, (h : b < t.ts.length) → b < a → n.testBit b = true → allowB t.w t.ts[b] k = true) (fun a => t.ts.length - a) 0 (by simp) ?_ ?_
      · refine wk_shapeH hfam ?_ (by simp) (by simp) (by simp) ?_ (hx_stg hfam hσ) ?_
        · intro k hk
          have hne : ∀ n : Nat, n < 1000 → k ≠ n := fun n hn => by omega
          simp [upd, hk, hne]
        · simp [SlotOk] <;> (repeat' (first | exact .same (by simp [purel, C.isPure]) | exact .cons (by simp [mtl, mtc, mT, mH, C.isPure, purel]) (by simp) .nil | refine And.intro ?_ ?_))
        · simp [mtc, mtl, mH, mT, C.isPure, purel] <;> (try simp (disch := omega) [wrap_id]) <;> (try omega)
      · intro a ⟨ha, hab⟩
        (repeat refine ZQ ?_); refine ZR fun K hK => ?_; simp (maxSteps := 1000000) [ty3]; refine hK _ ?_; clear hK K
        (repeat refine ZQ ?_); refine ZC (fun hc1 => ?_) (fun hc1 => ?_)
        · simp at hc1
          refine awp_skip ?_
          (repeat refine ZQ ?_); refine awp_block ?_
          (repeat refine ZQ ?_); refine ZR fun K hK => ?_; simp (maxSteps := 1000000) [ty115, ty118, hc1]; refine hK _ ?_; clear hK K; (first | show AWP _ _ _ _ _ | show ∃ _, _ | skip)
          cases hb : n.testBit a
          · (repeat refine ZQ ?_); refine ZR fun K hK => ?_; simp (maxSteps := 1000000) [ty93]
            refine ZP (has99 n a hn (by omega)) ?_; simp (maxSteps := 1000000) [hb]
            refine hK _ ?_; clear hK K
            (repeat refine ZQ ?_); refine ZC (fun hd => ?_) (fun hd => ?_)
            · simp at hd
            · clear hd
              refine awp_skip ?_
              (repeat refine ZQ ?_); refine ZR fun K hK => ?_; simp (maxSteps := 1000000) [ty3]; refine hK _ ?_; clear hK K; (first | show AWP _ _ _ _ _ | show ∃ _, _ | skip)
              refine ⟨a + 1, ⟨by omega, fun b h1 h2 h3 => ?_⟩, by omega, ?_⟩
              · by_cases hba : b = a
                · subst hba; rw [hb] at h3; cases h3
                · exact hab b h1 (by omega) h3
              · refine wk_shapeH hfam ?_ (by simp) (by simp) (by simp) ?_ (hx_stg hfam hσ) ?_
                · intro k hk
                  have hne : ∀ n : Nat, n < 1000 → k ≠ n := fun n hn => by omega
                  simp [upd, hk, hne]
                · simp [SlotOk] <;> (repeat' (first | exact .same (by simp [purel, C.isPure]) | exact .cons (by simp [mtl, mtc, mT, mH, C.isPure, purel]) (by simp) .nil | refine And.intro ?_ ?_))
                · simp [mtc, mtl, mH, mT, C.isPure, purel] <;> (try simp (disch := omega) [wrap_id]) <;> (try omega)
          · rcases hf t.ts[a] with ⟨h1, z, h2⟩ | ⟨h1, h2⟩
            · (repeat refine ZQ ?_); refine ZR fun K hK => ?_; simp (maxSteps := 1000000) [ty93]
              refine ZP (has99 n a hn (by omega)) ?_; simp (maxSteps := 1000000) [hb, ty118, ty63, fe63, ty3, eqInts, h2]
              refine hK _ ?_; clear hK K
              (repeat refine ZQ ?_); refine ZC (fun hd => ?_) (fun hd => ?_)
              · simp at hd
              · clear hd
                refine awp_skip ?_
                (repeat refine ZQ ?_); refine ZR fun K hK => ?_; simp (maxSteps := 1000000) [ty3]; refine hK _ ?_; clear hK K; (first | show AWP _ _ _ _ _ | show ∃ _, _ | skip)
                refine ⟨a + 1, ⟨by omega, fun b h1' h2' h3 => ?_⟩, by omega, ?_⟩
                · by_cases hba : b = a
                  · subst hba; exact h1
                  · exact hab b h1' (by omega) h3
                · refine wk_shapeH hfam ?_ (by simp) (by simp) (by simp) ?_ (hx_stg hfam hσ) ?_
                  · intro k hk
                    have hne : ∀ n : Nat, n < 1000 → k ≠ n := fun n hn => by omega
                    simp [upd, hk, hne]
                  · simp [SlotOk] <;> (repeat' (first | exact .same (by simp [purel, C.isPure]) | exact .cons (by simp [mtl, mtc, mT, mH, C.isPure, purel]) (by simp) .nil | refine And.intro ?_ ?_))
                  · simp [mtc, mtl, mH, mT, C.isPure, purel] <;> (try simp (disch := omega) [wrap_id]) <;> (try omega)
            · have hok := okS_false hc1 hb h1
              rw [hok] at hji
              simp at hji
              (repeat refine ZQ ?_); refine ZR fun K hK => ?_; simp (maxSteps := 1000000) [ty93]
              refine ZP (has99 n a hn (by omega)) ?_; simp (maxSteps := 1000000) [hb, ty118, ty63, fe63, ty3, eqInts, h2]
              refine hK _ ?_; clear hK K
              (repeat refine ZQ ?_); refine ZC (fun hd => ?_) (fun hd => ?_)
              · clear hd
                (repeat refine ZQ ?_); refine awp_exit ?_
                (repeat refine ZQ ?_); refine ZR fun K hK => ?_; simp (maxSteps := 1000000) [ty3]; refine hK _ ?_; clear hK K; (first | show AWP _ _ _ _ _ | show ∃ _, _ | skip)
                rw [wrap_id (by omega) (by omega)]
                refine ⟨i + 1, ⟨by omega, by omega⟩, by omega, ?_⟩
                rw [hji]
                refine wk_shapeH hfam ?_ (by simp) (by simp) (by simp) ?_ (hx_stg hfam hσ) ?_
                · intro k hk
                  have hne : ∀ n : Nat, n < 1000 → k ≠ n := fun n hn => by omega
                  simp [upd, hk, hne]
                · simp [SlotOk] <;> (repeat' (first | exact .same (by simp [purel, C.isPure]) | exact .cons (by simp [mtl, mtc, mT, mH, C.isPure, purel]) (by simp) .nil | refine And.intro ?_ ?_))
                · simp [mtc, mtl, mH, mT, C.isPure, purel] <;> (try simp (disch := omega) [wrap_id]) <;> (try omega)
              · simp at hd
        · simp at hc1
          (repeat refine ZQ ?_); refine awp_exit ?_; (first | show AWP _ _ _ _ _ | show ∃ _, _ | skip)
          have hok : okS t n k = true := okS_true fun b hb1 hb2 => hab b hb1 (by omega) hb2
          rw [hok] at hji
          simp at hji
          (repeat refine ZQ ?_); refine ZR fun K hK => ?_; simp (maxSteps := 1000000) [ty63]
          refine yieldL hY hst (hgs hok) (by intro k hk; have hne : ∀ n : Nat, n < 1000 → k ≠ n := fun n hn => by omega
                                             simp [upd, hk, hne]) ?_
          simp
          refine hK _ ?_; clear hK K
          (repeat refine ZQ ?_); refine ZC (fun hd => ?_) (fun hd => ?_)
          · simp at hd
            (repeat refine ZQ ?_); refine awp_ret ?_; refine And.intro (Or.inr rfl) ?_
            refine ⟨⟨_, rfl⟩, ?_⟩
            have : finI stop (truthsS t n).length = j i + 1 := by
              have := hmono (i + 1)
              unfold finI; rw [if_pos (by omega)]; omega
            rw [this]
            exact wk_endH hfam hσ (fun k hk => by show (if 1000000 ≤ k then _ else _) = _; rw [if_pos hk])
          · simp at hd
            refine awp_skip ?_
            (repeat refine ZQ ?_); refine ZR fun K hK => ?_; simp (maxSteps := 1000000) [ty3]; refine hK _ ?_; clear hK K; (first | show AWP _ _ _ _ _ | show ∃ _, _ | skip)
            rw [wrap_id (by omega) (by omega)]
            refine ⟨i + 1, ⟨by omega, by omega⟩, by omega, ?_⟩
            rw [hji]
            refine wk_shapeH hfam ?_ (by simp) (by simp) (by simp) ?_ (hx_stg hfam hσ) ?_
            · intro k hk
              have hne : ∀ n : Nat, n < 1000 → k ≠ n := fun n hn => by omega
              simp [upd, hk, hne]
            · simp [SlotOk] <;> (repeat' (first | exact .same (by simp [purel, C.isPure]) | exact .cons (by simp [mtl, mtc, mT, mH, C.isPure, purel]) (by simp) .nil | refine And.intro ?_ ?_))
            · simp [mtc, mtl, mH, mT, C.isPure, purel] <;> (try simp (disch := omega) [wrap_id]) <;> (try omega)
    · simp at hc
      (repeat refine ZQ ?_); refine awp_exit ?_; (first | show AWP _ _ _ _ _ | show ∃ _, _ | skip)
      have hin : i = L.length := by omega
      refine ⟨by simp, ⟨_, rfl⟩, ?_⟩
      have : finI stop (truthsS t n).length = j i := by
        rw [hin, hfull]
        unfold finI; rw [hin, hfull] at hst; rw [if_neg (by omega)]
      rw [this]
      exact wk_endH hfam hσ (fun k hk => by show (if 1000000 ≤ k then _ else _) = _; rw [if_pos hk])

set_option maxHeartbeats 4000000

/-- The set of all tests. -/
def allS (t : Ti) : Nat := 2 ^ t.ts.length - 1

theorem shl_fact : ∀ m : Fin 7, IntKind.u64.wrap (IntKind.u64.wrap (1 * 2 ^ min m.val IntKind.u64.bits) - 1) = ((2 ^ m.val - 1 : Nat) : Int) := by decide +kernel

theorem allS_lt {t : Ti} (h : t.ts.length ≤ 6) : allS t < 64 := by
 unfold allS
 have : 2 ^ t.ts.length ≤ 2 ^ 6 := Nat.pow_le_pow_right (by decide) h
 have : 0 < 2 ^ t.ts.length := Nat.pow_pos (by decide)
 omega

theorem all49 (t : Ti) (nl fu : Bool) (h : t.ts.length ≤ 6) : Pure Tryz.prog 42 [encFile t nl fu] (.int .u64 (allS t)) := by
 have := shl_fact ⟨t.ts.length, by omega⟩
 simp only at this
 have h0 : (0 : Int) ≤ (t.ts.length : Int) := by omega
 have h1 : ¬ (t.ts.length : Int) < 0 := by omega
 simp at this
 refine ZF (fn := Tryz.f42) [.tmp 2] ⟨Tryz.func42, rfl, by kernel_rfl⟩ fun x hx hσ => ?_
 (repeat refine ZQ ?_); refine ZR fun K hK => ?_; simp (maxSteps := 1000000); refine hK _ ?_; clear hK K
 (repeat refine ZQ ?_); refine ZR fun K hK => ?_; simp (maxSteps := 1000000) [ty87, ty117, ty28, ty26, ty93, ty3, h0, h1]; refine hK _ ?_; clear hK K; (first | show AWP _ _ _ _ _ | show ∃ _, _ | skip)
 rw [this]
 (repeat refine ZQ ?_); refine awp_ret ?_; refine And.intro (Or.inr rfl) ?_
 simp [retC, resC, viewC, mapO, allS]

theorem truths73 (t : Ti) (nl fu : Bool) (n : Nat) : Pure Tryz.prog 41 [encFile t nl fu, .int .u64 n] (.fn (.func 61) [] [.ip [encFile t nl fu] 0, .ip [.int .u64 n] 0]) := by
 refine ZF (fn := Tryz.f41) [.tmp 4] ⟨Tryz.func41, rfl, by kernel_rfl⟩ fun x hx hσ => ?_
 (repeat refine ZQ ?_); refine ZR fun K hK => ?_; simp (maxSteps := 1000000) [ty87, ty93]; refine hK _ ?_; clear hK K
 (repeat refine ZQ ?_); refine ZR fun K hK => ?_; simp (maxSteps := 1000000); refine hK _ ?_; clear hK K
 (repeat refine ZQ ?_); refine awp_ret ?_; refine And.intro (Or.inr rfl) ?_
 simp [retC, resC, viewC, mapO]

/-- What open answers. -/
def openT (t : Ti) (is : Bool) : Int := if checkT t ≠ 0 then checkT t else if is = false then 1 else if truthsS t (allS t) = [] then 3 else 0

theorem openT_ok {t : Ti} {is : Bool} (h : openT t is = 0) : TiOk t ∧ is = true ∧ truthsS t (allS t) ≠ [] := by
 unfold openT at h
 split at h
 ·contradiction
 ·rename_i h1
  split at h
  ·omega
  ·split at h
   ·omega
   ·rename_i h2 h3
    exact ⟨checkT_ok.1 (Classical.byContradiction fun e => h1 e), by simpa using h2, h3⟩

@[simp] abbrev encF (t : Ti) : C := encFile t t.ts.isEmpty false
@[simp] abbrev o1 (c : C) : Ob := ⟨false, false, 1, [[c]]⟩
@[simp] abbrev cFo (t : Ti) (c : C) : List C := [encI t.w.full, encI t.w.read, encI t.w.slip, encI t.w.skew, encI t.w.circle, encI t.w.glow, encI t.w.ghigh, encI t.w.wrong, encI t.gain, sTs t.nl t.fu t.ts, c]
def upA (t : Ti) (i : Nat) : List (List C) := (t.ts.take i).map fun y => [.md false (alR t y)]

@[simp] theorem upA_len {t : Ti} {i : Nat} (h : i ≤ t.ts.length) : (upA t i).length = i := by simp [upA]; omega
theorem upA_step {t : Ti} {i : Nat} (h : i < t.ts.length) : upA t (i + 1) = upA t i ++ [[.md false (alR t t.ts[i])]] := by
 unfold upA; rw [List.take_succ_eq_append_getElem h, List.map_append]; rfl
theorem upA_zero (t : Ti) : upA t 0 = [] := rfl
theorem upA_all (t : Ti) : upA t t.ts.length = t.ts.map fun y => [.md false (alR t y)] := by unfold upA; rw [List.take_length]
@[simp] theorem upA_pure (t : Ti) (i : Nat) : (upA t i).all purel = true := all_purel_map fun _ => rfl
theorem upA_nil (t : Ti) {i : Nat} (h : i ≤ t.ts.length) : (upA t i).isEmpty = (i == 0) := by
 have := upA_len h
 cases h2 : upA t i <;> rw [h2] at this <;> simp at this <;> simp <;> omega

theorem open46 (t : Ti) (is : Bool) (hl : TiLen t) : Pure Tryz.prog 40 [encTi t, .bool is] (.tup [if openT t is = 0 then encF t else .pnil, encI (openT t is)]) := by
 refine ZF (fn := Tryz.f40) [.cell 4 87, .cell 5 34] ⟨Tryz.func40, rfl, by kernel_rfl⟩ fun x hx hσ => ?_
 (repeat refine ZQ ?_); refine ZR fun K hK => ?_; simp (maxSteps := 1000000) [ty28, ty87, ty34]; refine hK _ ?_; clear hK K
 (repeat refine ZQ ?_); refine ZR fun K hK => ?_; simp (maxSteps := 1000000) [ty28]
 refine ZP (check29 t hl) ?_; simp (maxSteps := 1000000)
 refine hK _ ?_; clear hK K
 (repeat refine ZQ ?_); refine ZR fun K hK => ?_; simp (maxSteps := 1000000) [ty34]; refine hK _ ?_; clear hK K; (first | show AWP _ _ _ _ _ | show ∃ _, _ | skip)
 by_cases hz : checkT t = 0
 ·have hok := checkT_ok.1 hz
  have hlen := hok.len
  (repeat refine ZQ ?_); refine ZC (hc := by simp [hz]; rfl) (fun hd => ?_) (fun hd => ?_)
  ·simp at hd
  ·clear hd
   refine awp_skip ?_
   (repeat refine ZQ ?_); refine ZR fun K hK => ?_; simp (maxSteps := 1000000); refine hK _ ?_; clear hK K; (first | show AWP _ _ _ _ _ | show ∃ _, _ | skip)
   cases is
   ·(repeat refine ZQ ?_); refine ZC (fun hd => ?_) (fun hd => ?_)
    ·clear hd
     (repeat refine ZQ ?_); refine ZR fun K hK => ?_; simp (maxSteps := 1000000) [ty87, ty34]; refine hK _ ?_; clear hK K
     (repeat refine ZQ ?_); refine awp_ret ?_; refine And.intro (Or.inr rfl) ?_
     simp [retC, resC, viewC, mapO, ty87, ty34, openT, hz]
    ·simp at hd
   ·(repeat refine ZQ ?_); refine ZC (fun hd => ?_) (fun hd => ?_)
    ·simp at hd
    ·clear hd
     refine awp_skip ?_
     (repeat refine ZQ ?_); refine ZR fun K hK => ?_; simp (maxSteps := 1000000) [ty28, ty117, ty87]; refine hK _ ?_; clear hK K
     (repeat refine ZQ ?_); refine ZR fun K hK => ?_; simp (maxSteps := 1000000) [ty28, ty26]; refine hK _ ?_; clear hK K
     (repeat refine ZQ ?_); refine awp_block ?_
     refine AWP.weak ?_ (wk_nilCell 19 0 10 1000 1 (o := ⟨false, false, 11, [cFo t (.sl true true [])]⟩) (row := cFo t (.sl true true [])) (fu := true) (by simp) rfl rfl rfl (by simp) (by decide))
     refine awp_loop (fun i : Nat => ⟨ofL [(2, .ptr 2 10 0 0), (4, .ptr 4 1 0 0), (5, .ptr 5 1 0 0), (7, .ptr 7 1 0 0), (21, sTs t.nl t.fu t.ts), (22, encI t.ts.length), (23, encI i)],
       stoT [(2, 2, .live (obTi t)), (4, 4, .live (o1 .pnil)), (5, 5, .live (o1 (encI 0))), (7, 7, .live (o1 (.ptr 19 11 0 0))), (19, 19, .live ⟨false, false, 11, [cFo t (.own 1000 1 0 i)]⟩), (1000, 1000, .live ⟨i == 0, false, 1, upA t i⟩)]⟩)
      (fun i => i ≤ t.ts.length) (fun i => t.ts.length - i) 0 (by simp) ?_ ?_
     ·refine wk_shape (shp0 hσ (by simp) (by simp) ?_) ?_
      ·simp [SlotOk, upA_zero] <;> (repeat' (first | (refine RowsOk.same ?_; simp [purel, C.isPure]; done) | (refine rowsCons ?_; simp [mtl, mtc, mT, mH, C.isPure, purel]; done) | (refine rowsCons ?_; simp [mtl, mtc, mT, mH, C.isPure, purel]) | refine And.intro ?_ ?_))
      ·simp [mtc, mtl, mT, C.isPure, purel, upA_zero] <;> (try simp (disch := omega) [wrap_id]) <;> (try omega)
     ·intro i hi
      (repeat refine ZQ ?_); refine ZR fun K hK => ?_; simp (maxSteps := 1000000) [ty3]; refine hK _ ?_; clear hK K
      (repeat refine ZQ ?_); refine ZC (fun hc1 => ?_) (fun hc1 => ?_)
      ·simp at hc1
       refine awp_skip ?_
       (repeat refine ZQ ?_); refine awp_block ?_
       (repeat refine ZQ ?_); refine ZR fun K hK => ?_; simp (maxSteps := 1000000) [ty26, ty55, hc1]; refine hK _ ?_; clear hK K; (first | show AWP _ _ _ _ _ | show ∃ _, _ | skip)
       have hu := upA_len hi
       have hst := upA_step hc1
       have har := hok.area _ (List.getElem_mem hc1)
       have hln := hl.l _ (List.getElem_mem hc1)
       (repeat refine ZQ ?_); refine ZD [1000, 1001, 1004, 1005, 1006, 5009, 11000] [0, 1, 2, 3, 4, 5, 6, 7, 8, 9, 10, 11, 12] fun K hK => ?_; simp (maxSteps := 1000000) [ty87, ty117, ty115, ty28, ty55]
       refine ZE (allowed82 t t.ts[i] hok.num har hln) ?_; simp (maxSteps := 1000000) [ty115, ty118, ty87, ty117, hu]
       refine ⟨by omega, ?_⟩
       refine hK _ ?_; clear hK K
       (repeat refine ZQ ?_); refine ZR fun K hK => ?_; simp (maxSteps := 1000000) [ty3]; refine hK _ ?_; clear hK K; (first | show AWP _ _ _ _ _ | show ∃ _, _ | skip)
       rw [wrap_id (by omega) (by omega)]
       refine ⟨i + 1, by omega, by omega, ?_⟩
       refine wk_shape2 [(2, 2, .live (obTi t)), (4, 4, .live (o1 .pnil)), (5, 5, .live (o1 (encI 0))), (7, 7, .live (o1 (.ptr 19 11 0 0))), (19, 19, .live ⟨false, false, 11, [cFo t (.own 1000 1 0 (i + 1))]⟩), (1000, 36, .live ⟨i + 1 == 0, false, 1, upA t (i + 1)⟩)] (by first | rfl | (simp only [if_pos, if_true, hst]; rfl)) (shp0 hσ (by simp) (by simp) ?_) ?_
       ·simp [SlotOk, hst] <;> (repeat' (first | (refine RowsOk.same ?_; simp [purel, C.isPure]; done) | (refine rowsCons ?_; simp [mtl, mtc, mT, mH, C.isPure, purel]; done) | (refine rowsCons ?_; simp [mtl, mtc, mT, mH, C.isPure, purel]) | refine And.intro ?_ ?_))
       ·simp [mtc, mtl, mT, C.isPure, purel, hst] <;> (try simp (disch := omega) [wrap_id]) <;> (try omega)
      ·simp at hc1
       (repeat refine ZQ ?_); refine awp_exit ?_; (first | show AWP _ _ _ _ _ | show ∃ _, _ | skip)
       have hin : i = t.ts.length := by omega
       have hall := upA_all t
       have hnil := upA_nil t (Nat.le_refl _)
       have hup := upA_pure t t.ts.length
       rw [hin]
       have hemp : (t.ts.length == 0) = t.ts.isEmpty := by cases t.ts <;> rfl
       rw [hemp]
       refine AWP.weak ?_ (wk_frzCell 1000 19 0 10 (o := ⟨t.ts.isEmpty, false, 1, upA t t.ts.length⟩) (oq := ⟨false, false, 11, [cFo t (.own 1000 1 0 t.ts.length)]⟩) (row := cFo t (.own 1000 1 0 t.ts.length)) (c := .own 1000 1 0 t.ts.length) (c' := .sl t.ts.isEmpty false (t.ts.map fun y => [.md false (alR t y)])) (by simp) hup (by simp) (by decide) rfl rfl rfl (by
        rw [← hall]; exact fz_own rfl (by simp) (by simp)) rfl)
       refine AWP.weak ?_ (wk_frzCell 19 7 0 0 (o := ⟨false, false, 11, [cFile t t.ts.isEmpty false]⟩) (oq := o1 (.ptr 19 11 0 0)) (row := [.ptr 19 11 0 0]) (c := .ptr 19 11 0 0) (c' := encF t) (by simp) (by simp [purel, C.isPure]) (by simp) (by decide) rfl rfl rfl (fz_ptr rfl rfl rfl) rfl)
       (repeat refine ZQ ?_); refine ZD [] [0, 1, 2, 3] fun K hK => ?_; simp (maxSteps := 1000000) [ty87]
       refine ZE (all49 t t.ts.isEmpty false hlen) ?_; simp (maxSteps := 1000000) [ty93]
       refine ZE (truths73 t t.ts.isEmpty false (allS t)) ?_; simp (maxSteps := 1000000)
       refine hK _ ?_; clear hK K
       (repeat refine ZQ ?_)
       refine awp_block ?_
       refine awp_range0 1000000 [1000004, 1000005, 1000007] (fun i => if i = 0 then [(1000004, 1000004, .live (o1 .pnil)), (1000005, 1000005, .live (o1 (encI 0))), (1000007, 1000007, .live (o1 (encF t)))] else [(1000004, 1000004, .live (o1 (encF t))), (1000005, 1000005, .live (o1 (encI 0))), (1000007, 1000007, .live (o1 (encF t)))]) (itTr (truthsS t (allS t))) 0 .ret
        [(4, .ptr 1000004 1 0 0), (5, .ptr 1000005 1 0 0), (7, .ptr 1000007 1 0 0), (43, .fn (.func 61) [] [.ip [encF t] 0, .ip [.int .u64 (allS t)] 0])] [(4, .ptr 1000004 1 0 0), (5, .ptr 1000005 1 0 0), (7, .ptr 1000007 1 0 0)]
        (first := []) (caps := [.ip [encF t] 0, .ip [.int .u64 (allS t)] 0]) ?_ hσ (by simp) (by rw [hx]; decide) ⟨rfl, by simp [purel, C.isPure]⟩ (it_tr t t.ts.isEmpty false (allS t) hok (allS_lt hlen)) (Nat.zero_le _) (by simp) (by simp) ?_ ?_ ?_ ?_ ?_ ?_ ?_ ?_
       ·refine wk_shape2 [(1000004, 4, .live (o1 .pnil)), (1000005, 5, .live (o1 (encI 0))), (1000007, 7, .live (o1 (encF t)))] (by first | rfl | (simp only [if_pos, if_true]; rfl)) (shp0 hσ (by simp) (by simp) ?_) ?_
        ·simp [SlotOk] <;> (repeat' (first | (refine RowsOk.same ?_; simp [purel, C.isPure]; done) | (refine rowsCons ?_; simp [mtl, mtc, mT, mH, C.isPure, purel]; done) | (refine rowsCons ?_; simp [mtl, mtc, mT, mH, C.isPure, purel]) | refine And.intro ?_ ?_))
        ·simp [mtc, mtl, mT, C.isPure, purel] <;> (try simp (disch := omega) [wrap_id]) <;> (try omega)
       ·intro i; split <;> simp
       ·intro i; split <;> simp [wil, C.wi]
       ·simp [C.wi, wil]
       ·simp [C.wi, wil]
       ·intro args ha
        obtain ⟨y, hy, rfl⟩ := List.mem_map.1 ha
        simp [purel, C.isPure]
       ·intro i args hit hi y y2 hy1 hy2 hyσ hy
        obtain rfl : i = 0 := by omega
        obtain ⟨y, hy', rfl⟩ := itTr_get hit
        have hx := hy2.trans hx
        simp only [if_true, Nat.zero_add, if_neg (show ¬ 1 = 0 by decide)]
        refine awp_skip ?_
        refine ⟨by simp, ?_⟩
        (repeat refine ZQ ?_); refine awp_block ?_
        (repeat refine ZQ ?_); refine ZR fun K hK => ?_; simp (maxSteps := 1000000) [ty87, ty34, putPs]; refine hK _ ?_; clear hK K
        refine awp_ret ?_
        refine ⟨rfl, ?_⟩
        refine wk_round (E := []) [(1000000, 1000000, .gh), (1000004, 1000004, .live (o1 (encF t))), (1000005, 1000005, .live (o1 (encI 0))), (1000007, 1000007, .live (o1 (encF t)))] (by first | rfl | (simp <;> rfl)) hy (by simp [mT]) (by simp) (by simp) ?_ (by simp)
        ·simp [SlotOk] <;> (repeat' (first | (refine RowsOk.same ?_; simp [purel, C.isPure]; done) | (refine rowsCons ?_; simp [mtl, mtc, mT, mH, C.isPure, purel]; done) | (refine rowsCons ?_; simp [mtl, mtc, mT, mH, C.isPure, purel]) | refine And.intro ?_ ?_)) <;> (try simp (disch := omega) [wrap_id]) <;> (try omega)
       ·intro he s' hs'
        refine AWP.weak ?_ hs'
        have hT : truthsS t (allS t) = [] := List.eq_nil_of_length_eq_zero (by simpa using he.symm)
        rw [← he, if_pos rfl]
        (repeat refine ZQ ?_); refine ZR fun K hK => ?_; simp (maxSteps := 1000000) [ty87, ty34]; refine hK _ ?_; clear hK K
        (repeat refine ZQ ?_); refine awp_ret ?_; refine And.intro (Or.inr rfl) ?_
        simp [retC, resC, viewC, mapO, ty87, ty34, openT, hz, hT]
       ·intro hlt
        have hT : truthsS t (allS t) ≠ [] := by
         intro e; rw [e] at hlt; simp at hlt
        rw [if_neg (by omega)]
        refine awp_ret ?_
        refine ⟨.inr rfl, ?_⟩
        simp [retC, resC, viewC, mapO, ty87, ty34, openT, hz, hT]
 ·(repeat refine ZQ ?_); refine ZC (hc := by simp [hz]; rfl) (fun hd => ?_) (fun hd => ?_)
  ·clear hd
   (repeat refine ZQ ?_); refine ZR fun K hK => ?_; simp (maxSteps := 1000000) [ty87, ty34]; refine hK _ ?_; clear hK K
   (repeat refine ZQ ?_); refine awp_ret ?_; refine And.intro (Or.inr rfl) ?_
   simp [retC, resC, viewC, mapO, ty87, ty34, openT, hz]
  ·simp [hz] at hd

set_option maxHeartbeats 4000000

theorem truthsS_bd {t : Ti} (n : Nat) (hw : TiOk t) : (truthsS t n).length ≤ 410000 := Nat.le_trans (List.length_filter_le _ _) (every_bd hw.num)

theorem truthsA (t : Ti) (nl fu : Bool) (hw : TiOk t) : ItC Tryz.prog 1000000 61 [] [.ip [encFile t nl fu] 0, .ip [.int .u64 (allS t)] 0] (itTr (truthsS t (allS t))) := it_tr t nl fu (allS t) hw (allS_lt hw.len)

/-- The numbers that truths have. -/
def numsT (f : Tr → Int) (t : Ti) (is : Bool) : List Int := if openT t is = 0 then kindsL f (truthsS t (allS t)) else []

theorem numsT_zero {f : Tr → Int} {t : Ti} {is : Bool} (h : openT t is ≠ 0) : numsT f t is = [] := if_neg h
theorem numsT_ok {f : Tr → Int} {t : Ti} {is : Bool} (h : openT t is = 0) : numsT f t is = kindsL f (truthsS t (allS t)) ∧ (numsT f t is).isEmpty = false ∧ numsT f t is ≠ [] := by
 have h2 : numsT f t is = kindsL f (truthsS t (allS t)) := if_pos h
 obtain ⟨_, _, hT⟩ := openT_ok h
 have h3 : numsT f t is ≠ [] := by
  rw [h2]
  intro e
  rcases List.exists_mem_of_ne_nil _ hT with ⟨y, hy⟩
  have := (kindsL_mem f (truthsS t (allS t)) (f y)).2 ⟨y, hy, rfl⟩
  rw [e] at this
  simp at this
 exact ⟨h2, by simpa [List.isEmpty_eq_false_iff] using h3, h3⟩

theorem numsT_len (f : Tr → Int) (t : Ti) (is : Bool) : (numsT f t is).length ≤ 410000 := by
 unfold numsT
 split
 ·rename_i h
  obtain ⟨hok, _, hT⟩ := openT_ok h
  have := truthsS_bd (allS t) hok
  have h2 := kvOf_len f (truthsS t (allS t))
  rw [kindsL_len]; omega
 ·simp

@[simp] abbrev Fk (g : FuncId) (caps : List C) (kv : List (Int × Int)) : List (Nat × Nat × Slot) := [(1000005, 1000005, .live (o1 (.fn (.func g) [] caps))), (1000010, 1000010, .live (o1 (.mp 1000021))), (1000021, 1000021, .live (mapOb kv))]

theorem kinds62 (t : Ti) (is : Bool) (g : FuncId) (caps : List C) (f : Tr → Int) (hl : TiLen t) (hcp : purel caps = true) (hf : openT t is = 0 → ∀ k ∈ allT (gwT t), Pure Tryz.prog g (encTr k :: caps) (encI (f k)))
  (hfb : openT t is = 0 → ∀ k ∈ allT (gwT t), -1000000 ≤ f k ∧ f k ≤ 1000000) :
  Pure Tryz.prog 18 [encTi t, .bool is, .fn (.func g) [] caps] (.tup [slI (numsT f t is), encI (openT t is)]) := by
 refine ZF (fn := Tryz.f18) [.tmp 6, .tmp 7] ⟨Tryz.func18, rfl, by kernel_rfl⟩ fun x hx hσ => ?_
 (repeat refine ZQ ?_); refine ZR fun K hK => ?_; simp (maxSteps := 1000000) [ty28, ty64]; refine hK _ ?_; clear hK K
 (repeat refine ZQ ?_); refine ZR fun K hK => ?_; simp (maxSteps := 1000000) [ty28]
 refine ZP (open46 t is hl) ?_; simp (maxSteps := 1000000) [ty87]
 refine hK _ ?_; clear hK K
 (repeat refine ZQ ?_); refine ZR fun K hK => ?_; simp (maxSteps := 1000000) [ty34]; refine hK _ ?_; clear hK K; (first | show AWP _ _ _ _ _ | show ∃ _, _ | skip)
 by_cases hz : openT t is = 0
 ·obtain ⟨hok, _, hT⟩ := openT_ok hz
  have hbd := truthsS_bd (allS t) hok
  have hne := numsT_ok (f := f) hz
  replace hf := hf hz
  replace hfb := hfb hz
  have hwil : ∀ K, wil K caps = true := fun K => purel_wil K caps hcp
  (repeat refine ZQ ?_); refine ZC (hc := by simp [hz]; rfl) (fun hd => ?_) (fun hd => ?_)
  ·simp at hd
  ·clear hd
   refine awp_skip ?_
   (repeat refine ZQ ?_); refine ZR fun K hK => ?_; simp (maxSteps := 1000000) [ty66]; refine hK _ ?_; clear hK K; (first | show AWP _ _ _ _ _ | show ∃ _, _ | skip)
   simp only [hz, if_true]
   (repeat refine ZQ ?_); refine ZR fun K hK => ?_; simp (maxSteps := 1000000) [ty87]
   refine ZP (all49 t t.ts.isEmpty false hok.len) ?_; simp (maxSteps := 1000000) [ty93]
   refine ZP (truths73 t t.ts.isEmpty false (allS t)) ?_; simp (maxSteps := 1000000)
   refine hK _ ?_; clear hK K
   (repeat refine ZQ ?_); refine awp_block ?_
   refine awp_range0 1000000 [1000005, 1000010, 1000021] (fun i => Fk g caps (kvOf f ((truthsS t (allS t)).take i))) (itTr (truthsS t (allS t))) (truthsS t (allS t)).length .ret
    [(5, .ptr 1000005 1 0 0), (10, .ptr 1000010 1 0 0), (25, .fn (.func 61) [] [.ip [encF t] 0, .ip [.int .u64 (allS t)] 0])] [(5, .ptr 1000005 1 0 0), (10, .ptr 1000010 1 0 0)]
    (first := []) (caps := [.ip [encF t] 0, .ip [.int .u64 (allS t)] 0]) ?_ hσ (by simp) (by rw [hx]; decide) ⟨rfl, by simp [purel, C.isPure]⟩ (truthsA t _ _ hok) (by simp) (by simp) (by simp) (fun i => by simp) (fun i p hp => by
     simp only [Fk, List.mem_cons, List.not_mem_nil, or_false] at hp
     rcases hp with rfl | rfl | rfl
     ·exact ⟨_, rfl, by simp [wil, C.wi, hwil], by simp⟩
     ·exact ⟨_, rfl, by simp [wil, C.wi], by simp⟩
     ·exact ⟨_, rfl, rowsII_wil _ _, rowsII_cell _⟩) (by simp [C.wi, wil]) (by simp [C.wi, wil]) ?_ ?_ ?_ ?_
   ·refine wk_shape2 [(1000005, 5, .live (o1 (.fn (.func g) [] caps))), (1000010, 10, .live (o1 (.mp 1000021))), (1000021, 21, .live (mapOb []))] rfl (shp0 hσ (by simp) (by simp) ?_) ?_
    ·simp [SlotOk]
     exact ⟨.same (by simp [purel, C.isPure, hcp]), .cons (by simp [mtl, mtc, mT]) (by simp) .nil⟩
    ·simp [mtc, mtl, mT, C.isPure, purel]
   ·intro args ha
    obtain ⟨k, ht, rfl⟩ := List.mem_map.1 ha
    simp [purel, C.isPure]
   ·intro i args hit hi y y2 hy1 hy2 hyσ hy
    obtain ⟨k, ht, rfl⟩ := itTr_get hit
    have hi' := (List.getElem?_eq_some_iff.1 ht).1
    have hti : (truthsS t (allS t))[i] = k := (List.getElem?_eq_some_iff.1 ht).2
    have hta : k ∈ allT (gwT t) := (List.mem_filter.1 (List.mem_of_getElem? ht)).1
    have hst := kvOf_step f hi'
    rw [hti] at hst
    have hcb := (kvOf_facts f ((truthsS t (allS t)).take i)).2.2
    have hx0 := hx
    have hx := hy1.trans hx0
    (repeat refine ZQ ?_); refine ZR fun K hK => ?_; simp (maxSteps := 1000000) [ty63, putPs]; refine hK _ ?_; clear hK K; (first | show AWP _ _ _ _ _ | show ∃ _, _ | skip)
    refine ⟨by simp, ?_⟩
    have hx := hy2.trans hx0
    (repeat refine ZQ ?_); refine awp_block ?_
    generalize hkv : kvOf f ((truthsS t (allS t)).take i) = kv at *
    have hcall := hf k hta
    rcases find_bump (f k) kv 0 with ⟨j, n, h1, h2, h3⟩ | ⟨h1, h2⟩
    ·rw [Nat.zero_add] at h1
     have hnb := hcb _ h3
     rw [List.length_take] at hnb
     simp only at hnb
     (repeat refine ZQ ?_); refine ZD [] [0, 1, 2, 3, 4, 5, 6] fun K hK => ?_; simp (maxSteps := 1000000) [ty66, ty64, ty63, ty3]
     refine callPD hcall (by simp [purel, C.isPure, hcp]) (by simp) ?_
     simp [ty66, ty64, ty63, ty3, h1]
     refine hK _ ?_; clear hK K; (first | show AWP _ _ _ _ _ | show ∃ _, _ | skip)
     have hwr : IntKind.i64.wrap (n + 1) = n + 1 := wrap_id (by omega) (by omega)
     have h2' : (rowsII kv).set j [C.int .i64 (f k), C.int .i64 (n + 1)] = rowsII (bump kv (f k)) := h2
     rw [hwr, h2']
     rw [hst]
     refine ⟨by rw [if_neg (by omega)], ?_⟩
     refine wk_round (E := []) [(1000000, 1000000, .gh), (1000005, 1000005, .live (o1 (.fn (.func g) [] caps))), (1000010, 1000010, .live (o1 (.mp 1000021))), (1000021, 1000021, .live (mapOb (bump kv (f k))))] rfl hy (by simp [mT]) (by simp) (by simp) ?_ (by simp)
     simp [SlotOk]
     exact ⟨.same (by simp [purel, C.isPure, hcp]), .cons (by simp [mtl, mtc, mT]) (by simp) .nil, .same (rowsII_pure _)⟩
    ·(repeat refine ZQ ?_); refine ZD [] [0, 1, 2, 3, 4, 5, 6] fun K hK => ?_; simp (maxSteps := 1000000) [ty66, ty64, ty63, ty3]
     refine callPD hcall (by simp [purel, C.isPure, hcp]) (by simp) ?_
     simp [ty66, ty64, ty63, ty3, h1]
     refine hK _ ?_; clear hK K; (first | show AWP _ _ _ _ _ | show ∃ _, _ | skip)
     have hwr : IntKind.i64.wrap 1 = 1 := by decide
     have h2' : rowsII kv ++ [[C.int .i64 (f k), C.int .i64 1]] = rowsII (bump kv (f k)) := h2
     rw [hwr, h2', hst]
     refine ⟨by rw [if_neg (by omega)], ?_⟩
     refine wk_round (E := []) [(1000000, 1000000, .gh), (1000005, 1000005, .live (o1 (.fn (.func g) [] caps))), (1000010, 1000010, .live (o1 (.mp 1000021))), (1000021, 1000021, .live (mapOb (bump kv (f k))))] rfl hy (by simp [mT]) (by simp) (by simp) ?_ (by simp)
     simp [SlotOk]
     exact ⟨.same (by simp [purel, C.isPure, hcp]), .cons (by simp [mtl, mtc, mT]) (by simp) .nil, .same (rowsII_pure _)⟩
   ·intro he s' hs'
    refine AWP.weak ?_ hs'
    have hf3 := kvOf_facts f (truthsS t (allS t))
    have hkb : ∀ p ∈ (kvOf f (truthsS t (allS t))).map (fun p => (p.1, encI p.2)), -1000000000 ≤ p.1 ∧ p.1 ≤ 1000000000 := by
     intro p hp
     obtain ⟨q, hq, rfl⟩ := List.mem_map.1 hp
     obtain ⟨k, hk, e⟩ := (hf3.1 q.1).1 (List.mem_map.2 ⟨q, hq, rfl⟩)
     have := hfb k (List.mem_filter.1 hk).1
     simp only
     omega
    have hlen : (kvOf f (truthsS t (allS t))).length ≤ 10000000 := by
     have := kvOf_len f (truthsS t (allS t))
     omega
    have hkeq : ((kvOf f (truthsS t (allS t))).map (fun p => (p.1, encI p.2))).map (·.1) = (kvOf f (truthsS t (allS t))).map (·.1) := by simp
    have hrl : (itTr (truthsS t (allS t))).length = (truthsS t (allS t)).length := he.symm
    rw [hrl, List.take_length]
    (repeat refine ZQ ?_); refine ZR fun K hK => ?_; simp (maxSteps := 1000000) [ty66]
    refine doesL (keys78 1000021 34 (o := mapOb (kvOf f (truthsS t (allS t)))) rfl rfl rfl rfl) ?_
    simp
    refine doesL (sorted77 1000021 34 35 (em := false) ((kvOf f (truthsS t (allS t))).map (fun p => (p.1, encI p.2))) ?_ rfl rfl ?_ hkb ?_) ?_
    ·rw [← rowsII_KV]; rfl
    ·rw [hkeq]; exact hf3.2.1
    ·simpa using hlen
    rw [hkeq]
    simp
    refine hK _ ?_; clear hK K
    (repeat refine ZQ ?_); refine awp_ret ?_; refine And.intro (Or.inr rfl) ?_
    have hem := kindsL_empty f (truthsS t (allS t))
    have hln := kindsL_len f (truthsS t (allS t))
    rw [hne.1] at *
    have hk : sortI ((kvOf f (truthsS t (allS t))).map (·.1)) = kindsL f (truthsS t (allS t)) := rfl
    rw [hk]
    rw [hne.2.1] at hem
    refine ⟨_, by simp [retC, resC]; rfl, ?_⟩
    unfold viewC
    rw [if_neg (by simp [C.isPure, purel])]
    simp only [mapO]
    rw [viewC_own (o := ⟨(kvOf f (truthsS t (allS t))).isEmpty, false, 1, (kindsL f (truthsS t (allS t))).map cI⟩) (by simp) rfl (by simp [hln]) (by simp [purel, C.isPure]), viewC_self rfl]
    simp [hz, ← hem, hne.2.1]
   ·intro hlt
    simp at hlt
 ·have hz0 := numsT_zero (f := f) hz
  (repeat refine ZQ ?_); refine ZC (hc := by simp [hz]; rfl) (fun hd => ?_) (fun hd => ?_)
  ·clear hd
   (repeat refine ZQ ?_); refine ZR fun K hK => ?_; simp (maxSteps := 1000000); refine hK _ ?_; clear hK K
   (repeat refine ZQ ?_); refine awp_ret ?_; refine And.intro (Or.inr rfl) ?_
   simp [retC, resC, viewC, mapO, hz0]
  ·simp [hz] at hd

set_option maxHeartbeats 4000000

theorem gain63 (k : Tr) : Pure Tryz.prog 19 [encTr k] (encI k.area) := by
 refine ZF (fn := Tryz.f19) [.tmp 2] ⟨Tryz.func19, rfl, by kernel_rfl⟩ fun x hx hσ => ?_
 (repeat refine ZQ ?_); refine ZR fun K hK => ?_; simp (maxSteps := 1000000) [ty63]; refine hK _ ?_; clear hK K
 (repeat refine ZQ ?_); refine ZR fun K hK => ?_; simp (maxSteps := 1000000) [ty63, ty3]; refine hK _ ?_; clear hK K
 (repeat refine ZQ ?_); refine awp_ret ?_; refine And.intro (Or.inr rfl) ?_
 simp [retC, resC, viewC, mapO]
theorem seen54 (k : Tr) (a : Int) (ha : 0 ≤ a ∧ a ≤ 9000) (hg : -50 ≤ k.area ∧ k.area ≤ 50) : Pure Tryz.prog 26 [encTr k, .ip [encI a] 0] (encI (seenA a k.area)) := by
 refine ZF (fn := Tryz.f26) [.tmp 3] ⟨Tryz.func26, rfl, by kernel_rfl⟩ fun x hx hσ => ?_
 (repeat refine ZQ ?_); refine ZR fun K hK => ?_; simp (maxSteps := 1000000) [ty63]; refine hK _ ?_; clear hK K
 (repeat refine ZQ ?_); refine ZR fun K hK => ?_; simp (maxSteps := 1000000) [ty63, ty3]
 refine ZP (seen55 a k.area ha hg) ?_; simp (maxSteps := 1000000)
 refine hK _ ?_; clear hK K
 (repeat refine ZQ ?_); refine awp_ret ?_; refine And.intro (Or.inr rfl) ?_
 simp [retC, resC, viewC, mapO]

theorem every_k {t : Ti} (hw : TiOk t) {k : Tr} (h : k ∈ allT (gwT t)) : (-50 ≤ k.area ∧ k.area ≤ 50) ∧ (-100 ≤ k.skew ∧ k.skew ≤ 100) := by
 have h1 := allT_mem.1 h
 have h2 := hw.gain
 have h3 := hw.num.skew
 have e1 : (gwT t).glow = -t.gain := rfl
 have e2 : (gwT t).ghigh = t.gain := rfl
 have e3 : (gwT t).skew = t.w.skew := rfl
 rw [e1, e2, e3] at h1
 omega

theorem areaB_iff {n : Int} : areaB n = true ↔ 0 ≤ n ∧ n ≤ 9000 := by simp [areaB]


theorem gains22 (t : Ti) (hl : TiLen t) : Pure Tryz.prog 8 [encTi t] (.tup [slI (numsT Tr.area t true), encI (openT t true)]) := by
 refine ZF (fn := Tryz.f8) [.tmp 2, .tmp 3] ⟨Tryz.func8, rfl, by kernel_rfl⟩ fun x hx hσ => ?_
 (repeat refine ZQ ?_); refine ZR fun K hK => ?_; simp (maxSteps := 1000000) [ty28]; refine hK _ ?_; clear hK K
 (repeat refine ZQ ?_); refine ZR fun K hK => ?_; simp (maxSteps := 1000000) [ty28]
 refine ZP (kinds62 t true 19 [] Tr.area hl rfl (fun h k hk => gain63 k) (fun h k hk => by have := every_k (openT_ok h).1 hk; omega)) ?_; simp (maxSteps := 1000000)
 refine hK _ ?_; clear hK K
 (repeat refine ZQ ?_); refine awp_ret ?_; refine And.intro (Or.inr rfl) ?_
 simp [retC, resC, viewC, mapO]
def endsT (f : Tr → Int) (t : Ti) (is : Bool) : Int × Int := ((numsT f t is).headD 0, (numsT f t is).getLastD 0)
@[simp] abbrev encSp (p : Int × Int) : C := .agg [encI p.1, encI p.2]

theorem ends52 (t : Ti) (is : Bool) (g : FuncId) (caps : List C) (f : Tr → Int) (hl : TiLen t) (hcp : purel caps = true) (hf : openT t is = 0 → ∀ k ∈ allT (gwT t), Pure Tryz.prog g (encTr k :: caps) (encI (f k)))
  (hfb : openT t is = 0 → ∀ k ∈ allT (gwT t), -1000000 ≤ f k ∧ f k ≤ 1000000) :
  Pure Tryz.prog 24 [encTi t, .bool is, .fn (.func g) [] caps] (.tup [encSp (endsT f t is), encI (openT t is)]) := by
 refine ZF (fn := Tryz.f24) [.cell 6 23, .tmp 7] ⟨Tryz.func24, rfl, by kernel_rfl⟩ fun x hx hσ => ?_
 (repeat refine ZQ ?_); refine ZR fun K hK => ?_; simp (maxSteps := 1000000) [ty28, ty23]; refine hK _ ?_; clear hK K
 (repeat refine ZQ ?_); refine ZR fun K hK => ?_; simp (maxSteps := 1000000) [ty28]
 refine callP (kinds62 t is g caps f hl hcp hf hfb) (by simp [purel, C.isPure, hcp]) ?_
 simp [ty43]
 refine hK _ ?_; clear hK K
 (repeat refine ZQ ?_); refine ZR fun K hK => ?_; simp (maxSteps := 1000000) [ty34]; refine hK _ ?_; clear hK K; (first | show AWP _ _ _ _ _ | show ∃ _, _ | skip)
 by_cases hz : openT t is = 0
 ·(repeat refine ZQ ?_); refine ZC (hc := by simp [hz]; rfl) (fun hd => ?_) (fun hd => ?_)
  ·simp at hd
  ·clear hd
   refine awp_skip ?_; (first | show AWP _ _ _ _ _ | show ∃ _, _ | skip)
   obtain ⟨h1, h2, h3⟩ := numsT_ok (f := f) hz
   have hpos : 0 < (numsT f t is).length := List.length_pos_iff.2 h3
   have hlb := numsT_len f t is
   have hb : (endsT f t is).1 = (numsT f t is)[0] ∧ (endsT f t is).2 = (numsT f t is)[(numsT f t is).length - 1] := ends_eq _ hpos
   have hwr : IntKind.i64.wrap ((numsT f t is).length - 1) = ((numsT f t is).length - 1 : Nat) := by
    rw [wrap_id (by omega) (by omega)]; omega
   have hlt : (numsT f t is).length - 1 < (numsT f t is).length := by omega
   (repeat refine ZQ ?_); refine ZD [] [0, 1, 2, 3, 4, 5, 6, 7, 8, 9, 10, 11] fun K hK => ?_; simp (maxSteps := 1000000) [ty43, ty3, ty23, hpos, hwr, hlt]; refine hK _ ?_; clear hK K
   (repeat refine ZQ ?_); refine awp_ret ?_; refine And.intro (Or.inr rfl) ?_
   simp [retC, resC, viewC, mapO, ty23, hz, hb]
 ·have hz0 := numsT_zero (f := f) hz
  (repeat refine ZQ ?_); refine ZC (hc := by simp [hz]; rfl) (fun hd => ?_) (fun hd => ?_)
  ·clear hd
   (repeat refine ZQ ?_); refine ZR fun K hK => ?_; simp (maxSteps := 1000000) [ty23, ty34]; refine hK _ ?_; clear hK K
   (repeat refine ZQ ?_); refine awp_ret ?_; refine And.intro (Or.inr rfl) ?_
   simp [retC, resC, viewC, mapO, hz0, endsT, ty23]
  ·simp [hz] at hd

theorem openT_area {t : Ti} {a : Int} (h : openT t (areaB a) = 0) : TiOk t ∧ 0 ≤ a ∧ a ≤ 9000 := ⟨(openT_ok h).1, areaB_iff.1 (openT_ok h).2.1⟩


theorem seen13 (t : Ti) (a : Int) (hl : TiLen t) : Pure Tryz.prog 10 [encTi t, encI a] (.tup [encSp (endsT (fun k => seenA a k.area) t (areaB a)), encI (openT t (areaB a))]) := by
 refine ZF (fn := Tryz.f10) [.cell 4 23, .tmp 5] ⟨Tryz.func10, rfl, by kernel_rfl⟩ fun x hx hσ => ?_
 (repeat refine ZQ ?_); refine ZR fun K hK => ?_; simp (maxSteps := 1000000) [ty28, ty3, ty23]; refine hK _ ?_; clear hK K
 (repeat refine ZQ ?_); refine ZD [] [0, 1, 2, 3, 4, 5, 6, 7, 8] fun K hK => ?_; simp (maxSteps := 1000000) [ty28, ty3]
 refine ZE (isArea53 a) ?_; simp (maxSteps := 1000000)
 refine callD (ends52 t (areaB a) 26 [.ip [encI a] 0] (fun k => seenA a k.area) hl (by simp [purel, C.isPure]) (fun h k hk => seen54 k a (openT_area h).2 (every_k (openT_area h).1 hk).1) (fun h k hk => by have := seenA_bd (openT_area h).2 (every_k (openT_area h).1 hk).1; omega)) (by simp [viewL, mapO, viewC, C.isPure, purel]) (.inr rfl) (by simp) ?_
 simp [ty23]
 refine hK _ ?_; clear hK K
 (repeat refine ZQ ?_); refine awp_ret ?_; refine And.intro (Or.inr rfl) ?_
 simp [retC, resC, viewC, mapO, ty23]

def countB (n : Int) : Bool := decide (0 ≤ n) && decide (n ≤ 9999)

/-- Where the first number is that has a property. -/
def firstP (p : Int → Bool) (l : List Int) : Int := if l.any p then (l.findIdx p : Nat) else -1

theorem firstP_at {p : Int → Bool} {l : List Int} {i : Nat} (hi : i < l.length) (h0 : ∀ j, (h : j < l.length) → j < i → p l[j] = false) (h1 : p l[i] = true) : firstP p l = i := by
 unfold firstP
 rw [if_pos (List.any_eq_true.2 ⟨_, List.getElem_mem hi, h1⟩), List.findIdx_eq hi |>.2 ⟨h1, fun j hj => h0 j (by omega) hj⟩]
theorem firstP_none {p : Int → Bool} {l : List Int} (h : ∀ j, (h : j < l.length) → p l[j] = false) : firstP p l = -1 := by
 unfold firstP
 rw [if_neg]
 intro e
 obtain ⟨x, hx, h1⟩ := List.any_eq_true.1 e
 obtain ⟨j, hj, rfl⟩ := List.getElem_of_mem hx
 rw [h j hj] at h1
 cases h1
theorem firstP_any (p : Int → Bool) (l : List Int) : decide (0 ≤ firstP p l) = l.any p := by
 unfold firstP
 cases l.any p <;> simp

set_option maxHeartbeats 4000000

-- wear: what it is, and the small functions

/-- A visit. -/
structure Vs where
  day : Int
  nl : Bool
  fu : Bool
  ts : List Ts

/-- An instrument. -/
structure Ws where
  w : Wh
  gain : Int
  last : Int
  drop : Int
  nl : Bool
  fu : Bool
  vs : List Vs
  wrong : Int

@[simp] abbrev cVs (v : Vs) : List C := [encI v.day, sTs v.nl v.fu v.ts]
@[simp] abbrev encVs (v : Vs) : C := .agg (cVs v)
@[simp] abbrev sVs (nl fu : Bool) (l : List Vs) : C := .sl nl fu (l.map cVs)
@[simp] abbrev cWs (w : Ws) : List C := [encI w.w.full, encI w.w.read, encI w.w.slip, encI w.w.skew, encI w.w.circle, encI w.w.glow, encI w.w.ghigh, encI w.w.wrong, encI w.gain, encI w.last, encI w.drop, sVs w.nl w.fu w.vs, encI w.wrong]
@[simp] abbrev encWs (w : Ws) : C := .agg (cWs w)
@[simp] abbrev obWs (w : Ws) : Ob := ⟨false, false, 13, [cWs w]⟩
@[simp] abbrev tiV (w : Ws) (v : Vs) : Ti := ⟨w.w, w.gain, v.nl, v.fu, v.ts⟩
@[simp] abbrev tiN (w : Ws) : Ti := ⟨w.w, w.gain, true, true, []⟩

/-- Not too much of anything. -/
structure WsLen (w : Ws) : Prop where
  vs : w.vs.length ≤ 1000
  l : ∀ v ∈ w.vs, TiLen (tiV w v)

theorem within74 (n a b : Int) : Pure Tryz.prog 48 [encI n, encI a, encI b] (.bool (decide (a ≤ n) && decide (n ≤ b))) := by
 refine ZF (fn := Tryz.f48) [.tmp 6] ⟨Tryz.func48, rfl, by kernel_rfl⟩ fun x hx hσ => ?_
 (repeat refine ZQ ?_); refine ZR fun K hK => ?_; simp (maxSteps := 1000000) [ty4]; refine hK _ ?_; clear hK K; (first | show AWP _ _ _ _ _ | show ∃ _, _ | skip)
 by_cases h : a ≤ n
 ·(repeat refine ZQ ?_); refine ZR fun K hK => ?_; simp (maxSteps := 1000000) [ty3, ty4, h]; refine hK _ ?_; clear hK K
  (repeat refine ZQ ?_); refine awp_ret ?_; refine And.intro (Or.inr rfl) ?_
  simp [retC, resC, viewC, mapO, h]
 ·(repeat refine ZQ ?_); refine ZR fun K hK => ?_; simp (maxSteps := 1000000) [ty3, ty4, h]; refine hK _ ?_; clear hK K
  (repeat refine ZQ ?_); refine awp_ret ?_; refine And.intro (Or.inr rfl) ?_
  simp [retC, resC, viewC, mapO, h]

theorem isArea58 (n : Int) : Pure Tryz.prog 28 [encI n] (.bool (areaB n)) := by
 refine ZF (fn := Tryz.f28) [.tmp 2] ⟨Tryz.func28, rfl, by kernel_rfl⟩ fun x hx hσ => ?_
 (repeat refine ZQ ?_); refine ZR fun K hK => ?_; simp (maxSteps := 1000000) [ty4]; refine hK _ ?_; clear hK K
 (repeat refine ZQ ?_); refine ZR fun K hK => ?_; simp (maxSteps := 1000000) [ty4]
 refine ZP (within74 n 0 9000) ?_; simp (maxSteps := 1000000) [ty4]
 refine hK _ ?_; clear hK K
 (repeat refine ZQ ?_); refine awp_ret ?_; refine And.intro (Or.inr rfl) ?_
 simp [retC, resC, viewC, mapO, areaB]

theorem isCount59 (n : Int) : Pure Tryz.prog 32 [encI n] (.bool (countB n)) := by
 refine ZF (fn := Tryz.f32) [.tmp 2] ⟨Tryz.func32, rfl, by kernel_rfl⟩ fun x hx hσ => ?_
 (repeat refine ZQ ?_); refine ZR fun K hK => ?_; simp (maxSteps := 1000000) [ty4]; refine hK _ ?_; clear hK K
 (repeat refine ZQ ?_); refine ZR fun K hK => ?_; simp (maxSteps := 1000000) [ty4]
 refine ZP (within74 n 0 9999) ?_; simp (maxSteps := 1000000) [ty4]
 refine hK _ ?_; clear hK K
 (repeat refine ZQ ?_); refine awp_ret ?_; refine And.intro (Or.inr rfl) ?_
 simp [retC, resC, viewC, mapO, countB]

def dayB (w : Ws) (n : Int) : Bool := decide (0 ≤ n) && decide (n ≤ w.last)

theorem isDay62 (w : Ws) (n : Int) : Pure Tryz.prog 21 [encWs w, encI n] (.bool (dayB w n)) := by
 refine ZF (fn := Tryz.f21) [.tmp 4] ⟨Tryz.func21, rfl, by kernel_rfl⟩ fun x hx hσ => ?_
 (repeat refine ZQ ?_); refine ZR fun K hK => ?_; simp (maxSteps := 1000000) [ty42, ty4]; refine hK _ ?_; clear hK K
 (repeat refine ZQ ?_); refine ZR fun K hK => ?_; simp (maxSteps := 1000000) [ty42, ty3, ty4]
 refine ZP (within74 n 0 w.last) ?_; simp (maxSteps := 1000000) [ty4]
 refine hK _ ?_; clear hK K
 (repeat refine ZQ ?_); refine awp_ret ?_; refine And.intro (Or.inr rfl) ?_
 simp [retC, resC, viewC, mapO, dayB]

theorem seen61 (a g : Int) (ha : 0 ≤ a ∧ a ≤ 9000) (hg : -50 ≤ g ∧ g ≤ 50) : Pure Tryz.prog 29 [encI a, encI g] (encI (seenA a g)) := by
 have hb := mul_bd ha hg
 have hd : seenA a g = a + a * g / 1000 := rfl
 generalize hn : a * g = n at *
 have hwn : IntKind.i64.wrap n = n := wrap_id (by omega) (by omega)
 have hm : IntKind.i64.wrap (n.tmod 1000) = n.tmod 1000 := wrap_id (by have := Int.tmod_lt_of_pos n (show (0 : Int) < 1000 by decide); have := Int.lt_tmod_of_pos n (show (0 : Int) < 1000 by decide); omega) (by have := Int.tmod_lt_of_pos n (show (0 : Int) < 1000 by decide); omega)
 have hq := Int.mul_tdiv_add_tmod n 1000
 have hw : IntKind.i64.wrap (n.tdiv 1000) = n.tdiv 1000 := by
  have := Int.tmod_lt_of_pos n (show (0 : Int) < 1000 by decide)
  have := Int.lt_tmod_of_pos n (show (0 : Int) < 1000 by decide)
  exact wrap_id (by omega) (by omega)
 refine ZF (fn := Tryz.f29) [.tmp 4] ⟨Tryz.func29, rfl, by kernel_rfl⟩ fun x hx hσ => ?_
 (repeat refine ZQ ?_); refine ZR fun K hK => ?_; simp (maxSteps := 1000000) [ty3]; refine hK _ ?_; clear hK K
 (repeat refine ZQ ?_); refine ZR fun K hK => ?_; simp (maxSteps := 1000000) [ty3, hn, hwn, hm, hw]; refine hK _ ?_; clear hK K; (first | show AWP _ _ _ _ _ | show ∃ _, _ | skip)
 by_cases h0 : n.tmod 1000 < 0
 ·(repeat refine ZQ ?_); refine ZR fun K hK => ?_; simp (maxSteps := 1000000) [ty3, h0]; refine hK _ ?_; clear hK K
  (repeat refine ZQ ?_); refine ZC (hc := by simp [h0]; rfl) (fun hc => ?_) (fun hc => ?_)
  ·clear hc
   have h1 : n.tdiv 1000 - 1 = n / 1000 := by
    have := Int.lt_tmod_of_pos n (show (0 : Int) < 1000 by decide)
    omega
   have h4 : IntKind.i64.wrap (n / 1000) = n / 1000 := wrap_id (by omega) (by omega)
   have h5 : IntKind.i64.wrap (a + n / 1000) = a + n / 1000 := wrap_id (by omega) (by omega)
   (repeat refine ZQ ?_); refine ZR fun K hK => ?_; simp (maxSteps := 1000000) [ty3, h1, h4, h5]; refine hK _ ?_; clear hK K
   (repeat refine ZQ ?_); refine ZR fun K hK => ?_; simp (maxSteps := 1000000) [ty3, h1, h4, h5]; refine hK _ ?_; clear hK K
   (repeat refine ZQ ?_); refine awp_ret ?_; refine And.intro (Or.inr rfl) ?_
   simp [retC, resC, viewC, mapO, hd]
  ·simp at hc
 ·(repeat refine ZQ ?_); refine ZR fun K hK => ?_; simp (maxSteps := 1000000) [ty3, h0]; refine hK _ ?_; clear hK K
  (repeat refine ZQ ?_); refine ZC (hc := by simp [h0]; rfl) (fun hc => ?_) (fun hc => ?_)
  ·simp at hc
  ·clear hc
   refine awp_skip ?_; (first | show AWP _ _ _ _ _ | show ∃ _, _ | skip)
   have h1 : n.tdiv 1000 = n / 1000 := by
    have := Int.tmod_lt_of_pos n (show (0 : Int) < 1000 by decide)
    omega
   have h5 : IntKind.i64.wrap (a + n / 1000) = a + n / 1000 := wrap_id (by omega) (by omega)
   (repeat refine ZQ ?_); refine ZR fun K hK => ?_; simp (maxSteps := 1000000) [ty3, h1, h5]; refine hK _ ?_; clear hK K
   (repeat refine ZQ ?_); refine awp_ret ?_; refine And.intro (Or.inr rfl) ?_
   simp [retC, resC, viewC, mapO, hd]

theorem trial76 (w : Ws) (v : Vs) : Pure Tryz.prog 66 [encWs w, encVs v] (encTi (tiV w v)) := by
 refine ZF (fn := Tryz.f66) [.cell 4 28] ⟨Tryz.func66, rfl, by kernel_rfl⟩ fun x hx hσ => ?_
 (repeat refine ZQ ?_); refine ZR fun K hK => ?_; simp (maxSteps := 1000000) [ty42, ty39, ty28]; refine hK _ ?_; clear hK K
 (repeat refine ZQ ?_); refine ZR fun K hK => ?_; simp (maxSteps := 1000000) [ty42, ty39, ty28, ty25, ty3, ty26]; refine hK _ ?_; clear hK K
 (repeat refine ZQ ?_); refine awp_ret ?_; refine And.intro (Or.inr rfl) ?_
 simp [retC, resC, viewC, mapO, ty28]

theorem trialN76 (w : Ws) : Pure Tryz.prog 66 [encWs w, .agg [encI 0, .sl true true []]] (encTi (tiN w)) := trial76 w ⟨0, true, true, []⟩

/-- The first place of a number; -1: there is none. -/
def idxI (l : List Int) (n : Int) : Int := firstP (fun z => n == z) l

theorem index165 (nl fu : Bool) (l : List Int) (n : Int) (hn : l.length ≤ 1000000) : Pure Tryz.prog 138 [.sl nl fu (l.map cI), encI n] (encI (idxI l n)) := by
 refine ZF (fn := Tryz.f138) [.tmp 4] ⟨Tryz.func138, rfl, by kernel_rfl⟩ fun x hx hσ => ?_
 (repeat refine ZQ ?_); refine ZR fun K hK => ?_; simp (maxSteps := 1000000); refine hK _ ?_; clear hK K
 (repeat refine ZQ ?_); refine ZR fun K hK => ?_; simp (maxSteps := 1000000) [ty43]; refine hK _ ?_; clear hK K
 (repeat refine ZQ ?_); refine awp_block ?_
 refine awp_loop (fun i : Nat => ⟨ofL [(0, .sl nl fu (l.map cI)), (1, encI n), (7, encI l.length), (8, encI i)], stoT []⟩)
  (fun i => i ≤ l.length ∧ ∀ j, (h : j < l.length) → j < i → (n == l[j]) = false) (fun i => l.length - i) 0 (by simp) ?_ ?_
 ·exact Zw
 ·intro i ⟨hi, hj⟩
  (repeat refine ZQ ?_); refine ZR fun K hK => ?_; simp (maxSteps := 1000000) [ty3]; refine hK _ ?_; clear hK K
  (repeat refine ZQ ?_); refine ZC (fun hc => ?_) (fun hc => ?_)
  ·simp at hc
   refine awp_skip ?_
   (repeat refine ZQ ?_); refine awp_block ?_
   (repeat refine ZQ ?_); refine ZR fun K hK => ?_; simp (maxSteps := 1000000) [ty3]; refine hK _ ?_; clear hK K; (first | show AWP _ _ _ _ _ | show ∃ _, _ | skip)
   cases hb : n == l[i]
   ·(repeat refine ZQ ?_); refine ZR fun K hK => ?_; simp (maxSteps := 1000000) [ty43, ty3, hc, hb]; refine hK _ ?_; clear hK K
    (repeat refine ZQ ?_); refine ZC (hc := by simp [hb]; rfl) (fun hd => ?_) (fun hd => ?_)
    ·simp at hd
    ·clear hd
     refine awp_skip ?_
     (repeat refine ZQ ?_); refine ZR fun K hK => ?_; simp (maxSteps := 1000000) [ty3]; refine hK _ ?_; clear hK K; (first | show AWP _ _ _ _ _ | show ∃ _, _ | skip)
     refine ⟨i + 1, ⟨by omega, fun j h1 h2 => ?_⟩, by omega, ?_⟩
     ·by_cases hji : j = i
      ·subst hji; assumption
      ·exact hj j h1 (by omega)
     ·exact Zw
   ·(repeat refine ZQ ?_); refine ZR fun K hK => ?_; simp (maxSteps := 1000000) [ty43, ty3, hc, hb]; refine hK _ ?_; clear hK K
    (repeat refine ZQ ?_); refine ZC (hc := by simp [hb]; rfl) (fun hd => ?_) (fun hd => ?_)
    ·clear hd
     (repeat refine ZQ ?_); refine ZR fun K hK => ?_; simp (maxSteps := 1000000); refine hK _ ?_; clear hK K
     (repeat refine ZQ ?_); refine awp_ret ?_; refine And.intro (Or.inr rfl) ?_
     unfold idxI
     rw [firstP_at (p := fun z => n == z) hc hj hb]
     simp [retC, resC, viewC, mapO]
    ·simp at hd
  ·simp at hc
   (repeat refine ZQ ?_); refine awp_exit ?_
   (repeat refine ZQ ?_); refine ZR fun K hK => ?_; simp (maxSteps := 1000000); refine hK _ ?_; clear hK K
   (repeat refine ZQ ?_); refine awp_ret ?_; refine And.intro (Or.inr rfl) ?_
   unfold idxI
   rw [firstP_none fun j h => hj j h (by omega)]
   simp [retC, resC, viewC, mapO]

theorem contains156 (nl fu : Bool) (l : List Int) (n : Int) (hn : l.length ≤ 1000000) : Pure Tryz.prog 136 [.sl nl fu (l.map cI), encI n] (.bool (decide (n ∈ l))) := by
 have h2 : ∀ l : List Int, l.any (fun z => n == z) = decide (n ∈ l) := by
  intro l
  induction l with
  | nil => rfl
  | cons a l ih => rw [List.any_cons, ih]; by_cases e : n = a <;> simp [e]
 have h := firstP_any (fun z => n == z) l
 rw [h2] at h
 have h3 : decide (0 ≤ idxI l n) = decide (n ∈ l) := h
 refine ZF (fn := Tryz.f136) [.tmp 4] ⟨Tryz.func136, rfl, by kernel_rfl⟩ fun x hx hσ => ?_
 (repeat refine ZQ ?_); refine ZR fun K hK => ?_; simp (maxSteps := 1000000); refine hK _ ?_; clear hK K
 (repeat refine ZQ ?_); refine ZR fun K hK => ?_; simp (maxSteps := 1000000)
 refine ZP (index165 nl fu l n hn) ?_; simp (maxSteps := 1000000) [ty3]
 refine hK _ ?_; clear hK K
 (repeat refine ZQ ?_); refine awp_ret ?_; refine And.intro (Or.inr rfl) ?_
 simp [retC, resC, viewC, mapO, h3]

set_option maxHeartbeats 4000000

-- the card, and what it says of one day

/-- Rows of a map by numbers. -/
def rowsV {α : Type} (v : α → C) (L : List (Int × α)) : List (List C) := L.map fun p => [encI p.1, v p.2]
@[simp] abbrev slG (l : List Int) : C := slI l
def rowsG (G : List (Int × List Int)) : List (List C) := rowsV slG G
def rowsK (K : List (Int × Int)) : List (List C) := rowsV encI K

theorem findF {α : Type} (v : α → C) (a : Int) : ∀ (L : List (Int × α)) (i : Nat), (∃ j p, L.find? (fun p => p.1 == a) = some p ∧ findC .int (encI a) (rowsV v L) i = some (some (j, v p.2))) ∨ (L.find? (fun p => p.1 == a) = none ∧ findC .int (encI a) (rowsV v L) i = some none)
 | [], i => .inr ⟨rfl, rfl⟩
 | p :: L, i => by
  have hr : rowsV v (p :: L) = [encI p.1, v p.2] :: rowsV v L := rfl
  by_cases h : p.1 = a
  ·subst h
   exact .inl ⟨i, p, by simp, by rw [hr]; simp [findC, sameC]⟩
  ·have hb : (a == p.1) = false := by rw [beq_eq_false_iff_ne]; exact fun e => h e.symm
   have hb' : (p.1 == a) = false := by rw [beq_eq_false_iff_ne]; exact h
   have hf : findC .int (encI a) (rowsV v (p :: L)) i = findC .int (encI a) (rowsV v L) (i + 1) := by
    rw [hr]; simp [findC, sameC, hb]
   have hg : (p :: L).find? (fun p => p.1 == a) = L.find? (fun p => p.1 == a) := by simp [List.find?_cons, hb']
   rw [hf, hg]
   exact findF v a L (i + 1)

@[simp] theorem rowsG_pure (G : List (Int × List Int)) : (rowsG G).all purel = true := by
 simp only [rowsG, rowsV, List.all_map, List.all_eq_true]; intro p _; rfl
@[simp] theorem rowsK_pure (K : List (Int × Int)) : (rowsK K).all purel = true := by
 simp only [rowsK, rowsV, List.all_map, List.all_eq_true]; intro p _; rfl

@[simp] abbrev cCd (w : Ws) (G : List (Int × List Int)) (nl : Bool) (K : List (Int × Int)) : List C := [encI w.w.full, encI w.w.read, encI w.w.slip, encI w.w.skew, encI w.w.circle, encI w.w.glow, encI w.w.ghigh, encI w.w.wrong, encI w.gain, encI w.last, encI w.drop, sVs w.nl w.fu w.vs, encI w.wrong, .md false (rowsG G), .md nl (rowsK K)]
@[simp] abbrev encCd (w : Ws) (G : List (Int × List Int)) (nl : Bool) (K : List (Int × Int)) : C := .agg (cCd w G nl K)
@[simp] abbrev obCd (w : Ws) (G : List (Int × List Int)) (nl : Bool) (K : List (Int × Int)) : Ob := ⟨false, false, 15, [cCd w G nl K]⟩

@[simp] abbrev co (w : Ws) (G : List (Int × List Int)) : Co := ⟨w.gain, w.last, w.drop, w.wrong, G⟩

/-- The numbers are not too great. -/
structure WsNum (w : Ws) (G : List (Int × List Int)) : Prop where
  gain : 0 ≤ w.gain ∧ w.gain ≤ 50
  last : 1 ≤ w.last ∧ w.last ≤ 30
  drop : 0 ≤ w.drop ∧ w.drop ≤ 10
  len : ∀ p ∈ G, p.2.length ≤ 1000000

theorem wrong140 (w : Ws) (G : List (Int × List Int)) (nl : Bool) (K : List (Int × Int)) (day g : Int) (hG : ∀ p ∈ G, p.2.length ≤ 1000000) : Pure Tryz.prog 130 [encCd w G nl K, encI day, encI g] (encI (wrG G day g)) := by
 rcases findF slG day G 0 with ⟨j, p, h1, h2⟩ | ⟨h1, h2⟩
 ·have h2 : findC .int (encI day) (rowsG G) 0 = some (some (j, slG p.2)) := h2
  have hl := hG p (List.mem_of_find?_eq_some h1)
  have hw : wrG G day g = if g ∈ p.2 then 0 else 1 := by unfold wrG; rw [h1]
  by_cases hm : g ∈ p.2
  ·refine ZF (fn := Tryz.f130) [.tmp 6] ⟨Tryz.func130, rfl, by kernel_rfl⟩ fun x hx hσ => ?_
   (repeat refine ZQ ?_); refine ZR fun K hK => ?_; simp (maxSteps := 1000000) [ty69, ty3]; refine hK _ ?_; clear hK K
   (repeat refine ZQ ?_); refine ZR fun K hK => ?_; simp (maxSteps := 1000000) [ty69, ty65, ty43, ty3, keyQ, h2]; refine hK _ ?_; clear hK K
   (repeat refine ZQ ?_); refine ZR fun K hK => ?_; simp (maxSteps := 1000000) [ty4]
   refine ZP (contains156 p.2.isEmpty p.2.isEmpty p.2 g hl) ?_; simp (maxSteps := 1000000) [ty4, hm]
   refine hK _ ?_; clear hK K
   (repeat refine ZQ ?_); refine ZC (hc := by simp [hm]; rfl) (fun hd => ?_) (fun hd => ?_)
   ·simp [hm] at hd
   ·clear hd
    refine awp_skip ?_
    (repeat refine ZQ ?_); refine ZR fun K hK => ?_; simp (maxSteps := 1000000); refine hK _ ?_; clear hK K
    (repeat refine ZQ ?_); refine awp_ret ?_; refine And.intro (Or.inr rfl) ?_
    simp [retC, resC, viewC, mapO, hw, hm]
  ·refine ZF (fn := Tryz.f130) [.tmp 6] ⟨Tryz.func130, rfl, by kernel_rfl⟩ fun x hx hσ => ?_
   (repeat refine ZQ ?_); refine ZR fun K hK => ?_; simp (maxSteps := 1000000) [ty69, ty3]; refine hK _ ?_; clear hK K
   (repeat refine ZQ ?_); refine ZR fun K hK => ?_; simp (maxSteps := 1000000) [ty69, ty65, ty43, ty3, keyQ, h2]; refine hK _ ?_; clear hK K
   (repeat refine ZQ ?_); refine ZR fun K hK => ?_; simp (maxSteps := 1000000) [ty4]
   refine ZP (contains156 p.2.isEmpty p.2.isEmpty p.2 g hl) ?_; simp (maxSteps := 1000000) [ty4, hm]
   refine hK _ ?_; clear hK K
   (repeat refine ZQ ?_); refine ZC (hc := by simp [hm]; rfl) (fun hd => ?_) (fun hd => ?_)
   ·clear hd
    (repeat refine ZQ ?_); refine ZR fun K hK => ?_; simp (maxSteps := 1000000); refine hK _ ?_; clear hK K
    (repeat refine ZQ ?_); refine awp_ret ?_; refine And.intro (Or.inr rfl) ?_
    simp [retC, resC, viewC, mapO, hw, hm]
   ·simp [hm] at hd
 ·have h2 : findC .int (encI day) (rowsG G) 0 = some none := h2
  have hw : wrG G day g = 0 := by unfold wrG; rw [h1]
  refine ZF (fn := Tryz.f130) [.tmp 6] ⟨Tryz.func130, rfl, by kernel_rfl⟩ fun x hx hσ => ?_
  (repeat refine ZQ ?_); refine ZR fun K hK => ?_; simp (maxSteps := 1000000) [ty69, ty3]; refine hK _ ?_; clear hK K
  (repeat refine ZQ ?_); refine ZR fun K hK => ?_; simp (maxSteps := 1000000) [ty69, ty65, ty43, ty3, keyQ, h2]; refine hK _ ?_; clear hK K
  (repeat refine ZQ ?_); refine ZR fun K hK => ?_; simp (maxSteps := 1000000) [ty4]; refine hK _ ?_; clear hK K
  (repeat refine ZQ ?_); refine ZC (fun hd => ?_) (fun hd => ?_)
  ·simp at hd
  ·clear hd
   refine awp_skip ?_
   (repeat refine ZQ ?_); refine ZR fun K hK => ?_; simp (maxSteps := 1000000); refine hK _ ?_; clear hK K
   (repeat refine ZQ ?_); refine awp_ret ?_; refine And.intro (Or.inr rfl) ?_
   simp [retC, resC, viewC, mapO, hw]

theorem allows139 (w : Ws) (G : List (Int × List Int)) (nl : Bool) (K : List (Int × Int)) (day g : Int) (hw : 0 ≤ w.gain ∧ w.gain ≤ 50) : Pure Tryz.prog 129 [encCd w G nl K, encI day, encI g] (.bool (alC (co w G) K day g)) := by
 have hwg : IntKind.i64.wrap (-w.gain) = -w.gain := wrap_id (by omega) (by omega)
 obtain ⟨b, hb⟩ : ∃ b, (decide (-w.gain ≤ g) && decide (g ≤ w.gain)) = b := ⟨_, rfl⟩
 have hal : alC (co w G) K day g = (b && knB K day g) := by unfold alC; simp only [hb]
 have hcall := within74 g (-w.gain) w.gain
 rw [hb] at hcall
 rcases findF encI day K 0 with ⟨j, p, h1, h2⟩ | ⟨h1, h2⟩
 ·have h2 : findC .int (encI day) (rowsK K) 0 = some (some (j, encI p.2)) := h2
  have hk : knB K day g = (p.2 == g) := by unfold knB; rw [h1]
  rw [hal, hk]
  cases b
  ·refine ZF (fn := Tryz.f129) [.tmp 6] ⟨Tryz.func129, rfl, by kernel_rfl⟩ fun x hx hσ => ?_
   (repeat refine ZQ ?_); refine ZR fun K hK => ?_; simp (maxSteps := 1000000) [ty69, ty4]; refine hK _ ?_; clear hK K
   (repeat refine ZQ ?_); refine ZR fun K hK => ?_; simp (maxSteps := 1000000) [ty69, ty67, ty3, keyQ, h2]; refine hK _ ?_; clear hK K
   (repeat refine ZQ ?_); refine ZR fun K hK => ?_; simp (maxSteps := 1000000) [ty69, ty42, ty3, ty4, hwg]
   refine ZP (hcall) ?_; simp (maxSteps := 1000000) [ty4]
   refine hK _ ?_; clear hK K
   (repeat refine ZQ ?_); refine awp_ret ?_; refine And.intro (Or.inr rfl) ?_
   simp [retC, resC, viewC, mapO]
  ·refine ZF (fn := Tryz.f129) [.tmp 6] ⟨Tryz.func129, rfl, by kernel_rfl⟩ fun x hx hσ => ?_
   (repeat refine ZQ ?_); refine ZR fun K hK => ?_; simp (maxSteps := 1000000) [ty69, ty4]; refine hK _ ?_; clear hK K
   (repeat refine ZQ ?_); refine ZR fun K hK => ?_; simp (maxSteps := 1000000) [ty69, ty67, ty3, keyQ, h2]; refine hK _ ?_; clear hK K
   (repeat refine ZQ ?_); refine ZR fun K hK => ?_; simp (maxSteps := 1000000) [ty69, ty42, ty3, ty4, hwg]
   refine ZP (hcall) ?_; simp (maxSteps := 1000000) [ty4, ty3]
   refine hK _ ?_; clear hK K
   (repeat refine ZQ ?_); refine awp_ret ?_; refine And.intro (Or.inr rfl) ?_
   simp [retC, resC, viewC, mapO]
 ·have h2 : findC .int (encI day) (rowsK K) 0 = some none := h2
  have hk : knB K day g = true := by unfold knB; rw [h1]
  rw [hal, hk]
  cases b
  ·refine ZF (fn := Tryz.f129) [.tmp 6] ⟨Tryz.func129, rfl, by kernel_rfl⟩ fun x hx hσ => ?_
   (repeat refine ZQ ?_); refine ZR fun K hK => ?_; simp (maxSteps := 1000000) [ty69, ty4]; refine hK _ ?_; clear hK K
   (repeat refine ZQ ?_); refine ZR fun K hK => ?_; simp (maxSteps := 1000000) [ty69, ty67, ty3, keyQ, h2]; refine hK _ ?_; clear hK K
   (repeat refine ZQ ?_); refine ZR fun K hK => ?_; simp (maxSteps := 1000000) [ty69, ty42, ty3, ty4, hwg]
   refine ZP (hcall) ?_; simp (maxSteps := 1000000) [ty4]
   refine hK _ ?_; clear hK K
   (repeat refine ZQ ?_); refine awp_ret ?_; refine And.intro (Or.inr rfl) ?_
   simp [retC, resC, viewC, mapO]
  ·refine ZF (fn := Tryz.f129) [.tmp 6] ⟨Tryz.func129, rfl, by kernel_rfl⟩ fun x hx hσ => ?_
   (repeat refine ZQ ?_); refine ZR fun K hK => ?_; simp (maxSteps := 1000000) [ty69, ty4]; refine hK _ ?_; clear hK K
   (repeat refine ZQ ?_); refine ZR fun K hK => ?_; simp (maxSteps := 1000000) [ty69, ty67, ty3, keyQ, h2]; refine hK _ ?_; clear hK K
   (repeat refine ZQ ?_); refine ZR fun K hK => ?_; simp (maxSteps := 1000000) [ty69, ty42, ty3, ty4, hwg]
   refine ZP (hcall) ?_; simp (maxSteps := 1000000) [ty4, ty3]
   refine hK _ ?_; clear hK K
   (repeat refine ZQ ?_); refine awp_ret ?_; refine And.intro (Or.inr rfl) ?_
   simp [retC, resC, viewC, mapO]

set_option maxHeartbeats 4000000

-- the states of the first day, and of the next one

theorem fe150 : flatEq Tryz.prog 150 = some [.i64, .i64] := by kernel_rfl

@[simp] abbrev obS (kv : List (St × Int)) : Ob := ⟨false, false, 0, rowsS kv⟩
@[simp] abbrev obI (z : Int) : Ob := ⟨false, false, 1, [[encI z]]⟩

theorem first128 (w : Ws) (G : List (Int × List Int)) (nl : Bool) (M : List (Int × Int)) (hw : WsNum w G) : Pure Tryz.prog 113 [encCd w G nl M] (.md false (rowsS (kvS (firstL (co w G) M)))) := by
 have hg := hw.gain
 have hwg : IntKind.i64.wrap (-w.gain) = -w.gain := wrap_id (by omega) (by omega)
 obtain ⟨N, hN⟩ : ∃ N : Nat, (N : Int) = w.gain - -w.gain + 1 := ⟨(w.gain - -w.gain + 1).toNat, by omega⟩
 have hfin : firstL (co w G) M = firstN (co w G) M N := by
  unfold firstL firstN seqI
  rw [show ((co w G).gain - -(co w G).gain + 1).toNat = N by simp only; omega]
 have h0 : kvS (firstN (co w G) M 0) = [] := rfl
 have hst := fun i => firstN_step (co w G) M i
 rw [hfin]
 obtain ⟨F, hF⟩ : ∃ F : Nat → List (St × Int), ∀ i, kvS (firstN (co w G) M i) = F i := ⟨_, fun _ => rfl⟩
 simp only [hF] at h0 hst ⊢
 clear hF hfin
 refine ZF (fn := Tryz.f113) [.tmp 2] ⟨Tryz.func113, rfl, by kernel_rfl⟩ fun x hx hσ => ?_
 (repeat refine ZQ ?_); refine ZR fun K hK => ?_; simp (maxSteps := 1000000) [ty69]; refine hK _ ?_; clear hK K
 (repeat refine ZQ ?_); refine ZR fun K hK => ?_; simp (maxSteps := 1000000) [ty147]; refine hK _ ?_; clear hK K
 (repeat refine ZQ ?_); refine ZR fun K hK => ?_; simp (maxSteps := 1000000) [ty69, ty42, ty3]; refine hK _ ?_; clear hK K; (first | show AWP _ _ _ _ _ | show ∃ _, _ | skip)
 rw [hwg]
 (repeat refine ZQ ?_); refine awp_block ?_
 refine awp_loop (fun i : Nat => ⟨ofL [(1, .ptr 1 15 0 0), (3, .mp 5), (4, encI (-w.gain + i))], stoT [(1, 1, .live (obCd w G nl M)), (5, 5, .live (obS (F i)))]⟩)
  (fun i => i ≤ N) (fun i => N - i) 0 (by simp) ?_ ?_
 ·rw [h0]
  exact Zw
 ·intro i hi
  (repeat refine ZQ ?_); refine ZR fun K hK => ?_; simp (maxSteps := 1000000) [ty69, ty42, ty3]; refine hK _ ?_; clear hK K
  (repeat refine ZQ ?_); refine ZC (fun hc => ?_) (fun hc => ?_)
  ·simp at hc
   have hwr : IntKind.i64.wrap (-w.gain + (i : Int) + 1) = -w.gain + ((i + 1 : Nat) : Int) := by rw [wrap_id (by omega) (by omega)]; omega
   have hsi := hst i
   refine awp_skip ?_
   (repeat refine ZQ ?_); refine awp_block ?_
   (repeat refine ZQ ?_); refine ZR fun K hK => ?_; simp (maxSteps := 1000000) [ty69, ty3]
   refine ZP (allows139 w G nl M 0 (-w.gain + i) hg) ?_; simp (maxSteps := 1000000) [ty4]
   refine hK _ ?_; clear hK K; (first | show AWP _ _ _ _ _ | show ∃ _, _ | skip)
   cases ha : alC (co w G) M 0 (-w.gain + i)
   ·rw [ha, if_neg (by simp)] at hsi
    (repeat refine ZQ ?_); refine ZC (hc := by simp [ha]; rfl) (fun hd => ?_) (fun hd => ?_)
    ·simp [ha] at hd
    ·clear hd
     refine awp_skip ?_
     (repeat refine ZQ ?_); refine ZR fun K hK => ?_; simp (maxSteps := 1000000) [ty3, hwr]; refine hK _ ?_; clear hK K; (first | show AWP _ _ _ _ _ | show ∃ _, _ | skip)
     refine ⟨i + 1, by omega, by omega, ?_⟩
     rw [hsi]
     exact Zw
   ·rw [ha, if_pos rfl] at hsi
    (repeat refine ZQ ?_); refine ZC (hc := by simp [ha]; rfl) (fun hd => ?_) (fun hd => ?_)
    ·clear hd
     rcases find_bumpS ⟨-w.gain + i, wrG G 0 (-w.gain + i)⟩ (F i) 0 with ⟨j, n, h1, h2, h3⟩ | ⟨h1, h2⟩
     ·simp only [keyS, encI, Nat.zero_add] at h1 h2 h3
      (repeat refine ZQ ?_); refine ZD [7006] [0, 1, 2, 3, 4, 5, 6, 7, 8, 9, 10] fun K hK => ?_; simp (maxSteps := 1000000) [ty69, ty147, ty150, fe150, ty3, eqInts]
      refine ZE (wrong140 w G nl M 0 (-w.gain + i) hw.len) ?_; simp (maxSteps := 1000000) [ty69, ty147, ty150, fe150, ty3, eqInts, h1, h3]
      refine hK _ ?_; clear hK K
      (repeat refine ZQ ?_); refine ZR fun K hK => ?_; simp (maxSteps := 1000000) [ty3, hwr]; refine hK _ ?_; clear hK K; (first | show AWP _ _ _ _ _ | show ∃ _, _ | skip)
      refine ⟨i + 1, by omega, by omega, ?_⟩
      rw [hsi, h2]
      exact Zw
     ·simp only [keyS, encI, Nat.zero_add] at h1 h2
      (repeat refine ZQ ?_); refine ZD [7006] [0, 1, 2, 3, 4, 5, 6, 7, 8, 9, 10] fun K hK => ?_; simp (maxSteps := 1000000) [ty69, ty147, ty150, fe150, ty3, eqInts]
      refine ZE (wrong140 w G nl M 0 (-w.gain + i) hw.len) ?_; simp (maxSteps := 1000000) [ty69, ty147, ty150, fe150, ty3, eqInts, h1]
      refine hK _ ?_; clear hK K
      (repeat refine ZQ ?_); refine ZR fun K hK => ?_; simp (maxSteps := 1000000) [ty3, hwr]; refine hK _ ?_; clear hK K; (first | show AWP _ _ _ _ _ | show ∃ _, _ | skip)
      refine ⟨i + 1, by omega, by omega, ?_⟩
      have hw1 : IntKind.i64.wrap 1 = 1 := by decide
      rw [hsi, hw1, h2]
      exact Zw
    ·simp [ha] at hd
  ·simp at hc
   (repeat refine ZQ ?_); refine awp_exit ?_; (first | show AWP _ _ _ _ _ | show ∃ _, _ | skip)
   have hiN : i = N := by omega
   rw [hiN]
   (repeat refine ZQ ?_); refine ZR fun K hK => ?_; simp (maxSteps := 1000000) [ty147]; refine hK _ ?_; clear hK K
   (repeat refine ZQ ?_); refine awp_ret ?_; refine And.intro (Or.inr rfl) ?_
   simp [retC, resC, viewC, mapO]
   exact fun x h => List.all_eq_true.1 (rowsS_pure _) x h

end Go.Proofs.YtbelmomdndjjkaaGreat

/- 'for k, v := range m' over a map that is data, with what comes ahead of it found by itself. No condition. -/
namespace Go.Abs
section
variable {P : Program} {x : Ctx}

theorem awp_rangeMd2 {i0 b0 b1 i1 i2 : Nat} {ti tm tn tc te : Tmp} {y0 y1 y2 y3 rty kt et : TypeId} {p0 p1 p2 p3 : String} {a0 a1 a2 a3 : Array Edge} {l0 post : List Oper} {body : Code} {s : AS} {Q : Exit → AS → Prop} {nl : Bool} (R : List (List C)) (I : Value → PinM → List (List C) → AS)
  (hl0 : l0.getLast? = some ⟨some ti, .range rty (.tmp tm), y0, p0, a0, none⟩) (ht : P.underlying rty = some (.map kt et)) (hfl : ∀ row ∈ R, flatl row = true)
  (hnt0 : l0.toArray.all (inNt x.nt) = true) (hnt1 : #[(⟨some tn, .next (.tmp ti) false, y1, p1, a1, none⟩ : Oper), ⟨some tc, .extract (.tmp tn) 0, y2, p2, a2, none⟩].all (inNt x.nt) = true) (hnt2 : (⟨some te, .entry (.tmp ti), y3, p3, a3, none⟩ :: post).toArray.all (inNt x.nt) = true)
  (htm : tm < x.nt) (hI : ∀ v pm vis, (I v pm vis).env ti = .val v ∧ (I v pm vis).env tm = .mpin pm) (hn0 : tm ≠ ti) (hn1 : tn ≠ ti) (hn2 : tc ≠ ti) (hn3 : tn ≠ tm) (hn4 : tc ≠ tm)
  (hpre : ∀ K : AS → Prop, (∀ s1, s1.env tm = .md nl R → (∀ v pm, Wk x ⟨upd (upd s1.env ti (.val v)) tm (.mpin pm), s1.sto⟩ (I v pm [])) → K s1) → evalL P x.Y l0.toArray l0.dropLast s K)
  (hround : ∀ v pm vis k e, (∃ rest, (vis ++ [k, e] :: rest).Perm R) → ∀ y : Ctx, y.nt = x.nt → y.σ = x.σ → y.Y = x.Y → ∀ K : AS → Prop, (∀ s', AWP P y body s' (blockQ b1 (nextQ (fun s'' => Wk y s'' (I v pm (vis ++ [[k, e]]))) (blockQ b0 Q))) → K s') →
   evalL P y.Y (⟨some te, .entry (.tmp ti), y3, p3, a3, none⟩ :: post).toArray post ((((I v pm vis).put (some tn) (.tup [.bool true, k, e])).put (some tc) (.bool true)).put (some te) (.tup [k, e])) K)
  (hdone : ∀ v pm vis, vis.Perm R → Q .normal (((I v pm vis).put (some tn) (.tup [.bool false])).put (some tc) (.bool false))) :
  AWP P x (.seq (.region i0 l0.toArray false) (.block b0 (.loop (.seq (.region i1 #[⟨some tn, .next (.tmp ti) false, y1, p1, a1, none⟩, ⟨some tc, .extract (.tmp tn) 0, y2, p2, a2, none⟩] false) (.seq (.cond (.tmp tc) .skip (.exit b0)) (.block b1 (.seq (.region i2 (⟨some te, .entry (.tmp ti), y3, p3, a3, none⟩ :: post).toArray false) body))))))) s Q := by
 have hne : l0 ≠ [] := by rintro rfl; simp at hl0
 have hl := hl0
 rw [List.getLast?_eq_some_getLast hne] at hl
 have h := List.dropLast_concat_getLast hne
 rw [Option.some.inj hl] at h
 exact awp_rangeMd (pre := l0.dropLast) R I h.symm ht hfl hnt0 hnt1 hnt2 htm hI hn0 hn1 hn2 hn3 hn4 hpre hround hdone

end
end Go.Abs

namespace Go.Proofs.YtbelmomdndjjkaaGreat
open Go Go.Abs

set_option maxHeartbeats 4000000

/-- The state that a row is of. -/
def keyOf : List C → St
  | [.agg [.int _ a, .int _ b], _] => ⟨a, b⟩
  | _ => ⟨0, 0⟩

theorem keyOf_rows (kv : List (St × Int)) : (rowsS kv).map keyOf = kv.map (·.1) := by
 unfold rowsS; rw [List.map_map]; exact List.map_congr_left fun p _ => rfl

theorem row_of {kv : List (St × Int)} {vis rest : List (List C)} {k e : C} (h : (vis ++ [k, e] :: rest).Perm (rowsS kv)) : ∃ p ∈ kv, k = keyS p.1 ∧ e = encI p.2 := by
 have hm : [k, e] ∈ rowsS kv := h.mem_iff.1 (by simp)
 obtain ⟨p, hp, he⟩ := List.mem_map.1 hm
 simp only [rowS, List.cons.injEq, and_true] at he
 exact ⟨p, hp, he.1.symm, he.2.symm⟩

theorem rowsS_flat (kv : List (St × Int)) : ∀ row ∈ rowsS kv, flatl row = true := by
 intro row h
 obtain ⟨p, _, rfl⟩ := List.mem_map.1 h
 rfl

/-- The states of the next day, from those that a map has. -/
def outV (c : Co) (M : List (Int × Int)) (day : Int) (vis : List (List C)) : List (St × Int) := kvS (nextL c M day (vis.map keyOf))

theorem outV_nil (c : Co) (M : List (Int × Int)) (day : Int) : outV c M day [] = [] := rfl
theorem outV_app (c : Co) (M : List (Int × Int)) (day : Int) (vis : List (List C)) (row : List C) : outV c M day (vis ++ [row]) = kvS (nextL c M day (vis.map keyOf) ++ stepL c M day (keyOf row)) := by
 unfold outV nextL
 rw [List.map_append, List.flatMap_append]
 simp

theorem next129 (w : Ws) (G : List (Int × List Int)) (nl : Bool) (M : List (Int × Int)) (now : List (St × Int)) (day : Int) (hw : WsNum w G) (hnow : ∀ p ∈ now, (-50 ≤ p.1.g ∧ p.1.g ≤ 50) ∧ 0 ≤ p.1.n ∧ p.1.n ≤ 1000) :
  Pure Tryz.prog 114 [encCd w G nl M, .md false (rowsS now), encI day] (.md false (rowsS (kvS (nextL (co w G) M day (now.map (·.1)))))) := by
 have hg := hw.gain
 have hd := hw.drop
 obtain ⟨N, hN⟩ : ∃ N : Nat, (N : Int) = w.drop + 1 := ⟨(w.drop + 1).toNat, by omega⟩
 have hv0 := outV_nil (co w G) M day
 have hva := outV_app (co w G) M day
 have hfin : ∀ vis : List (List C), vis.Perm (rowsS now) → BagEq (rowsS (outV (co w G) M day vis)) (rowsS (kvS (nextL (co w G) M day (now.map (·.1))))) := fun vis hp => by
  unfold outV
  refine kvS_bag ?_
  have h := hp.map keyOf
  rw [keyOf_rows] at h
  exact h.flatMap_right _
 refine pure_ofB (fn := Tryz.f114) [.tmp 6] ⟨Tryz.func114, rfl, by kernel_rfl⟩ (by kernel_rfl) (by kernel_rfl) (by kernel_rfl) fun x hx hσ => ?_
 (repeat refine ZQ ?_); refine ZR fun K hK => ?_; simp (maxSteps := 1000000) [ty69]; refine hK _ ?_; clear hK K
 (repeat refine ZQ ?_); refine ZR fun K hK => ?_; simp (maxSteps := 1000000) [ty147]; refine hK _ ?_; clear hK K
 refine awp_seq ?_
 refine awp_rangeMd2 (nl := false) (kt := 150) (et := 3) (rowsS now) (fun v pm vis => ⟨ofL [(2, encI day), (3, .ptr 3 15 0 0), (7, .mp 10), (11, .mpin pm), (12, .val v)], stoT [(3, 3, .live (obCd w G nl M)), (10, 10, .live (obS (outV (co w G) M day vis)))]⟩)
  rfl (by kernel_rfl) (rowsS_flat now) (by rw [hx]; kernel_rfl) (by rw [hx]; kernel_rfl) (by rw [hx]; kernel_rfl) (by rw [hx]; decide) (fun v pm vis => ⟨rfl, rfl⟩) (by decide) (by decide) (by decide) (by decide) (by decide) ?_ ?_ ?_
 ·intro K hK
  simp
  refine hK _ ?_ ?_
  ·simp
  ·intro v pm
   rw [hv0]
   exact Zw
 ·intro v pm vis k e hp y hy1 hy2 hyY K hK
  obtain ⟨rest, hp⟩ := hp
  obtain ⟨p, hpn, rfl, rfl⟩ := row_of hp
  have hb := hnow p hpn
  have hx := hy1.trans hx
  have hσ := hy2.trans hσ
  simp [ty147, ty150]
  refine hK _ ?_
  clear hK K
  have hvs := hva vis [keyS p.1, encI p.2]
  have hko : keyOf [keyS p.1, encI p.2] = p.1 := rfl
  rw [hko] at hvs
  obtain ⟨L, hL⟩ : ∃ L, nextL (co w G) M day (vis.map keyOf) = L := ⟨_, rfl⟩
  have hvn : outV (co w G) M day vis = kvS L := by unfold outV; rw [hL]
  rw [hL] at hvs
  have hst := fun i => stepN_step (co w G) M day p.1 L i
  have hs0 : kvS L = kvS (L ++ stepN (co w G) M day p.1 0) := by simp [stepN, seqN]
  have hsN : kvS (L ++ stepL (co w G) M day p.1) = kvS (L ++ stepN (co w G) M day p.1 N) := by
   unfold stepL stepN seqI
   rw [show (p.1.g - (p.1.g - (co w G).drop) + 1).toNat = N by simp only; omega]
  rw [hvn, hs0]
  rw [hsN] at hvs
  rw [hvs]
  obtain ⟨F, hF⟩ : ∃ F : Nat → List (St × Int), ∀ i, kvS (L ++ stepN (co w G) M day p.1 i) = F i := ⟨_, fun _ => rfl⟩
  simp only [hF] at hst ⊢
  clear hF hsN hvs hs0 hvn hL hko hfin hva hv0
  obtain ⟨z, n⟩ := p
  obtain ⟨a, b⟩ := z
  simp only at hb hst ⊢
  have hwa : IntKind.i64.wrap (a - w.drop) = a - w.drop := wrap_id (by omega) (by omega)
  (repeat refine ZQ ?_); refine ZR fun K hK => ?_; simp (maxSteps := 1000000) [ty150, ty69, ty42, ty3, hwa]; refine hK _ ?_; clear hK K
  (repeat refine ZQ ?_); refine awp_block ?_
  refine awp_loop (fun i : Nat => ⟨ofL [(2, encI day), (3, .ptr 3 15 0 0), (7, .mp 10), (8, .ptr 8 2 0 0), (9, encI (a - w.drop + i)), (11, .mpin pm), (12, .val v)], stoT [(3, 3, .live (obCd w G nl M)), (8, 8, .live ⟨false, false, 2, [[encI a, encI b]]⟩), (10, 10, .live (obS (F i)))]⟩)
   (fun i => i ≤ N) (fun i => N - i) 0 (by simp) ?_ ?_
  ·exact Zw
  ·intro i hi
   (repeat refine ZQ ?_); refine ZR fun K hK => ?_; simp (maxSteps := 1000000) [ty150, ty3]; refine hK _ ?_; clear hK K
   (repeat refine ZQ ?_); refine ZC (fun hc => ?_) (fun hc => ?_)
   ·simp at hc
    have hwr : IntKind.i64.wrap (a - w.drop + (i : Int) + 1) = a - w.drop + ((i + 1 : Nat) : Int) := by rw [wrap_id (by omega) (by omega)]; omega
    have hsi := hst i
    refine awp_skip ?_
    (repeat refine ZQ ?_); refine awp_block ?_
    (repeat refine ZQ ?_); refine ZR fun K hK => ?_; simp (maxSteps := 1000000) [ty69, ty3]
    refine ZP (allows139 w G nl M day (a - w.drop + i) hg) ?_; simp (maxSteps := 1000000) [ty4]
    refine hK _ ?_; clear hK K; (first | show AWP _ _ _ _ _ | show ∃ _, _ | skip)
    cases ha : alC (co w G) M day (a - w.drop + i)
    ·rw [ha, if_neg (by simp)] at hsi
     (repeat refine ZQ ?_); refine ZC (hc := by simp [ha]; rfl) (fun hd => ?_) (fun hd => ?_)
     ·simp [ha] at hd
     ·clear hd
      refine awp_skip ?_
      (repeat refine ZQ ?_); refine ZR fun K hK => ?_; simp (maxSteps := 1000000) [ty3, hwr]; refine hK _ ?_; clear hK K; (first | show AWP _ _ _ _ _ | show ∃ _, _ | skip)
      refine ⟨i + 1, by omega, by omega, ?_⟩
      rw [hsi]
      exact Zw
    ·rw [ha, if_pos rfl] at hsi
     have hwb := wrG_bd G day (a - w.drop + i)
     have hws : IntKind.i64.wrap (b + wrG G day (a - w.drop + i)) = b + wrG G day (a - w.drop + i) := wrap_id (by omega) (by omega)
     (repeat refine ZQ ?_); refine ZC (hc := by simp [ha]; rfl) (fun hd => ?_) (fun hd => ?_)
     ·clear hd
      rcases find_bumpS ⟨a - w.drop + i, b + wrG G day (a - w.drop + i)⟩ (F i) 0 with ⟨j, n, h1, h2, h3⟩ | ⟨h1, h2⟩
      ·simp only [keyS, encI, Nat.zero_add] at h1 h2 h3
       (repeat refine ZQ ?_); refine ZD [7010] [0, 1, 2, 3, 4, 5, 6, 7, 8, 9, 10, 11, 12, 13, 14] fun K hK => ?_; simp (maxSteps := 1000000) [ty69, ty147, ty150, fe150, ty3, eqInts]
       refine ZE (wrong140 w G nl M day (a - w.drop + i) hw.len) ?_; simp (maxSteps := 1000000) [ty69, ty147, ty150, fe150, ty3, eqInts, hws, h1, h3]
       refine hK _ ?_; clear hK K
       (repeat refine ZQ ?_); refine ZR fun K hK => ?_; simp (maxSteps := 1000000) [ty3, hwr]; refine hK _ ?_; clear hK K; (first | show AWP _ _ _ _ _ | show ∃ _, _ | skip)
       refine ⟨i + 1, by omega, by omega, ?_⟩
       rw [hsi, h2]
       exact Zw
      ·simp only [keyS, encI, Nat.zero_add] at h1 h2
       (repeat refine ZQ ?_); refine ZD [7010] [0, 1, 2, 3, 4, 5, 6, 7, 8, 9, 10, 11, 12, 13, 14] fun K hK => ?_; simp (maxSteps := 1000000) [ty69, ty147, ty150, fe150, ty3, eqInts]
       refine ZE (wrong140 w G nl M day (a - w.drop + i) hw.len) ?_; simp (maxSteps := 1000000) [ty69, ty147, ty150, fe150, ty3, eqInts, hws, h1]
       refine hK _ ?_; clear hK K
       (repeat refine ZQ ?_); refine ZR fun K hK => ?_; simp (maxSteps := 1000000) [ty3, hwr]; refine hK _ ?_; clear hK K; (first | show AWP _ _ _ _ _ | show ∃ _, _ | skip)
       refine ⟨i + 1, by omega, by omega, ?_⟩
       have hw1 : IntKind.i64.wrap 1 = 1 := by decide
       rw [hsi, hw1, h2]
       exact Zw
     ·simp [ha] at hd
   ·simp at hc
    (repeat refine ZQ ?_); refine awp_exit ?_; (first | show AWP _ _ _ _ _ | show ∃ _, _ | skip)
    have hiN : i = N := by omega
    rw [hiN]
    exact Zw
 ·intro v pm vis hp
  have hbag := hfin vis hp
  clear hfin hva hv0
  generalize outV (co w G) M day vis = V at *
  show AWP _ _ _ _ _
  (repeat refine ZQ ?_); refine ZR fun K hK => ?_; simp (maxSteps := 1000000) [ty147]; refine hK _ ?_; clear hK K
  (repeat refine ZQ ?_); refine awp_ret ?_; refine And.intro (Or.inr rfl) ?_
  refine ⟨.mp 10, rowsS V, by simp [retC, resC], ?_, hbag⟩
  simp [viewC, mapO, C.isPure]

set_option maxHeartbeats 4000000

-- the states of the last day, the fewest wrong visits, and whether there is a truth

theorem last112 (w : Ws) (G : List (Int × List Int)) (nl : Bool) (M : List (Int × Int)) (hw : WsNum w G) : Pure Tryz.prog 83 [encCd w G nl M] (.md false (rowsS (stS (co w G) M w.last.toNat))) := by
 have hg := hw.gain
 have hl := hw.last
 obtain ⟨S, hS⟩ : ∃ S : Nat → List (St × Int), ∀ d, stS (co w G) M d = S d := ⟨_, fun _ => rfl⟩
 have hS0 : kvS (firstL (co w G) M) = S 0 := hS 0
 have hSs : ∀ d : Nat, kvS (nextL (co w G) M ((d + 1 : Nat) : Int) ((S d).map (·.1))) = S (d + 1) := fun d => by rw [← hS, ← hS]; rfl
 have hb : ∀ d : Nat, d ≤ 30 → ∀ p ∈ S d, (-50 ≤ p.1.g ∧ p.1.g ≤ 50) ∧ 0 ≤ p.1.n ∧ p.1.n ≤ 1000 := fun d hd p hp => by
  have := stS_bd (co w G) M d (x := p.1) (by rw [hS]; exact List.mem_map.2 ⟨p, hp, rfl⟩)
  simp only at this
  omega
 rw [hS]
 have hfirst := first128 w G nl M hw
 rw [hS0] at hfirst
 clear hS hS0
 obtain ⟨N, hN⟩ : ∃ N : Nat, w.last.toNat = N := ⟨_, rfl⟩
 have hN' : (N : Int) = w.last := by omega
 rw [hN]
 refine ZF (fn := Tryz.f83) [.tmp 2] ⟨Tryz.func83, rfl, by kernel_rfl⟩ fun x hx hσ => ?_
 (repeat refine ZQ ?_); refine ZR fun K hK => ?_; simp (maxSteps := 1000000) [ty69]; refine hK _ ?_; clear hK K
 (repeat refine ZQ ?_); refine ZR fun K hK => ?_; simp (maxSteps := 1000000) [ty69]
 refine ZP (hfirst) ?_; simp (maxSteps := 1000000) [ty147]
 refine hK _ ?_; clear hK K
 (repeat refine ZQ ?_); refine ZR fun K hK => ?_; simp (maxSteps := 1000000) [ty3]; refine hK _ ?_; clear hK K
 (repeat refine ZQ ?_); refine awp_block ?_
 refine awp_loop (fun i : Nat => ⟨ofL [(1, .ptr 1 15 0 0), (3, .md false (rowsS (S i))), (4, encI ((i : Int) + 1))], stoT [(1, 1, .live (obCd w G nl M))]⟩)
  (fun i => i ≤ N) (fun i => N - i) 0 (by simp) ?_ ?_
 ·exact Zw
 ·intro i hi
  (repeat refine ZQ ?_); refine ZR fun K hK => ?_; simp (maxSteps := 1000000) [ty69, ty42, ty3]; refine hK _ ?_; clear hK K
  (repeat refine ZQ ?_); refine ZC (fun hc => ?_) (fun hc => ?_)
  ·simp at hc
   have hwr : IntKind.i64.wrap ((i : Int) + 1 + 1) = ((i + 1 : Nat) : Int) + 1 := by rw [wrap_id (by omega) (by omega)]; omega
   have hn := next129 w G nl M (S i) ((i + 1 : Nat) : Int) hw (hb i (by omega))
   rw [hSs] at hn
   have hi1 : ((i + 1 : Nat) : Int) = (i : Int) + 1 := by omega
   rw [hi1] at hn
   refine awp_skip ?_
   (repeat refine ZQ ?_); refine awp_block ?_
   (repeat refine ZQ ?_); refine ZR fun K hK => ?_; simp (maxSteps := 1000000) [ty69, ty147, ty3]
   refine ZP (hn) ?_; simp (maxSteps := 1000000) [ty147]
   refine hK _ ?_; clear hK K
   (repeat refine ZQ ?_); refine ZR fun K hK => ?_; simp (maxSteps := 1000000) [ty3, hwr]; refine hK _ ?_; clear hK K; (first | show AWP _ _ _ _ _ | show ∃ _, _ | skip)
   refine ⟨i + 1, by omega, by omega, ?_⟩
   exact Zw
  ·simp at hc
   (repeat refine ZQ ?_); refine awp_exit ?_; (first | show AWP _ _ _ _ _ | show ∃ _, _ | skip)
   have hiN : i = N := by omega
   rw [hiN]
   (repeat refine ZQ ?_); refine ZR fun K hK => ?_; simp (maxSteps := 1000000) [ty147]; refine hK _ ?_; clear hK K
   (repeat refine ZQ ?_); refine awp_ret ?_; refine And.intro (Or.inr rfl) ?_
   simp [retC, resC, viewC, mapO]

/-- The least number among those states that a map has. -/
def fewV (vis : List (List C)) : Int := fewL ((vis.map keyOf).map (·.n))

theorem fewV_app (vis : List (List C)) (row : List C) : fewV (vis ++ [row]) = if fewV vis < 0 ∨ (keyOf row).n < fewV vis then (keyOf row).n else fewV vis := by
 unfold fewV
 rw [List.map_append, List.map_append]
 exact fewL_app _ _

theorem fewest80 (w : Ws) (G : List (Int × List Int)) (nl : Bool) (M : List (Int × Int)) (hw : WsNum w G) : Pure Tryz.prog 67 [encCd w G nl M] (encI (fewC (co w G) M)) := by
 have hg := hw.gain
 have hl := hw.last
 have hlast := last112 w G nl M hw
 obtain ⟨L, hL⟩ : ∃ L, stS (co w G) M w.last.toNat = L := ⟨_, rfl⟩
 have hb : ∀ p ∈ L, 0 ≤ p.1.n := fun p hp => by
  have := stS_bd (co w G) M w.last.toNat (x := p.1) (by rw [hL]; exact List.mem_map.2 ⟨p, hp, rfl⟩)
  exact this.2.1
 have hfin : ∀ vis : List (List C), vis.Perm (rowsS L) → fewV vis = fewC (co w G) M := fun vis hp => by
  unfold fewV fewC
  have h := hp.map keyOf
  rw [keyOf_rows] at h
  rw [fewL_perm (h.map (·.n))]
  ·show fewL _ = fewL ((stS (co w G) M w.last.toNat).map _)
   rw [hL, List.map_map]; rfl
  ·intro x hx
   obtain ⟨q, hq, rfl⟩ := List.mem_map.1 hx
   obtain ⟨p, hp', rfl⟩ := List.mem_map.1 (h.mem_iff.1 hq)
   exact hb p hp'
 rw [hL] at hlast
 have hv0 : fewV [] = -1 := rfl
 refine ZF (fn := Tryz.f67) [.tmp 2] ⟨Tryz.func67, rfl, by kernel_rfl⟩ fun x hx hσ => ?_
 (repeat refine ZQ ?_); refine ZR fun K hK => ?_; simp (maxSteps := 1000000) [ty69]; refine hK _ ?_; clear hK K
 (repeat refine ZQ ?_); refine ZR fun K hK => ?_; simp (maxSteps := 1000000) [ty3]; refine hK _ ?_; clear hK K
 refine awp_seq ?_
 refine awp_rangeMd2 (nl := false) (kt := 150) (et := 3) (rowsS L) (fun v pm vis => ⟨ofL [(3, encI (fewV vis)), (6, .mpin pm), (7, .val v)], stoT []⟩)
  rfl (by kernel_rfl) (rowsS_flat L) (by rw [hx]; kernel_rfl) (by rw [hx]; kernel_rfl) (by rw [hx]; kernel_rfl) (by rw [hx]; decide) (fun v pm vis => ⟨rfl, rfl⟩) (by decide) (by decide) (by decide) (by decide) (by decide) ?_ ?_ ?_
 ·intro K hK
  simp [ty69]
  refine ZP (hlast) ?_; simp (maxSteps := 1000000) [ty147]
  refine hK _ ?_ ?_
  ·simp
  ·intro v pm
   rw [hv0]
   exact Zw
 ·intro v pm vis k e hp y hy1 hy2 hyY K hK
  obtain ⟨rest, hp⟩ := hp
  obtain ⟨p, hpn, rfl, rfl⟩ := row_of hp
  have hbp := hb p hpn
  have hx := hy1.trans hx
  have hσ := hy2.trans hσ
  have hva := fewV_app vis [keyS p.1, encI p.2]
  have hko : keyOf [keyS p.1, encI p.2] = p.1 := rfl
  rw [hko] at hva
  clear hfin
  generalize hV : fewV vis = V at *
  simp [ty147, ty150]
  refine hK _ ?_
  clear hK K
  by_cases h1 : V < 0
  ·rw [if_pos (.inl h1)] at hva
   (repeat refine ZQ ?_); refine ZR fun K hK => ?_; simp (maxSteps := 1000000) [ty150, ty3, h1]; refine hK _ ?_; clear hK K
   (repeat refine ZQ ?_); refine ZC (fun hd => ?_) (fun hd => ?_)
   ·clear hd
    (repeat refine ZQ ?_); refine ZR fun K hK => ?_; simp (maxSteps := 1000000) [ty150, ty3]; refine hK _ ?_; clear hK K; (first | show AWP _ _ _ _ _ | show ∃ _, _ | skip)
    rw [hva]
    exact Zw
   ·simp at hd
  ·by_cases h2 : p.1.n < V
   ·rw [if_pos (.inr h2)] at hva
    (repeat refine ZQ ?_); refine ZR fun K hK => ?_; simp (maxSteps := 1000000) [ty150, ty3, h1, h2]; refine hK _ ?_; clear hK K
    (repeat refine ZQ ?_); refine ZC (hc := by simp [h2]; rfl) (fun hd => ?_) (fun hd => ?_)
    ·clear hd
     (repeat refine ZQ ?_); refine ZR fun K hK => ?_; simp (maxSteps := 1000000) [ty150, ty3]; refine hK _ ?_; clear hK K; (first | show AWP _ _ _ _ _ | show ∃ _, _ | skip)
     rw [hva]
     exact Zw
    ·simp [h2] at hd
   ·rw [if_neg (by rintro (h | h) <;> contradiction)] at hva
    (repeat refine ZQ ?_); refine ZR fun K hK => ?_; simp (maxSteps := 1000000) [ty150, ty3, h1, h2]; refine hK _ ?_; clear hK K
    (repeat refine ZQ ?_); refine ZC (hc := by simp [h2]; rfl) (fun hd => ?_) (fun hd => ?_)
    ·simp [h2] at hd
    ·clear hd
     refine awp_skip ?_; (first | show AWP _ _ _ _ _ | show ∃ _, _ | skip)
     rw [hva]
     exact Zw
 ·intro v pm vis hp
  have hf := hfin vis hp
  clear hfin
  rw [hf]
  show AWP _ _ _ _ _
  (repeat refine ZQ ?_); refine ZR fun K hK => ?_; simp (maxSteps := 1000000) [ty3]; refine hK _ ?_; clear hK K
  (repeat refine ZQ ?_); refine awp_ret ?_; refine And.intro (Or.inr rfl) ?_
  simp [retC, resC, viewC, mapO]

theorem can71 (w : Ws) (G : List (Int × List Int)) (nl nl' : Bool) (M M' : List (Int × Int)) (hw : WsNum w G) : Pure Tryz.prog 47 [encCd w G nl' M', .md nl (rowsK M)] (.bool (canC (co w G) M)) := by
 have hf := fewest80 w G nl M hw
 have hc : canC (co w G) M = (decide (0 ≤ fewC (co w G) M) && decide (fewC (co w G) M ≤ w.wrong)) := rfl
 rw [hc]
 generalize fewC (co w G) M = n at *
 refine ZF (fn := Tryz.f47) [.tmp 4] ⟨Tryz.func47, rfl, by kernel_rfl⟩ fun x hx hσ => ?_
 (repeat refine ZQ ?_); refine ZR fun K hK => ?_; simp (maxSteps := 1000000) [ty69]; refine hK _ ?_; clear hK K
 (repeat refine ZQ ?_); refine ZR fun K hK => ?_; simp (maxSteps := 1000000) [ty69, ty67]; refine hK _ ?_; clear hK K
 (repeat refine ZQ ?_); refine ZR fun K hK => ?_; simp (maxSteps := 1000000) [ty69]
 refine ZP (hf) ?_; simp (maxSteps := 1000000) [ty3]
 refine hK _ ?_; clear hK K; (first | show AWP _ _ _ _ _ | show ∃ _, _ | skip)
 by_cases h0 : 0 ≤ n
 ·(repeat refine ZQ ?_); refine ZR fun K hK => ?_; simp (maxSteps := 1000000) [ty69, ty42, ty3, ty4, h0]; refine hK _ ?_; clear hK K
  (repeat refine ZQ ?_); refine awp_ret ?_; refine And.intro (Or.inr rfl) ?_
  simp [retC, resC, viewC, mapO, h0]
 ·(repeat refine ZQ ?_); refine ZR fun K hK => ?_; simp (maxSteps := 1000000) [ty69, ty42, ty3, ty4, h0]; refine hK _ ?_; clear hK K
  (repeat refine ZQ ?_); refine awp_ret ?_; refine And.intro (Or.inr rfl) ?_
  simp [retC, resC, viewC, mapO, h0]

theorem on60 (w : Ws) (G : List (Int × List Int)) (nl nl' : Bool) (M M' : List (Int × Int)) (day : Int) : Pure Tryz.prog 23 [encCd w G nl' M', encI day, .md nl (rowsK M)] (.fn (.func 50) [] [.ip (cCd w G nl' M') 0, .ip [encI day] 0, .ip [.md nl (rowsK M)] 0]) := by
 refine ZF (fn := Tryz.f23) [.tmp 6] ⟨Tryz.func23, rfl, by kernel_rfl⟩ fun x hx hσ => ?_
 (repeat refine ZQ ?_); refine ZR fun K hK => ?_; simp (maxSteps := 1000000) [ty69, ty67, ty3]; refine hK _ ?_; clear hK K
 (repeat refine ZQ ?_); refine ZR fun K hK => ?_; simp (maxSteps := 1000000) [ty74]; refine hK _ ?_; clear hK K
 (repeat refine ZQ ?_); refine awp_ret ?_; refine And.intro (Or.inr rfl) ?_
 simp [retC, resC, viewC, mapO]

set_option maxHeartbeats 8000000

-- whether an instrument is valid

def okDay (w : Ws) (i : Nat) : Bool := match w.vs[i]? with
 | some v => dayB w v.day && (i == 0 || (match w.vs[i - 1]? with | some u => decide (u.day < v.day) | none => true))
 | none => true
def rangeB (w : Ws) : Bool := (decide (1 ≤ w.last) && decide (w.last ≤ 30)) && (decide (0 ≤ w.drop) && decide (w.drop ≤ 10)) && (decide (0 ≤ w.wrong) && decide (w.wrong ≤ 6)) && decide ((w.vs.length : Int) ≤ 6)
def checksW (w : Ws) : List Vs → Int
 | [] => 0
 | v :: l => if checkT (tiV w v) = 0 then checksW w l else checkT (tiV w v)
def checkW (w : Ws) : Int := if rangeB w = false ∨ (List.range w.vs.length).all (okDay w) = false then 130 else if w.vs = [] then checkT (tiN w) else checksW w w.vs

theorem okDay_zero {w : Ws} (h : 0 < w.vs.length) : okDay w 0 = dayB w w.vs[0].day := by
 unfold okDay; rw [List.getElem?_eq_getElem h]; simp
theorem okDay_succ {w : Ws} {i : Nat} (h : i + 1 < w.vs.length) : okDay w (i + 1) = (dayB w w.vs[i + 1].day && decide (w.vs[i].day < w.vs[i + 1].day)) := by
 unfold okDay; rw [List.getElem?_eq_getElem h]; simp [List.getElem?_eq_getElem (show i < w.vs.length by omega)]

theorem checksW_drop {w : Ws} {l : List Vs} : ∀ {i : Nat} (_ : i ≤ l.length), (∀ j, (h : j < l.length) → j < i → checkT (tiV w l[j]) = 0) → checksW w l = checksW w (l.drop i)
 | 0, _, _ => rfl
 | i + 1, hi, h => by
  rw [checksW_drop (i := i) (by omega) fun j hj hl => h j hj (by omega), List.drop_eq_getElem_cons (by omega : i < l.length)]
  have := h i (by omega) (by omega)
  simp only [checksW]
  rw [if_pos this]
theorem checksW_at {w : Ws} {l : List Vs} {i : Nat} (hi : i < l.length) (h : ∀ j, (h : j < l.length) → j < i → checkT (tiV w l[j]) = 0) (h1 : checkT (tiV w l[i]) ≠ 0) : checksW w l = checkT (tiV w l[i]) := by
 rw [checksW_drop (i := i) (by omega) h, List.drop_eq_getElem_cons hi]
 simp only [checksW]
 rw [if_neg h1]
theorem checksW_all {w : Ws} {l : List Vs} (h : ∀ j, (h : j < l.length) → checkT (tiV w l[j]) = 0) : checksW w l = 0 := by
 rw [checksW_drop (i := l.length) (Nat.le_refl _) fun j hj _ => h j hj]
 simp [checksW]




theorem check31 (w : Ws) (hn : WsLen w) : Pure Tryz.prog 45 [encWs w] (encI (checkW w)) := by
  have hlt := hn.vs
  refine ZF (fn := Tryz.f45) [.tmp 2] ⟨Tryz.func45, rfl, by kernel_rfl⟩ fun x hx hσ => ?_
  (repeat refine ZQ ?_); refine ZR fun K hK => ?_; simp (maxSteps := 1000000) [ty42]; refine hK _ ?_; clear hK K; (first | show AWP _ _ _ _ _ | show ∃ _, _ | skip)
  cases hb1 : (decide (1 ≤ w.last) && decide (w.last ≤ 30))
  · have hT : checkW w = 130 := by unfold checkW rangeB; rw [if_pos (.inl (by rw [hb1]; simp))]
    (repeat refine ZQ ?_); refine ZR fun K hK => ?_; simp (maxSteps := 1000000) [ty42, ty3]
    refine ZP (within74 w.last 1 30) ?_; simp (maxSteps := 1000000) [hb1, ty4]
    refine hK _ ?_; clear hK K; (first | show AWP _ _ _ _ _ | show ∃ _, _ | skip)
    · (repeat refine ZQ ?_); refine ZC (hc := by simp [hb1]; rfl) (fun hd => ?_) (fun hd => ?_)
      · clear hd
        (repeat refine ZQ ?_); refine ZR fun K hK => ?_; simp (maxSteps := 1000000); refine hK _ ?_; clear hK K
        (repeat refine ZQ ?_); refine awp_ret ?_; refine And.intro (Or.inr rfl) ?_
        simp [retC, resC, viewC, mapO, hT]
      · simp [hb1] at hd
  · cases hb2 : (decide (0 ≤ w.drop) && decide (w.drop ≤ 10))
    · have hT : checkW w = 130 := by unfold checkW rangeB; rw [if_pos (.inl (by rw [hb2]; simp))]
      (repeat refine ZQ ?_); refine ZR fun K hK => ?_; simp (maxSteps := 1000000) [ty42, ty3]
      refine ZP (within74 w.last 1 30) ?_; simp (maxSteps := 1000000) [hb1, ty4, ty42, ty3]
      refine ZP (within74 w.drop 0 10) ?_; simp (maxSteps := 1000000) [hb2, ty4, ty42, ty3]
      refine hK _ ?_; clear hK K; (first | show AWP _ _ _ _ _ | show ∃ _, _ | skip)
      · (repeat refine ZQ ?_); refine ZC (hc := by simp [hb2]; rfl) (fun hd => ?_) (fun hd => ?_)
        · clear hd
          (repeat refine ZQ ?_); refine ZR fun K hK => ?_; simp (maxSteps := 1000000); refine hK _ ?_; clear hK K
          (repeat refine ZQ ?_); refine awp_ret ?_; refine And.intro (Or.inr rfl) ?_
          simp [retC, resC, viewC, mapO, hT]
        · simp [hb2] at hd
    · cases hb3 : (decide (0 ≤ w.wrong) && decide (w.wrong ≤ 6))
      · have hT : checkW w = 130 := by unfold checkW rangeB; rw [if_pos (.inl (by rw [hb3]; simp))]
        (repeat refine ZQ ?_); refine ZR fun K hK => ?_; simp (maxSteps := 1000000) [ty42, ty3]
        refine ZP (within74 w.last 1 30) ?_; simp (maxSteps := 1000000) [hb1, ty4, ty42, ty3]
        refine ZP (within74 w.drop 0 10) ?_; simp (maxSteps := 1000000) [hb2, ty4, ty42, ty3]
        refine ZP (within74 w.wrong 0 6) ?_; simp (maxSteps := 1000000) [hb3, ty4, ty42, ty3]
        refine hK _ ?_; clear hK K; (first | show AWP _ _ _ _ _ | show ∃ _, _ | skip)
        · (repeat refine ZQ ?_); refine ZC (hc := by simp [hb3]; rfl) (fun hd => ?_) (fun hd => ?_)
          · clear hd
            (repeat refine ZQ ?_); refine ZR fun K hK => ?_; simp (maxSteps := 1000000); refine hK _ ?_; clear hK K
            (repeat refine ZQ ?_); refine awp_ret ?_; refine And.intro (Or.inr rfl) ?_
            simp [retC, resC, viewC, mapO, hT]
          · simp [hb3] at hd
      · by_cases h6 : (6 : Int) < (w.vs.length : Int)
        · have hT : checkW w = 130 := by unfold checkW rangeB; rw [if_pos (.inl (by rw [show decide ((w.vs.length : Int) ≤ 6) = false by simpa using h6]; simp))]
          (repeat refine ZQ ?_); refine ZR fun K hK => ?_; simp (maxSteps := 1000000) [ty42, ty3]
          refine ZP (within74 w.last 1 30) ?_; simp (maxSteps := 1000000) [hb1, ty4, ty42, ty3]
          refine ZP (within74 w.drop 0 10) ?_; simp (maxSteps := 1000000) [hb2, ty4, ty42, ty3]
          refine ZP (within74 w.wrong 0 6) ?_; simp (maxSteps := 1000000) [hb3, ty4, ty42, ty3, ty40, h6]
          refine hK _ ?_; clear hK K; (first | show AWP _ _ _ _ _ | show ∃ _, _ | skip)
          · (repeat refine ZQ ?_); refine ZC (hc := by simp [h6]; rfl) (fun hd => ?_) (fun hd => ?_)
            · clear hd
              (repeat refine ZQ ?_); refine ZR fun K hK => ?_; simp (maxSteps := 1000000); refine hK _ ?_; clear hK K
              (repeat refine ZQ ?_); refine awp_ret ?_; refine And.intro (Or.inr rfl) ?_
              simp [retC, resC, viewC, mapO, hT]
            · simp [h6] at hd
        · have hR : rangeB w = true := by
            unfold rangeB; rw [hb1, hb2, hb3]; simp; omega
          (repeat refine ZQ ?_); refine ZR fun K hK => ?_; simp (maxSteps := 1000000) [ty42, ty3]
          refine ZP (within74 w.last 1 30) ?_; simp (maxSteps := 1000000) [hb1, ty4, ty42, ty3]
          refine ZP (within74 w.drop 0 10) ?_; simp (maxSteps := 1000000) [hb2, ty4, ty42, ty3]
          refine ZP (within74 w.wrong 0 6) ?_; simp (maxSteps := 1000000) [hb3, ty4, ty42, ty3, ty40, h6]
          refine hK _ ?_; clear hK K
          (repeat refine ZQ ?_); refine ZC (hc := by simp [h6]; rfl) (fun hd => ?_) (fun hd => ?_)
          · simp [h6] at hd
          · clear hd
            refine awp_skip ?_
            (repeat refine ZQ ?_); refine ZR fun K hK => ?_; simp (maxSteps := 1000000) [ty42, ty40]; refine hK _ ?_; clear hK K
            (repeat refine ZQ ?_); refine awp_block ?_
            refine awp_loop (fun i : Nat => ⟨ofL [(1, .ptr 1 13 0 0), (31, sVs w.nl w.fu w.vs), (32, encI w.vs.length), (33, encI i)], stoT [(1, 1, .live (obWs w))]⟩)
              (fun i => i ≤ w.vs.length ∧ ∀ j, j < i → okDay w j = true) (fun i => w.vs.length - i) 0 (by simp) ?_ ?_
            · exact Zw
            · intro i ⟨hi, hj0⟩
              (repeat refine ZQ ?_); refine ZR fun K hK => ?_; simp (maxSteps := 1000000) [ty3]; refine hK _ ?_; clear hK K
              (repeat refine ZQ ?_); refine ZC (fun hc1 => ?_) (fun hc1 => ?_)
              · simp at hc1
                refine awp_skip ?_
                (repeat refine ZQ ?_); refine awp_block ?_
                (repeat refine ZQ ?_); refine ZR fun K hK => ?_; simp (maxSteps := 1000000) [ty40, ty39, ty3, hc1]; refine hK _ ?_; clear hK K; (first | show AWP _ _ _ _ _ | show ∃ _, _ | skip)
                cases hdb : dayB w w.vs[i].day
                · have hok : okDay w i = false := by unfold okDay; rw [List.getElem?_eq_getElem hc1]; simp [hdb]
                  unfold dayB at hdb
                  (repeat refine ZQ ?_); refine ZD [] [0, 1, 2, 3, 4, 5, 6, 7, 8, 9, 10, 11, 12, 13, 14, 15, 16, 17, 18, 19, 20, 21] fun K hK => ?_; simp (maxSteps := 1000000) [ty39, ty42, ty3]
                  refine ZE (within74 w.vs[i].day 0 w.last) ?_; simp (maxSteps := 1000000) [hdb, ty4, ty39, ty42, ty3]
                  refine hK _ ?_; clear hK K; (first | show AWP _ _ _ _ _ | show ∃ _, _ | skip)
                  · (repeat refine ZQ ?_); refine ZC (fun hd => ?_) (fun hd => ?_)
                    · clear hd
                      (repeat refine ZQ ?_); refine ZR fun K hK => ?_; simp (maxSteps := 1000000); refine hK _ ?_; clear hK K
                      (repeat refine ZQ ?_); refine awp_ret ?_; refine And.intro (Or.inr rfl) ?_
                      have hne : (List.range w.vs.length).all (okDay w) = false := List.all_eq_false.2 ⟨i, List.mem_range.2 hc1, by rw [hok]; simp⟩
                      have hT : checkW w = 130 := if_pos (.inr hne)
                      simp [retC, resC, viewC, mapO, hT]
                    · simp at hd
                · have hdb' := hdb
                  unfold dayB at hdb'
                  by_cases hi0 : i = 0
                  · subst hi0
                    have hok : okDay w 0 = true := by rw [okDay_zero hc1, hdb]
                    (repeat refine ZQ ?_); refine ZD [] [0, 1, 2, 3, 4, 5, 6, 7, 8, 9, 10, 11, 12, 13, 14, 15, 16, 17, 18, 19, 20, 21] fun K hK => ?_; simp (maxSteps := 1000000) [ty39, ty42, ty3]
                    refine ZE (within74 w.vs[0].day 0 w.last) ?_; simp (maxSteps := 1000000) [hdb', ty4, ty39, ty42, ty3]
                    refine hK _ ?_; clear hK K
                    (repeat refine ZQ ?_); refine ZC (fun hd => ?_) (fun hd => ?_)
                    · simp at hd
                    · clear hd
                      refine awp_skip ?_
                      (repeat refine ZQ ?_); refine ZR fun K hK => ?_; simp (maxSteps := 1000000) [ty3]; refine hK _ ?_; clear hK K; (first | show AWP _ _ _ _ _ | show ∃ _, _ | skip)
                      refine ⟨1, ⟨by omega, fun j h1 => by obtain rfl : j = 0 := by omega
                                                           exact hok⟩, by omega, ?_⟩
                      exact Zw
                  · obtain ⟨n, rfl⟩ : ∃ n, i = n + 1 := ⟨i - 1, by omega⟩
                    have hnl : n < w.vs.length := by omega
                    have hok := okDay_succ hc1
                    rw [hdb] at hok
                    have hw1 : IntKind.i64.wrap (n : Int) = (n : Int) := wrap_id (by omega) (by omega)
                    have hpos : (0 : Int) < ((n + 1 : Nat) : Int) := by omega
                    by_cases hlt1 : w.vs[n].day < w.vs[n + 1].day
                    · have hle : ¬ w.vs[n + 1].day ≤ w.vs[n].day := by omega
                      rw [decide_eq_true hlt1] at hok
                      (repeat refine ZQ ?_); refine ZD [] [0, 1, 2, 3, 4, 5, 6, 7, 8, 9, 10, 11, 12, 13, 14, 15, 16, 17, 18, 19, 20, 21] fun K hK => ?_; simp (maxSteps := 1000000) [ty39, ty42, ty3]
                      refine ZE (within74 w.vs[n+1].day 0 w.last) ?_; simp (maxSteps := 1000000) [hdb', ty4, ty39, ty42, ty3, ty40, hw1, hnl, hpos, hle]
                      refine hK _ ?_; clear hK K
                      (repeat refine ZQ ?_); refine ZC (hc := by simp [hle]; rfl) (fun hd => ?_) (fun hd => ?_)
                      · simp [hle] at hd
                      · clear hd
                        refine awp_skip ?_
                        (repeat refine ZQ ?_); refine ZR fun K hK => ?_; simp (maxSteps := 1000000) [ty3]; refine hK _ ?_; clear hK K; (first | show AWP _ _ _ _ _ | show ∃ _, _ | skip)
                        refine ⟨n + 1 + 1, ⟨by omega, fun j h1 => ?_⟩, by omega, ?_⟩
                        · by_cases hjn : j = n + 1
                          · subst hjn; exact hok
                          · exact hj0 j (by omega)
                        · exact Zw
                    · have hle : w.vs[n + 1].day ≤ w.vs[n].day := by omega
                      rw [decide_eq_false hlt1] at hok
                      have hok : okDay w (n + 1) = false := hok
                      obtain ⟨i, hin⟩ : ∃ i, i = n + 1 := ⟨_, rfl⟩
                      have hci : i < w.vs.length := by omega
                      rw [← hin] at hok
                      (repeat refine ZQ ?_); refine ZD [] [0, 1, 2, 3, 4, 5, 6, 7, 8, 9, 10, 11, 12, 13, 14, 15, 16, 17, 18, 19, 20, 21] fun K hK => ?_; simp (maxSteps := 1000000) [ty39, ty42, ty3]
                      refine ZE (within74 w.vs[n+1].day 0 w.last) ?_; simp (maxSteps := 1000000) [hdb', ty4, ty39, ty42, ty3, ty40, hw1, hnl, hpos, hle]
                      refine hK _ ?_; clear hK K; (first | show AWP _ _ _ _ _ | show ∃ _, _ | skip)
                      have hc1 := hci
                      (repeat refine ZQ ?_); refine ZC (hc := by simp [hle]; rfl) (fun hd => ?_) (fun hd => ?_)
                      · clear hd
                        (repeat refine ZQ ?_); refine ZR fun K hK => ?_; simp (maxSteps := 1000000); refine hK _ ?_; clear hK K
                        (repeat refine ZQ ?_); refine awp_ret ?_; refine And.intro (Or.inr rfl) ?_
                        have hne : (List.range w.vs.length).all (okDay w) = false := List.all_eq_false.2 ⟨i, List.mem_range.2 hc1, by rw [hok]; simp⟩
                        have hT : checkW w = 130 := if_pos (.inr hne)
                        simp [retC, resC, viewC, mapO, hT]
                      · simp [hle] at hd
              · simp at hc1
                · (repeat refine ZQ ?_); refine awp_exit ?_; (first | show AWP _ _ _ _ _ | show ∃ _, _ | skip)
                  have hall : (List.range w.vs.length).all (okDay w) = true := by
                    rw [List.all_eq_true]; intro j hj; exact hj0 j (by have := List.mem_range.1 hj; omega)
                  have hT : checkW w = (if w.vs = [] then checkT (tiN w) else checksW w w.vs) := by
                    unfold checkW; rw [if_neg (by rw [hR, hall]; simp)]
                  by_cases h0 : w.vs = []
                  · have h0' : (w.vs.length : Int) = 0 := by rw [h0]; rfl
                    (repeat refine ZQ ?_); refine ZR fun K hK => ?_; simp (maxSteps := 1000000) [ty42, ty40, ty3, h0']; refine hK _ ?_; clear hK K
                    (repeat refine ZQ ?_); refine ZC (hc := by simp [h0']; rfl) (fun hd => ?_) (fun hd => ?_)
                    · clear hd
                      (repeat refine ZQ ?_); refine ZR fun K hK => ?_; simp (maxSteps := 1000000) [ty42, ty39]
                      refine ZP (trialN76 w) ?_; simp (maxSteps := 1000000) [ty28]
                      refine ZP (check29 (tiN w) ⟨by simp, by simp⟩) ?_; simp (maxSteps := 1000000)
                      refine hK _ ?_; clear hK K
                      (repeat refine ZQ ?_); refine awp_ret ?_; refine And.intro (Or.inr rfl) ?_
                      simp [retC, resC, viewC, mapO, hT, h0]
                    · simp [h0'] at hd
                  · have h0' : ((w.vs.length : Int) == 0) = false := by
                      rw [beq_eq_false_iff_ne]
                      intro e; exact h0 (List.eq_nil_of_length_eq_zero (by omega))
                    (repeat refine ZQ ?_); refine ZR fun K hK => ?_; simp (maxSteps := 1000000) [ty42, ty40, ty3, h0']; refine hK _ ?_; clear hK K
                    (repeat refine ZQ ?_); refine ZC (hc := by simp [h0']; rfl) (fun hd => ?_) (fun hd => ?_)
                    · simp [h0'] at hd
                    · clear hd
                      refine awp_skip ?_
                      (repeat refine ZQ ?_); refine ZR fun K hK => ?_; simp (maxSteps := 1000000) [ty42, ty40]; refine hK _ ?_; clear hK K
                      (repeat refine ZQ ?_); refine awp_block ?_
                      refine awp_loop (fun i : Nat => ⟨ofL [(1, .ptr 1 13 0 0), (70, sVs w.nl w.fu w.vs), (71, encI w.vs.length), (72, encI i)], stoT [(1, 1, .live (obWs w))]⟩)
                        (fun i => i ≤ w.vs.length ∧ ∀ j, (h : j < w.vs.length) → j < i → checkT (tiV w w.vs[j]) = 0) (fun i => w.vs.length - i) 0 (by simp) ?_ ?_
                      · exact Zw
                      · intro i ⟨hi, hj⟩
                        (repeat refine ZQ ?_); refine ZR fun K hK => ?_; simp (maxSteps := 1000000) [ty3]; refine hK _ ?_; clear hK K
                        (repeat refine ZQ ?_); refine ZC (fun hc1 => ?_) (fun hc1 => ?_)
                        · simp at hc1
                          refine awp_skip ?_
                          (repeat refine ZQ ?_); refine awp_block ?_
                          (repeat refine ZQ ?_); refine ZR fun K hK => ?_; simp (maxSteps := 1000000) [ty40, ty39, hc1]; refine hK _ ?_; clear hK K
                          (repeat refine ZQ ?_); refine ZR fun K hK => ?_; simp (maxSteps := 1000000) [ty42, ty39]
                          refine ZP (trial76 w w.vs[i]) ?_; simp (maxSteps := 1000000) [ty28]
                          refine ZP (check29 (tiV w w.vs[i]) (hn.l _ (List.getElem_mem hc1))) ?_; simp (maxSteps := 1000000)
                          refine hK _ ?_; clear hK K
                          (repeat refine ZQ ?_); refine ZR fun K hK => ?_; simp (maxSteps := 1000000) [ty34]; refine hK _ ?_; clear hK K; (first | show AWP _ _ _ _ _ | show ∃ _, _ | skip)
                          by_cases hz : checkT (tiV w w.vs[i]) = 0
                          · (repeat refine ZQ ?_); refine ZC (hc := by simp [hz]; rfl) (fun hd => ?_) (fun hd => ?_)
                            · simp at hd
                            · clear hd
                              refine awp_skip ?_
                              (repeat refine ZQ ?_); refine ZR fun K hK => ?_; simp (maxSteps := 1000000) [ty3]; refine hK _ ?_; clear hK K; (first | show AWP _ _ _ _ _ | show ∃ _, _ | skip)
                              refine ⟨i + 1, ⟨by omega, fun j h1 h2 => ?_⟩, by omega, ?_⟩
                              · by_cases hji : j = i
                                · subst hji; assumption
                                · exact hj j h1 (by omega)
                              · exact Zw
                          · (repeat refine ZQ ?_); refine ZC (hc := by simp [hz]; rfl) (fun hd => ?_) (fun hd => ?_)
                            · clear hd
                              (repeat refine ZQ ?_); refine ZR fun K hK => ?_; simp (maxSteps := 1000000); refine hK _ ?_; clear hK K
                              (repeat refine ZQ ?_); refine awp_ret ?_; refine And.intro (Or.inr rfl) ?_
                              simp [retC, resC, viewC, mapO, hT, h0, checksW_at hc1 hj hz]
                            · simp [hz] at hd
                        · simp at hc1
                          (repeat refine ZQ ?_); refine awp_exit ?_
                          (repeat refine ZQ ?_); refine ZR fun K hK => ?_; simp (maxSteps := 1000000); refine hK _ ?_; clear hK K
                          (repeat refine ZQ ?_); refine awp_ret ?_; refine And.intro (Or.inr rfl) ?_
                          simp [retC, resC, viewC, mapO, hT, h0, checksW_all (fun j h => hj j h (by omega))]

set_option maxHeartbeats 8000000

-- the card of a valid instrument

structure WsOk (w : Ws) : Prop where
 last : 1 ≤ w.last ∧ w.last ≤ 30
 drop : 0 ≤ w.drop ∧ w.drop ≤ 10
 wrong : 0 ≤ w.wrong ∧ w.wrong ≤ 6
 len : w.vs.length ≤ 6
 day : ∀ i, (h : i < w.vs.length) → 0 ≤ w.vs[i].day ∧ w.vs[i].day ≤ w.last
 asc : ∀ i, (h : i + 1 < w.vs.length) → w.vs[i].day < w.vs[i + 1].day
 chk : ∀ v ∈ w.vs, checkT (tiV w v) = 0
 base : checkT (tiN w) = 0

theorem checksW_zero {w : Ws} : ∀ {l : List Vs}, checksW w l = 0 → ∀ v ∈ l, checkT (tiV w v) = 0
 | [], _, v, hv => by simp at hv
 | a :: l, h, v, hv => by
  unfold checksW at h
  split at h
  ·rename_i h0
   rcases List.mem_cons.1 hv with rfl | hv
   ·exact h0
   ·exact checksW_zero h v hv
  ·rename_i h0; exact absurd h h0

theorem checkT_base {w : Ws} {v : Vs} (h : checkT (tiV w v) = 0) : checkT (tiN w) = 0 := by
 have h1 := checkT_ok.1 h
 exact checkT_ok.2 ⟨h1.gain, by simp, by simp, h1.wh, by simp⟩

theorem checkW_ok {w : Ws} : checkW w = 0 ↔ WsOk w := by
 constructor
 ·intro h
  unfold checkW at h
  split at h
  ·omega
  ·rename_i h1
   simp only [not_or, Bool.not_eq_false] at h1
   obtain ⟨hr, hd⟩ := h1
   unfold rangeB at hr
   simp only [Bool.and_eq_true, decide_eq_true_eq] at hr
   have hd' : ∀ i, i < w.vs.length → okDay w i = true := fun i hi => List.all_eq_true.1 hd i (List.mem_range.2 hi)
   have hchk : ∀ v ∈ w.vs, checkT (tiV w v) = 0 := by
    split at h
    ·rename_i h0; rw [h0]; simp
    ·exact checksW_zero h
   refine ⟨hr.1.1.1, hr.1.1.2, hr.1.2, by omega, fun i hi => ?_, fun i hi => ?_, hchk, ?_⟩
   ·have h2 := hd' i hi
    cases i with
    | zero => rw [okDay_zero hi] at h2; simpa [dayB] using h2
    | succ i => rw [okDay_succ hi] at h2; simp only [dayB, Bool.and_eq_true, decide_eq_true_eq] at h2; exact h2.1
   ·have h2 := hd' (i + 1) hi
    rw [okDay_succ hi] at h2
    simp only [Bool.and_eq_true, decide_eq_true_eq] at h2; exact h2.2
   ·split at h
    ·exact h
    ·rename_i h0
     obtain ⟨v, hv⟩ := List.exists_mem_of_ne_nil _ h0
     exact checkT_base (hchk v hv)
 ·intro h
  unfold checkW
  have hr : rangeB w = true := by
   unfold rangeB
   simp only [Bool.and_eq_true, decide_eq_true_eq]
   exact ⟨⟨⟨h.last, h.drop⟩, h.wrong⟩, by have := h.len; omega⟩
  have hd : (List.range w.vs.length).all (okDay w) = true := by
   rw [List.all_eq_true]
   intro i hi
   rw [List.mem_range] at hi
   cases i with
   | zero => rw [okDay_zero hi]; simp [dayB, h.day 0 hi]
   | succ i => rw [okDay_succ hi]; simp [dayB, h.day (i + 1) hi, h.asc i hi]
  rw [if_neg (by rw [hr, hd]; simp)]
  split
  ·exact h.base
  ·exact checksW_all fun j hj => h.chk _ (List.getElem_mem hj)

theorem WsOk.lt {w : Ws} (h : WsOk w) : ∀ {i j : Nat} (_ : j < i) (hi : i < w.vs.length), (w.vs[j]'(by omega)).day < w.vs[i].day := by
 intro i j hj hi
 induction i with
 | zero => omega
 | succ i ih =>
  have h1 := h.asc i hi
  by_cases e : j = i
  ·subst e; exact h1
  ·exact Int.lt_trans (ih (by omega) (by omega)) h1

/-- The gains of each visit. -/
def glV (w : Ws) (v : Vs) : Int × List Int := (v.day, numsT Tr.area (tiV w v) true)
def gl (w : Ws) : List (Int × List Int) := w.vs.map (glV w)
def glTo (w : Ws) (i : Nat) : List (Int × List Int) := (w.vs.take i).map (glV w)

theorem glTo_step (w : Ws) {i : Nat} (hi : i < w.vs.length) : rowsG (glTo w (i + 1)) = rowsG (glTo w i) ++ [[encI w.vs[i].day, slI (numsT Tr.area (tiV w w.vs[i]) true)]] := by
 unfold glTo rowsG rowsV
 rw [List.take_succ_eq_append_getElem hi, List.map_append, List.map_append]; rfl

theorem glTo_new {w : Ws} (h : WsOk w) {i : Nat} (hi : i < w.vs.length) : findC .int (encI w.vs[i].day) (rowsG (glTo w i)) 0 = some none := by
 rcases findF slG w.vs[i].day (glTo w i) 0 with ⟨j, p, h1, _⟩ | ⟨_, h2⟩
 ·have hm := List.mem_of_find?_eq_some h1
  have he := List.find?_some h1
  obtain ⟨v, hv, rfl⟩ := List.mem_map.1 hm
  obtain ⟨n, hn, e⟩ := List.getElem_of_mem hv
  simp only [List.length_take] at hn
  rw [List.getElem_take] at e
  have := h.lt (i := i) (j := n) (by omega) hi
  rw [e] at this
  simp only [glV, beq_iff_eq] at he
  omega
 ·exact h2

theorem gl_len (w : Ws) : ∀ p ∈ gl w, p.2.length ≤ 1000000 := by
 intro p hp
 obtain ⟨v, _, rfl⟩ := List.mem_map.1 hp
 have := numsT_len Tr.area (tiV w v) true
 simp only [glV]; omega

theorem WsOk.num {w : Ws} (h : WsOk w) : WsNum w (gl w) := ⟨(checkT_ok.1 h.base).gain, h.last, h.drop, gl_len w⟩

@[simp] theorem rowsK_nil : rowsK [] = [] := rfl

@[simp] abbrev cC9 (w : Ws) (c : C) : List C := [encI w.w.full, encI w.w.read, encI w.w.slip, encI w.w.skew, encI w.w.circle, encI w.w.glow, encI w.w.ghigh, encI w.w.wrong, encI w.gain, encI w.last, encI w.drop, sVs w.nl w.fu w.vs, encI w.wrong, c, .md true []]

@[simp] abbrev cZ : List C := [encI 0, encI 0, encI 0, encI 0, encI 0, encI 0, encI 0, encI 0, encI 0, encI 0, encI 0, .sl true true [], encI 0, .md true [], .md true []]
@[simp] abbrev zCd : C := .agg cZ

theorem begin79 (w : Ws) (hn : WsLen w) (hok : WsOk w) : Pure Tryz.prog 46 [encWs w] (encCd w (gl w) true []) := by
 have hg : gl w = glTo w w.vs.length := by unfold gl glTo; rw [List.take_length]
 have hl6 := hok.len
 rw [hg]
 refine ZF (fn := Tryz.f46) [.cell 2 69] ⟨Tryz.func46, rfl, by kernel_rfl⟩ fun x hx hσ => ?_
 (repeat refine ZQ ?_); refine ZR fun K hK => ?_; simp (maxSteps := 1000000) [ty42, ty69]; refine hK _ ?_; clear hK K
 (repeat refine ZQ ?_); refine ZR fun K hK => ?_; simp (maxSteps := 1000000) [ty42, ty69, ty65, ty67]; refine hK _ ?_; clear hK K
 (repeat refine ZQ ?_); refine ZR fun K hK => ?_; simp (maxSteps := 1000000) [ty42, ty40]; refine hK _ ?_; clear hK K
 (repeat refine ZQ ?_); refine awp_block ?_
 refine awp_loop (fun i : Nat => ⟨ofL [(1, .ptr 1 13 0 0), (2, .ptr 2 15 0 0), (3, .ptr 3 15 0 0), (12, sVs w.nl w.fu w.vs), (13, encI w.vs.length), (14, encI i)], stoT [(1, 1, .live (obWs w)), (2, 2, .live ⟨false, false, 15, [cZ]⟩), (3, 3, .live ⟨false, false, 15, [cC9 w (.mp 9)]⟩), (9, 9, .live ⟨false, false, 0, rowsG (glTo w i)⟩)]⟩)
  (fun i => i ≤ w.vs.length) (fun i => w.vs.length - i) 0 (by simp) ?_ ?_
 ·have h0 : rowsG (glTo w 0) = [] := by simp [glTo, rowsG, rowsV]
  rw [h0]
  exact ZW
 ·intro i hi
  (repeat refine ZQ ?_); refine ZR fun K hK => ?_; simp (maxSteps := 1000000) [ty3]; refine hK _ ?_; clear hK K
  (repeat refine ZQ ?_); refine ZC (fun hc => ?_) (fun hc => ?_)
  ·simp at hc
   have hln := hn.l _ (List.getElem_mem hc)
   have hfn := glTo_new hok hc
   have hst := glTo_step w hc
   simp only [encI] at hfn
   have hRp := rowsG_pure (glTo w i)
   generalize rowsG (glTo w i) = R at *
   refine awp_skip ?_
   (repeat refine ZQ ?_); refine awp_block ?_
   (repeat refine ZQ ?_); refine ZR fun K hK => ?_; simp (maxSteps := 1000000) [ty40, ty39, hc]; refine hK _ ?_; clear hK K
   (repeat refine ZQ ?_); refine ZR fun K hK => ?_; simp (maxSteps := 1000000) [ty42, ty39]
   refine ZP (trial76 w w.vs[i]) ?_; simp (maxSteps := 1000000) [ty28]
   refine ZP (gains22 (tiV w w.vs[i]) hln) ?_; simp (maxSteps := 1000000)
   refine hK _ ?_; clear hK K
   (repeat refine ZQ ?_); refine ZR fun K hK => ?_; simp (maxSteps := 1000000) [ty69, ty65, ty39, ty3, keyQ, hfn]; refine hK _ ?_; clear hK K
   (repeat refine ZQ ?_); refine ZR fun K hK => ?_; simp (maxSteps := 1000000) [ty3]; refine hK _ ?_; clear hK K; (first | show AWP _ _ _ _ _ | show ∃ _, _ | skip)
   rw [wrap_id (by omega) (by omega)]
   refine ⟨i + 1, by omega, by omega, ?_⟩
   rw [hst]
   refine wk_shape (shp0 hσ (by simp) (by simp) ?_) ?_
   ·simp [SlotOk]
    exact ⟨.same (by simp [purel, C.isPure]), .same (by simp [purel, C.isPure]), .cons (by simp [mtl, mtc, mT, mH, C.isPure, purel]) (by simp) .nil, .same (by rw [List.all_append, hRp]; rfl)⟩
   ·simp [mtc, mtl, mT, C.isPure, purel]
  ·simp at hc
   (repeat refine ZQ ?_); refine awp_exit ?_; (first | show AWP _ _ _ _ _ | show ∃ _, _ | skip)
   have hiN : i = w.vs.length := by omega
   rw [hiN]
   refine AWP.weak ?_ (wk_frzCell 9 3 0 13 (o := ⟨false, false, 0, rowsG (glTo w w.vs.length)⟩) (oq := ⟨false, false, 15, [cC9 w (.mp 9)]⟩) (row := cC9 w (.mp 9)) (c := .mp 9) (c' := .md false (rowsG (glTo w w.vs.length))) (by simp) (rowsG_pure _) (by simp) (by decide) rfl rfl rfl (fz_mp rfl rfl) rfl)
   (repeat refine ZQ ?_); refine ZR fun K hK => ?_; simp (maxSteps := 1000000) [ty69]; refine hK _ ?_; clear hK K
   (repeat refine ZQ ?_); refine awp_ret ?_; refine And.intro (Or.inr rfl) ?_
   simp [retC, resC, viewC, mapO, ty69]

def openW (w : Ws) (is : Bool) : Int := if checkW w ≠ 0 then checkW w else if is = false then 1 else if canC (co w (gl w)) [] = false then 3 else 0

theorem openW_ok {w : Ws} {is : Bool} (h : openW w is = 0) : WsOk w ∧ is = true ∧ canC (co w (gl w)) [] = true := by
 unfold openW at h
 split at h
 ·contradiction
 ·rename_i h1
  split at h
  ·omega
  ·rename_i h2
   split at h
   ·omega
   ·rename_i h3
    exact ⟨checkW_ok.1 (Classical.byContradiction fun e => h1 e), by simpa using h2, by simpa using h3⟩



theorem open57 (w : Ws) (is : Bool) (hn : WsLen w) : Pure Tryz.prog 20 [encWs w, .bool is] (.tup [if openW w is = 0 then encCd w (gl w) true [] else zCd, encI (openW w is)]) := by
 refine ZF (fn := Tryz.f20) [.cell 4 69, .tmp 5] ⟨Tryz.func20, rfl, by kernel_rfl⟩ fun x hx hσ => ?_
 (repeat refine ZQ ?_); refine ZR fun K hK => ?_; simp (maxSteps := 1000000) [ty42, ty69, ty34]; refine hK _ ?_; clear hK K
 (repeat refine ZQ ?_); refine ZR fun K hK => ?_; simp (maxSteps := 1000000) [ty42]
 refine ZP (check31 w hn) ?_; simp (maxSteps := 1000000)
 refine hK _ ?_; clear hK K
 (repeat refine ZQ ?_); refine ZR fun K hK => ?_; simp (maxSteps := 1000000) [ty34]; refine hK _ ?_; clear hK K; (first | show AWP _ _ _ _ _ | show ∃ _, _ | skip)
 by_cases hz : checkW w = 0
 ·have hok := checkW_ok.1 hz
  (repeat refine ZQ ?_); refine ZC (hc := by simp [hz]; rfl) (fun hd => ?_) (fun hd => ?_)
  ·simp at hd
  ·clear hd
   refine awp_skip ?_
   (repeat refine ZQ ?_); refine ZR fun K hK => ?_; simp (maxSteps := 1000000); refine hK _ ?_; clear hK K; (first | show AWP _ _ _ _ _ | show ∃ _, _ | skip)
   cases is
   ·(repeat refine ZQ ?_); refine ZC (fun hd => ?_) (fun hd => ?_)
    ·clear hd
     (repeat refine ZQ ?_); refine ZR fun K hK => ?_; simp (maxSteps := 1000000) [ty69, ty34]; refine hK _ ?_; clear hK K
     (repeat refine ZQ ?_); refine awp_ret ?_; refine And.intro (Or.inr rfl) ?_
     simp [retC, resC, viewC, mapO, ty69, ty34, openW, hz]
    ·simp at hd
   ·(repeat refine ZQ ?_); refine ZC (fun hd => ?_) (fun hd => ?_)
    ·simp at hd
    ·clear hd
     refine awp_skip ?_; (first | show AWP _ _ _ _ _ | show ∃ _, _ | skip)
     have hcan := can71 w (gl w) true true [] [] hok.num
     simp only [rowsK_nil] at hcan
     (repeat refine ZQ ?_); refine ZR fun K hK => ?_; simp (maxSteps := 1000000) [ty42]
     refine ZP (begin79 w hn hok) ?_; simp (maxSteps := 1000000) [ty69]
     refine hK _ ?_; clear hK K; (first | show AWP _ _ _ _ _ | show ∃ _, _ | skip)
     cases hcb : canC (co w (gl w)) []
     ·rw [hcb] at hcan
      (repeat refine ZQ ?_); refine ZR fun K hK => ?_; simp (maxSteps := 1000000) [ty69, ty67, ty4]
      refine ZP (hcan) ?_; simp (maxSteps := 1000000) [ty4]
      refine hK _ ?_; clear hK K
      (repeat refine ZQ ?_); refine ZC (fun hd => ?_) (fun hd => ?_)
      ·clear hd
       (repeat refine ZQ ?_); refine ZR fun K hK => ?_; simp (maxSteps := 1000000) [ty69, ty34]; refine hK _ ?_; clear hK K
       (repeat refine ZQ ?_); refine awp_ret ?_; refine And.intro (Or.inr rfl) ?_
       simp [retC, resC, viewC, mapO, ty69, ty34, openW, hz, hcb]
      ·simp at hd
     ·rw [hcb] at hcan
      (repeat refine ZQ ?_); refine ZR fun K hK => ?_; simp (maxSteps := 1000000) [ty69, ty67, ty4]
      refine ZP (hcan) ?_; simp (maxSteps := 1000000) [ty4]
      refine hK _ ?_; clear hK K
      (repeat refine ZQ ?_); refine ZC (fun hd => ?_) (fun hd => ?_)
      ·simp at hd
      ·clear hd
       refine awp_skip ?_
       (repeat refine ZQ ?_); refine ZR fun K hK => ?_; simp (maxSteps := 1000000) [ty69, ty34]; refine hK _ ?_; clear hK K
       (repeat refine ZQ ?_); refine awp_ret ?_; refine And.intro (Or.inr rfl) ?_
       simp [retC, resC, viewC, mapO, ty69, ty34, openW, hz, hcb]
 ·(repeat refine ZQ ?_); refine ZC (hc := by simp [hz]; rfl) (fun hd => ?_) (fun hd => ?_)
  ·clear hd
   (repeat refine ZQ ?_); refine ZR fun K hK => ?_; simp (maxSteps := 1000000) [ty69, ty34]; refine hK _ ?_; clear hK K
   (repeat refine ZQ ?_); refine awp_ret ?_; refine And.intro (Or.inr rfl) ?_
   simp [retC, resC, viewC, mapO, ty69, ty34, openW, hz]
  ·simp [hz] at hd

set_option maxHeartbeats 4000000

-- the iterator over all gains of a day

@[simp] abbrev itI (L : List Int) : List (List C) := L.map cI
theorem itI_get {L : List Int} {i : Nat} {args : List C} (h : (itI L)[i]? = some args) : ∃ t, L[i]? = some t ∧ args = [encI t] := by
 simp only [List.getElem?_map, Option.map_eq_some_iff] at h
 obtain ⟨t, h1, h2⟩ := h
 exact ⟨t, h1, h2.symm⟩

theorem rowsK_flat (M : List (Int × Int)) : ∀ row ∈ rowsK M, flatl row = true := by
 intro row h
 obtain ⟨p, _, rfl⟩ := List.mem_map.1 h
 rfl

/-- What is own, and whether it clashes, where the known gains have been looked at or not. -/
def ownV (day g : Int) (M : List (Int × Int)) (vis : List (List C)) : List (Int × Int) := if vis = [] then [(day, g)] else ownC day g M
def clashV (day g : Int) (M : List (Int × Int)) (vis : List (List C)) : Bool := if vis = [] then false else clashB day g M


theorem on98 (w : Ws) (G : List (Int × List Int)) (nl nl' : Bool) (M M' : List (Int × Int)) (day : Int) (hw : WsNum w G) (hM : M.length ≤ 1) :
    ItC Tryz.prog 1000000 50 [] [.ip (cCd w G nl' M') 0, .ip [encI day] 0, .ip [.md nl (rowsK M)] 0] (itI (onC (co w G) day M)) := by
  have hg := hw.gain
  have hwg : IntKind.i64.wrap (-w.gain) = -w.gain := wrap_id (by omega) (by omega)
  obtain ⟨N, hN⟩ : ∃ N : Nat, (w.gain - -w.gain + 1).toNat = N := ⟨_, rfl⟩
  have hN' : (N : Int) = w.gain - -w.gain + 1 := by omega
  obtain ⟨p, hp⟩ : ∃ p : Int → Bool, p = onB (co w G) day M := ⟨_, rfl⟩
  obtain ⟨L, hL⟩ : ∃ L, seqI (-w.gain) w.gain = L := ⟨_, rfl⟩
  have hlen : L.length = N := by rw [← hL]; unfold seqI; rw [seqN_len, hN]
  have hget : ∀ i (h : i < L.length), L[i] = -w.gain + (i : Nat) := fun i h => by
    subst hL; simp [seqI, seqN]
  have hon : onC (co w G) day M = L.filter p := by unfold onC; rw [← hL, ← hp]
  rw [hon]
  refine it_of (fn := Tryz.f50) [] ⟨Tryz.func50, rfl, by kernel_rfl⟩ (by kernel_rfl) (by kernel_rfl) (by kernel_rfl) fun x hx q ks fam stop hrnd hstop hfam hσ hY => ?_; rw [stg_hiS hfam]
  rw [show (itI (L.filter p)).length = (L.filter p).length by simp] at hstop ⊢
  have hgetS : ∀ i (h : i < L.length), p (-w.gain + (i : Nat)) = true → (itI (L.filter p))[(L.take i).countP p]? = some [encI (-w.gain + (i : Nat))] := fun i h hb => by
    rw [← hget i h] at hb ⊢
    have := filter_get p h hb
    simp [this]
  have hstep0 : ∀ i (h : i < L.length), (L.take (i + 1)).countP p = (L.take i).countP p + if p (-w.gain + (i : Nat)) then 1 else 0 := fun i h => by
    have := count_step p h
    rw [hget i h] at this
    exact this
  have hfull : (L.take L.length).countP p = (L.filter p).length := by
    rw [List.take_length, List.countP_eq_length_filter]
  have hmono := fun i => count_mono p L (a := i) (b := L.length)
  obtain ⟨j, hj⟩ : ∃ j : Nat → Nat, ∀ i, (L.take i).countP p = j i := ⟨_, fun _ => rfl⟩
  have hj0 : j 0 = 0 := by rw [← hj]; simp
  simp only [hj] at hgetS hstep0 hfull hmono
  rw [hlen] at hgetS hstep0 hfull hmono
  (repeat refine ZQ ?_); refine ZR fun K hK => ?_; simp (maxSteps := 1000000) [ty69, ty42, ty3]; refine hK _ ?_; clear hK K; (first | show AWP _ _ _ _ _ | show ∃ _, _ | skip)
  rw [hwg]
  (repeat refine ZQ ?_); refine awp_block ?_
  refine awp_loop (fun i : Nat => ⟨ofL [(0, .fn (.yield q) [] []), (1, .ip (cCd w G nl' M') 0), (2, .ip [encI day] 0), (3, .ip [.md nl (rowsK M)] 0), (5, encI (-w.gain + (i : Nat)))], hiS 1000000 (stoT []) (stg 1000000 fam stop (j i))⟩)
    (fun i => i ≤ N ∧ j i ≤ stop) (fun i => N - i) 0 ⟨Nat.zero_le _, by rw [hj0]; omega⟩ ?_ ?_
  · rw [hj0]
    refine wk_shapeH hfam ?_ (by simp) (by simp) (by simp) ?_ (hx_stg hfam hσ) ?_
    · intro k hk
      have hne : ∀ n : Nat, n < 1000 → k ≠ n := fun n hn => by omega
      simp [upd, hk, hne]
    · simp [SlotOk] <;> (repeat' (first | exact .same (by simp [purel, C.isPure]) | exact .cons (by simp [mtl, mtc, mT, mH, C.isPure, purel]) (by simp) .nil | refine And.intro ?_ ?_))
    · simp [mtc, mtl, mH, mT, C.isPure, purel] <;> (try simp (disch := omega) [wrap_id]) <;> (try omega)
  · intro i ⟨hi, hst⟩
    (repeat refine ZQ ?_); refine ZR fun K hK => ?_; simp (maxSteps := 1000000) [ty69, ty42, ty3]; refine hK _ ?_; clear hK K
    (repeat refine ZQ ?_); refine ZC (fun hc => ?_) (fun hc => ?_)
    · simp at hc
      have hiN : i < N := by omega
      have hji := hstep0 i hiN
      have hgs := hgetS i hiN
      have hwr : IntKind.i64.wrap (-w.gain + (i : Int) + 1) = -w.gain + ((i + 1 : Nat) : Int) := by rw [wrap_id (by omega) (by omega)]; omega
      obtain ⟨g, hgi⟩ : ∃ g, -w.gain + (i : Int) = g := ⟨_, rfl⟩
      rw [hgi] at hji hgs hwr
      simp only [hgi]
      have hb : p g = onB (co w G) day M g := by rw [hp]
      rw [hb] at hji hgs
      clear hget hon hgetS hstep0 hb
      have hov0 : ownV day g M [] = [(day, g)] := if_pos rfl
      have hcv0 : clashV day g M [] = false := if_pos rfl
      have hovn : ∀ vis : List (List C), vis.Perm (rowsK M) → ownV day g M vis = ownC day g M ∧ clashV day g M vis = clashB day g M := fun vis hp => by
        match M, hM with
        | [], _ =>
          rw [List.perm_nil.1 hp]
          exact ⟨rfl, rfl⟩
        | [m], _ =>
          have hne : vis ≠ [] := by rintro rfl; have := hp.length_eq; simp [rowsK, rowsV] at this
          exact ⟨if_neg hne, if_neg hne⟩
      refine awp_skip ?_
      (repeat refine ZQ ?_); refine awp_block ?_
      (repeat refine ZQ ?_); refine ZR fun K hK => ?_; simp (maxSteps := 1000000) [ty67, ty3]; refine hK _ ?_; clear hK K
      (repeat refine ZQ ?_); refine ZR fun K hK => ?_; simp (maxSteps := 1000000) [ty4]; refine hK _ ?_; clear hK K
      refine awp_seq ?_
      refine awp_rangeMd2 (nl := nl) (kt := 3) (et := 3) (rowsK M) (fun v pm vis => ⟨ofL [(0, .fn (.yield q) [] []), (1, .ip (cCd w G nl' M') 0), (2, .ip [encI day] 0), (3, .ip [.md nl (rowsK M)] 0), (5, encI g), (6, .mp 21), (7, .bool (clashV day g M vis)), (25, .mpin pm), (26, .val v)], hiS 1000000 (stoT [(21, 21, .live ⟨false, false, 0, rowsK (ownV day g M vis)⟩)]) (stg 1000000 fam stop (j i))⟩)
        rfl (by kernel_rfl) (rowsK_flat M) (by rw [hx]; kernel_rfl) (by rw [hx]; kernel_rfl) (by rw [hx]; kernel_rfl) (by rw [hx]; decide) (fun v pm vis => ⟨rfl, rfl⟩) (by decide) (by decide) (by decide) (by decide) (by decide) ?_ ?_ ?_
      · intro K hK
        simp [ty67]
        refine hK _ ?_ ?_
        · simp
        · intro v pm
          rw [hov0, hcv0]
          refine wk_shapeH hfam ?_ (by simp) (by simp) (by simp) ?_ (hx_stg hfam hσ) ?_
          · intro k hk
            have hne : ∀ n : Nat, n < 1000 → k ≠ n := fun n hn => by omega
            simp [upd, hk, hne]
          · simp [SlotOk] <;> (repeat' (first | exact .same (by simp [purel, C.isPure]) | exact .cons (by simp [mtl, mtc, mT, mH, C.isPure, purel]) (by simp) .nil | refine And.intro ?_ ?_))
          · simp [mtc, mtl, mH, mT, C.isPure, purel, rowsK, rowsV] <;> (try simp (disch := omega) [wrap_id]) <;> (try omega)
      · intro v pm vis k e hp y hy1 hy2 hyY K hK
        obtain ⟨rest, hp⟩ := hp
        obtain ⟨a, n, hMa, rfl, rfl, rfl⟩ : ∃ a n, M = [(a, n)] ∧ vis = [] ∧ k = encI a ∧ e = encI n := by
          have hlen := hp.length_eq
          match M, hM with
          | [], _ => simp [rowsK, rowsV] at hlen
          | [m], _ =>
            simp [rowsK, rowsV] at hlen
            have hv : vis = [] := List.eq_nil_of_length_eq_zero (by omega)
            subst hv
            have hm : [k, e] ∈ rowsK [m] := hp.mem_iff.1 (by simp)
            simp [rowsK, rowsV] at hm
            exact ⟨m.1, m.2, rfl, rfl, hm.1, hm.2⟩
        have hx := hy1.trans hx
        have hσ := hy2.trans hσ
        have hovn1 := hovn [[encI a, encI n]] (by rw [hMa]; exact List.Perm.refl _)
        have hvs : ([] : List (List C)) ++ [[encI a, encI n]] = [[encI a, encI n]] := rfl
        rw [hov0, hcv0]
        rw [hvs, hovn1.1, hovn1.2, hMa] at hK
        have hoc : ownC day g [(a, n)] = setK [(day, g)] a n := rfl
        have hcc : clashB day g [(a, n)] = (a == day && n != g) := by simp [clashB]
        rw [hoc, hcc] at hK
        clear hovn hovn1 hvs hoc hcc hov0 hcv0
        simp
        refine hK _ ?_
        clear hK K
        have hrr : rowsK [(day, g)] = [[encI day, encI g]] := rfl
        rw [hrr]
        by_cases had : a = day
        · subst had
          have hsr : rowsK (setK [(a, g)] a n) = [[encI a, encI n]] := by simp [setK, rowsK, rowsV]
          rw [hsr]
          (repeat refine ZQ ?_); refine ZR fun K hK => ?_; simp (maxSteps := 1000000) [ty3, ty4]; refine hK _ ?_; clear hK K
          (repeat refine ZQ ?_); refine ZR fun K hK => ?_; simp (maxSteps := 1000000) [ty67, ty3, keyQ, findC, sameC]; refine hK _ ?_; clear hK K; (first | show AWP _ _ _ _ _ | show ∃ _, _ | skip)
          refine wk_shapeH hfam ?_ (by simp) (by simp) (by simp) ?_ (hx_stg hfam hσ) ?_
          · intro k hk
            have hne : ∀ n : Nat, n < 1000 → k ≠ n := fun n hn => by omega
            simp [upd, hk, hne]
          · simp [SlotOk] <;> (repeat' (first | exact .same (by simp [purel, C.isPure]) | exact .cons (by simp [mtl, mtc, mT, mH, C.isPure, purel]) (by simp) .nil | refine And.intro ?_ ?_))
          · simp [mtc, mtl, mH, mT, C.isPure, purel, hMa] <;> (try simp (disch := omega) [wrap_id]) <;> (try omega)
        · have hsr : rowsK (setK [(day, g)] a n) = [[encI day, encI g], [encI a, encI n]] := by simp [setK, rowsK, rowsV, had]
          have had' : (a == day) = false := by simpa using had
          rw [hsr]
          (repeat refine ZQ ?_); refine ZR fun K hK => ?_; simp (maxSteps := 1000000) [ty3, ty4, had']; refine hK _ ?_; clear hK K
          (repeat refine ZQ ?_); refine ZR fun K hK => ?_; simp (maxSteps := 1000000) [ty67, ty3, keyQ, findC, sameC, had']; refine hK _ ?_; clear hK K; (first | show AWP _ _ _ _ _ | show ∃ _, _ | skip)
          refine wk_shapeH hfam ?_ (by simp) (by simp) (by simp) ?_ (hx_stg hfam hσ) ?_
          · intro k hk
            have hne : ∀ n : Nat, n < 1000 → k ≠ n := fun n hn => by omega
            simp [upd, hk, hne]
          · simp [SlotOk] <;> (repeat' (first | exact .same (by simp [purel, C.isPure]) | exact .cons (by simp [mtl, mtc, mT, mH, C.isPure, purel]) (by simp) .nil | refine And.intro ?_ ?_))
          · simp [mtc, mtl, mH, mT, C.isPure, purel, had', hMa] <;> (try simp (disch := omega) [wrap_id]) <;> (try omega)
      · intro v pm vis hp
        obtain ⟨h1, h2⟩ := hovn vis hp
        rw [h1, h2]
        clear hovn hov0 hcv0 h1 h2 hp
        show AWP _ _ _ _ _
        have hcan := can71 w G false nl' (ownC day g M) M' hw
        have hbb : onB (co w G) day M g = (!clashB day g M && canC (co w G) (ownC day g M)) := rfl
        rw [hbb] at hji hgs
        generalize ownC day g M = own at *
        cases hcl : clashB day g M
        · rw [hcl] at hji hgs
          simp only [Bool.not_false, Bool.true_and] at hji hgs
          refine AWP.weak ?_ (wk_frz 6 21 (o := ⟨false, false, 0, rowsK own⟩) (c := .md false (rowsK own)) (by simp) (rowsK_pure _) (fz_mp rfl rfl))
          cases hcb : canC (co w G) own
          · rw [hcb] at hji hcan
            (repeat refine ZQ ?_); refine ZR fun K hK => ?_; simp (maxSteps := 1000000) [ty69, ty67, ty3, ty4]
            refine ZP (hcan) ?_; simp (maxSteps := 1000000) [ty4]
            refine hK _ ?_; clear hK K
            (repeat refine ZQ ?_); refine ZC (fun hd => ?_) (fun hd => ?_)
            · simp at hd
            · clear hd
              refine awp_skip ?_
              (repeat refine ZQ ?_); refine ZR fun K hK => ?_; simp (maxSteps := 1000000) [ty3, hwr]; refine hK _ ?_; clear hK K; (first | show AWP _ _ _ _ _ | show ∃ _, _ | skip)
              simp at hji
              refine ⟨i + 1, ⟨by omega, by omega⟩, by omega, ?_⟩
              rw [hji]
              refine wk_shapeH hfam ?_ (by simp) (by simp) (by simp) ?_ (hx_stg hfam hσ) ?_
              · intro k hk
                have hne : ∀ n : Nat, n < 1000 → k ≠ n := fun n hn => by omega
                simp [upd, hk, hne]
              · simp [SlotOk] <;> (repeat' (first | exact .same (by simp [purel, C.isPure]) | exact .cons (by simp [mtl, mtc, mT, mH, C.isPure, purel]) (by simp) .nil | refine And.intro ?_ ?_))
              · simp [mtc, mtl, mH, mT, C.isPure, purel] <;> (try simp (disch := omega) [wrap_id]) <;> (try omega)
          · rw [hcb] at hji hcan
            simp at hji
            (repeat refine ZQ ?_); refine ZR fun K hK => ?_; simp (maxSteps := 1000000) [ty69, ty67, ty3, ty4]
            refine ZP (hcan) ?_; simp (maxSteps := 1000000) [ty4]
            refine yieldL hY hst (hgs hcb) (by intro k hk; have hne : ∀ n : Nat, n < 1000 → k ≠ n := fun n hn => by omega
                                               simp [upd, hk, hne]) ?_
            simp [ty4]
            refine hK _ ?_; clear hK K
            (repeat refine ZQ ?_); refine ZC (fun hd => ?_) (fun hd => ?_)
            · simp at hd
              (repeat refine ZQ ?_); refine awp_ret ?_; refine And.intro (Or.inr rfl) ?_
              refine ⟨⟨_, rfl⟩, ?_⟩
              have : finI stop (L.filter p).length = j i + 1 := by
                have := hmono (i + 1)
                unfold finI; rw [if_pos (by omega)]; omega
              rw [this]
              exact wk_endH hfam hσ (fun k hk => by show (if 1000000 ≤ k then _ else _) = _; rw [if_pos hk])
            · simp at hd
              refine awp_skip ?_
              (repeat refine ZQ ?_); refine ZR fun K hK => ?_; simp (maxSteps := 1000000) [ty3, hwr]; refine hK _ ?_; clear hK K; (first | show AWP _ _ _ _ _ | show ∃ _, _ | skip)
              refine ⟨i + 1, ⟨by omega, by omega⟩, by omega, ?_⟩
              rw [hji]
              refine wk_shapeH hfam ?_ (by simp) (by simp) (by simp) ?_ (hx_stg hfam hσ) ?_
              · intro k hk
                have hne : ∀ n : Nat, n < 1000 → k ≠ n := fun n hn => by omega
                simp [upd, hk, hne]
              · simp [SlotOk] <;> (repeat' (first | exact .same (by simp [purel, C.isPure]) | exact .cons (by simp [mtl, mtc, mT, mH, C.isPure, purel]) (by simp) .nil | refine And.intro ?_ ?_))
              · simp [mtc, mtl, mH, mT, C.isPure, purel] <;> (try simp (disch := omega) [wrap_id]) <;> (try omega)
        · rw [hcl] at hji
          simp at hji
          (repeat refine ZQ ?_); refine ZR fun K hK => ?_; simp (maxSteps := 1000000) [ty69, ty67, ty3, ty4]; refine hK _ ?_; clear hK K
          (repeat refine ZQ ?_); refine ZC (fun hd => ?_) (fun hd => ?_)
          · simp at hd
          · clear hd
            refine awp_skip ?_
            (repeat refine ZQ ?_); refine ZR fun K hK => ?_; simp (maxSteps := 1000000) [ty3, hwr]; refine hK _ ?_; clear hK K; (first | show AWP _ _ _ _ _ | show ∃ _, _ | skip)
            refine ⟨i + 1, ⟨by omega, by omega⟩, by omega, ?_⟩
            rw [hji]
            refine wk_shapeH hfam ?_ (by simp) (by simp) (by simp) ?_ (hx_stg hfam hσ) ?_
            · intro k hk
              have hne : ∀ n : Nat, n < 1000 → k ≠ n := fun n hn => by omega
              simp [upd, hk, hne]
            · simp [SlotOk] <;> (repeat' (first | exact .same (by simp [purel, C.isPure]) | exact .cons (by simp [mtl, mtc, mT, mH, C.isPure, purel]) (by simp) .nil | refine And.intro ?_ ?_))
            · simp [mtc, mtl, mH, mT, C.isPure, purel] <;> (try simp (disch := omega) [wrap_id]) <;> (try omega)
    · simp at hc
      (repeat refine ZQ ?_); refine awp_exit ?_; (first | show AWP _ _ _ _ _ | show ∃ _, _ | skip)
      have hin : i = N := by omega
      refine ⟨by simp, ⟨_, rfl⟩, ?_⟩
      have : finI stop (L.filter p).length = j i := by
        rw [hin, hfull]
        unfold finI; rw [hin, hfull] at hst; rw [if_neg (by omega)]
      rw [this]
      exact wk_endH hfam hσ (fun k hk => by show (if 1000000 ≤ k then _ else _) = _; rw [if_pos hk])
set_option maxHeartbeats 4000000

-- numbers that an iterator yields, as a slice

noncomputable def apC (N i : Nat) : C := if i = 0 ∨ N < i then .sl true true [] else .own (fk (i - 1)) 1 0 i
def apSl (L : List Int) (i e : Nat) : Slot := if e + 1 = i then .live ⟨false, false, 1, (L.take i).map cI⟩ else if e + 1 < i then .dead else .gh

theorem apC_zero (N : Nat) : apC N 0 = .sl true true [] := if_pos (.inl rfl)
theorem apC_succ {N i : Nat} (h : i < N) : apC N (i + 1) = .own (fk i) 1 0 (i + 1) := by
 unfold apC; rw [if_neg (by omega)]; rfl
theorem apC_cell (N i : Nat) : C.cell (apC N i) = true := by unfold apC; split <;> rfl
theorem ints_pure (L : List Int) : (L.map cI).all purel = true := all_purel_map fun _ => rfl
theorem ints_wil (K : List Nat) (L : List Int) : (L.map cI).all (wil K) = true := by
 rw [List.all_eq_true]; intro r hr; obtain ⟨z, _, rfl⟩ := List.mem_map.1 hr; rfl
theorem ints_cell (L : List Int) : (L.map cI).all (fun r => r.all C.cell) = true := by
 rw [List.all_eq_true]; intro r hr; obtain ⟨z, _, rfl⟩ := List.mem_map.1 hr; rfl

theorem apSl_ok {K : List Nat} (L : List Int) (i e : Nat) : apSl L i e ≠ .free ∧ ∀ o, apSl L i e = .live o → o.rows.all (wil K) = true ∧ o.rows.all (fun r => r.all C.cell) = true := by
 unfold apSl
 split
 ·refine ⟨by simp, fun o ho => ?_⟩
  cases ho
  exact ⟨ints_wil _ _, ints_cell _⟩
 ·split <;> exact ⟨by simp, fun o ho => by cases ho⟩

theorem apSl_next {m : Nat → Nat → Prop} (L : List Int) {i e : Nat} (he : e ≠ i) : SlotOk m (apSl L i e) (apSl L (i + 1) e) := by
 unfold apSl
 by_cases h1 : e + 1 = i
 ·rw [if_pos h1, if_neg (by omega), if_pos (by omega)]; trivial
 ·rw [if_neg h1]
  by_cases h2 : e + 1 < i
  ·rw [if_pos h2, if_neg (by omega), if_pos (by omega)]; trivial
  ·rw [if_neg h2, if_neg (by omega), if_neg (by omega)]; rfl

theorem take_ints (L : List Int) {i : Nat} (hi : i < L.length) : (L.take (i + 1)).map cI = (L.take i).map cI ++ [[encI L[i]]] := by
 rw [List.take_succ_eq_append_getElem hi, List.map_append]; rfl

@[simp] noncomputable abbrev Ta (N i : Nat) : List (Nat × Nat × Slot) := [(1000002, 1000002, .live (o1 (apC N i)))]

theorem appendSeq99 (g : FuncId) (first caps : List C) (L : List Int) (hp1 : purel first = true) (hp2 : purel caps = true) (hit : ItC Tryz.prog 1000000 g first caps (itI L)) (hn : L.length ≤ 1000000) :
  Pure Tryz.prog 49 [.sl true true [], .fn (.func g) first caps] (slI L) := by
 have w1 : ∀ K, wil K first = true := fun K => purel_wil K first hp1
 have w2 : ∀ K, wil K caps = true := fun K => purel_wil K caps hp2
 obtain ⟨N, hN⟩ : ∃ N, L.length = N := ⟨_, rfl⟩
 have hil : (itI L).length = N := by simp [hN]
 refine ZF (fn := Tryz.f49) [.tmp 4] ⟨Tryz.func49, rfl, by kernel_rfl⟩ fun x hx hσ => ?_
 (repeat refine ZQ ?_); refine ZR fun K hK => ?_; simp (maxSteps := 1000000) [ty43]; refine hK _ ?_; clear hK K
 (repeat refine ZQ ?_)
 (repeat refine ZQ ?_); refine ZR fun K hK => ?_; simp (maxSteps := 1000000) [ty95]; refine hK _ ?_; clear hK K
 (repeat refine ZQ ?_); refine awp_block ?_
 have hfam := famOkS (L := 1000000) (K := [1000002]) (N := N) (T := fun i => Ta N i) (M := fun i e => apSl L i e) (by decide) (by simp) (by simp) (fun i => by simp)
  (fun i p hp => by
   simp only [Ta, List.mem_cons, List.not_mem_nil, or_false] at hp
   subst hp
   refine ⟨_, rfl, ?_, ?_⟩
   ·unfold apC
    split
    ·simp [wil, C.wi]
    ·have : i - 1 < N := by omega
     simp [wil, C.wi, this]
   ·simp only [List.all_cons, List.all_nil, apC_cell]; rfl)
  (fun i e he => apSl_ok L i e)
 refine awp_rangeG 1000000 _ _ (itI L) N .ret [(2, .ptr 1000002 1 0 0), (6, .fn (.func g) first caps)] [(2, .ptr 1000002 1 0 0)] (first := first) (caps := caps) ?_ hσ hfam (by simp) (by rw [hx]; decide) ⟨hp1, hp2⟩ hit (by omega)
  (by simp [C.wi, wil, w1, w2]) (by simp [C.wi, wil]) ?_ ?_ ?_ ?_
 ·refine Wk.trans (wk_shape (E := [(2, .ptr 1000002 1 0 0), (6, .fn (.func g) first caps)]) (T := [(1000002, 2, .live (o1 (.sl true true [])))]) (shp0 hσ (by simp) (by simp) ?_) ?_) ?_
  ·simp [SlotOk]
   exact .same (by simp [purel, C.isPure])
  ·simp [mtc, mtl, mT, C.isPure, purel, hp1, hp2]
   exact ⟨mtl_pure _ _ hp1, mtl_pure _ _ hp2⟩
  ·have e1 : (fun e => apSl L 0 e) = fun _ => Slot.gh := by
    funext e; unfold apSl; rw [if_neg (by omega), if_neg (by omega)]
   simp only [Ta, e1, apC_zero]
   exact wk_famGh (by simp) N
 ·intro args ha
  obtain ⟨t, ht, rfl⟩ := List.mem_map.1 ha
  simp [purel, C.isPure]
 ·intro i args hit hi y y2 hy1 hy2 hyS hy2S
  obtain ⟨t, ht, rfl⟩ := itI_get hit
  have hi' : i < L.length := (List.getElem?_eq_some_iff.1 ht).1
  have hti : L[i] = t := (List.getElem?_eq_some_iff.1 ht).2
  have hr0 := fun i => famS_rfam (L := 1000000) (by decide) (Ta N i) N (fun e => apSl L i e) i (fun i => famS (Ta N i) N fun e => apSl L i e) rfl
  rw [hr0 i, hr0 (i + 1)]
  have hx0 := hx
  have hx := hy1.trans hx0
  (repeat refine ZQ ?_); refine ZR fun K hK => ?_; simp (maxSteps := 1000000) [ty3, putPs]; refine hK _ ?_; clear hK K; (first | show AWP _ _ _ _ _ | show ∃ _, _ | skip)
  refine ⟨by simp, ?_⟩
  have hx := hy2.trans hx0
  (repeat refine ZQ ?_); refine awp_block ?_
  have hsN := apC_succ (N := N) (i := i) (by omega)
  have hrow := take_ints L hi'
  rw [hti] at hrow
  by_cases h0 : i = 0
  ·subst h0
   rw [apC_zero]
   have e0 : (L.take 0).map cI = [] := rfl
   rw [e0] at hrow
   refine AWP.weak ?_ (wk_nilCell 1000002 0 0 1000 1 (o := o1 (.sl true true [])) (row := [.sl true true []]) (fu := true) (by simp) rfl rfl rfl (by simp [stoT]) (by decide))
   (repeat refine ZQ ?_); refine ZR fun K hK => ?_; simp (maxSteps := 1000000) [ty43, ty3]; refine hK _ ?_; clear hK K; (first | show AWP _ _ _ _ _ | show ∃ _, _ | skip)
   refine ⟨by rw [if_neg (by omega)], ?_⟩
   have hsl1 : apSl L 1 0 = .live ⟨false, false, 1, (L.take 1).map cI⟩ := if_pos rfl
   refine wk_famR (E := []) (T := (1000000, 1000000, .gh) :: Ta N 1) (fun e => if e = 0 then 11 else fk e) hy2S (hr0 0) (by simp [mT]) (by simp) ?_ (by simp) (by simp) (by simp) ?_ ?_ ?_ (by simp)
   ·intro e he hne
    exact absurd (by unfold apSl; rw [if_neg (by omega), if_neg (by omega)]) hne
   ·intro e he
    by_cases hej : e = 0
    ·subst hej
     refine .inr ⟨by simp, by simp, fun e' _ h => ?_⟩
     simp only [if_true] at h
     split at h
     ·assumption
     ·simp at h
    ·simp [hej]
   ·intro e he
    by_cases hej : e = 0
    ·subst hej
     rw [hsl1, hrow]
     simp
     exact ⟨rfl, rfl, rfl, .same (by simp [purel, C.isPure])⟩
    ·simp [hej, he]
     exact apSl_next L hej
   ·have hsN1 : apC N 1 = .own (fk 0) 1 0 1 := apC_succ (by omega)
    simp [SlotOk, hsN1]
    exact .cons (by simp [mtl, mtc, mT, mF]; omega) (by simp) .nil
  ·obtain ⟨n, rfl⟩ : ∃ n, i = n + 1 := ⟨i - 1, by omega⟩
   have hsn := apC_succ (N := N) (i := n) (by omega)
   rw [hsn]
   have hnN : n < N := by omega
   have hsl : apSl L (n + 1) n = .live ⟨false, false, 1, (L.take (n + 1)).map cI⟩ := if_pos rfl
   have hAl : ((L.take (n + 1)).map cI).length = n + 1 := by simp; omega
   have hAp := ints_pure (L.take (n + 1))
   generalize hA : (L.take (n + 1)).map cI = A at *
   have hA2 : (L.take (n + 1 + 1)).map cI = A ++ [[encI t]] := hrow
   (repeat refine ZQ ?_); refine ZR fun K hK => ?_; simp (maxSteps := 1000000) [ty43, ty3, hnN, hsl, hAl]
   refine ⟨by omega, ?_⟩
   refine hK _ ?_; clear hK K; (first | show AWP _ _ _ _ _ | show ∃ _, _ | skip)
   refine ⟨by rw [if_neg (by omega)], ?_⟩
   have hsl1 : apSl L (n + 1 + 1) (n + 1) = .live ⟨false, false, 1, A ++ [[encI t]]⟩ := by rw [← hA2]; exact if_pos rfl
   have hsn2 := apC_succ (N := N) (i := n + 1) (by omega)
   refine wk_famR (E := []) (T := (1000000, 1000000, .gh) :: Ta N (n + 1 + 1)) (fun e => if e = n + 1 then 11 else fk e) hy2S (hr0 (n + 1)) (by simp [mT]) (by simp) ?_ (by simp) (by simp) (by simp) ?_ ?_ ?_ (by simp)
   ·intro e he hne
    by_cases hej : e = n + 1
    ·subst hej
     exact absurd (by unfold apSl; rw [if_neg (by omega), if_neg (by omega)]) hne
    ·simp [hej]
   ·intro e he
    by_cases hej : e = n + 1
    ·subst hej
     refine .inr ⟨by simp, by simp, fun e' _ h => ?_⟩
     simp only [if_true] at h
     split at h
     ·assumption
     ·simp at h
    ·simp [hej]
   ·intro e he
    by_cases hej : e = n + 1
    ·subst hej
     rw [hsl1]
     simp
     exact ⟨rfl, rfl, rfl, .same (by simp [purel, C.isPure]; exact fun x h => List.all_eq_true.1 hAp x h)⟩
    ·by_cases hen : e = n
     ·subst hen
      have hd : apSl L (e + 1 + 1) e = .dead := by unfold apSl; rw [if_neg (by omega), if_pos (by omega)]
      rw [hd]
      simp [hej]
      trivial
     ·simp [hej, hen, he]
      exact apSl_next L hej
   ·simp [SlotOk, hsn2]
    exact .cons (by simp [mtl, mtc, mT, mF]; omega) (by simp) .nil
 ·intro he s' hs'
  refine AWP.weak ?_ hs'
  rw [hil]
  by_cases h0 : N = 0
  ·have hLn : L = [] := List.eq_nil_of_length_eq_zero (by omega)
   rw [h0]
   simp only [Ta, apC_zero]
   (repeat refine ZQ ?_); refine ZR fun K hK => ?_; simp (maxSteps := 1000000) [ty43]; refine hK _ ?_; clear hK K
   (repeat refine ZQ ?_); refine awp_ret ?_; refine And.intro (Or.inr rfl) ?_
   simp [retC, resC, viewC, mapO, hLn]
  ·obtain ⟨n, hn1⟩ : ∃ n, N = n + 1 := ⟨N - 1, by omega⟩
   have hsn := apC_succ (N := N) (i := n) (by omega)
   have hLe : L.isEmpty = false := by
    cases L with
    | nil => simp at hN; omega
    | cons a l => rfl
   have hsl : apSl L (n + 1) n = .live ⟨false, false, 1, L.map cI⟩ := by
    unfold apSl; rw [if_pos rfl, List.take_of_length_le (by omega)]
   subst hn1
   simp only [Ta, hsn]
   (repeat refine ZQ ?_); refine ZR fun K hK => ?_; simp (maxSteps := 1000000) [ty43]; refine hK _ ?_; clear hK K
   (repeat refine ZQ ?_); refine awp_ret ?_; refine And.intro (Or.inr rfl) ?_
   refine ⟨_, by simp [retC, resC]; rfl, ?_⟩
   rw [viewC_own (o := ⟨false, false, 1, L.map cI⟩) (by simp [hsl]) rfl (by simp [hN]) (ints_pure L)]
   simp [hLe]
 ·intro hlt
  rw [hil] at hlt
  omega

theorem collect63 (g : FuncId) (first caps : List C) (L : List Int) (hp1 : purel first = true) (hp2 : purel caps = true) (hit : ItC Tryz.prog 1000000 g first caps (itI L)) (hn : L.length ≤ 1000000) :
  Pure Tryz.prog 22 [.fn (.func g) first caps] (slI L) := by
 have h := appendSeq99 g first caps L hp1 hp2 hit hn
 simp only [slI] at h
 refine ZF (fn := Tryz.f22) [.tmp 2] ⟨Tryz.func22, rfl, by kernel_rfl⟩ fun x hx hσ => ?_
 (repeat refine ZQ ?_); refine ZR fun K hK => ?_; simp (maxSteps := 1000000) [ty43]; refine hK _ ?_; clear hK K
 (repeat refine ZQ ?_); refine ZR fun K hK => ?_; simp (maxSteps := 1000000) [ty95, ty43]
 refine callP h (by simp [purel, C.isPure, hp1, hp2]) ?_
 simp
 refine hK _ ?_; clear hK K
 (repeat refine ZQ ?_); refine awp_ret ?_; refine And.intro (Or.inr rfl) ?_
 simp [retC, resC, viewC, mapO]

set_option maxHeartbeats 8000000

-- the gains of a day, and the doubt

theorem onC_bd {c : Co} {day : Int} {M : List (Int × Int)} {g : Int} (h : g ∈ onC c day M) : -c.gain ≤ g ∧ g ≤ c.gain := mem_seqI.1 (List.mem_filter.1 h).1

theorem onC_len (c : Co) (day : Int) (M : List (Int × Int)) (hg : 0 ≤ c.gain ∧ c.gain ≤ 50) : (onC c day M).length ≤ 101 := by
 have h := List.length_filter_le (onB c day M) (seqI (-c.gain) c.gain)
 have h2 : (seqI (-c.gain) c.gain).length = (c.gain - -c.gain + 1).toNat := seqN_len _ _
 unfold onC
 omega

theorem collOn (w : Ws) (G : List (Int × List Int)) (nl nl' : Bool) (M M' : List (Int × Int)) (day : Int) (hw : WsNum w G) (hM : M.length ≤ 1) :
  Pure Tryz.prog 22 [.fn (.func 50) [] [.ip (cCd w G nl' M') 0, .ip [encI day] 0, .ip [.md nl (rowsK M)] 0]] (slI (onC (co w G) day M)) :=
 collect63 50 [] _ _ rfl (by simp [purel, C.isPure]) (on98 w G nl nl' M M' day hw hM) (by have := onC_len (co w G) day M hw.gain; omega)

theorem ends_at {L : List Int} (h : 0 < L.length) : L[L.length - 1]'(by omega) = L.getLastD 0 ∧ L[0] = L.headD 0 := by
 cases L with
 | nil => simp at h
 | cons a l => simp [List.getLastD_eq_getLast?, List.getLast?_eq_getElem?]

/-- What On answers. -/
def onW (w : Ws) (day : Int) : List Int := if openW w (dayB w day) = 0 then onC (co w (gl w)) day [] else []

theorem open_yes {w : Ws} {is : Bool} (hn : WsLen w) (hz : openW w is = 0) : Pure Tryz.prog 20 [encWs w, .bool is] (.tup [encCd w (gl w) true [], encI 0]) := by
 have h := open57 w is hn
 rw [if_pos hz, hz] at h
 exact h
theorem open_no {w : Ws} {is : Bool} (hn : WsLen w) (hz : openW w is ≠ 0) : Pure Tryz.prog 20 [encWs w, .bool is] (.tup [zCd, encI (openW w is)]) := by
 have h := open57 w is hn
 rw [if_neg hz] at h
 exact h

theorem w_on18 (w : Ws) (day : Int) (hn : WsLen w) : Pure Tryz.prog 9 [encWs w, encI day] (.tup [slI (onW w day), encI (openW w (dayB w day))]) := by
 by_cases hz : openW w (dayB w day) = 0
 ·obtain ⟨hok, his, hcan⟩ := openW_ok hz
  have hop := open_yes hn hz
  have hco := collOn w (gl w) true true [] [] day hok.num (by simp)
  simp only [rowsK_nil] at hco
  have hT : onW w day = onC (co w (gl w)) day [] := if_pos hz
  refine ZF (fn := Tryz.f9) [.tmp 4, .tmp 5] ⟨Tryz.func9, rfl, by kernel_rfl⟩ fun x hx hσ => ?_
  (repeat refine ZQ ?_); refine ZR fun K hK => ?_; simp (maxSteps := 1000000) [ty42, ty34]; refine hK _ ?_; clear hK K
  (repeat refine ZQ ?_); refine ZD [] [0, 1, 2, 3, 4, 5, 6, 7, 8, 9, 10] fun K hK => ?_; simp (maxSteps := 1000000) [ty42, ty3]
  refine ZE (isDay62 w day) ?_; simp (maxSteps := 1000000) [ty42]
  refine ZE (hop) ?_; simp (maxSteps := 1000000) [ty69]
  refine hK _ ?_; clear hK K
  (repeat refine ZQ ?_); refine ZR fun K hK => ?_; simp (maxSteps := 1000000) [ty34]; refine hK _ ?_; clear hK K
  (repeat refine ZQ ?_); refine ZC (fun hd => ?_) (fun hd => ?_)
  ·simp at hd
  ·clear hd
   refine awp_skip ?_
   (repeat refine ZQ ?_); refine ZR fun K hK => ?_; simp (maxSteps := 1000000) [ty69, ty3, ty67]
   refine ZP (on60 w (gl w) true true [] [] day) ?_; simp (maxSteps := 1000000) [ty74]
   refine ZP (hco) ?_; simp (maxSteps := 1000000) [ty43]
   refine hK _ ?_; clear hK K
   (repeat refine ZQ ?_); refine awp_ret ?_; refine And.intro (Or.inr rfl) ?_
   simp [retC, resC, viewC, mapO, hT, hz]
 ·have hop := open_no hn hz
  have hT : onW w day = [] := if_neg hz
  refine ZF (fn := Tryz.f9) [.tmp 4, .tmp 5] ⟨Tryz.func9, rfl, by kernel_rfl⟩ fun x hx hσ => ?_
  (repeat refine ZQ ?_); refine ZR fun K hK => ?_; simp (maxSteps := 1000000) [ty42, ty34]; refine hK _ ?_; clear hK K
  (repeat refine ZQ ?_); refine ZD [] [0, 1, 2, 3, 4, 5, 6, 7, 8, 9, 10] fun K hK => ?_; simp (maxSteps := 1000000) [ty42, ty3]
  refine ZE (isDay62 w day) ?_; simp (maxSteps := 1000000) [ty42]
  refine ZE (hop) ?_; simp (maxSteps := 1000000) [ty69]
  refine hK _ ?_; clear hK K
  (repeat refine ZQ ?_); refine ZR fun K hK => ?_; simp (maxSteps := 1000000) [ty34]; refine hK _ ?_; clear hK K
  (repeat refine ZQ ?_); refine ZC (hc := by simp [hz]; rfl) (fun hd => ?_) (fun hd => ?_)
  ·clear hd
   (repeat refine ZQ ?_); refine ZR fun K hK => ?_; simp (maxSteps := 1000000) [ty34]; refine hK _ ?_; clear hK K
   (repeat refine ZQ ?_); refine awp_ret ?_; refine And.intro (Or.inr rfl) ?_
   simp [retC, resC, viewC, mapO, hT]
  ·simp [hz] at hd

end Go.Proofs.YtbelmomdndjjkaaGreat

/- 'for .. := range f' in a round of another one. No condition. -/
namespace Go.Abs
section
variable {P : Program}

/-- A RANGE OVER A FUNCTION, in a round of another one. -/
theorem awp_rangeIn {x : Ctx} {t : Nat} {ps : Array Tmp} {assign body : Code} {Q : Exit → AS → Prop} (L : Nat) (K : List Nat) (F : Nat → List (Nat × Nat × Slot)) (items : List (List C)) (stop : Nat) (jc : Code) (E0 El : List (Nat × C)) {gf : FuncId} {first caps : List C}
    {s : AS} (hw0 : Wk x s ⟨ofL E0, stoT (F 0)⟩) (hxk : ∀ k, x.σ k ≠ .free → k ∈ K) (hg : ofL E0 t = .fn (.func gf) first caps) (hgt : t < x.nt) (hpu : purel first = true ∧ purel caps = true) (hit : ItC P L gf first caps items) (hstop : stop ≤ items.length)
    (hK : ∀ k ∈ K, L < k) (nd : K.Nodup) (hF : ∀ i, (F i).map (·.1) = K ∧ (F i).map (·.2.1) = K) (hst : ∀ i, ∀ p ∈ F i, p.2.2 = .gh ∨ ∃ o, p.2.2 = .live o ∧ o.rows.all (wil K) = true ∧ o.rows.all (fun r => r.all C.cell) = true)
    (hE0 : ∀ p ∈ E0, p.2.wi K = true) (hE : ∀ p ∈ El, p.2.wi K = true ∧ ofL E0 p.1 = p.2) (hps : ∀ args ∈ items, purel args = true ∧ args.length = ps.size)
    (hround : ∀ i args, items[i]? = some args → i ≤ stop → ∀ (y y2 : Ctx), y.nt = x.nt → y2.nt = x.nt → (∀ k, y.σ k ≠ .free → k ∈ L :: K) → (∀ k, y2.σ k ≠ .free → k ∈ L :: K) →
      AWP P y assign ⟨putPs (ofL El) ps.toList args, stoT ((L, L, .gh) :: F i)⟩ (nextQ (fun s' => s'.sto L = .gh ∧ AWP P y2 body s' fun e s'' => (if i = stop then jumpOf e = some jc else e = .normal) ∧ Wk y2 s'' ⟨fun _ => .any, stoT ((L, L, .gh) :: F (i + 1))⟩) fun _ _ => False))
    (hdone : stop = items.length → ∀ s', Wk x s' ⟨ofL E0, stoT (F items.length)⟩ → Q .normal s')
    (hjump : stop < items.length → AWP P x jc ⟨ofL E0, stoT (F (stop + 1))⟩ Q) : AWP P x (.rangeFunc (.tmp t) ps assign body) s Q := by
  refine AWP.weak ?_ hw0
  have hfam : FamOk L K (fun i => stoT (F i)) := famOf K F hK nd (fun i => (hF i).1) fun i p hp => by
    rcases hst i p hp with h1 | ⟨o, h1, h2⟩
    · exact ⟨by rw [h1]; simp, fun o' e => by rw [h1] at e; cases e⟩
    · exact ⟨by rw [h1]; simp, fun o' e => by rw [h1] at e; cases e; exact h2⟩
  have hLK : L ∉ K := fun h => Nat.lt_irrefl _ (hK L h)
  have hfree : ∀ i k, k ∉ K → stoT (F i) k = .free := fun i k hk => hfam.out i k hk
  have hself : ∀ n, ∀ k ∈ K, mT (F n) k k := by
    intro n k hk
    have hk2 := hk
    rw [← (hF n).1] at hk2
    obtain ⟨p, hp, rfl⟩ := List.mem_map.1 hk2
    have e : (F n).map (·.1) = (F n).map (·.2.1) := (hF n).1.trans (hF n).2.symm
    have : p.1 = p.2.1 := (List.map_inj_left.1 e) p hp
    exact mem_mT.2 ⟨p.2.2, by rw [show (p.1, p.1, p.2.2) = p from Prod.ext rfl (Prod.ext this rfl)]; exact hp⟩
  -- what there is behind the loop
  have hend : ∀ n, Wk x ⟨ofL E0, ovS (L :: K) (stoT (F 0)) (stg L (fun i => stoT (F i)) stop n)⟩ ⟨ofL E0, stoT (F n)⟩ := by
    intro n
    have hsh : Shp x (ovS (L :: K) (stoT (F 0)) (stg L (fun i => stoT (F i)) stop n)) (F n) := by
      refine ⟨by rw [(hF n).1]; exact nd, by rw [(hF n).2]; exact nd, fun p hp => ?_, fun k hk _ => hself n k (hxk k hk)⟩
      have e : (F n).map (·.1) = (F n).map (·.2.1) := (hF n).1.trans (hF n).2.symm
      have h1 : p.1 = p.2.1 := (List.map_inj_left.1 e) p hp
      have hpK : p.1 ∈ K := by rw [← (hF n).1]; exact List.mem_map.2 ⟨p, hp, rfl⟩
      have hne : p.1 ≠ L := fun e => hLK (e ▸ hpK)
      have h2 : ovS (L :: K) (stoT (F 0)) (stg L (fun i => stoT (F i)) stop n) p.2.1 = p.2.2 := by
        rw [← h1, ovS_in (by simp [hpK])]
        simp only [stg, if_neg hne]
        exact stoT_mem (by rw [(hF n).1]; exact nd) hp
      rw [h2]
      rcases hst n p hp with h3 | ⟨o, h3, h4, h5⟩
      · rw [h3]; rfl
      · rw [h3]
        exact ⟨rfl, rfl, rfl, rows_self (hself n) _ h4 h5⟩
    exact wk_shpE hsh.gen fun t => mt_self (hself n) _ (ofL_wi hE0 t)
  refine awp_range L K (fun i => stoT (F i)) items stop jc (ofL El) hg (fun t' ht => by cases ht; exact hgt) hpu hit hstop hfam (hfree 0 L hLK) (fun k hk => rfl) (ofL_E hE) hps hxk ?_ (fun e => hdone e _ (hend _)) (fun e => AWP.weak (hjump e) (hend _))
  intro i args hit' hi l y y2 hy hy2
  rw [rfam_stoT]
  refine AWP.mono (hround i args hit' hi y y2 hy.nt hy2.nt (fun k hk => by have := hx_rfam hfam hy.σ k hk; simpa using this) (fun k hk => by have := hx_rfam hfam hy2.σ k hk; simpa using this)) ?_
  intro e s' he
  cases e with
  | normal =>
    refine ⟨he.1, AWP.mono he.2 ?_⟩
    intro e' s'' h
    unfold rndQ
    rw [rfam_stoT]
    exact h
  | _ => exact he

end
end Go.Abs

namespace Go.Proofs.YtbelmomdndjjkaaGreat
open Go Go.Abs

set_option maxHeartbeats 4000000

@[simp] abbrev encP (p : Int × Int) : C := .agg [encI p.1, encI p.2]
def rowsP (v : Int × Int → Int) (ks : List (Int × Int)) : List (List C) := ks.map fun p => [encP p, encI (v p)]
@[simp] theorem rowsP_pure (v : Int × Int → Int) (ks : List (Int × Int)) : (rowsP v ks).all purel = true := by simp [rowsP, purel, C.isPure]
@[simp] theorem rowsP_wil (K : List Nat) (v : Int × Int → Int) (ks : List (Int × Int)) : (rowsP v ks).all (wil K) = true := by simp [rowsP, wil, C.wi]

set_option maxHeartbeats 4000000

/-- A class. -/
structure Cl where
  size : Int
  most : Int

@[simp] abbrev cCl (c : Cl) : List C := [encI c.size, encI c.most]
@[simp] abbrev encCl (c : Cl) : C := .agg (cCl c)
def classB (c : Cl) : Bool := areaB c.size && countB c.most

set_option maxHeartbeats 4000000

def andU (a b : Int) : Int := IntKind.u64.wrap (BitVec.ofInt IntKind.u64.bits a &&& BitVec.ofInt IntKind.u64.bits b).toNat
def addU (a b : Int) : Int := IntKind.u64.wrap (a + b)
def shrU (a : Int) (b : Nat) : Int := a.fdiv (2 ^ (min b IntKind.u64.bits))
def p1 (x : Int) : Int := addU (andU (shrU x 1) 6148914691236517205) (andU x 6148914691236517205)
def p2 (x : Int) : Int := addU (andU (shrU x 2) 3689348814741910323) (andU x 3689348814741910323)
def p3 (x : Int) : Int := andU (addU (shrU x 4) x) 1085102592571150095
def p4 (x : Int) (n : Nat) : Int := addU x (shrU x n)
set_option maxHeartbeats 4000000

@[simp] theorem take_mapLen {α : Type} (f : α → List C) (l : List α) : List.take l.length (l.map f) = l.map f := List.take_of_length_le (by simp)

/-- The tests of a set. -/
def listS (t : Ti) (s : Nat) : List Int := fixTo (fun i => s.testBit i) t.ts.length

theorem numsT_mem {f : Tr → Int} {t : Ti} {is : Bool} {z : Int} (h : z ∈ numsT f t is) : openT t is = 0 ∧ ∃ k ∈ truthsS t (allS t), f k = z := by
 unfold numsT at h
 split at h
 ·rename_i h0
  exact ⟨h0, (kindsL_mem _ _ _).1 h⟩
 ·simp at h

set_option maxHeartbeats 8000000

-- Drift

set_option maxHeartbeats 4000000

-- the reference of the trials: what is valid, what a truth is

theorem q_within60 (n lo hi : Int) : Pure Tryz.prog 13 [encI n, encI lo, encI hi] (.bool (withinB n lo hi)) := by
 refine ZF (fn := Tryz.f13) [.tmp 6] ⟨Tryz.func13, rfl, by kernel_rfl⟩ fun x hx hσ => ?_
 (repeat refine ZQ ?_); refine ZR fun K hK => ?_; simp (maxSteps := 1000000); refine hK _ ?_; clear hK K
 (repeat refine ZQ ?_); refine ZR fun K hK => ?_; simp (maxSteps := 1000000)
 refine ZP (within79 n lo hi) ?_; simp (maxSteps := 1000000)
 refine hK _ ?_; clear hK K
 (repeat refine ZQ ?_); refine awp_ret ?_; refine And.intro (Or.inr rfl) ?_
 simp [retC, resC, viewC, mapO]

theorem q_isArea56 (n : Int) : Pure Tryz.prog 15 [encI n] (.bool (areaB n)) := by
 refine ZF (fn := Tryz.f15) [.tmp 2] ⟨Tryz.func15, rfl, by kernel_rfl⟩ fun x hx hσ => ?_
 (repeat refine ZQ ?_); refine ZR fun K hK => ?_; simp (maxSteps := 1000000); refine hK _ ?_; clear hK K
 (repeat refine ZQ ?_); refine ZR fun K hK => ?_; simp (maxSteps := 1000000)
 refine ZP (q_within60 n 0 9000) ?_; simp (maxSteps := 1000000)
 refine hK _ ?_; clear hK K
 (repeat refine ZQ ?_); refine awp_ret ?_; refine And.intro (Or.inr rfl) ?_
 simp [retC, resC, viewC, mapO, areaB, withinB]

theorem q_isClass20 (c : Cl) : Pure Tryz.prog 6 [encCl c] (.bool (classB c)) := by
 refine ZF (fn := Tryz.f6) [.tmp 2] ⟨Tryz.func6, rfl, by kernel_rfl⟩ fun x hx hσ => ?_
 (repeat refine ZQ ?_); refine ZR fun K hK => ?_; simp (maxSteps := 1000000) [ty30]; refine hK _ ?_; clear hK K; (first | show AWP _ _ _ _ _ | show ∃ _, _ | skip)
 cases h : areaB c.size
 ·(repeat refine ZQ ?_); refine ZR fun K hK => ?_; simp (maxSteps := 1000000) [ty30, ty3]
  refine ZP (q_isArea56 c.size) ?_; simp (maxSteps := 1000000) [h, ty30, ty3]
  refine hK _ ?_; clear hK K
  (repeat refine ZQ ?_); refine awp_ret ?_; refine And.intro (Or.inr rfl) ?_
  simp [retC, resC, viewC, mapO, classB, h]
 ·(repeat refine ZQ ?_); refine ZR fun K hK => ?_; simp (maxSteps := 1000000) [ty30, ty3]
  refine ZP (q_isArea56 c.size) ?_; simp (maxSteps := 1000000) [h, ty30, ty3]
  refine ZP (q_within60 c.most 0 9999) ?_; simp (maxSteps := 1000000) [ty30, ty3]
  refine hK _ ?_; clear hK K
  (repeat refine ZQ ?_); refine awp_ret ?_; refine And.intro (Or.inr rfl) ?_
  simp [retC, resC, viewC, mapO, classB, h, countB, withinB]

set_option maxHeartbeats 8000000

-- Due

def byC (c : Cl) (g : Int) : Bool := decide (c.most < absI (seenA c.size g - c.size))
/-- The first day on which the instrument can err beyond a class. -/
def dueO (c : Co) (k : Cl) : Option Nat := (List.range (c.last + 1).toNat).find? fun d => (onC c (d : Nat) []).any (byC k)
def dueV (w : Ws) (k : Cl) : Int := if openW w (classB k) = 0 then (match dueO (co w (gl w)) k with | some d => (d : Int) | none => 0) else 0
def dueE (w : Ws) (k : Cl) : Int := if openW w (classB k) = 0 then (match dueO (co w (gl w)) k with | some _ => 0 | none => 3) else openW w (classB k)

theorem dueO_some {c : Co} {k : Cl} {i N : Nat} (hN : (c.last + 1).toNat = N) (hi : i < N) (h0 : ∀ d, d < i → (onC c (d : Nat) []).any (byC k) = false) (h1 : (onC c (i : Nat) []).any (byC k) = true) : dueO c k = some i := by
 unfold dueO
 rw [hN, List.find?_range_eq_some]
 exact ⟨h1, List.mem_range.2 hi, fun j hj => by rw [h0 j hj]; rfl⟩
theorem dueO_none {c : Co} {k : Cl} {N : Nat} (hN : (c.last + 1).toNat = N) (h0 : ∀ d, d < N → (onC c (d : Nat) []).any (byC k) = false) : dueO c k = none := by
 unfold dueO
 rw [hN, List.find?_range_eq_none]
 exact fun j hj => by rw [h0 j hj]; rfl


theorem w_due16 (w : Ws) (k : Cl) (hn : WsLen w) : Pure Tryz.prog 12 [encWs w, encCl k] (.tup [encI (dueV w k), encI (dueE w k)]) := by
 have hcb : classB k = (areaB k.size && countB k.most) := rfl
 by_cases hz : openW w (classB k) = 0
 ·obtain ⟨hok, his, hcan⟩ := openW_ok hz
  have hop := open_yes hn hz
  have hnum := hok.num
  have hl := hok.last
  have hV : dueV w k = (match dueO (co w (gl w)) k with | some d => (d : Int) | none => 0) := if_pos hz
  have hE : dueE w k = (match dueO (co w (gl w)) k with | some _ => 0 | none => 3) := if_pos hz
  rw [hV, hE]
  obtain ⟨N, hN⟩ : ∃ N : Nat, (w.last + 1).toNat = N := ⟨_, rfl⟩
  have hN' : (N : Int) = w.last + 1 := by omega
  have hw1 : IntKind.i64.wrap (w.last + 1) = (N : Int) := by rw [wrap_id (by omega) (by omega)]; omega
  have hsome := fun i hi => dueO_some (c := co w (gl w)) (k := k) (i := i) hN hi
  have hnone := dueO_none (c := co w (gl w)) (k := k) hN
  have hit := fun day : Nat => on98 w (gl w) true true [] [] day hnum (by simp)
  simp only [rowsK_nil] at hit
  have hmem : ∀ (day : Nat), ∀ z ∈ onC (co w (gl w)) (day : Nat) [], -50 ≤ z ∧ z ≤ 50 := fun day z hz' => by
   have h1 := onC_bd hz'
   have h2 := hnum.gain
   simp only at h1
   omega
  have hln := fun day : Nat => onC_len (co w (gl w)) (day : Nat) [] hnum.gain
  generalize dueO (co w (gl w)) k = D at *
  rw [hcb, Bool.and_eq_true] at his
  obtain ⟨h1, h2⟩ := his
  have ha := areaB_iff.1 h1
  rw [hcb, h1, h2] at hop
  simp only [Bool.and_self] at hop
  refine ZF (fn := Tryz.f12) [.cell 4 3, .cell 5 34] ⟨Tryz.func12, rfl, by kernel_rfl⟩ fun x hx hσ => ?_
  (repeat refine ZQ ?_); refine ZR fun K hK => ?_; simp (maxSteps := 1000000) [ty42, ty34, ty3, ty30]; refine hK _ ?_; clear hK K
  (repeat refine ZQ ?_); refine ZD [] [0, 1, 2, 3, 4, 5, 6, 7, 8, 9, 10, 11, 12, 13, 14, 15] fun K hK => ?_; simp (maxSteps := 1000000) [ty42, ty3, ty4, ty30]
  refine ZE (isArea58 k.size) ?_; simp (maxSteps := 1000000) [ty42, ty3, ty4, ty30, h1]
  refine ZE (isCount59 k.most) ?_; simp (maxSteps := 1000000) [ty42, ty3, ty4, ty30, h2]
  refine ZE (hop) ?_; simp (maxSteps := 1000000) [ty69]
  refine hK _ ?_; clear hK K
  (repeat refine ZQ ?_); refine ZR fun K hK => ?_; simp (maxSteps := 1000000) [ty34]; refine hK _ ?_; clear hK K
  (repeat refine ZQ ?_); refine ZC (fun hd => ?_) (fun hd => ?_)
  ·simp at hd
  ·clear hd
   refine awp_skip ?_
   (repeat refine ZQ ?_); refine ZR fun K hK => ?_; simp (maxSteps := 1000000) [ty42, ty3, hw1]; refine hK _ ?_; clear hK K
   (repeat refine ZQ ?_); refine awp_block ?_
   refine awp_loop (fun i : Nat => ⟨ofL [(3, .ptr 3 2 0 0), (4, .ptr 4 1 0 0), (5, .ptr 5 1 0 0), (6, .ptr 6 15 0 0), (29, encI N), (30, encI i)], stoT [(3, 3, .live ⟨false, false, 2, [cCl k]⟩), (4, 4, .live (obI 0)), (5, 5, .live (obI 0)), (6, 6, .live (obCd w (gl w) true []))]⟩)
    (fun i => i ≤ N ∧ ∀ d, d < i → (onC (co w (gl w)) (d : Nat) []).any (byC k) = false) (fun i => N - i) 0 (by simp) ?_ ?_
   ·exact ZW
   ·intro i ⟨hi, hd0⟩
    (repeat refine ZQ ?_); refine ZR fun K hK => ?_; simp (maxSteps := 1000000) [ty3]; refine hK _ ?_; clear hK K
    (repeat refine ZQ ?_); refine ZC (fun hc1 => ?_) (fun hc1 => ?_)
    ·simp at hc1
     have hwi : IntKind.i64.wrap ((i : Int) + 1) = ((i + 1 : Nat) : Int) := by rw [wrap_id (by omega) (by omega)]; rfl
     have hsm := hsome i hc1 hd0
     have hiti := hit i
     have hmi := hmem i
     have hli := hln i
     have hd1 : (onC (co w (gl w)) (i : Nat) []).any (byC k) = false → ∀ d, d < i + 1 → (onC (co w (gl w)) (d : Nat) []).any (byC k) = false := fun h d hd => by
      by_cases e : d = i
      ·rw [e]; exact h
      ·exact hd0 d (by omega)
     clear hnone hsome hit hmem hln
     generalize hLL : onC (co w (gl w)) (i : Nat) [] = L at *
     refine awp_skip ?_
     (repeat refine ZQ ?_); refine awp_block ?_
     (repeat refine ZQ ?_); refine ZR fun K hK => ?_; simp (maxSteps := 1000000) [ty3]; refine hK _ ?_; clear hK K
     (repeat refine ZQ ?_); refine ZR fun K hK => ?_; simp (maxSteps := 1000000) [ty69, ty3, ty67]
     refine ZP (on60 w (gl w) true true [] [] i) ?_; simp (maxSteps := 1000000) [ty74]
     refine hK _ ?_; clear hK K
     (repeat refine ZQ ?_); refine awp_block ?_
     obtain ⟨stop, hstop⟩ : ∃ stop, stop = L.findIdx (byC k) := ⟨_, rfl⟩
     have hsl : stop ≤ L.length := hstop ▸ List.findIdx_le_length
     refine awp_range0 1000000 [1000003, 1000004, 1000005, 1000006, 1000008] (fun m => [(1000003, 1000003, .live ⟨false, false, 2, [cCl k]⟩), (1000004, 1000004, .live (obI (if stop < m then (i : Int) else 0))), (1000005, 1000005, .live (obI 0)), (1000006, 1000006, .live (obCd w (gl w) true [])), (1000008, 1000008, .live (obI i))]) (itI L) stop .ret
      [(3, .ptr 1000003 2 0 0), (4, .ptr 1000004 1 0 0), (5, .ptr 1000005 1 0 0), (6, .ptr 1000006 15 0 0), (8, .ptr 1000008 1 0 0), (29, encI N), (30, encI i), (35, .fn (.func 50) [] [.ip (cCd w (gl w) true []) 0, .ip [encI i] 0, .ip [.md true []] 0])] [(3, .ptr 1000003 2 0 0), (4, .ptr 1000004 1 0 0), (5, .ptr 1000005 1 0 0), (8, .ptr 1000008 1 0 0)]
      (first := []) (caps := [.ip (cCd w (gl w) true []) 0, .ip [encI i] 0, .ip [.md true []] 0]) ?_ hσ (by simp) (by rw [hx]; decide) ⟨rfl, by simp [purel, C.isPure]⟩ hiti (by simpa using hsl) (by simp) (by simp) (fun i => by simp) (fun i => by simp [wil, C.wi]) (by simp [C.wi, wil]) (by simp [C.wi, wil]) ?_ ?_ ?_ ?_
     ·refine wk_shape2 [(1000003, 3, .live ⟨false, false, 2, [cCl k]⟩), (1000004, 4, .live (obI (if stop < 0 then (i : Int) else 0))), (1000005, 5, .live (obI 0)), (1000006, 6, .live (obCd w (gl w) true [])), (1000008, 8, .live (obI i))] (by first | rfl | (simp only [if_pos, if_true]; rfl)) (shp0 hσ (by simp) (by simp) ?_) ?_
      ·simp [SlotOk] <;> (repeat' (first | (refine RowsOk.same ?_; simp [purel, C.isPure]; done) | (refine rowsCons ?_; simp [mtl, mtc, mT, mH, C.isPure, purel]; done) | (refine rowsCons ?_; simp [mtl, mtc, mT, mH, C.isPure, purel]) | refine And.intro ?_ ?_))
      ·simp [mtc, mtl, mT, C.isPure, purel] <;> (try simp (disch := omega) [wrap_id]) <;> (try omega)
     ·intro args ha
      obtain ⟨y, hy, rfl⟩ := List.mem_map.1 ha
      simp [purel, C.isPure]
     ·intro m args hit hm y y2 hy1 hy2 hyσ hy
      obtain ⟨g, ht, rfl⟩ := itI_get hit
      have hm' := (List.getElem?_eq_some_iff.1 ht).1
      have htm : L[m] = g := (List.getElem?_eq_some_iff.1 ht).2
      have hgb := hmi g (List.mem_of_getElem? ht)
      have hsb := seenA_bd ha hgb
      have hw2 : IntKind.i64.wrap (seenA k.size g - k.size) = seenA k.size g - k.size := wrap_id (by omega) (by omega)
      have hw3 : IntKind.i64.wrap (-(seenA k.size g - k.size)) = -(seenA k.size g - k.size) := wrap_id (by omega) (by omega)
      have hby : byC k g = decide (k.most < if seenA k.size g - k.size < -(seenA k.size g - k.size) then -(seenA k.size g - k.size) else seenA k.size g - k.size) := by
       unfold byC absI
       congr 2
       split <;> split <;> omega
      have hx0 := hx
      have hx := hy1.trans hx0
      (repeat refine ZQ ?_); refine ZR fun K hK => ?_; simp (maxSteps := 1000000) [ty3, putPs]; refine hK _ ?_; clear hK K; (first | show AWP _ _ _ _ _ | show ∃ _, _ | skip)
      refine ⟨by simp, ?_⟩
      have hx := hy2.trans hx0
      (repeat refine ZQ ?_); refine awp_block ?_
      (repeat refine ZQ ?_); refine ZD [] [0, 1, 2, 3, 4, 5, 6, 7] fun K hK => ?_; simp (maxSteps := 1000000) [ty3, ty30]
      refine ZE (seen61 k.size g ha hgb) ?_; simp (maxSteps := 1000000) [ty3, ty30, hw2]
      refine hK _ ?_; clear hK K; (first | show AWP _ _ _ _ _ | show ∃ _, _ | skip)
      cases hb : byC k g
      ·have hne : m ≠ stop := by
        rintro rfl
        have := List.findIdx_getElem (p := byC k) (xs := L) (w := by rw [← hstop]; exact hm')
        simp only [← hstop, htm, hb] at this
        cases this
       rw [hb] at hby
       have hby := of_decide_eq_false hby.symm
       (repeat refine ZQ ?_); refine ZR fun K hK => ?_; simp (maxSteps := 1000000) [ty3, ty30, hw3, hby]; refine hK _ ?_; clear hK K
       (repeat refine ZQ ?_); refine ZC (hc := by simp [hby]; rfl) (fun hd => ?_) (fun hd => ?_)
       ·simp [hby] at hd
       ·clear hd
        refine awp_skip ?_
        refine ⟨by rw [if_neg hne], ?_⟩
        rw [if_neg (show ¬ stop < m + 1 by omega)]
        rw [if_neg (show ¬ stop < m by omega)]
        refine wk_round (E := []) [(1000000, 1000000, .gh), (1000003, 1000003, .live ⟨false, false, 2, [cCl k]⟩), (1000004, 1000004, .live (obI 0)), (1000005, 1000005, .live (obI 0)), (1000006, 1000006, .live (obCd w (gl w) true [])), (1000008, 1000008, .live (obI i))] (by first | rfl | (simp <;> rfl)) hy (by simp [mT]) (by simp) (by simp) ?_ (by simp)
        ·simp [SlotOk] <;> (repeat' (first | (refine RowsOk.same ?_; simp [purel, C.isPure]; done) | (refine rowsCons ?_; simp [mtl, mtc, mT, mH, C.isPure, purel]; done) | (refine rowsCons ?_; simp [mtl, mtc, mT, mH, C.isPure, purel]) | refine And.intro ?_ ?_)) <;> (try simp (disch := omega) [wrap_id]) <;> (try omega)
      ·have heq : m = stop := by
        refine Nat.le_antisymm hm (Classical.byContradiction fun hlt => ?_)
        have := List.not_of_lt_findIdx (p := byC k) (xs := L) (i := m) (by rw [← hstop]; omega)
        simp only [htm, hb] at this
        cases this
       rw [hb] at hby
       have hby := of_decide_eq_true hby.symm
       (repeat refine ZQ ?_); refine ZR fun K hK => ?_; simp (maxSteps := 1000000) [ty3, ty30, hw3, hby]; refine hK _ ?_; clear hK K
       (repeat refine ZQ ?_); refine ZC (hc := by simp [hby]; rfl) (fun hd => ?_) (fun hd => ?_)
       ·clear hd
        (repeat refine ZQ ?_); refine ZR fun K hK => ?_; simp (maxSteps := 1000000) [ty3, ty34]; refine hK _ ?_; clear hK K
        refine awp_ret ?_
        refine ⟨by rw [if_pos heq]; rfl, ?_⟩
        rw [if_pos (show stop < m + 1 by omega)]
        refine wk_round (E := []) [(1000000, 1000000, .gh), (1000003, 1000003, .live ⟨false, false, 2, [cCl k]⟩), (1000004, 1000004, .live (obI i)), (1000005, 1000005, .live (obI 0)), (1000006, 1000006, .live (obCd w (gl w) true [])), (1000008, 1000008, .live (obI i))] (by first | rfl | (simp <;> rfl)) hy (by simp [mT]) (by simp) (by simp) ?_ (by simp)
        ·simp [SlotOk] <;> (repeat' (first | (refine RowsOk.same ?_; simp [purel, C.isPure]; done) | (refine rowsCons ?_; simp [mtl, mtc, mT, mH, C.isPure, purel]; done) | (refine rowsCons ?_; simp [mtl, mtc, mT, mH, C.isPure, purel]) | refine And.intro ?_ ?_)) <;> (try simp (disch := omega) [wrap_id]) <;> (try omega)
       ·simp [hby] at hd
     ·intro he s' hs'
      refine AWP.weak ?_ hs'
      have hany : L.any (byC k) = false := by
       rw [Bool.eq_false_iff]
       intro e
       obtain ⟨g, hg, h1⟩ := List.any_eq_true.1 e
       have := List.findIdx_lt_length_of_exists ⟨g, hg, h1⟩
       rw [← hstop, he] at this
       simp at this
      rw [if_neg (by omega)]
      (repeat refine ZQ ?_); refine ZR fun K hK => ?_; simp (maxSteps := 1000000) [ty3]; refine hK _ ?_; clear hK K; (first | show AWP _ _ _ _ _ | show ∃ _, _ | skip)
      refine ⟨i + 1, ⟨by omega, hd1 hany⟩, by omega, ?_⟩
      rw [hwi]
      refine wk_shape2 [(3, 1000003, .live ⟨false, false, 2, [cCl k]⟩), (4, 1000004, .live (obI 0)), (5, 1000005, .live (obI 0)), (6, 1000006, .live (obCd w (gl w) true []))] (by first | rfl | (simp only [if_pos, if_true]; rfl)) (shp0 hσ (by simp) (by simp) ?_) ?_
      ·simp [SlotOk] <;> (repeat' (first | (refine RowsOk.same ?_; simp [purel, C.isPure]; done) | (refine rowsCons ?_; simp [mtl, mtc, mT, mH, C.isPure, purel]; done) | (refine rowsCons ?_; simp [mtl, mtc, mT, mH, C.isPure, purel]) | refine And.intro ?_ ?_))
      ·simp [mtc, mtl, mT, C.isPure, purel] <;> (try simp (disch := omega) [wrap_id]) <;> (try omega)
     ·intro hlt
      have hlt' : stop < L.length := by simpa using hlt
      have hany : L.any (byC k) = true := by
       have := List.findIdx_getElem (p := byC k) (xs := L) (w := by rw [← hstop]; exact hlt')
       exact List.any_eq_true.2 ⟨_, List.getElem_mem _, this⟩
      have hD := hsm hany
      rw [if_pos (by omega), hD]
      refine awp_ret ?_
      refine ⟨.inr rfl, ?_⟩
      simp [retC, resC, viewC, mapO, ty3, ty34]
    ·simp at hc1
     (repeat refine ZQ ?_); refine awp_exit ?_; (first | show AWP _ _ _ _ _ | show ∃ _, _ | skip)
     have hiN : i = N := by omega
     subst hiN
     have hD := hnone hd0
     rw [hD]
     (repeat refine ZQ ?_); refine ZR fun K hK => ?_; simp (maxSteps := 1000000) [ty3, ty34]; refine hK _ ?_; clear hK K
     (repeat refine ZQ ?_); refine awp_ret ?_; refine And.intro (Or.inr rfl) ?_
     simp [retC, resC, viewC, mapO, ty3, ty34]
 ·have hop := open_no hn hz
  have hV : dueV w k = 0 := if_neg hz
  have hE : dueE w k = openW w (classB k) := if_neg hz
  rw [hV, hE]
  cases h1 : areaB k.size
  ·have hc0 : classB k = false := by rw [hcb, h1]; rfl
   rw [hc0] at hop hz ⊢
   refine ZF (fn := Tryz.f12) [.cell 4 3, .cell 5 34] ⟨Tryz.func12, rfl, by kernel_rfl⟩ fun x hx hσ => ?_
   (repeat refine ZQ ?_); refine ZR fun K hK => ?_; simp (maxSteps := 1000000) [ty42, ty34, ty3, ty30]; refine hK _ ?_; clear hK K
   (repeat refine ZQ ?_); refine ZD [] [0, 1, 2, 3, 4, 5, 6, 7, 8, 9, 10, 11, 12, 13, 14, 15] fun K hK => ?_; simp (maxSteps := 1000000) [ty42, ty3, ty4, ty30]
   refine ZE (isArea58 k.size) ?_; simp (maxSteps := 1000000) [ty42, ty3, ty4, ty30, h1]
   refine ZE (hop) ?_; simp (maxSteps := 1000000) [ty69]
   refine hK _ ?_; clear hK K
   (repeat refine ZQ ?_); refine ZR fun K hK => ?_; simp (maxSteps := 1000000) [ty34]; refine hK _ ?_; clear hK K
   (repeat refine ZQ ?_); refine ZC (hc := by simp [hz]; rfl) (fun hd => ?_) (fun hd => ?_)
   ·clear hd
    (repeat refine ZQ ?_); refine ZR fun K hK => ?_; simp (maxSteps := 1000000) [ty34, ty3]; refine hK _ ?_; clear hK K
    (repeat refine ZQ ?_); refine awp_ret ?_; refine And.intro (Or.inr rfl) ?_
    simp [retC, resC, viewC, mapO, hz, ty3, ty34]
   ·simp [hz] at hd
  ·have hc0 : classB k = countB k.most := by rw [hcb, h1]; rfl
   rw [hc0] at hop hz ⊢
   refine ZF (fn := Tryz.f12) [.cell 4 3, .cell 5 34] ⟨Tryz.func12, rfl, by kernel_rfl⟩ fun x hx hσ => ?_
   (repeat refine ZQ ?_); refine ZR fun K hK => ?_; simp (maxSteps := 1000000) [ty42, ty34, ty3, ty30]; refine hK _ ?_; clear hK K
   (repeat refine ZQ ?_); refine ZD [] [0, 1, 2, 3, 4, 5, 6, 7, 8, 9, 10, 11, 12, 13, 14, 15] fun K hK => ?_; simp (maxSteps := 1000000) [ty42, ty3, ty4, ty30]
   refine ZE (isArea58 k.size) ?_; simp (maxSteps := 1000000) [ty42, ty3, ty4, ty30, h1]
   refine ZE (isCount59 k.most) ?_; simp (maxSteps := 1000000) [ty42, ty3, ty4, ty30]
   refine ZE (hop) ?_; simp (maxSteps := 1000000) [ty69]
   refine hK _ ?_; clear hK K
   (repeat refine ZQ ?_); refine ZR fun K hK => ?_; simp (maxSteps := 1000000) [ty34]; refine hK _ ?_; clear hK K
   (repeat refine ZQ ?_); refine ZC (hc := by simp [hz]; rfl) (fun hd => ?_) (fun hd => ?_)
   ·clear hd
    (repeat refine ZQ ?_); refine ZR fun K hK => ?_; simp (maxSteps := 1000000) [ty34, ty3]; refine hK _ ?_; clear hK K
    (repeat refine ZQ ?_); refine awp_ret ?_; refine And.intro (Or.inr rfl) ?_
    simp [retC, resC, viewC, mapO, hz, ty3, ty34]
   ·simp [hz] at hd

set_option maxHeartbeats 8000000

-- Blame

set_option maxHeartbeats 8000000

-- Doubt and Next

set_option maxHeartbeats 4000000

def isTrB (t : Ti) (k : Tr) : Bool := withinB k.area (-t.gain) t.gain && withinB k.skew (-t.w.skew) t.w.skew && t.ts.all (fun y => allowB t.w y k)

theorem q_check30 (t : Ti) (hn : TiLen t) : Pure Tryz.prog 5 [encTi t] (encI (checkT t)) := by
 have hlt := hn.ts
 refine ZF (fn := Tryz.f5) [.tmp 2] ⟨Tryz.func5, rfl, by kernel_rfl⟩ fun x hx hσ => ?_
 (repeat refine ZQ ?_); refine ZR fun K hK => ?_; simp (maxSteps := 1000000) [ty28]; refine hK _ ?_; clear hK K; (first | show AWP _ _ _ _ _ | show ∃ _, _ | skip)
 have c1 := q_within60 t.gain 0 50
 cases h1 : withinB t.gain 0 50
 ·rw [h1] at c1
  have hT : checkT t = 90 := by unfold checkT; rw [if_pos (.inl (by simpa [withinB] using h1))]
  (repeat refine ZQ ?_); refine ZR fun K hK => ?_; simp (maxSteps := 1000000) [ty28, ty3]
  refine ZP (c1) ?_; simp (maxSteps := 1000000)
  refine hK _ ?_; clear hK K
  (repeat refine ZQ ?_); refine ZC (fun hd => ?_) (fun hd => ?_)
  ·clear hd
   (repeat refine ZQ ?_); refine ZR fun K hK => ?_; simp (maxSteps := 1000000); refine hK _ ?_; clear hK K
   (repeat refine ZQ ?_); refine awp_ret ?_; refine And.intro (Or.inr rfl) ?_
   simp [retC, resC, viewC, mapO, hT]
  ·simp at hd
 ·rw [h1] at c1
  by_cases h6 : (6 : Int) < (t.ts.length : Int)
  ·have hT : checkT t = 90 := by unfold checkT; rw [if_pos (.inr (.inl (by omega)))]
   (repeat refine ZQ ?_); refine ZR fun K hK => ?_; simp (maxSteps := 1000000) [ty28, ty3]
   refine ZP (c1) ?_; simp (maxSteps := 1000000) [ty28, ty26, ty3, h6]
   refine hK _ ?_; clear hK K
   (repeat refine ZQ ?_); refine ZC (hc := by simp [h6]; rfl) (fun hd => ?_) (fun hd => ?_)
   ·clear hd
    (repeat refine ZQ ?_); refine ZR fun K hK => ?_; simp (maxSteps := 1000000); refine hK _ ?_; clear hK K
    (repeat refine ZQ ?_); refine awp_ret ?_; refine And.intro (Or.inr rfl) ?_
    simp [retC, resC, viewC, mapO, hT]
   ·simp [h6] at hd
  ·(repeat refine ZQ ?_); refine ZR fun K hK => ?_; simp (maxSteps := 1000000) [ty28, ty3]
   refine ZP (c1) ?_; simp (maxSteps := 1000000) [ty28, ty26, ty3, h6]
   refine hK _ ?_; clear hK K
   (repeat refine ZQ ?_); refine ZC (hc := by simp [h6]; rfl) (fun hd => ?_) (fun hd => ?_)
   ·simp [h6] at hd
   ·clear hd
    refine awp_skip ?_
    (repeat refine ZQ ?_); refine ZR fun K hK => ?_; simp (maxSteps := 1000000); refine hK _ ?_; clear hK K
    (repeat refine ZQ ?_); refine awp_block ?_
    refine awp_loop (fun i : Nat => ⟨ofL [(1, .ptr 1 10 0 0), (3, encI i)], stoT [(1, 1, .live (obTi t))]⟩)
     (fun i => i ≤ t.ts.length ∧ ∀ j, (h : j < t.ts.length) → j < i → areaB t.ts[j].area = true) (fun i => t.ts.length - i) 0 (by simp) ?_ ?_
    ·exact Zw
    ·intro i ⟨hi, hj⟩
     (repeat refine ZQ ?_); refine ZR fun K hK => ?_; simp (maxSteps := 1000000) [ty28, ty26, ty3]; refine hK _ ?_; clear hK K
     (repeat refine ZQ ?_); refine ZC (fun hc => ?_) (fun hc => ?_)
     ·simp at hc
      refine awp_skip ?_
      (repeat refine ZQ ?_); refine awp_block ?_
      have c2 := q_within60 t.ts[i].area 0 9000
      cases hb : areaB t.ts[i].area
      ·have hb' : withinB t.ts[i].area 0 9000 = false := by simpa [areaB, withinB] using hb
       rw [hb'] at c2
       (repeat refine ZQ ?_); refine ZR fun K hK => ?_; simp (maxSteps := 1000000) [ty28, ty26, ty55, ty3, hc]
       refine ZP (c2) ?_; simp (maxSteps := 1000000)
       refine hK _ ?_; clear hK K; (first | show AWP _ _ _ _ _ | show ∃ _, _ | skip)
       have hT : checkT t = 90 := by
        have hal : t.ts.all (fun x => areaB x.area) = false := by
         rw [List.all_eq_false]
         exact ⟨_, List.getElem_mem hc, by rw [hb]; decide⟩
        unfold checkT; rw [if_pos (.inr (.inr hal))]
       (repeat refine ZQ ?_); refine ZC (fun hd => ?_) (fun hd => ?_)
       ·clear hd
        (repeat refine ZQ ?_); refine ZR fun K hK => ?_; simp (maxSteps := 1000000); refine hK _ ?_; clear hK K
        (repeat refine ZQ ?_); refine awp_ret ?_; refine And.intro (Or.inr rfl) ?_
        simp [retC, resC, viewC, mapO, hT]
       ·simp at hd
      ·have hb' : withinB t.ts[i].area 0 9000 = true := by simpa [areaB, withinB] using hb
       rw [hb'] at c2
       (repeat refine ZQ ?_); refine ZR fun K hK => ?_; simp (maxSteps := 1000000) [ty28, ty26, ty55, ty3, hc]
       refine ZP (c2) ?_; simp (maxSteps := 1000000)
       refine hK _ ?_; clear hK K
       (repeat refine ZQ ?_); refine ZC (fun hd => ?_) (fun hd => ?_)
       ·simp at hd
       ·clear hd
        refine awp_skip ?_
        (repeat refine ZQ ?_); refine ZR fun K hK => ?_; simp (maxSteps := 1000000) [ty3]; refine hK _ ?_; clear hK K; (first | show AWP _ _ _ _ _ | show ∃ _, _ | skip)
        rw [wrap_id (by omega) (by omega)]
        refine ⟨i + 1, ⟨by omega, fun j h4 h5 => ?_⟩, by omega, ?_⟩
        ·by_cases e : j = i
         ·subst e; exact hb
         ·exact hj j h4 (by omega)
        ·exact Zw
     ·simp at hc
      (repeat refine ZQ ?_); refine awp_exit ?_; (first | show AWP _ _ _ _ _ | show ∃ _, _ | skip)
      have hal : t.ts.all (fun x => areaB x.area) = true := by
       rw [List.all_eq_true]
       intro y hy
       obtain ⟨j, h4, rfl⟩ := List.getElem_of_mem hy
       exact hj j h4 (by omega)
      have hT : checkT t = (if t.ts = [] then checkI t.w [] else checksI t.w t.ts) := by
       unfold checkT; rw [if_neg]
       rintro (h | h | h)
       ·have : withinB t.gain 0 50 = false := by simpa [withinB] using h
        rw [h1] at this; cases this
       ·omega
       ·rw [hal] at h; cases h
      (repeat refine ZQ ?_); refine ZR fun K hK => ?_; simp (maxSteps := 1000000); refine hK _ ?_; clear hK K
      (repeat refine ZQ ?_); refine awp_block ?_
      refine awp_loop (fun i : Nat => ⟨ofL [(1, .ptr 1 10 0 0), (4, encI i)], stoT [(1, 1, .live (obTi t))]⟩)
       (fun i => i ≤ t.ts.length ∧ ∀ j, (h : j < t.ts.length) → j < i → checkI t.w t.ts[j].l = 0) (fun i => t.ts.length - i) 0 (by simp) ?_ ?_
      ·exact Zw
      ·intro i ⟨hi, hj⟩
       (repeat refine ZQ ?_); refine ZR fun K hK => ?_; simp (maxSteps := 1000000) [ty28, ty26, ty3]; refine hK _ ?_; clear hK K
       (repeat refine ZQ ?_); refine ZC (fun hc => ?_) (fun hc => ?_)
       ·simp at hc
        refine awp_skip ?_
        (repeat refine ZQ ?_); refine awp_block ?_
        have h0 : t.ts ≠ [] := by intro e; rw [e] at hc; simp at hc
        (repeat refine ZQ ?_); refine ZD [] [0, 1, 2, 3, 4, 5, 6, 7, 8, 9] fun K hK => ?_; simp (maxSteps := 1000000) [ty28, ty25, ty26, ty55, ty53, hc]
        refine ZE (ref31 t.w t.ts[i].nl t.ts[i].fu t.ts[i].l (hn.l _ (List.getElem_mem hc))) ?_; simp (maxSteps := 1000000)
        refine hK _ ?_; clear hK K
        (repeat refine ZQ ?_); refine ZR fun K hK => ?_; simp (maxSteps := 1000000) [ty34]; refine hK _ ?_; clear hK K; (first | show AWP _ _ _ _ _ | show ∃ _, _ | skip)
        by_cases hz : checkI t.w t.ts[i].l = 0
        ·(repeat refine ZQ ?_); refine ZC (hc := by simp [hz]; rfl) (fun hd => ?_) (fun hd => ?_)
         ·simp at hd
         ·clear hd
          refine awp_skip ?_
          (repeat refine ZQ ?_); refine ZR fun K hK => ?_; simp (maxSteps := 1000000) [ty3]; refine hK _ ?_; clear hK K; (first | show AWP _ _ _ _ _ | show ∃ _, _ | skip)
          rw [wrap_id (by omega) (by omega)]
          refine ⟨i + 1, ⟨by omega, fun j h4 h5 => ?_⟩, by omega, ?_⟩
          ·by_cases e : j = i
           ·subst e; exact hz
           ·exact hj j h4 (by omega)
          ·exact Zw
        ·(repeat refine ZQ ?_); refine ZC (hc := by simp [hz]; rfl) (fun hd => ?_) (fun hd => ?_)
         ·clear hd
          (repeat refine ZQ ?_); refine ZR fun K hK => ?_; simp (maxSteps := 1000000); refine hK _ ?_; clear hK K
          (repeat refine ZQ ?_); refine awp_ret ?_; refine And.intro (Or.inr rfl) ?_
          simp [retC, resC, viewC, mapO, hT, h0, checksI_at hc hj hz]
         ·simp [hz] at hd
       ·simp at hc
        (repeat refine ZQ ?_); refine awp_exit ?_
        (repeat refine ZQ ?_); refine ZR fun K hK => ?_; simp (maxSteps := 1000000) [ty28, ty25]
        refine ZP (ref31 t.w true true [] (by simp)) ?_; simp (maxSteps := 1000000)
        refine hK _ ?_; clear hK K
        (repeat refine ZQ ?_); refine awp_ret ?_; refine And.intro (Or.inr rfl) ?_
        have hjj : ∀ j, (h : j < t.ts.length) → checkI t.w t.ts[j].l = 0 := fun j h => hj j h (by omega)
        by_cases h0 : t.ts = []
        ·simp [retC, resC, viewC, mapO, hT, h0]
        ·have hw0 : checkI t.w [] = 0 := by
          obtain ⟨y, hy⟩ := List.exists_mem_of_ne_nil _ h0
          obtain ⟨j, h4, rfl⟩ := List.getElem_of_mem hy
          have := wheelB_iff.2 (checkI_ok (hjj j h4)).1
          simp [checkI, this]
         simp [retC, resC, viewC, mapO, hT, h0, checksI_all hjj, hw0]

theorem testBit_all {n i : Nat} (h : i < n) : (2 ^ n - 1).testBit i = true := by
 rw [Nat.testBit_two_pow_sub_one]; simpa using h

theorem isTrB_okS {t : Ti} {k : Tr} (hk : k ∈ allT (gwT t)) : isTrB t k = okS t (allS t) k := by
 have h1 := allT_mem.1 hk
 have e1 : (gwT t).glow = -t.gain := rfl
 have e2 : (gwT t).ghigh = t.gain := rfl
 have e3 : (gwT t).skew = t.w.skew := rfl
 rw [e1, e2, e3] at h1
 have h2 : isTrB t k = t.ts.all (fun y => allowB t.w y k) := by
  unfold isTrB withinB
  simp [h1]
 rw [h2]
 cases hb : t.ts.all (fun y => allowB t.w y k)
 ·rw [List.all_eq_false] at hb
  obtain ⟨y, hy, hb⟩ := hb
  obtain ⟨j, h4, rfl⟩ := List.getElem_of_mem hy
  exact (okS_false h4 (testBit_all h4) (by simpa using hb)).symm
 ·rw [List.all_eq_true] at hb
  exact (okS_true fun i hi _ => hb _ (List.getElem_mem hi)).symm

theorem truths_filter (t : Ti) : (allT (gwT t)).filter (isTrB t) = truthsS t (allS t) :=
 List.filter_congr fun k hk => isTrB_okS hk

/-- The truths that are known. -/
def knownT (t : Ti) (is : Bool) : List Tr := if openT t is = 0 then truthsS t (allS t) else []

set_option maxHeartbeats 4000000

theorem kinds_ends {f : Tr → Int} {L : List Tr} {lo hi : Int} (h1 : ∃ k ∈ L, f k = lo) (h2 : ∀ k ∈ L, lo ≤ f k) (h3 : ∃ k ∈ L, f k = hi) (h4 : ∀ k ∈ L, f k ≤ hi) :
  (kindsL f L).headD 0 = lo ∧ (kindsL f L).getLastD 0 = hi := by
 have hs := kindsL_sorted f L
 have hm := kindsL_mem f L
 have hp : 0 < (kindsL f L).length := by
  obtain ⟨k, hk, e⟩ := h1
  exact List.length_pos_of_mem ((hm lo).2 ⟨k, hk, e⟩)
 obtain ⟨e1, e2⟩ := ends_eq _ hp
 rw [e1, e2]
 have le0 : ∀ b ∈ kindsL f L, (kindsL f L)[0] ≤ b := by
  intro b hb
  obtain ⟨i, hi, rfl⟩ := List.getElem_of_mem hb
  by_cases e : i = 0
  ·subst e; exact Int.le_refl _
  ·exact List.pairwise_iff_getElem.1 hs 0 i hp hi (by omega)
 have leN : ∀ b ∈ kindsL f L, b ≤ (kindsL f L)[(kindsL f L).length - 1] := by
  intro b hb
  obtain ⟨i, hi, rfl⟩ := List.getElem_of_mem hb
  by_cases e : i = (kindsL f L).length - 1
  ·subst e; exact Int.le_refl _
  ·exact List.pairwise_iff_getElem.1 hs i _ hi (by omega) (by omega)
 constructor
 ·obtain ⟨k, hk, e⟩ := (hm _).1 (List.getElem_mem hp)
  have g1 := h2 k hk
  have g2 := le0 lo ((hm lo).2 h1)
  omega
 ·obtain ⟨k, hk, e⟩ := (hm _).1 (List.getElem_mem (show (kindsL f L).length - 1 < (kindsL f L).length by omega))
  have g1 := h4 k hk
  have g2 := leN hi ((hm hi).2 h3)
  omega

theorem truthsS_sorted (t : Ti) (n : Nat) : (truthsS t n).Pairwise fun a b => a.area ≤ b.area := (allT_sorted (gwT t)).filter _

theorem gains_nums (t : Ti) : areasR (knownT t true) = numsT Tr.area t true := by
 unfold knownT numsT
 split
 ·exact areasR_eq (truthsS_sorted t _)
 ·rfl

set_option maxHeartbeats 4000000

def mnT (f : Tr → Int) (a : Int) (L : List Tr) : Int := L.foldl (fun x k => if f k < x then f k else x) a
def mxT (f : Tr → Int) (a : Int) (L : List Tr) : Int := L.foldl (fun x k => if x < f k then f k else x) a

theorem mnT_spec (f : Tr → Int) : ∀ (L : List Tr) (a : Int), mnT f a L ≤ a ∧ (∀ k ∈ L, mnT f a L ≤ f k) ∧ (mnT f a L = a ∨ ∃ k ∈ L, f k = mnT f a L)
 | [], a => by simp [mnT]
 | k :: L, a => by
  have ih := mnT_spec f L (if f k < a then f k else a)
  have e : mnT f a (k :: L) = mnT f (if f k < a then f k else a) L := rfl
  rw [e]
  obtain ⟨h1, h2, h3⟩ := ih
  refine ⟨by split at h1 <;> rename_i h <;> (first | rw [if_pos h]; omega | rw [if_neg h]; omega), fun q hq => ?_, ?_⟩
  ·rcases List.mem_cons.1 hq with rfl | hq
   ·split at h1 <;> rename_i h <;> (first | rw [if_pos h]; omega | rw [if_neg h]; omega)
   ·exact h2 q hq
  ·rcases h3 with h3 | ⟨q, hq, h3⟩
   ·by_cases h : f k < a
    ·rw [if_pos h] at h3 ⊢
     exact .inr ⟨k, by simp, h3.symm⟩
    ·rw [if_neg h] at h3 ⊢
     exact .inl h3
   ·exact .inr ⟨q, by simp [hq], h3⟩

theorem mxT_spec (f : Tr → Int) : ∀ (L : List Tr) (a : Int), a ≤ mxT f a L ∧ (∀ k ∈ L, f k ≤ mxT f a L) ∧ (mxT f a L = a ∨ ∃ k ∈ L, f k = mxT f a L)
 | [], a => by simp [mxT]
 | k :: L, a => by
  have ih := mxT_spec f L (if a < f k then f k else a)
  have e : mxT f a (k :: L) = mxT f (if a < f k then f k else a) L := rfl
  rw [e]
  obtain ⟨h1, h2, h3⟩ := ih
  refine ⟨by split at h1 <;> rename_i h <;> (first | rw [if_pos h]; omega | rw [if_neg h]; omega), fun q hq => ?_, ?_⟩
  ·rcases List.mem_cons.1 hq with rfl | hq
   ·split at h1 <;> rename_i h <;> (first | rw [if_pos h]; omega | rw [if_neg h]; omega)
   ·exact h2 q hq
  ·rcases h3 with h3 | ⟨q, hq, h3⟩
   ·by_cases h : a < f k
    ·rw [if_pos h] at h3 ⊢
     exact .inr ⟨k, by simp, h3.symm⟩
    ·rw [if_neg h] at h3 ⊢
     exact .inl h3
   ·exact .inr ⟨q, by simp [hq], h3⟩

theorem ends_mnmx {f : Tr → Int} {t : Ti} {is : Bool} (h : openT t is = 0) (h0 : 0 < (truthsS t (allS t)).length) :
    endsT f t is = (mnT f (f (truthsS t (allS t))[0]) (truthsS t (allS t)), mxT f (f (truthsS t (allS t))[0]) (truthsS t (allS t))) := by
  unfold endsT
  rw [(numsT_ok h).1]
  generalize truthsS t (allS t) = L at *
  obtain ⟨a1, a2, a3⟩ := mnT_spec f L (f L[0])
  obtain ⟨b1, b2, b3⟩ := mxT_spec f L (f L[0])
  have := kinds_ends (f := f) (L := L) (lo := mnT f (f L[0]) L) (hi := mxT f (f L[0]) L)
    (by rcases a3 with a3 | a3
        · exact ⟨_, List.getElem_mem h0, a3.symm⟩
        · exact a3) a2
    (by rcases b3 with b3 | b3
        · exact ⟨_, List.getElem_mem h0, b3.symm⟩
        · exact b3) b2
  rw [this.1, this.2]

set_option maxHeartbeats 4000000

/-- The numbers are those of tests. -/
def InT (t : Ti) (l : List Int) : Prop := ∀ z ∈ l, 0 ≤ z ∧ z < t.ts.length

theorem InT.take {t : Ti} {l : List Int} (h : InT t l) (i : Nat) : InT t (l.take i) := fun z hz => h z (List.mem_of_mem_take hz)

set_option maxHeartbeats 4000000

/-- What a list of tests is like at a place. -/
def ListAt (n : Nat) (l : List Int) (i : Nat) (h : i < l.length) : Prop := (0 ≤ l[i] ∧ l[i] ≤ (n : Int) - 1) ∧ (∀ _ : 0 < i, l[i - 1] < l[i])
/-- The numbers are those of tests, strictly ascending. -/
def ListOk (n : Nat) (l : List Int) : Prop := ∀ i (h : i < l.length), ListAt n l i h

instance (n : Nat) (l : List Int) (i : Nat) (h : i < l.length) : Decidable (ListAt n l i h) := by unfold ListAt; exact inferInstance
instance (n : Nat) (l : List Int) : Decidable (ListOk n l) := by unfold ListOk; exact inferInstance

set_option maxHeartbeats 4000000

-- plain laws of sets and lists

theorem ListOk.lt {n : Nat} {l : List Int} (h : ListOk n l) : l.Pairwise (· < ·) := by
 refine List.pairwise_iff_getElem.2 fun i j hi hj hij => ?_
 obtain ⟨d, rfl⟩ : ∃ d, j = i + 1 + d := ⟨j - i - 1, by omega⟩
 clear hij
 induction d with
 | zero => exact (h (i + 1) hj).2 (by omega)
 | succ d ih =>
  have h1 := ih (by omega)
  have h2 := (h (i + 1 + (d + 1)) hj).2 (by omega)
  simp only [show i + 1 + (d + 1) - 1 = i + 1 + d by omega] at h2
  exact Int.lt_trans h1 h2

set_option maxHeartbeats 8000000

@[simp] abbrev slF (A : List Int) : C := .sl A.isEmpty false (A.map cI)
def rowsF (t : Ti) (S : List Nat) : List (List C) := S.map fun s => [slF (listS t s)]

@[simp] theorem rowsF_len (t : Ti) (S : List Nat) : (rowsF t S).length = S.length := by simp [rowsF]
@[simp] theorem rowsF_pure (t : Ti) (S : List Nat) : (rowsF t S).all purel = true := by simp [rowsF, purel, C.isPure]
set_option maxHeartbeats 8000000

set_option maxHeartbeats 8000000

set_option maxHeartbeats 4000000

set_option maxHeartbeats 4000000

set_option maxHeartbeats 4000000

set_option maxHeartbeats 4000000

theorem fe23 : flatEq Tryz.prog 23 = some [.i64, .i64] := by kernel_rfl

set_option maxHeartbeats 4000000

def wX : Wh := ⟨100, 0, 0, 2, 0, 40, 60, 0⟩
def yA : Wl := ⟨1, 1, 0, 10, 62⟩
def yB : Wl := ⟨1, -1, 0, 62, 16⟩

theorem example48 : Pure Tryz.prog 36 [] (.tup [encWh wX, sWl false true [yA, yB]]) := by
 refine ZF (fn := Tryz.f36) [.cell 0 25, .tmp 1] ⟨Tryz.func36, rfl, by kernel_rfl⟩ fun x hx hσ => ?_
 (repeat refine ZQ ?_); refine ZR fun K hK => ?_; simp (maxSteps := 1000000) [ty25]; refine hK _ ?_; clear hK K
 (repeat refine ZQ ?_); refine ZR fun K hK => ?_; simp (maxSteps := 1000000) [ty25, ty23, ty82, ty53]; refine hK _ ?_; clear hK K
 (repeat refine ZQ ?_); refine awp_ret ?_; refine And.intro (Or.inr rfl) ?_
 simp [retC, resC, viewC, mapO, ty25, wX, yA, yB]

theorem wk_open2 : openI wX [yA, yB] true = 0 := by decide +kernel
theorem wk_areas : numsI Tr.area wX [yA, yB] = [53] := by decide +kernel
set_option maxHeartbeats 8000000

-- what the laws use: the example, what is far, what is the same

def tX : Ti := ⟨wX, 20, false, true, [⟨1000, false, true, [⟨1, 1, 0, 10, 12⟩]⟩, ⟨1000, false, true, [⟨1, -1, 0, 0, 4⟩]⟩, ⟨2000, false, true, [⟨-1, 1, 0, 50, 43⟩]⟩]⟩

theorem example45 : Pure Tryz.prog 38 [] (encTi tX) := by
 have h := example48
 simp only [encWh, cWh, sWl, cWl, wX, yA, yB, List.map_cons, List.map_nil] at h
 refine ZF (fn := Tryz.f38) [.cell 0 28] ⟨Tryz.func38, rfl, by kernel_rfl⟩ fun x hx hσ => ?_
 (repeat refine ZQ ?_); refine ZR fun K hK => ?_; simp (maxSteps := 1000000) [ty28]; refine hK _ ?_; clear hK K
 (repeat refine ZQ ?_); refine ZR fun K hK => ?_; simp (maxSteps := 1000000) [ty25]
 refine ZP (h) ?_; simp (maxSteps := 1000000) [ty25, ty53]
 refine hK _ ?_; clear hK K
 (repeat refine ZQ ?_); refine ZR fun K hK => ?_; simp (maxSteps := 1000000) [ty25, ty82, ty53, ty55, ty26, ty28]; refine hK _ ?_; clear hK K
 (repeat refine ZQ ?_); refine awp_ret ?_; refine And.intro (Or.inr rfl) ?_
 simp [retC, resC, viewC, mapO, ty28, tX, wX]

theorem tX_len : TiLen tX := ⟨by decide, by decide⟩
theorem tX_open : openT tX true = 0 := by decide +kernel
theorem tX_gains : numsT Tr.area tX true = [3] := by decide +kernel
end Go.Proofs.YtbelmomdndjjkaaGreat

