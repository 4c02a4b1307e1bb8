/- The machine of abstract values and the contracts of the functions of the program, which the statements of this seat share. No condition. -/
import Derived.Test.YtbhbmnofmoibhaaB3

set_option linter.unusedSimpArgs false
set_option linter.unusedVariables false
set_option linter.constructorNameAsVariable false

namespace Go.Proofs.Ytbhbmnofmoibhaa
open Go Go.Abs

set_option maxHeartbeats 4000000


theorem check29 (t : Ti) (hn : TiLen t) : Pure Try.prog 58 [encTi t] (encI (checkT t)) := by
  have hlt := hn.ts
  refine pure_of (fn := Try.f58) [.tmp 2] ⟨Try.func58, rfl, by kernel_rfl⟩ (by kernel_rfl) (by kernel_rfl) (by kernel_rfl) fun x hx hσ => ?_
  (repeat refine awp_seq ?_); refine awp_reg1 (by rw [hx]; kernel_rfl) fun K hK => ?_; simp (maxSteps := 1000000) [ty28]; refine hK _ ?_; clear hK K; (first | show AWP _ _ _ _ _ | show ∃ _, _ | skip)
  (repeat refine awp_seq ?_); refine awp_reg1 (by rw [hx]; kernel_rfl) fun K hK => ?_; simp (maxSteps := 1000000) []; refine hK _ ?_; clear hK K; (first | show AWP _ _ _ _ _ | show ∃ _, _ | skip)
  cases hg : (decide (0 ≤ t.gain) && decide (t.gain ≤ 50))
  · have hT : checkT t = 90 := by unfold checkT; rw [if_pos (.inl hg)]
    (repeat refine awp_seq ?_); refine awp_reg1 (by rw [hx]; kernel_rfl) fun K hK => ?_; simp (maxSteps := 1000000) [ty28, ty3]
    refine callP (within69 t.gain 0 50) (by first | (simp; done) | (simp [*]; done)) ?_; simp (maxSteps := 1000000) [hg, ty3]
    refine hK _ ?_; clear hK K; (first | show AWP _ _ _ _ _ | show ∃ _, _ | skip)
    · (repeat refine awp_seq ?_); refine awp_cond (by simp [hg]; rfl) (by rw [hx]; simp) (fun hd => ?_) (fun hd => ?_)
      · clear hd
        (repeat refine awp_seq ?_); refine awp_reg1 (by rw [hx]; kernel_rfl) fun K hK => ?_; simp (maxSteps := 1000000) []; refine hK _ ?_; clear hK K; (first | show AWP _ _ _ _ _ | show ∃ _, _ | skip)
        (repeat refine awp_seq ?_); refine awp_ret ?_; refine And.intro (Or.inr rfl) ?_
        simp [retC, resC, viewC, mapO, hT]
      · simp [hg] at hd
  · by_cases h6 : (6 : Int) < (t.ts.length : Int)
    · have hT : checkT t = 90 := by unfold checkT; rw [if_pos (.inr (.inl (by omega)))]
      (repeat refine awp_seq ?_); refine awp_reg1 (by rw [hx]; kernel_rfl) fun K hK => ?_; simp (maxSteps := 1000000) [ty28, ty3]
      refine callP (within69 t.gain 0 50) (by first | (simp; done) | (simp [*]; done)) ?_; simp (maxSteps := 1000000) [hg, ty3, ty28, ty26, h6]
      refine hK _ ?_; clear hK K; (first | show AWP _ _ _ _ _ | show ∃ _, _ | skip)
      · (repeat refine awp_seq ?_); refine awp_cond (by simp [h6]; rfl) (by rw [hx]; simp) (fun hd => ?_) (fun hd => ?_)
        · clear hd
          (repeat refine awp_seq ?_); refine awp_reg1 (by rw [hx]; kernel_rfl) fun K hK => ?_; simp (maxSteps := 1000000) []; refine hK _ ?_; clear hK K; (first | show AWP _ _ _ _ _ | show ∃ _, _ | skip)
          (repeat refine awp_seq ?_); refine awp_ret ?_; refine And.intro (Or.inr rfl) ?_
          simp [retC, resC, viewC, mapO, hT]
        · simp [h6] at hd
    · cases ha : t.ts.all (fun x => areaB x.area)
      · have hT : checkT t = 90 := by unfold checkT; rw [if_pos (.inr (.inr ha))]
        (repeat refine awp_seq ?_); refine awp_reg1 (by rw [hx]; kernel_rfl) fun K hK => ?_; simp (maxSteps := 1000000) [ty28, ty3]
        refine callP (within69 t.gain 0 50) (by first | (simp; done) | (simp [*]; done)) ?_; simp (maxSteps := 1000000) [hg, ty3, ty28, ty26, h6]
        refine callP (contains70 t.nl t.fu t.ts hlt) (by first | (simp; done) | (simp [*]; done)) ?_; simp (maxSteps := 1000000) [ha]
        refine hK _ ?_; clear hK K; (first | show AWP _ _ _ _ _ | show ∃ _, _ | skip)
        · (repeat refine awp_seq ?_); refine awp_cond (by simp [ha]; rfl) (by rw [hx]; simp) (fun hd => ?_) (fun hd => ?_)
          · clear hd
            (repeat refine awp_seq ?_); refine awp_reg1 (by rw [hx]; kernel_rfl) fun K hK => ?_; simp (maxSteps := 1000000) []; refine hK _ ?_; clear hK K; (first | show AWP _ _ _ _ _ | show ∃ _, _ | skip)
            (repeat refine awp_seq ?_); refine awp_ret ?_; refine And.intro (Or.inr rfl) ?_
            simp [retC, resC, viewC, mapO, hT]
          · simp [ha] at hd
      · have hT : checkT t = (if t.ts = [] then checkI t.w [] else checksI t.w t.ts) := by
          unfold checkT; rw [if_neg]
          rintro (h1 | h1 | h1)
          · rw [hg] at h1; cases h1
          · omega
          · rw [ha] at h1; cases h1
        (repeat refine awp_seq ?_); refine awp_reg1 (by rw [hx]; kernel_rfl) fun K hK => ?_; simp (maxSteps := 1000000) [ty28, ty3]
        refine callP (within69 t.gain 0 50) (by first | (simp; done) | (simp [*]; done)) ?_; simp (maxSteps := 1000000) [hg, ty3, ty28, ty26, h6]
        refine callP (contains70 t.nl t.fu t.ts hlt) (by first | (simp; done) | (simp [*]; done)) ?_; simp (maxSteps := 1000000) [ha]
        refine hK _ ?_; clear hK K; (first | show AWP _ _ _ _ _ | show ∃ _, _ | skip)
        (repeat refine awp_seq ?_); refine awp_cond (by simp [ha]; rfl) (by rw [hx]; simp) (fun hd => ?_) (fun hd => ?_)
        · simp [ha] at hd
        · clear hd
          refine awp_skip ?_; (first | show AWP _ _ _ _ _ | show ∃ _, _ | skip)
          by_cases h0 : t.ts = []
          · have h0' : (t.ts.length : Int) = 0 := by rw [h0]; rfl
            (repeat refine awp_seq ?_); refine awp_reg1 (by rw [hx]; kernel_rfl) fun K hK => ?_; simp (maxSteps := 1000000) [ty28, ty26, ty3, h0']; refine hK _ ?_; clear hK K; (first | show AWP _ _ _ _ _ | show ∃ _, _ | skip)
            (repeat refine awp_seq ?_); refine awp_cond (by simp [h0']; rfl) (by rw [hx]; simp) (fun hd => ?_) (fun hd => ?_)
            · clear hd
              (repeat refine awp_seq ?_); refine awp_reg1 (by rw [hx]; kernel_rfl) fun K hK => ?_; simp (maxSteps := 1000000) [ty28, ty25]
              refine callP (check30 t.w true true [] (by simp)) (by first | (simp; done) | (simp [*]; done)) ?_; simp (maxSteps := 1000000) []
              refine hK _ ?_; clear hK K; (first | show AWP _ _ _ _ _ | show ∃ _, _ | skip)
              (repeat refine awp_seq ?_); refine awp_ret ?_; refine And.intro (Or.inr rfl) ?_
              simp [retC, resC, viewC, mapO, hT, h0]
            · simp [h0'] at hd
          · have h0' : ((t.ts.length : Int) == 0) = false := by
              rw [beq_eq_false_iff_ne]
              intro e; exact h0 (List.eq_nil_of_length_eq_zero (by omega))
            (repeat refine awp_seq ?_); refine awp_reg1 (by rw [hx]; kernel_rfl) fun K hK => ?_; simp (maxSteps := 1000000) [ty28, ty26, ty3, h0']; refine hK _ ?_; clear hK K; (first | show AWP _ _ _ _ _ | show ∃ _, _ | skip)
            (repeat refine awp_seq ?_); refine awp_cond (by simp [h0']; rfl) (by rw [hx]; simp) (fun hd => ?_) (fun hd => ?_)
            · simp [h0'] at hd
            · clear hd
              refine awp_skip ?_; (first | show AWP _ _ _ _ _ | show ∃ _, _ | skip)
              (repeat refine awp_seq ?_); refine awp_reg1 (by rw [hx]; kernel_rfl) fun K hK => ?_; simp (maxSteps := 1000000) [ty28, ty26]; refine hK _ ?_; clear hK K; (first | show AWP _ _ _ _ _ | show ∃ _, _ | skip)
              (repeat refine awp_seq ?_); refine awp_block ?_
              refine awp_loop (fun i : Nat => ⟨ofL [(1, .ptr 1 10 0 0), (31, sTs t.nl t.fu t.ts), (32, encI t.ts.length), (33, encI i)], stoT [(1, 1, .live (obTi t))]⟩)
                (fun i => i ≤ t.ts.length ∧ ∀ j, (h : j < t.ts.length) → j < i → checkI t.w t.ts[j].l = 0) (fun i => t.ts.length - i) 0 (by simp) ?_ ?_
              · refine wk_shape (shp0 hσ (by simp) (by simp) ?_) ?_
                · simp [SlotOk] <;> (repeat' (first | exact .same (by simp [purel, C.isPure]) | exact .cons (by simp [mtl, mtc, mT, mH, C.isPure, purel]) (by simp) .nil | refine And.intro ?_ ?_))
                · simp [mtc, mtl, mT, C.isPure, purel] <;> (try simp (disch := omega) [wrap_id]) <;> (try omega)
              · intro i ⟨hi, hj⟩
                (repeat refine awp_seq ?_); refine awp_reg1 (by rw [hx]; kernel_rfl) fun K hK => ?_; simp (maxSteps := 1000000) [ty3]; refine hK _ ?_; clear hK K; (first | show AWP _ _ _ _ _ | show ∃ _, _ | skip)
                (repeat refine awp_seq ?_); refine awp_cond (by simp; rfl) (by rw [hx]; simp) (fun hc1 => ?_) (fun hc1 => ?_)
                · simp at hc1
                  refine awp_skip ?_; (first | show AWP _ _ _ _ _ | show ∃ _, _ | skip)
                  (repeat refine awp_seq ?_); refine awp_block ?_
                  (repeat refine awp_seq ?_); refine awp_reg1 (by rw [hx]; kernel_rfl) fun K hK => ?_; simp (maxSteps := 1000000) [ty26, ty46, hc1]; refine hK _ ?_; clear hK K; (first | show AWP _ _ _ _ _ | show ∃ _, _ | skip)
                  (repeat refine awp_seq ?_); refine awp_reg1 (by rw [hx]; kernel_rfl) fun K hK => ?_; simp (maxSteps := 1000000) [ty28, ty25, ty46, ty44]
                  refine callP (check30 t.w t.ts[i].nl t.ts[i].fu t.ts[i].l (hn.l _ (List.getElem_mem hc1))) (by first | (simp; done) | (simp [*]; done)) ?_; simp (maxSteps := 1000000) []
                  refine hK _ ?_; clear hK K; (first | show AWP _ _ _ _ _ | show ∃ _, _ | skip)
                  (repeat refine awp_seq ?_); refine awp_reg1 (by rw [hx]; kernel_rfl) fun K hK => ?_; simp (maxSteps := 1000000) [ty34]; refine hK _ ?_; clear hK K; (first | show AWP _ _ _ _ _ | show ∃ _, _ | skip)
                  by_cases hz : checkI t.w t.ts[i].l = 0
                  · (repeat refine awp_seq ?_); refine awp_cond (by simp [hz]; rfl) (by rw [hx]; simp) (fun hd => ?_) (fun hd => ?_)
                    · simp at hd
                    · clear hd
                      refine awp_skip ?_; (first | show AWP _ _ _ _ _ | show ∃ _, _ | skip)
                      (repeat refine awp_seq ?_); refine awp_reg1 (by rw [hx]; kernel_rfl) fun K hK => ?_; simp (maxSteps := 1000000) [ty3]; refine hK _ ?_; clear hK K; (first | show AWP _ _ _ _ _ | show ∃ _, _ | skip)
                      refine ⟨i + 1, ⟨by omega, fun j h1 h2 => ?_⟩, by omega, ?_⟩
                      · by_cases hji : j = i
                        · subst hji; assumption
                        · exact hj j h1 (by omega)
                      · refine wk_shape (shp0 hσ (by simp) (by simp) ?_) ?_
                        · simp [SlotOk] <;> (repeat' (first | exact .same (by simp [purel, C.isPure]) | exact .cons (by simp [mtl, mtc, mT, mH, C.isPure, purel]) (by simp) .nil | refine And.intro ?_ ?_))
                        · simp [mtc, mtl, mT, C.isPure, purel] <;> (try simp (disch := omega) [wrap_id]) <;> (try omega)
                  · (repeat refine awp_seq ?_); refine awp_cond (by simp [hz]; rfl) (by rw [hx]; simp) (fun hd => ?_) (fun hd => ?_)
                    · clear hd
                      (repeat refine awp_seq ?_); refine awp_reg1 (by rw [hx]; kernel_rfl) fun K hK => ?_; simp (maxSteps := 1000000) []; refine hK _ ?_; clear hK K; (first | show AWP _ _ _ _ _ | show ∃ _, _ | skip)
                      (repeat refine awp_seq ?_); refine awp_ret ?_; refine And.intro (Or.inr rfl) ?_
                      simp [retC, resC, viewC, mapO, hT, h0, checksI_at hc1 hj hz]
                    · simp [hz] at hd
                · simp at hc1
                  (repeat refine awp_seq ?_); refine awp_exit ?_; (first | show AWP _ _ _ _ _ | show ∃ _, _ | skip)
                  (repeat refine awp_seq ?_); refine awp_reg1 (by rw [hx]; kernel_rfl) fun K hK => ?_; simp (maxSteps := 1000000) []; refine hK _ ?_; clear hK K; (first | show AWP _ _ _ _ _ | show ∃ _, _ | skip)
                  (repeat refine awp_seq ?_); refine awp_ret ?_; refine And.intro (Or.inr rfl) ?_
                  simp [retC, resC, viewC, mapO, hT, h0, checksI_all (fun j h => hj j h (by omega))]

/-- What a trial that is valid is like. -/
structure TiOk (t : Ti) : Prop where
  gain : 0 ≤ t.gain ∧ t.gain ≤ 50
  len : t.ts.length ≤ 6
  area : ∀ x ∈ t.ts, 0 ≤ x.area ∧ x.area ≤ 9000
  wh : WhOk t.w
  chk : ∀ x ∈ t.ts, checkI t.w x.l = 0

theorem checksI_zero {w : Wh} {l : List Ts} (h : checksI w l = 0) : ∀ x ∈ l, checkI w x.l = 0 := by
  induction l with
  | nil => simp
  | cons x l ih =>
    unfold checksI at h
    split at h
    · contradiction
    · rename_i h0
      intro y hy
      rcases List.mem_cons.1 hy with rfl | hy
      · exact Classical.byContradiction fun e => h0 e
      · exact ih h y hy

theorem checkT_ok {t : Ti} : checkT t = 0 ↔ TiOk t := by
  constructor
  · intro h
    unfold checkT at h
    split at h
    · omega
    · rename_i h1
      simp only [not_or, Bool.not_eq_false, Bool.and_eq_true, decide_eq_true_eq] at h1
      obtain ⟨h1, h2, h3⟩ := h1
      have hch : ∀ x ∈ t.ts, checkI t.w x.l = 0 := by
        split at h
        · rename_i h4; rw [h4]; simp
        · exact checksI_zero h
      have hwh : WhOk t.w := by
        split at h
        · exact (checkI_ok h).1
        · rename_i h4
          obtain ⟨x, hx⟩ := List.exists_mem_of_ne_nil _ h4
          exact (checkI_ok (hch x hx)).1
      refine ⟨h1, by omega, fun x hx => ?_, hwh, hch⟩
      rw [List.all_eq_true] at h3
      have := h3 x hx
      simpa [areaB] using this
  · intro h
    unfold checkT
    rw [if_neg]
    · split
      · have := h.wh
        have h2 : wheelB t.w = true := wheelB_iff.2 this
        simp [checkI, h2]
      · exact checksI_all fun j hj => h.chk _ (List.getElem_mem hj)
    · rintro (h1 | h1 | h1)
      · have := h.gain
        simp [this] at h1
      · have := h.len; omega
      · have : t.ts.all (fun x => areaB x.area) = true := by
          rw [List.all_eq_true]
          intro x hx
          have := h.area x hx
          simp [areaB, this]
        rw [this] at h1; cases h1

theorem TiOk.num {t : Ti} (h : TiOk t) : TiNum t := ⟨h.gain, by have := h.wh.skew; omega⟩

end Go.Proofs.Ytbhbmnofmoibhaa

namespace Go.Proofs.Ytbhbmnofmoibhaa
open Go Go.Abs

set_option maxHeartbeats 4000000

theorem bit_fact6 : ∀ s : Fin 64, ∀ i : Fin 8, ((IntKind.u64).wrap ((((s.val : Int).fdiv (2 ^ min i.val IntKind.u64.bits) % 2 ^ IntKind.u64.bits).toNat &&& 1 % 2 ^ IntKind.u64.bits : Nat) : Int) == 1) = Nat.testBit s.val i.val := by
  decide +kernel

theorem has99 (s i : Nat) (hs : s < 64) (hi : i < 8) : Pure Try.prog 67 [.int .u64 s, encI i] (.bool (s.testBit i)) := by
  have := bit_fact6 ⟨s, hs⟩ ⟨i, hi⟩
  simp only at this
  have h0 : (0 : Int) ≤ i := by omega
  have h1 : ¬ (i : Int) < 0 := by omega
  refine pure_of (fn := Try.f67) [.tmp 4] ⟨Try.func67, rfl, by kernel_rfl⟩ (by kernel_rfl) (by kernel_rfl) (by kernel_rfl) fun x hx hσ => ?_
  (repeat refine awp_seq ?_); refine awp_reg1 (by rw [hx]; kernel_rfl) fun K hK => ?_; simp (maxSteps := 1000000) []; refine hK _ ?_; clear hK K; (first | show AWP _ _ _ _ _ | show ∃ _, _ | skip)
  (repeat refine awp_seq ?_); refine awp_reg1 (by rw [hx]; kernel_rfl) fun K hK => ?_; simp (maxSteps := 1000000) [ty77, ty3, h0, h1]; refine hK _ ?_; clear hK K; (first | show AWP _ _ _ _ _ | show ∃ _, _ | skip)
  rw [this]
  (repeat refine awp_seq ?_); refine awp_ret ?_; refine And.intro (Or.inr rfl) ?_
  simp [retC, resC, viewC, mapO]

/-- Whether a truth is allowed by those tests that a set has. -/
def okS (t : Ti) (n : Nat) (k : Tr) : Bool := (List.range t.ts.length).all fun i => !n.testBit i || (match t.ts[i]? with | some y => allowB t.w y k | none => true)
/-- The truths if just some tests were made. -/
def truthsS (t : Ti) (n : Nat) : List Tr := (allT (gwT t)).filter (okS t n)
/-- What a test allows, as a map's rows. -/
def alR (t : Ti) (y : Ts) : List (List C) := ((allT (gwT t)).filter (allowB t.w y)).map rowK

@[simp] abbrev cFile (t : Ti) (nl fu : Bool) : List C := [encI t.w.full, encI t.w.read, encI t.w.slip, encI t.w.skew, encI t.w.circle, encI t.w.glow, encI t.w.ghigh, encI t.w.wrong, encI t.gain, sTs t.nl t.fu t.ts, .sl nl fu (t.ts.map fun y => [.md false (alR t y)])]
@[simp] abbrev encFile (t : Ti) (nl fu : Bool) : C := .ip (cFile t nl fu) 0

theorem findK (k : Tr) : ∀ (L : List Tr) (i : Nat), (k ∈ L ∧ ∃ j, findC (.flat [.i64, .i64]) (.agg [.int .i64 k.area, .int .i64 k.skew]) (L.map rowK) i = some (some (j, .int .i64 1))) ∨ (k ∉ L ∧ findC (.flat [.i64, .i64]) (.agg [.int .i64 k.area, .int .i64 k.skew]) (L.map rowK) i = some none)
  | [], i => .inr ⟨by simp, rfl⟩
  | y :: L, i => by
    by_cases h : k = y
    · subst h
      refine .inl ⟨by simp, i, ?_⟩
      simp [rowK, findC, sameC, eqInts]
    · have h1 : (decide (k.area = y.area) && decide (k.skew = y.skew)) = false := by
        cases e : (decide (k.area = y.area) && decide (k.skew = y.skew)) with
        | false => rfl
        | true =>
          simp only [Bool.and_eq_true, decide_eq_true_eq] at e
          obtain ⟨a, b⟩ := k
          obtain ⟨c, d⟩ := y
          simp only at e
          exact absurd (by rw [e.1, e.2]) h
      have hs : findC (.flat [.i64, .i64]) (.agg [.int .i64 k.area, .int .i64 k.skew]) ((y :: L).map rowK) i = findC (.flat [.i64, .i64]) (.agg [.int .i64 k.area, .int .i64 k.skew]) (L.map rowK) (i + 1) := by
        simp [rowK, findC, sameC, eqInts, h1]
      rw [hs]
      rcases findK k L (i + 1) with ⟨h2, h3⟩ | ⟨h2, h3⟩
      · exact .inl ⟨by simp [h2], h3⟩
      · exact .inr ⟨by simp [h2, h], h3⟩

theorem findAl (t : Ti) (y : Ts) {k : Tr} (hk : k ∈ allT (gwT t)) : (allowB t.w y k = true ∧ ∃ j, findC (.flat [.i64, .i64]) (.agg [.int .i64 k.area, .int .i64 k.skew]) (alR t y) 0 = some (some (j, .int .i64 1))) ∨
    (allowB t.w y k = false ∧ findC (.flat [.i64, .i64]) (.agg [.int .i64 k.area, .int .i64 k.skew]) (alR t y) 0 = some none) := by
  rcases findK k ((allT (gwT t)).filter (allowB t.w y)) 0 with ⟨h1, h2⟩ | ⟨h1, h2⟩
  · exact .inl ⟨(List.mem_filter.1 h1).2, h2⟩
  · refine .inr ⟨?_, h2⟩
    rw [Bool.eq_false_iff]
    intro e
    exact h1 (List.mem_filter.2 ⟨hk, e⟩)

theorem okS_true {t : Ti} {n : Nat} {k : Tr} (h : ∀ i, (hi : i < t.ts.length) → n.testBit i = true → allowB t.w t.ts[i] k = true) : okS t n k = true := by
  unfold okS
  rw [List.all_eq_true]
  intro i hi
  rw [List.mem_range] at hi
  rw [List.getElem?_eq_getElem hi]
  cases hb : n.testBit i
  · rfl
  · simp [h i hi hb]

theorem okS_false {t : Ti} {n : Nat} {k : Tr} {i : Nat} (hi : i < t.ts.length) (hb : n.testBit i = true) (h : allowB t.w t.ts[i] k = false) : okS t n k = false := by
  unfold okS
  rw [List.all_eq_false]
  refine ⟨i, List.mem_range.2 hi, ?_⟩
  rw [List.getElem?_eq_getElem hi]
  simp [hb, h]

end Go.Proofs.Ytbhbmnofmoibhaa

namespace Go.Proofs.Ytbhbmnofmoibhaa
open Go Go.Abs

set_option maxHeartbeats 4000000

theorem every_bd {t : Ti} (hw : TiNum t) : (allT (gwT t)).length ≤ 410000 := by
  have hs := hw.skew
  have hg := hw.gain
  have hA : (nA (gwT t) : Int) = t.gain - -t.gain + 1 := by unfold nA gwT; simp only; omega
  have hS : (nS (gwT t) : Int) = 2 * t.w.skew + 1 := by unfold nS gwT; simp only; omega
  rw [allT_len]
  have : nA (gwT t) * nS (gwT t) ≤ 101 * 41 := Nat.mul_le_mul (by omega) (by omega)
  omega

theorem it_tr (t : Ti) (nl fu : Bool) (n : Nat) (hw : TiOk t) (hn : n < 64) : ItC Try.prog 1000000 72 [] [.ip [encFile t nl fu] 0, .ip [.int .u64 n] 0] (itTr (truthsS t n)) := by
  have hlen6 := hw.len
  have hbd := every_bd hw.num
  refine it_of (fn := Try.f72) [] ⟨Try.func72, rfl, by kernel_rfl⟩ (by kernel_rfl) (by kernel_rfl) (by kernel_rfl) fun x hx q ks fam stop hrnd hstop hfam hσ hY => ?_; rw [stg_hiS hfam]
  rw [show (itTr (truthsS t n)).length = (truthsS t n).length by simp] at hstop ⊢
  have hmem : ∀ i (h : i < (allT (gwT t)).length), (allT (gwT t))[i] ∈ allT (gwT t) := fun i h => List.getElem_mem h
  have hgetS : ∀ i (h : i < (allT (gwT t)).length), okS t n (allT (gwT t))[i] = true → (itTr (truthsS t n))[((allT (gwT t)).take i).countP (okS t n)]? = some [encTr (allT (gwT t))[i]] := fun i h hb => by
    have := filter_get (okS t n) h hb
    simp [truthsS, this]
  have hstep0 := fun i (h : i < (allT (gwT t)).length) => count_step (okS t n) h
  have hfull : ((allT (gwT t)).take (allT (gwT t)).length).countP (okS t n) = (truthsS t n).length := by
    rw [List.take_length, List.countP_eq_length_filter]; rfl
  have hmono := fun i => count_mono (okS t n) (allT (gwT t)) (a := i) (b := (allT (gwT t)).length)
  have hfind := fun i (h : i < (allT (gwT t)).length) (y : Ts) => findAl t y (hmem i h)
  have hev := every98 t hw.num
  clear hmem
  obtain ⟨L, hL⟩ : ∃ L, L = allT (gwT t) := ⟨_, rfl⟩
  obtain ⟨j, hj⟩ : ∃ j : Nat → Nat, ∀ i, ((allT (gwT t)).take i).countP (okS t n) = j i := ⟨_, fun _ => rfl⟩
  simp only [hj] at hgetS hstep0 hfull hmono
  rw [← hL] at hev hbd
  simp only [← hL] at hgetS hstep0 hfull hmono hfind
  refine awp_scope ?_
  (repeat refine awp_seq ?_)
  refine awp_label ?_
  (repeat refine awp_seq ?_); refine awp_reg1 (by rw [hx]; kernel_rfl) fun K hK => ?_; simp (maxSteps := 1000000) [ty72, ty106, ty28]
  refine freshL hev (by simp [purel, C.isPure]) (by simp) ?_
  simp [ty121]
  refine hK _ ?_; clear hK K; (first | show AWP _ _ _ _ _ | show ∃ _, _ | skip)
  (repeat refine awp_seq ?_); refine awp_block ?_
  refine awp_loop (fun i : Nat => ⟨ofL [(0, .fn (.yield q) [] []), (1, .ip [encFile t nl fu] 0), (2, .ip [.int .u64 n] 0), (12, .own 12 2 0 L.length), (13, encI L.length), (14, encI i)], hiS 1000000 (stoT [(12, 12, .live (obTs L))]) (stg 1000000 fam stop (j i))⟩)
    (fun i => i ≤ L.length ∧ j i ≤ stop) (fun i => L.length - i) 0 ?_ ?_ ?_
  · refine ⟨Nat.zero_le _, ?_⟩
    rw [← hj]; simp
  · have : j 0 = 0 := by rw [← hj]; simp
    rw [this]
    refine wk_shapeH hfam ?_ (by simp) (by simp) (by simp) ?_ (hx_stg hfam hσ) ?_
    · intro k hk
      have hne : ∀ n : Nat, n < 1000 → k ≠ n := fun n hn => by omega
      simp [upd, hk, hne]
    · simp [SlotOk] <;> (repeat' (first | exact .same (by simp [purel, C.isPure]) | exact .cons (by simp [mtl, mtc, mT, mH, C.isPure, purel]) (by simp) .nil | refine And.intro ?_ ?_))
    · simp [mtc, mtl, mH, mT, C.isPure, purel] <;> (try simp (disch := omega) [wrap_id]) <;> (try omega)
  · intro i ⟨hi, hst⟩
    (repeat refine awp_seq ?_); refine awp_reg1 (by rw [hx]; kernel_rfl) fun K hK => ?_; simp (maxSteps := 1000000) [ty3]; refine hK _ ?_; clear hK K; (first | show AWP _ _ _ _ _ | show ∃ _, _ | skip)
    (repeat refine awp_seq ?_); refine awp_cond (by simp; rfl) (by rw [hx]; simp) (fun hc => ?_) (fun hc => ?_)
    · simp at hc
      refine awp_skip ?_; (first | show AWP _ _ _ _ _ | show ∃ _, _ | skip)
      (repeat refine awp_seq ?_); refine awp_block ?_
      have hji := hstep0 i hc
      have hne : L ≠ [] := by intro e; rw [e] at hc; simp at hc
      have hf := hfind i hc
      have hgs := hgetS i hc
      (repeat refine awp_seq ?_); refine awp_reg1 (by rw [hx]; kernel_rfl) fun K hK => ?_; simp (maxSteps := 1000000) [ty121, ty70, hc, hne]; refine hK _ ?_; clear hK K; (first | show AWP _ _ _ _ _ | show ∃ _, _ | skip)
      (repeat refine awp_seq ?_); refine awp_reg1 (by rw [hx]; kernel_rfl) fun K hK => ?_; simp (maxSteps := 1000000) [ty72, ty106, ty104]; refine hK _ ?_; clear hK K; (first | show AWP _ _ _ _ _ | show ∃ _, _ | skip)
      generalize hk : L[i] = k at *
      (repeat refine awp_seq ?_); refine awp_block ?_
      refine awp_loop (fun a : Nat => ⟨ofL [(0, .fn (.yield q) [] []), (1, .ip [encFile t nl fu] 0), (2, .ip [.int .u64 n] 0), (5, .ptr 5 2 0 0), (12, .own 12 2 0 L.length), (13, encI L.length), (14, encI i), (21, .sl nl fu (t.ts.map fun y => [.md false (alR t y)])), (22, encI t.ts.length), (23, encI a)],
          hiS 1000000 (stoT [(5, 5, .live ⟨false, false, 2, [cTr k]⟩), (12, 12, .live (obTs L))]) (stg 1000000 fam stop (j i))⟩)
        (fun a => a ≤ t.ts.length ∧ ∀ b, (h : b < t.ts.length) → b < a → n.testBit b = true → allowB t.w t.ts[b] k = true) (fun a => t.ts.length - a) 0 (by simp) ?_ ?_
      · refine wk_shapeH hfam ?_ (by simp) (by simp) (by simp) ?_ (hx_stg hfam hσ) ?_
        · intro k hk
          have hne : ∀ n : Nat, n < 1000 → k ≠ n := fun n hn => by omega
          simp [upd, hk, hne]
        · simp [SlotOk] <;> (repeat' (first | exact .same (by simp [purel, C.isPure]) | exact .cons (by simp [mtl, mtc, mT, mH, C.isPure, purel]) (by simp) .nil | refine And.intro ?_ ?_))
        · simp [mtc, mtl, mH, mT, C.isPure, purel] <;> (try simp (disch := omega) [wrap_id]) <;> (try omega)
      · intro a ⟨ha, hab⟩
        (repeat refine awp_seq ?_); refine awp_reg1 (by rw [hx]; kernel_rfl) fun K hK => ?_; simp (maxSteps := 1000000) [ty3]; refine hK _ ?_; clear hK K; (first | show AWP _ _ _ _ _ | show ∃ _, _ | skip)
        (repeat refine awp_seq ?_); refine awp_cond (by simp; rfl) (by rw [hx]; simp) (fun hc1 => ?_) (fun hc1 => ?_)
        · simp at hc1
          refine awp_skip ?_; (first | show AWP _ _ _ _ _ | show ∃ _, _ | skip)
          (repeat refine awp_seq ?_); refine awp_block ?_
          (repeat refine awp_seq ?_); refine awp_reg1 (by rw [hx]; kernel_rfl) fun K hK => ?_; simp (maxSteps := 1000000) [ty104, ty107, hc1]; refine hK _ ?_; clear hK K; (first | show AWP _ _ _ _ _ | show ∃ _, _ | skip)
          cases hb : n.testBit a
          · (repeat refine awp_seq ?_); refine awp_reg1 (by rw [hx]; kernel_rfl) fun K hK => ?_; simp (maxSteps := 1000000) [ty77]
            refine callP (has99 n a hn (by omega)) (by first | (simp; done) | (simp [*]; done)) ?_; simp (maxSteps := 1000000) [hb]
            refine hK _ ?_; clear hK K; (first | show AWP _ _ _ _ _ | show ∃ _, _ | skip)
            (repeat refine awp_seq ?_); refine awp_cond (by simp; rfl) (by rw [hx]; simp) (fun hd => ?_) (fun hd => ?_)
            · simp at hd
            · clear hd
              refine awp_skip ?_; (first | show AWP _ _ _ _ _ | show ∃ _, _ | skip)
              (repeat refine awp_seq ?_); refine awp_reg1 (by rw [hx]; kernel_rfl) fun K hK => ?_; simp (maxSteps := 1000000) [ty3]; refine hK _ ?_; clear hK K; (first | show AWP _ _ _ _ _ | show ∃ _, _ | skip)
              refine ⟨a + 1, ⟨by omega, fun b h1 h2 h3 => ?_⟩, by omega, ?_⟩
              · by_cases hba : b = a
                · subst hba; rw [hb] at h3; cases h3
                · exact hab b h1 (by omega) h3
              · refine wk_shapeH hfam ?_ (by simp) (by simp) (by simp) ?_ (hx_stg hfam hσ) ?_
                · intro k hk
                  have hne : ∀ n : Nat, n < 1000 → k ≠ n := fun n hn => by omega
                  simp [upd, hk, hne]
                · simp [SlotOk] <;> (repeat' (first | exact .same (by simp [purel, C.isPure]) | exact .cons (by simp [mtl, mtc, mT, mH, C.isPure, purel]) (by simp) .nil | refine And.intro ?_ ?_))
                · simp [mtc, mtl, mH, mT, C.isPure, purel] <;> (try simp (disch := omega) [wrap_id]) <;> (try omega)
          · rcases hf t.ts[a] with ⟨h1, z, h2⟩ | ⟨h1, h2⟩
            · (repeat refine awp_seq ?_); refine awp_reg1 (by rw [hx]; kernel_rfl) fun K hK => ?_; simp (maxSteps := 1000000) [ty77]
              refine callP (has99 n a hn (by omega)) (by first | (simp; done) | (simp [*]; done)) ?_; simp (maxSteps := 1000000) [hb, ty107, ty70, fe70, ty3, eqInts, h2]
              refine hK _ ?_; clear hK K; (first | show AWP _ _ _ _ _ | show ∃ _, _ | skip)
              (repeat refine awp_seq ?_); refine awp_cond (by simp; rfl) (by rw [hx]; simp) (fun hd => ?_) (fun hd => ?_)
              · simp at hd
              · clear hd
                refine awp_skip ?_; (first | show AWP _ _ _ _ _ | show ∃ _, _ | skip)
                (repeat refine awp_seq ?_); refine awp_reg1 (by rw [hx]; kernel_rfl) fun K hK => ?_; simp (maxSteps := 1000000) [ty3]; refine hK _ ?_; clear hK K; (first | show AWP _ _ _ _ _ | show ∃ _, _ | skip)
                refine ⟨a + 1, ⟨by omega, fun b h1' h2' h3 => ?_⟩, by omega, ?_⟩
                · by_cases hba : b = a
                  · subst hba; exact h1
                  · exact hab b h1' (by omega) h3
                · refine wk_shapeH hfam ?_ (by simp) (by simp) (by simp) ?_ (hx_stg hfam hσ) ?_
                  · intro k hk
                    have hne : ∀ n : Nat, n < 1000 → k ≠ n := fun n hn => by omega
                    simp [upd, hk, hne]
                  · simp [SlotOk] <;> (repeat' (first | exact .same (by simp [purel, C.isPure]) | exact .cons (by simp [mtl, mtc, mT, mH, C.isPure, purel]) (by simp) .nil | refine And.intro ?_ ?_))
                  · simp [mtc, mtl, mH, mT, C.isPure, purel] <;> (try simp (disch := omega) [wrap_id]) <;> (try omega)
            · have hok := okS_false hc1 hb h1
              rw [hok] at hji
              simp at hji
              (repeat refine awp_seq ?_); refine awp_reg1 (by rw [hx]; kernel_rfl) fun K hK => ?_; simp (maxSteps := 1000000) [ty77]
              refine callP (has99 n a hn (by omega)) (by first | (simp; done) | (simp [*]; done)) ?_; simp (maxSteps := 1000000) [hb, ty107, ty70, fe70, ty3, eqInts, h2]
              refine hK _ ?_; clear hK K; (first | show AWP _ _ _ _ _ | show ∃ _, _ | skip)
              (repeat refine awp_seq ?_); refine awp_cond (by simp; rfl) (by rw [hx]; simp) (fun hd => ?_) (fun hd => ?_)
              · clear hd
                (repeat refine awp_seq ?_); refine awp_exit ?_; (first | show AWP _ _ _ _ _ | show ∃ _, _ | skip)
                (repeat refine awp_seq ?_); refine awp_reg1 (by rw [hx]; kernel_rfl) fun K hK => ?_; simp (maxSteps := 1000000) [ty3]; refine hK _ ?_; clear hK K; (first | show AWP _ _ _ _ _ | show ∃ _, _ | skip)
                rw [wrap_id (by omega) (by omega)]
                refine ⟨i + 1, ⟨by omega, by omega⟩, by omega, ?_⟩
                rw [hji]
                refine wk_shapeH hfam ?_ (by simp) (by simp) (by simp) ?_ (hx_stg hfam hσ) ?_
                · intro k hk
                  have hne : ∀ n : Nat, n < 1000 → k ≠ n := fun n hn => by omega
                  simp [upd, hk, hne]
                · simp [SlotOk] <;> (repeat' (first | exact .same (by simp [purel, C.isPure]) | exact .cons (by simp [mtl, mtc, mT, mH, C.isPure, purel]) (by simp) .nil | refine And.intro ?_ ?_))
                · simp [mtc, mtl, mH, mT, C.isPure, purel] <;> (try simp (disch := omega) [wrap_id]) <;> (try omega)
              · simp at hd
        · simp at hc1
          (repeat refine awp_seq ?_); refine awp_exit ?_; (first | show AWP _ _ _ _ _ | show ∃ _, _ | skip)
          have hok : okS t n k = true := okS_true fun b hb1 hb2 => hab b hb1 (by omega) hb2
          rw [hok] at hji
          simp at hji
          (repeat refine awp_seq ?_); refine awp_reg1 (by rw [hx]; kernel_rfl) fun K hK => ?_; simp (maxSteps := 1000000) [ty70]
          refine yieldL hY hst (hgs hok) (by intro k hk; have hne : ∀ n : Nat, n < 1000 → k ≠ n := fun n hn => by omega
                                             simp [upd, hk, hne]) ?_
          simp
          refine hK _ ?_; clear hK K; (first | show AWP _ _ _ _ _ | show ∃ _, _ | skip)
          (repeat refine awp_seq ?_); refine awp_cond (by simp; rfl) (by rw [hx]; simp) (fun hd => ?_) (fun hd => ?_)
          · simp at hd
            (repeat refine awp_seq ?_); refine awp_ret ?_; refine And.intro (Or.inr rfl) ?_
            refine ⟨⟨_, rfl⟩, ?_⟩
            have : finI stop (truthsS t n).length = j i + 1 := by
              have := hmono (i + 1)
              unfold finI; rw [if_pos (by omega)]; omega
            rw [this]
            exact wk_endH hfam hσ (fun k hk => by show (if 1000000 ≤ k then _ else _) = _; rw [if_pos hk])
          · simp at hd
            refine awp_skip ?_; (first | show AWP _ _ _ _ _ | show ∃ _, _ | skip)
            (repeat refine awp_seq ?_); refine awp_reg1 (by rw [hx]; kernel_rfl) fun K hK => ?_; simp (maxSteps := 1000000) [ty3]; refine hK _ ?_; clear hK K; (first | show AWP _ _ _ _ _ | show ∃ _, _ | skip)
            rw [wrap_id (by omega) (by omega)]
            refine ⟨i + 1, ⟨by omega, by omega⟩, by omega, ?_⟩
            rw [hji]
            refine wk_shapeH hfam ?_ (by simp) (by simp) (by simp) ?_ (hx_stg hfam hσ) ?_
            · intro k hk
              have hne : ∀ n : Nat, n < 1000 → k ≠ n := fun n hn => by omega
              simp [upd, hk, hne]
            · simp [SlotOk] <;> (repeat' (first | exact .same (by simp [purel, C.isPure]) | exact .cons (by simp [mtl, mtc, mT, mH, C.isPure, purel]) (by simp) .nil | refine And.intro ?_ ?_))
            · simp [mtc, mtl, mH, mT, C.isPure, purel] <;> (try simp (disch := omega) [wrap_id]) <;> (try omega)
    · simp at hc
      (repeat refine awp_seq ?_); refine awp_exit ?_; (first | show AWP _ _ _ _ _ | show ∃ _, _ | skip)
      have hin : i = L.length := by omega
      refine ⟨by simp, ⟨_, rfl⟩, ?_⟩
      have : finI stop (truthsS t n).length = j i := by
        rw [hin, hfull]
        unfold finI; rw [hin, hfull] at hst; rw [if_neg (by omega)]
      rw [this]
      exact wk_endH hfam hσ (fun k hk => by show (if 1000000 ≤ k then _ else _) = _; rw [if_pos hk])

end Go.Proofs.Ytbhbmnofmoibhaa

/- A slice of an array that is an object: the array becomes an object of its elements. No condition. -/
namespace Go.Abs
section
variable {P : Program} {x : Ctx} {ρ : Nat → Nat} {σ : Nat → Slot} {w : World}

end
end Go.Abs

/- An object becomes data for good. No condition. -/
namespace Go.Abs
section
variable {x : Ctx}

end
end Go.Abs

namespace Go.Proofs.Ytbhbmnofmoibhaa
open Go Go.Abs

set_option maxHeartbeats 4000000

/-- The set of all tests. -/
def allS (t : Ti) : Nat := 2 ^ t.ts.length - 1

theorem shl_fact : ∀ m : Fin 7, IntKind.u64.wrap (IntKind.u64.wrap (1 * 2 ^ min m.val IntKind.u64.bits) - 1) = ((2 ^ m.val - 1 : Nat) : Int) := by decide +kernel

theorem allS_lt {t : Ti} (h : t.ts.length ≤ 6) : allS t < 64 := by
  unfold allS
  have : 2 ^ t.ts.length ≤ 2 ^ 6 := Nat.pow_le_pow_right (by decide) h
  have : 0 < 2 ^ t.ts.length := Nat.pow_pos (by decide)
  omega

theorem all49 (t : Ti) (nl fu : Bool) (h : t.ts.length ≤ 6) : Pure Try.prog 41 [encFile t nl fu] (.int .u64 (allS t)) := by
  have := shl_fact ⟨t.ts.length, by omega⟩
  simp only at this
  have h0 : (0 : Int) ≤ (t.ts.length : Int) := by omega
  have h1 : ¬ (t.ts.length : Int) < 0 := by omega
  simp at this
  refine pure_of (fn := Try.f41) [.tmp 2] ⟨Try.func41, rfl, by kernel_rfl⟩ (by kernel_rfl) (by kernel_rfl) (by kernel_rfl) fun x hx hσ => ?_
  (repeat refine awp_seq ?_); refine awp_reg1 (by rw [hx]; kernel_rfl) fun K hK => ?_; simp (maxSteps := 1000000) []; refine hK _ ?_; clear hK K; (first | show AWP _ _ _ _ _ | show ∃ _, _ | skip)
  (repeat refine awp_seq ?_); refine awp_reg1 (by rw [hx]; kernel_rfl) fun K hK => ?_; simp (maxSteps := 1000000) [ty72, ty106, ty28, ty26, ty77, ty3, h0, h1]; refine hK _ ?_; clear hK K; (first | show AWP _ _ _ _ _ | show ∃ _, _ | skip)
  rw [this]
  (repeat refine awp_seq ?_); refine awp_ret ?_; refine And.intro (Or.inr rfl) ?_
  simp [retC, resC, viewC, mapO, allS]

theorem truths73 (t : Ti) (nl fu : Bool) (n : Nat) : Pure Try.prog 53 [encFile t nl fu, .int .u64 n] (.fn (.func 72) [] [.ip [encFile t nl fu] 0, .ip [.int .u64 n] 0]) := by
  refine pure_of (fn := Try.f53) [.tmp 4] ⟨Try.func53, rfl, by kernel_rfl⟩ (by kernel_rfl) (by kernel_rfl) (by kernel_rfl) fun x hx hσ => ?_
  (repeat refine awp_seq ?_); refine awp_reg1 (by rw [hx]; kernel_rfl) fun K hK => ?_; simp (maxSteps := 1000000) [ty72, ty77]; refine hK _ ?_; clear hK K; (first | show AWP _ _ _ _ _ | show ∃ _, _ | skip)
  (repeat refine awp_seq ?_); refine awp_reg1 (by rw [hx]; kernel_rfl) fun K hK => ?_; simp (maxSteps := 1000000) []; refine hK _ ?_; clear hK K; (first | show AWP _ _ _ _ _ | show ∃ _, _ | skip)
  (repeat refine awp_seq ?_); refine awp_ret ?_; refine And.intro (Or.inr rfl) ?_
  simp [retC, resC, viewC, mapO]

/-- What open answers. -/
def openT (t : Ti) (is : Bool) : Int := if checkT t ≠ 0 then checkT t else if is = false then 1 else if truthsS t (allS t) = [] then 3 else 0

theorem openT_ok {t : Ti} {is : Bool} (h : openT t is = 0) : TiOk t ∧ is = true ∧ truthsS t (allS t) ≠ [] := by
  unfold openT at h
  split at h
  · contradiction
  · rename_i h1
    split at h
    · omega
    · split at h
      · omega
      · rename_i h2 h3
        exact ⟨checkT_ok.1 (Classical.byContradiction fun e => h1 e), by simpa using h2, h3⟩

@[simp] abbrev encF (t : Ti) : C := encFile t t.ts.isEmpty false
@[simp] abbrev o1 (c : C) : Ob := ⟨false, false, 1, [[c]]⟩
@[simp] abbrev cFo (t : Ti) (c : C) : List C := [encI t.w.full, encI t.w.read, encI t.w.slip, encI t.w.skew, encI t.w.circle, encI t.w.glow, encI t.w.ghigh, encI t.w.wrong, encI t.gain, sTs t.nl t.fu t.ts, c]
def upA (t : Ti) (i : Nat) : List (List C) := (t.ts.take i).map fun y => [.md false (alR t y)]

@[simp] theorem upA_len {t : Ti} {i : Nat} (h : i ≤ t.ts.length) : (upA t i).length = i := by simp [upA]; omega
theorem upA_step {t : Ti} {i : Nat} (h : i < t.ts.length) : upA t (i + 1) = upA t i ++ [[.md false (alR t t.ts[i])]] := by
  unfold upA; rw [List.take_succ_eq_append_getElem h, List.map_append]; rfl
theorem upA_zero (t : Ti) : upA t 0 = [] := rfl
theorem upA_all (t : Ti) : upA t t.ts.length = t.ts.map fun y => [.md false (alR t y)] := by unfold upA; rw [List.take_length]
@[simp] theorem upA_pure (t : Ti) (i : Nat) : (upA t i).all purel = true := all_purel_map fun _ => rfl
theorem upA_nil (t : Ti) {i : Nat} (h : i ≤ t.ts.length) : (upA t i).isEmpty = (i == 0) := by
  have := upA_len h
  cases h2 : upA t i <;> rw [h2] at this <;> simp at this <;> simp <;> omega

theorem open46 (t : Ti) (is : Bool) (hl : TiLen t) : Pure Try.prog 38 [encTi t, .bool is] (.tup [if openT t is = 0 then encF t else .pnil, encI (openT t is)]) := by
  refine pure_of (fn := Try.f38) [.cell 4 72, .cell 5 34] ⟨Try.func38, rfl, by kernel_rfl⟩ (by kernel_rfl) (by kernel_rfl) (by kernel_rfl) fun x hx hσ => ?_
  (repeat refine awp_seq ?_); refine awp_reg1 (by rw [hx]; kernel_rfl) fun K hK => ?_; simp (maxSteps := 1000000) [ty28, ty72, ty34]; refine hK _ ?_; clear hK K; (first | show AWP _ _ _ _ _ | show ∃ _, _ | skip)
  (repeat refine awp_seq ?_); refine awp_reg1 (by rw [hx]; kernel_rfl) fun K hK => ?_; simp (maxSteps := 1000000) [ty28]
  refine callP (check29 t hl) (by first | (simp; done) | (simp [*]; done)) ?_; simp (maxSteps := 1000000) []
  refine hK _ ?_; clear hK K; (first | show AWP _ _ _ _ _ | show ∃ _, _ | skip)
  (repeat refine awp_seq ?_); refine awp_reg1 (by rw [hx]; kernel_rfl) fun K hK => ?_; simp (maxSteps := 1000000) [ty34]; refine hK _ ?_; clear hK K; (first | show AWP _ _ _ _ _ | show ∃ _, _ | skip)
  by_cases hz : checkT t = 0
  · have hok := checkT_ok.1 hz
    have hlen := hok.len
    (repeat refine awp_seq ?_); refine awp_cond (by simp [hz]; rfl) (by rw [hx]; simp) (fun hd => ?_) (fun hd => ?_)
    · simp at hd
    · clear hd
      refine awp_skip ?_; (first | show AWP _ _ _ _ _ | show ∃ _, _ | skip)
      (repeat refine awp_seq ?_); refine awp_reg1 (by rw [hx]; kernel_rfl) fun K hK => ?_; simp (maxSteps := 1000000) []; refine hK _ ?_; clear hK K; (first | show AWP _ _ _ _ _ | show ∃ _, _ | skip)
      cases is
      · (repeat refine awp_seq ?_); refine awp_cond (by simp; rfl) (by rw [hx]; simp) (fun hd => ?_) (fun hd => ?_)
        · clear hd
          (repeat refine awp_seq ?_); refine awp_reg1 (by rw [hx]; kernel_rfl) fun K hK => ?_; simp (maxSteps := 1000000) [ty72, ty34]; refine hK _ ?_; clear hK K; (first | show AWP _ _ _ _ _ | show ∃ _, _ | skip)
          (repeat refine awp_seq ?_); refine awp_ret ?_; refine And.intro (Or.inr rfl) ?_
          simp [retC, resC, viewC, mapO, ty72, ty34, openT, hz]
        · simp at hd
      · (repeat refine awp_seq ?_); refine awp_cond (by simp; rfl) (by rw [hx]; simp) (fun hd => ?_) (fun hd => ?_)
        · simp at hd
        · clear hd
          refine awp_skip ?_; (first | show AWP _ _ _ _ _ | show ∃ _, _ | skip)
          (repeat refine awp_seq ?_); refine awp_reg1 (by rw [hx]; kernel_rfl) fun K hK => ?_; simp (maxSteps := 1000000) [ty28, ty106, ty72]; refine hK _ ?_; clear hK K; (first | show AWP _ _ _ _ _ | show ∃ _, _ | skip)
          (repeat refine awp_seq ?_); refine awp_reg1 (by rw [hx]; kernel_rfl) fun K hK => ?_; simp (maxSteps := 1000000) [ty28, ty26]; refine hK _ ?_; clear hK K; (first | show AWP _ _ _ _ _ | show ∃ _, _ | skip)
          (repeat refine awp_seq ?_); refine awp_block ?_
          refine AWP.weak ?_ (wk_nilCell 19 0 10 1000 1 (o := ⟨false, false, 11, [cFo t (.sl true true [])]⟩) (row := cFo t (.sl true true [])) (fu := true) (by simp) rfl rfl rfl (by simp) (by decide))
          refine awp_loop (fun i : Nat => ⟨ofL [(2, .ptr 2 10 0 0), (4, .ptr 4 1 0 0), (5, .ptr 5 1 0 0), (7, .ptr 7 1 0 0), (21, sTs t.nl t.fu t.ts), (22, encI t.ts.length), (23, encI i)],
              stoT [(2, 2, .live (obTi t)), (4, 4, .live (o1 .pnil)), (5, 5, .live (o1 (encI 0))), (7, 7, .live (o1 (.ptr 19 11 0 0))), (19, 19, .live ⟨false, false, 11, [cFo t (.own 1000 1 0 i)]⟩), (1000, 1000, .live ⟨i == 0, false, 1, upA t i⟩)]⟩)
            (fun i => i ≤ t.ts.length) (fun i => t.ts.length - i) 0 (by simp) ?_ ?_
          · refine wk_shape (shp0 hσ (by simp) (by simp) ?_) ?_
            · simp [SlotOk, upA_zero] <;> (repeat' (first | (refine RowsOk.same ?_; simp [purel, C.isPure]; done) | (refine rowsCons ?_; simp [mtl, mtc, mT, mH, C.isPure, purel]; done) | (refine rowsCons ?_; simp [mtl, mtc, mT, mH, C.isPure, purel]) | refine And.intro ?_ ?_))
            · simp [mtc, mtl, mT, C.isPure, purel, upA_zero] <;> (try simp (disch := omega) [wrap_id]) <;> (try omega)
          · intro i hi
            (repeat refine awp_seq ?_); refine awp_reg1 (by rw [hx]; kernel_rfl) fun K hK => ?_; simp (maxSteps := 1000000) [ty3]; refine hK _ ?_; clear hK K; (first | show AWP _ _ _ _ _ | show ∃ _, _ | skip)
            (repeat refine awp_seq ?_); refine awp_cond (by simp; rfl) (by rw [hx]; simp) (fun hc1 => ?_) (fun hc1 => ?_)
            · simp at hc1
              refine awp_skip ?_; (first | show AWP _ _ _ _ _ | show ∃ _, _ | skip)
              (repeat refine awp_seq ?_); refine awp_block ?_
              (repeat refine awp_seq ?_); refine awp_reg1 (by rw [hx]; kernel_rfl) fun K hK => ?_; simp (maxSteps := 1000000) [ty26, ty46, hc1]; refine hK _ ?_; clear hK K; (first | show AWP _ _ _ _ _ | show ∃ _, _ | skip)
              have hu := upA_len hi
              have hst := upA_step hc1
              have har := hok.area _ (List.getElem_mem hc1)
              have hln := hl.l _ (List.getElem_mem hc1)
              (repeat refine awp_seq ?_); refine awp_drw3 [1000, 1001, 1004, 1005, 1006, 5009, 11000] [0, 1, 2, 3, 4, 5, 6, 7, 8, 9, 10, 11, 12] (by rw [hx]; kernel_rfl) (by kernel_rfl) (by kernel_rfl) (by kernel_rfl) fun K hK => ?_; simp (maxSteps := 1000000) [ty72, ty106, ty104, ty28, ty46]
              refine callPD (allowed82 t t.ts[i] hok.num har hln) (by first | (simp; done) | (simp [*]; done)) (by simp) ?_; simp (maxSteps := 1000000) [ty104, ty107, ty72, ty106, hu]
              refine ⟨by omega, ?_⟩
              refine hK _ ?_; clear hK K; (first | show AWP _ _ _ _ _ | show ∃ _, _ | skip)
              (repeat refine awp_seq ?_); refine awp_reg1 (by rw [hx]; kernel_rfl) fun K hK => ?_; simp (maxSteps := 1000000) [ty3]; refine hK _ ?_; clear hK K; (first | show AWP _ _ _ _ _ | show ∃ _, _ | skip)
              rw [wrap_id (by omega) (by omega)]
              refine ⟨i + 1, by omega, by omega, ?_⟩
              refine wk_shape2 [(2, 2, .live (obTi t)), (4, 4, .live (o1 .pnil)), (5, 5, .live (o1 (encI 0))), (7, 7, .live (o1 (.ptr 19 11 0 0))), (19, 19, .live ⟨false, false, 11, [cFo t (.own 1000 1 0 (i + 1))]⟩), (1000, 36, .live ⟨i + 1 == 0, false, 1, upA t (i + 1)⟩)] (by first | rfl | (simp only [if_pos, if_true, hst]; rfl)) (shp0 hσ (by simp) (by simp) ?_) ?_
              · simp [SlotOk, hst] <;> (repeat' (first | (refine RowsOk.same ?_; simp [purel, C.isPure]; done) | (refine rowsCons ?_; simp [mtl, mtc, mT, mH, C.isPure, purel]; done) | (refine rowsCons ?_; simp [mtl, mtc, mT, mH, C.isPure, purel]) | refine And.intro ?_ ?_))
              · simp [mtc, mtl, mT, C.isPure, purel, hst] <;> (try simp (disch := omega) [wrap_id]) <;> (try omega)
            · simp at hc1
              (repeat refine awp_seq ?_); refine awp_exit ?_; (first | show AWP _ _ _ _ _ | show ∃ _, _ | skip)
              have hin : i = t.ts.length := by omega
              have hall := upA_all t
              have hnil := upA_nil t (Nat.le_refl _)
              have hup := upA_pure t t.ts.length
              rw [hin]
              have hemp : (t.ts.length == 0) = t.ts.isEmpty := by cases t.ts <;> rfl
              rw [hemp]
              refine AWP.weak ?_ (wk_frzCell 1000 19 0 10 (o := ⟨t.ts.isEmpty, false, 1, upA t t.ts.length⟩) (oq := ⟨false, false, 11, [cFo t (.own 1000 1 0 t.ts.length)]⟩) (row := cFo t (.own 1000 1 0 t.ts.length)) (c := .own 1000 1 0 t.ts.length) (c' := .sl t.ts.isEmpty false (t.ts.map fun y => [.md false (alR t y)])) (by simp) hup (by simp) (by decide) rfl rfl rfl (by
                rw [← hall]; exact fz_own rfl (by simp) (by simp)) rfl)
              refine AWP.weak ?_ (wk_frzCell 19 7 0 0 (o := ⟨false, false, 11, [cFile t t.ts.isEmpty false]⟩) (oq := o1 (.ptr 19 11 0 0)) (row := [.ptr 19 11 0 0]) (c := .ptr 19 11 0 0) (c' := encF t) (by simp) (by simp [purel, C.isPure]) (by simp) (by decide) rfl rfl rfl (fz_ptr rfl rfl rfl) rfl)
              (repeat refine awp_seq ?_); refine awp_drw3 [] [0, 1, 2, 3] (by rw [hx]; kernel_rfl) (by kernel_rfl) (by kernel_rfl) (by kernel_rfl) fun K hK => ?_; simp (maxSteps := 1000000) [ty72]
              refine callPD (all49 t t.ts.isEmpty false hlen) (by first | (simp; done) | (simp [*]; done)) (by simp) ?_; simp (maxSteps := 1000000) [ty77]
              refine callPD (truths73 t t.ts.isEmpty false (allS t)) (by first | (simp; done) | (simp [*]; done)) (by simp) ?_; simp (maxSteps := 1000000) []
              refine hK _ ?_; clear hK K; (first | show AWP _ _ _ _ _ | show ∃ _, _ | skip)
              (repeat refine awp_seq ?_)
              refine awp_block ?_
              refine awp_range0 1000000 [1000004, 1000005, 1000007] (fun i => if i = 0 then [(1000004, 1000004, .live (o1 .pnil)), (1000005, 1000005, .live (o1 (encI 0))), (1000007, 1000007, .live (o1 (encF t)))] else [(1000004, 1000004, .live (o1 (encF t))), (1000005, 1000005, .live (o1 (encI 0))), (1000007, 1000007, .live (o1 (encF t)))]) (itTr (truthsS t (allS t))) 0 .ret
                [(4, .ptr 1000004 1 0 0), (5, .ptr 1000005 1 0 0), (7, .ptr 1000007 1 0 0), (43, .fn (.func 72) [] [.ip [encF t] 0, .ip [.int .u64 (allS t)] 0])] [(4, .ptr 1000004 1 0 0), (5, .ptr 1000005 1 0 0), (7, .ptr 1000007 1 0 0)]
                (first := []) (caps := [.ip [encF t] 0, .ip [.int .u64 (allS t)] 0]) ?_ hσ (by simp) (by rw [hx]; decide) ⟨rfl, by simp [purel, C.isPure]⟩ (it_tr t t.ts.isEmpty false (allS t) hok (allS_lt hlen)) (Nat.zero_le _) (by simp) (by simp) ?_ ?_ ?_ ?_ ?_ ?_ ?_ ?_
              · refine wk_shape2 [(1000004, 4, .live (o1 .pnil)), (1000005, 5, .live (o1 (encI 0))), (1000007, 7, .live (o1 (encF t)))] (by first | rfl | (simp only [if_pos, if_true]; rfl)) (shp0 hσ (by simp) (by simp) ?_) ?_
                · simp [SlotOk] <;> (repeat' (first | (refine RowsOk.same ?_; simp [purel, C.isPure]; done) | (refine rowsCons ?_; simp [mtl, mtc, mT, mH, C.isPure, purel]; done) | (refine rowsCons ?_; simp [mtl, mtc, mT, mH, C.isPure, purel]) | refine And.intro ?_ ?_))
                · simp [mtc, mtl, mT, C.isPure, purel] <;> (try simp (disch := omega) [wrap_id]) <;> (try omega)
              · intro i; split <;> simp
              · intro i; split <;> simp [wil, C.wi]
              · simp [C.wi, wil]
              · simp [C.wi, wil]
              · intro args ha
                obtain ⟨y, hy, rfl⟩ := List.mem_map.1 ha
                simp [purel, C.isPure]
              · intro i args hit hi y y2 hy1 hy2 hyσ hy
                obtain rfl : i = 0 := by omega
                obtain ⟨y, hy', rfl⟩ := itTr_get hit
                have hx := hy2.trans hx
                simp only [if_true, Nat.zero_add, if_neg (show ¬ 1 = 0 by decide)]
                refine awp_skip ?_
                refine ⟨by simp, ?_⟩
                (repeat refine awp_seq ?_); refine awp_block ?_
                (repeat refine awp_seq ?_); refine awp_reg1 (by rw [hx]; kernel_rfl) fun K hK => ?_; simp (maxSteps := 1000000) [ty72, ty34, putPs]; refine hK _ ?_; clear hK K; (first | show AWP _ _ _ _ _ | show ∃ _, _ | skip)
                refine awp_ret ?_
                refine ⟨rfl, ?_⟩
                refine wk_round (E := []) [(1000000, 1000000, .gh), (1000004, 1000004, .live (o1 (encF t))), (1000005, 1000005, .live (o1 (encI 0))), (1000007, 1000007, .live (o1 (encF t)))] (by first | rfl | (simp <;> rfl)) hy (by simp [mT]) (by simp) (by simp) ?_ (by simp)
                · simp [SlotOk] <;> (repeat' (first | (refine RowsOk.same ?_; simp [purel, C.isPure]; done) | (refine rowsCons ?_; simp [mtl, mtc, mT, mH, C.isPure, purel]; done) | (refine rowsCons ?_; simp [mtl, mtc, mT, mH, C.isPure, purel]) | refine And.intro ?_ ?_)) <;> (try simp (disch := omega) [wrap_id]) <;> (try omega)
              · intro he s' hs'
                refine AWP.weak ?_ hs'
                have hT : truthsS t (allS t) = [] := List.eq_nil_of_length_eq_zero (by simpa using he.symm)
                rw [← he, if_pos rfl]
                (repeat refine awp_seq ?_); refine awp_reg1 (by rw [hx]; kernel_rfl) fun K hK => ?_; simp (maxSteps := 1000000) [ty72, ty34]; refine hK _ ?_; clear hK K; (first | show AWP _ _ _ _ _ | show ∃ _, _ | skip)
                (repeat refine awp_seq ?_); refine awp_ret ?_; refine And.intro (Or.inr rfl) ?_
                simp [retC, resC, viewC, mapO, ty72, ty34, openT, hz, hT]
              · intro hlt
                have hT : truthsS t (allS t) ≠ [] := by
                  intro e; rw [e] at hlt; simp at hlt
                rw [if_neg (by omega)]
                refine awp_ret ?_
                refine ⟨.inr rfl, ?_⟩
                simp [retC, resC, viewC, mapO, ty72, ty34, openT, hz, hT]
  · (repeat refine awp_seq ?_); refine awp_cond (by simp [hz]; rfl) (by rw [hx]; simp) (fun hd => ?_) (fun hd => ?_)
    · clear hd
      (repeat refine awp_seq ?_); refine awp_reg1 (by rw [hx]; kernel_rfl) fun K hK => ?_; simp (maxSteps := 1000000) [ty72, ty34]; refine hK _ ?_; clear hK K; (first | show AWP _ _ _ _ _ | show ∃ _, _ | skip)
      (repeat refine awp_seq ?_); refine awp_ret ?_; refine And.intro (Or.inr rfl) ?_
      simp [retC, resC, viewC, mapO, ty72, ty34, openT, hz]
    · simp [hz] at hd

end Go.Proofs.Ytbhbmnofmoibhaa

namespace Go.Proofs.Ytbhbmnofmoibhaa
open Go Go.Abs

set_option maxHeartbeats 4000000

theorem truthsS_bd {t : Ti} (n : Nat) (hw : TiOk t) : (truthsS t n).length ≤ 410000 := Nat.le_trans (List.length_filter_le _ _) (every_bd hw.num)

def manyT (t : Ti) : Nat := if openT t true = 0 then (truthsS t (allS t)).length else 0

theorem truthsA (t : Ti) (nl fu : Bool) (hw : TiOk t) : ItC Try.prog 1000000 72 [] [.ip [encFile t nl fu] 0, .ip [.int .u64 (allS t)] 0] (itTr (truthsS t (allS t))) := it_tr t nl fu (allS t) hw (allS_lt hw.len)

theorem many31 (t : Ti) (hl : TiLen t) : Pure Try.prog 25 [encTi t] (.tup [encI (manyT t), encI (openT t true)]) := by
  refine pure_of (fn := Try.f25) [.tmp 2, .tmp 3] ⟨Try.func25, rfl, by kernel_rfl⟩ (by kernel_rfl) (by kernel_rfl) (by kernel_rfl) fun x hx hσ => ?_
  (repeat refine awp_seq ?_); refine awp_reg1 (by rw [hx]; kernel_rfl) fun K hK => ?_; simp (maxSteps := 1000000) [ty28]; refine hK _ ?_; clear hK K; (first | show AWP _ _ _ _ _ | show ∃ _, _ | skip)
  (repeat refine awp_seq ?_); refine awp_reg1 (by rw [hx]; kernel_rfl) fun K hK => ?_; simp (maxSteps := 1000000) [ty28]
  refine callP (open46 t true hl) (by first | (simp; done) | (simp [*]; done)) ?_; simp (maxSteps := 1000000) [ty72]
  refine hK _ ?_; clear hK K; (first | show AWP _ _ _ _ _ | show ∃ _, _ | skip)
  (repeat refine awp_seq ?_); refine awp_reg1 (by rw [hx]; kernel_rfl) fun K hK => ?_; simp (maxSteps := 1000000) [ty34]; refine hK _ ?_; clear hK K; (first | show AWP _ _ _ _ _ | show ∃ _, _ | skip)
  by_cases hz : openT t true = 0
  · obtain ⟨hok, _, hT⟩ := openT_ok hz
    have hbd := truthsS_bd (allS t) hok
    (repeat refine awp_seq ?_); refine awp_cond (by simp [hz]; rfl) (by rw [hx]; simp) (fun hd => ?_) (fun hd => ?_)
    · simp at hd
    · clear hd
      refine awp_skip ?_; (first | show AWP _ _ _ _ _ | show ∃ _, _ | skip)
      (repeat refine awp_seq ?_); refine awp_reg1 (by rw [hx]; kernel_rfl) fun K hK => ?_; simp (maxSteps := 1000000) [ty3]; refine hK _ ?_; clear hK K; (first | show AWP _ _ _ _ _ | show ∃ _, _ | skip)
      simp only [hz, if_true]
      (repeat refine awp_seq ?_); refine awp_reg1 (by rw [hx]; kernel_rfl) fun K hK => ?_; simp (maxSteps := 1000000) [ty72]
      refine callP (all49 t t.ts.isEmpty false hok.len) (by first | (simp; done) | (simp [*]; done)) ?_; simp (maxSteps := 1000000) [ty77]
      refine callP (truths73 t t.ts.isEmpty false (allS t)) (by first | (simp; done) | (simp [*]; done)) ?_; simp (maxSteps := 1000000) []
      refine hK _ ?_; clear hK K; (first | show AWP _ _ _ _ _ | show ∃ _, _ | skip)
      (repeat refine awp_seq ?_); refine awp_block ?_
      refine awp_range0 1000000 [1000006] (fun i => F1 1000006 i) (itTr (truthsS t (allS t))) (truthsS t (allS t)).length .ret
        [(6, .ptr 1000006 1 0 0), (18, .fn (.func 72) [] [.ip [encF t] 0, .ip [.int .u64 (allS t)] 0])] [(6, .ptr 1000006 1 0 0)]
        (first := []) (caps := [.ip [encF t] 0, .ip [.int .u64 (allS t)] 0]) ?_ hσ (by simp) (by rw [hx]; decide) ⟨rfl, by simp [purel, C.isPure]⟩ (truthsA t _ _ hok) (by simp) (by simp) (by simp) (fun i => by simp) (fun i => by simp [wil, C.wi]) (by simp [C.wi, wil]) (by simp [C.wi, wil]) ?_ ?_ ?_ ?_
      · refine wk_shape2 [(1000006, 6, .live ⟨false, false, 1, [[encI 0]]⟩)] (by first | rfl | (simp only [if_pos, if_true]; rfl)) (shp0 hσ (by simp) (by simp) ?_) ?_
        · simp [SlotOk] <;> (repeat' (first | (refine RowsOk.same ?_; simp [purel, C.isPure]; done) | (refine rowsCons ?_; simp [mtl, mtc, mT, mH, C.isPure, purel]; done) | (refine rowsCons ?_; simp [mtl, mtc, mT, mH, C.isPure, purel]) | refine And.intro ?_ ?_))
        · simp [mtc, mtl, mT, C.isPure, purel] <;> (try simp (disch := omega) [wrap_id]) <;> (try omega)
      · intro args ha
        obtain ⟨y, hy, rfl⟩ := List.mem_map.1 ha
        simp [purel, C.isPure]
      · intro i args hit hi y y2 hy1 hy2 hyσ hy
        obtain ⟨k, ht, rfl⟩ := itTr_get hit
        have hi' := (List.getElem?_eq_some_iff.1 ht).1
        have hx := hy2.trans hx
        refine awp_skip ?_
        refine ⟨by simp, ?_⟩
        (repeat refine awp_seq ?_); refine awp_block ?_
        (repeat refine awp_seq ?_); refine awp_reg1 (by rw [hx]; kernel_rfl) fun K hK => ?_; simp (maxSteps := 1000000) [ty3, putPs]; refine hK _ ?_; clear hK K; (first | show AWP _ _ _ _ _ | show ∃ _, _ | skip)
        rw [wrap_id (by omega) (by omega)]
        refine ⟨by rw [if_neg (by omega)], ?_⟩
        refine wk_round (E := []) [(1000000, 1000000, .gh), (1000006, 1000006, .live ⟨false, false, 1, [[encI (i + 1)]]⟩)] (by first | rfl | (simp <;> rfl)) hy (by simp [mT]) (by simp) (by simp) ?_ (by simp)
        · simp [SlotOk] <;> (repeat' (first | (refine RowsOk.same ?_; simp [purel, C.isPure]; done) | (refine rowsCons ?_; simp [mtl, mtc, mT, mH, C.isPure, purel]; done) | (refine rowsCons ?_; simp [mtl, mtc, mT, mH, C.isPure, purel]) | refine And.intro ?_ ?_)) <;> (try simp (disch := omega) [wrap_id]) <;> (try omega)
      · intro he s' hs'
        refine AWP.weak ?_ hs'
        (repeat refine awp_seq ?_); refine awp_reg1 (by rw [hx]; kernel_rfl) fun K hK => ?_; simp (maxSteps := 1000000) [ty3]; refine hK _ ?_; clear hK K; (first | show AWP _ _ _ _ _ | show ∃ _, _ | skip)
        (repeat refine awp_seq ?_); refine awp_ret ?_; refine And.intro (Or.inr rfl) ?_
        simp [retC, resC, viewC, mapO, manyT, hz]
      · intro hlt
        simp at hlt
  · (repeat refine awp_seq ?_); refine awp_cond (by simp [hz]; rfl) (by rw [hx]; simp) (fun hd => ?_) (fun hd => ?_)
    · clear hd
      (repeat refine awp_seq ?_); refine awp_reg1 (by rw [hx]; kernel_rfl) fun K hK => ?_; simp (maxSteps := 1000000) []; refine hK _ ?_; clear hK K; (first | show AWP _ _ _ _ _ | show ∃ _, _ | skip)
      (repeat refine awp_seq ?_); refine awp_ret ?_; refine And.intro (Or.inr rfl) ?_
      simp [retC, resC, viewC, mapO, manyT, hz]
    · simp [hz] at hd

/-- The numbers that truths have. -/
def numsT (f : Tr → Int) (t : Ti) (is : Bool) : List Int := if openT t is = 0 then kindsL f (truthsS t (allS t)) else []

theorem numsT_zero {f : Tr → Int} {t : Ti} {is : Bool} (h : openT t is ≠ 0) : numsT f t is = [] := if_neg h
theorem numsT_ok {f : Tr → Int} {t : Ti} {is : Bool} (h : openT t is = 0) : numsT f t is = kindsL f (truthsS t (allS t)) ∧ (numsT f t is).isEmpty = false ∧ numsT f t is ≠ [] := by
  have h2 : numsT f t is = kindsL f (truthsS t (allS t)) := if_pos h
  obtain ⟨_, _, hT⟩ := openT_ok h
  have h3 : numsT f t is ≠ [] := by
    rw [h2]
    intro e
    rcases List.exists_mem_of_ne_nil _ hT with ⟨y, hy⟩
    have := (kindsL_mem f (truthsS t (allS t)) (f y)).2 ⟨y, hy, rfl⟩
    rw [e] at this
    simp at this
  exact ⟨h2, by simpa [List.isEmpty_eq_false_iff] using h3, h3⟩

theorem numsT_len (f : Tr → Int) (t : Ti) (is : Bool) : (numsT f t is).length ≤ 410000 := by
  unfold numsT
  split
  · rename_i h
    obtain ⟨hok, _, hT⟩ := openT_ok h
    have := truthsS_bd (allS t) hok
    have h2 := kvOf_len f (truthsS t (allS t))
    rw [kindsL_len]; omega
  · simp

@[simp] abbrev Fk (g : FuncId) (caps : List C) (kv : List (Int × Int)) : List (Nat × Nat × Slot) := [(1000005, 1000005, .live (o1 (.fn (.func g) [] caps))), (1000010, 1000010, .live (o1 (.mp 1000021))), (1000021, 1000021, .live (mapOb kv))]

theorem kinds62 (t : Ti) (is : Bool) (g : FuncId) (caps : List C) (f : Tr → Int) (hl : TiLen t) (hcp : purel caps = true) (hf : openT t is = 0 → ∀ k ∈ allT (gwT t), Pure Try.prog g (encTr k :: caps) (encI (f k)))
    (hfb : openT t is = 0 → ∀ k ∈ allT (gwT t), -1000000 ≤ f k ∧ f k ≤ 1000000) :
    Pure Try.prog 46 [encTi t, .bool is, .fn (.func g) [] caps] (.tup [slI (numsT f t is), encI (openT t is)]) := by
  refine pure_of (fn := Try.f46) [.tmp 6, .tmp 7] ⟨Try.func46, rfl, by kernel_rfl⟩ (by kernel_rfl) (by kernel_rfl) (by kernel_rfl) fun x hx hσ => ?_
  (repeat refine awp_seq ?_); refine awp_reg1 (by rw [hx]; kernel_rfl) fun K hK => ?_; simp (maxSteps := 1000000) [ty28, ty71]; refine hK _ ?_; clear hK K; (first | show AWP _ _ _ _ _ | show ∃ _, _ | skip)
  (repeat refine awp_seq ?_); refine awp_reg1 (by rw [hx]; kernel_rfl) fun K hK => ?_; simp (maxSteps := 1000000) [ty28]
  refine callP (open46 t is hl) (by first | (simp; done) | (simp [*]; done)) ?_; simp (maxSteps := 1000000) [ty72]
  refine hK _ ?_; clear hK K; (first | show AWP _ _ _ _ _ | show ∃ _, _ | skip)
  (repeat refine awp_seq ?_); refine awp_reg1 (by rw [hx]; kernel_rfl) fun K hK => ?_; simp (maxSteps := 1000000) [ty34]; refine hK _ ?_; clear hK K; (first | show AWP _ _ _ _ _ | show ∃ _, _ | skip)
  by_cases hz : openT t is = 0
  · obtain ⟨hok, _, hT⟩ := openT_ok hz
    have hbd := truthsS_bd (allS t) hok
    have hne := numsT_ok (f := f) hz
    replace hf := hf hz
    replace hfb := hfb hz
    have hwil : ∀ K, wil K caps = true := fun K => purel_wil K caps hcp
    (repeat refine awp_seq ?_); refine awp_cond (by simp [hz]; rfl) (by rw [hx]; simp) (fun hd => ?_) (fun hd => ?_)
    · simp at hd
    · clear hd
      refine awp_skip ?_; (first | show AWP _ _ _ _ _ | show ∃ _, _ | skip)
      (repeat refine awp_seq ?_); refine awp_reg1 (by rw [hx]; kernel_rfl) fun K hK => ?_; simp (maxSteps := 1000000) [ty114]; refine hK _ ?_; clear hK K; (first | show AWP _ _ _ _ _ | show ∃ _, _ | skip)
      simp only [hz, if_true]
      (repeat refine awp_seq ?_); refine awp_reg1 (by rw [hx]; kernel_rfl) fun K hK => ?_; simp (maxSteps := 1000000) [ty72]
      refine callP (all49 t t.ts.isEmpty false hok.len) (by first | (simp; done) | (simp [*]; done)) ?_; simp (maxSteps := 1000000) [ty77]
      refine callP (truths73 t t.ts.isEmpty false (allS t)) (by first | (simp; done) | (simp [*]; done)) ?_; simp (maxSteps := 1000000) []
      refine hK _ ?_; clear hK K; (first | show AWP _ _ _ _ _ | show ∃ _, _ | skip)
      (repeat refine awp_seq ?_); refine awp_block ?_
      refine awp_range0 1000000 [1000005, 1000010, 1000021] (fun i => Fk g caps (kvOf f ((truthsS t (allS t)).take i))) (itTr (truthsS t (allS t))) (truthsS t (allS t)).length .ret
        [(5, .ptr 1000005 1 0 0), (10, .ptr 1000010 1 0 0), (25, .fn (.func 72) [] [.ip [encF t] 0, .ip [.int .u64 (allS t)] 0])] [(5, .ptr 1000005 1 0 0), (10, .ptr 1000010 1 0 0)]
        (first := []) (caps := [.ip [encF t] 0, .ip [.int .u64 (allS t)] 0]) ?_ hσ (by simp) (by rw [hx]; decide) ⟨rfl, by simp [purel, C.isPure]⟩ (truthsA t _ _ hok) (by simp) (by simp) (by simp) (fun i => by simp) (fun i p hp => by
          simp only [Fk, List.mem_cons, List.not_mem_nil, or_false] at hp
          rcases hp with rfl | rfl | rfl
          · exact ⟨_, rfl, by simp [wil, C.wi, hwil], by simp⟩
          · exact ⟨_, rfl, by simp [wil, C.wi], by simp⟩
          · exact ⟨_, rfl, rowsII_wil _ _, rowsII_cell _⟩) (by simp [C.wi, wil]) (by simp [C.wi, wil]) ?_ ?_ ?_ ?_
      · refine wk_shape2 [(1000005, 5, .live (o1 (.fn (.func g) [] caps))), (1000010, 10, .live (o1 (.mp 1000021))), (1000021, 21, .live (mapOb []))] rfl (shp0 hσ (by simp) (by simp) ?_) ?_
        · simp [SlotOk]
          exact ⟨.same (by simp [purel, C.isPure, hcp]), .cons (by simp [mtl, mtc, mT]) (by simp) .nil⟩
        · simp [mtc, mtl, mT, C.isPure, purel]
      · intro args ha
        obtain ⟨k, ht, rfl⟩ := List.mem_map.1 ha
        simp [purel, C.isPure]
      · intro i args hit hi y y2 hy1 hy2 hyσ hy
        obtain ⟨k, ht, rfl⟩ := itTr_get hit
        have hi' := (List.getElem?_eq_some_iff.1 ht).1
        have hti : (truthsS t (allS t))[i] = k := (List.getElem?_eq_some_iff.1 ht).2
        have hta : k ∈ allT (gwT t) := (List.mem_filter.1 (List.mem_of_getElem? ht)).1
        have hst := kvOf_step f hi'
        rw [hti] at hst
        have hcb := (kvOf_facts f ((truthsS t (allS t)).take i)).2.2
        have hx0 := hx
        have hx := hy1.trans hx0
        (repeat refine awp_seq ?_); refine awp_reg1 (by rw [hx]; kernel_rfl) fun K hK => ?_; simp (maxSteps := 1000000) [ty70, putPs]; refine hK _ ?_; clear hK K; (first | show AWP _ _ _ _ _ | show ∃ _, _ | skip)
        refine ⟨by simp, ?_⟩
        have hx := hy2.trans hx0
        (repeat refine awp_seq ?_); refine awp_block ?_
        generalize hkv : kvOf f ((truthsS t (allS t)).take i) = kv at *
        have hcall := hf k hta
        rcases find_bump (f k) kv 0 with ⟨j, n, h1, h2, h3⟩ | ⟨h1, h2⟩
        · rw [Nat.zero_add] at h1
          have hnb := hcb _ h3
          rw [List.length_take] at hnb
          simp only at hnb
          (repeat refine awp_seq ?_); refine awp_drw3 [] [0, 1, 2, 3, 4, 5, 6] (by rw [hx]; kernel_rfl) (by kernel_rfl) (by kernel_rfl) (by kernel_rfl) fun K hK => ?_; simp (maxSteps := 1000000) [ty114, ty71, ty70, ty3]
          refine callPD hcall (by simp [purel, C.isPure, hcp]) (by simp) ?_
          simp [ty114, ty71, ty70, ty3, h1]
          refine hK _ ?_; clear hK K; (first | show AWP _ _ _ _ _ | show ∃ _, _ | skip)
          have hwr : IntKind.i64.wrap (n + 1) = n + 1 := wrap_id (by omega) (by omega)
          have h2' : (rowsII kv).set j [C.int .i64 (f k), C.int .i64 (n + 1)] = rowsII (bump kv (f k)) := h2
          rw [hwr, h2']
          rw [hst]
          refine ⟨by rw [if_neg (by omega)], ?_⟩
          refine wk_round (E := []) [(1000000, 1000000, .gh), (1000005, 1000005, .live (o1 (.fn (.func g) [] caps))), (1000010, 1000010, .live (o1 (.mp 1000021))), (1000021, 1000021, .live (mapOb (bump kv (f k))))] rfl hy (by simp [mT]) (by simp) (by simp) ?_ (by simp)
          simp [SlotOk]
          exact ⟨.same (by simp [purel, C.isPure, hcp]), .cons (by simp [mtl, mtc, mT]) (by simp) .nil, .same (rowsII_pure _)⟩
        · (repeat refine awp_seq ?_); refine awp_drw3 [] [0, 1, 2, 3, 4, 5, 6] (by rw [hx]; kernel_rfl) (by kernel_rfl) (by kernel_rfl) (by kernel_rfl) fun K hK => ?_; simp (maxSteps := 1000000) [ty114, ty71, ty70, ty3]
          refine callPD hcall (by simp [purel, C.isPure, hcp]) (by simp) ?_
          simp [ty114, ty71, ty70, ty3, h1]
          refine hK _ ?_; clear hK K; (first | show AWP _ _ _ _ _ | show ∃ _, _ | skip)
          have hwr : IntKind.i64.wrap 1 = 1 := by decide
          have h2' : rowsII kv ++ [[C.int .i64 (f k), C.int .i64 1]] = rowsII (bump kv (f k)) := h2
          rw [hwr, h2', hst]
          refine ⟨by rw [if_neg (by omega)], ?_⟩
          refine wk_round (E := []) [(1000000, 1000000, .gh), (1000005, 1000005, .live (o1 (.fn (.func g) [] caps))), (1000010, 1000010, .live (o1 (.mp 1000021))), (1000021, 1000021, .live (mapOb (bump kv (f k))))] rfl hy (by simp [mT]) (by simp) (by simp) ?_ (by simp)
          simp [SlotOk]
          exact ⟨.same (by simp [purel, C.isPure, hcp]), .cons (by simp [mtl, mtc, mT]) (by simp) .nil, .same (rowsII_pure _)⟩
      · intro he s' hs'
        refine AWP.weak ?_ hs'
        have hf3 := kvOf_facts f (truthsS t (allS t))
        have hkb : ∀ p ∈ (kvOf f (truthsS t (allS t))).map (fun p => (p.1, encI p.2)), -1000000000 ≤ p.1 ∧ p.1 ≤ 1000000000 := by
          intro p hp
          obtain ⟨q, hq, rfl⟩ := List.mem_map.1 hp
          obtain ⟨k, hk, e⟩ := (hf3.1 q.1).1 (List.mem_map.2 ⟨q, hq, rfl⟩)
          have := hfb k (List.mem_filter.1 hk).1
          simp only
          omega
        have hlen : (kvOf f (truthsS t (allS t))).length ≤ 10000000 := by
          have := kvOf_len f (truthsS t (allS t))
          omega
        have hkeq : ((kvOf f (truthsS t (allS t))).map (fun p => (p.1, encI p.2))).map (·.1) = (kvOf f (truthsS t (allS t))).map (·.1) := by simp
        have hrl : (itTr (truthsS t (allS t))).length = (truthsS t (allS t)).length := he.symm
        rw [hrl, List.take_length]
        (repeat refine awp_seq ?_); refine awp_reg1 (by rw [hx]; kernel_rfl) fun K hK => ?_; simp (maxSteps := 1000000) [ty114]
        refine doesL (keys78 1000021 34 (o := mapOb (kvOf f (truthsS t (allS t)))) rfl rfl rfl rfl) ?_
        simp
        refine doesL (sorted77 1000021 34 35 (em := false) ((kvOf f (truthsS t (allS t))).map (fun p => (p.1, encI p.2))) ?_ rfl rfl ?_ hkb ?_) ?_
        · rw [← rowsII_KV]; rfl
        · rw [hkeq]; exact hf3.2.1
        · simpa using hlen
        rw [hkeq]
        simp
        refine hK _ ?_; clear hK K; (first | show AWP _ _ _ _ _ | show ∃ _, _ | skip)
        (repeat refine awp_seq ?_); refine awp_ret ?_; refine And.intro (Or.inr rfl) ?_
        have hem := kindsL_empty f (truthsS t (allS t))
        have hln := kindsL_len f (truthsS t (allS t))
        rw [hne.1] at *
        have hk : sortI ((kvOf f (truthsS t (allS t))).map (·.1)) = kindsL f (truthsS t (allS t)) := rfl
        rw [hk]
        rw [hne.2.1] at hem
        refine ⟨_, by simp [retC, resC]; rfl, ?_⟩
        unfold viewC
        rw [if_neg (by simp [C.isPure, purel])]
        simp only [mapO]
        rw [viewC_own (o := ⟨(kvOf f (truthsS t (allS t))).isEmpty, false, 1, (kindsL f (truthsS t (allS t))).map cI⟩) (by simp) rfl (by simp [hln]) (by simp [purel, C.isPure]), viewC_self rfl]
        simp [hz, ← hem, hne.2.1]
      · intro hlt
        simp at hlt
  · have hz0 := numsT_zero (f := f) hz
    (repeat refine awp_seq ?_); refine awp_cond (by simp [hz]; rfl) (by rw [hx]; simp) (fun hd => ?_) (fun hd => ?_)
    · clear hd
      (repeat refine awp_seq ?_); refine awp_reg1 (by rw [hx]; kernel_rfl) fun K hK => ?_; simp (maxSteps := 1000000) []; refine hK _ ?_; clear hK K; (first | show AWP _ _ _ _ _ | show ∃ _, _ | skip)
      (repeat refine awp_seq ?_); refine awp_ret ?_; refine And.intro (Or.inr rfl) ?_
      simp [retC, resC, viewC, mapO, hz0]
    · simp [hz] at hd

end Go.Proofs.Ytbhbmnofmoibhaa

namespace Go.Proofs.Ytbhbmnofmoibhaa
open Go Go.Abs

set_option maxHeartbeats 4000000

theorem gain63 (k : Tr) : Pure Try.prog 57 [encTr k] (encI k.area) := by
  refine pure_of (fn := Try.f57) [.tmp 2] ⟨Try.func57, rfl, by kernel_rfl⟩ (by kernel_rfl) (by kernel_rfl) (by kernel_rfl) fun x hx hσ => ?_
  (repeat refine awp_seq ?_); refine awp_reg1 (by rw [hx]; kernel_rfl) fun K hK => ?_; simp (maxSteps := 1000000) [ty70]; refine hK _ ?_; clear hK K; (first | show AWP _ _ _ _ _ | show ∃ _, _ | skip)
  (repeat refine awp_seq ?_); refine awp_reg1 (by rw [hx]; kernel_rfl) fun K hK => ?_; simp (maxSteps := 1000000) [ty70, ty3]; refine hK _ ?_; clear hK K; (first | show AWP _ _ _ _ _ | show ∃ _, _ | skip)
  (repeat refine awp_seq ?_); refine awp_ret ?_; refine And.intro (Or.inr rfl) ?_
  simp [retC, resC, viewC, mapO]
theorem skew64 (k : Tr) : Pure Try.prog 47 [encTr k] (encI k.skew) := by
  refine pure_of (fn := Try.f47) [.tmp 2] ⟨Try.func47, rfl, by kernel_rfl⟩ (by kernel_rfl) (by kernel_rfl) (by kernel_rfl) fun x hx hσ => ?_
  (repeat refine awp_seq ?_); refine awp_reg1 (by rw [hx]; kernel_rfl) fun K hK => ?_; simp (maxSteps := 1000000) [ty70]; refine hK _ ?_; clear hK K; (first | show AWP _ _ _ _ _ | show ∃ _, _ | skip)
  (repeat refine awp_seq ?_); refine awp_reg1 (by rw [hx]; kernel_rfl) fun K hK => ?_; simp (maxSteps := 1000000) [ty70, ty3]; refine hK _ ?_; clear hK K; (first | show AWP _ _ _ _ _ | show ∃ _, _ | skip)
  (repeat refine awp_seq ?_); refine awp_ret ?_; refine And.intro (Or.inr rfl) ?_
  simp [retC, resC, viewC, mapO]
theorem err65 (k : Tr) (a : Int) (ha : 0 ≤ a ∧ a ≤ 9000) (hg : -50 ≤ k.area ∧ k.area ≤ 50) (hk : -100 ≤ k.skew ∧ k.skew ≤ 100) : Pure Try.prog 36 [encTr k, .ip [encI a] 0] (encI (errI k a)) := by
  refine pure_of (fn := Try.f36) [.tmp 3] ⟨Try.func36, rfl, by kernel_rfl⟩ (by kernel_rfl) (by kernel_rfl) (by kernel_rfl) fun x hx hσ => ?_
  (repeat refine awp_seq ?_); refine awp_reg1 (by rw [hx]; kernel_rfl) fun K hK => ?_; simp (maxSteps := 1000000) [ty70]; refine hK _ ?_; clear hK K; (first | show AWP _ _ _ _ _ | show ∃ _, _ | skip)
  (repeat refine awp_seq ?_); refine awp_reg1 (by rw [hx]; kernel_rfl) fun K hK => ?_; simp (maxSteps := 1000000) [ty70, ty3]
  refine callP (err66 k a ha hg hk) (by first | (simp; done) | (simp [*]; done)) ?_; simp (maxSteps := 1000000) []
  refine hK _ ?_; clear hK K; (first | show AWP _ _ _ _ _ | show ∃ _, _ | skip)
  (repeat refine awp_seq ?_); refine awp_ret ?_; refine And.intro (Or.inr rfl) ?_
  simp [retC, resC, viewC, mapO]
theorem seen54 (k : Tr) (a : Int) (ha : 0 ≤ a ∧ a ≤ 9000) (hg : -50 ≤ k.area ∧ k.area ≤ 50) : Pure Try.prog 48 [encTr k, .ip [encI a] 0] (encI (seenA a k.area)) := by
  refine pure_of (fn := Try.f48) [.tmp 3] ⟨Try.func48, rfl, by kernel_rfl⟩ (by kernel_rfl) (by kernel_rfl) (by kernel_rfl) fun x hx hσ => ?_
  (repeat refine awp_seq ?_); refine awp_reg1 (by rw [hx]; kernel_rfl) fun K hK => ?_; simp (maxSteps := 1000000) [ty70]; refine hK _ ?_; clear hK K; (first | show AWP _ _ _ _ _ | show ∃ _, _ | skip)
  (repeat refine awp_seq ?_); refine awp_reg1 (by rw [hx]; kernel_rfl) fun K hK => ?_; simp (maxSteps := 1000000) [ty70, ty3]
  refine callP (seen55 a k.area ha hg) (by first | (simp; done) | (simp [*]; done)) ?_; simp (maxSteps := 1000000) []
  refine hK _ ?_; clear hK K; (first | show AWP _ _ _ _ _ | show ∃ _, _ | skip)
  (repeat refine awp_seq ?_); refine awp_ret ?_; refine And.intro (Or.inr rfl) ?_
  simp [retC, resC, viewC, mapO]

theorem every_k {t : Ti} (hw : TiOk t) {k : Tr} (h : k ∈ allT (gwT t)) : (-50 ≤ k.area ∧ k.area ≤ 50) ∧ (-100 ≤ k.skew ∧ k.skew ≤ 100) := by
  have h1 := allT_mem.1 h
  have h2 := hw.gain
  have h3 := hw.num.skew
  have e1 : (gwT t).glow = -t.gain := rfl
  have e2 : (gwT t).ghigh = t.gain := rfl
  have e3 : (gwT t).skew = t.w.skew := rfl
  rw [e1, e2, e3] at h1
  omega

theorem errI_bd {k : Tr} {a : Int} (ha : 0 ≤ a ∧ a ≤ 9000) (hg : -50 ≤ k.area ∧ k.area ≤ 50) (hk : -100 ≤ k.skew ∧ k.skew ≤ 100) : -1000000 ≤ errI k a ∧ errI k a ≤ 1000000 := by
  have := seenA_bd ha hg
  unfold errI absI
  split <;> split <;> omega

theorem areaB_iff {n : Int} : areaB n = true ↔ 0 ≤ n ∧ n ≤ 9000 := by simp [areaB]


theorem gains22 (t : Ti) (hl : TiLen t) : Pure Try.prog 32 [encTi t] (.tup [slI (numsT Tr.area t true), encI (openT t true)]) := by
  refine pure_of (fn := Try.f32) [.tmp 2, .tmp 3] ⟨Try.func32, rfl, by kernel_rfl⟩ (by kernel_rfl) (by kernel_rfl) (by kernel_rfl) fun x hx hσ => ?_
  (repeat refine awp_seq ?_); refine awp_reg1 (by rw [hx]; kernel_rfl) fun K hK => ?_; simp (maxSteps := 1000000) [ty28]; refine hK _ ?_; clear hK K; (first | show AWP _ _ _ _ _ | show ∃ _, _ | skip)
  (repeat refine awp_seq ?_); refine awp_reg1 (by rw [hx]; kernel_rfl) fun K hK => ?_; simp (maxSteps := 1000000) [ty28]
  refine callP (kinds62 t true 57 [] Tr.area hl rfl (fun h k hk => gain63 k) (fun h k hk => by have := every_k (openT_ok h).1 hk; omega)) (by first | (simp; done) | (simp [*]; done)) ?_; simp (maxSteps := 1000000) []
  refine hK _ ?_; clear hK K; (first | show AWP _ _ _ _ _ | show ∃ _, _ | skip)
  (repeat refine awp_seq ?_); refine awp_ret ?_; refine And.intro (Or.inr rfl) ?_
  simp [retC, resC, viewC, mapO]
theorem skews23 (t : Ti) (hl : TiLen t) : Pure Try.prog 21 [encTi t] (.tup [slI (numsT Tr.skew t true), encI (openT t true)]) := by
  refine pure_of (fn := Try.f21) [.tmp 2, .tmp 3] ⟨Try.func21, rfl, by kernel_rfl⟩ (by kernel_rfl) (by kernel_rfl) (by kernel_rfl) fun x hx hσ => ?_
  (repeat refine awp_seq ?_); refine awp_reg1 (by rw [hx]; kernel_rfl) fun K hK => ?_; simp (maxSteps := 1000000) [ty28]; refine hK _ ?_; clear hK K; (first | show AWP _ _ _ _ _ | show ∃ _, _ | skip)
  (repeat refine awp_seq ?_); refine awp_reg1 (by rw [hx]; kernel_rfl) fun K hK => ?_; simp (maxSteps := 1000000) [ty28]
  refine callP (kinds62 t true 47 [] Tr.skew hl rfl (fun h k hk => skew64 k) (fun h k hk => by have := every_k (openT_ok h).1 hk; omega)) (by first | (simp; done) | (simp [*]; done)) ?_; simp (maxSteps := 1000000) []
  refine hK _ ?_; clear hK K; (first | show AWP _ _ _ _ _ | show ∃ _, _ | skip)
  (repeat refine awp_seq ?_); refine awp_ret ?_; refine And.intro (Or.inr rfl) ?_
  simp [retC, resC, viewC, mapO]

def endsT (f : Tr → Int) (t : Ti) (is : Bool) : Int × Int := ((numsT f t is).headD 0, (numsT f t is).getLastD 0)
@[simp] abbrev encSp (p : Int × Int) : C := .agg [encI p.1, encI p.2]

theorem ends52 (t : Ti) (is : Bool) (g : FuncId) (caps : List C) (f : Tr → Int) (hl : TiLen t) (hcp : purel caps = true) (hf : openT t is = 0 → ∀ k ∈ allT (gwT t), Pure Try.prog g (encTr k :: caps) (encI (f k)))
    (hfb : openT t is = 0 → ∀ k ∈ allT (gwT t), -1000000 ≤ f k ∧ f k ≤ 1000000) :
    Pure Try.prog 34 [encTi t, .bool is, .fn (.func g) [] caps] (.tup [encSp (endsT f t is), encI (openT t is)]) := by
  refine pure_of (fn := Try.f34) [.cell 6 23, .tmp 7] ⟨Try.func34, rfl, by kernel_rfl⟩ (by kernel_rfl) (by kernel_rfl) (by kernel_rfl) fun x hx hσ => ?_
  (repeat refine awp_seq ?_); refine awp_reg1 (by rw [hx]; kernel_rfl) fun K hK => ?_; simp (maxSteps := 1000000) [ty28, ty23]; refine hK _ ?_; clear hK K; (first | show AWP _ _ _ _ _ | show ∃ _, _ | skip)
  (repeat refine awp_seq ?_); refine awp_reg1 (by rw [hx]; kernel_rfl) fun K hK => ?_; simp (maxSteps := 1000000) [ty28]
  refine callP (kinds62 t is g caps f hl hcp hf hfb) (by simp [purel, C.isPure, hcp]) ?_
  simp [ty49]
  refine hK _ ?_; clear hK K; (first | show AWP _ _ _ _ _ | show ∃ _, _ | skip)
  (repeat refine awp_seq ?_); refine awp_reg1 (by rw [hx]; kernel_rfl) fun K hK => ?_; simp (maxSteps := 1000000) [ty34]; refine hK _ ?_; clear hK K; (first | show AWP _ _ _ _ _ | show ∃ _, _ | skip)
  by_cases hz : openT t is = 0
  · (repeat refine awp_seq ?_); refine awp_cond (by simp [hz]; rfl) (by rw [hx]; simp) (fun hd => ?_) (fun hd => ?_)
    · simp at hd
    · clear hd
      refine awp_skip ?_; (first | show AWP _ _ _ _ _ | show ∃ _, _ | skip)
      obtain ⟨h1, h2, h3⟩ := numsT_ok (f := f) hz
      have hpos : 0 < (numsT f t is).length := List.length_pos_iff.2 h3
      have hlb := numsT_len f t is
      have hb : (endsT f t is).1 = (numsT f t is)[0] ∧ (endsT f t is).2 = (numsT f t is)[(numsT f t is).length - 1] := ends_eq _ hpos
      have hwr : IntKind.i64.wrap ((numsT f t is).length - 1) = ((numsT f t is).length - 1 : Nat) := by
        rw [wrap_id (by omega) (by omega)]; omega
      have hlt : (numsT f t is).length - 1 < (numsT f t is).length := by omega
      (repeat refine awp_seq ?_); refine awp_drw3 [] [0, 1, 2, 3, 4, 5, 6, 7, 8, 9, 10, 11] (by rw [hx]; kernel_rfl) (by kernel_rfl) (by kernel_rfl) (by kernel_rfl) fun K hK => ?_; simp (maxSteps := 1000000) [ty49, ty3, ty23, hpos, hwr, hlt]; refine hK _ ?_; clear hK K; (first | show AWP _ _ _ _ _ | show ∃ _, _ | skip)
      (repeat refine awp_seq ?_); refine awp_ret ?_; refine And.intro (Or.inr rfl) ?_
      simp [retC, resC, viewC, mapO, ty23, hz, hb]
  · have hz0 := numsT_zero (f := f) hz
    (repeat refine awp_seq ?_); refine awp_cond (by simp [hz]; rfl) (by rw [hx]; simp) (fun hd => ?_) (fun hd => ?_)
    · clear hd
      (repeat refine awp_seq ?_); refine awp_reg1 (by rw [hx]; kernel_rfl) fun K hK => ?_; simp (maxSteps := 1000000) [ty23, ty34]; refine hK _ ?_; clear hK K; (first | show AWP _ _ _ _ _ | show ∃ _, _ | skip)
      (repeat refine awp_seq ?_); refine awp_ret ?_; refine And.intro (Or.inr rfl) ?_
      simp [retC, resC, viewC, mapO, hz0, endsT, ty23]
    · simp [hz] at hd

theorem openT_area {t : Ti} {a : Int} (h : openT t (areaB a) = 0) : TiOk t ∧ 0 ≤ a ∧ a ≤ 9000 := ⟨(openT_ok h).1, areaB_iff.1 (openT_ok h).2.1⟩


theorem errs24 (t : Ti) (a : Int) (hl : TiLen t) : Pure Try.prog 10 [encTi t, encI a] (.tup [encSp (endsT (fun k => errI k a) t (areaB a)), encI (openT t (areaB a))]) := by
  refine pure_of (fn := Try.f10) [.cell 4 23, .tmp 5] ⟨Try.func10, rfl, by kernel_rfl⟩ (by kernel_rfl) (by kernel_rfl) (by kernel_rfl) fun x hx hσ => ?_
  (repeat refine awp_seq ?_); refine awp_reg1 (by rw [hx]; kernel_rfl) fun K hK => ?_; simp (maxSteps := 1000000) [ty28, ty3, ty23]; refine hK _ ?_; clear hK K; (first | show AWP _ _ _ _ _ | show ∃ _, _ | skip)
  (repeat refine awp_seq ?_); refine awp_drw3 [] [0, 1, 2, 3, 4, 5, 6, 7, 8] (by rw [hx]; kernel_rfl) (by kernel_rfl) (by kernel_rfl) (by kernel_rfl) fun K hK => ?_; simp (maxSteps := 1000000) [ty28, ty3]
  refine callPD (isArea53 a) (by first | (simp; done) | (simp [*]; done)) (by simp) ?_; simp (maxSteps := 1000000) []
  refine callD (ends52 t (areaB a) 36 [.ip [encI a] 0] (fun k => errI k a) hl (by simp [purel, C.isPure]) (fun h k hk => err65 k a (openT_area h).2 (every_k (openT_area h).1 hk).1 (every_k (openT_area h).1 hk).2) (fun h k hk => errI_bd (openT_area h).2 (every_k (openT_area h).1 hk).1 (every_k (openT_area h).1 hk).2)) (by simp [viewL, mapO, viewC, C.isPure, purel]) (.inr rfl) (by simp) ?_
  simp [ty23]
  refine hK _ ?_; clear hK K; (first | show AWP _ _ _ _ _ | show ∃ _, _ | skip)
  (repeat refine awp_seq ?_); refine awp_ret ?_; refine And.intro (Or.inr rfl) ?_
  simp [retC, resC, viewC, mapO, ty23]
theorem seen13 (t : Ti) (a : Int) (hl : TiLen t) : Pure Try.prog 23 [encTi t, encI a] (.tup [encSp (endsT (fun k => seenA a k.area) t (areaB a)), encI (openT t (areaB a))]) := by
  refine pure_of (fn := Try.f23) [.cell 4 23, .tmp 5] ⟨Try.func23, rfl, by kernel_rfl⟩ (by kernel_rfl) (by kernel_rfl) (by kernel_rfl) fun x hx hσ => ?_
  (repeat refine awp_seq ?_); refine awp_reg1 (by rw [hx]; kernel_rfl) fun K hK => ?_; simp (maxSteps := 1000000) [ty28, ty3, ty23]; refine hK _ ?_; clear hK K; (first | show AWP _ _ _ _ _ | show ∃ _, _ | skip)
  (repeat refine awp_seq ?_); refine awp_drw3 [] [0, 1, 2, 3, 4, 5, 6, 7, 8] (by rw [hx]; kernel_rfl) (by kernel_rfl) (by kernel_rfl) (by kernel_rfl) fun K hK => ?_; simp (maxSteps := 1000000) [ty28, ty3]
  refine callPD (isArea53 a) (by first | (simp; done) | (simp [*]; done)) (by simp) ?_; simp (maxSteps := 1000000) []
  refine callD (ends52 t (areaB a) 48 [.ip [encI a] 0] (fun k => seenA a k.area) hl (by simp [purel, C.isPure]) (fun h k hk => seen54 k a (openT_area h).2 (every_k (openT_area h).1 hk).1) (fun h k hk => by have := seenA_bd (openT_area h).2 (every_k (openT_area h).1 hk).1; omega)) (by simp [viewL, mapO, viewC, C.isPure, purel]) (.inr rfl) (by simp) ?_
  simp [ty23]
  refine hK _ ?_; clear hK K; (first | show AWP _ _ _ _ _ | show ∃ _, _ | skip)
  (repeat refine awp_seq ?_); refine awp_ret ?_; refine And.intro (Or.inr rfl) ?_
  simp [retC, resC, viewC, mapO, ty23]

def countB (n : Int) : Bool := decide (0 ≤ n) && decide (n ≤ 9999)

theorem isCount57 (n : Int) : Pure Try.prog 59 [encI n] (.bool (countB n)) := by
  refine pure_of (fn := Try.f59) [.tmp 2] ⟨Try.func59, rfl, by kernel_rfl⟩ (by kernel_rfl) (by kernel_rfl) (by kernel_rfl) fun x hx hσ => ?_
  (repeat refine awp_seq ?_); refine awp_reg1 (by rw [hx]; kernel_rfl) fun K hK => ?_; simp (maxSteps := 1000000) []; refine hK _ ?_; clear hK K; (first | show AWP _ _ _ _ _ | show ∃ _, _ | skip)
  (repeat refine awp_seq ?_); refine awp_reg1 (by rw [hx]; kernel_rfl) fun K hK => ?_; simp (maxSteps := 1000000) []
  refine callP (within69 n 0 9999) (by first | (simp; done) | (simp [*]; done)) ?_; simp (maxSteps := 1000000) []
  refine hK _ ?_; clear hK K; (first | show AWP _ _ _ _ _ | show ∃ _, _ | skip)
  (repeat refine awp_seq ?_); refine awp_ret ?_; refine And.intro (Or.inr rfl) ?_
  simp [retC, resC, viewC, mapO, countB]

/-- Where the first number is that has a property. -/
def firstP (p : Int → Bool) (l : List Int) : Int := if l.any p then (l.findIdx p : Nat) else -1

theorem firstP_at {p : Int → Bool} {l : List Int} {i : Nat} (hi : i < l.length) (h0 : ∀ j, (h : j < l.length) → j < i → p l[j] = false) (h1 : p l[i] = true) : firstP p l = i := by
  unfold firstP
  rw [if_pos (List.any_eq_true.2 ⟨_, List.getElem_mem hi, h1⟩), List.findIdx_eq hi |>.2 ⟨h1, fun j hj => h0 j (by omega) hj⟩]
theorem firstP_none {p : Int → Bool} {l : List Int} (h : ∀ j, (h : j < l.length) → p l[j] = false) : firstP p l = -1 := by
  unfold firstP
  rw [if_neg]
  intro e
  obtain ⟨x, hx, h1⟩ := List.any_eq_true.1 e
  obtain ⟨j, hj, rfl⟩ := List.getElem_of_mem hx
  rw [h j hj] at h1
  cases h1
theorem firstP_any (p : Int → Bool) (l : List Int) : decide (0 ≤ firstP p l) = l.any p := by
  unfold firstP
  cases l.any p <;> simp

theorem index83 (nl fu : Bool) (l : List Int) (g : FuncId) (caps : List C) (p : Int → Bool) (hcp : purel caps = true) (hn : l.length ≤ 1000000) (hp : ∀ z ∈ l, Pure Try.prog g (encI z :: caps) (.bool (p z))) :
    Pure Try.prog 78 [.sl nl fu (l.map cI), .fn (.func g) [] caps] (encI (firstP p l)) := by
  refine pure_of (fn := Try.f78) [.tmp 4] ⟨Try.func78, rfl, by kernel_rfl⟩ (by kernel_rfl) (by kernel_rfl) (by kernel_rfl) fun x hx hσ => ?_
  (repeat refine awp_seq ?_); refine awp_reg1 (by rw [hx]; kernel_rfl) fun K hK => ?_; simp (maxSteps := 1000000) []; refine hK _ ?_; clear hK K; (first | show AWP _ _ _ _ _ | show ∃ _, _ | skip)
  (repeat refine awp_seq ?_); refine awp_reg1 (by rw [hx]; kernel_rfl) fun K hK => ?_; simp (maxSteps := 1000000) [ty49]; refine hK _ ?_; clear hK K; (first | show AWP _ _ _ _ _ | show ∃ _, _ | skip)
  (repeat refine awp_seq ?_); refine awp_block ?_
  refine awp_loop (fun i : Nat => ⟨ofL [(0, .sl nl fu (l.map cI)), (1, .fn (.func g) [] caps), (7, encI l.length), (8, encI i)], stoT []⟩)
    (fun i => i ≤ l.length ∧ ∀ j, (h : j < l.length) → j < i → p l[j] = false) (fun i => l.length - i) 0 (by simp) ?_ ?_
  · refine wk_shape (shp0 hσ (by simp) (by simp) ?_) ?_
    · simp [SlotOk]
    · simp [mtc, mtl, mT, C.isPure, purel, hcp]
      exact mtl_pure _ _ hcp
  · intro i ⟨hi, hj⟩
    (repeat refine awp_seq ?_); refine awp_reg1 (by rw [hx]; kernel_rfl) fun K hK => ?_; simp (maxSteps := 1000000) [ty3]; refine hK _ ?_; clear hK K; (first | show AWP _ _ _ _ _ | show ∃ _, _ | skip)
    (repeat refine awp_seq ?_); refine awp_cond (by simp; rfl) (by rw [hx]; simp) (fun hc => ?_) (fun hc => ?_)
    · simp at hc
      refine awp_skip ?_; (first | show AWP _ _ _ _ _ | show ∃ _, _ | skip)
      (repeat refine awp_seq ?_); refine awp_block ?_
      (repeat refine awp_seq ?_); refine awp_reg1 (by rw [hx]; kernel_rfl) fun K hK => ?_; simp (maxSteps := 1000000) []; refine hK _ ?_; clear hK K; (first | show AWP _ _ _ _ _ | show ∃ _, _ | skip)
      (repeat refine awp_seq ?_); refine awp_reg1 (by rw [hx]; kernel_rfl) fun K hK => ?_; simp (maxSteps := 1000000) [ty49, ty3, hc]
      refine callP (hp _ (List.getElem_mem hc)) (by simp [purel, C.isPure, hcp]) ?_
      simp
      refine hK _ ?_; clear hK K; (first | show AWP _ _ _ _ _ | show ∃ _, _ | skip)
      cases hb : p l[i]
      · (repeat refine awp_seq ?_); refine awp_cond (by simp [hb]; rfl) (by rw [hx]; simp) (fun hd => ?_) (fun hd => ?_)
        · simp at hd
        · clear hd
          refine awp_skip ?_; (first | show AWP _ _ _ _ _ | show ∃ _, _ | skip)
          (repeat refine awp_seq ?_); refine awp_reg1 (by rw [hx]; kernel_rfl) fun K hK => ?_; simp (maxSteps := 1000000) [ty3]; refine hK _ ?_; clear hK K; (first | show AWP _ _ _ _ _ | show ∃ _, _ | skip)
          refine ⟨i + 1, ⟨by omega, fun j h1 h2 => ?_⟩, by omega, ?_⟩
          · by_cases hji : j = i
            · subst hji; assumption
            · exact hj j h1 (by omega)
          · refine wk_shape (shp0 hσ (by simp) (by simp) ?_) ?_
            · simp [SlotOk]
            · simp [mtc, mtl, mT, C.isPure, purel, hcp]
              rw [wrap_id (by omega) (by omega)]
              exact ⟨mtl_pure _ _ hcp, rfl⟩
      · (repeat refine awp_seq ?_); refine awp_cond (by simp [hb]; rfl) (by rw [hx]; simp) (fun hd => ?_) (fun hd => ?_)
        · clear hd
          (repeat refine awp_seq ?_); refine awp_reg1 (by rw [hx]; kernel_rfl) fun K hK => ?_; simp (maxSteps := 1000000) []; refine hK _ ?_; clear hK K; (first | show AWP _ _ _ _ _ | show ∃ _, _ | skip)
          (repeat refine awp_seq ?_); refine awp_ret ?_; refine And.intro (Or.inr rfl) ?_
          rw [firstP_at hc hj hb]
          simp [retC, resC, viewC, mapO]
        · simp at hd
    · simp at hc
      (repeat refine awp_seq ?_); refine awp_exit ?_; (first | show AWP _ _ _ _ _ | show ∃ _, _ | skip)
      (repeat refine awp_seq ?_); refine awp_reg1 (by rw [hx]; kernel_rfl) fun K hK => ?_; simp (maxSteps := 1000000) []; refine hK _ ?_; clear hK K; (first | show AWP _ _ _ _ _ | show ∃ _, _ | skip)
      (repeat refine awp_seq ?_); refine awp_ret ?_; refine And.intro (Or.inr rfl) ?_
      rw [firstP_none fun j h => hj j h (by omega)]
      simp [retC, resC, viewC, mapO]

theorem contains58 (nl fu : Bool) (l : List Int) (g : FuncId) (caps : List C) (p : Int → Bool) (hcp : purel caps = true) (hn : l.length ≤ 1000000) (hp : ∀ z ∈ l, Pure Try.prog g (encI z :: caps) (.bool (p z))) :
    Pure Try.prog 60 [.sl nl fu (l.map cI), .fn (.func g) [] caps] (.bool (l.any p)) := by
  refine pure_of (fn := Try.f60) [.tmp 4] ⟨Try.func60, rfl, by kernel_rfl⟩ (by kernel_rfl) (by kernel_rfl) (by kernel_rfl) fun x hx hσ => ?_
  (repeat refine awp_seq ?_); refine awp_reg1 (by rw [hx]; kernel_rfl) fun K hK => ?_; simp (maxSteps := 1000000) []; refine hK _ ?_; clear hK K; (first | show AWP _ _ _ _ _ | show ∃ _, _ | skip)
  (repeat refine awp_seq ?_); refine awp_reg1 (by rw [hx]; kernel_rfl) fun K hK => ?_; simp (maxSteps := 1000000) []
  refine callP (index83 nl fu l g caps p hcp hn hp) (by simp [purel, C.isPure, hcp]) ?_
  simp [ty3]
  refine hK _ ?_; clear hK K; (first | show AWP _ _ _ _ _ | show ∃ _, _ | skip)
  (repeat refine awp_seq ?_); refine awp_ret ?_; refine And.intro (Or.inr rfl) ?_
  simp [retC, resC, viewC, mapO]
  exact firstP_any p l

end Go.Proofs.Ytbhbmnofmoibhaa

namespace Go.Proofs.Ytbhbmnofmoibhaa
open Go Go.Abs

set_option maxHeartbeats 4000000

/-- A class. -/
structure Cl where
  size : Int
  most : Int

@[simp] abbrev cCl (c : Cl) : List C := [encI c.size, encI c.most]
@[simp] abbrev encCl (c : Cl) : C := .agg (cCl c)
def classB (c : Cl) : Bool := areaB c.size && countB c.most

theorem isClass47 (c : Cl) : Pure Try.prog 39 [encCl c] (.bool (classB c)) := by
  refine pure_of (fn := Try.f39) [.tmp 2] ⟨Try.func39, rfl, by kernel_rfl⟩ (by kernel_rfl) (by kernel_rfl) (by kernel_rfl) fun x hx hσ => ?_
  (repeat refine awp_seq ?_); refine awp_reg1 (by rw [hx]; kernel_rfl) fun K hK => ?_; simp (maxSteps := 1000000) [ty30]; refine hK _ ?_; clear hK K; (first | show AWP _ _ _ _ _ | show ∃ _, _ | skip)
  cases h : areaB c.size
  · (repeat refine awp_seq ?_); refine awp_reg1 (by rw [hx]; kernel_rfl) fun K hK => ?_; simp (maxSteps := 1000000) [ty30, ty3]
    refine callP (isArea53 c.size) (by first | (simp; done) | (simp [*]; done)) ?_; simp (maxSteps := 1000000) [h, ty30, ty3]
    refine hK _ ?_; clear hK K; (first | show AWP _ _ _ _ _ | show ∃ _, _ | skip)
    (repeat refine awp_seq ?_); refine awp_ret ?_; refine And.intro (Or.inr rfl) ?_
    simp [retC, resC, viewC, mapO, classB, h]
  · (repeat refine awp_seq ?_); refine awp_reg1 (by rw [hx]; kernel_rfl) fun K hK => ?_; simp (maxSteps := 1000000) [ty30, ty3]
    refine callP (isArea53 c.size) (by first | (simp; done) | (simp [*]; done)) ?_; simp (maxSteps := 1000000) [h, ty30, ty3]
    refine callP (isCount57 c.most) (by first | (simp; done) | (simp [*]; done)) ?_; simp (maxSteps := 1000000) [ty30, ty3]
    refine hK _ ?_; clear hK K; (first | show AWP _ _ _ _ _ | show ∃ _, _ | skip)
    (repeat refine awp_seq ?_); refine awp_ret ?_; refine And.intro (Or.inr rfl) ?_
    simp [retC, resC, viewC, mapO, classB, h]

/-- Whether it errs beyond a class in a truth. -/
def beyB (c : Cl) (k : Tr) : Bool := decide (c.most < errI k c.size)
/-- What truths say of a class. -/
def certL (L : List Tr) (c : Cl) : Int := if L.countP (beyB c) = 0 then 1 else if L.countP (fun k => !beyB c k) = 0 then 2 else 3

@[simp] abbrev Fc (c : Cl) (a b : Int) : List (Nat × Nat × Slot) := [(1000004, 1000004, .live ⟨false, false, 2, [cCl c]⟩), (1000007, 1000007, .live (o1 (encI a))), (1000008, 1000008, .live (o1 (encI b)))]

theorem certify48 (t : Ti) (nl fu : Bool) (c : Cl) (n : Nat) (hok : TiOk t) (hn : n < 64) (hc : 0 ≤ c.size ∧ c.size ≤ 9000) : Pure Try.prog 40 [encFile t nl fu, encCl c, .int .u64 n] (encI (certL (truthsS t n) c)) := by
  have hbd := truthsS_bd n hok
  refine pure_of (fn := Try.f40) [.tmp 6] ⟨Try.func40, rfl, by kernel_rfl⟩ (by kernel_rfl) (by kernel_rfl) (by kernel_rfl) fun x hx hσ => ?_
  (repeat refine awp_seq ?_); refine awp_reg1 (by rw [hx]; kernel_rfl) fun K hK => ?_; simp (maxSteps := 1000000) [ty30]; refine hK _ ?_; clear hK K; (first | show AWP _ _ _ _ _ | show ∃ _, _ | skip)
  (repeat refine awp_seq ?_); refine awp_reg1 (by rw [hx]; kernel_rfl) fun K hK => ?_; simp (maxSteps := 1000000) [ty3]; refine hK _ ?_; clear hK K; (first | show AWP _ _ _ _ _ | show ∃ _, _ | skip)
  (repeat refine awp_seq ?_); refine awp_reg1 (by rw [hx]; kernel_rfl) fun K hK => ?_; simp (maxSteps := 1000000) [ty72, ty77]
  refine callP (truths73 t nl fu n) (by first | (simp; done) | (simp [*]; done)) ?_; simp (maxSteps := 1000000) []
  refine hK _ ?_; clear hK K; (first | show AWP _ _ _ _ _ | show ∃ _, _ | skip)
  (repeat refine awp_seq ?_); refine awp_block ?_
  obtain ⟨A, hA⟩ : ∃ A : Nat → Nat, ∀ i, A i = ((truthsS t n).take i).countP (fun k => !beyB c k) := ⟨_, fun _ => rfl⟩
  obtain ⟨B, hB⟩ : ∃ B : Nat → Nat, ∀ i, B i = ((truthsS t n).take i).countP (beyB c) := ⟨_, fun _ => rfl⟩
  have hAl : ∀ i, A i ≤ (truthsS t n).length := fun i => by rw [hA]; exact Nat.le_trans List.countP_le_length (by simp; omega)
  have hBl : ∀ i, B i ≤ (truthsS t n).length := fun i => by rw [hB]; exact Nat.le_trans List.countP_le_length (by simp; omega)
  have hA0 : A 0 = 0 := by rw [hA]; rfl
  have hB0 : B 0 = 0 := by rw [hB]; rfl
  refine awp_range0 1000000 [1000004, 1000007, 1000008] (fun i => Fc c (A i) (B i)) (itTr (truthsS t n)) (truthsS t n).length .ret
    [(4, .ptr 1000004 2 0 0), (7, .ptr 1000007 1 0 0), (8, .ptr 1000008 1 0 0), (12, .fn (.func 72) [] [.ip [encFile t nl fu] 0, .ip [.int .u64 n] 0])] [(4, .ptr 1000004 2 0 0), (7, .ptr 1000007 1 0 0), (8, .ptr 1000008 1 0 0)]
    (first := []) (caps := [.ip [encFile t nl fu] 0, .ip [.int .u64 n] 0]) ?_ hσ (by simp) (by rw [hx]; decide) ⟨rfl, by simp [purel, C.isPure]⟩ (it_tr t nl fu n hok hn) (by simp) (by simp) (by simp) (fun i => by simp) (fun i => by simp [wil, C.wi]) (by simp [C.wi, wil]) (by simp [C.wi, wil]) ?_ ?_ ?_ ?_
  · refine wk_shape2 [(1000004, 4, .live ⟨false, false, 2, [cCl c]⟩), (1000007, 7, .live (o1 (encI (A 0)))), (1000008, 8, .live (o1 (encI (B 0))))] (by first | rfl | (simp only [if_pos, if_true, hA0, hB0]; rfl)) (shp0 hσ (by simp) (by simp) ?_) ?_
    · simp [SlotOk, hA0, hB0] <;> (repeat' (first | (refine RowsOk.same ?_; simp [purel, C.isPure]; done) | (refine rowsCons ?_; simp [mtl, mtc, mT, mH, C.isPure, purel]; done) | (refine rowsCons ?_; simp [mtl, mtc, mT, mH, C.isPure, purel]) | refine And.intro ?_ ?_))
    · simp [mtc, mtl, mT, C.isPure, purel, hA0, hB0] <;> (try simp (disch := omega) [wrap_id]) <;> (try omega)
  · intro args ha
    obtain ⟨y, hy, rfl⟩ := List.mem_map.1 ha
    simp [purel, C.isPure]
  · intro i args hit hi y y2 hy1 hy2 hyσ hy
    obtain ⟨k, ht, rfl⟩ := itTr_get hit
    have hi' := (List.getElem?_eq_some_iff.1 ht).1
    have hti : (truthsS t n)[i] = k := (List.getElem?_eq_some_iff.1 ht).2
    have hta : k ∈ allT (gwT t) := (List.mem_filter.1 (List.mem_of_getElem? ht)).1
    have hk := every_k hok hta
    have hsA := count_step (fun k => !beyB c k) hi'
    have hsB := count_step (beyB c) hi'
    rw [← hA, ← hA, hti] at hsA
    rw [← hB, ← hB, hti] at hsB
    have hAi := hAl i
    have hBi := hBl i
    have hx0 := hx
    have hx := hy1.trans hx0
    (repeat refine awp_seq ?_); refine awp_reg1 (by rw [hx]; kernel_rfl) fun K hK => ?_; simp (maxSteps := 1000000) [ty70, putPs]; refine hK _ ?_; clear hK K; (first | show AWP _ _ _ _ _ | show ∃ _, _ | skip)
    refine ⟨by simp, ?_⟩
    have hx := hy2.trans hx0
    (repeat refine awp_seq ?_); refine awp_block ?_
    (repeat refine awp_seq ?_); refine awp_drw3 [] [0, 1, 2, 3, 4, 5, 6] (by rw [hx]; kernel_rfl) (by kernel_rfl) (by kernel_rfl) (by kernel_rfl) fun K hK => ?_; simp (maxSteps := 1000000) [ty70, ty30, ty3]
    refine callPD (err66 k c.size hc hk.1 hk.2) (by first | (simp; done) | (simp [*]; done)) (by simp) ?_; simp (maxSteps := 1000000) [ty30, ty3]
    refine hK _ ?_; clear hK K; (first | show AWP _ _ _ _ _ | show ∃ _, _ | skip)
    cases hb : beyB c k
    · have hb' : ¬ c.most < errI k c.size := by simpa [beyB] using hb
      rw [hb] at hsA hsB
      simp at hsA hsB
      (repeat refine awp_seq ?_); refine awp_cond (by simp [hb']; rfl) (by rw [hx]; simp) (fun hd => ?_) (fun hd => ?_)
      · exact absurd hd (by simp)
      · clear hd
        (repeat refine awp_seq ?_); refine awp_reg1 (by rw [hx]; kernel_rfl) fun K hK => ?_; simp (maxSteps := 1000000) [ty3]; refine hK _ ?_; clear hK K; (first | show AWP _ _ _ _ _ | show ∃ _, _ | skip)
        rw [wrap_id (by omega) (by omega)]
        refine ⟨by rw [if_neg (by omega)], ?_⟩
        rw [hsA, hsB]
        refine wk_round (E := []) [(1000000, 1000000, .gh), (1000004, 1000004, .live ⟨false, false, 2, [cCl c]⟩), (1000007, 1000007, .live (o1 (encI (A i + 1 : Nat)))), (1000008, 1000008, .live (o1 (encI (B i))))] (by first | rfl | (simp <;> rfl)) hy (by simp [mT]) (by simp) (by simp) ?_ (by simp)
        · simp [SlotOk] <;> (repeat' (first | (refine RowsOk.same ?_; simp [purel, C.isPure]; done) | (refine rowsCons ?_; simp [mtl, mtc, mT, mH, C.isPure, purel]; done) | (refine rowsCons ?_; simp [mtl, mtc, mT, mH, C.isPure, purel]) | refine And.intro ?_ ?_)) <;> (try simp (disch := omega) [wrap_id]) <;> (try omega)
    · have hb' : c.most < errI k c.size := by simpa [beyB] using hb
      rw [hb] at hsA hsB
      simp at hsA hsB
      (repeat refine awp_seq ?_); refine awp_cond (by simp [hb']; rfl) (by rw [hx]; simp) (fun hd => ?_) (fun hd => ?_)
      · clear hd
        (repeat refine awp_seq ?_); refine awp_reg1 (by rw [hx]; kernel_rfl) fun K hK => ?_; simp (maxSteps := 1000000) [ty3]; refine hK _ ?_; clear hK K; (first | show AWP _ _ _ _ _ | show ∃ _, _ | skip)
        rw [wrap_id (by omega) (by omega)]
        refine ⟨by rw [if_neg (by omega)], ?_⟩
        rw [hsA, hsB]
        refine wk_round (E := []) [(1000000, 1000000, .gh), (1000004, 1000004, .live ⟨false, false, 2, [cCl c]⟩), (1000007, 1000007, .live (o1 (encI (A i)))), (1000008, 1000008, .live (o1 (encI (B i + 1 : Nat))))] (by first | rfl | (simp <;> rfl)) hy (by simp [mT]) (by simp) (by simp) ?_ (by simp)
        · simp [SlotOk] <;> (repeat' (first | (refine RowsOk.same ?_; simp [purel, C.isPure]; done) | (refine rowsCons ?_; simp [mtl, mtc, mT, mH, C.isPure, purel]; done) | (refine rowsCons ?_; simp [mtl, mtc, mT, mH, C.isPure, purel]) | refine And.intro ?_ ?_)) <;> (try simp (disch := omega) [wrap_id]) <;> (try omega)
      · exact absurd hd (by simp)
  · intro he s' hs'
    refine AWP.weak ?_ hs'
    have hl : (itTr (truthsS t n)).length = (truthsS t n).length := he.symm
    rw [hl]
    have hAe : A (truthsS t n).length = (truthsS t n).countP (fun k => !beyB c k) := by rw [hA, List.take_length]
    have hBe : B (truthsS t n).length = (truthsS t n).countP (beyB c) := by rw [hB, List.take_length]
    generalize A (truthsS t n).length = a at *
    generalize B (truthsS t n).length = b at *
    (repeat refine awp_seq ?_); refine awp_block ?_
    (repeat refine awp_seq ?_); refine awp_reg1 (by rw [hx]; kernel_rfl) fun K hK => ?_; simp (maxSteps := 1000000) [ty3]; refine hK _ ?_; clear hK K; (first | show AWP _ _ _ _ _ | show ∃ _, _ | skip)
    by_cases hb0 : b = 0
    · (repeat refine awp_seq ?_); refine awp_cond (by simp [hb0]; rfl) (by rw [hx]; simp) (fun hd => ?_) (fun hd => ?_)
      · clear hd
        (repeat refine awp_seq ?_); refine awp_reg1 (by rw [hx]; kernel_rfl) fun K hK => ?_; simp (maxSteps := 1000000) []; refine hK _ ?_; clear hK K; (first | show AWP _ _ _ _ _ | show ∃ _, _ | skip)
        (repeat refine awp_seq ?_); refine awp_ret ?_; refine And.intro (Or.inr rfl) ?_
        simp [retC, resC, viewC, mapO, certL, ← hBe, hb0]
      · simp [hb0] at hd
    · have hb0' : ((b : Int) == 0) = false := by rw [beq_eq_false_iff_ne]; omega
      (repeat refine awp_seq ?_); refine awp_cond (by simp [hb0']; rfl) (by rw [hx]; simp) (fun hd => ?_) (fun hd => ?_)
      · simp [hb0] at hd
      · clear hd
        (repeat refine awp_seq ?_); refine awp_reg1 (by rw [hx]; kernel_rfl) fun K hK => ?_; simp (maxSteps := 1000000) [ty3]; refine hK _ ?_; clear hK K; (first | show AWP _ _ _ _ _ | show ∃ _, _ | skip)
        by_cases ha0 : a = 0
        · (repeat refine awp_seq ?_); refine awp_cond (by simp [ha0]; rfl) (by rw [hx]; simp) (fun hd => ?_) (fun hd => ?_)
          · clear hd
            (repeat refine awp_seq ?_); refine awp_reg1 (by rw [hx]; kernel_rfl) fun K hK => ?_; simp (maxSteps := 1000000) []; refine hK _ ?_; clear hK K; (first | show AWP _ _ _ _ _ | show ∃ _, _ | skip)
            (repeat refine awp_seq ?_); refine awp_ret ?_; refine And.intro (Or.inr rfl) ?_
            simp [retC, resC, viewC, mapO, certL, ← hBe, ← hAe, hb0, ha0]
          · simp [ha0] at hd
        · have ha0' : ((a : Int) == 0) = false := by rw [beq_eq_false_iff_ne]; omega
          (repeat refine awp_seq ?_); refine awp_cond (by simp [ha0']; rfl) (by rw [hx]; simp) (fun hd => ?_) (fun hd => ?_)
          · simp [ha0] at hd
          · clear hd
            refine awp_skip ?_; (first | show AWP _ _ _ _ _ | show ∃ _, _ | skip)
            (repeat refine awp_seq ?_); refine awp_reg1 (by rw [hx]; kernel_rfl) fun K hK => ?_; simp (maxSteps := 1000000) []; refine hK _ ?_; clear hK K; (first | show AWP _ _ _ _ _ | show ∃ _, _ | skip)
            (repeat refine awp_seq ?_); refine awp_ret ?_; refine And.intro (Or.inr rfl) ?_
            simp [retC, resC, viewC, mapO, certL, ← hBe, ← hAe, hb0, ha0]
  · intro hlt
    simp at hlt

def certT (t : Ti) (c : Cl) : Int := if openT t (classB c) = 0 then certL (truthsS t (allS t)) c else 0

theorem classB_ok {c : Cl} (h : classB c = true) : (0 ≤ c.size ∧ c.size ≤ 9000) ∧ 0 ≤ c.most ∧ c.most ≤ 9999 := by
  simp only [classB, Bool.and_eq_true] at h
  exact ⟨areaB_iff.1 h.1, by simpa [countB] using h.2⟩

theorem certify11 (t : Ti) (c : Cl) (hl : TiLen t) : Pure Try.prog 11 [encTi t, encCl c] (.tup [encI (certT t c), encI (openT t (classB c))]) := by
  refine pure_of (fn := Try.f11) [.tmp 4, .tmp 5] ⟨Try.func11, rfl, by kernel_rfl⟩ (by kernel_rfl) (by kernel_rfl) (by kernel_rfl) fun x hx hσ => ?_
  (repeat refine awp_seq ?_); refine awp_reg1 (by rw [hx]; kernel_rfl) fun K hK => ?_; simp (maxSteps := 1000000) [ty28, ty30]; refine hK _ ?_; clear hK K; (first | show AWP _ _ _ _ _ | show ∃ _, _ | skip)
  (repeat refine awp_seq ?_); refine awp_drw3 [] [0, 1, 2, 3, 4, 5, 6, 7, 8] (by rw [hx]; kernel_rfl) (by kernel_rfl) (by kernel_rfl) (by kernel_rfl) fun K hK => ?_; simp (maxSteps := 1000000) [ty28, ty30]
  refine callPD (isClass47 c) (by first | (simp; done) | (simp [*]; done)) (by simp) ?_; simp (maxSteps := 1000000) []
  refine callPD (open46 t (classB c) hl) (by first | (simp; done) | (simp [*]; done)) (by simp) ?_; simp (maxSteps := 1000000) [ty72]
  refine hK _ ?_; clear hK K; (first | show AWP _ _ _ _ _ | show ∃ _, _ | skip)
  (repeat refine awp_seq ?_); refine awp_reg1 (by rw [hx]; kernel_rfl) fun K hK => ?_; simp (maxSteps := 1000000) [ty34]; refine hK _ ?_; clear hK K; (first | show AWP _ _ _ _ _ | show ∃ _, _ | skip)
  by_cases hz : openT t (classB c) = 0
  · obtain ⟨hok, hcl, hT⟩ := openT_ok hz
    (repeat refine awp_seq ?_); refine awp_cond (by simp [hz]; rfl) (by rw [hx]; simp) (fun hd => ?_) (fun hd => ?_)
    · simp at hd
    · clear hd
      refine awp_skip ?_; (first | show AWP _ _ _ _ _ | show ∃ _, _ | skip)
      simp only [hz, if_true]
      (repeat refine awp_seq ?_); refine awp_drw3 [] [0, 1, 2, 3, 4, 5, 6] (by rw [hx]; kernel_rfl) (by kernel_rfl) (by kernel_rfl) (by kernel_rfl) fun K hK => ?_; simp (maxSteps := 1000000) [ty72, ty30]
      refine callPD (all49 t t.ts.isEmpty false hok.len) (by first | (simp; done) | (simp [*]; done)) (by simp) ?_; simp (maxSteps := 1000000) [ty77]
      refine callPD (certify48 t t.ts.isEmpty false c (allS t) hok (allS_lt hok.len) (classB_ok hcl).1) (by first | (simp; done) | (simp [*]; done)) (by simp) ?_; simp (maxSteps := 1000000) []
      refine hK _ ?_; clear hK K; (first | show AWP _ _ _ _ _ | show ∃ _, _ | skip)
      (repeat refine awp_seq ?_); refine awp_ret ?_; refine And.intro (Or.inr rfl) ?_
      simp [retC, resC, viewC, mapO, certT, hz]
  · (repeat refine awp_seq ?_); refine awp_cond (by simp [hz]; rfl) (by rw [hx]; simp) (fun hd => ?_) (fun hd => ?_)
    · clear hd
      (repeat refine awp_seq ?_); refine awp_reg1 (by rw [hx]; kernel_rfl) fun K hK => ?_; simp (maxSteps := 1000000) []; refine hK _ ?_; clear hK K; (first | show AWP _ _ _ _ _ | show ∃ _, _ | skip)
      (repeat refine awp_seq ?_); refine awp_ret ?_; refine And.intro (Or.inr rfl) ?_
      simp [retC, resC, viewC, mapO, certT, hz]
    · simp [hz] at hd

end Go.Proofs.Ytbhbmnofmoibhaa

namespace Go.Proofs.Ytbhbmnofmoibhaa
open Go Go.Abs

set_option maxHeartbeats 4000000

def andU (a b : Int) : Int := IntKind.u64.wrap (BitVec.ofInt IntKind.u64.bits a &&& BitVec.ofInt IntKind.u64.bits b).toNat
def addU (a b : Int) : Int := IntKind.u64.wrap (a + b)
def shrU (a : Int) (b : Nat) : Int := a.fdiv (2 ^ (min b IntKind.u64.bits))
def andI (a b : Int) : Int := IntKind.i64.wrap (BitVec.ofInt IntKind.i64.bits a &&& BitVec.ofInt IntKind.i64.bits b).toNat

theorem ib_and (a b : Int) : intBin .and .u64 a b = some (.int .u64 (andU a b)) := rfl
theorem ib_add (a b : Int) : intBin .add .u64 a b = some (.int .u64 (addU a b)) := rfl
theorem ib_andI (a b : Int) : intBin .and .i64 a b = some (.int .i64 (andI a b)) := rfl
theorem sh_1 (a : Int) : shiftC .shr .u64 a 1 = some (.int .u64 (shrU a 1)) := rfl
theorem sh_2 (a : Int) : shiftC .shr .u64 a 2 = some (.int .u64 (shrU a 2)) := rfl
theorem sh_4 (a : Int) : shiftC .shr .u64 a 4 = some (.int .u64 (shrU a 4)) := rfl
theorem sh_8 (a : Int) : shiftC .shr .u64 a 8 = some (.int .u64 (shrU a 8)) := rfl
theorem sh_16 (a : Int) : shiftC .shr .u64 a 16 = some (.int .u64 (shrU a 16)) := rfl
theorem sh_32 (a : Int) : shiftC .shr .u64 a 32 = some (.int .u64 (shrU a 32)) := rfl

def p1 (x : Int) : Int := addU (andU (shrU x 1) 6148914691236517205) (andU x 6148914691236517205)
def p2 (x : Int) : Int := addU (andU (shrU x 2) 3689348814741910323) (andU x 3689348814741910323)
def p3 (x : Int) : Int := andU (addU (shrU x 4) x) 1085102592571150095
def p4 (x : Int) (n : Nat) : Int := addU x (shrU x n)
def popI (x : Int) : Int := andI (IntKind.i64.wrap (p4 (p4 (p4 (p3 (p2 (p1 x))) 8) 16) 32)) 127

/-- How many bits a number has. -/
def popc (s : Nat) : Nat := (List.range 8).countP fun i => s.testBit i

theorem pop_fact : ∀ s : Fin 256, popI s.val = (popc s.val : Int) := by decide +kernel

theorem ones102 (s : Nat) (hs : s < 256) : Pure Try.prog 66 [.int .u64 s] (encI (popc s)) := by
  have e := pop_fact ⟨s, hs⟩
  simp only at e
  refine pure_of (fn := Try.f66) [.tmp 2] ⟨Try.func66, rfl, by kernel_rfl⟩ (by kernel_rfl) (by kernel_rfl) (by kernel_rfl) fun x hx hσ => ?_
  (repeat refine awp_seq ?_); refine awp_reg1 (by rw [hx]; kernel_rfl) fun K hK => ?_; simp (maxSteps := 1000000) []; refine hK _ ?_; clear hK K; (first | show AWP _ _ _ _ _ | show ∃ _, _ | skip)
  (repeat refine awp_seq ?_); refine awp_reg1 (by rw [hx]; kernel_rfl) fun K hK => ?_; simp (maxSteps := 1000000) [ty113, ib_and, ib_add, sh_1, -intBin, -shiftC]; refine hK _ ?_; clear hK K; (first | show AWP _ _ _ _ _ | show ∃ _, _ | skip)
  (repeat refine awp_seq ?_); refine awp_reg1 (by rw [hx]; kernel_rfl) fun K hK => ?_; simp (maxSteps := 1000000) [ty113, ib_and, ib_add, sh_2, -intBin, -shiftC]; refine hK _ ?_; clear hK K; (first | show AWP _ _ _ _ _ | show ∃ _, _ | skip)
  (repeat refine awp_seq ?_); refine awp_reg1 (by rw [hx]; kernel_rfl) fun K hK => ?_; simp (maxSteps := 1000000) [ty113, ib_and, ib_add, sh_4, -intBin, -shiftC]; refine hK _ ?_; clear hK K; (first | show AWP _ _ _ _ _ | show ∃ _, _ | skip)
  (repeat refine awp_seq ?_); refine awp_reg1 (by rw [hx]; kernel_rfl) fun K hK => ?_; simp (maxSteps := 1000000) [ty113, ib_and, ib_add, sh_8, -intBin, -shiftC]; refine hK _ ?_; clear hK K; (first | show AWP _ _ _ _ _ | show ∃ _, _ | skip)
  (repeat refine awp_seq ?_); refine awp_reg1 (by rw [hx]; kernel_rfl) fun K hK => ?_; simp (maxSteps := 1000000) [ty113, ib_and, ib_add, sh_16, -intBin, -shiftC]; refine hK _ ?_; clear hK K; (first | show AWP _ _ _ _ _ | show ∃ _, _ | skip)
  (repeat refine awp_seq ?_); refine awp_reg1 (by rw [hx]; kernel_rfl) fun K hK => ?_; simp (maxSteps := 1000000) [ty113, ib_and, ib_add, sh_32, -intBin, -shiftC]; refine hK _ ?_; clear hK K; (first | show AWP _ _ _ _ _ | show ∃ _, _ | skip)
  (repeat refine awp_seq ?_); refine awp_reg1 (by rw [hx]; kernel_rfl) fun K hK => ?_; simp (maxSteps := 1000000) [ty113, ty3, ib_andI, -intBin, -shiftC]; refine hK _ ?_; clear hK K; (first | show AWP _ _ _ _ _ | show ∃ _, _ | skip)
  (repeat refine awp_seq ?_); refine awp_ret ?_; refine And.intro (Or.inr rfl) ?_
  simp [retC, resC, viewC, mapO]
  rw [← e]
  rfl

theorem ones76 (s : Nat) (hs : s < 256) : Pure Try.prog 43 [.int .u64 s] (encI (popc s)) := by
  refine pure_of (fn := Try.f43) [.tmp 2] ⟨Try.func43, rfl, by kernel_rfl⟩ (by kernel_rfl) (by kernel_rfl) (by kernel_rfl) fun x hx hσ => ?_
  (repeat refine awp_seq ?_); refine awp_reg1 (by rw [hx]; kernel_rfl) fun K hK => ?_; simp (maxSteps := 1000000) []; refine hK _ ?_; clear hK K; (first | show AWP _ _ _ _ _ | show ∃ _, _ | skip)
  (repeat refine awp_seq ?_); refine awp_cond (by simp; rfl) (by rw [hx]; simp) (fun h => ?_) (fun h => ?_)
  · simp at h
  · refine awp_skip ?_; (first | show AWP _ _ _ _ _ | show ∃ _, _ | skip)
    (repeat refine awp_seq ?_); refine awp_reg1 (by rw [hx]; kernel_rfl) fun K hK => ?_; simp (maxSteps := 1000000) []
    refine callP (ones102 s hs) (by first | (simp; done) | (simp [*]; done)) ?_; simp (maxSteps := 1000000) []
    refine hK _ ?_; clear hK K; (first | show AWP _ _ _ _ _ | show ∃ _, _ | skip)
    (repeat refine awp_seq ?_); refine awp_ret ?_; refine And.intro (Or.inr rfl) ?_
    simp [retC, resC, viewC, mapO]

/-- One more set: the lists with as few tests as can decide. -/
def decStep (cd : Nat → Bool) (acc : List Nat) (s : Nat) : List Nat :=
  match acc with
  | [] => if cd s then [s] else []
  | a :: r => if popc a < popc s then a :: r else if cd s then (if popc s < popc a then [s] else a :: r ++ [s]) else a :: r
def decL (cd : Nat → Bool) : Nat → List Nat
  | 0 => []
  | n + 1 => decStep cd (decL cd n) n

theorem decL_lt {cd : Nat → Bool} : ∀ {n s : Nat}, s ∈ decL cd n → s < n
  | 0, s, h => by simp [decL] at h
  | n + 1, s, h => by
    unfold decL decStep at h
    have ih : ∀ s, s ∈ decL cd n → s < n := fun s => decL_lt
    split at h
    · split at h
      · simp at h; omega
      · simp at h
    · rename_i a r he
      rw [he] at ih
      split at h
      · have := ih s h; omega
      · split at h
        · split at h
          · simp at h; omega
          · rcases List.mem_append.1 h with h | h
            · have := ih s h; omega
            · simp at h; omega
        · have := ih s h; omega

theorem decL_len {cd : Nat → Bool} : ∀ n : Nat, (decL cd n).length ≤ n
  | 0 => by simp [decL]
  | n + 1 => by
    have ih := decL_len (cd := cd) n
    unfold decL decStep
    split
    · split <;> simp
    · rename_i a r he
      rw [he] at ih
      simp at ih
      split
      · simp; omega
      · split
        · split
          · simp
          · simp; omega
        · simp; omega

@[simp] abbrev cU (s : Nat) : List C := [.int .u64 s]
@[simp] abbrev obU (l : List Nat) : Ob := ⟨l.isEmpty, false, 1, l.map cU⟩

/-- Whether some tests decide a class. -/
def cdB (t : Ti) (c : Cl) (s : Nat) : Bool := !(certL (truthsS t s) c == 3)
def decSets (t : Ti) (c : Cl) : List Nat := decL (cdB t c) (2 ^ t.ts.length)

theorem allS_succ (t : Ti) : allS t + 1 = 2 ^ t.ts.length := by
  unfold allS
  have : 0 < 2 ^ t.ts.length := Nat.pow_pos (by decide)
  omega

theorem wrapu_id {z : Int} (h1 : 0 ≤ z) (h2 : z < 18446744073709551616) : IntKind.u64.wrap z = z := by
  rw [IntKind.wrap_u64]; omega

theorem wrapU {n : Int} (h0 : 0 ≤ n) (h1 : n ≤ 1000000) : IntKind.u64.wrap n = n := wrapu_id h0 (by omega)

theorem deciding100 (t : Ti) (nl fu : Bool) (c : Cl) (hok : TiOk t) (hc : 0 ≤ c.size ∧ c.size ≤ 9000) : Fresh Try.prog 64 [encFile t nl fu, encCl c] (obU (decSets t c)) := by
  have hN : 2 ^ t.ts.length ≤ 64 := Nat.pow_le_pow_right (n := 2) (by decide) hok.len
  have hall := allS_succ t
  obtain ⟨N, hNe⟩ : ∃ N, N = 2 ^ t.ts.length := ⟨_, rfl⟩
  have hcs : ∀ s, s < N → Pure Try.prog 40 [encFile t nl fu, encCl c, .int .u64 s] (encI (certL (truthsS t s) c)) := fun s hs => certify48 t nl fu c s hok (by omega) hc
  have hw1 : IntKind.u64.wrap ((allS t : Int) + 1) = (N : Int) := by rw [wrapU (by omega) (by omega)]; omega
  obtain ⟨cd, hcd⟩ : ∃ cd : Nat → Bool, ∀ s, cd s = !(certL (truthsS t s) c == 3) := ⟨_, fun _ => rfl⟩
  have hds : decSets t c = decL cd N := by
    unfold decSets; rw [← hNe]
    have : cdB t c = cd := by funext s; rw [hcd]; rfl
    rw [this]
  rw [hds]
  refine fresh_of (fn := Try.f64) [.tmp 4] ⟨Try.func64, rfl, by kernel_rfl⟩ (by kernel_rfl) (by kernel_rfl) (by kernel_rfl) fun x hx hσ => ?_
  (repeat refine awp_seq ?_); refine awp_reg1 (by rw [hx]; kernel_rfl) fun K hK => ?_; simp (maxSteps := 1000000) [ty30, ty79]; refine hK _ ?_; clear hK K; (first | show AWP _ _ _ _ _ | show ∃ _, _ | skip)
  (repeat refine awp_seq ?_); refine awp_reg1 (by rw [hx]; kernel_rfl) fun K hK => ?_; simp (maxSteps := 1000000) [ty72, ty77]
  refine callP (all49 t nl fu hok.len) (by first | (simp; done) | (simp [*]; done)) ?_; simp (maxSteps := 1000000) [ty77]
  rw [hw1]
  refine hK _ ?_; clear hK K; (first | show AWP _ _ _ _ _ | show ∃ _, _ | skip)
  (repeat refine awp_seq ?_); refine awp_block ?_
  refine AWP.weak ?_ (wk_nil 4 4 1 (fu := true) (by simp) (by simp))
  refine awp_loop (fun i : Nat => ⟨ofL [(0, encFile t nl fu), (3, .ptr 3 2 0 0), (4, .own 4 1 0 (decL cd i).length), (9, .int .u64 N), (10, .int .u64 i)], stoT [(3, 3, .live ⟨false, false, 2, [cCl c]⟩), (4, 4, .live (obU (decL cd i)))]⟩)
    (fun i => i ≤ N) (fun i => N - i) 0 (by simp) ?_ ?_
  · simp only [decL]
    refine wk_shape (shp0 hσ (by simp) (by simp) ?_) ?_
    · simp [SlotOk] <;> (repeat' (first | (refine RowsOk.same ?_; simp [purel, C.isPure]; done) | (refine rowsCons ?_; simp [mtl, mtc, mT, mH, C.isPure, purel]; done) | (refine rowsCons ?_; simp [mtl, mtc, mT, mH, C.isPure, purel]) | refine And.intro ?_ ?_))
    · simp [mtc, mtl, mT, C.isPure, purel] <;> (try simp (disch := omega) [wrap_id]) <;> (try omega)
  · intro i hi
    have hnext : decL cd (i + 1) = decStep cd (decL cd i) i := rfl
    have hlen := decL_len (cd := cd) i
    have hlt := fun s => decL_lt (cd := cd) (n := i) (s := s)
    have hcdi := hcd i
    have hwi : IntKind.u64.wrap ((i : Int) + 1) = ((i + 1 : Nat) : Int) := by rw [wrapU (by omega) (by omega)]; rfl
    generalize hacc : decL cd i = acc at *
    (repeat refine awp_seq ?_); refine awp_reg1 (by rw [hx]; kernel_rfl) fun K hK => ?_; simp (maxSteps := 1000000) [ty77]; refine hK _ ?_; clear hK K; (first | show AWP _ _ _ _ _ | show ∃ _, _ | skip)
    (repeat refine awp_seq ?_); refine awp_cond (by simp; rfl) (by rw [hx]; simp) (fun hq => ?_) (fun hq => ?_)
    · simp at hq
      have hci := hcs i hq
      refine awp_skip ?_; (first | show AWP _ _ _ _ _ | show ∃ _, _ | skip)
      (repeat refine awp_seq ?_); refine awp_block ?_
      (repeat refine awp_seq ?_); refine awp_reg1 (by rw [hx]; kernel_rfl) fun K hK => ?_; simp (maxSteps := 1000000) []; refine hK _ ?_; clear hK K; (first | show AWP _ _ _ _ _ | show ∃ _, _ | skip)
      (repeat refine awp_seq ?_); refine awp_reg1 (by rw [hx]; kernel_rfl) fun K hK => ?_; simp (maxSteps := 1000000) []
      refine callP (ones76 i (by omega)) (by first | (simp; done) | (simp [*]; done)) ?_; simp (maxSteps := 1000000) []
      refine hK _ ?_; clear hK K; (first | show AWP _ _ _ _ _ | show ∃ _, _ | skip)
      cases acc with
      | nil =>
        (repeat refine awp_seq ?_); refine awp_reg1 (by rw [hx]; kernel_rfl) fun K hK => ?_; simp (maxSteps := 1000000) [ty79, ty77, ty3, ty30]
        refine callP (hci) (by first | (simp; done) | (simp [*]; done)) ?_; simp (maxSteps := 1000000) [ty3]
        refine hK _ ?_; clear hK K; (first | show AWP _ _ _ _ _ | show ∃ _, _ | skip)
        cases hb : cd i
        · have hb2 : (certL (truthsS t i) c == 3) = true := by rw [hb] at hcdi; cases h : (certL (truthsS t i) c == 3) <;> rw [h] at hcdi <;> simp at hcdi <;> rfl
          have hnx : decL cd (i + 1) = [] := by rw [hnext]; simp [decStep, hb]
          (repeat refine awp_seq ?_); refine awp_cond (by simp [hb2]; rfl) (by rw [hx]; simp) (fun hd => ?_) (fun hd => ?_)
          · clear hd
            (repeat refine awp_seq ?_); refine awp_exit ?_; (first | show AWP _ _ _ _ _ | show ∃ _, _ | skip)
            (repeat refine awp_seq ?_); refine awp_reg1 (by rw [hx]; kernel_rfl) fun K hK => ?_; simp (maxSteps := 1000000) [ty77]; refine hK _ ?_; clear hK K; (first | show AWP _ _ _ _ _ | show ∃ _, _ | skip)
            refine ⟨i + 1, by omega, by omega, ?_⟩
            rw [hnx, hwi]
            refine wk_shape (shp0 hσ (by simp) (by simp) ?_) ?_
            · simp [SlotOk] <;> (repeat' (first | (refine RowsOk.same ?_; simp [purel, C.isPure]; done) | (refine rowsCons ?_; simp [mtl, mtc, mT, mH, C.isPure, purel]; done) | (refine rowsCons ?_; simp [mtl, mtc, mT, mH, C.isPure, purel]) | refine And.intro ?_ ?_))
            · simp [mtc, mtl, mT, C.isPure, purel] <;> (try simp (disch := omega) [wrap_id]) <;> (try omega)
          · simp [hb2] at hd
        · have hb2 : (certL (truthsS t i) c == 3) = false := by rw [hb] at hcdi; cases h : (certL (truthsS t i) c == 3) <;> rw [h] at hcdi <;> simp at hcdi <;> rfl
          have hnx : decL cd (i + 1) = [i] := by rw [hnext]; simp [decStep, hb]
          (repeat refine awp_seq ?_); refine awp_cond (by simp [hb2]; rfl) (by rw [hx]; simp) (fun hd => ?_) (fun hd => ?_)
          · simp [hb2] at hd
          · clear hd
            refine awp_skip ?_; (first | show AWP _ _ _ _ _ | show ∃ _, _ | skip)
            (repeat refine awp_seq ?_); refine awp_reg1 (by rw [hx]; kernel_rfl) fun K hK => ?_; simp (maxSteps := 1000000) [ty79, ty77, ty3]; refine hK _ ?_; clear hK K; (first | show AWP _ _ _ _ _ | show ∃ _, _ | skip)
            (repeat refine awp_seq ?_); refine awp_cond (by simp; rfl) (by rw [hx]; simp) (fun hd => ?_) (fun hd => ?_)
            · simp at hd
            · clear hd
              refine awp_skip ?_; (first | show AWP _ _ _ _ _ | show ∃ _, _ | skip)
              (repeat refine awp_seq ?_); refine awp_reg1 (by rw [hx]; kernel_rfl) fun K hK => ?_; simp (maxSteps := 1000000) [ty79, ty77, ty3]; refine hK _ ?_; clear hK K; (first | show AWP _ _ _ _ _ | show ∃ _, _ | skip)
              (repeat refine awp_seq ?_); refine awp_reg1 (by rw [hx]; kernel_rfl) fun K hK => ?_; simp (maxSteps := 1000000) [ty77]; refine hK _ ?_; clear hK K; (first | show AWP _ _ _ _ _ | show ∃ _, _ | skip)
              refine ⟨i + 1, by omega, by omega, ?_⟩
              rw [hnx, hwi]
              refine wk_shape2 [(3, 3, .live ⟨false, false, 2, [cCl c]⟩), (4, 47, .live (obU [i]))] (by first | rfl | (simp only [if_pos, if_true]; rfl)) (shp0 hσ (by simp) (by simp) ?_) ?_
              · simp [SlotOk] <;> (repeat' (first | (refine RowsOk.same ?_; simp [purel, C.isPure]; done) | (refine rowsCons ?_; simp [mtl, mtc, mT, mH, C.isPure, purel]; done) | (refine rowsCons ?_; simp [mtl, mtc, mT, mH, C.isPure, purel]) | refine And.intro ?_ ?_))
              · simp [mtc, mtl, mT, C.isPure, purel] <;> (try simp (disch := omega) [wrap_id]) <;> (try omega)
      | cons a r =>
        have ha : a < i := hlt a (by simp)
        have hpos : (0 : Int) < (r.length : Int) + 1 := by omega
        have hlr : r.length + 1 ≤ i := by simpa using hlen
        by_cases hp : popc a < popc i
        · have hnx : decL cd (i + 1) = a :: r := by rw [hnext]; simp [decStep, hp]
          (repeat refine awp_seq ?_); refine awp_reg1 (by rw [hx]; kernel_rfl) fun K hK => ?_; simp (maxSteps := 1000000) [ty79, ty77, ty3, ty30, hpos]
          refine callP (ones76 a (by omega)) (by first | (simp; done) | (simp [*]; done)) ?_; simp (maxSteps := 1000000) [ty3, hp]
          refine hK _ ?_; clear hK K; (first | show AWP _ _ _ _ _ | show ∃ _, _ | skip)
          (repeat refine awp_seq ?_); refine awp_cond (by simp [hp]; rfl) (by rw [hx]; simp) (fun hd => ?_) (fun hd => ?_)
          · clear hd
            (repeat refine awp_seq ?_); refine awp_exit ?_; (first | show AWP _ _ _ _ _ | show ∃ _, _ | skip)
            (repeat refine awp_seq ?_); refine awp_reg1 (by rw [hx]; kernel_rfl) fun K hK => ?_; simp (maxSteps := 1000000) [ty77]; refine hK _ ?_; clear hK K; (first | show AWP _ _ _ _ _ | show ∃ _, _ | skip)
            refine ⟨i + 1, by omega, by omega, ?_⟩
            rw [hnx, hwi]
            refine wk_shape (shp0 hσ (by simp) (by simp) ?_) ?_
            · simp [SlotOk] <;> (repeat' (first | (refine RowsOk.same ?_; simp [purel, C.isPure]; done) | (refine rowsCons ?_; simp [mtl, mtc, mT, mH, C.isPure, purel]; done) | (refine rowsCons ?_; simp [mtl, mtc, mT, mH, C.isPure, purel]) | refine And.intro ?_ ?_))
            · simp [mtc, mtl, mT, C.isPure, purel] <;> (try simp (disch := omega) [wrap_id]) <;> (try omega)
          · simp [hp] at hd
        · cases hb : cd i
          · have hb2 : (certL (truthsS t i) c == 3) = true := by rw [hb] at hcdi; cases h : (certL (truthsS t i) c == 3) <;> rw [h] at hcdi <;> simp at hcdi <;> rfl
            have hnx : decL cd (i + 1) = a :: r := by rw [hnext]; simp [decStep, hp, hb]
            (repeat refine awp_seq ?_); refine awp_reg1 (by rw [hx]; kernel_rfl) fun K hK => ?_; simp (maxSteps := 1000000) [ty79, ty77, ty3, ty30, hpos]
            refine callP (ones76 a (by omega)) (by first | (simp; done) | (simp [*]; done)) ?_; simp (maxSteps := 1000000) [ty3, hp, ty30]
            refine callP (hci) (by first | (simp; done) | (simp [*]; done)) ?_; simp (maxSteps := 1000000) [ty3]
            refine hK _ ?_; clear hK K; (first | show AWP _ _ _ _ _ | show ∃ _, _ | skip)
            (repeat refine awp_seq ?_); refine awp_cond (by simp [hb2]; rfl) (by rw [hx]; simp) (fun hd => ?_) (fun hd => ?_)
            · clear hd
              (repeat refine awp_seq ?_); refine awp_exit ?_; (first | show AWP _ _ _ _ _ | show ∃ _, _ | skip)
              (repeat refine awp_seq ?_); refine awp_reg1 (by rw [hx]; kernel_rfl) fun K hK => ?_; simp (maxSteps := 1000000) [ty77]; refine hK _ ?_; clear hK K; (first | show AWP _ _ _ _ _ | show ∃ _, _ | skip)
              refine ⟨i + 1, by omega, by omega, ?_⟩
              rw [hnx, hwi]
              refine wk_shape (shp0 hσ (by simp) (by simp) ?_) ?_
              · simp [SlotOk] <;> (repeat' (first | (refine RowsOk.same ?_; simp [purel, C.isPure]; done) | (refine rowsCons ?_; simp [mtl, mtc, mT, mH, C.isPure, purel]; done) | (refine rowsCons ?_; simp [mtl, mtc, mT, mH, C.isPure, purel]) | refine And.intro ?_ ?_))
              · simp [mtc, mtl, mT, C.isPure, purel] <;> (try simp (disch := omega) [wrap_id]) <;> (try omega)
            · simp [hb2] at hd
          · have hb2 : (certL (truthsS t i) c == 3) = false := by rw [hb] at hcdi; cases h : (certL (truthsS t i) c == 3) <;> rw [h] at hcdi <;> simp at hcdi <;> rfl
            (repeat refine awp_seq ?_); refine awp_reg1 (by rw [hx]; kernel_rfl) fun K hK => ?_; simp (maxSteps := 1000000) [ty79, ty77, ty3, ty30, hpos]
            refine callP (ones76 a (by omega)) (by first | (simp; done) | (simp [*]; done)) ?_; simp (maxSteps := 1000000) [ty3, hp, ty30]
            refine callP (hci) (by first | (simp; done) | (simp [*]; done)) ?_; simp (maxSteps := 1000000) [ty3]
            refine hK _ ?_; clear hK K; (first | show AWP _ _ _ _ _ | show ∃ _, _ | skip)
            (repeat refine awp_seq ?_); refine awp_cond (by simp [hb2]; rfl) (by rw [hx]; simp) (fun hd => ?_) (fun hd => ?_)
            · simp [hb2] at hd
            · clear hd
              refine awp_skip ?_; (first | show AWP _ _ _ _ _ | show ∃ _, _ | skip)
              by_cases hp2 : popc i < popc a
              · have hnx : decL cd (i + 1) = [i] := by rw [hnext]; simp [decStep, hp, hb, hp2]
                (repeat refine awp_seq ?_); refine awp_reg1 (by rw [hx]; kernel_rfl) fun K hK => ?_; simp (maxSteps := 1000000) [ty79, ty77, ty3, hpos]
                refine callP (ones76 a (by omega)) (by first | (simp; done) | (simp [*]; done)) ?_; simp (maxSteps := 1000000) [ty3, hp2]
                refine hK _ ?_; clear hK K; (first | show AWP _ _ _ _ _ | show ∃ _, _ | skip)
                (repeat refine awp_seq ?_); refine awp_cond (by simp [hp2]; rfl) (by rw [hx]; simp) (fun hd => ?_) (fun hd => ?_)
                · clear hd
                  (repeat refine awp_seq ?_); refine awp_reg1 (by rw [hx]; kernel_rfl) fun K hK => ?_; simp (maxSteps := 1000000) []; refine hK _ ?_; clear hK K; (first | show AWP _ _ _ _ _ | show ∃ _, _ | skip)
                  (repeat refine awp_seq ?_); refine awp_reg1 (by rw [hx]; kernel_rfl) fun K hK => ?_; simp (maxSteps := 1000000) [ty79, ty77, ty3]; refine hK _ ?_; clear hK K; (first | show AWP _ _ _ _ _ | show ∃ _, _ | skip)
                  (repeat refine awp_seq ?_); refine awp_reg1 (by rw [hx]; kernel_rfl) fun K hK => ?_; simp (maxSteps := 1000000) [ty77]; refine hK _ ?_; clear hK K; (first | show AWP _ _ _ _ _ | show ∃ _, _ | skip)
                  refine ⟨i + 1, by omega, by omega, ?_⟩
                  rw [hnx, hwi]
                  refine wk_shape2 [(3, 3, .live ⟨false, false, 2, [cCl c]⟩), (4, 47, .live (obU [i]))] (by first | rfl | (simp only [if_pos, if_true]; rfl)) (shp0 hσ (by simp) (by simp) ?_) ?_
                  · simp [SlotOk] <;> (repeat' (first | (refine RowsOk.same ?_; simp [purel, C.isPure]; done) | (refine rowsCons ?_; simp [mtl, mtc, mT, mH, C.isPure, purel]; done) | (refine rowsCons ?_; simp [mtl, mtc, mT, mH, C.isPure, purel]) | refine And.intro ?_ ?_))
                  · simp [mtc, mtl, mT, C.isPure, purel] <;> (try simp (disch := omega) [wrap_id]) <;> (try omega)
                · simp [hp2] at hd
              · have hnx : decL cd (i + 1) = a :: r ++ [i] := by rw [hnext]; simp [decStep, hp, hb, hp2]
                (repeat refine awp_seq ?_); refine awp_reg1 (by rw [hx]; kernel_rfl) fun K hK => ?_; simp (maxSteps := 1000000) [ty79, ty77, ty3, hpos]
                refine callP (ones76 a (by omega)) (by first | (simp; done) | (simp [*]; done)) ?_; simp (maxSteps := 1000000) [ty3, hp2]
                refine hK _ ?_; clear hK K; (first | show AWP _ _ _ _ _ | show ∃ _, _ | skip)
                (repeat refine awp_seq ?_); refine awp_cond (by simp [hp2]; rfl) (by rw [hx]; simp) (fun hd => ?_) (fun hd => ?_)
                · simp [hp2] at hd
                · clear hd
                  refine awp_skip ?_; (first | show AWP _ _ _ _ _ | show ∃ _, _ | skip)
                  (repeat refine awp_seq ?_); refine awp_reg1 (by rw [hx]; kernel_rfl) fun K hK => ?_; simp (maxSteps := 1000000) [ty79, ty77, ty3]
                  refine ⟨by omega, ?_⟩
                  refine hK _ ?_; clear hK K; (first | show AWP _ _ _ _ _ | show ∃ _, _ | skip)
                  (repeat refine awp_seq ?_); refine awp_reg1 (by rw [hx]; kernel_rfl) fun K hK => ?_; simp (maxSteps := 1000000) [ty77]; refine hK _ ?_; clear hK K; (first | show AWP _ _ _ _ _ | show ∃ _, _ | skip)
                  refine ⟨i + 1, by omega, by omega, ?_⟩
                  rw [hnx, hwi]
                  refine wk_shape2 [(3, 3, .live ⟨false, false, 2, [cCl c]⟩), (4, 47, .live (obU (a :: r ++ [i])))] (by first | rfl | (simp only [if_pos, if_true]; rfl)) (shp0 hσ (by simp) (by simp) ?_) ?_
                  · simp [SlotOk] <;> (repeat' (first | (refine RowsOk.same ?_; simp [purel, C.isPure]; done) | (refine rowsCons ?_; simp [mtl, mtc, mT, mH, C.isPure, purel]; done) | (refine rowsCons ?_; simp [mtl, mtc, mT, mH, C.isPure, purel]) | refine And.intro ?_ ?_))
                  · simp [mtc, mtl, mT, C.isPure, purel] <;> (try simp (disch := omega) [wrap_id]) <;> (try omega)
    · simp at hq
      (repeat refine awp_seq ?_); refine awp_exit ?_; (first | show AWP _ _ _ _ _ | show ∃ _, _ | skip)
      have hin : i = N := by omega
      (repeat refine awp_seq ?_); refine awp_reg1 (by rw [hx]; kernel_rfl) fun K hK => ?_; simp (maxSteps := 1000000) []; refine hK _ ?_; clear hK K; (first | show AWP _ _ _ _ _ | show ∃ _, _ | skip)
      (repeat refine awp_seq ?_)
      refine awp_ret ?_
      refine ⟨.inr rfl, .inl ⟨4, ?_, ?_, ?_⟩⟩
      · simp [retC, resC, viewC, mapO, hacc, ← hin]
      · simp [hacc, ← hin]
      · simp [purel, C.isPure]

end Go.Proofs.Ytbhbmnofmoibhaa

namespace Go.Proofs.Ytbhbmnofmoibhaa
open Go Go.Abs

set_option maxHeartbeats 4000000

@[simp] theorem take_mapLen {α : Type} (f : α → List C) (l : List α) : List.take l.length (l.map f) = l.map f := List.take_of_length_le (by simp)

/-- The tests of a set. -/
def listS (t : Ti) (s : Nat) : List Int := fixTo (fun i => s.testBit i) t.ts.length

theorem list78 (t : Ti) (nl fu : Bool) (s : Nat) (hs : s < 64) (hok : TiOk t) : Fresh Try.prog 44 [encFile t nl fu, .int .u64 s] ⟨(listS t s).isEmpty, false, 1, (listS t s).map cI⟩ := by
  have h6 := hok.len
  unfold listS
  obtain ⟨A, hA⟩ : ∃ A : Nat → List Int, ∀ i, A i = fixTo (fun i => s.testBit i) i := ⟨_, fun _ => rfl⟩
  have hA0 : A 0 = [] := hA 0
  have hAl : ∀ i, (A i).length ≤ i := fun i => by rw [hA]; exact fixTo_len _ _
  have hAs : ∀ i, A (i + 1) = if s.testBit i then A i ++ [(i : Int)] else A i := fun i => by rw [hA, hA]; rfl
  rw [← hA]
  refine fresh_of (fn := Try.f44) [.tmp 4] ⟨Try.func44, rfl, by kernel_rfl⟩ (by kernel_rfl) (by kernel_rfl) (by kernel_rfl) fun x hx hσ => ?_
  (repeat refine awp_seq ?_); refine awp_reg1 (by rw [hx]; kernel_rfl) fun K hK => ?_; simp (maxSteps := 1000000) [ty49]; refine hK _ ?_; clear hK K; (first | show AWP _ _ _ _ _ | show ∃ _, _ | skip)
  (repeat refine awp_seq ?_); refine awp_reg1 (by rw [hx]; kernel_rfl) fun K hK => ?_; simp (maxSteps := 1000000) [ty72, ty106, ty28, ty26]; refine hK _ ?_; clear hK K; (first | show AWP _ _ _ _ _ | show ∃ _, _ | skip)
  (repeat refine awp_seq ?_); refine awp_block ?_
  refine AWP.weak ?_ (wk_nil 4 4 1 (fu := true) (by simp) (by simp))
  refine awp_loop (fun i : Nat => ⟨ofL [(0, encFile t nl fu), (1, .int .u64 s), (4, .own 4 1 0 (A i).length), (11, encI t.ts.length), (12, encI i)], stoT [(4, 4, .live ⟨(A i).isEmpty, false, 1, (A i).map cI⟩)]⟩)
    (fun i => i ≤ t.ts.length) (fun i => t.ts.length - i) 0 (by simp) ?_ ?_
  · rw [hA0]
    refine wk_shape (shp0 hσ (by simp) (by simp) ?_) ?_
    · simp [SlotOk] <;> (repeat' (first | (refine RowsOk.same ?_; simp [purel, C.isPure]; done) | (refine rowsCons ?_; simp [mtl, mtc, mT, mH, C.isPure, purel]; done) | (refine rowsCons ?_; simp [mtl, mtc, mT, mH, C.isPure, purel]) | refine And.intro ?_ ?_))
    · simp [mtc, mtl, mT, C.isPure, purel] <;> (try simp (disch := omega) [wrap_id]) <;> (try omega)
  · intro i hi
    have hl := hAl i
    have hst := hAs i
    have hwi : IntKind.i64.wrap ((i : Int) + 1) = ((i + 1 : Nat) : Int) := by rw [wrap_id (by omega) (by omega)]; rfl
    generalize hacc : A i = acc at *
    (repeat refine awp_seq ?_); refine awp_reg1 (by rw [hx]; kernel_rfl) fun K hK => ?_; simp (maxSteps := 1000000) [ty3]; refine hK _ ?_; clear hK K; (first | show AWP _ _ _ _ _ | show ∃ _, _ | skip)
    (repeat refine awp_seq ?_); refine awp_cond (by simp; rfl) (by rw [hx]; simp) (fun hq => ?_) (fun hq => ?_)
    · simp at hq
      refine awp_skip ?_; (first | show AWP _ _ _ _ _ | show ∃ _, _ | skip)
      (repeat refine awp_seq ?_); refine awp_block ?_
      (repeat refine awp_seq ?_); refine awp_reg1 (by rw [hx]; kernel_rfl) fun K hK => ?_; simp (maxSteps := 1000000) []; refine hK _ ?_; clear hK K; (first | show AWP _ _ _ _ _ | show ∃ _, _ | skip)
      cases hb : s.testBit i
      · rw [hb] at hst
        simp at hst
        (repeat refine awp_seq ?_); refine awp_reg1 (by rw [hx]; kernel_rfl) fun K hK => ?_; simp (maxSteps := 1000000) []
        refine callP (has99 s i hs (by omega)) (by first | (simp; done) | (simp [*]; done)) ?_; simp (maxSteps := 1000000) [hb]
        refine hK _ ?_; clear hK K; (first | show AWP _ _ _ _ _ | show ∃ _, _ | skip)
        (repeat refine awp_seq ?_); refine awp_cond (by simp; rfl) (by rw [hx]; simp) (fun hd => ?_) (fun hd => ?_)
        · simp at hd
        · refine awp_skip ?_; (first | show AWP _ _ _ _ _ | show ∃ _, _ | skip)
          (repeat refine awp_seq ?_); refine awp_reg1 (by rw [hx]; kernel_rfl) fun K hK => ?_; simp (maxSteps := 1000000) [ty3]; refine hK _ ?_; clear hK K; (first | show AWP _ _ _ _ _ | show ∃ _, _ | skip)
          refine ⟨i + 1, by omega, by omega, ?_⟩
          rw [hst, hwi]
          refine wk_shape (shp0 hσ (by simp) (by simp) ?_) ?_
          · simp [SlotOk] <;> (repeat' (first | (refine RowsOk.same ?_; simp [purel, C.isPure]; done) | (refine rowsCons ?_; simp [mtl, mtc, mT, mH, C.isPure, purel]; done) | (refine rowsCons ?_; simp [mtl, mtc, mT, mH, C.isPure, purel]) | refine And.intro ?_ ?_))
          · simp [mtc, mtl, mT, C.isPure, purel] <;> (try simp (disch := omega) [wrap_id]) <;> (try omega)
      · rw [hb] at hst
        simp at hst
        (repeat refine awp_seq ?_); refine awp_reg1 (by rw [hx]; kernel_rfl) fun K hK => ?_; simp (maxSteps := 1000000) []
        refine callP (has99 s i hs (by omega)) (by first | (simp; done) | (simp [*]; done)) ?_; simp (maxSteps := 1000000) [hb]
        refine hK _ ?_; clear hK K; (first | show AWP _ _ _ _ _ | show ∃ _, _ | skip)
        (repeat refine awp_seq ?_); refine awp_cond (by simp; rfl) (by rw [hx]; simp) (fun hd => ?_) (fun hd => ?_)
        · (repeat refine awp_seq ?_); refine awp_reg1 (by rw [hx]; kernel_rfl) fun K hK => ?_; simp (maxSteps := 1000000) [ty49, ty3]
          refine ⟨by omega, ?_⟩
          refine hK _ ?_; clear hK K; (first | show AWP _ _ _ _ _ | show ∃ _, _ | skip)
          (repeat refine awp_seq ?_); refine awp_reg1 (by rw [hx]; kernel_rfl) fun K hK => ?_; simp (maxSteps := 1000000) [ty3]; refine hK _ ?_; clear hK K; (first | show AWP _ _ _ _ _ | show ∃ _, _ | skip)
          refine ⟨i + 1, by omega, by omega, ?_⟩
          rw [hst, hwi]
          refine wk_shape2 [(4, 21, .live ⟨(acc ++ [(i : Int)]).isEmpty, false, 1, (acc ++ [(i : Int)]).map cI⟩)] (by first | rfl | (simp only [if_pos, if_true]; rfl)) (shp0 hσ (by simp) (by simp) ?_) ?_
          · simp [SlotOk] <;> (repeat' (first | (refine RowsOk.same ?_; simp [purel, C.isPure]; done) | (refine rowsCons ?_; simp [mtl, mtc, mT, mH, C.isPure, purel]; done) | (refine rowsCons ?_; simp [mtl, mtc, mT, mH, C.isPure, purel]) | refine And.intro ?_ ?_))
          · simp [mtc, mtl, mT, C.isPure, purel] <;> (try simp (disch := omega) [wrap_id]) <;> (try omega)
        · simp at hd
    · simp at hq
      (repeat refine awp_seq ?_); refine awp_exit ?_; (first | show AWP _ _ _ _ _ | show ∃ _, _ | skip)
      have hin : i = t.ts.length := by omega
      rw [← hin] at *
      (repeat refine awp_seq ?_); refine awp_reg1 (by rw [hx]; kernel_rfl) fun K hK => ?_; simp (maxSteps := 1000000) []; refine hK _ ?_; clear hK K; (first | show AWP _ _ _ _ _ | show ∃ _, _ | skip)
      (repeat refine awp_seq ?_)
      refine awp_ret ?_
      refine ⟨.inr rfl, .inl ⟨4, ?_, ?_, ?_⟩⟩
      · simp [retC, resC, viewC, mapO, hacc]
      · simp [hacc]
      · simp [purel, C.isPure]

/-- The error of a class that is to be decided. -/
def decE (t : Ti) (c : Cl) : Int := if openT t (classB c) ≠ 0 then openT t (classB c) else if decSets t c = [] then 3 else 0
def decSl (t : Ti) (c : Cl) : C := if decE t c = 0 then .sl false false ((decSets t c).map cU) else .sl true true []

theorem decE_ok {t : Ti} {c : Cl} (h : decE t c = 0) : TiOk t ∧ classB c = true ∧ decSets t c ≠ [] := by
  unfold decE at h
  split at h
  · contradiction
  · rename_i h1
    obtain ⟨a, b, _⟩ := openT_ok (Classical.byContradiction fun e => h1 e)
    split at h
    · omega
    · exact ⟨a, b, by assumption⟩

theorem decided75 (t : Ti) (c : Cl) (hl : TiLen t) : Pure Try.prog 42 [encTi t, encCl c] (.tup [if decE t c = 0 then encF t else .pnil, decSl t c, encI (decE t c)]) := by
  refine pure_of (fn := Try.f42) [.tmp 4, .tmp 5, .tmp 6] ⟨Try.func42, rfl, by kernel_rfl⟩ (by kernel_rfl) (by kernel_rfl) (by kernel_rfl) fun x hx hσ => ?_
  (repeat refine awp_seq ?_); refine awp_reg1 (by rw [hx]; kernel_rfl) fun K hK => ?_; simp (maxSteps := 1000000) [ty28, ty30]; refine hK _ ?_; clear hK K; (first | show AWP _ _ _ _ _ | show ∃ _, _ | skip)
  (repeat refine awp_seq ?_); refine awp_drw3 [] [0, 1, 2, 3, 4, 5, 6, 7, 8] (by rw [hx]; kernel_rfl) (by kernel_rfl) (by kernel_rfl) (by kernel_rfl) fun K hK => ?_; simp (maxSteps := 1000000) [ty28, ty30]
  refine callPD (isClass47 c) (by first | (simp; done) | (simp [*]; done)) (by simp) ?_; simp (maxSteps := 1000000) []
  refine callPD (open46 t (classB c) hl) (by first | (simp; done) | (simp [*]; done)) (by simp) ?_; simp (maxSteps := 1000000) [ty72]
  refine hK _ ?_; clear hK K; (first | show AWP _ _ _ _ _ | show ∃ _, _ | skip)
  (repeat refine awp_seq ?_); refine awp_reg1 (by rw [hx]; kernel_rfl) fun K hK => ?_; simp (maxSteps := 1000000) [ty34]; refine hK _ ?_; clear hK K; (first | show AWP _ _ _ _ _ | show ∃ _, _ | skip)
  by_cases hz : openT t (classB c) = 0
  · obtain ⟨hok, hcl, hT⟩ := openT_ok hz
    (repeat refine awp_seq ?_); refine awp_cond (by simp [hz]; rfl) (by rw [hx]; simp) (fun hd => ?_) (fun hd => ?_)
    · simp at hd
    · clear hd
      refine awp_skip ?_; (first | show AWP _ _ _ _ _ | show ∃ _, _ | skip)
      simp only [hz, if_true]
      (repeat refine awp_seq ?_); refine awp_reg1 (by rw [hx]; kernel_rfl) fun K hK => ?_; simp (maxSteps := 1000000) [ty72, ty30]
      refine freshL (deciding100 t t.ts.isEmpty false c hok (classB_ok hcl).1) (by simp [purel, C.isPure]) rfl ?_
      simp
      refine hK _ ?_; clear hK K; (first | show AWP _ _ _ _ _ | show ∃ _, _ | skip)
      by_cases h0 : decSets t c = []
      · have hE : decE t c = 3 := by unfold decE; rw [if_neg (by simpa using hz), if_pos h0]
        (repeat refine awp_seq ?_); refine awp_reg1 (by rw [hx]; kernel_rfl) fun K hK => ?_; simp (maxSteps := 1000000) [ty79, ty3, h0]; refine hK _ ?_; clear hK K; (first | show AWP _ _ _ _ _ | show ∃ _, _ | skip)
        (repeat refine awp_seq ?_); refine awp_cond (by simp; rfl) (by rw [hx]; simp) (fun hd => ?_) (fun hd => ?_)
        · (repeat refine awp_seq ?_); refine awp_reg1 (by rw [hx]; kernel_rfl) fun K hK => ?_; simp (maxSteps := 1000000) []; refine hK _ ?_; clear hK K; (first | show AWP _ _ _ _ _ | show ∃ _, _ | skip)
          (repeat refine awp_seq ?_); refine awp_ret ?_; refine And.intro (Or.inr rfl) ?_
          simp [retC, resC, viewC, mapO, hE, decSl]
        · simp at hd
      · have hE : decE t c = 0 := by unfold decE; rw [if_neg (by simpa using hz), if_neg h0]
        have hlb : (((decSets t c).length : Int) == 0) = false := by
          rw [beq_eq_false_iff_ne]
          intro e; exact h0 (List.eq_nil_of_length_eq_zero (by omega))
        have hem : (decSets t c).isEmpty = false := by simpa [List.isEmpty_eq_false_iff] using h0
        (repeat refine awp_seq ?_); refine awp_reg1 (by rw [hx]; kernel_rfl) fun K hK => ?_; simp (maxSteps := 1000000) [ty79, ty3, hlb]; refine hK _ ?_; clear hK K; (first | show AWP _ _ _ _ _ | show ∃ _, _ | skip)
        (repeat refine awp_seq ?_); refine awp_cond (by simp [hlb]; rfl) (by rw [hx]; simp) (fun hd => ?_) (fun hd => ?_)
        · simp [h0] at hd
        · clear hd
          refine awp_skip ?_; (first | show AWP _ _ _ _ _ | show ∃ _, _ | skip)
          (repeat refine awp_seq ?_); refine awp_reg1 (by rw [hx]; kernel_rfl) fun K hK => ?_; simp (maxSteps := 1000000) [ty72, ty79]; refine hK _ ?_; clear hK K; (first | show AWP _ _ _ _ _ | show ∃ _, _ | skip)
          (repeat refine awp_seq ?_); refine awp_ret ?_; refine And.intro (Or.inr rfl) ?_
          simp [retC, resC, viewC, mapO, hE, decSl, purel, C.isPure, h0]
  · have hE : decE t c = openT t (classB c) := by unfold decE; rw [if_pos hz]
    (repeat refine awp_seq ?_); refine awp_cond (by simp [hz]; rfl) (by rw [hx]; simp) (fun hd => ?_) (fun hd => ?_)
    · clear hd
      (repeat refine awp_seq ?_); refine awp_reg1 (by rw [hx]; kernel_rfl) fun K hK => ?_; simp (maxSteps := 1000000) []; refine hK _ ?_; clear hK K; (first | show AWP _ _ _ _ _ | show ∃ _, _ | skip)
      (repeat refine awp_seq ?_); refine awp_ret ?_; refine And.intro (Or.inr rfl) ?_
      simp [retC, resC, viewC, mapO, hE, hz, decSl]
    · simp [hz] at hd

def fewestT (t : Ti) (c : Cl) : Int := if decE t c = 0 then popc ((decSets t c).headD 0) else 0

theorem decSets_lt {t : Ti} {c : Cl} {s : Nat} (hok : TiOk t) (h : s ∈ decSets t c) : s < 64 := by
  have h1 := decL_lt h
  have h2 : 2 ^ t.ts.length ≤ 64 := Nat.pow_le_pow_right (n := 2) (by decide) hok.len
  omega

theorem decSets_cons {t : Ti} {c : Cl} (h : decSets t c ≠ []) : ∃ a r, decSets t c = a :: r := by
  cases h2 : decSets t c with
  | nil => exact absurd h2 h
  | cons a r => exact ⟨a, r, rfl⟩

theorem fewest38 (t : Ti) (c : Cl) (hl : TiLen t) : Pure Try.prog 16 [encTi t, encCl c] (.tup [encI (fewestT t c), encI (decE t c)]) := by
  refine pure_of (fn := Try.f16) [.tmp 4, .tmp 5] ⟨Try.func16, rfl, by kernel_rfl⟩ (by kernel_rfl) (by kernel_rfl) (by kernel_rfl) fun x hx hσ => ?_
  (repeat refine awp_seq ?_); refine awp_reg1 (by rw [hx]; kernel_rfl) fun K hK => ?_; simp (maxSteps := 1000000) [ty28, ty30]; refine hK _ ?_; clear hK K; (first | show AWP _ _ _ _ _ | show ∃ _, _ | skip)
  (repeat refine awp_seq ?_); refine awp_reg1 (by rw [hx]; kernel_rfl) fun K hK => ?_; simp (maxSteps := 1000000) [ty28, ty30]
  refine callP (decided75 t c hl) (by simp [purel, C.isPure]) ?_
  simp [ty79, ty72]
  refine hK _ ?_; clear hK K; (first | show AWP _ _ _ _ _ | show ∃ _, _ | skip)
  (repeat refine awp_seq ?_); refine awp_reg1 (by rw [hx]; kernel_rfl) fun K hK => ?_; simp (maxSteps := 1000000) [ty34]; refine hK _ ?_; clear hK K; (first | show AWP _ _ _ _ _ | show ∃ _, _ | skip)
  by_cases hz : decE t c = 0
  · obtain ⟨hok, hcl, h0⟩ := decE_ok hz
    obtain ⟨a, r, har⟩ := decSets_cons h0
    have ha := decSets_lt (c := c) hok (s := a) (by rw [har]; simp)
    have hsl : decSl t c = .sl false false ((decSets t c).map cU) := if_pos hz
    (repeat refine awp_seq ?_); refine awp_cond (by simp [hz]; rfl) (by rw [hx]; simp) (fun hd => ?_) (fun hd => ?_)
    · simp at hd
    · clear hd
      refine awp_skip ?_; (first | show AWP _ _ _ _ _ | show ∃ _, _ | skip)
      simp only [hsl, har]
      (repeat refine awp_seq ?_); refine awp_reg1 (by rw [hx]; kernel_rfl) fun K hK => ?_; simp (maxSteps := 1000000) [ty79, ty77]
      refine callP (ones76 a (by omega)) (by first | (simp; done) | (simp [*]; done)) ?_; simp (maxSteps := 1000000) []
      refine hK _ ?_; clear hK K; (first | show AWP _ _ _ _ _ | show ∃ _, _ | skip)
      (repeat refine awp_seq ?_); refine awp_ret ?_; refine And.intro (Or.inr rfl) ?_
      simp [retC, resC, viewC, mapO, fewestT, hz, har]
  · (repeat refine awp_seq ?_); refine awp_cond (by simp [hz]; rfl) (by rw [hx]; simp) (fun hd => ?_) (fun hd => ?_)
    · clear hd
      (repeat refine awp_seq ?_); refine awp_reg1 (by rw [hx]; kernel_rfl) fun K hK => ?_; simp (maxSteps := 1000000) []; refine hK _ ?_; clear hK K; (first | show AWP _ _ _ _ _ | show ∃ _, _ | skip)
      (repeat refine awp_seq ?_); refine awp_ret ?_; refine And.intro (Or.inr rfl) ?_
      simp [retC, resC, viewC, mapO, hz, fewestT]
    · simp [hz] at hd


def decideT (t : Ti) (c : Cl) : List Int := if decE t c = 0 then listS t ((decSets t c).headD 0) else []

theorem decide42 (t : Ti) (c : Cl) (hl : TiLen t) : Pure Try.prog 17 [encTi t, encCl c] (.tup [.sl (decideT t c).isEmpty (decE t c != 0) ((decideT t c).map cI), encI (decE t c)]) := by
  refine pure_of (fn := Try.f17) [.tmp 4, .tmp 5] ⟨Try.func17, rfl, by kernel_rfl⟩ (by kernel_rfl) (by kernel_rfl) (by kernel_rfl) fun x hx hσ => ?_
  (repeat refine awp_seq ?_); refine awp_reg1 (by rw [hx]; kernel_rfl) fun K hK => ?_; simp (maxSteps := 1000000) [ty28, ty30]; refine hK _ ?_; clear hK K; (first | show AWP _ _ _ _ _ | show ∃ _, _ | skip)
  (repeat refine awp_seq ?_); refine awp_reg1 (by rw [hx]; kernel_rfl) fun K hK => ?_; simp (maxSteps := 1000000) [ty28, ty30]
  refine callP (decided75 t c hl) (by simp [purel, C.isPure]) ?_
  simp [ty79, ty72]
  refine hK _ ?_; clear hK K; (first | show AWP _ _ _ _ _ | show ∃ _, _ | skip)
  (repeat refine awp_seq ?_); refine awp_reg1 (by rw [hx]; kernel_rfl) fun K hK => ?_; simp (maxSteps := 1000000) [ty34]; refine hK _ ?_; clear hK K; (first | show AWP _ _ _ _ _ | show ∃ _, _ | skip)
  by_cases hz : decE t c = 0
  · obtain ⟨hok, hcl, h0⟩ := decE_ok hz
    obtain ⟨a, r, har⟩ := decSets_cons h0
    have ha := decSets_lt (c := c) hok (s := a) (by rw [har]; simp)
    have hsl : decSl t c = .sl false false ((decSets t c).map cU) := if_pos hz
    have hdt : decideT t c = listS t a := by unfold decideT; rw [if_pos hz, har]; rfl
    (repeat refine awp_seq ?_); refine awp_cond (by simp [hz]; rfl) (by rw [hx]; simp) (fun hd => ?_) (fun hd => ?_)
    · simp at hd
    · clear hd
      refine awp_skip ?_; (first | show AWP _ _ _ _ _ | show ∃ _, _ | skip)
      simp only [hsl, har, hz, if_true]
      (repeat refine awp_seq ?_); refine awp_reg1 (by rw [hx]; kernel_rfl) fun K hK => ?_; simp (maxSteps := 1000000) [ty79, ty77, ty72]
      refine freshL (list78 t t.ts.isEmpty false a ha hok) (by simp [purel, C.isPure]) rfl ?_
      simp
      refine hK _ ?_; clear hK K; (first | show AWP _ _ _ _ _ | show ∃ _, _ | skip)
      (repeat refine awp_seq ?_); refine awp_ret ?_; refine And.intro (Or.inr rfl) ?_
      rw [hdt]
      simp [retC, resC, viewC, mapO, purel, C.isPure]
  · have hdt : decideT t c = [] := by unfold decideT; rw [if_neg hz]
    (repeat refine awp_seq ?_); refine awp_cond (by simp [hz]; rfl) (by rw [hx]; simp) (fun hd => ?_) (fun hd => ?_)
    · clear hd
      (repeat refine awp_seq ?_); refine awp_reg1 (by rw [hx]; kernel_rfl) fun K hK => ?_; simp (maxSteps := 1000000) []; refine hK _ ?_; clear hK K; (first | show AWP _ _ _ _ _ | show ∃ _, _ | skip)
      (repeat refine awp_seq ?_); refine awp_ret ?_; refine And.intro (Or.inr rfl) ?_
      simp [retC, resC, viewC, mapO, hz, hdt]
    · simp [hz] at hd

theorem and_fact : ∀ a b : Fin 64, IntKind.u64.wrap (BitVec.ofInt IntKind.u64.bits a.val &&& BitVec.ofInt IntKind.u64.bits b.val).toNat = ((a.val &&& b.val : Nat) : Int) := by decide +kernel

theorem andU_eq {a b : Nat} (ha : a < 64) (hb : b < 64) : andU a b = ((a &&& b : Nat) : Int) := and_fact ⟨a, ha⟩ ⟨b, hb⟩

/-- The tests that are in each set. -/
def inAll (l : List Nat) (a : Nat) : Nat := l.foldl (fun x y => x &&& y) a

theorem inAll_lt {a : Nat} (ha : a < 64) : ∀ (l : List Nat), inAll l a < 64 := by
  intro l
  have : ∀ (l : List Nat) (a : Nat), a < 64 → inAll l a < 64 := by
    intro l
    induction l with
    | nil => intro a h; exact h
    | cons x l ih => intro a h; exact ih _ (Nat.lt_of_le_of_lt Nat.and_le_left h)
  exact this l a ha

theorem inAll_step {l : List Nat} {a i : Nat} (hi : i < l.length) : inAll (l.take (i + 1)) a = inAll (l.take i) a &&& l[i] := by
  unfold inAll
  rw [List.take_succ_eq_append_getElem hi, List.foldl_append]
  rfl

def neededT (t : Ti) (c : Cl) : List Int := if decE t c = 0 then listS t (inAll (decSets t c) (allS t)) else []

theorem needed40 (t : Ti) (c : Cl) (hl : TiLen t) : Pure Try.prog 18 [encTi t, encCl c] (.tup [.sl (neededT t c).isEmpty (decE t c != 0) ((neededT t c).map cI), encI (decE t c)]) := by
  refine pure_of (fn := Try.f18) [.tmp 4, .tmp 5] ⟨Try.func18, rfl, by kernel_rfl⟩ (by kernel_rfl) (by kernel_rfl) (by kernel_rfl) fun x hx hσ => ?_
  (repeat refine awp_seq ?_); refine awp_reg1 (by rw [hx]; kernel_rfl) fun K hK => ?_; simp (maxSteps := 1000000) [ty28, ty30]; refine hK _ ?_; clear hK K; (first | show AWP _ _ _ _ _ | show ∃ _, _ | skip)
  (repeat refine awp_seq ?_); refine awp_reg1 (by rw [hx]; kernel_rfl) fun K hK => ?_; simp (maxSteps := 1000000) [ty28, ty30]
  refine callP (decided75 t c hl) (by simp [purel, C.isPure]) ?_
  simp [ty79, ty72]
  refine hK _ ?_; clear hK K; (first | show AWP _ _ _ _ _ | show ∃ _, _ | skip)
  (repeat refine awp_seq ?_); refine awp_reg1 (by rw [hx]; kernel_rfl) fun K hK => ?_; simp (maxSteps := 1000000) [ty34]; refine hK _ ?_; clear hK K; (first | show AWP _ _ _ _ _ | show ∃ _, _ | skip)
  by_cases hz : decE t c = 0
  · obtain ⟨hok, hcl, h0⟩ := decE_ok hz
    have hlt := fun s => decSets_lt (c := c) hok (s := s)
    have hsl : decSl t c = .sl false false ((decSets t c).map cU) := if_pos hz
    have hdt : neededT t c = listS t (inAll (decSets t c) (allS t)) := by unfold neededT; rw [if_pos hz]
    have ha0 := allS_lt hok.len
    have hb := decL_len (cd := cdB t c) (2 ^ t.ts.length)
    have hN : 2 ^ t.ts.length ≤ 64 := Nat.pow_le_pow_right (n := 2) (by decide) hok.len
    have hb2 : (decSets t c).length ≤ 64 := Nat.le_trans hb hN
    generalize hL : decSets t c = L at *
    (repeat refine awp_seq ?_); refine awp_cond (by simp [hz]; rfl) (by rw [hx]; simp) (fun hd => ?_) (fun hd => ?_)
    · simp at hd
    · clear hd
      refine awp_skip ?_; (first | show AWP _ _ _ _ _ | show ∃ _, _ | skip)
      simp only [hsl, hz, if_true]
      (repeat refine awp_seq ?_); refine awp_reg1 (by rw [hx]; kernel_rfl) fun K hK => ?_; simp (maxSteps := 1000000) [ty72]
      refine callP (all49 t t.ts.isEmpty false hok.len) (by first | (simp; done) | (simp [*]; done)) ?_; simp (maxSteps := 1000000) [ty77]
      refine hK _ ?_; clear hK K; (first | show AWP _ _ _ _ _ | show ∃ _, _ | skip)
      (repeat refine awp_seq ?_); refine awp_reg1 (by rw [hx]; kernel_rfl) fun K hK => ?_; simp (maxSteps := 1000000) [ty79]; refine hK _ ?_; clear hK K; (first | show AWP _ _ _ _ _ | show ∃ _, _ | skip)
      (repeat refine awp_seq ?_); refine awp_block ?_
      refine awp_loop (fun i : Nat => ⟨ofL [(6, encF t), (9, .int .u64 (inAll (L.take i) (allS t))), (24, .sl false false (L.map cU)), (25, encI L.length), (26, encI i)], stoT []⟩)
        (fun i => i ≤ L.length) (fun i => L.length - i) 0 (by simp) ?_ ?_
      · refine wk_shape (shp0 hσ (by simp) (by simp) ?_) ?_
        · simp [SlotOk] <;> (repeat' (first | exact .same (by simp [purel, C.isPure]) | exact .cons (by simp [mtl, mtc, mT, mH, C.isPure, purel]) (by simp) .nil | refine And.intro ?_ ?_))
        · simp [mtc, mtl, mT, C.isPure, purel, inAll] <;> (try simp (disch := omega) [wrap_id]) <;> (try omega)
      · intro i hi
        (repeat refine awp_seq ?_); refine awp_reg1 (by rw [hx]; kernel_rfl) fun K hK => ?_; simp (maxSteps := 1000000) [ty3]; refine hK _ ?_; clear hK K; (first | show AWP _ _ _ _ _ | show ∃ _, _ | skip)
        (repeat refine awp_seq ?_); refine awp_cond (by simp; rfl) (by rw [hx]; simp) (fun hq => ?_) (fun hq => ?_)
        · simp at hq
          have hst := inAll_step (a := allS t) hq
          have h1 := inAll_lt ha0 (L.take i)
          have h2 := hlt L[i] (List.getElem_mem hq)
          have hand := andU_eq h1 h2
          refine awp_skip ?_; (first | show AWP _ _ _ _ _ | show ∃ _, _ | skip)
          (repeat refine awp_seq ?_); refine awp_block ?_
          (repeat refine awp_seq ?_); refine awp_reg1 (by rw [hx]; kernel_rfl) fun K hK => ?_; simp (maxSteps := 1000000) [ty79, ty77, hq]; refine hK _ ?_; clear hK K; (first | show AWP _ _ _ _ _ | show ∃ _, _ | skip)
          (repeat refine awp_seq ?_); refine awp_reg1 (by rw [hx]; kernel_rfl) fun K hK => ?_; simp (maxSteps := 1000000) [ty77, ib_and, hand, -intBin]; refine hK _ ?_; clear hK K; (first | show AWP _ _ _ _ _ | show ∃ _, _ | skip)
          (repeat refine awp_seq ?_); refine awp_reg1 (by rw [hx]; kernel_rfl) fun K hK => ?_; simp (maxSteps := 1000000) [ty3]; refine hK _ ?_; clear hK K; (first | show AWP _ _ _ _ _ | show ∃ _, _ | skip)
          rw [wrap_id (by omega) (by omega)]
          refine ⟨i + 1, by omega, by omega, ?_⟩
          rw [hst]
          refine wk_shape (shp0 hσ (by simp) (by simp) ?_) ?_
          · simp [SlotOk] <;> (repeat' (first | exact .same (by simp [purel, C.isPure]) | exact .cons (by simp [mtl, mtc, mT, mH, C.isPure, purel]) (by simp) .nil | refine And.intro ?_ ?_))
          · simp [mtc, mtl, mT, C.isPure, purel] <;> (try simp (disch := omega) [wrap_id]) <;> (try omega)
        · simp at hq
          (repeat refine awp_seq ?_); refine awp_exit ?_; (first | show AWP _ _ _ _ _ | show ∃ _, _ | skip)
          have hin : i = L.length := by omega
          rw [hin, List.take_length]
          (repeat refine awp_seq ?_); refine awp_reg1 (by rw [hx]; kernel_rfl) fun K hK => ?_; simp (maxSteps := 1000000) [ty72, ty77]
          refine freshL (list78 t t.ts.isEmpty false (inAll L (allS t)) (inAll_lt ha0 _) hok) (by simp [purel, C.isPure]) rfl ?_
          simp
          refine hK _ ?_; clear hK K; (first | show AWP _ _ _ _ _ | show ∃ _, _ | skip)
          (repeat refine awp_seq ?_); refine awp_ret ?_; refine And.intro (Or.inr rfl) ?_
          rw [hdt]
          simp [retC, resC, viewC, mapO, purel, C.isPure]
  · have hdt : neededT t c = [] := by unfold neededT; rw [if_neg hz]
    (repeat refine awp_seq ?_); refine awp_cond (by simp [hz]; rfl) (by rw [hx]; simp) (fun hd => ?_) (fun hd => ?_)
    · clear hd
      (repeat refine awp_seq ?_); refine awp_reg1 (by rw [hx]; kernel_rfl) fun K hK => ?_; simp (maxSteps := 1000000) []; refine hK _ ?_; clear hK K; (first | show AWP _ _ _ _ _ | show ∃ _, _ | skip)
      (repeat refine awp_seq ?_); refine awp_ret ?_; refine And.intro (Or.inr rfl) ?_
      simp [retC, resC, viewC, mapO, hz, hdt]
    · simp [hz] at hd

theorem real59 (g a s : Int) (ha : 0 ≤ a ∧ a ≤ 9000) (hg : -50 ≤ g ∧ g ≤ 50) : Pure Try.prog 61 [encI g, .ip [encI a] 0, .ip [encI s] 0] (.bool (seenA a g == s)) := by
  refine pure_of (fn := Try.f61) [.tmp 4] ⟨Try.func61, rfl, by kernel_rfl⟩ (by kernel_rfl) (by kernel_rfl) (by kernel_rfl) fun x hx hσ => ?_
  (repeat refine awp_seq ?_); refine awp_reg1 (by rw [hx]; kernel_rfl) fun K hK => ?_; simp (maxSteps := 1000000) []; refine hK _ ?_; clear hK K; (first | show AWP _ _ _ _ _ | show ∃ _, _ | skip)
  (repeat refine awp_seq ?_); refine awp_drw3 [] [0, 1, 2, 3, 4, 5] (by rw [hx]; kernel_rfl) (by kernel_rfl) (by kernel_rfl) (by kernel_rfl) fun K hK => ?_; simp (maxSteps := 1000000) [ty3]
  refine callPD (seen55 a g ha hg) (by first | (simp; done) | (simp [*]; done)) (by simp) ?_; simp (maxSteps := 1000000) [ty3]
  refine hK _ ?_; clear hK K; (first | show AWP _ _ _ _ _ | show ∃ _, _ | skip)
  (repeat refine awp_seq ?_); refine awp_ret ?_; refine And.intro (Or.inr rfl) ?_
  simp [retC, resC, viewC, mapO]

def realE (t : Ti) (s : Int) : Int := if checkT t ≠ 0 then checkT t else if countB s = false then 1 else openT t true
def realL (t : Ti) (s : Int) : List Int := if realE t s = 0 then fixTo (fun a => (numsT Tr.area t true).any fun g => seenA a g == s) 9001 else []

theorem numsT_mem {f : Tr → Int} {t : Ti} {is : Bool} {z : Int} (h : z ∈ numsT f t is) : openT t is = 0 ∧ ∃ k ∈ truthsS t (allS t), f k = z := by
  unfold numsT at h
  split at h
  · rename_i h0
    exact ⟨h0, (kindsL_mem _ _ _).1 h⟩
  · simp at h

theorem real15 (t : Ti) (s : Int) (hl : TiLen t) : Pure Try.prog 33 [encTi t, encI s] (.tup [.sl (realL t s).isEmpty (realE t s != 0) ((realL t s).map cI), encI (realE t s)]) := by
  refine pure_of (fn := Try.f33) [.tmp 4, .tmp 5] ⟨Try.func33, rfl, by kernel_rfl⟩ (by kernel_rfl) (by kernel_rfl) (by kernel_rfl) fun x hx hσ => ?_
  (repeat refine awp_seq ?_); refine awp_reg1 (by rw [hx]; kernel_rfl) fun K hK => ?_; simp (maxSteps := 1000000) [ty28, ty3]; refine hK _ ?_; clear hK K; (first | show AWP _ _ _ _ _ | show ∃ _, _ | skip)
  (repeat refine awp_seq ?_); refine awp_reg1 (by rw [hx]; kernel_rfl) fun K hK => ?_; simp (maxSteps := 1000000) [ty28]
  refine callP (check29 t hl) (by first | (simp; done) | (simp [*]; done)) ?_; simp (maxSteps := 1000000) []
  refine hK _ ?_; clear hK K; (first | show AWP _ _ _ _ _ | show ∃ _, _ | skip)
  (repeat refine awp_seq ?_); refine awp_reg1 (by rw [hx]; kernel_rfl) fun K hK => ?_; simp (maxSteps := 1000000) [ty34]; refine hK _ ?_; clear hK K; (first | show AWP _ _ _ _ _ | show ∃ _, _ | skip)
  by_cases hz : checkT t = 0
  · (repeat refine awp_seq ?_); refine awp_cond (by simp [hz]; rfl) (by rw [hx]; simp) (fun hd => ?_) (fun hd => ?_)
    · simp at hd
    · clear hd
      refine awp_skip ?_; (first | show AWP _ _ _ _ _ | show ∃ _, _ | skip)
      (repeat refine awp_seq ?_); refine awp_reg1 (by rw [hx]; kernel_rfl) fun K hK => ?_; simp (maxSteps := 1000000) [ty3]
      refine callP (isCount57 s) (by first | (simp; done) | (simp [*]; done)) ?_; simp (maxSteps := 1000000) []
      refine hK _ ?_; clear hK K; (first | show AWP _ _ _ _ _ | show ∃ _, _ | skip)
      cases hc : countB s
      · have hE : realE t s = 1 := by unfold realE; rw [if_neg (by simpa using hz), if_pos hc]
        have hL : realL t s = [] := by unfold realL; rw [if_neg (by rw [hE]; decide)]
        (repeat refine awp_seq ?_); refine awp_cond (by simp [hc]; rfl) (by rw [hx]; simp) (fun hd => ?_) (fun hd => ?_)
        · clear hd
          (repeat refine awp_seq ?_); refine awp_reg1 (by rw [hx]; kernel_rfl) fun K hK => ?_; simp (maxSteps := 1000000) []; refine hK _ ?_; clear hK K; (first | show AWP _ _ _ _ _ | show ∃ _, _ | skip)
          (repeat refine awp_seq ?_); refine awp_ret ?_; refine And.intro (Or.inr rfl) ?_
          simp [retC, resC, viewC, mapO, hE, hL]
        · simp at hd
      · have hE : realE t s = openT t true := by unfold realE; rw [if_neg (by simpa using hz), if_neg (by rw [hc]; decide)]
        (repeat refine awp_seq ?_); refine awp_cond (by simp [hc]; rfl) (by rw [hx]; simp) (fun hd => ?_) (fun hd => ?_)
        · simp at hd
        · clear hd
          refine awp_skip ?_; (first | show AWP _ _ _ _ _ | show ∃ _, _ | skip)
          (repeat refine awp_seq ?_); refine awp_reg1 (by rw [hx]; kernel_rfl) fun K hK => ?_; simp (maxSteps := 1000000) [ty28]
          refine callP (gains22 t hl) (by first | (simp; done) | (simp [*]; done)) ?_; simp (maxSteps := 1000000) []
          refine hK _ ?_; clear hK K; (first | show AWP _ _ _ _ _ | show ∃ _, _ | skip)
          (repeat refine awp_seq ?_); refine awp_reg1 (by rw [hx]; kernel_rfl) fun K hK => ?_; simp (maxSteps := 1000000) [ty34]; refine hK _ ?_; clear hK K; (first | show AWP _ _ _ _ _ | show ∃ _, _ | skip)
          by_cases ho : openT t true = 0
          · obtain ⟨hok, _, hT⟩ := openT_ok ho
            have hL : realL t s = fixTo (fun a => (numsT Tr.area t true).any fun g => seenA a g == s) 9001 := by unfold realL; rw [if_pos (by rw [hE, ho])]
            have hmem : ∀ z ∈ numsT Tr.area t true, -50 ≤ z ∧ z ≤ 50 := fun z hz' => by
              obtain ⟨_, k, hk, rfl⟩ := numsT_mem hz'
              exact (every_k hok (List.mem_filter.1 hk).1).1
            have hln := numsT_len Tr.area t true
            generalize numsT Tr.area t true = G at *
            obtain ⟨A, hA⟩ : ∃ A : Nat → List Int, ∀ i, A i = fixTo (fun a => G.any fun g => seenA a g == s) i := ⟨_, fun _ => rfl⟩
            have hA0 : A 0 = [] := hA 0
            have hAl : ∀ i, (A i).length ≤ i := fun i => by rw [hA]; exact fixTo_len _ _
            have hAs : ∀ i : Nat, A (i + 1) = if (G.any fun g => seenA i g == s) then A i ++ [(i : Int)] else A i := fun i => by rw [hA, hA]; rfl
            rw [← hA] at hL
            clear hA
            rw [hE, ho, hL]
            (repeat refine awp_seq ?_); refine awp_cond (by simp [ho]; rfl) (by rw [hx]; simp) (fun hd => ?_) (fun hd => ?_)
            · simp at hd
            · clear hd
              refine awp_skip ?_; (first | show AWP _ _ _ _ _ | show ∃ _, _ | skip)
              (repeat refine awp_seq ?_); refine awp_reg1 (by rw [hx]; kernel_rfl) fun K hK => ?_; simp (maxSteps := 1000000) [ty49]; refine hK _ ?_; clear hK K; (first | show AWP _ _ _ _ _ | show ∃ _, _ | skip)
              (repeat refine awp_seq ?_); refine awp_reg1 (by rw [hx]; kernel_rfl) fun K hK => ?_; simp (maxSteps := 1000000) [ty3]; refine hK _ ?_; clear hK K; (first | show AWP _ _ _ _ _ | show ∃ _, _ | skip)
              (repeat refine awp_seq ?_); refine awp_block ?_
              refine AWP.weak ?_ (wk_nil 9 9 1 (fu := true) (by simp) (by simp))
              refine awp_loop (fun i : Nat => ⟨ofL [(3, .ptr 3 1 0 0), (7, slI G), (9, .own 9 1 0 (A i).length), (27, encI i)], stoT [(3, 3, .live (o1 (encI s))), (9, 9, .live ⟨(A i).isEmpty, false, 1, (A i).map cI⟩)]⟩)
                (fun i => i ≤ 9001) (fun i => 9001 - i) 0 (by simp) ?_ ?_
              · rw [hA0]
                refine wk_shape (shp0 hσ (by simp) (by simp) ?_) ?_
                · simp [SlotOk] <;> (repeat' (first | (refine RowsOk.same ?_; simp [purel, C.isPure]; done) | (refine rowsCons ?_; simp [mtl, mtc, mT, mH, C.isPure, purel]; done) | (refine rowsCons ?_; simp [mtl, mtc, mT, mH, C.isPure, purel]) | refine And.intro ?_ ?_))
                · simp [mtc, mtl, mT, C.isPure, purel] <;> (try simp (disch := omega) [wrap_id]) <;> (try omega)
              · intro i hi
                have hl := hAl i
                have hst := hAs i
                have hwi : IntKind.i64.wrap ((i : Int) + 1) = ((i + 1 : Nat) : Int) := by rw [wrap_id (by omega) (by omega)]; rfl
                generalize hacc : A i = acc at *
                by_cases hq : (i : Int) < 9001
                · (repeat refine awp_seq ?_); refine awp_reg1 (by rw [hx]; kernel_rfl) fun K hK => ?_; simp (maxSteps := 1000000) [ty3, hq]; refine hK _ ?_; clear hK K; (first | show AWP _ _ _ _ _ | show ∃ _, _ | skip)
                  (repeat refine awp_seq ?_); refine awp_cond (by simp [hq]; rfl) (by rw [hx]; simp) (fun hd => ?_) (fun hd => ?_)
                  · clear hd
                    refine awp_skip ?_; (first | show AWP _ _ _ _ _ | show ∃ _, _ | skip)
                    (repeat refine awp_seq ?_); refine awp_block ?_
                    (repeat refine awp_seq ?_); refine awp_reg1 (by rw [hx]; kernel_rfl) fun K hK => ?_; simp (maxSteps := 1000000) [ty3]; refine hK _ ?_; clear hK K; (first | show AWP _ _ _ _ _ | show ∃ _, _ | skip)
                    (repeat refine awp_seq ?_); refine awp_reg1 (by rw [hx]; kernel_rfl) fun K hK => ?_; simp (maxSteps := 1000000) []
                    refine callL (contains58 G.isEmpty G.isEmpty G 61 [.ip [encI i] 0, .ip [encI s] 0] (fun g => seenA i g == s) (by simp [purel, C.isPure]) (by omega) (fun z hz' => real59 z i s ⟨by omega, by omega⟩ (hmem z hz'))) (by simp [viewL, mapO, viewC, C.isPure, purel]) (.inr rfl) ?_
                    simp
                    refine hK _ ?_; clear hK K; (first | show AWP _ _ _ _ _ | show ∃ _, _ | skip)
                    cases hb : G.any fun g => seenA i g == s
                    · rw [hb] at hst
                      simp at hst
                      (repeat refine awp_seq ?_); refine awp_cond (by simp [hb]; rfl) (by rw [hx]; simp) (fun hd => ?_) (fun hd => ?_)
                      · simp [hb] at hd
                      · refine awp_skip ?_; (first | show AWP _ _ _ _ _ | show ∃ _, _ | skip)
                        (repeat refine awp_seq ?_); refine awp_reg1 (by rw [hx]; kernel_rfl) fun K hK => ?_; simp (maxSteps := 1000000) [ty3]; refine hK _ ?_; clear hK K; (first | show AWP _ _ _ _ _ | show ∃ _, _ | skip)
                        refine ⟨i + 1, by omega, by omega, ?_⟩
                        rw [hst, hwi]
                        refine wk_shape (shp0 hσ (by simp) (by simp) ?_) ?_
                        · simp [SlotOk] <;> (repeat' (first | (refine RowsOk.same ?_; simp [purel, C.isPure]; done) | (refine rowsCons ?_; simp [mtl, mtc, mT, mH, C.isPure, purel]; done) | (refine rowsCons ?_; simp [mtl, mtc, mT, mH, C.isPure, purel]) | refine And.intro ?_ ?_))
                        · simp [mtc, mtl, mT, C.isPure, purel] <;> (try simp (disch := omega) [wrap_id]) <;> (try omega)
                    · rw [hb] at hst
                      simp at hst
                      (repeat refine awp_seq ?_); refine awp_cond (by simp [hb]; rfl) (by rw [hx]; simp) (fun hd => ?_) (fun hd => ?_)
                      · clear hd
                        (repeat refine awp_seq ?_); refine awp_reg1 (by rw [hx]; kernel_rfl) fun K hK => ?_; simp (maxSteps := 1000000) [ty49, ty3]
                        refine ⟨by omega, ?_⟩
                        refine hK _ ?_; clear hK K; (first | show AWP _ _ _ _ _ | show ∃ _, _ | skip)
                        (repeat refine awp_seq ?_); refine awp_reg1 (by rw [hx]; kernel_rfl) fun K hK => ?_; simp (maxSteps := 1000000) [ty3]; refine hK _ ?_; clear hK K; (first | show AWP _ _ _ _ _ | show ∃ _, _ | skip)
                        refine ⟨i + 1, by omega, by omega, ?_⟩
                        rw [hst, hwi]
                        refine wk_shape2 [(3, 3, .live (o1 (encI s))), (9, 36, .live ⟨(acc ++ [(i : Int)]).isEmpty, false, 1, (acc ++ [(i : Int)]).map cI⟩)] (by first | rfl | (simp only [if_pos, if_true]; rfl)) (shp0 hσ (by simp) (by simp) ?_) ?_
                        · simp [SlotOk] <;> (repeat' (first | (refine RowsOk.same ?_; simp [purel, C.isPure]; done) | (refine rowsCons ?_; simp [mtl, mtc, mT, mH, C.isPure, purel]; done) | (refine rowsCons ?_; simp [mtl, mtc, mT, mH, C.isPure, purel]) | refine And.intro ?_ ?_))
                        · simp [mtc, mtl, mT, C.isPure, purel] <;> (try simp (disch := omega) [wrap_id]) <;> (try omega)
                      · simp [hb] at hd
                  · simp [hq] at hd
                · (repeat refine awp_seq ?_); refine awp_reg1 (by rw [hx]; kernel_rfl) fun K hK => ?_; simp (maxSteps := 1000000) [ty3, hq]; refine hK _ ?_; clear hK K; (first | show AWP _ _ _ _ _ | show ∃ _, _ | skip)
                  (repeat refine awp_seq ?_); refine awp_cond (by simp [hq]; rfl) (by rw [hx]; simp) (fun hd => ?_) (fun hd => ?_)
                  · simp [hq] at hd
                  · clear hd
                    (repeat refine awp_seq ?_); refine awp_exit ?_; (first | show AWP _ _ _ _ _ | show ∃ _, _ | skip)
                    have hin : i = 9001 := by omega
                    rw [← hin, hacc]
                    (repeat refine awp_seq ?_); refine awp_reg1 (by rw [hx]; kernel_rfl) fun K hK => ?_; simp (maxSteps := 1000000) []; refine hK _ ?_; clear hK K; (first | show AWP _ _ _ _ _ | show ∃ _, _ | skip)
                    (repeat refine awp_seq ?_); refine awp_ret ?_; refine And.intro (Or.inr rfl) ?_
                    simp [retC, resC, viewC, mapO, purel, C.isPure]
          · have hL : realL t s = [] := by unfold realL; rw [if_neg (by rw [hE]; exact ho)]
            (repeat refine awp_seq ?_); refine awp_cond (by simp [ho]; rfl) (by rw [hx]; simp) (fun hd => ?_) (fun hd => ?_)
            · clear hd
              (repeat refine awp_seq ?_); refine awp_reg1 (by rw [hx]; kernel_rfl) fun K hK => ?_; simp (maxSteps := 1000000) []; refine hK _ ?_; clear hK K; (first | show AWP _ _ _ _ _ | show ∃ _, _ | skip)
              (repeat refine awp_seq ?_); refine awp_ret ?_; refine And.intro (Or.inr rfl) ?_
              simp [retC, resC, viewC, mapO, hE, hL, ho]
            · simp [ho] at hd
  · have hE : realE t s = checkT t := by unfold realE; rw [if_pos hz]
    have hL : realL t s = [] := by unfold realL; rw [if_neg (by rw [hE]; exact hz)]
    (repeat refine awp_seq ?_); refine awp_cond (by simp [hz]; rfl) (by rw [hx]; simp) (fun hd => ?_) (fun hd => ?_)
    · clear hd
      (repeat refine awp_seq ?_); refine awp_reg1 (by rw [hx]; kernel_rfl) fun K hK => ?_; simp (maxSteps := 1000000) []; refine hK _ ?_; clear hK K; (first | show AWP _ _ _ _ _ | show ∃ _, _ | skip)
      (repeat refine awp_seq ?_); refine awp_ret ?_; refine And.intro (Or.inr rfl) ?_
      simp [retC, resC, viewC, mapO, hE, hL, hz]
    · simp [hz] at hd

end Go.Proofs.Ytbhbmnofmoibhaa

namespace Go.Proofs.Ytbhbmnofmoibhaa
open Go Go.Abs

set_option maxHeartbeats 4000000

-- the reference of the trials: what is valid, what a truth is

theorem q_within60 (n lo hi : Int) : Pure Try.prog 30 [encI n, encI lo, encI hi] (.bool (withinB n lo hi)) := by
  refine pure_of (fn := Try.f30) [.tmp 6] ⟨Try.func30, rfl, by kernel_rfl⟩ (by kernel_rfl) (by kernel_rfl) (by kernel_rfl) fun x hx hσ => ?_
  (repeat refine awp_seq ?_); refine awp_reg1 (by rw [hx]; kernel_rfl) fun K hK => ?_; simp (maxSteps := 1000000) []; refine hK _ ?_; clear hK K; (first | show AWP _ _ _ _ _ | show ∃ _, _ | skip)
  (repeat refine awp_seq ?_); refine awp_reg1 (by rw [hx]; kernel_rfl) fun K hK => ?_; simp (maxSteps := 1000000) []
  refine callP (within79 n lo hi) (by first | (simp; done) | (simp [*]; done)) ?_; simp (maxSteps := 1000000) []
  refine hK _ ?_; clear hK K; (first | show AWP _ _ _ _ _ | show ∃ _, _ | skip)
  (repeat refine awp_seq ?_); refine awp_ret ?_; refine And.intro (Or.inr rfl) ?_
  simp [retC, resC, viewC, mapO]

theorem q_size67 (n : Int) (hn : -1000000 ≤ n ∧ n ≤ 1000000) : Pure Try.prog 22 [encI n] (encI (absI n)) := by
  have h1 : IntKind.i64.wrap (-n) = -n := wrap_id (by omega) (by omega)
  have e : (if n < -n then -n else n) = absI n := by unfold absI; split <;> split <;> omega
  refine pure_of (fn := Try.f22) [.tmp 2] ⟨Try.func22, rfl, by kernel_rfl⟩ (by kernel_rfl) (by kernel_rfl) (by kernel_rfl) fun x hx hσ => ?_
  (repeat refine awp_seq ?_); refine awp_reg1 (by rw [hx]; kernel_rfl) fun K hK => ?_; simp (maxSteps := 1000000) []; refine hK _ ?_; clear hK K; (first | show AWP _ _ _ _ _ | show ∃ _, _ | skip)
  (repeat refine awp_seq ?_); refine awp_reg1 (by rw [hx]; kernel_rfl) fun K hK => ?_; simp (maxSteps := 1000000) [ty3, h1, e]; refine hK _ ?_; clear hK K; (first | show AWP _ _ _ _ _ | show ∃ _, _ | skip)
  (repeat refine awp_seq ?_); refine awp_ret ?_; refine And.intro (Or.inr rfl) ?_
  simp [retC, resC, viewC, mapO]

theorem q_isArea56 (n : Int) : Pure Try.prog 29 [encI n] (.bool (areaB n)) := by
  refine pure_of (fn := Try.f29) [.tmp 2] ⟨Try.func29, rfl, by kernel_rfl⟩ (by kernel_rfl) (by kernel_rfl) (by kernel_rfl) fun x hx hσ => ?_
  (repeat refine awp_seq ?_); refine awp_reg1 (by rw [hx]; kernel_rfl) fun K hK => ?_; simp (maxSteps := 1000000) []; refine hK _ ?_; clear hK K; (first | show AWP _ _ _ _ _ | show ∃ _, _ | skip)
  (repeat refine awp_seq ?_); refine awp_reg1 (by rw [hx]; kernel_rfl) fun K hK => ?_; simp (maxSteps := 1000000) []
  refine callP (q_within60 n 0 9000) (by first | (simp; done) | (simp [*]; done)) ?_; simp (maxSteps := 1000000) []
  refine hK _ ?_; clear hK K; (first | show AWP _ _ _ _ _ | show ∃ _, _ | skip)
  (repeat refine awp_seq ?_); refine awp_ret ?_; refine And.intro (Or.inr rfl) ?_
  simp [retC, resC, viewC, mapO, areaB, withinB]

theorem q_isClass20 (c : Cl) : Pure Try.prog 8 [encCl c] (.bool (classB c)) := by
  refine pure_of (fn := Try.f8) [.tmp 2] ⟨Try.func8, rfl, by kernel_rfl⟩ (by kernel_rfl) (by kernel_rfl) (by kernel_rfl) fun x hx hσ => ?_
  (repeat refine awp_seq ?_); refine awp_reg1 (by rw [hx]; kernel_rfl) fun K hK => ?_; simp (maxSteps := 1000000) [ty30]; refine hK _ ?_; clear hK K; (first | show AWP _ _ _ _ _ | show ∃ _, _ | skip)
  cases h : areaB c.size
  · (repeat refine awp_seq ?_); refine awp_reg1 (by rw [hx]; kernel_rfl) fun K hK => ?_; simp (maxSteps := 1000000) [ty30, ty3]
    refine callP (q_isArea56 c.size) (by first | (simp; done) | (simp [*]; done)) ?_; simp (maxSteps := 1000000) [h, ty30, ty3]
    refine hK _ ?_; clear hK K; (first | show AWP _ _ _ _ _ | show ∃ _, _ | skip)
    (repeat refine awp_seq ?_); refine awp_ret ?_; refine And.intro (Or.inr rfl) ?_
    simp [retC, resC, viewC, mapO, classB, h]
  · (repeat refine awp_seq ?_); refine awp_reg1 (by rw [hx]; kernel_rfl) fun K hK => ?_; simp (maxSteps := 1000000) [ty30, ty3]
    refine callP (q_isArea56 c.size) (by first | (simp; done) | (simp [*]; done)) ?_; simp (maxSteps := 1000000) [h, ty30, ty3]
    refine callP (q_within60 c.most 0 9999) (by first | (simp; done) | (simp [*]; done)) ?_; simp (maxSteps := 1000000) [ty30, ty3]
    refine hK _ ?_; clear hK K; (first | show AWP _ _ _ _ _ | show ∃ _, _ | skip)
    (repeat refine awp_seq ?_); refine awp_ret ?_; refine And.intro (Or.inr rfl) ?_
    simp [retC, resC, viewC, mapO, classB, h, countB, withinB]

end Go.Proofs.Ytbhbmnofmoibhaa

namespace Go.Proofs.Ytbhbmnofmoibhaa
open Go Go.Abs

set_option maxHeartbeats 4000000

def isTrB (t : Ti) (k : Tr) : Bool := withinB k.area (-t.gain) t.gain && withinB k.skew (-t.w.skew) t.w.skew && t.ts.all (fun y => allowB t.w y k)

theorem q_check30 (t : Ti) (hn : TiLen t) : Pure Try.prog 28 [encTi t] (encI (checkT t)) := by
  have hlt := hn.ts
  refine pure_of (fn := Try.f28) [.tmp 2] ⟨Try.func28, rfl, by kernel_rfl⟩ (by kernel_rfl) (by kernel_rfl) (by kernel_rfl) fun x hx hσ => ?_
  (repeat refine awp_seq ?_); refine awp_reg1 (by rw [hx]; kernel_rfl) fun K hK => ?_; simp (maxSteps := 1000000) [ty28]; refine hK _ ?_; clear hK K; (first | show AWP _ _ _ _ _ | show ∃ _, _ | skip)
  have c1 := q_within60 t.gain 0 50
  cases h1 : withinB t.gain 0 50
  · rw [h1] at c1
    have hT : checkT t = 90 := by unfold checkT; rw [if_pos (.inl (by simpa [withinB] using h1))]
    (repeat refine awp_seq ?_); refine awp_reg1 (by rw [hx]; kernel_rfl) fun K hK => ?_; simp (maxSteps := 1000000) [ty28, ty3]
    refine callP (c1) (by first | (simp; done) | (simp [*]; done)) ?_; simp (maxSteps := 1000000) []
    refine hK _ ?_; clear hK K; (first | show AWP _ _ _ _ _ | show ∃ _, _ | skip)
    (repeat refine awp_seq ?_); refine awp_cond (by simp; rfl) (by rw [hx]; simp) (fun hd => ?_) (fun hd => ?_)
    · clear hd
      (repeat refine awp_seq ?_); refine awp_reg1 (by rw [hx]; kernel_rfl) fun K hK => ?_; simp (maxSteps := 1000000) []; refine hK _ ?_; clear hK K; (first | show AWP _ _ _ _ _ | show ∃ _, _ | skip)
      (repeat refine awp_seq ?_); refine awp_ret ?_; refine And.intro (Or.inr rfl) ?_
      simp [retC, resC, viewC, mapO, hT]
    · simp at hd
  · rw [h1] at c1
    by_cases h6 : (6 : Int) < (t.ts.length : Int)
    · have hT : checkT t = 90 := by unfold checkT; rw [if_pos (.inr (.inl (by omega)))]
      (repeat refine awp_seq ?_); refine awp_reg1 (by rw [hx]; kernel_rfl) fun K hK => ?_; simp (maxSteps := 1000000) [ty28, ty3]
      refine callP (c1) (by first | (simp; done) | (simp [*]; done)) ?_; simp (maxSteps := 1000000) [ty28, ty26, ty3, h6]
      refine hK _ ?_; clear hK K; (first | show AWP _ _ _ _ _ | show ∃ _, _ | skip)
      (repeat refine awp_seq ?_); refine awp_cond (by simp [h6]; rfl) (by rw [hx]; simp) (fun hd => ?_) (fun hd => ?_)
      · clear hd
        (repeat refine awp_seq ?_); refine awp_reg1 (by rw [hx]; kernel_rfl) fun K hK => ?_; simp (maxSteps := 1000000) []; refine hK _ ?_; clear hK K; (first | show AWP _ _ _ _ _ | show ∃ _, _ | skip)
        (repeat refine awp_seq ?_); refine awp_ret ?_; refine And.intro (Or.inr rfl) ?_
        simp [retC, resC, viewC, mapO, hT]
      · simp [h6] at hd
    · (repeat refine awp_seq ?_); refine awp_reg1 (by rw [hx]; kernel_rfl) fun K hK => ?_; simp (maxSteps := 1000000) [ty28, ty3]
      refine callP (c1) (by first | (simp; done) | (simp [*]; done)) ?_; simp (maxSteps := 1000000) [ty28, ty26, ty3, h6]
      refine hK _ ?_; clear hK K; (first | show AWP _ _ _ _ _ | show ∃ _, _ | skip)
      (repeat refine awp_seq ?_); refine awp_cond (by simp [h6]; rfl) (by rw [hx]; simp) (fun hd => ?_) (fun hd => ?_)
      · simp [h6] at hd
      · clear hd
        refine awp_skip ?_; (first | show AWP _ _ _ _ _ | show ∃ _, _ | skip)
        (repeat refine awp_seq ?_); refine awp_reg1 (by rw [hx]; kernel_rfl) fun K hK => ?_; simp (maxSteps := 1000000) []; refine hK _ ?_; clear hK K; (first | show AWP _ _ _ _ _ | show ∃ _, _ | skip)
        (repeat refine awp_seq ?_); refine awp_block ?_
        refine awp_loop (fun i : Nat => ⟨ofL [(1, .ptr 1 10 0 0), (3, encI i)], stoT [(1, 1, .live (obTi t))]⟩)
          (fun i => i ≤ t.ts.length ∧ ∀ j, (h : j < t.ts.length) → j < i → areaB t.ts[j].area = true) (fun i => t.ts.length - i) 0 (by simp) ?_ ?_
        · refine wk_shape (shp0 hσ (by simp) (by simp) ?_) ?_
          · simp [SlotOk] <;> (repeat' (first | exact .same (by simp [purel, C.isPure]) | exact .cons (by simp [mtl, mtc, mT, mH, C.isPure, purel]) (by simp) .nil | refine And.intro ?_ ?_))
          · simp [mtc, mtl, mT, C.isPure, purel] <;> (try simp (disch := omega) [wrap_id]) <;> (try omega)
        · intro i ⟨hi, hj⟩
          (repeat refine awp_seq ?_); refine awp_reg1 (by rw [hx]; kernel_rfl) fun K hK => ?_; simp (maxSteps := 1000000) [ty28, ty26, ty3]; refine hK _ ?_; clear hK K; (first | show AWP _ _ _ _ _ | show ∃ _, _ | skip)
          (repeat refine awp_seq ?_); refine awp_cond (by simp; rfl) (by rw [hx]; simp) (fun hc => ?_) (fun hc => ?_)
          · simp at hc
            refine awp_skip ?_; (first | show AWP _ _ _ _ _ | show ∃ _, _ | skip)
            (repeat refine awp_seq ?_); refine awp_block ?_
            have c2 := q_within60 t.ts[i].area 0 9000
            cases hb : areaB t.ts[i].area
            · have hb' : withinB t.ts[i].area 0 9000 = false := by simpa [areaB, withinB] using hb
              rw [hb'] at c2
              (repeat refine awp_seq ?_); refine awp_reg1 (by rw [hx]; kernel_rfl) fun K hK => ?_; simp (maxSteps := 1000000) [ty28, ty26, ty46, ty3, hc]
              refine callP (c2) (by first | (simp; done) | (simp [*]; done)) ?_; simp (maxSteps := 1000000) []
              refine hK _ ?_; clear hK K; (first | show AWP _ _ _ _ _ | show ∃ _, _ | skip)
              have hT : checkT t = 90 := by
                have hal : t.ts.all (fun x => areaB x.area) = false := by
                  rw [List.all_eq_false]
                  exact ⟨_, List.getElem_mem hc, by rw [hb]; decide⟩
                unfold checkT; rw [if_pos (.inr (.inr hal))]
              (repeat refine awp_seq ?_); refine awp_cond (by simp; rfl) (by rw [hx]; simp) (fun hd => ?_) (fun hd => ?_)
              · clear hd
                (repeat refine awp_seq ?_); refine awp_reg1 (by rw [hx]; kernel_rfl) fun K hK => ?_; simp (maxSteps := 1000000) []; refine hK _ ?_; clear hK K; (first | show AWP _ _ _ _ _ | show ∃ _, _ | skip)
                (repeat refine awp_seq ?_); refine awp_ret ?_; refine And.intro (Or.inr rfl) ?_
                simp [retC, resC, viewC, mapO, hT]
              · simp at hd
            · have hb' : withinB t.ts[i].area 0 9000 = true := by simpa [areaB, withinB] using hb
              rw [hb'] at c2
              (repeat refine awp_seq ?_); refine awp_reg1 (by rw [hx]; kernel_rfl) fun K hK => ?_; simp (maxSteps := 1000000) [ty28, ty26, ty46, ty3, hc]
              refine callP (c2) (by first | (simp; done) | (simp [*]; done)) ?_; simp (maxSteps := 1000000) []
              refine hK _ ?_; clear hK K; (first | show AWP _ _ _ _ _ | show ∃ _, _ | skip)
              (repeat refine awp_seq ?_); refine awp_cond (by simp; rfl) (by rw [hx]; simp) (fun hd => ?_) (fun hd => ?_)
              · simp at hd
              · clear hd
                refine awp_skip ?_; (first | show AWP _ _ _ _ _ | show ∃ _, _ | skip)
                (repeat refine awp_seq ?_); refine awp_reg1 (by rw [hx]; kernel_rfl) fun K hK => ?_; simp (maxSteps := 1000000) [ty3]; refine hK _ ?_; clear hK K; (first | show AWP _ _ _ _ _ | show ∃ _, _ | skip)
                rw [wrap_id (by omega) (by omega)]
                refine ⟨i + 1, ⟨by omega, fun j h4 h5 => ?_⟩, by omega, ?_⟩
                · by_cases e : j = i
                  · subst e; exact hb
                  · exact hj j h4 (by omega)
                · refine wk_shape (shp0 hσ (by simp) (by simp) ?_) ?_
                  · simp [SlotOk] <;> (repeat' (first | exact .same (by simp [purel, C.isPure]) | exact .cons (by simp [mtl, mtc, mT, mH, C.isPure, purel]) (by simp) .nil | refine And.intro ?_ ?_))
                  · simp [mtc, mtl, mT, C.isPure, purel] <;> (try simp (disch := omega) [wrap_id]) <;> (try omega)
          · simp at hc
            (repeat refine awp_seq ?_); refine awp_exit ?_; (first | show AWP _ _ _ _ _ | show ∃ _, _ | skip)
            have hal : t.ts.all (fun x => areaB x.area) = true := by
              rw [List.all_eq_true]
              intro y hy
              obtain ⟨j, h4, rfl⟩ := List.getElem_of_mem hy
              exact hj j h4 (by omega)
            have hT : checkT t = (if t.ts = [] then checkI t.w [] else checksI t.w t.ts) := by
              unfold checkT; rw [if_neg]
              rintro (h | h | h)
              · have : withinB t.gain 0 50 = false := by simpa [withinB] using h
                rw [h1] at this; cases this
              · omega
              · rw [hal] at h; cases h
            (repeat refine awp_seq ?_); refine awp_reg1 (by rw [hx]; kernel_rfl) fun K hK => ?_; simp (maxSteps := 1000000) []; refine hK _ ?_; clear hK K; (first | show AWP _ _ _ _ _ | show ∃ _, _ | skip)
            (repeat refine awp_seq ?_); refine awp_block ?_
            refine awp_loop (fun i : Nat => ⟨ofL [(1, .ptr 1 10 0 0), (4, encI i)], stoT [(1, 1, .live (obTi t))]⟩)
              (fun i => i ≤ t.ts.length ∧ ∀ j, (h : j < t.ts.length) → j < i → checkI t.w t.ts[j].l = 0) (fun i => t.ts.length - i) 0 (by simp) ?_ ?_
            · refine wk_shape (shp0 hσ (by simp) (by simp) ?_) ?_
              · simp [SlotOk] <;> (repeat' (first | exact .same (by simp [purel, C.isPure]) | exact .cons (by simp [mtl, mtc, mT, mH, C.isPure, purel]) (by simp) .nil | refine And.intro ?_ ?_))
              · simp [mtc, mtl, mT, C.isPure, purel] <;> (try simp (disch := omega) [wrap_id]) <;> (try omega)
            · intro i ⟨hi, hj⟩
              (repeat refine awp_seq ?_); refine awp_reg1 (by rw [hx]; kernel_rfl) fun K hK => ?_; simp (maxSteps := 1000000) [ty28, ty26, ty3]; refine hK _ ?_; clear hK K; (first | show AWP _ _ _ _ _ | show ∃ _, _ | skip)
              (repeat refine awp_seq ?_); refine awp_cond (by simp; rfl) (by rw [hx]; simp) (fun hc => ?_) (fun hc => ?_)
              · simp at hc
                refine awp_skip ?_; (first | show AWP _ _ _ _ _ | show ∃ _, _ | skip)
                (repeat refine awp_seq ?_); refine awp_block ?_
                have h0 : t.ts ≠ [] := by intro e; rw [e] at hc; simp at hc
                (repeat refine awp_seq ?_); refine awp_drw3 [] [0, 1, 2, 3, 4, 5, 6, 7, 8, 9] (by rw [hx]; kernel_rfl) (by kernel_rfl) (by kernel_rfl) (by kernel_rfl) fun K hK => ?_; simp (maxSteps := 1000000) [ty28, ty25, ty26, ty46, ty44, hc]
                refine callPD (ref31 t.w t.ts[i].nl t.ts[i].fu t.ts[i].l (hn.l _ (List.getElem_mem hc))) (by first | (simp; done) | (simp [*]; done)) (by simp) ?_; simp (maxSteps := 1000000) []
                refine hK _ ?_; clear hK K; (first | show AWP _ _ _ _ _ | show ∃ _, _ | skip)
                (repeat refine awp_seq ?_); refine awp_reg1 (by rw [hx]; kernel_rfl) fun K hK => ?_; simp (maxSteps := 1000000) [ty34]; refine hK _ ?_; clear hK K; (first | show AWP _ _ _ _ _ | show ∃ _, _ | skip)
                by_cases hz : checkI t.w t.ts[i].l = 0
                · (repeat refine awp_seq ?_); refine awp_cond (by simp [hz]; rfl) (by rw [hx]; simp) (fun hd => ?_) (fun hd => ?_)
                  · simp at hd
                  · clear hd
                    refine awp_skip ?_; (first | show AWP _ _ _ _ _ | show ∃ _, _ | skip)
                    (repeat refine awp_seq ?_); refine awp_reg1 (by rw [hx]; kernel_rfl) fun K hK => ?_; simp (maxSteps := 1000000) [ty3]; refine hK _ ?_; clear hK K; (first | show AWP _ _ _ _ _ | show ∃ _, _ | skip)
                    rw [wrap_id (by omega) (by omega)]
                    refine ⟨i + 1, ⟨by omega, fun j h4 h5 => ?_⟩, by omega, ?_⟩
                    · by_cases e : j = i
                      · subst e; exact hz
                      · exact hj j h4 (by omega)
                    · refine wk_shape (shp0 hσ (by simp) (by simp) ?_) ?_
                      · simp [SlotOk] <;> (repeat' (first | exact .same (by simp [purel, C.isPure]) | exact .cons (by simp [mtl, mtc, mT, mH, C.isPure, purel]) (by simp) .nil | refine And.intro ?_ ?_))
                      · simp [mtc, mtl, mT, C.isPure, purel] <;> (try simp (disch := omega) [wrap_id]) <;> (try omega)
                · (repeat refine awp_seq ?_); refine awp_cond (by simp [hz]; rfl) (by rw [hx]; simp) (fun hd => ?_) (fun hd => ?_)
                  · clear hd
                    (repeat refine awp_seq ?_); refine awp_reg1 (by rw [hx]; kernel_rfl) fun K hK => ?_; simp (maxSteps := 1000000) []; refine hK _ ?_; clear hK K; (first | show AWP _ _ _ _ _ | show ∃ _, _ | skip)
                    (repeat refine awp_seq ?_); refine awp_ret ?_; refine And.intro (Or.inr rfl) ?_
                    simp [retC, resC, viewC, mapO, hT, h0, checksI_at hc hj hz]
                  · simp [hz] at hd
              · simp at hc
                (repeat refine awp_seq ?_); refine awp_exit ?_; (first | show AWP _ _ _ _ _ | show ∃ _, _ | skip)
                (repeat refine awp_seq ?_); refine awp_reg1 (by rw [hx]; kernel_rfl) fun K hK => ?_; simp (maxSteps := 1000000) [ty28, ty25]
                refine callP (ref31 t.w true true [] (by simp)) (by first | (simp; done) | (simp [*]; done)) ?_; simp (maxSteps := 1000000) []
                refine hK _ ?_; clear hK K; (first | show AWP _ _ _ _ _ | show ∃ _, _ | skip)
                (repeat refine awp_seq ?_); refine awp_ret ?_; refine And.intro (Or.inr rfl) ?_
                have hjj : ∀ j, (h : j < t.ts.length) → checkI t.w t.ts[j].l = 0 := fun j h => hj j h (by omega)
                by_cases h0 : t.ts = []
                · simp [retC, resC, viewC, mapO, hT, h0]
                · have hw0 : checkI t.w [] = 0 := by
                    obtain ⟨y, hy⟩ := List.exists_mem_of_ne_nil _ h0
                    obtain ⟨j, h4, rfl⟩ := List.getElem_of_mem hy
                    have := wheelB_iff.2 (checkI_ok (hjj j h4)).1
                    simp [checkI, this]
                  simp [retC, resC, viewC, mapO, hT, h0, checksI_all hjj, hw0]

theorem testBit_all {n i : Nat} (h : i < n) : (2 ^ n - 1).testBit i = true := by
  rw [Nat.testBit_two_pow_sub_one]; simpa using h

theorem isTrB_okS {t : Ti} {k : Tr} (hk : k ∈ allT (gwT t)) : isTrB t k = okS t (allS t) k := by
  have h1 := allT_mem.1 hk
  have e1 : (gwT t).glow = -t.gain := rfl
  have e2 : (gwT t).ghigh = t.gain := rfl
  have e3 : (gwT t).skew = t.w.skew := rfl
  rw [e1, e2, e3] at h1
  have h2 : isTrB t k = t.ts.all (fun y => allowB t.w y k) := by
    unfold isTrB withinB
    simp [h1]
  rw [h2]
  cases hb : t.ts.all (fun y => allowB t.w y k)
  · rw [List.all_eq_false] at hb
    obtain ⟨y, hy, hb⟩ := hb
    obtain ⟨j, h4, rfl⟩ := List.getElem_of_mem hy
    exact (okS_false h4 (testBit_all h4) (by simpa using hb)).symm
  · rw [List.all_eq_true] at hb
    exact (okS_true fun i hi _ => hb _ (List.getElem_mem hi)).symm

theorem truths_filter (t : Ti) : (allT (gwT t)).filter (isTrB t) = truthsS t (allS t) :=
  List.filter_congr fun k hk => isTrB_okS hk

end Go.Proofs.Ytbhbmnofmoibhaa

namespace Go.Proofs.Ytbhbmnofmoibhaa
open Go Go.Abs

set_option maxHeartbeats 4000000

theorem kinds_ends {f : Tr → Int} {L : List Tr} {lo hi : Int} (h1 : ∃ k ∈ L, f k = lo) (h2 : ∀ k ∈ L, lo ≤ f k) (h3 : ∃ k ∈ L, f k = hi) (h4 : ∀ k ∈ L, f k ≤ hi) :
    (kindsL f L).headD 0 = lo ∧ (kindsL f L).getLastD 0 = hi := by
  have hs := kindsL_sorted f L
  have hm := kindsL_mem f L
  have hp : 0 < (kindsL f L).length := by
    obtain ⟨k, hk, e⟩ := h1
    exact List.length_pos_of_mem ((hm lo).2 ⟨k, hk, e⟩)
  obtain ⟨e1, e2⟩ := ends_eq _ hp
  rw [e1, e2]
  have le0 : ∀ b ∈ kindsL f L, (kindsL f L)[0] ≤ b := by
    intro b hb
    obtain ⟨i, hi, rfl⟩ := List.getElem_of_mem hb
    by_cases e : i = 0
    · subst e; exact Int.le_refl _
    · exact List.pairwise_iff_getElem.1 hs 0 i hp hi (by omega)
  have leN : ∀ b ∈ kindsL f L, b ≤ (kindsL f L)[(kindsL f L).length - 1] := by
    intro b hb
    obtain ⟨i, hi, rfl⟩ := List.getElem_of_mem hb
    by_cases e : i = (kindsL f L).length - 1
    · subst e; exact Int.le_refl _
    · exact List.pairwise_iff_getElem.1 hs i _ hi (by omega) (by omega)
  constructor
  · obtain ⟨k, hk, e⟩ := (hm _).1 (List.getElem_mem hp)
    have g1 := h2 k hk
    have g2 := le0 lo ((hm lo).2 h1)
    omega
  · obtain ⟨k, hk, e⟩ := (hm _).1 (List.getElem_mem (show (kindsL f L).length - 1 < (kindsL f L).length by omega))
    have g1 := h4 k hk
    have g2 := leN hi ((hm hi).2 h3)
    omega

end Go.Proofs.Ytbhbmnofmoibhaa

namespace Go.Proofs.Ytbhbmnofmoibhaa
open Go Go.Abs

set_option maxHeartbeats 4000000

def mnT (f : Tr → Int) (a : Int) (L : List Tr) : Int := L.foldl (fun x k => if f k < x then f k else x) a
def mxT (f : Tr → Int) (a : Int) (L : List Tr) : Int := L.foldl (fun x k => if x < f k then f k else x) a

theorem mnT_spec (f : Tr → Int) : ∀ (L : List Tr) (a : Int), mnT f a L ≤ a ∧ (∀ k ∈ L, mnT f a L ≤ f k) ∧ (mnT f a L = a ∨ ∃ k ∈ L, f k = mnT f a L)
  | [], a => by simp [mnT]
  | k :: L, a => by
    have ih := mnT_spec f L (if f k < a then f k else a)
    have e : mnT f a (k :: L) = mnT f (if f k < a then f k else a) L := rfl
    rw [e]
    obtain ⟨h1, h2, h3⟩ := ih
    refine ⟨by split at h1 <;> rename_i h <;> (first | rw [if_pos h]; omega | rw [if_neg h]; omega), fun q hq => ?_, ?_⟩
    · rcases List.mem_cons.1 hq with rfl | hq
      · split at h1 <;> rename_i h <;> (first | rw [if_pos h]; omega | rw [if_neg h]; omega)
      · exact h2 q hq
    · rcases h3 with h3 | ⟨q, hq, h3⟩
      · by_cases h : f k < a
        · rw [if_pos h] at h3 ⊢
          exact .inr ⟨k, by simp, h3.symm⟩
        · rw [if_neg h] at h3 ⊢
          exact .inl h3
      · exact .inr ⟨q, by simp [hq], h3⟩

theorem mxT_spec (f : Tr → Int) : ∀ (L : List Tr) (a : Int), a ≤ mxT f a L ∧ (∀ k ∈ L, f k ≤ mxT f a L) ∧ (mxT f a L = a ∨ ∃ k ∈ L, f k = mxT f a L)
  | [], a => by simp [mxT]
  | k :: L, a => by
    have ih := mxT_spec f L (if a < f k then f k else a)
    have e : mxT f a (k :: L) = mxT f (if a < f k then f k else a) L := rfl
    rw [e]
    obtain ⟨h1, h2, h3⟩ := ih
    refine ⟨by split at h1 <;> rename_i h <;> (first | rw [if_pos h]; omega | rw [if_neg h]; omega), fun q hq => ?_, ?_⟩
    · rcases List.mem_cons.1 hq with rfl | hq
      · split at h1 <;> rename_i h <;> (first | rw [if_pos h]; omega | rw [if_neg h]; omega)
      · exact h2 q hq
    · rcases h3 with h3 | ⟨q, hq, h3⟩
      · by_cases h : a < f k
        · rw [if_pos h] at h3 ⊢
          exact .inr ⟨k, by simp, h3.symm⟩
        · rw [if_neg h] at h3 ⊢
          exact .inl h3
      · exact .inr ⟨q, by simp [hq], h3⟩

theorem ends_mnmx {f : Tr → Int} {t : Ti} {is : Bool} (h : openT t is = 0) (h0 : 0 < (truthsS t (allS t)).length) :
    endsT f t is = (mnT f (f (truthsS t (allS t))[0]) (truthsS t (allS t)), mxT f (f (truthsS t (allS t))[0]) (truthsS t (allS t))) := by
  unfold endsT
  rw [(numsT_ok h).1]
  generalize truthsS t (allS t) = L at *
  obtain ⟨a1, a2, a3⟩ := mnT_spec f L (f L[0])
  obtain ⟨b1, b2, b3⟩ := mxT_spec f L (f L[0])
  have := kinds_ends (f := f) (L := L) (lo := mnT f (f L[0]) L) (hi := mxT f (f L[0]) L)
    (by rcases a3 with a3 | a3
        · exact ⟨_, List.getElem_mem h0, a3.symm⟩
        · exact a3) a2
    (by rcases b3 with b3 | b3
        · exact ⟨_, List.getElem_mem h0, b3.symm⟩
        · exact b3) b2
  rw [this.1, this.2]

end Go.Proofs.Ytbhbmnofmoibhaa

namespace Go.Proofs.Ytbhbmnofmoibhaa
open Go Go.Abs

set_option maxHeartbeats 4000000

/-- The tests with some numbers. -/
def pickT (t : Ti) (l : List Int) : List Ts := l.filterMap fun z => t.ts[z.toNat]?
/-- A trial with some of its tests. -/
def someT (t : Ti) (l : List Int) : Ti := { t with nl := l.isEmpty, fu := false, ts := pickT t l }

/-- The numbers are those of tests. -/
def InT (t : Ti) (l : List Int) : Prop := ∀ z ∈ l, 0 ≤ z ∧ z < t.ts.length

theorem pickT_len {t : Ti} {l : List Int} (h : InT t l) : (pickT t l).length = l.length := by
  induction l with
  | nil => rfl
  | cons z l ih =>
    have hz := h z (by simp)
    have ih' := ih fun y hy => h y (by simp [hy])
    unfold pickT at ih' ⊢
    rw [List.filterMap_cons, List.getElem?_eq_getElem (show z.toNat < t.ts.length by omega)]
    simp only [List.length_cons, ih']

theorem InT.take {t : Ti} {l : List Int} (h : InT t l) (i : Nat) : InT t (l.take i) := fun z hz => h z (List.mem_of_mem_take hz)

theorem pickT_step {t : Ti} {l : List Int} (h : InT t l) {i : Nat} (hi : i < l.length) (hz : (l[i]).toNat < t.ts.length) : pickT t (l.take (i + 1)) = pickT t (l.take i) ++ [t.ts[(l[i]).toNat]] := by
  unfold pickT
  rw [List.take_succ_eq_append_getElem hi, List.filterMap_append, List.filterMap_cons, List.getElem?_eq_getElem hz]
  rfl

@[simp] abbrev cTo (t : Ti) (c : C) : List C := [encI t.w.full, encI t.w.read, encI t.w.slip, encI t.w.skew, encI t.w.circle, encI t.w.glow, encI t.w.ghigh, encI t.w.wrong, encI t.gain, c]

end Go.Proofs.Ytbhbmnofmoibhaa

namespace Go.Proofs.Ytbhbmnofmoibhaa
open Go Go.Abs

set_option maxHeartbeats 4000000

/-- What a list of tests is like at a place. -/
def ListAt (n : Nat) (l : List Int) (i : Nat) (h : i < l.length) : Prop := (0 ≤ l[i] ∧ l[i] ≤ (n : Int) - 1) ∧ (∀ _ : 0 < i, l[i - 1] < l[i])
/-- The numbers are those of tests, strictly ascending. -/
def ListOk (n : Nat) (l : List Int) : Prop := ∀ i (h : i < l.length), ListAt n l i h

instance (n : Nat) (l : List Int) (i : Nat) (h : i < l.length) : Decidable (ListAt n l i h) := by unfold ListAt; exact inferInstance
instance (n : Nat) (l : List Int) : Decidable (ListOk n l) := by unfold ListOk; exact inferInstance

theorem q_isList43 (t : Ti) (nl fu : Bool) (l : List Int) (hn : l.length ≤ 1000000) (ht : t.ts.length ≤ 1000) : Pure Try.prog 15 [encTi t, .sl nl fu (l.map cI)] (.bool (decide (ListOk t.ts.length l))) := by
  refine pure_of (fn := Try.f15) [.tmp 4] ⟨Try.func15, rfl, by kernel_rfl⟩ (by kernel_rfl) (by kernel_rfl) (by kernel_rfl) fun x hx hσ => ?_
  (repeat refine awp_seq ?_); refine awp_reg1 (by rw [hx]; kernel_rfl) fun K hK => ?_; simp (maxSteps := 1000000) [ty28]; refine hK _ ?_; clear hK K; (first | show AWP _ _ _ _ _ | show ∃ _, _ | skip)
  (repeat refine awp_seq ?_); refine awp_reg1 (by rw [hx]; kernel_rfl) fun K hK => ?_; simp (maxSteps := 1000000) []; refine hK _ ?_; clear hK K; (first | show AWP _ _ _ _ _ | show ∃ _, _ | skip)
  (repeat refine awp_seq ?_); refine awp_block ?_
  refine awp_loop (fun i : Nat => ⟨ofL [(1, .sl nl fu (l.map cI)), (2, .ptr 2 10 0 0), (5, encI i)], stoT [(2, 2, .live (obTi t))]⟩)
    (fun i => i ≤ l.length ∧ ∀ j (h : j < l.length), j < i → ListAt t.ts.length l j h) (fun i => l.length - i) 0 ⟨Nat.zero_le _, fun j _ h => by omega⟩ ?_ ?_
  · refine wk_shape (shp0 hσ (by simp) (by simp) ?_) ?_
    · simp [SlotOk] <;> (repeat' (first | (refine RowsOk.same ?_; simp [purel, C.isPure]; done) | (refine rowsCons ?_; simp [mtl, mtc, mT, mH, C.isPure, purel]; done) | (refine rowsCons ?_; simp [mtl, mtc, mT, mH, C.isPure, purel]) | refine And.intro ?_ ?_))
    · simp [mtc, mtl, mT, C.isPure, purel] <;> (try simp (disch := omega) [wrap_id]) <;> (try omega)
  · intro i ⟨hi, hj⟩
    (repeat refine awp_seq ?_); refine awp_reg1 (by rw [hx]; kernel_rfl) fun K hK => ?_; simp (maxSteps := 1000000) [ty49, ty3]; refine hK _ ?_; clear hK K; (first | show AWP _ _ _ _ _ | show ∃ _, _ | skip)
    (repeat refine awp_seq ?_); refine awp_cond (by simp; rfl) (by rw [hx]; simp) (fun hc => ?_) (fun hc => ?_)
    · simp at hc
      refine awp_skip ?_; (first | show AWP _ _ _ _ _ | show ∃ _, _ | skip)
      (repeat refine awp_seq ?_); refine awp_block ?_
      have hw1 : IntKind.i64.wrap ((t.ts.length : Int) - 1) = (t.ts.length : Int) - 1 := wrap_id (by omega) (by omega)
      have hwi : IntKind.i64.wrap ((i : Int) + 1) = ((i + 1 : Nat) : Int) := by rw [wrap_id (by omega) (by omega)]; rfl
      have bad : ¬ ListAt t.ts.length l i hc → decide (ListOk t.ts.length l) = false := fun h => by
        rw [decide_eq_false_iff_not]
        exact fun g => h (g i hc)
      have c1 := q_within60 l[i] 0 ((t.ts.length : Int) - 1)
      cases hb : withinB l[i] 0 ((t.ts.length : Int) - 1)
      · rw [hb] at c1
        have hbad := bad (fun h => by simp [withinB] at hb; have := h.1; omega)
        (repeat refine awp_seq ?_); refine awp_drw3 [] [0, 1, 2, 3, 4, 5, 6, 7, 8, 9, 10, 11, 12, 13, 14, 15, 16, 17, 18, 19, 20, 21, 22, 23, 24, 25] (by rw [hx]; kernel_rfl) (by kernel_rfl) (by kernel_rfl) (by kernel_rfl) fun K hK => ?_; simp (maxSteps := 1000000) [ty49, ty3, ty28, ty26, hc, hw1]
        refine callPD (c1) (by first | (simp; done) | (simp [*]; done)) (by simp) ?_; simp (maxSteps := 1000000) []
        refine hK _ ?_; clear hK K; (first | show AWP _ _ _ _ _ | show ∃ _, _ | skip)
        (repeat refine awp_seq ?_); refine awp_cond (by simp; rfl) (by rw [hx]; simp) (fun hd => ?_) (fun hd => ?_)
        · clear hd
          (repeat refine awp_seq ?_); refine awp_reg1 (by rw [hx]; kernel_rfl) fun K hK => ?_; simp (maxSteps := 1000000) []; refine hK _ ?_; clear hK K; (first | show AWP _ _ _ _ _ | show ∃ _, _ | skip)
          (repeat refine awp_seq ?_); refine awp_ret ?_; refine And.intro (Or.inr rfl) ?_
          simp [retC, resC, viewC, mapO, hbad]
        · simp at hd
      · rw [hb] at c1
        have hin : 0 ≤ l[i] ∧ l[i] ≤ (t.ts.length : Int) - 1 := by simpa [withinB] using hb
        by_cases h0 : i = 0
        · subst h0
          (repeat refine awp_seq ?_); refine awp_drw3 [] [0, 1, 2, 3, 4, 5, 6, 7, 8, 9, 10, 11, 12, 13, 14, 15, 16, 17, 18, 19, 20, 21, 22, 23, 24, 25] (by rw [hx]; kernel_rfl) (by kernel_rfl) (by kernel_rfl) (by kernel_rfl) fun K hK => ?_; simp (maxSteps := 1000000) [ty49, ty3, ty28, ty26, hc, hw1]
          refine callPD (c1) (by first | (simp; done) | (simp [*]; done)) (by simp) ?_; simp (maxSteps := 1000000) []
          refine hK _ ?_; clear hK K; (first | show AWP _ _ _ _ _ | show ∃ _, _ | skip)
          (repeat refine awp_seq ?_); refine awp_cond (by simp; rfl) (by rw [hx]; simp) (fun hd => ?_) (fun hd => ?_)
          · exact absurd hd (by simp)
          · clear hd
            refine awp_skip ?_; (first | show AWP _ _ _ _ _ | show ∃ _, _ | skip)
            (repeat refine awp_seq ?_); refine awp_reg1 (by rw [hx]; kernel_rfl) fun K hK => ?_; simp (maxSteps := 1000000) [ty3]; refine hK _ ?_; clear hK K; (first | show AWP _ _ _ _ _ | show ∃ _, _ | skip)
            refine ⟨0 + 1, ⟨by omega, fun j h1 h2 => ?_⟩, by omega, ?_⟩
            · obtain rfl : j = 0 := by omega
              exact ⟨hin, fun h => absurd h (by omega)⟩
            · have hw0 : IntKind.i64.wrap 1 = 1 := by decide
              refine wk_shape (shp0 hσ (by simp) (by simp) ?_) ?_
              · simp [SlotOk, hw0] <;> (repeat' (first | (refine RowsOk.same ?_; simp [purel, C.isPure]; done) | (refine rowsCons ?_; simp [mtl, mtc, mT, mH, C.isPure, purel]; done) | (refine rowsCons ?_; simp [mtl, mtc, mT, mH, C.isPure, purel]) | refine And.intro ?_ ?_))
              · simp [mtc, mtl, mT, C.isPure, purel, hw0] <;> (try simp (disch := omega) [wrap_id]) <;> (try omega)
        · have hp : (0 : Int) < (i : Int) := by omega
          have hp2 : 0 < i := by omega
          have hwm : IntKind.i64.wrap ((i : Int) - 1) = ((i - 1 : Nat) : Int) := by rw [wrap_id (by omega) (by omega)]; omega
          have hlm : i - 1 < l.length := by omega
          by_cases hle : l[i] ≤ l[i - 1]
          · have hbad := bad (fun h => by have := h.2 hp2; omega)
            (repeat refine awp_seq ?_); refine awp_drw3 [] [0, 1, 2, 3, 4, 5, 6, 7, 8, 9, 10, 11, 12, 13, 14, 15, 16, 17, 18, 19, 20, 21, 22, 23, 24, 25] (by rw [hx]; kernel_rfl) (by kernel_rfl) (by kernel_rfl) (by kernel_rfl) fun K hK => ?_; simp (maxSteps := 1000000) [ty49, ty3, ty28, ty26, hc, hw1]
            refine callPD (c1) (by first | (simp; done) | (simp [*]; done)) (by simp) ?_; simp (maxSteps := 1000000) [ty49, ty3, hp, hp2, hwm, hc, hlm, hle]
            refine hK _ ?_; clear hK K; (first | show AWP _ _ _ _ _ | show ∃ _, _ | skip)
            (repeat refine awp_seq ?_); refine awp_cond (by simp; rfl) (by rw [hx]; simp) (fun hd => ?_) (fun hd => ?_)
            · clear hd
              (repeat refine awp_seq ?_); refine awp_reg1 (by rw [hx]; kernel_rfl) fun K hK => ?_; simp (maxSteps := 1000000) []; refine hK _ ?_; clear hK K; (first | show AWP _ _ _ _ _ | show ∃ _, _ | skip)
              (repeat refine awp_seq ?_); refine awp_ret ?_; refine And.intro (Or.inr rfl) ?_
              simp [retC, resC, viewC, mapO, hbad]
            · simp [hle] at hd
          · (repeat refine awp_seq ?_); refine awp_drw3 [] [0, 1, 2, 3, 4, 5, 6, 7, 8, 9, 10, 11, 12, 13, 14, 15, 16, 17, 18, 19, 20, 21, 22, 23, 24, 25] (by rw [hx]; kernel_rfl) (by kernel_rfl) (by kernel_rfl) (by kernel_rfl) fun K hK => ?_; simp (maxSteps := 1000000) [ty49, ty3, ty28, ty26, hc, hw1]
            refine callPD (c1) (by first | (simp; done) | (simp [*]; done)) (by simp) ?_; simp (maxSteps := 1000000) [ty49, ty3, hp, hp2, hwm, hc, hlm, hle]
            refine hK _ ?_; clear hK K; (first | show AWP _ _ _ _ _ | show ∃ _, _ | skip)
            (repeat refine awp_seq ?_); refine awp_cond (by simp; rfl) (by rw [hx]; simp) (fun hd => ?_) (fun hd => ?_)
            · simp [hle] at hd
            · clear hd
              refine awp_skip ?_; (first | show AWP _ _ _ _ _ | show ∃ _, _ | skip)
              (repeat refine awp_seq ?_); refine awp_reg1 (by rw [hx]; kernel_rfl) fun K hK => ?_; simp (maxSteps := 1000000) [ty3]; refine hK _ ?_; clear hK K; (first | show AWP _ _ _ _ _ | show ∃ _, _ | skip)
              refine ⟨i + 1, ⟨by omega, fun j h1 h2 => ?_⟩, by omega, ?_⟩
              · by_cases e : j = i
                · subst e
                  exact ⟨hin, fun _ => by omega⟩
                · exact hj j h1 (by omega)
              · rw [hwi]
                refine wk_shape (shp0 hσ (by simp) (by simp) ?_) ?_
                · simp [SlotOk] <;> (repeat' (first | (refine RowsOk.same ?_; simp [purel, C.isPure]; done) | (refine rowsCons ?_; simp [mtl, mtc, mT, mH, C.isPure, purel]; done) | (refine rowsCons ?_; simp [mtl, mtc, mT, mH, C.isPure, purel]) | refine And.intro ?_ ?_))
                · simp [mtc, mtl, mT, C.isPure, purel] <;> (try simp (disch := omega) [wrap_id]) <;> (try omega)
    · simp at hc
      (repeat refine awp_seq ?_); refine awp_exit ?_; (first | show AWP _ _ _ _ _ | show ∃ _, _ | skip)
      have hok : decide (ListOk t.ts.length l) = true := by
        rw [decide_eq_true_eq]
        exact fun j h => hj j h (by omega)
      (repeat refine awp_seq ?_); refine awp_reg1 (by rw [hx]; kernel_rfl) fun K hK => ?_; simp (maxSteps := 1000000) []; refine hK _ ?_; clear hK K; (first | show AWP _ _ _ _ _ | show ∃ _, _ | skip)
      (repeat refine awp_seq ?_); refine awp_ret ?_; refine And.intro (Or.inr rfl) ?_
      simp [retC, resC, viewC, mapO, hok]

theorem pickT_mem {t : Ti} {l : List Int} {y : Ts} (h : y ∈ pickT t l) : y ∈ t.ts := by
  unfold pickT at h
  obtain ⟨z, _, hz⟩ := List.mem_filterMap.1 h
  exact List.mem_of_getElem? hz

theorem someT_ok {t : Ti} {l : List Int} (h : TiOk t) (hl : (pickT t l).length ≤ 6) : TiOk (someT t l) :=
  ⟨h.gain, hl, fun y hy => h.area y (pickT_mem hy), h.wh, fun y hy => h.chk y (pickT_mem hy)⟩
theorem someT_len {t : Ti} {l : List Int} (h : TiLen t) (hl : (pickT t l).length ≤ 1000) : TiLen (someT t l) := ⟨hl, fun y hy => h.l y (pickT_mem hy)⟩

end Go.Proofs.Ytbhbmnofmoibhaa

namespace Go.Proofs.Ytbhbmnofmoibhaa
open Go Go.Abs

set_option maxHeartbeats 4000000

-- plain laws of sets and lists

theorem fixTo_mem (q : Nat → Bool) (z : Int) : ∀ n, z ∈ fixTo q n ↔ ∃ i, i < n ∧ q i = true ∧ z = i
  | 0 => by simp
  | n + 1 => by
    have ih := fixTo_mem q z n
    simp only [fixTo]
    split
    · rename_i h
      rw [List.mem_append, ih, List.mem_singleton]
      constructor
      · rintro (⟨i, h1, h2, h3⟩ | h1)
        · exact ⟨i, by omega, h2, h3⟩
        · exact ⟨n, by omega, h, h1⟩
      · rintro ⟨i, h1, h2, h3⟩
        by_cases e : i = n
        · subst e; exact .inr h3
        · exact .inl ⟨i, by omega, h2, h3⟩
    · rename_i h
      rw [ih]
      constructor
      · rintro ⟨i, h1, h2, h3⟩; exact ⟨i, by omega, h2, h3⟩
      · rintro ⟨i, h1, h2, h3⟩
        by_cases e : i = n
        · subst e; exact absurd h2 h
        · exact ⟨i, by omega, h2, h3⟩

theorem fixTo_lt (q : Nat → Bool) : ∀ n, (fixTo q n).Pairwise (· < ·)
  | 0 => by simp
  | n + 1 => by
    have ih := fixTo_lt q n
    simp only [fixTo]
    split
    · refine List.pairwise_append.2 ⟨ih, by simp, fun a ha b hb => ?_⟩
      simp at hb
      subst hb
      obtain ⟨i, h1, _, rfl⟩ := (fixTo_mem q a n).1 ha
      omega
    · exact ih

theorem fixTo_count (q : Nat → Bool) : ∀ n, (fixTo q n).length = (List.range n).countP q
  | 0 => rfl
  | n + 1 => by
    have ih := fixTo_count q n
    simp only [fixTo, List.range_succ, List.countP_append, List.countP_singleton]
    split <;> simp_all

theorem countP_range_lt (q : Nat → Bool) {n : Nat} (h : ∀ i, n ≤ i → q i = false) : ∀ m, n ≤ m → (List.range m).countP q = (List.range n).countP q := by
  intro m hm
  obtain ⟨d, rfl⟩ : ∃ d, m = n + d := ⟨m - n, by omega⟩
  clear hm
  induction d with
  | zero => rfl
  | succ d ih =>
    rw [← Nat.add_assoc, List.range_succ, List.countP_append, ih, List.countP_singleton, h _ (by omega)]
    simp

theorem popc_count {s n : Nat} (hs : s < 2 ^ n) (hn : n ≤ 8) : popc s = (List.range n).countP fun i => s.testBit i := by
  unfold popc
  refine countP_range_lt _ (fun i hi => ?_) 8 hn
  exact Nat.testBit_lt_two_pow (Nat.lt_of_lt_of_le hs (Nat.pow_le_pow_right (by decide) hi))

theorem listS_len {t : Ti} {s : Nat} (hs : s < 2 ^ t.ts.length) (hn : t.ts.length ≤ 8) : (listS t s).length = popc s := by
  unfold listS
  rw [fixTo_count, popc_count hs hn]

theorem listS_mem {t : Ti} {s : Nat} {z : Int} : z ∈ listS t s ↔ ∃ i, i < t.ts.length ∧ s.testBit i = true ∧ z = i := fixTo_mem _ _ _

theorem listS_in (t : Ti) (s : Nat) : InT t (listS t s) := fun z hz => by
  obtain ⟨i, h1, _, rfl⟩ := listS_mem.1 hz
  omega

theorem listOk_of {n : Nat} {l : List Int} (h1 : l.Pairwise (· < ·)) (h2 : ∀ z ∈ l, 0 ≤ z ∧ z < n) : ListOk n l := fun i hi => by
  refine ⟨by have := h2 _ (List.getElem_mem hi); omega, fun h0 => ?_⟩
  exact List.pairwise_iff_getElem.1 h1 (i - 1) i (by omega) hi (by omega)

theorem ListOk.lt {n : Nat} {l : List Int} (h : ListOk n l) : l.Pairwise (· < ·) := by
  refine List.pairwise_iff_getElem.2 fun i j hi hj hij => ?_
  obtain ⟨d, rfl⟩ : ∃ d, j = i + 1 + d := ⟨j - i - 1, by omega⟩
  clear hij
  induction d with
  | zero => exact (h (i + 1) hj).2 (by omega)
  | succ d ih =>
    have h1 := ih (by omega)
    have h2 := (h (i + 1 + (d + 1)) hj).2 (by omega)
    simp only [show i + 1 + (d + 1) - 1 = i + 1 + d by omega] at h2
    exact Int.lt_trans h1 h2

theorem ListOk.mem {n : Nat} {l : List Int} (h : ListOk n l) : ∀ z ∈ l, 0 ≤ z ∧ z < n := fun z hz => by
  obtain ⟨i, hi, rfl⟩ := List.getElem_of_mem hz
  have := (h i hi).1
  omega

theorem listS_ok (t : Ti) (s : Nat) : ListOk t.ts.length (listS t s) := listOk_of (fixTo_lt _ _) (listS_in t s)

theorem bits_ex (f : Nat → Bool) : ∀ n, ∃ r, r < 2 ^ n ∧ ∀ i, i < n → Nat.testBit r i = f i
  | 0 => ⟨0, by decide, fun i h => absurd h (by omega)⟩
  | n + 1 => by
    obtain ⟨r, h1, h2⟩ := bits_ex f n
    cases hf : f n
    · refine ⟨r, by rw [Nat.pow_succ]; omega, fun i hi => ?_⟩
      by_cases e : i = n
      · subst e; rw [hf]; exact Nat.testBit_lt_two_pow h1
      · exact h2 i (by omega)
    · refine ⟨2 ^ n + r, by rw [Nat.pow_succ]; omega, fun i hi => ?_⟩
      by_cases e : i = n
      · subst e; rw [hf, Nat.testBit_two_pow_add_eq, Nat.testBit_lt_two_pow h1]; rfl
      · rw [Nat.testBit_two_pow_add_gt (by omega)]; exact h2 i (by omega)

/-- Each list is that of a set. -/
theorem set_of_list {t : Ti} {l : List Int} (h : ListOk t.ts.length l) : ∃ s, s < 2 ^ t.ts.length ∧ listS t s = l := by
  obtain ⟨s, h1, h2⟩ := bits_ex (fun i => decide ((i : Int) ∈ l)) t.ts.length
  refine ⟨s, h1, ?_⟩
  have ha := fixTo_lt (fun i => s.testBit i) t.ts.length
  have hb := h.lt
  refine sorted_eq (ha.imp fun h => Int.le_of_lt h) (hb.imp fun h => Int.le_of_lt h) (ha.imp fun h => Int.ne_of_lt h) (hb.imp fun h => Int.ne_of_lt h) fun z => ?_
  rw [listS_mem]
  constructor
  · rintro ⟨i, hi, hq, rfl⟩
    rw [h2 i hi] at hq
    simpa using hq
  · intro hz
    have := h.mem z hz
    have hlt : z.toNat < t.ts.length := by omega
    refine ⟨z.toNat, hlt, ?_, by omega⟩
    rw [h2 _ hlt, decide_eq_true_eq, show ((z.toNat : Nat) : Int) = z by omega]
    exact hz

theorem okS_iff {t : Ti} {n : Nat} {k : Tr} : okS t n k = true ↔ ∀ i (h : i < t.ts.length), n.testBit i = true → allowB t.w t.ts[i] k = true := by
  constructor
  · intro h i hi hb
    rw [okS, List.all_eq_true] at h
    have := h i (List.mem_range.2 hi)
    rw [List.getElem?_eq_getElem hi, hb] at this
    simpa using this
  · exact okS_true

theorem pickT_all {t : Ti} {l : List Int} (p : Ts → Bool) (h : InT t l) : (∀ y ∈ pickT t l, p y = true) ↔ ∀ z ∈ l, ∀ hz : z.toNat < t.ts.length, p t.ts[z.toNat] = true := by
  constructor
  · intro g z hz hl
    refine g _ (List.mem_filterMap.2 ⟨z, hz, List.getElem?_eq_getElem hl⟩)
  · intro g y hy
    obtain ⟨z, hz, e⟩ := List.mem_filterMap.1 hy
    have := h z hz
    have hl : z.toNat < t.ts.length := by omega
    rw [List.getElem?_eq_getElem hl] at e
    cases e
    exact g z hz hl

/-- The truths of a trial with just some tests. -/
theorem some_set (t : Ti) (s : Nat) : truthsS (someT t (listS t s)) (allS (someT t (listS t s))) = truthsS t s := by
  unfold truthsS
  have hg : gwT (someT t (listS t s)) = gwT t := rfl
  rw [hg]
  refine List.filter_congr fun k hk => ?_
  have hk' : k ∈ allT (gwT (someT t (listS t s))) := hk
  rw [Bool.eq_iff_iff, okS_iff, okS_iff]
  have hall : (∀ i (h : i < (someT t (listS t s)).ts.length), (allS (someT t (listS t s))).testBit i = true → allowB (someT t (listS t s)).w (someT t (listS t s)).ts[i] k = true) ↔ ∀ y ∈ pickT t (listS t s), allowB t.w y k = true := by
    constructor
    · intro h y hy
      obtain ⟨i, hi, rfl⟩ := List.getElem_of_mem hy
      exact h i hi (testBit_all hi)
    · intro h i hi _
      exact h _ (List.getElem_mem hi)
  rw [hall, pickT_all _ (listS_in t s)]
  constructor
  · intro h i hi hb
    have := h i (listS_mem.2 ⟨i, hi, hb, rfl⟩) (by simpa using hi)
    simpa using this
  · intro h z hz hl
    obtain ⟨i, hi, hb, rfl⟩ := listS_mem.1 hz
    simpa using h i hi hb

/-- What the sets are that are gathered. -/
theorem decL_spec (cd : Nat → Bool) : ∀ n, (decL cd n = [] ∧ ∀ s, s < n → cd s = false) ∨
    ∃ m, decL cd n ≠ [] ∧ decL cd n = (List.range n).filter (fun s => popc s == m && cd s) ∧ ∀ s, s < n → cd s = true → m ≤ popc s
  | 0 => .inl ⟨rfl, fun s h => absurd h (by omega)⟩
  | n + 1 => by
    have hd : decL cd (n + 1) = decStep cd (decL cd n) n := rfl
    rcases decL_spec cd n with ⟨h1, h2⟩ | ⟨m, h1, h2, h3⟩
    · rw [h1] at hd
      cases hc : cd n
      · left
        refine ⟨by rw [hd]; simp [decStep, hc], fun s hs => ?_⟩
        by_cases e : s = n
        · subst e; exact hc
        · exact h2 s (by omega)
      · right
        refine ⟨popc n, by rw [hd]; simp [decStep, hc], ?_, fun s hs hcs => ?_⟩
        · rw [hd, List.range_succ, List.filter_append]
          have : (List.range n).filter (fun s => popc s == popc n && cd s) = [] := by
            rw [List.filter_eq_nil_iff]
            intro s hs
            rw [h2 s (List.mem_range.1 hs)]
            simp
          rw [this]
          simp [decStep, hc]
        · by_cases e : s = n
          · subst e; exact Nat.le_refl _
          · rw [h2 s (by omega)] at hcs; cases hcs
    · right
      obtain ⟨a, r, har⟩ : ∃ a r, decL cd n = a :: r := by
        cases h : decL cd n with
        | nil => exact absurd h h1
        | cons a r => exact ⟨a, r, rfl⟩
      have ha : a ∈ decL cd n := by rw [har]; simp
      rw [h2, List.mem_filter] at ha
      have ham : popc a = m := by
        have := ha.2
        simp only [Bool.and_eq_true, beq_iff_eq] at this
        exact this.1
      rw [har] at hd
      by_cases g1 : popc a < popc n
      · refine ⟨m, by rw [hd]; simp [decStep, g1], ?_, fun s hs hcs => ?_⟩
        · rw [hd, List.range_succ, List.filter_append, ← h2, har]
          have : (popc n == m) = false := by rw [beq_eq_false_iff_ne]; omega
          simp [decStep, g1, this]
        · by_cases e : s = n
          · subst e; omega
          · exact h3 s (by omega) hcs
      · cases hc : cd n
        · refine ⟨m, by rw [hd]; simp [decStep, g1, hc], ?_, fun s hs hcs => ?_⟩
          · rw [hd, List.range_succ, List.filter_append, ← h2, har]
            simp [decStep, g1, hc]
          · by_cases e : s = n
            · subst e; rw [hc] at hcs; cases hcs
            · exact h3 s (by omega) hcs
        · by_cases g2 : popc n < popc a
          · refine ⟨popc n, by rw [hd]; simp [decStep, g1, hc, g2], ?_, fun s hs hcs => ?_⟩
            · rw [hd, List.range_succ, List.filter_append]
              have : (List.range n).filter (fun s => popc s == popc n && cd s) = [] := by
                rw [List.filter_eq_nil_iff]
                intro s hs h
                simp only [Bool.and_eq_true, beq_iff_eq] at h
                have := h3 s (List.mem_range.1 hs) h.2
                omega
              rw [this]
              simp [decStep, g1, hc, g2]
            · by_cases e : s = n
              · subst e; exact Nat.le_refl _
              · have := h3 s (by omega) hcs; omega
          · refine ⟨m, by rw [hd]; simp [decStep, g1, hc, g2], ?_, fun s hs hcs => ?_⟩
            · rw [hd, List.range_succ, List.filter_append, ← h2, har]
              have : (popc n == m) = true := by rw [beq_iff_eq]; omega
              simp [decStep, g1, hc, g2, this]
            · by_cases e : s = n
              · subst e; omega
              · exact h3 s (by omega) hcs

end Go.Proofs.Ytbhbmnofmoibhaa

namespace Go.Proofs.Ytbhbmnofmoibhaa
open Go Go.Abs

set_option maxHeartbeats 8000000

@[simp] abbrev slF (A : List Int) : C := .sl A.isEmpty false (A.map cI)
def rowsF (t : Ti) (S : List Nat) : List (List C) := S.map fun s => [slF (listS t s)]

@[simp] theorem rowsF_len (t : Ti) (S : List Nat) : (rowsF t S).length = S.length := by simp [rowsF]
@[simp] theorem rowsF_pure (t : Ti) (S : List Nat) : (rowsF t S).all purel = true := by simp [rowsF, purel, C.isPure]
end Go.Proofs.Ytbhbmnofmoibhaa

namespace Go.Proofs.Ytbhbmnofmoibhaa
open Go Go.Abs

set_option maxHeartbeats 8000000

theorem inAll_bit (i : Nat) : ∀ (l : List Nat) (a : Nat), (inAll l a).testBit i = (a.testBit i && l.all fun s => s.testBit i)
  | [], a => by simp [inAll]
  | s :: l, a => by
    have ih := inAll_bit i l (a &&& s)
    have e : inAll (s :: l) a = inAll l (a &&& s) := rfl
    rw [e, ih, Nat.testBit_and, List.all_cons, Bool.and_assoc]

end Go.Proofs.Ytbhbmnofmoibhaa

namespace Go.Proofs.Ytbhbmnofmoibhaa
open Go Go.Abs

set_option maxHeartbeats 8000000

def copyY (y : Ts) : Ts := { y with nl := false, fu := false }
/-- An equal trial in new memory. -/
def copyT (t : Ti) : Ti := { t with nl := t.ts.isEmpty, fu := false, ts := t.ts.map copyY }

theorem set_last {α : Type} (A : List α) (x y : α) {n : Nat} (h : n = A.length) : (A ++ [x]).set n y = A ++ [y] := by
  subst h
  rw [List.set_append_right _ _ (Nat.le_refl _)]
  simp

end Go.Proofs.Ytbhbmnofmoibhaa

namespace Go.Proofs.Ytbhbmnofmoibhaa
open Go Go.Abs

set_option maxHeartbeats 4000000

end Go.Proofs.Ytbhbmnofmoibhaa

namespace Go.Proofs.Ytbhbmnofmoibhaa
open Go Go.Abs

set_option maxHeartbeats 4000000

@[simp] abbrev encP (p : Int × Int) : C := .agg [encI p.1, encI p.2]
def rowsP (v : Int × Int → Int) (ks : List (Int × Int)) : List (List C) := ks.map fun p => [encP p, encI (v p)]
@[simp] theorem rowsP_pure (v : Int × Int → Int) (ks : List (Int × Int)) : (rowsP v ks).all purel = true := by simp [rowsP, purel, C.isPure]
@[simp] theorem rowsP_wil (K : List Nat) (v : Int × Int → Int) (ks : List (Int × Int)) : (rowsP v ks).all (wil K) = true := by simp [rowsP, wil, C.wi]

end Go.Proofs.Ytbhbmnofmoibhaa

namespace Go.Proofs.Ytbhbmnofmoibhaa
open Go Go.Abs

set_option maxHeartbeats 4000000

end Go.Proofs.Ytbhbmnofmoibhaa

namespace Go.Proofs.Ytbhbmnofmoibhaa
open Go Go.Abs

set_option maxHeartbeats 4000000

end Go.Proofs.Ytbhbmnofmoibhaa

namespace Go.Proofs.Ytbhbmnofmoibhaa
open Go Go.Abs

set_option maxHeartbeats 4000000

theorem fe23 : flatEq Try.prog 23 = some [.i64, .i64] := by kernel_rfl

theorem same29 (a1 a2 b1 b2 : Bool) (A B : List Int) (hn : A.length ≤ 1000000) (hm : B.length ≤ 1000000) : Pure Try.prog 26 [.sl a1 a2 (A.map cI), .sl b1 b2 (B.map cI)] (.bool (decide (A = B))) := by
  refine pure_of (fn := Try.f26) [.tmp 4] ⟨Try.func26, rfl, by kernel_rfl⟩ (by kernel_rfl) (by kernel_rfl) (by kernel_rfl) fun x hx hσ => ?_
  (repeat refine awp_seq ?_); refine awp_reg1 (by rw [hx]; kernel_rfl) fun K hK => ?_; simp (maxSteps := 1000000) []; refine hK _ ?_; clear hK K; (first | show AWP _ _ _ _ _ | show ∃ _, _ | skip)
  by_cases hl : A.length = B.length
  · (repeat refine awp_seq ?_); refine awp_reg1 (by rw [hx]; kernel_rfl) fun K hK => ?_; simp (maxSteps := 1000000) [ty49, ty3, hl]; refine hK _ ?_; clear hK K; (first | show AWP _ _ _ _ _ | show ∃ _, _ | skip)
    (repeat refine awp_seq ?_); refine awp_cond (by simp [hl]; rfl) (by rw [hx]; simp) (fun hd => ?_) (fun hd => ?_)
    · simp at hd
    · clear hd
      refine awp_skip ?_; (first | show AWP _ _ _ _ _ | show ∃ _, _ | skip)
      (repeat refine awp_seq ?_); refine awp_reg1 (by rw [hx]; kernel_rfl) fun K hK => ?_; simp (maxSteps := 1000000) []; refine hK _ ?_; clear hK K; (first | show AWP _ _ _ _ _ | show ∃ _, _ | skip)
      (repeat refine awp_seq ?_); refine awp_block ?_
      refine awp_loop (fun i : Nat => ⟨ofL [(0, .sl a1 a2 (A.map cI)), (1, .sl b1 b2 (B.map cI)), (5, encI i)], stoT []⟩)
        (fun i => i ≤ A.length ∧ ∀ j (h1 : j < A.length) (h2 : j < B.length), j < i → A[j] = B[j]) (fun i => A.length - i) 0 ⟨Nat.zero_le _, fun j _ _ h => by omega⟩ ?_ ?_
      · refine wk_shape (shp0 hσ (by simp) (by simp) ?_) ?_
        · simp [SlotOk] <;> (repeat' (first | exact .same (by simp [purel, C.isPure]) | exact .cons (by simp [mtl, mtc, mT, mH, C.isPure, purel]) (by simp) .nil | refine And.intro ?_ ?_))
        · simp [mtc, mtl, mT, C.isPure, purel] <;> (try simp (disch := omega) [wrap_id]) <;> (try omega)
      · rintro i ⟨hi, hj⟩
        (repeat refine awp_seq ?_); refine awp_reg1 (by rw [hx]; kernel_rfl) fun K hK => ?_; simp (maxSteps := 1000000) [ty49, ty3]; refine hK _ ?_; clear hK K; (first | show AWP _ _ _ _ _ | show ∃ _, _ | skip)
        (repeat refine awp_seq ?_); refine awp_cond (by simp; rfl) (by rw [hx]; simp) (fun hc => ?_) (fun hc => ?_)
        · simp at hc
          have hcB : i < B.length := by omega
          refine awp_skip ?_; (first | show AWP _ _ _ _ _ | show ∃ _, _ | skip)
          (repeat refine awp_seq ?_); refine awp_block ?_
          (repeat refine awp_seq ?_); refine awp_drw3 [] [0, 1, 2, 3, 4, 5, 6, 7, 8] (by rw [hx]; kernel_rfl) (by kernel_rfl) (by kernel_rfl) (by kernel_rfl) fun K hK => ?_; simp (maxSteps := 1000000) [ty49, ty3, hc, hcB]; refine hK _ ?_; clear hK K; (first | show AWP _ _ _ _ _ | show ∃ _, _ | skip)
          by_cases hb : A[i] = B[i]
          · (repeat refine awp_seq ?_); refine awp_cond (by simp [hb]; rfl) (by rw [hx]; simp) (fun hd => ?_) (fun hd => ?_)
            · simp [hb] at hd
            · clear hd
              refine awp_skip ?_; (first | show AWP _ _ _ _ _ | show ∃ _, _ | skip)
              (repeat refine awp_seq ?_); refine awp_reg1 (by rw [hx]; kernel_rfl) fun K hK => ?_; simp (maxSteps := 1000000) [ty3]; refine hK _ ?_; clear hK K; (first | show AWP _ _ _ _ _ | show ∃ _, _ | skip)
              rw [wrap_id (by omega) (by omega)]
              refine ⟨i + 1, ⟨by omega, fun j h1 h2 h => ?_⟩, by omega, ?_⟩
              · by_cases e : j = i
                · subst e; exact hb
                · exact hj j h1 h2 (by omega)
              · refine wk_shape (shp0 hσ (by simp) (by simp) ?_) ?_
                · simp [SlotOk] <;> (repeat' (first | exact .same (by simp [purel, C.isPure]) | exact .cons (by simp [mtl, mtc, mT, mH, C.isPure, purel]) (by simp) .nil | refine And.intro ?_ ?_))
                · simp [mtc, mtl, mT, C.isPure, purel] <;> (try simp (disch := omega) [wrap_id]) <;> (try omega)
          · (repeat refine awp_seq ?_); refine awp_cond (by simp [hb]; rfl) (by rw [hx]; simp) (fun hd => ?_) (fun hd => ?_)
            · clear hd
              (repeat refine awp_seq ?_); refine awp_reg1 (by rw [hx]; kernel_rfl) fun K hK => ?_; simp (maxSteps := 1000000) []; refine hK _ ?_; clear hK K; (first | show AWP _ _ _ _ _ | show ∃ _, _ | skip)
              (repeat refine awp_seq ?_); refine awp_ret ?_; refine And.intro (Or.inr rfl) ?_
              have : decide (A = B) = false := by
                rw [decide_eq_false_iff_not]
                rintro rfl
                exact hb rfl
              rw [this]
              simp [retC, resC, viewC, mapO]
            · simp [hb] at hd
        · simp at hc
          (repeat refine awp_seq ?_); refine awp_exit ?_; (first | show AWP _ _ _ _ _ | show ∃ _, _ | skip)
          have : decide (A = B) = true := by
            rw [decide_eq_true_eq]
            exact List.ext_getElem hl fun j h1 h2 => hj j h1 h2 (by omega)
          rw [this]
          (repeat refine awp_seq ?_); refine awp_reg1 (by rw [hx]; kernel_rfl) fun K hK => ?_; simp (maxSteps := 1000000) []; refine hK _ ?_; clear hK K; (first | show AWP _ _ _ _ _ | show ∃ _, _ | skip)
          (repeat refine awp_seq ?_); refine awp_ret ?_; refine And.intro (Or.inr rfl) ?_
          simp [retC, resC, viewC, mapO]
  · have : decide (A = B) = false := by
      rw [decide_eq_false_iff_not]
      rintro rfl
      exact hl rfl
    rw [this]
    (repeat refine awp_seq ?_); refine awp_reg1 (by rw [hx]; kernel_rfl) fun K hK => ?_; simp (maxSteps := 1000000) [ty49, ty3, hl]; refine hK _ ?_; clear hK K; (first | show AWP _ _ _ _ _ | show ∃ _, _ | skip)
    (repeat refine awp_seq ?_); refine awp_cond (by simp [hl]; rfl) (by rw [hx]; simp) (fun hd => ?_) (fun hd => ?_)
    · clear hd
      (repeat refine awp_seq ?_); refine awp_reg1 (by rw [hx]; kernel_rfl) fun K hK => ?_; simp (maxSteps := 1000000) []; refine hK _ ?_; clear hK K; (first | show AWP _ _ _ _ _ | show ∃ _, _ | skip)
      (repeat refine awp_seq ?_); refine awp_ret ?_; refine And.intro (Or.inr rfl) ?_
      simp [retC, resC, viewC, mapO]
    · simp at hd
      exact absurd (by omega) hl

end Go.Proofs.Ytbhbmnofmoibhaa

namespace Go.Proofs.Ytbhbmnofmoibhaa
open Go Go.Abs

set_option maxHeartbeats 4000000

def wX : Wh := ⟨100, 0, 0, 2, 0, 40, 60, 0⟩
def yA : Wl := ⟨1, 1, 0, 10, 62⟩
def yB : Wl := ⟨1, -1, 0, 62, 16⟩

theorem example48 : Pure Try.prog 56 [] (.tup [encWh wX, sWl false true [yA, yB]]) := by
  refine pure_of (fn := Try.f56) [.cell 0 25, .tmp 1] ⟨Try.func56, rfl, by kernel_rfl⟩ (by kernel_rfl) (by kernel_rfl) (by kernel_rfl) fun x hx hσ => ?_
  (repeat refine awp_seq ?_); refine awp_reg1 (by rw [hx]; kernel_rfl) fun K hK => ?_; simp (maxSteps := 1000000) [ty25]; refine hK _ ?_; clear hK K; (first | show AWP _ _ _ _ _ | show ∃ _, _ | skip)
  (repeat refine awp_seq ?_); refine awp_reg1 (by rw [hx]; kernel_rfl) fun K hK => ?_; simp (maxSteps := 1000000) [ty25, ty23, ty102, ty44]; refine hK _ ?_; clear hK K; (first | show AWP _ _ _ _ _ | show ∃ _, _ | skip)
  (repeat refine awp_seq ?_); refine awp_ret ?_; refine And.intro (Or.inr rfl) ?_
  simp [retC, resC, viewC, mapO, ty25, wX, yA, yB]

end Go.Proofs.Ytbhbmnofmoibhaa

namespace Go.Proofs.Ytbhbmnofmoibhaa
open Go Go.Abs

set_option maxHeartbeats 8000000

-- what the laws use: the example, what is far, what is the same

def tX : Ti := ⟨wX, 20, false, true, [⟨1000, false, true, [⟨1, 1, 0, 10, 12⟩]⟩, ⟨1000, false, true, [⟨1, -1, 0, 0, 4⟩]⟩, ⟨2000, false, true, [⟨-1, 1, 0, 50, 43⟩]⟩]⟩

theorem example45 : Pure Try.prog 31 [] (encTi tX) := by
  have h := example48
  simp only [encWh, cWh, sWl, cWl, wX, yA, yB, List.map_cons, List.map_nil] at h
  refine pure_of (fn := Try.f31) [.cell 0 28] ⟨Try.func31, rfl, by kernel_rfl⟩ (by kernel_rfl) (by kernel_rfl) (by kernel_rfl) fun x hx hσ => ?_
  (repeat refine awp_seq ?_); refine awp_reg1 (by rw [hx]; kernel_rfl) fun K hK => ?_; simp (maxSteps := 1000000) [ty28]; refine hK _ ?_; clear hK K; (first | show AWP _ _ _ _ _ | show ∃ _, _ | skip)
  (repeat refine awp_seq ?_); refine awp_reg1 (by rw [hx]; kernel_rfl) fun K hK => ?_; simp (maxSteps := 1000000) [ty25]
  refine callP (h) (by first | (simp; done) | (simp [*]; done)) ?_; simp (maxSteps := 1000000) [ty25, ty44]
  refine hK _ ?_; clear hK K; (first | show AWP _ _ _ _ _ | show ∃ _, _ | skip)
  (repeat refine awp_seq ?_); refine awp_reg1 (by rw [hx]; kernel_rfl) fun K hK => ?_; simp (maxSteps := 1000000) [ty25, ty102, ty44, ty46, ty26, ty28]; refine hK _ ?_; clear hK K; (first | show AWP _ _ _ _ _ | show ∃ _, _ | skip)
  (repeat refine awp_seq ?_); refine awp_ret ?_; refine And.intro (Or.inr rfl) ?_
  simp [retC, resC, viewC, mapO, ty28, tX, wX]

theorem tX_len : TiLen tX := ⟨by decide, by decide⟩
theorem tX_open : openT tX true = 0 := by decide +kernel
theorem tX_gains : numsT Tr.area tX true = [3] := by decide +kernel
def cX : Cl := ⟨1000, 4⟩
theorem tX_class : openT tX (classB cX) = 0 := by decide +kernel
theorem tX_cert : certT tX cX = 1 := by decide +kernel
theorem tX_dec : decE tX cX = 0 := by decide +kernel
theorem tX_few : fewestT tX cX = 2 := by decide +kernel
theorem tX_realE : realE tX 2006 = 0 := by decide +kernel

theorem fixTo_one {q : Nat → Bool} {m : Nat} (h : ∀ i, q i = true ↔ i = m) : ∀ n, fixTo q n = if m < n then [(m : Int)] else []
  | 0 => by simp
  | n + 1 => by
    have ih := fixTo_one h n
    simp only [fixTo, ih]
    by_cases hq : q n = true
    · have := (h n).1 hq
      subst this
      rw [if_pos hq, if_neg (by omega), if_pos (by omega)]
      rfl
    · have hne : n ≠ m := fun e => hq ((h n).2 e)
      rw [if_neg hq]
      by_cases hm : m < n
      · rw [if_pos hm, if_pos (by omega)]
      · rw [if_neg hm, if_neg (by omega)]

theorem tX_real : realL tX 2006 = [2000] := by
  unfold realL
  rw [if_pos tX_realE, tX_gains, fixTo_one (m := 2000)]
  · rfl
  · intro i
    simp only [List.any_cons, List.any_nil, Bool.or_false, beq_iff_eq, seenA]
    omega

theorem works9 : Pure Try.prog 9 [] (.bool true) := by
  have h45 := example45
  have hG := gains22 tX tX_len
  rw [tX_open, tX_gains] at hG
  have hC := certify11 tX cX tX_len
  rw [tX_class, tX_cert] at hC
  have hF := fewest38 tX cX tX_len
  rw [tX_dec, tX_few] at hF
  have hR := real15 tX 2006 tX_len
  rw [tX_realE, tX_real] at hR
  have s1 := same29 false false false true [3] [3] (by decide) (by decide)
  have s2 := same29 false false false true [2000] [2000] (by decide) (by decide)
  simp only [decide_true] at s1 s2
  have e0 : ((0 : Int) != 0) = false := by decide
  simp only [slI, List.map_cons, List.map_nil, List.isEmpty_cons, cI, e0] at hG hR s1 s2
  simp only [cX] at hC hF
  generalize tX = t at *
  refine pure_of (fn := Try.f9) [.tmp 0] ⟨Try.func9, rfl, by kernel_rfl⟩ (by kernel_rfl) (by kernel_rfl) (by kernel_rfl) fun x hx hσ => ?_
  (repeat refine awp_seq ?_); refine awp_reg1 (by rw [hx]; kernel_rfl) fun K hK => ?_; simp (maxSteps := 1000000) []; refine hK _ ?_; clear hK K; (first | show AWP _ _ _ _ _ | show ∃ _, _ | skip)
  (repeat refine awp_seq ?_); refine awp_reg1 (by rw [hx]; kernel_rfl) fun K hK => ?_; simp (maxSteps := 1000000) [ty28]
  refine callP (h45) (by first | (simp; done) | (simp [*]; done)) ?_; simp (maxSteps := 1000000) [ty28]
  refine hK _ ?_; clear hK K; (first | show AWP _ _ _ _ _ | show ∃ _, _ | skip)
  (repeat refine awp_seq ?_); refine awp_reg1 (by rw [hx]; kernel_rfl) fun K hK => ?_; simp (maxSteps := 1000000) [ty28]
  refine callP (hG) (by first | (simp; done) | (simp [*]; done)) ?_; simp (maxSteps := 1000000) [ty49]
  refine hK _ ?_; clear hK K; (first | show AWP _ _ _ _ _ | show ∃ _, _ | skip)
  (repeat refine awp_seq ?_); refine awp_reg1 (by rw [hx]; kernel_rfl) fun K hK => ?_; simp (maxSteps := 1000000) [ty28, ty30]
  refine callP (hC) (by first | (simp; done) | (simp [*]; done)) ?_; simp (maxSteps := 1000000) []
  refine hK _ ?_; clear hK K; (first | show AWP _ _ _ _ _ | show ∃ _, _ | skip)
  (repeat refine awp_seq ?_); refine awp_reg1 (by rw [hx]; kernel_rfl) fun K hK => ?_; simp (maxSteps := 1000000) [ty28, ty30]
  refine callP (hF) (by first | (simp; done) | (simp [*]; done)) ?_; simp (maxSteps := 1000000) []
  refine hK _ ?_; clear hK K; (first | show AWP _ _ _ _ _ | show ∃ _, _ | skip)
  (repeat refine awp_seq ?_); refine awp_reg1 (by rw [hx]; kernel_rfl) fun K hK => ?_; simp (maxSteps := 1000000) [ty28]
  refine callP (hR) (by first | (simp; done) | (simp [*]; done)) ?_; simp (maxSteps := 1000000) [ty49]
  refine hK _ ?_; clear hK K; (first | show AWP _ _ _ _ _ | show ∃ _, _ | skip)
  (repeat refine awp_seq ?_); refine awp_reg1 (by rw [hx]; kernel_rfl) fun K hK => ?_; simp (maxSteps := 1000000) [ty34, ty49, ty3, ty4]
  refine callP (s1) (by first | (simp; done) | (simp [*]; done)) ?_; simp (maxSteps := 1000000) [ty34, ty49, ty3, ty4]
  refine callP (s2) (by first | (simp; done) | (simp [*]; done)) ?_; simp (maxSteps := 1000000) [ty34, ty49, ty3, ty4]
  refine hK _ ?_; clear hK K; (first | show AWP _ _ _ _ _ | show ∃ _, _ | skip)
  (repeat refine awp_seq ?_); refine awp_ret ?_; refine And.intro (Or.inr rfl) ?_
  simp [retC, resC, viewC, mapO]

end Go.Proofs.Ytbhbmnofmoibhaa

namespace Go.Proofs.Ytbhbmnofmoibhaa
open Go Go.Abs

set_option maxHeartbeats 8000000

theorem least_ex {p : Nat → Prop} (h : ∃ n, p n) : ∃ n, p n ∧ ∀ m, m < n → ¬ p m := by
  obtain ⟨n, hn⟩ := h
  induction n using Nat.strongRecOn with
  | ind n ih =>
    by_cases g : ∃ m, m < n ∧ p m
    · obtain ⟨m, hm, hp⟩ := g
      exact ih m hm hp
    · exact ⟨n, hn, fun m hm hp => g ⟨m, hm, hp⟩⟩

def mxTo (l : List Ts) : Nat → Int
  | 0 => 0
  | i + 1 => let m := mxTo l i; let n : Int := match l[i]? with | some y => y.l.length | none => 0; if m < n then n else m

theorem mxTo_step {l : List Ts} {i : Nat} (hi : i < l.length) : mxTo l (i + 1) = if mxTo l i < (l[i].l.length : Int) then (l[i].l.length : Int) else mxTo l i := by
  simp only [mxTo, List.getElem?_eq_getElem hi]
theorem mxTo_bd {l : List Ts} (h : ∀ j (hj : j < l.length), l[j].l.length ≤ 20) : ∀ i, 0 ≤ mxTo l i ∧ mxTo l i ≤ 20
  | 0 => by simp [mxTo]
  | i + 1 => by
    have ih := mxTo_bd h i
    by_cases hi : i < l.length
    · have := h i hi
      rw [mxTo_step hi]
      split <;> omega
    · simp only [mxTo, List.getElem?_eq_none (by omega : l.length ≤ i)]
      split <;> omega


/-- What is far enough. -/
def NearT (t : Ti) : Prop := t.ts.length ≤ 20 ∧ ∀ y ∈ t.ts, y.l.length ≤ 20

theorem far8 (t : Ti) : ∃ b, Pure Try.prog 27 [encTi t] (.bool b) ∧ (b = false → NearT t) := by
  by_cases h20 : (20 : Int) < t.ts.length
  · refine ⟨true, ?_, by simp⟩
    refine pure_of (fn := Try.f27) [.tmp 2] ⟨Try.func27, rfl, by kernel_rfl⟩ (by kernel_rfl) (by kernel_rfl) (by kernel_rfl) fun x hx hσ => ?_
    (repeat refine awp_seq ?_); refine awp_reg1 (by rw [hx]; kernel_rfl) fun K hK => ?_; simp (maxSteps := 1000000) [ty28]; refine hK _ ?_; clear hK K; (first | show AWP _ _ _ _ _ | show ∃ _, _ | skip)
    (repeat refine awp_seq ?_); refine awp_reg1 (by rw [hx]; kernel_rfl) fun K hK => ?_; simp (maxSteps := 1000000) [ty28, ty26, ty3, h20]; refine hK _ ?_; clear hK K; (first | show AWP _ _ _ _ _ | show ∃ _, _ | skip)
    (repeat refine awp_seq ?_); refine awp_cond (by simp [h20]; rfl) (by rw [hx]; simp) (fun hd => ?_) (fun hd => ?_)
    · clear hd
      (repeat refine awp_seq ?_); refine awp_reg1 (by rw [hx]; kernel_rfl) fun K hK => ?_; simp (maxSteps := 1000000) []; refine hK _ ?_; clear hK K; (first | show AWP _ _ _ _ _ | show ∃ _, _ | skip)
      (repeat refine awp_seq ?_); refine awp_ret ?_; refine And.intro (Or.inr rfl) ?_
      simp [retC, resC, viewC, mapO]
    · simp at hd
  · by_cases hall : ∀ j (hj : j < t.ts.length), t.ts[j].l.length ≤ 20
    · have hl : TiLen t := ⟨by omega, fun y hy => by
        obtain ⟨j, hj, rfl⟩ := List.getElem_of_mem hy
        have := hall j hj; omega⟩
      have hnear : NearT t := ⟨by omega, fun y hy => by
        obtain ⟨j, hj, rfl⟩ := List.getElem_of_mem hy
        exact hall j hj⟩
      have hmb := mxTo_bd hall
      obtain ⟨M, hM⟩ : ∃ M, (if (if t.w.read < t.w.slip then t.w.slip else t.w.read) < t.w.skew then t.w.skew else if t.w.read < t.w.slip then t.w.slip else t.w.read) = M := ⟨_, rfl⟩
      by_cases hz : checkT t = 0
      · refine ⟨decide (2 < M) || decide (120 < t.w.full) || decide (6 < t.gain) || decide (4 < (t.ts.length : Int)) || decide (2 < mxTo t.ts t.ts.length), ?_, fun _ => hnear⟩
        refine pure_of (fn := Try.f27) [.tmp 2] ⟨Try.func27, rfl, by kernel_rfl⟩ (by kernel_rfl) (by kernel_rfl) (by kernel_rfl) fun x hx hσ => ?_
        (repeat refine awp_seq ?_); refine awp_reg1 (by rw [hx]; kernel_rfl) fun K hK => ?_; simp (maxSteps := 1000000) [ty28]; refine hK _ ?_; clear hK K; (first | show AWP _ _ _ _ _ | show ∃ _, _ | skip)
        (repeat refine awp_seq ?_); refine awp_reg1 (by rw [hx]; kernel_rfl) fun K hK => ?_; simp (maxSteps := 1000000) [ty28, ty26, ty3, h20]; refine hK _ ?_; clear hK K; (first | show AWP _ _ _ _ _ | show ∃ _, _ | skip)
        (repeat refine awp_seq ?_); refine awp_cond (by simp [h20]; rfl) (by rw [hx]; simp) (fun hd => ?_) (fun hd => ?_)
        · simp at hd
        · clear hd
          refine awp_skip ?_; (first | show AWP _ _ _ _ _ | show ∃ _, _ | skip)
          (repeat refine awp_seq ?_); refine awp_reg1 (by rw [hx]; kernel_rfl) fun K hK => ?_; simp (maxSteps := 1000000) []; refine hK _ ?_; clear hK K; (first | show AWP _ _ _ _ _ | show ∃ _, _ | skip)
          (repeat refine awp_seq ?_); refine awp_reg1 (by rw [hx]; kernel_rfl) fun K hK => ?_; simp (maxSteps := 1000000) []; refine hK _ ?_; clear hK K; (first | show AWP _ _ _ _ _ | show ∃ _, _ | skip)
          (repeat refine awp_seq ?_); refine awp_block ?_
          refine awp_loop (fun i : Nat => ⟨ofL [(1, .ptr 1 10 0 0), (3, encI (mxTo t.ts i)), (4, encI i)], stoT [(1, 1, .live (obTi t))]⟩)
            (fun i => i ≤ t.ts.length) (fun i => t.ts.length - i) 0 (Nat.zero_le _) ?_ ?_
          · refine wk_shape (shp0 hσ (by simp) (by simp) ?_) ?_
            · simp [SlotOk, mxTo] <;> (repeat' (first | (refine RowsOk.same ?_; simp [purel, C.isPure]; done) | (refine rowsCons ?_; simp [mtl, mtc, mT, mH, C.isPure, purel]; done) | (refine rowsCons ?_; simp [mtl, mtc, mT, mH, C.isPure, purel]) | refine And.intro ?_ ?_))
            · simp [mtc, mtl, mT, C.isPure, purel, mxTo] <;> (try simp (disch := omega) [wrap_id]) <;> (try omega)
          · intro i hi
            (repeat refine awp_seq ?_); refine awp_reg1 (by rw [hx]; kernel_rfl) fun K hK => ?_; simp (maxSteps := 1000000) [ty28, ty26, ty3]; refine hK _ ?_; clear hK K; (first | show AWP _ _ _ _ _ | show ∃ _, _ | skip)
            (repeat refine awp_seq ?_); refine awp_cond (by simp; rfl) (by rw [hx]; simp) (fun hc => ?_) (fun hc => ?_)
            · simp at hc
              refine awp_skip ?_; (first | show AWP _ _ _ _ _ | show ∃ _, _ | skip)
              (repeat refine awp_seq ?_); refine awp_block ?_
              have hst := mxTo_step hc
              have hx20 : ¬ (20 : Int) < (t.ts[i].l.length : Int) := by have := hall i hc; omega
              have hwi : IntKind.i64.wrap ((i : Int) + 1) = ((i + 1 : Nat) : Int) := by rw [wrap_id (by omega) (by omega)]; rfl
              (repeat refine awp_seq ?_); refine awp_reg1 (by rw [hx]; kernel_rfl) fun K hK => ?_; simp (maxSteps := 1000000) [ty28, ty26, ty46, ty44, ty3, hc, hx20]; refine hK _ ?_; clear hK K; (first | show AWP _ _ _ _ _ | show ∃ _, _ | skip)
              (repeat refine awp_seq ?_); refine awp_cond (by simp [hx20]; rfl) (by rw [hx]; simp) (fun hd => ?_) (fun hd => ?_)
              · simp [hx20] at hd
              · clear hd
                refine awp_skip ?_; (first | show AWP _ _ _ _ _ | show ∃ _, _ | skip)
                (repeat refine awp_seq ?_); refine awp_reg1 (by rw [hx]; kernel_rfl) fun K hK => ?_; simp (maxSteps := 1000000) [ty28, ty26, ty46, ty44, ty3, hc]; refine hK _ ?_; clear hK K; (first | show AWP _ _ _ _ _ | show ∃ _, _ | skip)
                (repeat refine awp_seq ?_); refine awp_reg1 (by rw [hx]; kernel_rfl) fun K hK => ?_; simp (maxSteps := 1000000) [ty3]; refine hK _ ?_; clear hK K; (first | show AWP _ _ _ _ _ | show ∃ _, _ | skip)
                refine ⟨i + 1, by omega, by omega, ?_⟩
                rw [hst, hwi]
                refine wk_shape (shp0 hσ (by simp) (by simp) ?_) ?_
                · simp [SlotOk] <;> (repeat' (first | (refine RowsOk.same ?_; simp [purel, C.isPure]; done) | (refine rowsCons ?_; simp [mtl, mtc, mT, mH, C.isPure, purel]; done) | (refine rowsCons ?_; simp [mtl, mtc, mT, mH, C.isPure, purel]) | refine And.intro ?_ ?_))
                · simp [mtc, mtl, mT, C.isPure, purel] <;> (try simp (disch := omega) [wrap_id]) <;> (try omega)
            · simp at hc
              (repeat refine awp_seq ?_); refine awp_exit ?_; (first | show AWP _ _ _ _ _ | show ∃ _, _ | skip)
              have hin : i = t.ts.length := by omega
              rw [hin]
              generalize mxTo t.ts t.ts.length = X at *
              by_cases h1 : 2 < M
              · (repeat refine awp_seq ?_); refine awp_reg1 (by rw [hx]; kernel_rfl) fun K hK => ?_; simp (maxSteps := 1000000) [ty28]
                refine callP (q_check30 t hl) (by first | (simp; done) | (simp [*]; done)) ?_; simp (maxSteps := 1000000) [ty34, hz, ty3, ty28, ty25, ty26, hM, h1]
                refine hK _ ?_; clear hK K; (first | show AWP _ _ _ _ _ | show ∃ _, _ | skip)
                (repeat refine awp_seq ?_); refine awp_ret ?_; refine And.intro (Or.inr rfl) ?_
                simp [retC, resC, viewC, mapO, h1]
              · by_cases h2 : 120 < t.w.full
                · (repeat refine awp_seq ?_); refine awp_reg1 (by rw [hx]; kernel_rfl) fun K hK => ?_; simp (maxSteps := 1000000) [ty28]
                  refine callP (q_check30 t hl) (by first | (simp; done) | (simp [*]; done)) ?_; simp (maxSteps := 1000000) [ty34, hz, ty3, ty28, ty25, ty26, hM, h1, h2]
                  refine hK _ ?_; clear hK K; (first | show AWP _ _ _ _ _ | show ∃ _, _ | skip)
                  (repeat refine awp_seq ?_); refine awp_ret ?_; refine And.intro (Or.inr rfl) ?_
                  simp [retC, resC, viewC, mapO, h1, h2]
                · by_cases h3 : 6 < t.gain
                  · (repeat refine awp_seq ?_); refine awp_reg1 (by rw [hx]; kernel_rfl) fun K hK => ?_; simp (maxSteps := 1000000) [ty28]
                    refine callP (q_check30 t hl) (by first | (simp; done) | (simp [*]; done)) ?_; simp (maxSteps := 1000000) [ty34, hz, ty3, ty28, ty25, ty26, hM, h1, h2, h3]
                    refine hK _ ?_; clear hK K; (first | show AWP _ _ _ _ _ | show ∃ _, _ | skip)
                    (repeat refine awp_seq ?_); refine awp_ret ?_; refine And.intro (Or.inr rfl) ?_
                    simp [retC, resC, viewC, mapO, h1, h2, h3]
                  · by_cases h4 : (4 : Int) < (t.ts.length : Int)
                    · (repeat refine awp_seq ?_); refine awp_reg1 (by rw [hx]; kernel_rfl) fun K hK => ?_; simp (maxSteps := 1000000) [ty28]
                      refine callP (q_check30 t hl) (by first | (simp; done) | (simp [*]; done)) ?_; simp (maxSteps := 1000000) [ty34, hz, ty3, ty28, ty25, ty26, hM, h1, h2, h3, h4]
                      refine hK _ ?_; clear hK K; (first | show AWP _ _ _ _ _ | show ∃ _, _ | skip)
                      (repeat refine awp_seq ?_); refine awp_ret ?_; refine And.intro (Or.inr rfl) ?_
                      simp [retC, resC, viewC, mapO, h1, h2, h3, h4]
                    · by_cases h5 : 2 < X
                      · (repeat refine awp_seq ?_); refine awp_reg1 (by rw [hx]; kernel_rfl) fun K hK => ?_; simp (maxSteps := 1000000) [ty28]
                        refine callP (q_check30 t hl) (by first | (simp; done) | (simp [*]; done)) ?_; simp (maxSteps := 1000000) [ty34, hz, ty3, ty28, ty25, ty26, hM, h1, h2, h3, h4, h5]
                        refine hK _ ?_; clear hK K; (first | show AWP _ _ _ _ _ | show ∃ _, _ | skip)
                        (repeat refine awp_seq ?_); refine awp_ret ?_; refine And.intro (Or.inr rfl) ?_
                        simp [retC, resC, viewC, mapO, h1, h2, h3, h4, h5]
                      · (repeat refine awp_seq ?_); refine awp_reg1 (by rw [hx]; kernel_rfl) fun K hK => ?_; simp (maxSteps := 1000000) [ty28]
                        refine callP (q_check30 t hl) (by first | (simp; done) | (simp [*]; done)) ?_; simp (maxSteps := 1000000) [ty34, hz, ty3, ty28, ty25, ty26, hM, h1, h2, h3, h4, h5]
                        refine hK _ ?_; clear hK K; (first | show AWP _ _ _ _ _ | show ∃ _, _ | skip)
                        (repeat refine awp_seq ?_); refine awp_ret ?_; refine And.intro (Or.inr rfl) ?_
                        simp [retC, resC, viewC, mapO, h1, h2, h3, h4, h5]
      · refine ⟨false, ?_, fun _ => hnear⟩
        have hz' : (checkT t == 0) = false := by simpa using hz
        refine pure_of (fn := Try.f27) [.tmp 2] ⟨Try.func27, rfl, by kernel_rfl⟩ (by kernel_rfl) (by kernel_rfl) (by kernel_rfl) fun x hx hσ => ?_
        (repeat refine awp_seq ?_); refine awp_reg1 (by rw [hx]; kernel_rfl) fun K hK => ?_; simp (maxSteps := 1000000) [ty28]; refine hK _ ?_; clear hK K; (first | show AWP _ _ _ _ _ | show ∃ _, _ | skip)
        (repeat refine awp_seq ?_); refine awp_reg1 (by rw [hx]; kernel_rfl) fun K hK => ?_; simp (maxSteps := 1000000) [ty28, ty26, ty3, h20]; refine hK _ ?_; clear hK K; (first | show AWP _ _ _ _ _ | show ∃ _, _ | skip)
        (repeat refine awp_seq ?_); refine awp_cond (by simp [h20]; rfl) (by rw [hx]; simp) (fun hd => ?_) (fun hd => ?_)
        · simp at hd
        · clear hd
          refine awp_skip ?_; (first | show AWP _ _ _ _ _ | show ∃ _, _ | skip)
          (repeat refine awp_seq ?_); refine awp_reg1 (by rw [hx]; kernel_rfl) fun K hK => ?_; simp (maxSteps := 1000000) []; refine hK _ ?_; clear hK K; (first | show AWP _ _ _ _ _ | show ∃ _, _ | skip)
          (repeat refine awp_seq ?_); refine awp_reg1 (by rw [hx]; kernel_rfl) fun K hK => ?_; simp (maxSteps := 1000000) []; refine hK _ ?_; clear hK K; (first | show AWP _ _ _ _ _ | show ∃ _, _ | skip)
          (repeat refine awp_seq ?_); refine awp_block ?_
          refine awp_loop (fun i : Nat => ⟨ofL [(1, .ptr 1 10 0 0), (3, encI (mxTo t.ts i)), (4, encI i)], stoT [(1, 1, .live (obTi t))]⟩)
            (fun i => i ≤ t.ts.length) (fun i => t.ts.length - i) 0 (Nat.zero_le _) ?_ ?_
          · refine wk_shape (shp0 hσ (by simp) (by simp) ?_) ?_
            · simp [SlotOk, mxTo] <;> (repeat' (first | (refine RowsOk.same ?_; simp [purel, C.isPure]; done) | (refine rowsCons ?_; simp [mtl, mtc, mT, mH, C.isPure, purel]; done) | (refine rowsCons ?_; simp [mtl, mtc, mT, mH, C.isPure, purel]) | refine And.intro ?_ ?_))
            · simp [mtc, mtl, mT, C.isPure, purel, mxTo] <;> (try simp (disch := omega) [wrap_id]) <;> (try omega)
          · intro i hi
            (repeat refine awp_seq ?_); refine awp_reg1 (by rw [hx]; kernel_rfl) fun K hK => ?_; simp (maxSteps := 1000000) [ty28, ty26, ty3]; refine hK _ ?_; clear hK K; (first | show AWP _ _ _ _ _ | show ∃ _, _ | skip)
            (repeat refine awp_seq ?_); refine awp_cond (by simp; rfl) (by rw [hx]; simp) (fun hc => ?_) (fun hc => ?_)
            · simp at hc
              refine awp_skip ?_; (first | show AWP _ _ _ _ _ | show ∃ _, _ | skip)
              (repeat refine awp_seq ?_); refine awp_block ?_
              have hst := mxTo_step hc
              have hx20 : ¬ (20 : Int) < (t.ts[i].l.length : Int) := by have := hall i hc; omega
              have hwi : IntKind.i64.wrap ((i : Int) + 1) = ((i + 1 : Nat) : Int) := by rw [wrap_id (by omega) (by omega)]; rfl
              (repeat refine awp_seq ?_); refine awp_reg1 (by rw [hx]; kernel_rfl) fun K hK => ?_; simp (maxSteps := 1000000) [ty28, ty26, ty46, ty44, ty3, hc, hx20]; refine hK _ ?_; clear hK K; (first | show AWP _ _ _ _ _ | show ∃ _, _ | skip)
              (repeat refine awp_seq ?_); refine awp_cond (by simp [hx20]; rfl) (by rw [hx]; simp) (fun hd => ?_) (fun hd => ?_)
              · simp [hx20] at hd
              · clear hd
                refine awp_skip ?_; (first | show AWP _ _ _ _ _ | show ∃ _, _ | skip)
                (repeat refine awp_seq ?_); refine awp_reg1 (by rw [hx]; kernel_rfl) fun K hK => ?_; simp (maxSteps := 1000000) [ty28, ty26, ty46, ty44, ty3, hc]; refine hK _ ?_; clear hK K; (first | show AWP _ _ _ _ _ | show ∃ _, _ | skip)
                (repeat refine awp_seq ?_); refine awp_reg1 (by rw [hx]; kernel_rfl) fun K hK => ?_; simp (maxSteps := 1000000) [ty3]; refine hK _ ?_; clear hK K; (first | show AWP _ _ _ _ _ | show ∃ _, _ | skip)
                refine ⟨i + 1, by omega, by omega, ?_⟩
                rw [hst, hwi]
                refine wk_shape (shp0 hσ (by simp) (by simp) ?_) ?_
                · simp [SlotOk] <;> (repeat' (first | (refine RowsOk.same ?_; simp [purel, C.isPure]; done) | (refine rowsCons ?_; simp [mtl, mtc, mT, mH, C.isPure, purel]; done) | (refine rowsCons ?_; simp [mtl, mtc, mT, mH, C.isPure, purel]) | refine And.intro ?_ ?_))
                · simp [mtc, mtl, mT, C.isPure, purel] <;> (try simp (disch := omega) [wrap_id]) <;> (try omega)
            · simp at hc
              (repeat refine awp_seq ?_); refine awp_exit ?_; (first | show AWP _ _ _ _ _ | show ∃ _, _ | skip)
              (repeat refine awp_seq ?_); refine awp_reg1 (by rw [hx]; kernel_rfl) fun K hK => ?_; simp (maxSteps := 1000000) [ty28]
              refine callP (q_check30 t hl) (by first | (simp; done) | (simp [*]; done)) ?_; simp (maxSteps := 1000000) [ty34, hz', ty3, ty28]
              refine hK _ ?_; clear hK K; (first | show AWP _ _ _ _ _ | show ∃ _, _ | skip)
              (repeat refine awp_seq ?_); refine awp_ret ?_; refine And.intro (Or.inr rfl) ?_
              simp [retC, resC, viewC, mapO]
    · refine ⟨true, ?_, by simp⟩
      obtain ⟨J, hJ, hJl, hJm⟩ : ∃ J, ∃ hJ : J < t.ts.length, 20 < t.ts[J].l.length ∧ ∀ j (hj : j < t.ts.length), j < J → t.ts[j].l.length ≤ 20 := by
        have hex : ∃ J, ∃ hJ : J < t.ts.length, 20 < t.ts[J].l.length := by
          refine Classical.byContradiction fun h => hall fun j hj => ?_
          exact Classical.byContradiction fun g => h ⟨j, hj, by omega⟩
        obtain ⟨J, ⟨hJ, hJ20⟩, hmin⟩ := least_ex hex
        refine ⟨J, hJ, hJ20, fun j hj hlt => ?_⟩
        exact Classical.byContradiction fun g => hmin j hlt ⟨hj, by omega⟩
      refine pure_of (fn := Try.f27) [.tmp 2] ⟨Try.func27, rfl, by kernel_rfl⟩ (by kernel_rfl) (by kernel_rfl) (by kernel_rfl) fun x hx hσ => ?_
      (repeat refine awp_seq ?_); refine awp_reg1 (by rw [hx]; kernel_rfl) fun K hK => ?_; simp (maxSteps := 1000000) [ty28]; refine hK _ ?_; clear hK K; (first | show AWP _ _ _ _ _ | show ∃ _, _ | skip)
      (repeat refine awp_seq ?_); refine awp_reg1 (by rw [hx]; kernel_rfl) fun K hK => ?_; simp (maxSteps := 1000000) [ty28, ty26, ty3, h20]; refine hK _ ?_; clear hK K; (first | show AWP _ _ _ _ _ | show ∃ _, _ | skip)
      (repeat refine awp_seq ?_); refine awp_cond (by simp [h20]; rfl) (by rw [hx]; simp) (fun hd => ?_) (fun hd => ?_)
      · simp at hd
      · clear hd
        refine awp_skip ?_; (first | show AWP _ _ _ _ _ | show ∃ _, _ | skip)
        (repeat refine awp_seq ?_); refine awp_reg1 (by rw [hx]; kernel_rfl) fun K hK => ?_; simp (maxSteps := 1000000) []; refine hK _ ?_; clear hK K; (first | show AWP _ _ _ _ _ | show ∃ _, _ | skip)
        (repeat refine awp_seq ?_); refine awp_reg1 (by rw [hx]; kernel_rfl) fun K hK => ?_; simp (maxSteps := 1000000) []; refine hK _ ?_; clear hK K; (first | show AWP _ _ _ _ _ | show ∃ _, _ | skip)
        (repeat refine awp_seq ?_); refine awp_block ?_
        refine awp_loop (fun i : Nat => ⟨ofL [(1, .ptr 1 10 0 0), (3, encI (mxTo t.ts i)), (4, encI i)], stoT [(1, 1, .live (obTi t))]⟩)
          (fun i => i ≤ J) (fun i => J - i) 0 (Nat.zero_le _) ?_ ?_
        · refine wk_shape (shp0 hσ (by simp) (by simp) ?_) ?_
          · simp [SlotOk, mxTo] <;> (repeat' (first | (refine RowsOk.same ?_; simp [purel, C.isPure]; done) | (refine rowsCons ?_; simp [mtl, mtc, mT, mH, C.isPure, purel]; done) | (refine rowsCons ?_; simp [mtl, mtc, mT, mH, C.isPure, purel]) | refine And.intro ?_ ?_))
          · simp [mtc, mtl, mT, C.isPure, purel, mxTo] <;> (try simp (disch := omega) [wrap_id]) <;> (try omega)
        · intro i hi
          have hc : i < t.ts.length := by omega
          (repeat refine awp_seq ?_); refine awp_reg1 (by rw [hx]; kernel_rfl) fun K hK => ?_; simp (maxSteps := 1000000) [ty28, ty26, ty3, hc]; refine hK _ ?_; clear hK K; (first | show AWP _ _ _ _ _ | show ∃ _, _ | skip)
          (repeat refine awp_seq ?_); refine awp_cond (by simp; rfl) (by rw [hx]; simp) (fun hd => ?_) (fun hd => ?_)
          · refine awp_skip ?_; (first | show AWP _ _ _ _ _ | show ∃ _, _ | skip)
            (repeat refine awp_seq ?_); refine awp_block ?_
            by_cases hiJ : i = J
            · have hx20 : (20 : Int) < (t.ts[i].l.length : Int) := by subst hiJ; omega
              (repeat refine awp_seq ?_); refine awp_reg1 (by rw [hx]; kernel_rfl) fun K hK => ?_; simp (maxSteps := 1000000) [ty28, ty26, ty46, ty44, ty3, hc, hx20]; refine hK _ ?_; clear hK K; (first | show AWP _ _ _ _ _ | show ∃ _, _ | skip)
              (repeat refine awp_seq ?_); refine awp_cond (by simp [hx20]; rfl) (by rw [hx]; simp) (fun hd => ?_) (fun hd => ?_)
              · clear hd
                (repeat refine awp_seq ?_); refine awp_reg1 (by rw [hx]; kernel_rfl) fun K hK => ?_; simp (maxSteps := 1000000) []; refine hK _ ?_; clear hK K; (first | show AWP _ _ _ _ _ | show ∃ _, _ | skip)
                (repeat refine awp_seq ?_); refine awp_ret ?_; refine And.intro (Or.inr rfl) ?_
                simp [retC, resC, viewC, mapO]
              · simp [hx20] at hd
            · have hst := mxTo_step hc
              have hx20 : ¬ (20 : Int) < (t.ts[i].l.length : Int) := by have := hJm i hc (by omega); omega
              have hwi : IntKind.i64.wrap ((i : Int) + 1) = ((i + 1 : Nat) : Int) := by rw [wrap_id (by omega) (by omega)]; rfl
              (repeat refine awp_seq ?_); refine awp_reg1 (by rw [hx]; kernel_rfl) fun K hK => ?_; simp (maxSteps := 1000000) [ty28, ty26, ty46, ty44, ty3, hc, hx20]; refine hK _ ?_; clear hK K; (first | show AWP _ _ _ _ _ | show ∃ _, _ | skip)
              (repeat refine awp_seq ?_); refine awp_cond (by simp [hx20]; rfl) (by rw [hx]; simp) (fun hd => ?_) (fun hd => ?_)
              · simp [hx20] at hd
              · clear hd
                refine awp_skip ?_; (first | show AWP _ _ _ _ _ | show ∃ _, _ | skip)
                (repeat refine awp_seq ?_); refine awp_reg1 (by rw [hx]; kernel_rfl) fun K hK => ?_; simp (maxSteps := 1000000) [ty28, ty26, ty46, ty44, ty3, hc]; refine hK _ ?_; clear hK K; (first | show AWP _ _ _ _ _ | show ∃ _, _ | skip)
                (repeat refine awp_seq ?_); refine awp_reg1 (by rw [hx]; kernel_rfl) fun K hK => ?_; simp (maxSteps := 1000000) [ty3]; refine hK _ ?_; clear hK K; (first | show AWP _ _ _ _ _ | show ∃ _, _ | skip)
                refine ⟨i + 1, by omega, by omega, ?_⟩
                rw [hst, hwi]
                refine wk_shape (shp0 hσ (by simp) (by simp) ?_) ?_
                · simp [SlotOk] <;> (repeat' (first | (refine RowsOk.same ?_; simp [purel, C.isPure]; done) | (refine rowsCons ?_; simp [mtl, mtc, mT, mH, C.isPure, purel]; done) | (refine rowsCons ?_; simp [mtl, mtc, mT, mH, C.isPure, purel]) | refine And.intro ?_ ?_))
                · simp [mtc, mtl, mT, C.isPure, purel] <;> (try simp (disch := omega) [wrap_id]) <;> (try omega)
          · exact absurd hd (by simp [hc])

theorem NearT.len {t : Ti} (h : NearT t) : TiLen t := ⟨by have := h.1; omega, fun y hy => by have := h.2 y hy; omega⟩

theorem ready19 (t : Ti) : ∃ b, Pure Try.prog 7 [encTi t] (.bool b) ∧ (b = true → checkT t = 0 ∧ NearT t) := by
  obtain ⟨f, hF, hf⟩ := far8 t
  cases f
  · have hn := hf rfl
    by_cases hz : checkT t = 0
    · refine ⟨true, ?_, fun _ => ⟨hz, hn⟩⟩
      refine pure_of (fn := Try.f7) [.tmp 2] ⟨Try.func7, rfl, by kernel_rfl⟩ (by kernel_rfl) (by kernel_rfl) (by kernel_rfl) fun x hx hσ => ?_
      (repeat refine awp_seq ?_); refine awp_reg1 (by rw [hx]; kernel_rfl) fun K hK => ?_; simp (maxSteps := 1000000) [ty28]; refine hK _ ?_; clear hK K; (first | show AWP _ _ _ _ _ | show ∃ _, _ | skip)
      (repeat refine awp_seq ?_); refine awp_reg1 (by rw [hx]; kernel_rfl) fun K hK => ?_; simp (maxSteps := 1000000) [ty28]
      refine callP (hF) (by first | (simp; done) | (simp [*]; done)) ?_; simp (maxSteps := 1000000) [ty4, ty28]
      refine callP (q_check30 t hn.len) (by first | (simp; done) | (simp [*]; done)) ?_; simp (maxSteps := 1000000) [ty34, hz, ty4]
      refine hK _ ?_; clear hK K; (first | show AWP _ _ _ _ _ | show ∃ _, _ | skip)
      (repeat refine awp_seq ?_); refine awp_ret ?_; refine And.intro (Or.inr rfl) ?_
      simp [retC, resC, viewC, mapO]
    · refine ⟨false, ?_, by simp⟩
      have hz' : (checkT t == 0) = false := by simpa using hz
      refine pure_of (fn := Try.f7) [.tmp 2] ⟨Try.func7, rfl, by kernel_rfl⟩ (by kernel_rfl) (by kernel_rfl) (by kernel_rfl) fun x hx hσ => ?_
      (repeat refine awp_seq ?_); refine awp_reg1 (by rw [hx]; kernel_rfl) fun K hK => ?_; simp (maxSteps := 1000000) [ty28]; refine hK _ ?_; clear hK K; (first | show AWP _ _ _ _ _ | show ∃ _, _ | skip)
      (repeat refine awp_seq ?_); refine awp_reg1 (by rw [hx]; kernel_rfl) fun K hK => ?_; simp (maxSteps := 1000000) [ty28]
      refine callP (hF) (by first | (simp; done) | (simp [*]; done)) ?_; simp (maxSteps := 1000000) [ty4, ty28]
      refine callP (q_check30 t hn.len) (by first | (simp; done) | (simp [*]; done)) ?_; simp (maxSteps := 1000000) [ty34, ty4]
      refine hK _ ?_; clear hK K; (first | show AWP _ _ _ _ _ | show ∃ _, _ | skip)
      (repeat refine awp_seq ?_); refine awp_ret ?_; refine And.intro (Or.inr rfl) ?_
      simp [retC, resC, viewC, mapO, hz']
  · refine ⟨false, ?_, by simp⟩
    refine pure_of (fn := Try.f7) [.tmp 2] ⟨Try.func7, rfl, by kernel_rfl⟩ (by kernel_rfl) (by kernel_rfl) (by kernel_rfl) fun x hx hσ => ?_
    (repeat refine awp_seq ?_); refine awp_reg1 (by rw [hx]; kernel_rfl) fun K hK => ?_; simp (maxSteps := 1000000) [ty28]; refine hK _ ?_; clear hK K; (first | show AWP _ _ _ _ _ | show ∃ _, _ | skip)
    (repeat refine awp_seq ?_); refine awp_reg1 (by rw [hx]; kernel_rfl) fun K hK => ?_; simp (maxSteps := 1000000) [ty28]
    refine callP (hF) (by first | (simp; done) | (simp [*]; done)) ?_; simp (maxSteps := 1000000) [ty4, ty28]
    refine hK _ ?_; clear hK K; (first | show AWP _ _ _ _ _ | show ∃ _, _ | skip)
    (repeat refine awp_seq ?_); refine awp_ret ?_; refine And.intro (Or.inr rfl) ?_
    simp [retC, resC, viewC, mapO]

theorem l_isKnown36 (e : Int) : Pure Try.prog 12 [encI e] (.bool (e == 0 || e == 3)) := by
  refine pure_of (fn := Try.f12) [.tmp 2] ⟨Try.func12, rfl, by kernel_rfl⟩ (by kernel_rfl) (by kernel_rfl) (by kernel_rfl) fun x hx hσ => ?_
  (repeat refine awp_seq ?_); refine awp_reg1 (by rw [hx]; kernel_rfl) fun K hK => ?_; simp (maxSteps := 1000000) []; refine hK _ ?_; clear hK K; (first | show AWP _ _ _ _ _ | show ∃ _, _ | skip)
  cases h : (e == (0 : Int))
  · (repeat refine awp_seq ?_); refine awp_reg1 (by rw [hx]; kernel_rfl) fun K hK => ?_; simp (maxSteps := 1000000) [ty34, h]; refine hK _ ?_; clear hK K; (first | show AWP _ _ _ _ _ | show ∃ _, _ | skip)
    (repeat refine awp_seq ?_); refine awp_ret ?_; refine And.intro (Or.inr rfl) ?_
    simp [retC, resC, viewC, mapO, h]
  · (repeat refine awp_seq ?_); refine awp_reg1 (by rw [hx]; kernel_rfl) fun K hK => ?_; simp (maxSteps := 1000000) [ty34, h]; refine hK _ ?_; clear hK K; (first | show AWP _ _ _ _ _ | show ∃ _, _ | skip)
    (repeat refine awp_seq ?_); refine awp_ret ?_; refine And.intro (Or.inr rfl) ?_
    simp [retC, resC, viewC, mapO, h]

end Go.Proofs.Ytbhbmnofmoibhaa

