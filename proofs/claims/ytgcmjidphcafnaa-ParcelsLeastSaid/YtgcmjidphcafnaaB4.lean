/- The machine of abstract values and the contracts of the functions of the program, which the statements of this seat share. No condition. -/
import Derived.Test.YtgcmjidphcafnaaB3
import Derived.KernelRfl

set_option linter.unusedSimpArgs false
set_option linter.unusedVariables false
set_option linter.constructorNameAsVariable false

namespace Go.Proofs.Ytgcmjidphcafnaa
open Go Go.Abs

set_option maxHeartbeats 2000000

/-- A parcel that fits a plat. -/
def PcFit (p : Plat) (q : Pc) : Prop := (-1 ≤ q.row ∧ q.row ≤ (p.rows.length : Int) - 1) ∧ (-1 ≤ q.col ∧ q.col ≤ (p.cols.length : Int) - 1) ∧ (0 ≤ q.area ∧ q.area ≤ 999) ∧ (0 ≤ q.off ∧ q.off ≤ 99)

theorem platOk_iff {p : Plat} : PlatOk p ↔ p.ps.length ≤ 8 ∧ p.rows.length ≤ 4 ∧ p.cols.length ≤ 4 ∧ (∀ q ∈ p.ps, PcFit p q) ∧ (∀ a ∈ p.rows, 0 ≤ a ∧ a ≤ 9999) ∧ (∀ a ∈ p.cols, 0 ≤ a ∧ a ≤ 9999) := by
  constructor
  · intro h
    refine ⟨h.n8, h.r4, h.c4, fun q hq => ?_, h.rows, h.cols⟩
    have h1 := h.ps q hq
    have h2 := h.rr q hq
    have h3 := h.cc q hq
    unfold PcOk at h1
    unfold PcFit
    omega
  · rintro ⟨h1, h2, h3, h4, h5, h6⟩
    refine ⟨h1, h2, h3, h5, h6, fun q hq => ?_, fun q hq => ?_, fun q hq => ?_⟩
    all_goals
      have := h4 q hq
      unfold PcFit at this
    · unfold PcOk; omega
    · omega
    · omega

theorem bad61 (p : Plat) (q : Pc) (h1 : p.rows.length ≤ 1000) (h2 : p.cols.length ≤ 1000) (b : Bool) (hb : b = true ↔ ¬ PcFit p q) :
    Pure Try.prog 61 [encPc q, .ip [.sl p.pn false (p.ps.map cP), .sl p.rn false (p.rows.map cI), .sl p.cn false (p.cols.map cI)] 0] (.bool b) := by
  have w1 : IntKind.i64.wrap ((p.rows.length : Int) - 1) = (p.rows.length : Int) - 1 := wrap_id (by omega) (by omega)
  have w2 : IntKind.i64.wrap ((p.cols.length : Int) - 1) = (p.cols.length : Int) - 1 := wrap_id (by omega) (by omega)
  refine pure_of (fn := Try.f61) [.tmp 3] ⟨Try.func61, rfl, by kernel_rfl⟩ (by kernel_rfl) (by kernel_rfl) (by kernel_rfl) fun x hx hσ => ?_
  repeat refine awp_seq ?_
  refine awp_reg1 (by rw [hx]; kernel_rfl) fun K hK => ?_
  simp (config := { maxSteps := 1000000 }) [ty45]
  refine hK _ ?_
  clear hK K
  first | show AWP _ _ _ _ _ | show ∃ _, _ | skip
  by_cases c1 : -1 ≤ q.row ∧ q.row ≤ (p.rows.length : Int) - 1
  · by_cases c2 : -1 ≤ q.col ∧ q.col ≤ (p.cols.length : Int) - 1
    · by_cases c3 : 0 ≤ q.area ∧ q.area ≤ 999
      · by_cases c4 : 0 ≤ q.off ∧ q.off ≤ 99
        · have : b = false := by
            cases b with
            | false => rfl
            | true => exact absurd ⟨c1, c2, c3, c4⟩ (hb.1 rfl)
          repeat refine awp_seq ?_
          refine awp_reg1 (by rw [hx]; kernel_rfl) fun K hK => ?_
          simp (config := { maxSteps := 1000000 }) [ty45, ty3, ty25, ty23, w1, w2]
          repeat (first | (refine callP (within56 _ _ _) (by simp) ?_; simp (config := { maxSteps := 1000000 }) [ty45, ty3, ty25, ty23, w1, w2, c1, c2, c3, c4]) | (refine callPD (within56 _ _ _) (by simp) (by simp) ?_; simp (config := { maxSteps := 1000000 }) [ty45, ty3, ty25, ty23, w1, w2, c1, c2, c3, c4]))
          refine hK _ ?_
          clear hK K
          first | show AWP _ _ _ _ _ | show ∃ _, _ | skip
          repeat refine awp_seq ?_
          refine awp_ret ?_
          refine And.intro (Or.inr rfl) ?_
          simp [retC, resC, viewC, mapO, this]
        · have : b = true := hb.2 fun h => c4 h.2.2.2
          repeat refine awp_seq ?_
          refine awp_reg1 (by rw [hx]; kernel_rfl) fun K hK => ?_
          simp (config := { maxSteps := 1000000 }) [ty45, ty3, ty25, ty23, w1, w2]
          repeat (first | (refine callP (within56 _ _ _) (by simp) ?_; simp (config := { maxSteps := 1000000 }) [ty45, ty3, ty25, ty23, w1, w2, c1, c2, c3, c4]) | (refine callPD (within56 _ _ _) (by simp) (by simp) ?_; simp (config := { maxSteps := 1000000 }) [ty45, ty3, ty25, ty23, w1, w2, c1, c2, c3, c4]))
          refine hK _ ?_
          clear hK K
          first | show AWP _ _ _ _ _ | show ∃ _, _ | skip
          repeat refine awp_seq ?_
          refine awp_ret ?_
          refine And.intro (Or.inr rfl) ?_
          simp [retC, resC, viewC, mapO, this]
      · have : b = true := hb.2 fun h => c3 h.2.2.1
        repeat refine awp_seq ?_
        refine awp_reg1 (by rw [hx]; kernel_rfl) fun K hK => ?_
        simp (config := { maxSteps := 1000000 }) [ty45, ty3, ty25, ty23, w1, w2]
        repeat (first | (refine callP (within56 _ _ _) (by simp) ?_; simp (config := { maxSteps := 1000000 }) [ty45, ty3, ty25, ty23, w1, w2, c1, c2, c3]) | (refine callPD (within56 _ _ _) (by simp) (by simp) ?_; simp (config := { maxSteps := 1000000 }) [ty45, ty3, ty25, ty23, w1, w2, c1, c2, c3]))
        refine hK _ ?_
        clear hK K
        first | show AWP _ _ _ _ _ | show ∃ _, _ | skip
        repeat refine awp_seq ?_
        refine awp_ret ?_
        refine And.intro (Or.inr rfl) ?_
        simp [retC, resC, viewC, mapO, this]
    · have : b = true := hb.2 fun h => c2 h.2.1
      repeat refine awp_seq ?_
      refine awp_reg1 (by rw [hx]; kernel_rfl) fun K hK => ?_
      simp (config := { maxSteps := 1000000 }) [ty45, ty3, ty25, ty23, w1, w2]
      repeat (first | (refine callP (within56 _ _ _) (by simp) ?_; simp (config := { maxSteps := 1000000 }) [ty45, ty3, ty25, ty23, w1, w2, c1, c2]) | (refine callPD (within56 _ _ _) (by simp) (by simp) ?_; simp (config := { maxSteps := 1000000 }) [ty45, ty3, ty25, ty23, w1, w2, c1, c2]))
      refine hK _ ?_
      clear hK K
      first | show AWP _ _ _ _ _ | show ∃ _, _ | skip
      repeat refine awp_seq ?_
      refine awp_ret ?_
      refine And.intro (Or.inr rfl) ?_
      simp [retC, resC, viewC, mapO, this]
  · have : b = true := hb.2 fun h => c1 h.1
    repeat refine awp_seq ?_
    refine awp_reg1 (by rw [hx]; kernel_rfl) fun K hK => ?_
    simp (config := { maxSteps := 1000000 }) [ty45, ty3, ty25, ty23, w1, w2]
    repeat (first | (refine callP (within56 _ _ _) (by simp) ?_; simp (config := { maxSteps := 1000000 }) [ty45, ty3, ty25, ty23, w1, w2, c1]) | (refine callPD (within56 _ _ _) (by simp) (by simp) ?_; simp (config := { maxSteps := 1000000 }) [ty45, ty3, ty25, ty23, w1, w2, c1]))
    refine hK _ ?_
    clear hK K
    first | show AWP _ _ _ _ _ | show ∃ _, _ | skip
    repeat refine awp_seq ?_
    refine awp_ret ?_
    refine And.intro (Or.inr rfl) ?_
    simp [retC, resC, viewC, mapO, this]

theorem bad62 (a : Int) : Pure Try.prog 62 [encI a] (.bool (decide (¬ (0 ≤ a ∧ a ≤ 9999)))) := by
  refine pure_of (fn := Try.f62) [.tmp 2] ⟨Try.func62, rfl, by kernel_rfl⟩ (by kernel_rfl) (by kernel_rfl) (by kernel_rfl) fun x hx hσ => ?_
  repeat refine awp_seq ?_
  refine awp_reg1 (by rw [hx]; kernel_rfl) fun K hK => ?_
  simp (config := { maxSteps := 1000000 }) []
  refine hK _ ?_
  clear hK K
  first | show AWP _ _ _ _ _ | show ∃ _, _ | skip
  repeat refine awp_seq ?_
  refine awp_reg1 (by rw [hx]; kernel_rfl) fun K hK => ?_
  simp (config := { maxSteps := 1000000 }) []
  refine callP (within56 a 0 9999) (by first | (simp; done) | (simp [*]; done)) ?_
  simp (config := { maxSteps := 1000000 }) []
  refine hK _ ?_
  clear hK K
  first | show AWP _ _ _ _ _ | show ∃ _, _ | skip
  repeat refine awp_seq ?_
  refine awp_ret ?_
  refine And.intro (Or.inr rfl) ?_
  simp [retC, resC, viewC, mapO]
  by_cases h : a ≤ 9999
  · simp [h]; intro _; omega
  · simp [h]; right; omega

theorem bad62' (a : Int) : Pure Try.prog 62 ([encI a] ++ []) (.bool (decide (¬ (0 ≤ a ∧ a ≤ 9999)))) := bad62 a

open Classical in
theorem check33 (p : Plat) (h0 : p.ps.length ≤ 1000) (h1 : p.rows.length ≤ 1000) (h2 : p.cols.length ≤ 1000) :
    Pure Try.prog 33 [encPlat p] (encI (if PlatOk p then 0 else 60)) := by
  have bd : ∀ q ∈ p.ps, Pure Try.prog 61 ([encPc q] ++ [.ip [.sl p.pn false (p.ps.map cP), .sl p.rn false (p.rows.map cI), .sl p.cn false (p.cols.map cI)] 0]) (.bool (decide (¬ PcFit p q))) :=
    fun q _ => bad61 p q h1 h2 _ (by simp)
  have c63 := contains63 p.pn false p.ps 61 [.ip [.sl p.pn false (p.ps.map cP), .sl p.rn false (p.rows.map cI), .sl p.cn false (p.cols.map cI)] 0] (fun q => decide (¬ PcFit p q)) bd (by simp) h0
  have cr := contains64 p.rn false p.rows 62 [] (fun a => decide (¬ (0 ≤ a ∧ a ≤ 9999))) (fun a _ => bad62' a) rfl h1
  have cc := contains64 p.cn false p.cols 62 [] (fun a => decide (¬ (0 ≤ a ∧ a ≤ 9999))) (fun a _ => bad62' a) rfl h2
  refine pure_of (fn := Try.f33) [.tmp 2] ⟨Try.func33, rfl, by kernel_rfl⟩ (by kernel_rfl) (by kernel_rfl) (by kernel_rfl) fun x hx hσ => ?_
  repeat refine awp_seq ?_
  refine awp_reg1 (by rw [hx]; kernel_rfl) fun K hK => ?_
  simp (config := { maxSteps := 1000000 }) [ty25]
  refine hK _ ?_
  clear hK K
  first | show AWP _ _ _ _ _ | show ∃ _, _ | skip
  repeat refine awp_seq ?_
  refine awp_reg1 (by rw [hx]; kernel_rfl) fun K hK => ?_
  simp (config := { maxSteps := 1000000 }) []
  refine hK _ ?_
  clear hK K
  first | show AWP _ _ _ _ _ | show ∃ _, _ | skip
  repeat refine awp_seq ?_
  refine awp_reg1 (by rw [hx]; kernel_rfl) fun K hK => ?_
  simp (config := { maxSteps := 1000000 }) []
  refine hK _ ?_
  clear hK K
  first | show AWP _ _ _ _ _ | show ∃ _, _ | skip
  rw [platOk_iff]
  have a4 : (∀ q ∈ p.ps, PcFit p q) ↔ p.ps.any (fun q => decide (¬ PcFit p q)) = false := by simp
  have a5 : (∀ a ∈ p.rows, 0 ≤ a ∧ a ≤ 9999) ↔ p.rows.any (fun a => decide (¬ (0 ≤ a ∧ a ≤ 9999))) = false := by simp only [List.any_eq_false, decide_eq_true_eq, Classical.not_not]
  have a6 : (∀ a ∈ p.cols, 0 ≤ a ∧ a ≤ 9999) ↔ p.cols.any (fun a => decide (¬ (0 ≤ a ∧ a ≤ 9999))) = false := by simp only [List.any_eq_false, decide_eq_true_eq, Classical.not_not]
  rw [a4, a5, a6]
  generalize p.ps.any (fun q => decide (¬ PcFit p q)) = b4 at *
  generalize p.rows.any (fun a => decide (¬ (0 ≤ a ∧ a ≤ 9999))) = b5 at *
  generalize p.cols.any (fun a => decide (¬ (0 ≤ a ∧ a ≤ 9999))) = b6 at *
  by_cases c1 : p.ps.length ≤ 8
  · by_cases c2 : p.rows.length ≤ 4
    · by_cases c3 : p.cols.length ≤ 4
      · have d1 : ¬ (8 : Int) < p.ps.length := by omega
        have d2 : ¬ (4 : Int) < p.rows.length := by omega
        have d3 : ¬ (4 : Int) < p.cols.length := by omega
        repeat refine awp_seq ?_
        refine awp_reg1 (by rw [hx]; kernel_rfl) fun K hK => ?_
        simp (config := { maxSteps := 1000000 }) [ty25, ty22, ty23, ty3, d1, d2, d3]
        refine callL c63 (by simp) (.inr rfl) ?_
        cases b4
        · simp [ty25, ty22, ty23, ty3, d1, d2, d3]
          refine callP cr (by simp) ?_
          cases b5
          · simp [ty25, ty22, ty23, ty3, d1, d2, d3]
            refine callP cc (by simp) ?_
            cases b6
            · simp [ty25, ty22, ty23, ty3, d1, d2, d3]
              refine hK _ ?_
              clear hK K
              first | show AWP _ _ _ _ _ | show ∃ _, _ | skip
              repeat refine awp_seq ?_
              refine awp_cond (by simp; rfl) (by rw [hx]; simp) (fun hd => ?_) (fun hd => ?_)
              · simp at hd
              · refine awp_skip ?_
                first | show AWP _ _ _ _ _ | show ∃ _, _ | skip
                repeat refine awp_seq ?_
                refine awp_reg1 (by rw [hx]; kernel_rfl) fun K hK => ?_
                simp (config := { maxSteps := 1000000 }) []
                refine hK _ ?_
                clear hK K
                first | show AWP _ _ _ _ _ | show ∃ _, _ | skip
                repeat refine awp_seq ?_
                refine awp_ret ?_
                refine And.intro (Or.inr rfl) ?_
                simp [retC, resC, viewC, mapO, c1, c2, c3]
            · simp [ty25, ty22, ty23, ty3, d1, d2, d3]
              refine hK _ ?_
              clear hK K
              first | show AWP _ _ _ _ _ | show ∃ _, _ | skip
              repeat refine awp_seq ?_
              refine awp_cond (by simp; rfl) (by rw [hx]; simp) (fun hd => ?_) (fun hd => ?_)
              · repeat refine awp_seq ?_
                refine awp_reg1 (by rw [hx]; kernel_rfl) fun K hK => ?_
                simp (config := { maxSteps := 1000000 }) []
                refine hK _ ?_
                clear hK K
                first | show AWP _ _ _ _ _ | show ∃ _, _ | skip
                repeat refine awp_seq ?_
                refine awp_ret ?_
                refine And.intro (Or.inr rfl) ?_
                simp [retC, resC, viewC, mapO]
              · simp at hd
          · simp [ty25, ty22, ty23, ty3, d1, d2, d3]
            refine hK _ ?_
            clear hK K
            first | show AWP _ _ _ _ _ | show ∃ _, _ | skip
            repeat refine awp_seq ?_
            refine awp_cond (by simp; rfl) (by rw [hx]; simp) (fun hd => ?_) (fun hd => ?_)
            · repeat refine awp_seq ?_
              refine awp_reg1 (by rw [hx]; kernel_rfl) fun K hK => ?_
              simp (config := { maxSteps := 1000000 }) []
              refine hK _ ?_
              clear hK K
              first | show AWP _ _ _ _ _ | show ∃ _, _ | skip
              repeat refine awp_seq ?_
              refine awp_ret ?_
              refine And.intro (Or.inr rfl) ?_
              simp [retC, resC, viewC, mapO]
            · simp at hd
        · simp [ty25, ty22, ty23, ty3, d1, d2, d3]
          refine hK _ ?_
          clear hK K
          first | show AWP _ _ _ _ _ | show ∃ _, _ | skip
          repeat refine awp_seq ?_
          refine awp_cond (by simp; rfl) (by rw [hx]; simp) (fun hd => ?_) (fun hd => ?_)
          · repeat refine awp_seq ?_
            refine awp_reg1 (by rw [hx]; kernel_rfl) fun K hK => ?_
            simp (config := { maxSteps := 1000000 }) []
            refine hK _ ?_
            clear hK K
            first | show AWP _ _ _ _ _ | show ∃ _, _ | skip
            repeat refine awp_seq ?_
            refine awp_ret ?_
            refine And.intro (Or.inr rfl) ?_
            simp [retC, resC, viewC, mapO]
          · simp at hd
      · have d1 : ¬ (8 : Int) < p.ps.length := by omega
        have d2 : ¬ (4 : Int) < p.rows.length := by omega
        have d3 : (4 : Int) < p.cols.length := by omega
        repeat refine awp_seq ?_
        refine awp_reg1 (by rw [hx]; kernel_rfl) fun K hK => ?_
        simp (config := { maxSteps := 1000000 }) [ty25, ty22, ty23, ty3, d1, d2, d3]
        refine hK _ ?_
        clear hK K
        first | show AWP _ _ _ _ _ | show ∃ _, _ | skip
        repeat refine awp_seq ?_
        refine awp_cond (by simp; rfl) (by rw [hx]; simp) (fun hd => ?_) (fun hd => ?_)
        · repeat refine awp_seq ?_
          refine awp_reg1 (by rw [hx]; kernel_rfl) fun K hK => ?_
          simp (config := { maxSteps := 1000000 }) []
          refine hK _ ?_
          clear hK K
          first | show AWP _ _ _ _ _ | show ∃ _, _ | skip
          repeat refine awp_seq ?_
          refine awp_ret ?_
          refine And.intro (Or.inr rfl) ?_
          simp [retC, resC, viewC, mapO, c3]
        · simp at hd
    · have d1 : ¬ (8 : Int) < p.ps.length := by omega
      have d2 : (4 : Int) < p.rows.length := by omega
      repeat refine awp_seq ?_
      refine awp_reg1 (by rw [hx]; kernel_rfl) fun K hK => ?_
      simp (config := { maxSteps := 1000000 }) [ty25, ty22, ty23, ty3, d1, d2]
      refine hK _ ?_
      clear hK K
      first | show AWP _ _ _ _ _ | show ∃ _, _ | skip
      repeat refine awp_seq ?_
      refine awp_cond (by simp; rfl) (by rw [hx]; simp) (fun hd => ?_) (fun hd => ?_)
      · repeat refine awp_seq ?_
        refine awp_reg1 (by rw [hx]; kernel_rfl) fun K hK => ?_
        simp (config := { maxSteps := 1000000 }) []
        refine hK _ ?_
        clear hK K
        first | show AWP _ _ _ _ _ | show ∃ _, _ | skip
        repeat refine awp_seq ?_
        refine awp_ret ?_
        refine And.intro (Or.inr rfl) ?_
        simp [retC, resC, viewC, mapO, c2]
      · simp at hd
  · have d1 : (8 : Int) < p.ps.length := by omega
    repeat refine awp_seq ?_
    refine awp_reg1 (by rw [hx]; kernel_rfl) fun K hK => ?_
    simp (config := { maxSteps := 1000000 }) [ty25, ty22, ty23, ty3, d1]
    refine hK _ ?_
    clear hK K
    first | show AWP _ _ _ _ _ | show ∃ _, _ | skip
    repeat refine awp_seq ?_
    refine awp_cond (by simp; rfl) (by rw [hx]; simp) (fun hd => ?_) (fun hd => ?_)
    · repeat refine awp_seq ?_
      refine awp_reg1 (by rw [hx]; kernel_rfl) fun K hK => ?_
      simp (config := { maxSteps := 1000000 }) []
      refine hK _ ?_
      clear hK K
      first | show AWP _ _ _ _ _ | show ∃ _, _ | skip
      repeat refine awp_seq ?_
      refine awp_ret ?_
      refine And.intro (Or.inr rfl) ?_
      simp [retC, resC, viewC, mapO, c1]
    · simp at hd

end Go.Proofs.Ytgcmjidphcafnaa

namespace Go.Proofs.Ytgcmjidphcafnaa
open Go Go.Abs

set_option maxHeartbeats 2000000

theorem strips65 (nl fu : Bool) (l : List Int) (hl : l.length ≤ 1000) (b : Bool) (hb : b = true ↔ (∀ a ∈ l, 0 ≤ a ∧ a ≤ 9999) ∧ l.length ≤ 4) : Pure Try.prog 65 [.sl nl fu (l.map cI)] (.bool b) := by
  refine pure_of (fn := Try.f65) [.tmp 2] ⟨Try.func65, rfl, by kernel_rfl⟩ (by kernel_rfl) (by kernel_rfl) (by kernel_rfl) fun x hx hσ => ?_
  repeat refine awp_seq ?_
  refine awp_reg1 (by rw [hx]; kernel_rfl) fun K hK => ?_
  simp (config := { maxSteps := 1000000 }) []
  refine hK _ ?_
  clear hK K
  first | show AWP _ _ _ _ _ | show ∃ _, _ | skip
  repeat refine awp_seq ?_
  refine awp_reg1 (by rw [hx]; kernel_rfl) fun K hK => ?_
  simp (config := { maxSteps := 1000000 }) []
  refine hK _ ?_
  clear hK K
  first | show AWP _ _ _ _ _ | show ∃ _, _ | skip
  repeat refine awp_seq ?_
  refine awp_block ?_
  refine awp_loop (fun i : Nat => ⟨ofL [(0, .sl nl fu (l.map cI)), (3, encI i)], stoT []⟩)
    (fun i => i ≤ l.length ∧ ∀ j, (h : j < l.length) → j < i → 0 ≤ l[j] ∧ l[j] ≤ 9999) (fun i => l.length - i) 0 (by simp) ?_ ?_
  · refine wk_shape (shp0 hσ (by simp) (by simp) ?_) ?_
    · simp [SlotOk] <;> (repeat' (first | exact .same (by simp [purel, C.isPure]) | refine And.intro ?_ ?_))
    · simp [mtc, mtl, mT, C.isPure, purel] <;> (try simp (disch := omega) [wrap_id])
  · intro i ⟨hi, hj⟩
    repeat refine awp_seq ?_
    refine awp_reg1 (by rw [hx]; kernel_rfl) fun K hK => ?_
    simp (config := { maxSteps := 1000000 }) [ty23]
    refine hK _ ?_
    clear hK K
    first | show AWP _ _ _ _ _ | show ∃ _, _ | skip
    repeat refine awp_seq ?_
    refine awp_cond (by simp; rfl) (by rw [hx]; simp) (fun hc => ?_) (fun hc => ?_)
    · simp at hc
      refine awp_skip ?_
      first | show AWP _ _ _ _ _ | show ∃ _, _ | skip
      repeat refine awp_seq ?_
      refine awp_block ?_
      repeat refine awp_seq ?_
      refine awp_reg1 (by rw [hx]; kernel_rfl) fun K hK => ?_
      simp (config := { maxSteps := 1000000 }) [ty23, ty3, hc]
      refine callP (within54 l[i] 0 9999) (by first | (simp; done) | (simp [*]; done)) ?_
      simp (config := { maxSteps := 1000000 }) []
      refine hK _ ?_
      clear hK K
      first | show AWP _ _ _ _ _ | show ∃ _, _ | skip
      repeat refine awp_seq ?_
      refine awp_cond (by simp; rfl) (by rw [hx]; simp) (fun hd => ?_) (fun hd => ?_)
      · simp at hd
        repeat refine awp_seq ?_
        refine awp_reg1 (by rw [hx]; kernel_rfl) fun K hK => ?_
        simp (config := { maxSteps := 1000000 }) []
        refine hK _ ?_
        clear hK K
        first | show AWP _ _ _ _ _ | show ∃ _, _ | skip
        repeat refine awp_seq ?_
        refine awp_ret ?_
        refine And.intro (Or.inr rfl) ?_
        have : b = false := by
          cases b with
          | false => rfl
          | true =>
            have := (hb.1 rfl).1 _ (List.getElem_mem hc)
            omega
        simp [retC, resC, viewC, mapO, this]
      · simp at hd
        refine awp_skip ?_
        first | show AWP _ _ _ _ _ | show ∃ _, _ | skip
        repeat refine awp_seq ?_
        refine awp_reg1 (by rw [hx]; kernel_rfl) fun K hK => ?_
        simp (config := { maxSteps := 1000000 }) [ty3]
        refine hK _ ?_
        clear hK K
        first | show AWP _ _ _ _ _ | show ∃ _, _ | skip
        refine ⟨i + 1, ⟨by omega, fun j h1 h2 => ?_⟩, by omega, ?_⟩
        · by_cases hji : j = i
          · subst hji; omega
          · exact hj j h1 (by omega)
        · refine wk_shape (shp0 hσ (by simp) (by simp) ?_) ?_
          · simp [SlotOk] <;> (repeat' (first | exact .same (by simp [purel, C.isPure]) | refine And.intro ?_ ?_))
          · simp [mtc, mtl, mT, C.isPure, purel] <;> (try simp (disch := omega) [wrap_id])
    · simp at hc
      repeat refine awp_seq ?_
      refine awp_exit ?_
      first | show AWP _ _ _ _ _ | show ∃ _, _ | skip
      repeat refine awp_seq ?_
      refine awp_reg1 (by rw [hx]; kernel_rfl) fun K hK => ?_
      simp (config := { maxSteps := 1000000 }) [ty23, ty3]
      refine hK _ ?_
      clear hK K
      first | show AWP _ _ _ _ _ | show ∃ _, _ | skip
      repeat refine awp_seq ?_
      refine awp_ret ?_
      refine And.intro (Or.inr rfl) ?_
      simp [retC, resC, viewC, mapO]
      have h1 : ∀ a ∈ l, 0 ≤ a ∧ a ≤ 9999 := by
        intro a ha
        obtain ⟨j, h1, rfl⟩ := List.getElem_of_mem ha
        exact hj j h1 (by omega)
      have h2 : (b = true) = (l.length ≤ 4) := by rw [hb]; apply propext; exact ⟨fun h => h.2, fun h => ⟨h1, h⟩⟩
      have h3 : ((l.length : Int) ≤ 4) = (l.length ≤ 4) := by apply propext; omega
      by_cases h4 : l.length ≤ 4
      · rw [hb.2 ⟨h1, h4⟩]; simp; omega
      · have : b = false := by
          cases b with
          | false => rfl
          | true => exact absurd (hb.1 rfl).2 h4
        rw [this]; simp; omega

def StripsP (l : List Int) : Prop := (∀ a ∈ l, 0 ≤ a ∧ a ≤ 9999) ∧ l.length ≤ 4

open Classical in
theorem check34 (p : Plat) (h0 : p.ps.length ≤ 1000) (h1 : p.rows.length ≤ 1000) (h2 : p.cols.length ≤ 1000) :
    Pure Try.prog 34 [encPlat p] (encI (if PlatOk p then 0 else 60)) := by
  have cr := strips65 p.rn false p.rows h1 (decide (StripsP p.rows)) (decide_eq_true_iff (p := StripsP p.rows))
  have cc := strips65 p.cn false p.cols h2 (decide (StripsP p.cols)) (decide_eq_true_iff (p := StripsP p.cols))
  have w1 : IntKind.i64.wrap ((p.rows.length : Int) - 1) = (p.rows.length : Int) - 1 := wrap_id (by omega) (by omega)
  have w2 : IntKind.i64.wrap ((p.cols.length : Int) - 1) = (p.cols.length : Int) - 1 := wrap_id (by omega) (by omega)
  have hok : PlatOk p ↔ p.ps.length ≤ 8 ∧ StripsP p.rows ∧ StripsP p.cols ∧ ∀ q ∈ p.ps, PcFit p q := by
    rw [platOk_iff]
    unfold StripsP
    exact ⟨fun ⟨a, b, c, d, e, f⟩ => ⟨a, ⟨e, b⟩, ⟨f, c⟩, d⟩, fun ⟨a, ⟨e, b⟩, ⟨f, c⟩, d⟩ => ⟨a, b, c, d, e, f⟩⟩
  have bad : ∀ (hn : ¬ PlatOk p), (if PlatOk p then (0 : Int) else 60) = 60 := fun hn => if_neg hn
  refine pure_of (fn := Try.f34) [.tmp 2] ⟨Try.func34, rfl, by kernel_rfl⟩ (by kernel_rfl) (by kernel_rfl) (by kernel_rfl) fun x hx hσ => ?_
  repeat refine awp_seq ?_
  refine awp_reg1 (by rw [hx]; kernel_rfl) fun K hK => ?_
  simp (config := { maxSteps := 1000000 }) [ty25, ty3]
  refine hK _ ?_
  clear hK K
  first | show AWP _ _ _ _ _ | show ∃ _, _ | skip
  by_cases c1 : p.ps.length ≤ 8
  · by_cases c2 : StripsP p.rows
    · by_cases c3 : StripsP p.cols
      · have d1 : ¬ (8 : Int) < p.ps.length := by omega
        repeat refine awp_seq ?_
        refine awp_reg1 (by rw [hx]; kernel_rfl) fun K hK => ?_
        simp (config := { maxSteps := 1000000 }) [ty25, ty22, ty23, ty3, d1]
        refine callP cr (by simp) ?_
        simp [ty25, ty22, ty23, ty3, d1, c2]
        refine callP cc (by simp) ?_
        simp [ty25, ty22, ty23, ty3, d1, c2, c3]
        refine hK _ ?_
        clear hK K
        first | show AWP _ _ _ _ _ | show ∃ _, _ | skip
        repeat refine awp_seq ?_
        refine awp_cond (by simp; rfl) (by rw [hx]; simp) (fun hd => ?_) (fun hd => ?_)
        · simp at hd
        · clear hd
          refine awp_skip ?_
          first | show AWP _ _ _ _ _ | show ∃ _, _ | skip
          repeat refine awp_seq ?_
          refine awp_reg1 (by rw [hx]; kernel_rfl) fun K hK => ?_
          simp (config := { maxSteps := 1000000 }) []
          refine hK _ ?_
          clear hK K
          first | show AWP _ _ _ _ _ | show ∃ _, _ | skip
          repeat refine awp_seq ?_
          refine awp_block ?_
          refine awp_loop (fun i : Nat => ⟨ofL [(1, .ptr 1 3 0 0), (3, encI i)], stoT [(1, 1, .live (obPlat p))]⟩)
            (fun i => i ≤ p.ps.length ∧ ∀ j, (h : j < p.ps.length) → j < i → PcFit p p.ps[j]) (fun i => p.ps.length - i) 0 (by simp) ?_ ?_
          · refine wk_shape (shp0 hσ (by simp) (by simp) ?_) ?_
            · simp [SlotOk] <;> (repeat' (first | exact .same (by simp [purel, C.isPure]) | refine And.intro ?_ ?_))
            · simp [mtc, mtl, mT, C.isPure, purel] <;> (try simp (disch := omega) [wrap_id])
          · intro i ⟨hi, hj⟩
            repeat refine awp_seq ?_
            refine awp_reg1 (by rw [hx]; kernel_rfl) fun K hK => ?_
            simp (config := { maxSteps := 1000000 }) [ty25, ty22]
            refine hK _ ?_
            clear hK K
            first | show AWP _ _ _ _ _ | show ∃ _, _ | skip
            repeat refine awp_seq ?_
            refine awp_cond (by simp; rfl) (by rw [hx]; simp) (fun hc => ?_) (fun hc => ?_)
            · simp at hc
              refine awp_skip ?_
              first | show AWP _ _ _ _ _ | show ∃ _, _ | skip
              repeat refine awp_seq ?_
              refine awp_block ?_
              repeat refine awp_seq ?_
              refine awp_reg1 (by rw [hx]; kernel_rfl) fun K hK => ?_
              simp (config := { maxSteps := 1000000 }) [ty25, ty22, ty45, hc]
              refine hK _ ?_
              clear hK K
              first | show AWP _ _ _ _ _ | show ∃ _, _ | skip
              by_cases e1 : -1 ≤ p.ps[i].row ∧ p.ps[i].row ≤ (p.rows.length : Int) - 1
              · by_cases e2 : -1 ≤ p.ps[i].col ∧ p.ps[i].col ≤ (p.cols.length : Int) - 1
                · by_cases e3 : 0 ≤ p.ps[i].area ∧ p.ps[i].area ≤ 999
                  · by_cases e4 : 0 ≤ p.ps[i].off ∧ p.ps[i].off ≤ 99
                    · repeat refine awp_seq ?_
                      refine awp_reg1 (by rw [hx]; kernel_rfl) fun K hK => ?_
                      simp (config := { maxSteps := 1000000 }) [ty45, ty3, ty25, ty23, w1, w2]
                      repeat (first | (refine callP (within54 _ _ _) (by simp) ?_; simp (config := { maxSteps := 1000000 }) [ty45, ty3, ty25, ty23, w1, w2, e1, e2, e3, e4]) | (refine callPD (within54 _ _ _) (by simp) (by simp) ?_; simp (config := { maxSteps := 1000000 }) [ty45, ty3, ty25, ty23, w1, w2, e1, e2, e3, e4]))
                      refine hK _ ?_
                      clear hK K
                      first | show AWP _ _ _ _ _ | show ∃ _, _ | skip
                      repeat refine awp_seq ?_
                      refine awp_cond (by simp; rfl) (by rw [hx]; simp) (fun hd => ?_) (fun hd => ?_)
                      · simp at hd
                      · refine awp_skip ?_
                        first | show AWP _ _ _ _ _ | show ∃ _, _ | skip
                        repeat refine awp_seq ?_
                        refine awp_reg1 (by rw [hx]; kernel_rfl) fun K hK => ?_
                        simp (config := { maxSteps := 1000000 }) [ty3]
                        refine hK _ ?_
                        clear hK K
                        first | show AWP _ _ _ _ _ | show ∃ _, _ | skip
                        refine ⟨i + 1, ⟨by omega, fun j h1 h2 => ?_⟩, by omega, ?_⟩
                        · by_cases hji : j = i
                          · subst hji; exact ⟨e1, e2, e3, e4⟩
                          · exact hj j h1 (by omega)
                        · refine wk_shape (shp0 hσ (by simp) (by simp) ?_) ?_
                          · simp [SlotOk] <;> (repeat' (first | exact .same (by simp [purel, C.isPure]) | refine And.intro ?_ ?_))
                          · simp [mtc, mtl, mT, C.isPure, purel] <;> (try simp (disch := omega) [wrap_id])
                    · repeat refine awp_seq ?_
                      refine awp_reg1 (by rw [hx]; kernel_rfl) fun K hK => ?_
                      simp (config := { maxSteps := 1000000 }) [ty45, ty3, ty25, ty23, w1, w2]
                      repeat (first | (refine callP (within54 _ _ _) (by simp) ?_; simp (config := { maxSteps := 1000000 }) [ty45, ty3, ty25, ty23, w1, w2, e1, e2, e3, e4]) | (refine callPD (within54 _ _ _) (by simp) (by simp) ?_; simp (config := { maxSteps := 1000000 }) [ty45, ty3, ty25, ty23, w1, w2, e1, e2, e3, e4]))
                      refine hK _ ?_
                      clear hK K
                      first | show AWP _ _ _ _ _ | show ∃ _, _ | skip
                      repeat refine awp_seq ?_
                      refine awp_cond (by simp; rfl) (by rw [hx]; simp) (fun hd => ?_) (fun hd => ?_)
                      · repeat refine awp_seq ?_
                        refine awp_reg1 (by rw [hx]; kernel_rfl) fun K hK => ?_
                        simp (config := { maxSteps := 1000000 }) []
                        refine hK _ ?_
                        clear hK K
                        first | show AWP _ _ _ _ _ | show ∃ _, _ | skip
                        repeat refine awp_seq ?_
                        refine awp_ret ?_
                        refine And.intro (Or.inr rfl) ?_
                        rw [bad fun h => e4 ((hok.1 h).2.2.2 _ (List.getElem_mem hc)).2.2.2]
                        simp [retC, resC, viewC, mapO]
                      · simp at hd
                  · repeat refine awp_seq ?_
                    refine awp_reg1 (by rw [hx]; kernel_rfl) fun K hK => ?_
                    simp (config := { maxSteps := 1000000 }) [ty45, ty3, ty25, ty23, w1, w2]
                    repeat (first | (refine callP (within54 _ _ _) (by simp) ?_; simp (config := { maxSteps := 1000000 }) [ty45, ty3, ty25, ty23, w1, w2, e1, e2, e3]) | (refine callPD (within54 _ _ _) (by simp) (by simp) ?_; simp (config := { maxSteps := 1000000 }) [ty45, ty3, ty25, ty23, w1, w2, e1, e2, e3]))
                    refine hK _ ?_
                    clear hK K
                    first | show AWP _ _ _ _ _ | show ∃ _, _ | skip
                    repeat refine awp_seq ?_
                    refine awp_cond (by simp; rfl) (by rw [hx]; simp) (fun hd => ?_) (fun hd => ?_)
                    · repeat refine awp_seq ?_
                      refine awp_reg1 (by rw [hx]; kernel_rfl) fun K hK => ?_
                      simp (config := { maxSteps := 1000000 }) []
                      refine hK _ ?_
                      clear hK K
                      first | show AWP _ _ _ _ _ | show ∃ _, _ | skip
                      repeat refine awp_seq ?_
                      refine awp_ret ?_
                      refine And.intro (Or.inr rfl) ?_
                      rw [bad fun h => e3 ((hok.1 h).2.2.2 _ (List.getElem_mem hc)).2.2.1]
                      simp [retC, resC, viewC, mapO]
                    · simp at hd
                · repeat refine awp_seq ?_
                  refine awp_reg1 (by rw [hx]; kernel_rfl) fun K hK => ?_
                  simp (config := { maxSteps := 1000000 }) [ty45, ty3, ty25, ty23, w1, w2]
                  repeat (first | (refine callP (within54 _ _ _) (by simp) ?_; simp (config := { maxSteps := 1000000 }) [ty45, ty3, ty25, ty23, w1, w2, e1, e2]) | (refine callPD (within54 _ _ _) (by simp) (by simp) ?_; simp (config := { maxSteps := 1000000 }) [ty45, ty3, ty25, ty23, w1, w2, e1, e2]))
                  refine hK _ ?_
                  clear hK K
                  first | show AWP _ _ _ _ _ | show ∃ _, _ | skip
                  repeat refine awp_seq ?_
                  refine awp_cond (by simp; rfl) (by rw [hx]; simp) (fun hd => ?_) (fun hd => ?_)
                  · repeat refine awp_seq ?_
                    refine awp_reg1 (by rw [hx]; kernel_rfl) fun K hK => ?_
                    simp (config := { maxSteps := 1000000 }) []
                    refine hK _ ?_
                    clear hK K
                    first | show AWP _ _ _ _ _ | show ∃ _, _ | skip
                    repeat refine awp_seq ?_
                    refine awp_ret ?_
                    refine And.intro (Or.inr rfl) ?_
                    rw [bad fun h => e2 ((hok.1 h).2.2.2 _ (List.getElem_mem hc)).2.1]
                    simp [retC, resC, viewC, mapO]
                  · simp at hd
              · repeat refine awp_seq ?_
                refine awp_reg1 (by rw [hx]; kernel_rfl) fun K hK => ?_
                simp (config := { maxSteps := 1000000 }) [ty45, ty3, ty25, ty23, w1, w2]
                repeat (first | (refine callP (within54 _ _ _) (by simp) ?_; simp (config := { maxSteps := 1000000 }) [ty45, ty3, ty25, ty23, w1, w2, e1]) | (refine callPD (within54 _ _ _) (by simp) (by simp) ?_; simp (config := { maxSteps := 1000000 }) [ty45, ty3, ty25, ty23, w1, w2, e1]))
                refine hK _ ?_
                clear hK K
                first | show AWP _ _ _ _ _ | show ∃ _, _ | skip
                repeat refine awp_seq ?_
                refine awp_cond (by simp; rfl) (by rw [hx]; simp) (fun hd => ?_) (fun hd => ?_)
                · repeat refine awp_seq ?_
                  refine awp_reg1 (by rw [hx]; kernel_rfl) fun K hK => ?_
                  simp (config := { maxSteps := 1000000 }) []
                  refine hK _ ?_
                  clear hK K
                  first | show AWP _ _ _ _ _ | show ∃ _, _ | skip
                  repeat refine awp_seq ?_
                  refine awp_ret ?_
                  refine And.intro (Or.inr rfl) ?_
                  rw [bad fun h => e1 ((hok.1 h).2.2.2 _ (List.getElem_mem hc)).1]
                  simp [retC, resC, viewC, mapO]
                · simp at hd
            · simp at hc
              repeat refine awp_seq ?_
              refine awp_exit ?_
              first | show AWP _ _ _ _ _ | show ∃ _, _ | skip
              repeat refine awp_seq ?_
              refine awp_reg1 (by rw [hx]; kernel_rfl) fun K hK => ?_
              simp (config := { maxSteps := 1000000 }) []
              refine hK _ ?_
              clear hK K
              first | show AWP _ _ _ _ _ | show ∃ _, _ | skip
              repeat refine awp_seq ?_
              refine awp_ret ?_
              refine And.intro (Or.inr rfl) ?_
              have : PlatOk p := hok.2 ⟨c1, c2, c3, fun q hq => by
                obtain ⟨j, h1, rfl⟩ := List.getElem_of_mem hq
                exact hj j h1 (by omega)⟩
              rw [if_pos this]
              simp [retC, resC, viewC, mapO]
      · have d1 : ¬ (8 : Int) < p.ps.length := by omega
        repeat refine awp_seq ?_
        refine awp_reg1 (by rw [hx]; kernel_rfl) fun K hK => ?_
        simp (config := { maxSteps := 1000000 }) [ty25, ty22, ty23, ty3, d1]
        refine callP cr (by simp) ?_
        simp [ty25, ty22, ty23, ty3, d1, c2]
        refine callP cc (by simp) ?_
        simp [ty25, ty22, ty23, ty3, d1, c2, c3]
        refine hK _ ?_
        clear hK K
        first | show AWP _ _ _ _ _ | show ∃ _, _ | skip
        repeat refine awp_seq ?_
        refine awp_cond (by simp; rfl) (by rw [hx]; simp) (fun hd => ?_) (fun hd => ?_)
        · repeat refine awp_seq ?_
          refine awp_reg1 (by rw [hx]; kernel_rfl) fun K hK => ?_
          simp (config := { maxSteps := 1000000 }) []
          refine hK _ ?_
          clear hK K
          first | show AWP _ _ _ _ _ | show ∃ _, _ | skip
          repeat refine awp_seq ?_
          refine awp_ret ?_
          refine And.intro (Or.inr rfl) ?_
          rw [bad fun h => c3 (hok.1 h).2.2.1]
          simp [retC, resC, viewC, mapO]
        · simp at hd
    · have d1 : ¬ (8 : Int) < p.ps.length := by omega
      repeat refine awp_seq ?_
      refine awp_reg1 (by rw [hx]; kernel_rfl) fun K hK => ?_
      simp (config := { maxSteps := 1000000 }) [ty25, ty22, ty23, ty3, d1]
      refine callP cr (by simp) ?_
      simp [ty25, ty22, ty23, ty3, d1, c2]
      refine hK _ ?_
      clear hK K
      first | show AWP _ _ _ _ _ | show ∃ _, _ | skip
      repeat refine awp_seq ?_
      refine awp_cond (by simp; rfl) (by rw [hx]; simp) (fun hd => ?_) (fun hd => ?_)
      · repeat refine awp_seq ?_
        refine awp_reg1 (by rw [hx]; kernel_rfl) fun K hK => ?_
        simp (config := { maxSteps := 1000000 }) []
        refine hK _ ?_
        clear hK K
        first | show AWP _ _ _ _ _ | show ∃ _, _ | skip
        repeat refine awp_seq ?_
        refine awp_ret ?_
        refine And.intro (Or.inr rfl) ?_
        rw [bad fun h => c2 (hok.1 h).2.1]
        simp [retC, resC, viewC, mapO]
      · simp at hd
  · have d1 : (8 : Int) < p.ps.length := by omega
    repeat refine awp_seq ?_
    refine awp_reg1 (by rw [hx]; kernel_rfl) fun K hK => ?_
    simp (config := { maxSteps := 1000000 }) [ty25, ty22, ty23, ty3, d1]
    refine hK _ ?_
    clear hK K
    first | show AWP _ _ _ _ _ | show ∃ _, _ | skip
    repeat refine awp_seq ?_
    refine awp_cond (by simp; rfl) (by rw [hx]; simp) (fun hd => ?_) (fun hd => ?_)
    · repeat refine awp_seq ?_
      refine awp_reg1 (by rw [hx]; kernel_rfl) fun K hK => ?_
      simp (config := { maxSteps := 1000000 }) []
      refine hK _ ?_
      clear hK K
      first | show AWP _ _ _ _ _ | show ∃ _, _ | skip
      repeat refine awp_seq ?_
      refine awp_ret ?_
      refine And.intro (Or.inr rfl) ?_
      rw [bad fun h => c1 (hok.1 h).1]
      simp [retC, resC, viewC, mapO]
    · simp at hd

def prodTo (f : Nat → Int) : Nat → Int
  | 0 => 1
  | n + 1 => prodTo f n * f n

def waysF (p : Plat) (i : Nat) : Int := highI (p.ps[i]?.getD p0) - lowI (p.ps[i]?.getD p0) + 1

/-- Far too much, or too many ways. -/
def FarP (p : Plat) : Prop := (40 < p.ps.length ∨ 40 < p.rows.length ∨ 40 < p.cols.length) ∨ (PlatOk p ∧ ∃ k, k ≤ p.ps.length ∧ 1500 < prodTo (waysF p) k)

theorem far26 (p : Plat) (b : Bool) (hb : b = true ↔ FarP p) : Pure Try.prog 26 [encPlat p] (.bool b) := by
  refine pure_of (fn := Try.f26) [.tmp 2] ⟨Try.func26, rfl, by kernel_rfl⟩ (by kernel_rfl) (by kernel_rfl) (by kernel_rfl) fun x hx hσ => ?_
  repeat refine awp_seq ?_
  refine awp_reg1 (by rw [hx]; kernel_rfl) fun K hK => ?_
  simp (config := { maxSteps := 1000000 }) [ty25]
  refine hK _ ?_
  clear hK K
  first | show AWP _ _ _ _ _ | show ∃ _, _ | skip
  by_cases c1 : p.ps.length ≤ 40
  · by_cases c2 : p.rows.length ≤ 40
    · by_cases c3 : p.cols.length ≤ 40
      · have d1 : ¬ (40 : Int) < p.ps.length := by omega
        have d2 : ¬ (40 : Int) < p.rows.length := by omega
        have d3 : ¬ (40 : Int) < p.cols.length := by omega
        repeat refine awp_seq ?_
        refine awp_reg1 (by rw [hx]; kernel_rfl) fun K hK => ?_
        simp (config := { maxSteps := 1000000 }) [ty25, ty22, ty23, ty3, d1, d2, d3]
        refine hK _ ?_
        clear hK K
        first | show AWP _ _ _ _ _ | show ∃ _, _ | skip
        repeat refine awp_seq ?_
        refine awp_cond (by simp; rfl) (by rw [hx]; simp) (fun hd => ?_) (fun hd => ?_)
        · simp at hd
        · clear hd
          refine awp_skip ?_
          first | show AWP _ _ _ _ _ | show ∃ _, _ | skip
          repeat refine awp_seq ?_
          refine awp_reg1 (by rw [hx]; kernel_rfl) fun K hK => ?_
          simp (config := { maxSteps := 1000000 }) [ty25]
          refine callP (check34 p (by omega) (by omega) (by omega)) (by simp) ?_
          by_cases hok : PlatOk p
          · simp [hok]
            refine hK _ ?_
            clear hK K
            first | show AWP _ _ _ _ _ | show ∃ _, _ | skip
            repeat refine awp_seq ?_
            refine awp_cond (by simp; rfl) (by rw [hx]; simp) (fun hd => ?_) (fun hd => ?_)
            · simp at hd
            · clear hd
              refine awp_skip ?_
              first | show AWP _ _ _ _ _ | show ∃ _, _ | skip
              repeat refine awp_seq ?_
              refine awp_reg1 (by rw [hx]; kernel_rfl) fun K hK => ?_
              simp (config := { maxSteps := 1000000 }) []
              refine hK _ ?_
              clear hK K
              first | show AWP _ _ _ _ _ | show ∃ _, _ | skip
              repeat refine awp_seq ?_
              refine awp_reg1 (by rw [hx]; kernel_rfl) fun K hK => ?_
              simp (config := { maxSteps := 1000000 }) []
              refine hK _ ?_
              clear hK K
              first | show AWP _ _ _ _ _ | show ∃ _, _ | skip
              repeat refine awp_seq ?_
              refine awp_block ?_
              refine awp_loop (fun i : Nat => ⟨ofL [(1, .ptr 1 3 0 0), (3, encI (prodTo (waysF p) i)), (4, encI i)], stoT [(1, 1, .live (obPlat p))]⟩)
                (fun i => i ≤ p.ps.length ∧ 0 ≤ prodTo (waysF p) i ∧ ∀ j, j ≤ i → prodTo (waysF p) j ≤ 1500) (fun i => p.ps.length - i) 0 (by simp [prodTo]) ?_ ?_
              · refine wk_shape (shp0 hσ (by simp) (by simp) ?_) ?_
                · simp [SlotOk] <;> (repeat' (first | exact .same (by simp [purel, C.isPure]) | refine And.intro ?_ ?_))
                · simp [mtc, mtl, mT, C.isPure, purel, prodTo] <;> (try simp (disch := omega) [wrap_id])
              · intro i ⟨hi, h0, hj⟩
                repeat refine awp_seq ?_
                refine awp_reg1 (by rw [hx]; kernel_rfl) fun K hK => ?_
                simp (config := { maxSteps := 1000000 }) [ty25, ty22]
                refine hK _ ?_
                clear hK K
                first | show AWP _ _ _ _ _ | show ∃ _, _ | skip
                repeat refine awp_seq ?_
                refine awp_cond (by simp; rfl) (by rw [hx]; simp) (fun hc => ?_) (fun hc => ?_)
                · simp at hc
                  refine awp_skip ?_
                  first | show AWP _ _ _ _ _ | show ∃ _, _ | skip
                  repeat refine awp_seq ?_
                  refine awp_block ?_
                  have hq := hok.ps _ (List.getElem_mem hc)
                  repeat refine awp_seq ?_
                  refine awp_drw3 [] [0, 1, 2, 3, 4, 5, 6, 7, 8, 9, 10, 11, 12, 13, 14, 15, 16] (by rw [hx]; kernel_rfl) (by kernel_rfl) (by kernel_rfl) (by kernel_rfl) fun K hK => ?_
                  simp (config := { maxSteps := 1000000 }) [ty25, ty22, ty45, hc, ty3]
                  refine callPD (high_c p.ps[i] hq) (by first | (simp; done) | (simp [*]; done)) (by simp) ?_
                  simp (config := { maxSteps := 1000000 }) [ty25, ty22, ty45, hc, ty3]
                  refine callPD (low_c p.ps[i] hq) (by first | (simp; done) | (simp [*]; done)) (by simp) ?_
                  simp (config := { maxSteps := 1000000 }) [ty25, ty22, ty45, hc, ty3]
                  have hw : waysF p i = highI p.ps[i] - lowI p.ps[i] + 1 := by simp [waysF, hc]
                  have hi2 := hj i (Nat.le_refl _)
                  have w1 : IntKind.i64.wrap (highI p.ps[i] - lowI p.ps[i]) = highI p.ps[i] - lowI p.ps[i] := by unfold PcOk at hq; unfold highI lowI; exact wrap_id (by omega) (by omega)
                  have hwb : 0 ≤ waysF p i ∧ waysF p i ≤ 200 := by rw [hw]; unfold PcOk at hq; unfold highI lowI; omega
                  have w2 : IntKind.i64.wrap (highI p.ps[i] - lowI p.ps[i] + 1) = waysF p i := by rw [hw]; unfold PcOk at hq; unfold highI lowI; exact wrap_id (by omega) (by omega)
                  have hm1 : 0 ≤ prodTo (waysF p) i * waysF p i := Int.mul_nonneg h0 hwb.1
                  have hm2 : prodTo (waysF p) i * waysF p i ≤ 1500 * 200 := Int.mul_le_mul hi2 hwb.2 hwb.1 (by omega)
                  have w3 : IntKind.i64.wrap (prodTo (waysF p) i * waysF p i) = prodTo (waysF p) (i + 1) := by rw [wrap_id (by omega) (by omega)]; rfl
                  simp [w1, w2, w3]
                  refine hK _ ?_
                  clear hK K
                  first | show AWP _ _ _ _ _ | show ∃ _, _ | skip
                  repeat refine awp_seq ?_
                  refine awp_reg1 (by rw [hx]; kernel_rfl) fun K hK => ?_
                  simp (config := { maxSteps := 1000000 }) [ty3]
                  refine hK _ ?_
                  clear hK K
                  first | show AWP _ _ _ _ _ | show ∃ _, _ | skip
                  repeat refine awp_seq ?_
                  refine awp_cond (by simp; rfl) (by rw [hx]; simp) (fun hd => ?_) (fun hd => ?_)
                  · simp at hd
                    repeat refine awp_seq ?_
                    refine awp_reg1 (by rw [hx]; kernel_rfl) fun K hK => ?_
                    simp (config := { maxSteps := 1000000 }) []
                    refine hK _ ?_
                    clear hK K
                    first | show AWP _ _ _ _ _ | show ∃ _, _ | skip
                    repeat refine awp_seq ?_
                    refine awp_ret ?_
                    refine And.intro (Or.inr rfl) ?_
                    have : b = true := hb.2 (.inr ⟨hok, i + 1, by omega, hd⟩)
                    simp [retC, resC, viewC, mapO, this]
                  · simp at hd
                    refine awp_skip ?_
                    first | show AWP _ _ _ _ _ | show ∃ _, _ | skip
                    repeat refine awp_seq ?_
                    refine awp_reg1 (by rw [hx]; kernel_rfl) fun K hK => ?_
                    simp (config := { maxSteps := 1000000 }) [ty3]
                    refine hK _ ?_
                    clear hK K
                    first | show AWP _ _ _ _ _ | show ∃ _, _ | skip
                    refine ⟨i + 1, ⟨by omega, by simp only [prodTo]; exact hm1, fun j h2 => ?_⟩, by omega, ?_⟩
                    · by_cases hji : j = i + 1
                      · subst hji; exact hd
                      · exact hj j (by omega)
                    · refine wk_shape (shp0 hσ (by simp) (by simp) ?_) ?_
                      · simp [SlotOk] <;> (repeat' (first | exact .same (by simp [purel, C.isPure]) | refine And.intro ?_ ?_))
                      · simp [mtc, mtl, mT, C.isPure, purel] <;> (try simp (disch := omega) [wrap_id])
                · simp at hc
                  repeat refine awp_seq ?_
                  refine awp_exit ?_
                  first | show AWP _ _ _ _ _ | show ∃ _, _ | skip
                  repeat refine awp_seq ?_
                  refine awp_reg1 (by rw [hx]; kernel_rfl) fun K hK => ?_
                  simp (config := { maxSteps := 1000000 }) []
                  refine hK _ ?_
                  clear hK K
                  first | show AWP _ _ _ _ _ | show ∃ _, _ | skip
                  repeat refine awp_seq ?_
                  refine awp_ret ?_
                  refine And.intro (Or.inr rfl) ?_
                  have : b = false := by
                    cases b with
                    | false => rfl
                    | true =>
                      rcases hb.1 rfl with h | ⟨_, k, h1, h2⟩
                      · omega
                      · have := hj k (by omega); omega
                  simp [retC, resC, viewC, mapO, this]
          · simp [hok]
            refine hK _ ?_
            clear hK K
            first | show AWP _ _ _ _ _ | show ∃ _, _ | skip
            repeat refine awp_seq ?_
            refine awp_cond (by simp; rfl) (by rw [hx]; simp) (fun hd => ?_) (fun hd => ?_)
            · repeat refine awp_seq ?_
              refine awp_reg1 (by rw [hx]; kernel_rfl) fun K hK => ?_
              simp (config := { maxSteps := 1000000 }) []
              refine hK _ ?_
              clear hK K
              first | show AWP _ _ _ _ _ | show ∃ _, _ | skip
              repeat refine awp_seq ?_
              refine awp_ret ?_
              refine And.intro (Or.inr rfl) ?_
              have : b = false := by
                cases b with
                | false => rfl
                | true =>
                  rcases hb.1 rfl with h | ⟨h, _⟩
                  · omega
                  · exact absurd h hok
              simp [retC, resC, viewC, mapO, this]
            · simp at hd
      · have d1 : ¬ (40 : Int) < p.ps.length := by omega
        have d2 : ¬ (40 : Int) < p.rows.length := by omega
        have d3 : (40 : Int) < p.cols.length := by omega
        repeat refine awp_seq ?_
        refine awp_reg1 (by rw [hx]; kernel_rfl) fun K hK => ?_
        simp (config := { maxSteps := 1000000 }) [ty25, ty22, ty23, ty3, d1, d2, d3]
        refine hK _ ?_
        clear hK K
        first | show AWP _ _ _ _ _ | show ∃ _, _ | skip
        repeat refine awp_seq ?_
        refine awp_cond (by simp; rfl) (by rw [hx]; simp) (fun hd => ?_) (fun hd => ?_)
        · repeat refine awp_seq ?_
          refine awp_reg1 (by rw [hx]; kernel_rfl) fun K hK => ?_
          simp (config := { maxSteps := 1000000 }) []
          refine hK _ ?_
          clear hK K
          first | show AWP _ _ _ _ _ | show ∃ _, _ | skip
          repeat refine awp_seq ?_
          refine awp_ret ?_
          refine And.intro (Or.inr rfl) ?_
          have : b = true := hb.2 (.inl (by omega))
          simp [retC, resC, viewC, mapO, this]
        · simp at hd
    · have d1 : ¬ (40 : Int) < p.ps.length := by omega
      have d2 : (40 : Int) < p.rows.length := by omega
      repeat refine awp_seq ?_
      refine awp_reg1 (by rw [hx]; kernel_rfl) fun K hK => ?_
      simp (config := { maxSteps := 1000000 }) [ty25, ty22, ty23, ty3, d1, d2]
      refine hK _ ?_
      clear hK K
      first | show AWP _ _ _ _ _ | show ∃ _, _ | skip
      repeat refine awp_seq ?_
      refine awp_cond (by simp; rfl) (by rw [hx]; simp) (fun hd => ?_) (fun hd => ?_)
      · repeat refine awp_seq ?_
        refine awp_reg1 (by rw [hx]; kernel_rfl) fun K hK => ?_
        simp (config := { maxSteps := 1000000 }) []
        refine hK _ ?_
        clear hK K
        first | show AWP _ _ _ _ _ | show ∃ _, _ | skip
        repeat refine awp_seq ?_
        refine awp_ret ?_
        refine And.intro (Or.inr rfl) ?_
        have : b = true := hb.2 (.inl (by omega))
        simp [retC, resC, viewC, mapO, this]
      · simp at hd
  · have d1 : (40 : Int) < p.ps.length := by omega
    repeat refine awp_seq ?_
    refine awp_reg1 (by rw [hx]; kernel_rfl) fun K hK => ?_
    simp (config := { maxSteps := 1000000 }) [ty25, ty22, ty23, ty3, d1]
    refine hK _ ?_
    clear hK K
    first | show AWP _ _ _ _ _ | show ∃ _, _ | skip
    repeat refine awp_seq ?_
    refine awp_cond (by simp; rfl) (by rw [hx]; simp) (fun hd => ?_) (fun hd => ?_)
    · repeat refine awp_seq ?_
      refine awp_reg1 (by rw [hx]; kernel_rfl) fun K hK => ?_
      simp (config := { maxSteps := 1000000 }) []
      refine hK _ ?_
      clear hK K
      first | show AWP _ _ _ _ _ | show ∃ _, _ | skip
      repeat refine awp_seq ?_
      refine awp_ret ?_
      refine And.intro (Or.inr rfl) ?_
      have : b = true := hb.2 (.inl (by omega))
      simp [retC, resC, viewC, mapO, this]
    · simp at hd

theorem ready13 (p : Plat) (b : Bool) (hb : b = true ↔ ¬ FarP p ∧ PlatOk p) : Pure Try.prog 13 [encPlat p] (.bool b) := by
  refine pure_of (fn := Try.f13) [.tmp 2] ⟨Try.func13, rfl, by kernel_rfl⟩ (by kernel_rfl) (by kernel_rfl) (by kernel_rfl) fun x hx hσ => ?_
  repeat refine awp_seq ?_
  refine awp_reg1 (by rw [hx]; kernel_rfl) fun K hK => ?_
  simp (config := { maxSteps := 1000000 }) [ty25]
  refine hK _ ?_
  clear hK K
  first | show AWP _ _ _ _ _ | show ∃ _, _ | skip
  by_cases c1 : FarP p
  · repeat refine awp_seq ?_
    refine awp_reg1 (by rw [hx]; kernel_rfl) fun K hK => ?_
    simp (config := { maxSteps := 1000000 }) [ty25]
    refine callP (far26 p true (by simp [c1])) (by first | (simp; done) | (simp [*]; done)) ?_
    simp (config := { maxSteps := 1000000 }) [ty25]
    refine hK _ ?_
    clear hK K
    first | show AWP _ _ _ _ _ | show ∃ _, _ | skip
    repeat refine awp_seq ?_
    refine awp_ret ?_
    refine And.intro (Or.inr rfl) ?_
    have : b = false := by
      cases b with
      | false => rfl
      | true => exact absurd c1 (hb.1 rfl).1
    simp [retC, resC, viewC, mapO, this]
  · have hl : p.ps.length ≤ 40 ∧ p.rows.length ≤ 40 ∧ p.cols.length ≤ 40 := by
      have : ¬ (40 < p.ps.length ∨ 40 < p.rows.length ∨ 40 < p.cols.length) := fun h => c1 (.inl h)
      omega
    repeat refine awp_seq ?_
    refine awp_reg1 (by rw [hx]; kernel_rfl) fun K hK => ?_
    simp (config := { maxSteps := 1000000 }) [ty25]
    refine callP (far26 p false (by simp [c1])) (by first | (simp; done) | (simp [*]; done)) ?_
    simp (config := { maxSteps := 1000000 }) [ty25]
    refine callP (check34 p (by omega) (by omega) (by omega)) (by simp) ?_
    by_cases hok : PlatOk p
    · simp [hok, ty3]
      refine hK _ ?_
      clear hK K
      first | show AWP _ _ _ _ _ | show ∃ _, _ | skip
      repeat refine awp_seq ?_
      refine awp_ret ?_
      refine And.intro (Or.inr rfl) ?_
      have : b = true := hb.2 ⟨c1, hok⟩
      simp [retC, resC, viewC, mapO, this]
    · simp [hok, ty3]
      refine hK _ ?_
      clear hK K
      first | show AWP _ _ _ _ _ | show ∃ _, _ | skip
      repeat refine awp_seq ?_
      refine awp_ret ?_
      refine And.intro (Or.inr rfl) ?_
      have : b = false := by
        cases b with
        | false => rfl
        | true => exact absurd (hb.1 rfl).2 hok
      simp [retC, resC, viewC, mapO, this]

end Go.Proofs.Ytgcmjidphcafnaa

namespace Go.Proofs.Ytgcmjidphcafnaa
open Go Go.Abs

set_option maxHeartbeats 2000000

def hasB (s : Nat) (i : Int) : Bool := decide (0 ≤ i) && Nat.testBit s i.toNat

theorem bit_fact : ∀ s : Fin 16, ∀ i : Fin 8, ((IntKind.u64).wrap ((((s.val : Int).fdiv (2 ^ min i.val IntKind.u64.bits) % 2 ^ IntKind.u64.bits).toNat &&& 1 % 2 ^ IntKind.u64.bits : Nat) : Int) == 1) = Nat.testBit s.val i.val := by
  decide +kernel

theorem has73 (s : Nat) (i : Int) (hs : s < 16) (hi : i < 8) : Pure Try.prog 73 [.int .u64 s, encI i] (.bool (hasB s i)) := by
  refine pure_of (fn := Try.f73) [.tmp 4] ⟨Try.func73, rfl, by kernel_rfl⟩ (by kernel_rfl) (by kernel_rfl) (by kernel_rfl) fun x hx hσ => ?_
  repeat refine awp_seq ?_
  refine awp_reg1 (by rw [hx]; kernel_rfl) fun K hK => ?_
  simp (config := { maxSteps := 1000000 }) []
  refine hK _ ?_
  clear hK K
  first | show AWP _ _ _ _ _ | show ∃ _, _ | skip
  by_cases h : 0 ≤ i
  · have := bit_fact ⟨s, hs⟩ ⟨i.toNat, by omega⟩
    simp only at this
    have h1 : ¬ i < 0 := by omega
    repeat refine awp_seq ?_
    refine awp_reg1 (by rw [hx]; kernel_rfl) fun K hK => ?_
    simp (config := { maxSteps := 1000000 }) [ty3, h, h1]
    refine hK _ ?_
    clear hK K
    first | show AWP _ _ _ _ _ | show ∃ _, _ | skip
    rw [this]
    repeat refine awp_seq ?_
    refine awp_ret ?_
    refine And.intro (Or.inr rfl) ?_
    simp [retC, resC, viewC, mapO, hasB, h]
  · repeat refine awp_seq ?_
    refine awp_reg1 (by rw [hx]; kernel_rfl) fun K hK => ?_
    simp (config := { maxSteps := 1000000 }) [ty3, h]
    refine hK _ ?_
    clear hK K
    first | show AWP _ _ _ _ _ | show ∃ _, _ | skip
    repeat refine awp_seq ?_
    refine awp_ret ?_
    refine And.intro (Or.inr rfl) ?_
    simp [retC, resC, viewC, mapO, hasB, h]

def listTo (s : Nat) : Nat → List Int
  | 0 => []
  | n + 1 => if Nat.testBit s n then listTo s n ++ [(n : Int)] else listTo s n

theorem listTo_len (s : Nat) : ∀ n, (listTo s n).length ≤ n
  | 0 => by simp [listTo]
  | n + 1 => by
    have := listTo_len s n
    simp only [listTo]
    split
    · simp; omega
    · omega

theorem listTo_mem (s : Nat) (z : Int) : ∀ n, z ∈ listTo s n ↔ 0 ≤ z ∧ z < n ∧ Nat.testBit s z.toNat = true
  | 0 => by simp [listTo]; omega
  | n + 1 => by
    have ih := listTo_mem s z n
    simp only [listTo]
    by_cases hz : z = n
    · subst hz
      split <;> simp_all <;> omega
    · split
      · simp [ih, hz]; omega
      · rw [ih]
        constructor <;> (rintro ⟨a, b, c⟩; exact ⟨a, by omega, c⟩)

theorem list50 (s : Nat) (hs : s < 16) : Pure Try.prog 50 [.int .u64 s] (.sl (listTo s 4).isEmpty false ((listTo s 4).map cI)) := by
  refine pure_of (fn := Try.f50) [.tmp 2] ⟨Try.func50, rfl, by kernel_rfl⟩ (by kernel_rfl) (by kernel_rfl) (by kernel_rfl) fun x hx hσ => ?_
  repeat refine awp_seq ?_
  refine awp_reg1 (by rw [hx]; kernel_rfl) fun K hK => ?_
  simp (config := { maxSteps := 1000000 }) []
  refine hK _ ?_
  clear hK K
  first | show AWP _ _ _ _ _ | show ∃ _, _ | skip
  repeat refine awp_seq ?_
  refine awp_reg1 (by rw [hx]; kernel_rfl) fun K hK => ?_
  simp (config := { maxSteps := 1000000 }) []
  refine hK _ ?_
  clear hK K
  first | show AWP _ _ _ _ _ | show ∃ _, _ | skip
  repeat refine awp_seq ?_
  refine awp_reg1 (by rw [hx]; kernel_rfl) fun K hK => ?_
  simp (config := { maxSteps := 1000000 }) []
  refine hK _ ?_
  clear hK K
  first | show AWP _ _ _ _ _ | show ∃ _, _ | skip
  repeat refine awp_seq ?_
  refine awp_block ?_
  refine AWP.weak ?_ (wk_nil 3 3 1 (fu := true) (by simp) (by simp))
  refine awp_loop (fun i : Nat => ⟨ofL [(0, .int .u64 s), (3, .own 3 1 0 (listTo s i).length), (5, encI i)], stoT [(3, 3, .live ⟨(listTo s i).isEmpty, false, 1, (listTo s i).map cI⟩)]⟩)
    (fun i => i ≤ 4) (fun i => 4 - i) 0 (by simp) ?_ ?_
  · refine wk_shape (shp0 hσ (by simp) (by simp) ?_) ?_
    · simp [SlotOk, listTo]; exact .same rfl
    · simp [mtc, mtl, mT, C.isPure, listTo]
  · intro i hi
    have hlen := listTo_len s i
    repeat refine awp_seq ?_
    refine awp_reg1 (by rw [hx]; kernel_rfl) fun K hK => ?_
    simp (config := { maxSteps := 1000000 }) [ty3]
    refine hK _ ?_
    clear hK K
    first | show AWP _ _ _ _ _ | show ∃ _, _ | skip
    repeat refine awp_seq ?_
    refine awp_cond (by simp; rfl) (by rw [hx]; simp) (fun hc => ?_) (fun hc => ?_)
    · simp at hc
      refine awp_skip ?_
      first | show AWP _ _ _ _ _ | show ∃ _, _ | skip
      repeat refine awp_seq ?_
      refine awp_block ?_
      repeat refine awp_seq ?_
      refine awp_reg1 (by rw [hx]; kernel_rfl) fun K hK => ?_
      simp (config := { maxSteps := 1000000 }) []
      refine hK _ ?_
      clear hK K
      first | show AWP _ _ _ _ _ | show ∃ _, _ | skip
      repeat refine awp_seq ?_
      refine awp_reg1 (by rw [hx]; kernel_rfl) fun K hK => ?_
      simp (config := { maxSteps := 1000000 }) []
      refine callP (has73 s i hs (by omega)) (by first | (simp; done) | (simp [*]; done)) ?_
      simp (config := { maxSteps := 1000000 }) []
      refine hK _ ?_
      clear hK K
      first | show AWP _ _ _ _ _ | show ∃ _, _ | skip
      repeat refine awp_seq ?_
      refine awp_cond (by simp; rfl) (by rw [hx]; simp) (fun hd => ?_) (fun hd => ?_)
      · have hb : Nat.testBit s i = true := by simpa [hasB] using hd
        repeat refine awp_seq ?_
        refine awp_reg1 (by rw [hx]; kernel_rfl) fun K hK => ?_
        simp (config := { maxSteps := 1000000 }) [ty23, ty3]
        refine ⟨by omega, ?_⟩
        refine hK _ ?_
        clear hK K
        first | show AWP _ _ _ _ _ | show ∃ _, _ | skip
        repeat refine awp_seq ?_
        refine awp_reg1 (by rw [hx]; kernel_rfl) fun K hK => ?_
        simp (config := { maxSteps := 1000000 }) [ty3]
        refine hK _ ?_
        clear hK K
        first | show AWP _ _ _ _ _ | show ∃ _, _ | skip
        refine ⟨i + 1, by omega, by omega, ?_⟩
        refine wk_shape (T := [(3, 14, .live ⟨(listTo s (i+1)).isEmpty, false, 1, (listTo s (i+1)).map cI⟩)]) (shp0 hσ (by simp) (by simp) ?_) ?_
        · simp [SlotOk, listTo, hb]
          exact .same (by simp [purel, C.isPure])
        · simp [mtc, mtl, mT, C.isPure, listTo, hb]
          simp (disch := omega) [wrap_id]
      · have hb : Nat.testBit s i = false := by simpa [hasB] using hd
        refine awp_skip ?_
        first | show AWP _ _ _ _ _ | show ∃ _, _ | skip
        repeat refine awp_seq ?_
        refine awp_reg1 (by rw [hx]; kernel_rfl) fun K hK => ?_
        simp (config := { maxSteps := 1000000 }) [ty3]
        refine hK _ ?_
        clear hK K
        first | show AWP _ _ _ _ _ | show ∃ _, _ | skip
        refine ⟨i + 1, by omega, by omega, ?_⟩
        refine wk_shape (T := [(3, 3, .live ⟨(listTo s (i+1)).isEmpty, false, 1, (listTo s (i+1)).map cI⟩)]) (shp0 hσ (by simp) (by simp) ?_) ?_
        · simp [SlotOk, listTo, hb]
          exact .same (by simp [purel, C.isPure])
        · simp [mtc, mtl, mT, C.isPure, listTo, hb]
          simp (disch := omega) [wrap_id]
    · simp at hc
      repeat refine awp_seq ?_
      refine awp_exit ?_
      first | show AWP _ _ _ _ _ | show ∃ _, _ | skip
      have : i = 4 := by omega
      subst this
      repeat refine awp_seq ?_
      refine awp_reg1 (by rw [hx]; kernel_rfl) fun K hK => ?_
      simp (config := { maxSteps := 1000000 }) []
      refine hK _ ?_
      clear hK K
      first | show AWP _ _ _ _ _ | show ∃ _, _ | skip
      repeat refine awp_seq ?_
      refine awp_ret ?_
      refine And.intro (Or.inr rfl) ?_
      refine ⟨.own 3 1 0 (listTo s 4).length, by simp [retC, resC], ?_⟩
      rw [viewC_own (o := ⟨(listTo s 4).isEmpty, false, 1, (listTo s 4).map cI⟩) (by simp) rfl (by simp) (by simp [purel, C.isPure])]
      simp

end Go.Proofs.Ytgcmjidphcafnaa

namespace Go.Proofs.Ytgcmjidphcafnaa
open Go Go.Abs

set_option maxHeartbeats 2000000

def sAt (v : List Int) (l : List Int) (i : Nat) : Int := v[(l[i]?.getD 0).toNat]?.getD 0
def lowF (p : Plat) (R C : Int → Bool) (i : Nat) : Int :=
  if R (p.ps[i]?.getD p0).row && !C (p.ps[i]?.getD p0).col then lowI (p.ps[i]?.getD p0) else if C (p.ps[i]?.getD p0).col && !R (p.ps[i]?.getD p0).row then -highI (p.ps[i]?.getD p0) else 0
def highF (p : Plat) (R C : Int → Bool) (i : Nat) : Int :=
  if R (p.ps[i]?.getD p0).row && !C (p.ps[i]?.getD p0).col then highI (p.ps[i]?.getD p0) else if C (p.ps[i]?.getD p0).col && !R (p.ps[i]?.getD p0).row then -lowI (p.ps[i]?.getD p0) else 0

/-- The surplus is not within the ends. -/
def SurplusP (p : Plat) (rs cs : List Int) (R C : Int → Bool) : Prop :=
  sumTo (sAt p.rows rs) rs.length - sumTo (sAt p.cols cs) cs.length < sumTo (lowF p R C) p.ps.length ∨ sumTo (highF p R C) p.ps.length < sumTo (sAt p.rows rs) rs.length - sumTo (sAt p.cols cs) cs.length

theorem sAt_bd {v l : List Int} (h : ∀ a ∈ v, 0 ≤ a ∧ a ≤ 9999) (i : Nat) : -9999 ≤ sAt v l i ∧ sAt v l i ≤ 9999 := by
  unfold sAt
  generalize (l[i]?.getD 0).toNat = j
  by_cases hj : j < v.length
  · simp only [List.getElem?_eq_getElem hj, Option.getD_some]; have := h _ (List.getElem_mem hj); omega
  · simp [List.getElem?_eq_none (Nat.le_of_not_lt hj)]

theorem ends_bd {p : Plat} (hp : PlatOk p) (i : Nat) : 0 ≤ lowI (p.ps[i]?.getD p0) ∧ lowI (p.ps[i]?.getD p0) ≤ highI (p.ps[i]?.getD p0) ∧ highI (p.ps[i]?.getD p0) ≤ 1098 := by
  by_cases hi : i < p.ps.length
  · simp only [List.getElem?_eq_getElem hi, Option.getD_some]
    have := hp.ps _ (List.getElem_mem hi)
    unfold PcOk at this
    unfold lowI highI
    omega
  · simp only [List.getElem?_eq_none (Nat.le_of_not_lt hi), Option.getD_none]
    decide

theorem lowF_bd {p : Plat} (hp : PlatOk p) (R C : Int → Bool) (i : Nat) : -1098 ≤ lowF p R C i ∧ lowF p R C i ≤ 1098 := by
  have := ends_bd hp i
  unfold lowF; split
  · omega
  · split <;> omega
theorem highF_bd {p : Plat} (hp : PlatOk p) (R C : Int → Bool) (i : Nat) : -1098 ≤ highF p R C i ∧ highF p R C i ≤ 1098 := by
  have := ends_bd hp i
  unfold highF; split
  · omega
  · split <;> omega

theorem listTo_lt {s n : Nat} (h : s < 2 ^ n) {z : Int} (hz : z ∈ listTo s 4) : 0 ≤ z ∧ z.toNat < n := by
  obtain ⟨h1, h2, h3⟩ := (listTo_mem s z 4).1 hz
  refine ⟨h1, Classical.byContradiction fun hn => ?_⟩
  have : s < 2 ^ z.toNat := Nat.lt_of_lt_of_le h (Nat.pow_le_pow_right (by omega) (by omega))
  rw [Nat.testBit_lt_two_pow this] at h3
  cases h3

theorem proves49 (p : Plat) (r c : Nat) (hp : PlatOk p) (hr : r < 2 ^ p.rows.length) (hc : c < 2 ^ p.cols.length) (b : Bool) (hb : b = true ↔ SurplusP p (listTo r 4) (listTo c 4) (hasB r) (hasB c)) :
    Pure Try.prog 49 [encPlat p, .int .u64 r, .int .u64 c] (.bool b) := by
  have hr16 : r < 2 ^ 4 := Nat.lt_of_lt_of_le hr (Nat.pow_le_pow_right (by omega) hp.r4)
  have hc16 : c < 2 ^ 4 := Nat.lt_of_lt_of_le hc (Nat.pow_le_pow_right (by omega) hp.c4)
  have lr := listTo_len r 4
  have lc := listTo_len c 4
  have h8 := hp.n8
  refine pure_of (fn := Try.f49) [.tmp 6] ⟨Try.func49, rfl, by kernel_rfl⟩ (by kernel_rfl) (by kernel_rfl) (by kernel_rfl) fun x hx hσ => ?_
  repeat refine awp_seq ?_
  refine awp_reg1 (by rw [hx]; kernel_rfl) fun K hK => ?_
  simp (config := { maxSteps := 1000000 }) [ty25]
  refine hK _ ?_
  clear hK K
  first | show AWP _ _ _ _ _ | show ∃ _, _ | skip
  repeat refine awp_seq ?_
  refine awp_reg1 (by rw [hx]; kernel_rfl) fun K hK => ?_
  simp (config := { maxSteps := 1000000 }) []
  refine hK _ ?_
  clear hK K
  first | show AWP _ _ _ _ _ | show ∃ _, _ | skip
  repeat refine awp_seq ?_
  refine awp_reg1 (by rw [hx]; kernel_rfl) fun K hK => ?_
  simp (config := { maxSteps := 1000000 }) []
  refine callP (list50 r hr16) (by first | (simp; done) | (simp [*]; done)) ?_
  simp (config := { maxSteps := 1000000 }) [ty23]
  refine hK _ ?_
  clear hK K
  first | show AWP _ _ _ _ _ | show ∃ _, _ | skip
  repeat refine awp_seq ?_
  refine awp_block ?_
  refine awp_loop (fun i : Nat => ⟨ofL [(1, .int .u64 r), (2, .int .u64 c), (3, .ptr 3 3 0 0), (7, encI (sumTo (sAt p.rows (listTo r 4)) i)), (8, encI 0), (9, encI 0), (20, .sl (listTo r 4).isEmpty false ((listTo r 4).map cI)), (21, encI (listTo r 4).length), (22, encI i)], stoT [(3, 3, .live (obPlat p))]⟩)
    (fun i => i ≤ (listTo r 4).length) (fun i => (listTo r 4).length - i) 0 (by simp) ?_ ?_
  · refine wk_shape (shp0 hσ (by simp) (by simp) ?_) ?_
    · simp [SlotOk] <;> (repeat' (first | exact .same (by simp [purel, C.isPure]) | refine And.intro ?_ ?_))
    · simp [mtc, mtl, mT, C.isPure, purel, sumTo] <;> (try simp (disch := omega) [wrap_id])
  · intro i hi
    repeat refine awp_seq ?_
    refine awp_reg1 (by rw [hx]; kernel_rfl) fun K hK => ?_
    simp (config := { maxSteps := 1000000 }) [ty3]
    refine hK _ ?_
    clear hK K
    first | show AWP _ _ _ _ _ | show ∃ _, _ | skip
    repeat refine awp_seq ?_
    refine awp_cond (by simp; rfl) (by rw [hx]; simp) (fun h1 => ?_) (fun h1 => ?_)
    · simp at h1
      refine awp_skip ?_
      first | show AWP _ _ _ _ _ | show ∃ _, _ | skip
      repeat refine awp_seq ?_
      refine awp_block ?_
      repeat refine awp_seq ?_
      refine awp_reg1 (by rw [hx]; kernel_rfl) fun K hK => ?_
      simp (config := { maxSteps := 1000000 }) [ty23, ty3, h1]
      refine hK _ ?_
      clear hK K
      first | show AWP _ _ _ _ _ | show ∃ _, _ | skip
      obtain ⟨e1, e2⟩ := listTo_lt hr (List.getElem_mem h1)
      repeat refine awp_seq ?_
      refine awp_reg1 (by rw [hx]; kernel_rfl) fun K hK => ?_
      simp (config := { maxSteps := 1000000 }) [ty25, ty23, ty3, e1, e2]
      refine hK _ ?_
      clear hK K
      first | show AWP _ _ _ _ _ | show ∃ _, _ | skip
      repeat refine awp_seq ?_
      refine awp_reg1 (by rw [hx]; kernel_rfl) fun K hK => ?_
      simp (config := { maxSteps := 1000000 }) [ty3]
      refine hK _ ?_
      clear hK K
      first | show AWP _ _ _ _ _ | show ∃ _, _ | skip
      refine ⟨i + 1, by omega, by omega, ?_⟩
      have s1 := sumTo_le (f := sAt p.rows (listTo r 4)) (b := 9999) (n := i) fun j _ => sAt_bd hp.rows j
      have s2 := sAt_bd (l := listTo r 4) hp.rows i
      have e3 : p.rows[(listTo r 4)[i].toNat] = sAt p.rows (listTo r 4) i := by simp [sAt, h1, e2]
      have w1 : IntKind.i64.wrap (sumTo (sAt p.rows (listTo r 4)) i + sAt p.rows (listTo r 4) i) = sumTo (sAt p.rows (listTo r 4)) i + sAt p.rows (listTo r 4) i := wrap_id (by omega) (by omega)
      refine wk_shape (shp0 hσ (by simp) (by simp) ?_) ?_
      · simp [SlotOk] <;> (repeat' (first | exact .same (by simp [purel, C.isPure]) | refine And.intro ?_ ?_))
      · simp [mtc, mtl, mT, C.isPure, purel, sumTo, e3, w1] <;> (try simp (disch := omega) [wrap_id])
    · simp at h1
      repeat refine awp_seq ?_
      refine awp_exit ?_
      first | show AWP _ _ _ _ _ | show ∃ _, _ | skip
      have : i = (listTo r 4).length := by omega
      subst this
      generalize hS : sumTo (sAt p.rows (listTo r 4)) (listTo r 4).length = S at *
      have hSb : -99999 ≤ S ∧ S ≤ 99999 := by
        have s1 := sumTo_le (f := sAt p.rows (listTo r 4)) (b := 9999) (n := (listTo r 4).length) fun j _ => sAt_bd hp.rows j
        omega
      repeat refine awp_seq ?_
      refine awp_reg1 (by rw [hx]; kernel_rfl) fun K hK => ?_
      simp (config := { maxSteps := 1000000 }) []
      refine callP (list50 c hc16) (by first | (simp; done) | (simp [*]; done)) ?_
      simp (config := { maxSteps := 1000000 }) [ty23]
      refine hK _ ?_
      clear hK K
      first | show AWP _ _ _ _ _ | show ∃ _, _ | skip
      repeat refine awp_seq ?_
      refine awp_block ?_
      refine awp_loop (fun i : Nat => ⟨ofL [(1, .int .u64 r), (2, .int .u64 c), (3, .ptr 3 3 0 0), (7, encI (S - sumTo (sAt p.cols (listTo c 4)) i)), (8, encI 0), (9, encI 0), (35, .sl (listTo c 4).isEmpty false ((listTo c 4).map cI)), (36, encI (listTo c 4).length), (37, encI i)], stoT [(3, 3, .live (obPlat p))]⟩)
        (fun i => i ≤ (listTo c 4).length) (fun i => (listTo c 4).length - i) 0 (by simp) ?_ ?_
      · refine wk_shape (shp0 hσ (by simp) (by simp) ?_) ?_
        · simp [SlotOk] <;> (repeat' (first | exact .same (by simp [purel, C.isPure]) | refine And.intro ?_ ?_))
        · simp [mtc, mtl, mT, C.isPure, purel, sumTo] <;> (try simp (disch := omega) [wrap_id])
      · intro i hi
        repeat refine awp_seq ?_
        refine awp_reg1 (by rw [hx]; kernel_rfl) fun K hK => ?_
        simp (config := { maxSteps := 1000000 }) [ty3]
        refine hK _ ?_
        clear hK K
        first | show AWP _ _ _ _ _ | show ∃ _, _ | skip
        repeat refine awp_seq ?_
        refine awp_cond (by simp; rfl) (by rw [hx]; simp) (fun h2 => ?_) (fun h2 => ?_)
        · simp at h2
          refine awp_skip ?_
          first | show AWP _ _ _ _ _ | show ∃ _, _ | skip
          repeat refine awp_seq ?_
          refine awp_block ?_
          repeat refine awp_seq ?_
          refine awp_reg1 (by rw [hx]; kernel_rfl) fun K hK => ?_
          simp (config := { maxSteps := 1000000 }) [ty23, ty3, h2]
          refine hK _ ?_
          clear hK K
          first | show AWP _ _ _ _ _ | show ∃ _, _ | skip
          obtain ⟨e1, e2⟩ := listTo_lt hc (List.getElem_mem h2)
          repeat refine awp_seq ?_
          refine awp_reg1 (by rw [hx]; kernel_rfl) fun K hK => ?_
          simp (config := { maxSteps := 1000000 }) [ty25, ty23, ty3, e1, e2]
          refine hK _ ?_
          clear hK K
          first | show AWP _ _ _ _ _ | show ∃ _, _ | skip
          repeat refine awp_seq ?_
          refine awp_reg1 (by rw [hx]; kernel_rfl) fun K hK => ?_
          simp (config := { maxSteps := 1000000 }) [ty3]
          refine hK _ ?_
          clear hK K
          first | show AWP _ _ _ _ _ | show ∃ _, _ | skip
          refine ⟨i + 1, by omega, by omega, ?_⟩
          have s1 := sumTo_le (f := sAt p.cols (listTo c 4)) (b := 9999) (n := i) fun j _ => sAt_bd hp.cols j
          have s2 := sAt_bd (l := listTo c 4) hp.cols i
          have e3 : p.cols[(listTo c 4)[i].toNat] = sAt p.cols (listTo c 4) i := by simp [sAt, h2, e2]
          have w1 : IntKind.i64.wrap (S - sumTo (sAt p.cols (listTo c 4)) i - sAt p.cols (listTo c 4) i) = S - (sumTo (sAt p.cols (listTo c 4)) i + sAt p.cols (listTo c 4) i) := by rw [wrap_id (by omega) (by omega)]; omega
          refine wk_shape (shp0 hσ (by simp) (by simp) ?_) ?_
          · simp [SlotOk] <;> (repeat' (first | exact .same (by simp [purel, C.isPure]) | refine And.intro ?_ ?_))
          · simp [mtc, mtl, mT, C.isPure, purel, sumTo, e3, w1] <;> (try simp (disch := omega) [wrap_id])
        · simp at h2
          repeat refine awp_seq ?_
          refine awp_exit ?_
          first | show AWP _ _ _ _ _ | show ∃ _, _ | skip
          have : i = (listTo c 4).length := by omega
          subst this
          have hTb : -99999 ≤ sumTo (sAt p.cols (listTo c 4)) (listTo c 4).length ∧ sumTo (sAt p.cols (listTo c 4)) (listTo c 4).length ≤ 99999 := by
            have s1 := sumTo_le (f := sAt p.cols (listTo c 4)) (b := 9999) (n := (listTo c 4).length) fun j _ => sAt_bd hp.cols j
            omega
          repeat refine awp_seq ?_
          refine awp_reg1 (by rw [hx]; kernel_rfl) fun K hK => ?_
          simp (config := { maxSteps := 1000000 }) [ty25, ty22]
          refine hK _ ?_
          clear hK K
          first | show AWP _ _ _ _ _ | show ∃ _, _ | skip
          repeat refine awp_seq ?_
          refine awp_block ?_
          refine awp_loop (fun i : Nat => ⟨ofL [(1, .int .u64 r), (2, .int .u64 c), (3, .ptr 3 3 0 0), (7, encI (S - sumTo (sAt p.cols (listTo c 4)) (listTo c 4).length)), (8, encI (sumTo (lowF p (hasB r) (hasB c)) i)), (9, encI (sumTo (highF p (hasB r) (hasB c)) i)), (50, .sl p.pn false (p.ps.map cP)), (51, encI p.ps.length), (52, encI i)], stoT [(3, 3, .live (obPlat p))]⟩)
            (fun i => i ≤ p.ps.length) (fun i => p.ps.length - i) 0 (by simp) ?_ ?_
          · refine wk_shape (shp0 hσ (by simp) (by simp) ?_) ?_
            · simp [SlotOk] <;> (repeat' (first | exact .same (by simp [purel, C.isPure]) | refine And.intro ?_ ?_))
            · simp [mtc, mtl, mT, C.isPure, purel, sumTo] <;> (try simp (disch := omega) [wrap_id])
          · intro i hi
            have s1 := sumTo_le (f := lowF p (hasB r) (hasB c)) (b := 1098) (n := i) fun j _ => lowF_bd hp _ _ j
            have s2 := sumTo_le (f := highF p (hasB r) (hasB c)) (b := 1098) (n := i) fun j _ => highF_bd hp _ _ j
            repeat refine awp_seq ?_
            refine awp_reg1 (by rw [hx]; kernel_rfl) fun K hK => ?_
            simp (config := { maxSteps := 1000000 }) [ty3]
            refine hK _ ?_
            clear hK K
            first | show AWP _ _ _ _ _ | show ∃ _, _ | skip
            repeat refine awp_seq ?_
            refine awp_cond (by simp; rfl) (by rw [hx]; simp) (fun h3 => ?_) (fun h3 => ?_)
            · simp at h3
              refine awp_skip ?_
              first | show AWP _ _ _ _ _ | show ∃ _, _ | skip
              repeat refine awp_seq ?_
              refine awp_block ?_
              have hq := hp.ps _ (List.getElem_mem h3)
              have heb := ends_bd hp i
              have hqo := hq
              unfold PcOk at hqo
              have egd : p.ps[i]?.getD p0 = p.ps[i] := by simp [h3]
              rw [egd] at heb
              repeat refine awp_seq ?_
              refine awp_reg1 (by rw [hx]; kernel_rfl) fun K hK => ?_
              simp (config := { maxSteps := 1000000 }) [ty22, ty45, h3]
              refine hK _ ?_
              clear hK K
              first | show AWP _ _ _ _ _ | show ∃ _, _ | skip
              repeat refine awp_seq ?_
              refine awp_reg1 (by rw [hx]; kernel_rfl) fun K hK => ?_
              simp (config := { maxSteps := 1000000 }) [ty45]
              refine callP (ends_c p.ps[i] hq) (by first | (simp; done) | (simp [*]; done)) ?_
              simp (config := { maxSteps := 1000000 }) [ty41]
              refine hK _ ?_
              clear hK K
              first | show AWP _ _ _ _ _ | show ∃ _, _ | skip
              repeat refine awp_seq ?_
              refine awp_drw3 [] [0, 1, 2, 3, 4, 5, 6, 7, 8, 9] (by rw [hx]; kernel_rfl) (by kernel_rfl) (by kernel_rfl) (by kernel_rfl) fun K hK => ?_
              simp (config := { maxSteps := 1000000 }) [ty45, ty3]
              refine callPD (has73 r p.ps[i].row hr16 (by omega)) (by first | (simp; done) | (simp [*]; done)) (by simp) ?_
              simp (config := { maxSteps := 1000000 }) [ty45, ty3]
              refine callPD (has73 c p.ps[i].col hc16 (by omega)) (by first | (simp; done) | (simp [*]; done)) (by simp) ?_
              simp (config := { maxSteps := 1000000 }) [ty45, ty3]
              refine hK _ ?_
              clear hK K
              first | show AWP _ _ _ _ _ | show ∃ _, _ | skip
              cases hR : hasB r p.ps[i].row <;> cases hC : hasB c p.ps[i].col
              · repeat refine awp_seq ?_
                refine awp_block ?_
                repeat refine awp_seq ?_
                refine awp_reg1 (by rw [hx]; kernel_rfl) fun K hK => ?_
                simp (config := { maxSteps := 1000000 }) []
                refine hK _ ?_
                clear hK K
                first | show AWP _ _ _ _ _ | show ∃ _, _ | skip
                repeat refine awp_seq ?_
                refine awp_cond (by simp; rfl) (by rw [hx]; simp) (fun hd => ?_) (fun hd => ?_)
                · simp at hd
                · repeat refine awp_seq ?_
                  refine awp_reg1 (by rw [hx]; kernel_rfl) fun K hK => ?_
                  simp (config := { maxSteps := 1000000 }) []
                  refine hK _ ?_
                  clear hK K
                  first | show AWP _ _ _ _ _ | show ∃ _, _ | skip
                  repeat refine awp_seq ?_
                  refine awp_cond (by simp; rfl) (by rw [hx]; simp) (fun hd => ?_) (fun hd => ?_)
                  · simp at hd
                  · refine awp_skip ?_
                    first | show AWP _ _ _ _ _ | show ∃ _, _ | skip
                    repeat refine awp_seq ?_
                    refine awp_reg1 (by rw [hx]; kernel_rfl) fun K hK => ?_
                    simp (config := { maxSteps := 1000000 }) [ty3]
                    refine hK _ ?_
                    clear hK K
                    first | show AWP _ _ _ _ _ | show ∃ _, _ | skip
                    refine ⟨i + 1, by omega, by omega, ?_⟩
                    have e1 : lowF p (hasB r) (hasB c) i = 0 := by simp only [lowF, egd, hR, hC]; rfl
                    have e2 : highF p (hasB r) (hasB c) i = 0 := by simp only [highF, egd, hR, hC]; rfl
                    refine wk_shape (shp0 hσ (by simp) (by simp) ?_) ?_
                    · simp [SlotOk] <;> (repeat' (first | exact .same (by simp [purel, C.isPure]) | refine And.intro ?_ ?_))
                    · simp [mtc, mtl, mT, C.isPure, purel, sumTo, e1, e2] <;> (try simp (disch := omega) [wrap_id])
              · repeat refine awp_seq ?_
                refine awp_block ?_
                repeat refine awp_seq ?_
                refine awp_reg1 (by rw [hx]; kernel_rfl) fun K hK => ?_
                simp (config := { maxSteps := 1000000 }) []
                refine hK _ ?_
                clear hK K
                first | show AWP _ _ _ _ _ | show ∃ _, _ | skip
                repeat refine awp_seq ?_
                refine awp_cond (by simp; rfl) (by rw [hx]; simp) (fun hd => ?_) (fun hd => ?_)
                · simp at hd
                · repeat refine awp_seq ?_
                  refine awp_reg1 (by rw [hx]; kernel_rfl) fun K hK => ?_
                  simp (config := { maxSteps := 1000000 }) []
                  refine hK _ ?_
                  clear hK K
                  first | show AWP _ _ _ _ _ | show ∃ _, _ | skip
                  repeat refine awp_seq ?_
                  refine awp_cond (by simp; rfl) (by rw [hx]; simp) (fun hd => ?_) (fun hd => ?_)
                  · repeat refine awp_seq ?_
                    refine awp_drw3 [] [0, 1, 2, 3, 4, 5, 6, 7, 8, 9] (by rw [hx]; kernel_rfl) (by kernel_rfl) (by kernel_rfl) (by kernel_rfl) fun K hK => ?_
                    simp (config := { maxSteps := 1000000 }) [ty41, ty3]
                    refine hK _ ?_
                    clear hK K
                    first | show AWP _ _ _ _ _ | show ∃ _, _ | skip
                    repeat refine awp_seq ?_
                    refine awp_reg1 (by rw [hx]; kernel_rfl) fun K hK => ?_
                    simp (config := { maxSteps := 1000000 }) [ty3]
                    refine hK _ ?_
                    clear hK K
                    first | show AWP _ _ _ _ _ | show ∃ _, _ | skip
                    refine ⟨i + 1, by omega, by omega, ?_⟩
                    have e1 : lowF p (hasB r) (hasB c) i = -highI p.ps[i] := by simp only [lowF, egd, hR, hC]; rfl
                    have e2 : highF p (hasB r) (hasB c) i = -lowI p.ps[i] := by simp only [highF, egd, hR, hC]; rfl
                    have w1 : IntKind.i64.wrap (sumTo (lowF p (hasB r) (hasB c)) i - highI p.ps[i]) = sumTo (lowF p (hasB r) (hasB c)) i + -highI p.ps[i] := by rw [wrap_id (by omega) (by omega)]; omega
                    have w2 : IntKind.i64.wrap (sumTo (highF p (hasB r) (hasB c)) i - lowI p.ps[i]) = sumTo (highF p (hasB r) (hasB c)) i + -lowI p.ps[i] := by rw [wrap_id (by omega) (by omega)]; omega
                    refine wk_shape (shp0 hσ (by simp) (by simp) ?_) ?_
                    · simp [SlotOk] <;> (repeat' (first | exact .same (by simp [purel, C.isPure]) | refine And.intro ?_ ?_))
                    · simp [mtc, mtl, mT, C.isPure, purel, sumTo, e1, e2, w1, w2] <;> (try simp (disch := omega) [wrap_id])
                  · simp at hd
              · repeat refine awp_seq ?_
                refine awp_block ?_
                repeat refine awp_seq ?_
                refine awp_reg1 (by rw [hx]; kernel_rfl) fun K hK => ?_
                simp (config := { maxSteps := 1000000 }) []
                refine hK _ ?_
                clear hK K
                first | show AWP _ _ _ _ _ | show ∃ _, _ | skip
                repeat refine awp_seq ?_
                refine awp_cond (by simp; rfl) (by rw [hx]; simp) (fun hd => ?_) (fun hd => ?_)
                · repeat refine awp_seq ?_
                  refine awp_drw3 [] [0, 1, 2, 3, 4, 5, 6, 7, 8, 9] (by rw [hx]; kernel_rfl) (by kernel_rfl) (by kernel_rfl) (by kernel_rfl) fun K hK => ?_
                  simp (config := { maxSteps := 1000000 }) [ty41, ty3]
                  refine hK _ ?_
                  clear hK K
                  first | show AWP _ _ _ _ _ | show ∃ _, _ | skip
                  repeat refine awp_seq ?_
                  refine awp_reg1 (by rw [hx]; kernel_rfl) fun K hK => ?_
                  simp (config := { maxSteps := 1000000 }) [ty3]
                  refine hK _ ?_
                  clear hK K
                  first | show AWP _ _ _ _ _ | show ∃ _, _ | skip
                  refine ⟨i + 1, by omega, by omega, ?_⟩
                  have e1 : lowF p (hasB r) (hasB c) i = lowI p.ps[i] := by simp only [lowF, egd, hR, hC]; rfl
                  have e2 : highF p (hasB r) (hasB c) i = highI p.ps[i] := by simp only [highF, egd, hR, hC]; rfl
                  have w1 : IntKind.i64.wrap (sumTo (lowF p (hasB r) (hasB c)) i + lowI p.ps[i]) = sumTo (lowF p (hasB r) (hasB c)) i + lowI p.ps[i] := wrap_id (by omega) (by omega)
                  have w2 : IntKind.i64.wrap (sumTo (highF p (hasB r) (hasB c)) i + highI p.ps[i]) = sumTo (highF p (hasB r) (hasB c)) i + highI p.ps[i] := wrap_id (by omega) (by omega)
                  refine wk_shape (shp0 hσ (by simp) (by simp) ?_) ?_
                  · simp [SlotOk] <;> (repeat' (first | exact .same (by simp [purel, C.isPure]) | refine And.intro ?_ ?_))
                  · simp [mtc, mtl, mT, C.isPure, purel, sumTo, e1, e2, w1, w2] <;> (try simp (disch := omega) [wrap_id])
                · simp at hd
              · repeat refine awp_seq ?_
                refine awp_block ?_
                repeat refine awp_seq ?_
                refine awp_reg1 (by rw [hx]; kernel_rfl) fun K hK => ?_
                simp (config := { maxSteps := 1000000 }) []
                refine hK _ ?_
                clear hK K
                first | show AWP _ _ _ _ _ | show ∃ _, _ | skip
                repeat refine awp_seq ?_
                refine awp_cond (by simp; rfl) (by rw [hx]; simp) (fun hd => ?_) (fun hd => ?_)
                · simp at hd
                · repeat refine awp_seq ?_
                  refine awp_reg1 (by rw [hx]; kernel_rfl) fun K hK => ?_
                  simp (config := { maxSteps := 1000000 }) []
                  refine hK _ ?_
                  clear hK K
                  first | show AWP _ _ _ _ _ | show ∃ _, _ | skip
                  repeat refine awp_seq ?_
                  refine awp_cond (by simp; rfl) (by rw [hx]; simp) (fun hd => ?_) (fun hd => ?_)
                  · simp at hd
                  · refine awp_skip ?_
                    first | show AWP _ _ _ _ _ | show ∃ _, _ | skip
                    repeat refine awp_seq ?_
                    refine awp_reg1 (by rw [hx]; kernel_rfl) fun K hK => ?_
                    simp (config := { maxSteps := 1000000 }) [ty3]
                    refine hK _ ?_
                    clear hK K
                    first | show AWP _ _ _ _ _ | show ∃ _, _ | skip
                    refine ⟨i + 1, by omega, by omega, ?_⟩
                    have e1 : lowF p (hasB r) (hasB c) i = 0 := by simp only [lowF, egd, hR, hC]; rfl
                    have e2 : highF p (hasB r) (hasB c) i = 0 := by simp only [highF, egd, hR, hC]; rfl
                    refine wk_shape (shp0 hσ (by simp) (by simp) ?_) ?_
                    · simp [SlotOk] <;> (repeat' (first | exact .same (by simp [purel, C.isPure]) | refine And.intro ?_ ?_))
                    · simp [mtc, mtl, mT, C.isPure, purel, sumTo, e1, e2] <;> (try simp (disch := omega) [wrap_id])
            · simp at h3
              repeat refine awp_seq ?_
              refine awp_exit ?_
              first | show AWP _ _ _ _ _ | show ∃ _, _ | skip
              have : i = p.ps.length := by omega
              subst this
              unfold SurplusP at hb
              rw [hS] at hb
              by_cases g : sumTo (highF p (hasB r) (hasB c)) p.ps.length < S - sumTo (sAt p.cols (listTo c 4)) (listTo c 4).length
              · repeat refine awp_seq ?_
                refine awp_reg1 (by rw [hx]; kernel_rfl) fun K hK => ?_
                simp (config := { maxSteps := 1000000 }) [ty3, g]
                refine hK _ ?_
                clear hK K
                first | show AWP _ _ _ _ _ | show ∃ _, _ | skip
                repeat refine awp_seq ?_
                refine awp_ret ?_
                refine And.intro (Or.inr rfl) ?_
                have : b = true := hb.2 (.inr g)
                simp [retC, resC, viewC, mapO, this]
              · repeat refine awp_seq ?_
                refine awp_reg1 (by rw [hx]; kernel_rfl) fun K hK => ?_
                simp (config := { maxSteps := 1000000 }) [ty3, g]
                refine hK _ ?_
                clear hK K
                first | show AWP _ _ _ _ _ | show ∃ _, _ | skip
                repeat refine awp_seq ?_
                refine awp_ret ?_
                refine And.intro (Or.inr rfl) ?_
                by_cases g2 : S - sumTo (sAt p.cols (listTo c 4)) (listTo c 4).length < sumTo (lowF p (hasB r) (hasB c)) p.ps.length
                · have : b = true := hb.2 (.inl g2)
                  simp [retC, resC, viewC, mapO, this, g2]
                · have : b = false := by
                    cases b with
                    | false => rfl
                    | true => rcases hb.1 rfl with h | h <;> omega
                  simp [retC, resC, viewC, mapO, this, g2]

end Go.Proofs.Ytgcmjidphcafnaa

namespace Go.Proofs.Ytgcmjidphcafnaa
open Go Go.Abs

set_option maxHeartbeats 2000000

theorem least_ex {P : Nat → Prop} : ∀ {n : Nat}, P n → ∃ m, m ≤ n ∧ P m ∧ ∀ k, k < m → ¬ P k := by
  intro n
  induction n using Nat.strongRecOn with
  | _ n ih =>
    intro h
    by_cases hx : ∃ k, k < n ∧ P k
    · obtain ⟨k, h1, h2⟩ := hx
      obtain ⟨m, e1, e2, e3⟩ := ih k h1 h2
      exact ⟨m, by omega, e2, e3⟩
    · exact ⟨n, Nat.le_refl _, h, fun k hk hp => hx ⟨k, hk, hp⟩⟩

/-- What a pair of sets proves. -/
def SetP (p : Plat) (r c : Nat) : Prop := SurplusP p (listTo r 4) (listTo c 4) (hasB r) (hasB c)

def encSet (s : Nat) : C := .sl (listTo s 4).isEmpty false ((listTo s 4).map cI)

theorem chain_bad (p : Plat) (h0 : p.ps.length ≤ 1000) (h1 : p.rows.length ≤ 1000) (h2 : p.cols.length ≤ 1000) (hp : ¬ PlatOk p) :
    Pure Try.prog 15 [encPlat p] (.tup [.sl true true [], .sl true true [], encI 60]) := by
  refine pure_of (fn := Try.f15) [.tmp 2, .tmp 3, .tmp 4] ⟨Try.func15, rfl, by kernel_rfl⟩ (by kernel_rfl) (by kernel_rfl) (by kernel_rfl) fun x hx hσ => ?_
  repeat refine awp_seq ?_
  refine awp_reg1 (by rw [hx]; kernel_rfl) fun K hK => ?_
  simp (config := { maxSteps := 1000000 }) [ty25]
  refine hK _ ?_
  clear hK K
  first | show AWP _ _ _ _ _ | show ∃ _, _ | skip
  repeat refine awp_seq ?_
  refine awp_reg1 (by rw [hx]; kernel_rfl) fun K hK => ?_
  simp (config := { maxSteps := 1000000 }) [ty25]
  refine callP (check33 p h0 h1 h2) (by first | (simp; done) | (simp [*]; done)) ?_
  simp (config := { maxSteps := 1000000 }) [hp]
  refine hK _ ?_
  clear hK K
  first | show AWP _ _ _ _ _ | show ∃ _, _ | skip
  repeat refine awp_seq ?_
  refine awp_reg1 (by rw [hx]; kernel_rfl) fun K hK => ?_
  simp (config := { maxSteps := 1000000 }) [ty3]
  refine hK _ ?_
  clear hK K
  first | show AWP _ _ _ _ _ | show ∃ _, _ | skip
  repeat refine awp_seq ?_
  refine awp_cond (by simp; rfl) (by rw [hx]; simp) (fun hd => ?_) (fun hd => ?_)
  · repeat refine awp_seq ?_
    refine awp_reg1 (by rw [hx]; kernel_rfl) fun K hK => ?_
    simp (config := { maxSteps := 1000000 }) []
    refine hK _ ?_
    clear hK K
    first | show AWP _ _ _ _ _ | show ∃ _, _ | skip
    repeat refine awp_seq ?_
    refine awp_ret ?_
    refine And.intro (Or.inr rfl) ?_
    simp [retC, resC, viewC, mapO]
  · simp at hd

theorem shl_fact : ∀ n : Fin 5, IntKind.u64.wrap (2 ^ (min n.val IntKind.u64.bits)) = ((2 ^ n.val : Nat) : Int) := by decide +kernel

theorem wrapu_id {z : Int} (h1 : 0 ≤ z) (h2 : z < 18446744073709551616) : IntKind.u64.wrap z = z := by
  rw [IntKind.wrap_u64]; omega

theorem chain_ok (p : Plat) (hp : PlatOk p) (R0 : Nat) (res : C) (hno : ∀ r, r < R0 → ∀ c, c < 2 ^ p.cols.length → ¬ SetP p r c)
    (hstop : (R0 = 2 ^ p.rows.length ∧ res = .tup [.sl true true [], .sl true true [], encI 3]) ∨
      (R0 < 2 ^ p.rows.length ∧ ∃ c0, c0 < 2 ^ p.cols.length ∧ SetP p R0 c0 ∧ (∀ c, c < c0 → ¬ SetP p R0 c) ∧ res = .tup [encSet R0, encSet c0, encI 0])) :
    Pure Try.prog 15 [encPlat p] res := by
  have h8 := hp.n8
  have hr4 := hp.r4
  have hc4 := hp.c4
  have q1 : 2 ^ p.rows.length ≤ 2 ^ 4 := Nat.pow_le_pow_right (by omega) hr4
  have q2 : 2 ^ p.cols.length ≤ 2 ^ 4 := Nat.pow_le_pow_right (by omega) hc4
  have s1 := shl_fact ⟨p.rows.length, by omega⟩
  have s2 := shl_fact ⟨p.cols.length, by omega⟩
  simp only at s1 s2
  generalize hN : 2 ^ p.rows.length = N at *
  generalize hM : 2 ^ p.cols.length = M at *
  refine pure_of (fn := Try.f15) [.tmp 2, .tmp 3, .tmp 4] ⟨Try.func15, rfl, by kernel_rfl⟩ (by kernel_rfl) (by kernel_rfl) (by kernel_rfl) fun x hx hσ => ?_
  repeat refine awp_seq ?_
  refine awp_reg1 (by rw [hx]; kernel_rfl) fun K hK => ?_
  simp (config := { maxSteps := 1000000 }) [ty25]
  refine hK _ ?_
  clear hK K
  first | show AWP _ _ _ _ _ | show ∃ _, _ | skip
  repeat refine awp_seq ?_
  refine awp_reg1 (by rw [hx]; kernel_rfl) fun K hK => ?_
  simp (config := { maxSteps := 1000000 }) [ty25]
  refine callP (check33 p (by omega) (by omega) (by omega)) (by first | (simp; done) | (simp [*]; done)) ?_
  simp (config := { maxSteps := 1000000 }) [hp]
  refine hK _ ?_
  clear hK K
  first | show AWP _ _ _ _ _ | show ∃ _, _ | skip
  repeat refine awp_seq ?_
  refine awp_reg1 (by rw [hx]; kernel_rfl) fun K hK => ?_
  simp (config := { maxSteps := 1000000 }) [ty3]
  refine hK _ ?_
  clear hK K
  first | show AWP _ _ _ _ _ | show ∃ _, _ | skip
  repeat refine awp_seq ?_
  refine awp_cond (by simp; rfl) (by rw [hx]; simp) (fun hd => ?_) (fun hd => ?_)
  · simp at hd
  clear hd
  refine awp_skip ?_
  first | show AWP _ _ _ _ _ | show ∃ _, _ | skip
  repeat refine awp_seq ?_
  refine awp_reg1 (by rw [hx]; kernel_rfl) fun K hK => ?_
  simp (config := { maxSteps := 1000000 }) [ty25, ty23, s1]
  refine hK _ ?_
  clear hK K
  first | show AWP _ _ _ _ _ | show ∃ _, _ | skip
  repeat refine awp_seq ?_
  refine awp_block ?_
  refine awp_loop (fun r : Nat => ⟨ofL [(1, .ptr 1 3 0 0), (16, .int .u64 N), (17, .int .u64 r)], stoT [(1, 1, .live (obPlat p))]⟩)
    (fun r => r ≤ R0) (fun r => N - r) 0 (by simp) ?_ ?_
  · refine wk_shape (shp0 hσ (by simp) (by simp) ?_) ?_
    · simp [SlotOk] <;> (repeat' (first | exact .same (by simp [purel, C.isPure]) | refine And.intro ?_ ?_))
    · simp [mtc, mtl, mT, C.isPure, purel] <;> (try simp (disch := omega) [wrap_id])
  · intro r hr
    repeat refine awp_seq ?_
    refine awp_reg1 (by rw [hx]; kernel_rfl) fun K hK => ?_
    simp (config := { maxSteps := 1000000 }) [ty65]
    refine hK _ ?_
    clear hK K
    first | show AWP _ _ _ _ _ | show ∃ _, _ | skip
    repeat refine awp_seq ?_
    refine awp_cond (by simp; rfl) (by rw [hx]; simp) (fun h1 => ?_) (fun h1 => ?_)
    · simp at h1
      have hrN : r < N := by omega
      refine awp_skip ?_
      first | show AWP _ _ _ _ _ | show ∃ _, _ | skip
      repeat refine awp_seq ?_
      refine awp_block ?_
      repeat refine awp_seq ?_
      refine awp_reg1 (by rw [hx]; kernel_rfl) fun K hK => ?_
      simp (config := { maxSteps := 1000000 }) []
      refine hK _ ?_
      clear hK K
      first | show AWP _ _ _ _ _ | show ∃ _, _ | skip
      repeat refine awp_seq ?_
      refine awp_reg1 (by rw [hx]; kernel_rfl) fun K hK => ?_
      simp (config := { maxSteps := 1000000 }) [ty25, ty23, s2]
      refine hK _ ?_
      clear hK K
      first | show AWP _ _ _ _ _ | show ∃ _, _ | skip
      repeat refine awp_seq ?_
      refine awp_block ?_
      refine awp_loop (fun c : Nat => ⟨ofL [(1, .ptr 1 3 0 0), (6, .int .u64 r), (16, .int .u64 N), (17, .int .u64 r), (23, .int .u64 M), (24, .int .u64 c)], stoT [(1, 1, .live (obPlat p))]⟩)
        (fun c => c ≤ M ∧ ∀ c', c' < c → ¬ SetP p r c') (fun c => M - c) 0 (by simp) ?_ ?_
      · refine wk_shape (shp0 hσ (by simp) (by simp) ?_) ?_
        · simp [SlotOk] <;> (repeat' (first | exact .same (by simp [purel, C.isPure]) | refine And.intro ?_ ?_))
        · simp [mtc, mtl, mT, C.isPure, purel] <;> (try simp (disch := omega) [wrap_id])
      · intro c ⟨hc1, hc2⟩
        repeat refine awp_seq ?_
        refine awp_reg1 (by rw [hx]; kernel_rfl) fun K hK => ?_
        simp (config := { maxSteps := 1000000 }) [ty65]
        refine hK _ ?_
        clear hK K
        first | show AWP _ _ _ _ _ | show ∃ _, _ | skip
        repeat refine awp_seq ?_
        refine awp_cond (by simp; rfl) (by rw [hx]; simp) (fun h2 => ?_) (fun h2 => ?_)
        · simp at h2
          have hcM : c < M := by omega
          refine awp_skip ?_
          first | show AWP _ _ _ _ _ | show ∃ _, _ | skip
          repeat refine awp_seq ?_
          refine awp_block ?_
          repeat refine awp_seq ?_
          refine awp_reg1 (by rw [hx]; kernel_rfl) fun K hK => ?_
          simp (config := { maxSteps := 1000000 }) []
          refine hK _ ?_
          clear hK K
          first | show AWP _ _ _ _ _ | show ∃ _, _ | skip
          by_cases hS : SetP p r c
          · repeat refine awp_seq ?_
            refine awp_reg1 (by rw [hx]; kernel_rfl) fun K hK => ?_
            simp (config := { maxSteps := 1000000 }) [ty25]
            refine callP (proves49 p r c hp (by omega) (by omega) true (by simp; exact hS)) (by first | (simp; done) | (simp [*]; done)) ?_
            simp (config := { maxSteps := 1000000 }) []
            refine hK _ ?_
            clear hK K
            first | show AWP _ _ _ _ _ | show ∃ _, _ | skip
            repeat refine awp_seq ?_
            refine awp_cond (by simp; rfl) (by rw [hx]; simp) (fun hd => ?_) (fun hd => ?_)
            · clear hd
              repeat refine awp_seq ?_
              refine awp_reg1 (by rw [hx]; kernel_rfl) fun K hK => ?_
              simp (config := { maxSteps := 1000000 }) []
              refine callP (list50 r (by omega)) (by first | (simp; done) | (simp [*]; done)) ?_
              simp (config := { maxSteps := 1000000 }) []
              refine callP (list50 c (by omega)) (by first | (simp; done) | (simp [*]; done)) ?_
              simp (config := { maxSteps := 1000000 }) []
              refine hK _ ?_
              clear hK K
              first | show AWP _ _ _ _ _ | show ∃ _, _ | skip
              have hrR : r = R0 := by
                apply Classical.byContradiction
                intro hne
                exact hno r (by omega) c hcM hS
              subst hrR
              rcases hstop with ⟨e1, _⟩ | ⟨_, c0, e1, e2, e3, e4⟩
              · omega
              · have : c = c0 := by
                  apply Classical.byContradiction
                  intro hne
                  by_cases hlt : c < c0
                  · exact e3 c hlt hS
                  · exact hc2 c0 (by omega) e2
                subst this
                repeat refine awp_seq ?_
                refine awp_ret ?_
                refine And.intro (Or.inr rfl) ?_
                rw [e4]
                simp [retC, resC, viewC, mapO, encSet, purel, C.isPure]
            · simp at hd
          · repeat refine awp_seq ?_
            refine awp_reg1 (by rw [hx]; kernel_rfl) fun K hK => ?_
            simp (config := { maxSteps := 1000000 }) [ty25]
            refine callP (proves49 p r c hp (by omega) (by omega) false (by simp; exact hS)) (by first | (simp; done) | (simp [*]; done)) ?_
            simp (config := { maxSteps := 1000000 }) []
            refine hK _ ?_
            clear hK K
            first | show AWP _ _ _ _ _ | show ∃ _, _ | skip
            repeat refine awp_seq ?_
            refine awp_cond (by simp; rfl) (by rw [hx]; simp) (fun hd => ?_) (fun hd => ?_)
            · simp at hd
            · refine awp_skip ?_
              first | show AWP _ _ _ _ _ | show ∃ _, _ | skip
              repeat refine awp_seq ?_
              refine awp_reg1 (by rw [hx]; kernel_rfl) fun K hK => ?_
              simp (config := { maxSteps := 1000000 }) [ty65]
              refine hK _ ?_
              clear hK K
              first | show AWP _ _ _ _ _ | show ∃ _, _ | skip
              have w1 : IntKind.u64.wrap ((c : Int) + 1) = (c : Int) + 1 := wrapu_id (by omega) (by omega)
              refine ⟨c + 1, ⟨by omega, fun c' h => ?_⟩, by omega, ?_⟩
              · by_cases hcc : c' = c
                · subst hcc; exact hS
                · exact hc2 c' (by omega)
              · refine wk_shape (shp0 hσ (by simp) (by simp) ?_) ?_
                · simp [SlotOk] <;> (repeat' (first | exact .same (by simp [purel, C.isPure]) | refine And.intro ?_ ?_))
                · simp [mtc, mtl, mT, C.isPure, purel, w1] <;> (try simp (disch := omega) [wrap_id])
        · simp at h2
          repeat refine awp_seq ?_
          refine awp_exit ?_
          first | show AWP _ _ _ _ _ | show ∃ _, _ | skip
          have hcM : c = M := by omega
          subst hcM
          have hrR : r ≠ R0 := by
            rintro rfl
            rcases hstop with ⟨e1, _⟩ | ⟨_, c0, e1, e2, e3, e4⟩
            · omega
            · exact hc2 c0 e1 e2
          repeat refine awp_seq ?_
          refine awp_reg1 (by rw [hx]; kernel_rfl) fun K hK => ?_
          simp (config := { maxSteps := 1000000 }) [ty65]
          refine hK _ ?_
          clear hK K
          first | show AWP _ _ _ _ _ | show ∃ _, _ | skip
          have w1 : IntKind.u64.wrap ((r : Int) + 1) = (r : Int) + 1 := wrapu_id (by omega) (by omega)
          refine ⟨r + 1, by omega, by omega, ?_⟩
          refine wk_shape (shp0 hσ (by simp) (by simp) ?_) ?_
          · simp [SlotOk] <;> (repeat' (first | exact .same (by simp [purel, C.isPure]) | refine And.intro ?_ ?_))
          · simp [mtc, mtl, mT, C.isPure, purel, w1] <;> (try simp (disch := omega) [wrap_id])
    · simp at h1
      repeat refine awp_seq ?_
      refine awp_exit ?_
      first | show AWP _ _ _ _ _ | show ∃ _, _ | skip
      repeat refine awp_seq ?_
      refine awp_reg1 (by rw [hx]; kernel_rfl) fun K hK => ?_
      simp (config := { maxSteps := 1000000 }) []
      refine hK _ ?_
      clear hK K
      first | show AWP _ _ _ _ _ | show ∃ _, _ | skip
      repeat refine awp_seq ?_
      refine awp_ret ?_
      refine And.intro (Or.inr rfl) ?_
      rcases hstop with ⟨e1, e2⟩ | ⟨e1, _⟩
      · rw [e2]
        simp [retC, resC, viewC, mapO]
      · omega

/-- Chain, of a valid plat. -/
theorem chain_c (p : Plat) (hp : PlatOk p) : ∃ o : Option (Nat × Nat), Pure Try.prog 15 [encPlat p] (match o with | some (r, c) => .tup [encSet r, encSet c, encI 0] | none => .tup [.sl true true [], .sl true true [], encI 3]) ∧
    match o with
    | some (r, c) => r < 2 ^ p.rows.length ∧ c < 2 ^ p.cols.length ∧ SetP p r c
    | none => ∀ r, r < 2 ^ p.rows.length → ∀ c, c < 2 ^ p.cols.length → ¬ SetP p r c := by
  by_cases hx : ∃ r, r < 2 ^ p.rows.length ∧ ∃ c, c < 2 ^ p.cols.length ∧ SetP p r c
  · obtain ⟨r, h1, h2⟩ := hx
    obtain ⟨R, e1, ⟨c, e2, e3⟩, e4⟩ := least_ex (P := fun r => ∃ c, c < 2 ^ p.cols.length ∧ SetP p r c) h2
    obtain ⟨c0, f1, f2, f3⟩ := least_ex (P := fun c => SetP p R c) e3
    exact ⟨some (R, c0), chain_ok p hp R _ (fun r hr c hc hs => e4 r hr ⟨c, hc, hs⟩) (.inr ⟨by omega, c0, by omega, f2, f3, rfl⟩), by omega, by omega, f2⟩
  · refine ⟨none, chain_ok p hp (2 ^ p.rows.length) _ (fun r hr c hc hs => hx ⟨r, hr, c, hc, hs⟩) (.inl ⟨rfl, rfl⟩), fun r hr c hc hs => hx ⟨r, hr, c, hc, hs⟩⟩

end Go.Proofs.Ytgcmjidphcafnaa

namespace Go.Proofs.Ytgcmjidphcafnaa
open Go Go.Abs

set_option maxHeartbeats 2000000

def memB (l : List Int) (i : Int) : Bool := decide (i ∈ l)

/-- A chain that proves something. -/
def ProvesP (p : Plat) (rs cs : List Int) : Prop := ListP rs p.rows.length ∧ ListP cs p.cols.length ∧ rs.length + cs.length ≠ 0 ∧ SurplusP p rs cs (memB rs) (memB cs)

theorem listP_at {l : List Int} {n i : Nat} (h : ListP l n) (hi : i < l.length) : 0 ≤ l[i] ∧ l[i].toNat < n := by
  have := h i hi
  simp only [List.getElem?_eq_getElem hi, Option.getD_some] at this
  omega

theorem proves18 (p : Plat) (n1 f1 n2 f2 : Bool) (rs cs : List Int) (hp : PlatOk p) (lr : rs.length ≤ 40) (lc : cs.length ≤ 40) (b : Bool) (hb : b = true ↔ ProvesP p rs cs) :
    Pure Try.prog 18 [encPlat p, .sl n1 f1 (rs.map cI), .sl n2 f2 (cs.map cI)] (.bool b) := by
  have h8 := hp.n8
  have hr4 := hp.r4
  have hc4 := hp.c4
  have bad : ¬ ProvesP p rs cs → b = false := fun hn => by
    cases b with
    | false => rfl
    | true => exact absurd (hb.1 rfl) hn
  refine pure_of (fn := Try.f18) [.tmp 6] ⟨Try.func18, rfl, by kernel_rfl⟩ (by kernel_rfl) (by kernel_rfl) (by kernel_rfl) fun x hx hσ => ?_
  repeat refine awp_seq ?_
  refine awp_reg1 (by rw [hx]; kernel_rfl) fun K hK => ?_
  simp (config := { maxSteps := 1000000 }) [ty25]
  refine hK _ ?_
  clear hK K
  first | show AWP _ _ _ _ _ | show ∃ _, _ | skip
  by_cases hR : ListP rs p.rows.length
  · have cr := isList_c n1 f1 rs p.rows.length (by omega) (by omega) true (by simp [hR])
    by_cases hC : ListP cs p.cols.length
    · have cc := isList_c n2 f2 cs p.cols.length (by omega) (by omega) true (by simp [hC])
      have w0 : IntKind.i64.wrap ((rs.length : Int) + cs.length) = ((rs.length + cs.length : Nat) : Int) := by rw [wrap_id (by omega) (by omega)]; omega
      repeat refine awp_seq ?_
      refine awp_reg1 (by rw [hx]; kernel_rfl) fun K hK => ?_
      simp (config := { maxSteps := 1000000 }) [ty25, ty23, ty3]
      refine callP cr (by simp) ?_
      simp [ty25, ty23, ty3]
      refine callP cc (by simp) ?_
      by_cases hz : rs.length + cs.length = 0
      · have hz' : (rs.length : Int) + cs.length = 0 := by omega
        simp [ty25, ty23, ty3, w0]
        refine hK _ ?_
        clear hK K
        first | show AWP _ _ _ _ _ | show ∃ _, _ | skip
        repeat refine awp_seq ?_
        refine awp_cond (by simp; rfl) (by rw [hx]; simp) (fun hd => ?_) (fun hd => ?_)
        · repeat refine awp_seq ?_
          refine awp_reg1 (by rw [hx]; kernel_rfl) fun K hK => ?_
          simp (config := { maxSteps := 1000000 }) []
          refine hK _ ?_
          clear hK K
          first | show AWP _ _ _ _ _ | show ∃ _, _ | skip
          repeat refine awp_seq ?_
          refine awp_ret ?_
          refine And.intro (Or.inr rfl) ?_
          have : b = false := bad fun h => h.2.2.1 hz
          simp [retC, resC, viewC, mapO, this]
        · simp at hd
          omega
      · simp [ty25, ty23, ty3, w0]
        refine hK _ ?_
        clear hK K
        first | show AWP _ _ _ _ _ | show ∃ _, _ | skip
        repeat refine awp_seq ?_
        refine awp_cond (by simp; rfl) (by rw [hx]; simp) (fun hd => ?_) (fun hd => ?_)
        · simp at hd
          omega
        clear hd
        refine awp_skip ?_
        first | show AWP _ _ _ _ _ | show ∃ _, _ | skip
        repeat refine awp_seq ?_
        refine awp_reg1 (by rw [hx]; kernel_rfl) fun K hK => ?_
        simp (config := { maxSteps := 1000000 }) []
        refine hK _ ?_
        clear hK K
        first | show AWP _ _ _ _ _ | show ∃ _, _ | skip
        repeat refine awp_seq ?_
        refine awp_reg1 (by rw [hx]; kernel_rfl) fun K hK => ?_
        simp (config := { maxSteps := 1000000 }) []
        refine hK _ ?_
        clear hK K
        first | show AWP _ _ _ _ _ | show ∃ _, _ | skip
        repeat refine awp_seq ?_
        refine awp_block ?_
        refine awp_loop (fun i : Nat => ⟨ofL [(1, .sl n1 f1 (rs.map cI)), (2, .sl n2 f2 (cs.map cI)), (3, .ptr 3 3 0 0), (7, encI (sumTo (sAt p.rows rs) i)), (8, encI 0), (9, encI 0), (10, encI i)], stoT [(3, 3, .live (obPlat p))]⟩)
          (fun i => i ≤ rs.length) (fun i => rs.length - i) 0 (by simp) ?_ ?_
        · refine wk_shape (shp0 hσ (by simp) (by simp) ?_) ?_
          · simp [SlotOk] <;> (repeat' (first | exact .same (by simp [purel, C.isPure]) | refine And.intro ?_ ?_))
          · simp [mtc, mtl, mT, C.isPure, purel, sumTo] <;> (try simp (disch := omega) [wrap_id])
        · intro i hi
          repeat refine awp_seq ?_
          refine awp_reg1 (by rw [hx]; kernel_rfl) fun K hK => ?_
          simp (config := { maxSteps := 1000000 }) [ty23]
          refine hK _ ?_
          clear hK K
          first | show AWP _ _ _ _ _ | show ∃ _, _ | skip
          repeat refine awp_seq ?_
          refine awp_cond (by simp; rfl) (by rw [hx]; simp) (fun h1 => ?_) (fun h1 => ?_)
          · simp at h1
            refine awp_skip ?_
            first | show AWP _ _ _ _ _ | show ∃ _, _ | skip
            repeat refine awp_seq ?_
            refine awp_block ?_
            obtain ⟨e1, e2⟩ := listP_at hR h1
            repeat refine awp_seq ?_
            refine awp_drw3 [] [0, 1, 2, 3, 4, 5, 6, 7, 8, 9, 10] (by rw [hx]; kernel_rfl) (by kernel_rfl) (by kernel_rfl) (by kernel_rfl) fun K hK => ?_
            simp (config := { maxSteps := 1000000 }) [ty25, ty23, ty3, h1, e1, e2]
            refine hK _ ?_
            clear hK K
            first | show AWP _ _ _ _ _ | show ∃ _, _ | skip
            repeat refine awp_seq ?_
            refine awp_reg1 (by rw [hx]; kernel_rfl) fun K hK => ?_
            simp (config := { maxSteps := 1000000 }) [ty3]
            refine hK _ ?_
            clear hK K
            first | show AWP _ _ _ _ _ | show ∃ _, _ | skip
            refine ⟨i + 1, by omega, by omega, ?_⟩
            have s1 := sumTo_le (f := sAt p.rows rs) (b := 9999) (n := i) fun j _ => sAt_bd hp.rows j
            have s2 := sAt_bd (l := rs) hp.rows i
            have e3 : p.rows[rs[i].toNat] = sAt p.rows rs i := by simp [sAt, h1, e2]
            have w1 : IntKind.i64.wrap (sumTo (sAt p.rows rs) i + sAt p.rows rs i) = sumTo (sAt p.rows rs) i + sAt p.rows rs i := wrap_id (by omega) (by omega)
            refine wk_shape (shp0 hσ (by simp) (by simp) ?_) ?_
            · simp [SlotOk] <;> (repeat' (first | exact .same (by simp [purel, C.isPure]) | refine And.intro ?_ ?_))
            · simp [mtc, mtl, mT, C.isPure, purel, sumTo, e3, w1] <;> (try simp (disch := omega) [wrap_id])
          · simp at h1
            repeat refine awp_seq ?_
            refine awp_exit ?_
            first | show AWP _ _ _ _ _ | show ∃ _, _ | skip
            have : i = rs.length := by omega
            subst this
            generalize hS : sumTo (sAt p.rows rs) rs.length = S at *
            have hSb : -999999 ≤ S ∧ S ≤ 999999 := by
              have s1 := sumTo_le (f := sAt p.rows rs) (b := 9999) (n := rs.length) fun j _ => sAt_bd hp.rows j
              omega
            repeat refine awp_seq ?_
            refine awp_reg1 (by rw [hx]; kernel_rfl) fun K hK => ?_
            simp (config := { maxSteps := 1000000 }) []
            refine hK _ ?_
            clear hK K
            first | show AWP _ _ _ _ _ | show ∃ _, _ | skip
            repeat refine awp_seq ?_
            refine awp_block ?_
            refine awp_loop (fun i : Nat => ⟨ofL [(1, .sl n1 f1 (rs.map cI)), (2, .sl n2 f2 (cs.map cI)), (3, .ptr 3 3 0 0), (7, encI (S - sumTo (sAt p.cols cs) i)), (8, encI 0), (9, encI 0), (11, encI i)], stoT [(3, 3, .live (obPlat p))]⟩)
              (fun i => i ≤ cs.length) (fun i => cs.length - i) 0 (by simp) ?_ ?_
            · refine wk_shape (shp0 hσ (by simp) (by simp) ?_) ?_
              · simp [SlotOk] <;> (repeat' (first | exact .same (by simp [purel, C.isPure]) | refine And.intro ?_ ?_))
              · simp [mtc, mtl, mT, C.isPure, purel, sumTo] <;> (try simp (disch := omega) [wrap_id])
            · intro i hi
              repeat refine awp_seq ?_
              refine awp_reg1 (by rw [hx]; kernel_rfl) fun K hK => ?_
              simp (config := { maxSteps := 1000000 }) [ty23]
              refine hK _ ?_
              clear hK K
              first | show AWP _ _ _ _ _ | show ∃ _, _ | skip
              repeat refine awp_seq ?_
              refine awp_cond (by simp; rfl) (by rw [hx]; simp) (fun h2 => ?_) (fun h2 => ?_)
              · simp at h2
                refine awp_skip ?_
                first | show AWP _ _ _ _ _ | show ∃ _, _ | skip
                repeat refine awp_seq ?_
                refine awp_block ?_
                obtain ⟨e1, e2⟩ := listP_at hC h2
                repeat refine awp_seq ?_
                refine awp_drw3 [] [0, 1, 2, 3, 4, 5, 6, 7, 8, 9, 10] (by rw [hx]; kernel_rfl) (by kernel_rfl) (by kernel_rfl) (by kernel_rfl) fun K hK => ?_
                simp (config := { maxSteps := 1000000 }) [ty25, ty23, ty3, h2, e1, e2]
                refine hK _ ?_
                clear hK K
                first | show AWP _ _ _ _ _ | show ∃ _, _ | skip
                repeat refine awp_seq ?_
                refine awp_reg1 (by rw [hx]; kernel_rfl) fun K hK => ?_
                simp (config := { maxSteps := 1000000 }) [ty3]
                refine hK _ ?_
                clear hK K
                first | show AWP _ _ _ _ _ | show ∃ _, _ | skip
                refine ⟨i + 1, by omega, by omega, ?_⟩
                have s1 := sumTo_le (f := sAt p.cols cs) (b := 9999) (n := i) fun j _ => sAt_bd hp.cols j
                have s2 := sAt_bd (l := cs) hp.cols i
                have e3 : p.cols[cs[i].toNat] = sAt p.cols cs i := by simp [sAt, h2, e2]
                have w1 : IntKind.i64.wrap (S - sumTo (sAt p.cols cs) i - sAt p.cols cs i) = S - (sumTo (sAt p.cols cs) i + sAt p.cols cs i) := by rw [wrap_id (by omega) (by omega)]; omega
                refine wk_shape (shp0 hσ (by simp) (by simp) ?_) ?_
                · simp [SlotOk] <;> (repeat' (first | exact .same (by simp [purel, C.isPure]) | refine And.intro ?_ ?_))
                · simp [mtc, mtl, mT, C.isPure, purel, sumTo, e3, w1] <;> (try simp (disch := omega) [wrap_id])
              · simp at h2
                repeat refine awp_seq ?_
                refine awp_exit ?_
                first | show AWP _ _ _ _ _ | show ∃ _, _ | skip
                have : i = cs.length := by omega
                subst this
                have hTb : -999999 ≤ sumTo (sAt p.cols cs) cs.length ∧ sumTo (sAt p.cols cs) cs.length ≤ 999999 := by
                  have s1 := sumTo_le (f := sAt p.cols cs) (b := 9999) (n := cs.length) fun j _ => sAt_bd hp.cols j
                  omega
                repeat refine awp_seq ?_
                refine awp_reg1 (by rw [hx]; kernel_rfl) fun K hK => ?_
                simp (config := { maxSteps := 1000000 }) []
                refine hK _ ?_
                clear hK K
                first | show AWP _ _ _ _ _ | show ∃ _, _ | skip
                repeat refine awp_seq ?_
                refine awp_block ?_
                refine awp_loop (fun i : Nat => ⟨ofL [(1, .sl n1 f1 (rs.map cI)), (2, .sl n2 f2 (cs.map cI)), (3, .ptr 3 3 0 0), (7, encI (S - sumTo (sAt p.cols cs) cs.length)), (8, encI (sumTo (lowF p (memB rs) (memB cs)) i)), (9, encI (sumTo (highF p (memB rs) (memB cs)) i)), (12, encI i)], stoT [(3, 3, .live (obPlat p))]⟩)
                  (fun i => i ≤ p.ps.length) (fun i => p.ps.length - i) 0 (by simp) ?_ ?_
                · refine wk_shape (shp0 hσ (by simp) (by simp) ?_) ?_
                  · simp [SlotOk] <;> (repeat' (first | exact .same (by simp [purel, C.isPure]) | refine And.intro ?_ ?_))
                  · simp [mtc, mtl, mT, C.isPure, purel, sumTo] <;> (try simp (disch := omega) [wrap_id])
                · intro i hi
                  have s1 := sumTo_le (f := lowF p (memB rs) (memB cs)) (b := 1098) (n := i) fun j _ => lowF_bd hp _ _ j
                  have s2 := sumTo_le (f := highF p (memB rs) (memB cs)) (b := 1098) (n := i) fun j _ => highF_bd hp _ _ j
                  repeat refine awp_seq ?_
                  refine awp_reg1 (by rw [hx]; kernel_rfl) fun K hK => ?_
                  simp (config := { maxSteps := 1000000 }) [ty25, ty22]
                  refine hK _ ?_
                  clear hK K
                  first | show AWP _ _ _ _ _ | show ∃ _, _ | skip
                  repeat refine awp_seq ?_
                  refine awp_cond (by simp; rfl) (by rw [hx]; simp) (fun h3 => ?_) (fun h3 => ?_)
                  · simp at h3
                    refine awp_skip ?_
                    first | show AWP _ _ _ _ _ | show ∃ _, _ | skip
                    repeat refine awp_seq ?_
                    refine awp_block ?_
                    have hq := hp.ps _ (List.getElem_mem h3)
                    have heb := ends_bd hp i
                    have egd : p.ps[i]?.getD p0 = p.ps[i] := by simp [h3]
                    rw [egd] at heb
                    repeat refine awp_seq ?_
                    refine awp_reg1 (by rw [hx]; kernel_rfl) fun K hK => ?_
                    simp (config := { maxSteps := 1000000 }) [ty25, ty22, ty45, h3]
                    refine hK _ ?_
                    clear hK K
                    first | show AWP _ _ _ _ _ | show ∃ _, _ | skip
                    repeat refine awp_seq ?_
                    refine awp_drw3 [] [0, 1, 2, 3, 4, 5, 6, 7, 8, 9] (by rw [hx]; kernel_rfl) (by kernel_rfl) (by kernel_rfl) (by kernel_rfl) fun K hK => ?_
                    simp (config := { maxSteps := 1000000 }) [ty45, ty3]
                    refine callPD (in53 n1 f1 rs p.ps[i].row (by omega)) (by first | (simp; done) | (simp [*]; done)) (by simp) ?_
                    simp (config := { maxSteps := 1000000 }) [ty45, ty3]
                    refine callPD (in53 n2 f2 cs p.ps[i].col (by omega)) (by first | (simp; done) | (simp [*]; done)) (by simp) ?_
                    simp (config := { maxSteps := 1000000 }) [ty45, ty3]
                    refine hK _ ?_
                    clear hK K
                    first | show AWP _ _ _ _ _ | show ∃ _, _ | skip
                    by_cases hRi : p.ps[i].row ∈ rs
                    · by_cases hCi : p.ps[i].col ∈ cs
                      · repeat refine awp_seq ?_
                        refine awp_reg1 (by rw [hx]; kernel_rfl) fun K hK => ?_
                        simp (config := { maxSteps := 1000000 }) [hRi, hCi]
                        refine hK _ ?_
                        clear hK K
                        first | show AWP _ _ _ _ _ | show ∃ _, _ | skip
                        repeat refine awp_seq ?_
                        refine awp_cond (by simp; rfl) (by rw [hx]; simp) (fun hd => ?_) (fun hd => ?_)
                        · simp at hd
                        · refine awp_skip ?_
                          first | show AWP _ _ _ _ _ | show ∃ _, _ | skip
                          repeat refine awp_seq ?_
                          refine awp_reg1 (by rw [hx]; kernel_rfl) fun K hK => ?_
                          simp (config := { maxSteps := 1000000 }) [hRi, hCi]
                          refine hK _ ?_
                          clear hK K
                          first | show AWP _ _ _ _ _ | show ∃ _, _ | skip
                          repeat refine awp_seq ?_
                          refine awp_cond (by simp; rfl) (by rw [hx]; simp) (fun hd => ?_) (fun hd => ?_)
                          · simp at hd
                          · refine awp_skip ?_
                            first | show AWP _ _ _ _ _ | show ∃ _, _ | skip
                            repeat refine awp_seq ?_
                            refine awp_reg1 (by rw [hx]; kernel_rfl) fun K hK => ?_
                            simp (config := { maxSteps := 1000000 }) [ty3]
                            refine hK _ ?_
                            clear hK K
                            first | show AWP _ _ _ _ _ | show ∃ _, _ | skip
                            refine ⟨i + 1, by omega, by omega, ?_⟩
                            have e1 : lowF p (memB rs) (memB cs) i = 0 := by simp [lowF, memB, egd, hRi, hCi]
                            have e2 : highF p (memB rs) (memB cs) i = 0 := by simp [highF, memB, egd, hRi, hCi]
                            refine wk_shape (shp0 hσ (by simp) (by simp) ?_) ?_
                            · simp [SlotOk] <;> (repeat' (first | exact .same (by simp [purel, C.isPure]) | refine And.intro ?_ ?_))
                            · simp [mtc, mtl, mT, C.isPure, purel, sumTo, e1, e2] <;> (try simp (disch := omega) [wrap_id])
                      · repeat refine awp_seq ?_
                        refine awp_reg1 (by rw [hx]; kernel_rfl) fun K hK => ?_
                        simp (config := { maxSteps := 1000000 }) [hRi, hCi]
                        refine hK _ ?_
                        clear hK K
                        first | show AWP _ _ _ _ _ | show ∃ _, _ | skip
                        repeat refine awp_seq ?_
                        refine awp_cond (by simp; rfl) (by rw [hx]; simp) (fun hd => ?_) (fun hd => ?_)
                        · repeat refine awp_seq ?_
                          refine awp_drw3 [] [0, 1, 2, 3, 4, 5, 6, 7, 8, 9] (by rw [hx]; kernel_rfl) (by kernel_rfl) (by kernel_rfl) (by kernel_rfl) fun K hK => ?_
                          simp (config := { maxSteps := 1000000 }) [ty45, ty3]
                          refine callPD (low_c p.ps[i] hq) (by first | (simp; done) | (simp [*]; done)) (by simp) ?_
                          simp (config := { maxSteps := 1000000 }) [ty45, ty3]
                          refine callPD (high_c p.ps[i] hq) (by first | (simp; done) | (simp [*]; done)) (by simp) ?_
                          simp (config := { maxSteps := 1000000 }) [ty45, ty3]
                          have e1 : lowF p (memB rs) (memB cs) i = lowI p.ps[i] := by simp [lowF, memB, egd, hRi, hCi]
                          have e2 : highF p (memB rs) (memB cs) i = highI p.ps[i] := by simp [highF, memB, egd, hRi, hCi]
                          have w1 : IntKind.i64.wrap (sumTo (lowF p (memB rs) (memB cs)) i + lowI p.ps[i]) = sumTo (lowF p (memB rs) (memB cs)) i + lowI p.ps[i] := wrap_id (by omega) (by omega)
                          have w2 : IntKind.i64.wrap (sumTo (highF p (memB rs) (memB cs)) i + highI p.ps[i]) = sumTo (highF p (memB rs) (memB cs)) i + highI p.ps[i] := wrap_id (by omega) (by omega)
                          refine hK _ ?_
                          clear hK K
                          first | show AWP _ _ _ _ _ | show ∃ _, _ | skip
                          repeat refine awp_seq ?_
                          refine awp_reg1 (by rw [hx]; kernel_rfl) fun K hK => ?_
                          simp (config := { maxSteps := 1000000 }) [hRi, hCi]
                          refine hK _ ?_
                          clear hK K
                          first | show AWP _ _ _ _ _ | show ∃ _, _ | skip
                          repeat refine awp_seq ?_
                          refine awp_cond (by simp; rfl) (by rw [hx]; simp) (fun hd => ?_) (fun hd => ?_)
                          · simp at hd
                          · refine awp_skip ?_
                            first | show AWP _ _ _ _ _ | show ∃ _, _ | skip
                            repeat refine awp_seq ?_
                            refine awp_reg1 (by rw [hx]; kernel_rfl) fun K hK => ?_
                            simp (config := { maxSteps := 1000000 }) [ty3]
                            refine hK _ ?_
                            clear hK K
                            first | show AWP _ _ _ _ _ | show ∃ _, _ | skip
                            refine ⟨i + 1, by omega, by omega, ?_⟩
                            refine wk_shape (shp0 hσ (by simp) (by simp) ?_) ?_
                            · simp [SlotOk] <;> (repeat' (first | exact .same (by simp [purel, C.isPure]) | refine And.intro ?_ ?_))
                            · simp [mtc, mtl, mT, C.isPure, purel, sumTo, e1, e2, w1, w2] <;> (try simp (disch := omega) [wrap_id])
                        · simp at hd
                    · by_cases hCi : p.ps[i].col ∈ cs
                      · repeat refine awp_seq ?_
                        refine awp_reg1 (by rw [hx]; kernel_rfl) fun K hK => ?_
                        simp (config := { maxSteps := 1000000 }) [hRi, hCi]
                        refine hK _ ?_
                        clear hK K
                        first | show AWP _ _ _ _ _ | show ∃ _, _ | skip
                        repeat refine awp_seq ?_
                        refine awp_cond (by simp; rfl) (by rw [hx]; simp) (fun hd => ?_) (fun hd => ?_)
                        · simp at hd
                        · refine awp_skip ?_
                          first | show AWP _ _ _ _ _ | show ∃ _, _ | skip
                          repeat refine awp_seq ?_
                          refine awp_reg1 (by rw [hx]; kernel_rfl) fun K hK => ?_
                          simp (config := { maxSteps := 1000000 }) [hRi, hCi]
                          refine hK _ ?_
                          clear hK K
                          first | show AWP _ _ _ _ _ | show ∃ _, _ | skip
                          repeat refine awp_seq ?_
                          refine awp_cond (by simp; rfl) (by rw [hx]; simp) (fun hd => ?_) (fun hd => ?_)
                          · repeat refine awp_seq ?_
                            refine awp_drw3 [] [0, 1, 2, 3, 4, 5, 6, 7, 8, 9] (by rw [hx]; kernel_rfl) (by kernel_rfl) (by kernel_rfl) (by kernel_rfl) fun K hK => ?_
                            simp (config := { maxSteps := 1000000 }) [ty45, ty3]
                            refine callPD (high_c p.ps[i] hq) (by first | (simp; done) | (simp [*]; done)) (by simp) ?_
                            simp (config := { maxSteps := 1000000 }) [ty45, ty3]
                            refine callPD (low_c p.ps[i] hq) (by first | (simp; done) | (simp [*]; done)) (by simp) ?_
                            simp (config := { maxSteps := 1000000 }) [ty45, ty3]
                            have e1 : lowF p (memB rs) (memB cs) i = -highI p.ps[i] := by simp [lowF, memB, egd, hRi, hCi]
                            have e2 : highF p (memB rs) (memB cs) i = -lowI p.ps[i] := by simp [highF, memB, egd, hRi, hCi]
                            have w1 : IntKind.i64.wrap (sumTo (lowF p (memB rs) (memB cs)) i - highI p.ps[i]) = sumTo (lowF p (memB rs) (memB cs)) i + -highI p.ps[i] := by rw [wrap_id (by omega) (by omega)]; omega
                            have w2 : IntKind.i64.wrap (sumTo (highF p (memB rs) (memB cs)) i - lowI p.ps[i]) = sumTo (highF p (memB rs) (memB cs)) i + -lowI p.ps[i] := by rw [wrap_id (by omega) (by omega)]; omega
                            refine hK _ ?_
                            clear hK K
                            first | show AWP _ _ _ _ _ | show ∃ _, _ | skip
                            repeat refine awp_seq ?_
                            refine awp_reg1 (by rw [hx]; kernel_rfl) fun K hK => ?_
                            simp (config := { maxSteps := 1000000 }) [ty3]
                            refine hK _ ?_
                            clear hK K
                            first | show AWP _ _ _ _ _ | show ∃ _, _ | skip
                            refine ⟨i + 1, by omega, by omega, ?_⟩
                            refine wk_shape (shp0 hσ (by simp) (by simp) ?_) ?_
                            · simp [SlotOk] <;> (repeat' (first | exact .same (by simp [purel, C.isPure]) | refine And.intro ?_ ?_))
                            · simp [mtc, mtl, mT, C.isPure, purel, sumTo, e1, e2, w1, w2] <;> (try simp (disch := omega) [wrap_id])
                          · simp at hd
                      · repeat refine awp_seq ?_
                        refine awp_reg1 (by rw [hx]; kernel_rfl) fun K hK => ?_
                        simp (config := { maxSteps := 1000000 }) [hRi, hCi]
                        refine hK _ ?_
                        clear hK K
                        first | show AWP _ _ _ _ _ | show ∃ _, _ | skip
                        repeat refine awp_seq ?_
                        refine awp_cond (by simp; rfl) (by rw [hx]; simp) (fun hd => ?_) (fun hd => ?_)
                        · simp at hd
                        · refine awp_skip ?_
                          first | show AWP _ _ _ _ _ | show ∃ _, _ | skip
                          repeat refine awp_seq ?_
                          refine awp_reg1 (by rw [hx]; kernel_rfl) fun K hK => ?_
                          simp (config := { maxSteps := 1000000 }) [hRi, hCi]
                          refine hK _ ?_
                          clear hK K
                          first | show AWP _ _ _ _ _ | show ∃ _, _ | skip
                          repeat refine awp_seq ?_
                          refine awp_cond (by simp; rfl) (by rw [hx]; simp) (fun hd => ?_) (fun hd => ?_)
                          · simp at hd
                          · refine awp_skip ?_
                            first | show AWP _ _ _ _ _ | show ∃ _, _ | skip
                            repeat refine awp_seq ?_
                            refine awp_reg1 (by rw [hx]; kernel_rfl) fun K hK => ?_
                            simp (config := { maxSteps := 1000000 }) [ty3]
                            refine hK _ ?_
                            clear hK K
                            first | show AWP _ _ _ _ _ | show ∃ _, _ | skip
                            refine ⟨i + 1, by omega, by omega, ?_⟩
                            have e1 : lowF p (memB rs) (memB cs) i = 0 := by simp [lowF, memB, egd, hRi, hCi]
                            have e2 : highF p (memB rs) (memB cs) i = 0 := by simp [highF, memB, egd, hRi, hCi]
                            refine wk_shape (shp0 hσ (by simp) (by simp) ?_) ?_
                            · simp [SlotOk] <;> (repeat' (first | exact .same (by simp [purel, C.isPure]) | refine And.intro ?_ ?_))
                            · simp [mtc, mtl, mT, C.isPure, purel, sumTo, e1, e2] <;> (try simp (disch := omega) [wrap_id])
                  · simp at h3
                    repeat refine awp_seq ?_
                    refine awp_exit ?_
                    first | show AWP _ _ _ _ _ | show ∃ _, _ | skip
                    have : i = p.ps.length := by omega
                    subst this
                    unfold ProvesP SurplusP at hb
                    rw [hS] at hb
                    by_cases g : S - sumTo (sAt p.cols cs) cs.length < sumTo (lowF p (memB rs) (memB cs)) p.ps.length
                    · repeat refine awp_seq ?_
                      refine awp_reg1 (by rw [hx]; kernel_rfl) fun K hK => ?_
                      simp (config := { maxSteps := 1000000 }) [ty3, g]
                      refine hK _ ?_
                      clear hK K
                      first | show AWP _ _ _ _ _ | show ∃ _, _ | skip
                      repeat refine awp_seq ?_
                      refine awp_ret ?_
                      refine And.intro (Or.inr rfl) ?_
                      have : b = true := hb.2 ⟨hR, hC, hz, .inl g⟩
                      simp [retC, resC, viewC, mapO, this]
                    · repeat refine awp_seq ?_
                      refine awp_reg1 (by rw [hx]; kernel_rfl) fun K hK => ?_
                      simp (config := { maxSteps := 1000000 }) [ty3, g]
                      refine hK _ ?_
                      clear hK K
                      first | show AWP _ _ _ _ _ | show ∃ _, _ | skip
                      repeat refine awp_seq ?_
                      refine awp_ret ?_
                      refine And.intro (Or.inr rfl) ?_
                      by_cases g2 : sumTo (highF p (memB rs) (memB cs)) p.ps.length < S - sumTo (sAt p.cols cs) cs.length
                      · have : b = true := hb.2 ⟨hR, hC, hz, .inr g2⟩
                        simp [retC, resC, viewC, mapO, this, g2]
                      · have : b = false := by
                          cases b with
                          | false => rfl
                          | true => rcases (hb.1 rfl).2.2.2 with h | h <;> omega
                        simp [retC, resC, viewC, mapO, this, g2]
    · have cc := isList_c n2 f2 cs p.cols.length (by omega) (by omega) false (by simp [hC])
      repeat refine awp_seq ?_
      refine awp_reg1 (by rw [hx]; kernel_rfl) fun K hK => ?_
      simp (config := { maxSteps := 1000000 }) [ty25, ty23, ty3]
      refine callP cr (by simp) ?_
      simp [ty25, ty23, ty3]
      refine callP cc (by simp) ?_
      simp [ty25, ty23, ty3]
      refine hK _ ?_
      clear hK K
      first | show AWP _ _ _ _ _ | show ∃ _, _ | skip
      repeat refine awp_seq ?_
      refine awp_cond (by simp; rfl) (by rw [hx]; simp) (fun hd => ?_) (fun hd => ?_)
      · repeat refine awp_seq ?_
        refine awp_reg1 (by rw [hx]; kernel_rfl) fun K hK => ?_
        simp (config := { maxSteps := 1000000 }) []
        refine hK _ ?_
        clear hK K
        first | show AWP _ _ _ _ _ | show ∃ _, _ | skip
        repeat refine awp_seq ?_
        refine awp_ret ?_
        refine And.intro (Or.inr rfl) ?_
        have : b = false := bad fun h => hC h.2.1
        simp [retC, resC, viewC, mapO, this]
      · simp at hd
  · have cr := isList_c n1 f1 rs p.rows.length (by omega) (by omega) false (by simp [hR])
    repeat refine awp_seq ?_
    refine awp_reg1 (by rw [hx]; kernel_rfl) fun K hK => ?_
    simp (config := { maxSteps := 1000000 }) [ty25, ty23, ty3]
    refine callP cr (by simp) ?_
    simp [ty25, ty23, ty3]
    refine hK _ ?_
    clear hK K
    first | show AWP _ _ _ _ _ | show ∃ _, _ | skip
    repeat refine awp_seq ?_
    refine awp_cond (by simp; rfl) (by rw [hx]; simp) (fun hd => ?_) (fun hd => ?_)
    · repeat refine awp_seq ?_
      refine awp_reg1 (by rw [hx]; kernel_rfl) fun K hK => ?_
      simp (config := { maxSteps := 1000000 }) []
      refine hK _ ?_
      clear hK K
      first | show AWP _ _ _ _ _ | show ∃ _, _ | skip
      repeat refine awp_seq ?_
      refine awp_ret ?_
      refine And.intro (Or.inr rfl) ?_
      have : b = false := bad fun h => hR h.1
      simp [retC, resC, viewC, mapO, this]
    · simp at hd

end Go.Proofs.Ytgcmjidphcafnaa

/- The law of the cheapest ways: what rounds over the parcels do to costs and steps, and that they end. No condition. -/
namespace Go.Proofs.Ytgcmjidphcafnaa.Flow

abbrev gi (l : List Int) (i : Nat) : Int := l[i]?.getD 0

theorem gi_set {l : List Int} {i j : Nat} {v : Int} (h : i < l.length) : gi (l.set i v) j = if j = i then v else gi l j := by
  unfold gi
  by_cases hj : j = i
  · subst hj; simp [h]
  · rw [List.getElem?_set_ne (fun e => hj e.symm)]; simp [hj]

structure Stp where
  pc : Int
  by_ : Int
  frm : Int

abbrev gs (l : List Stp) (i : Nat) : Stp := l[i]?.getD ⟨0, 0, 0⟩

theorem gs_set {l : List Stp} {i j : Nat} {v : Stp} (h : i < l.length) : gs (l.set i v) j = if j = i then v else gs l j := by
  unfold gs
  by_cases hj : j = i
  · subst hj; simp [h]
  · rw [List.getElem?_set_ne (fun e => hj e.symm)]; simp [hj]

/-- A net: nodes below 'N', edges below 'm'. -/
structure Gr where
  N : Nat
  m : Nat
  fr : Nat → Nat
  to : Nat → Nat
  lo : Nat → Int
  hi : Nat → Int
  ar : Nat → Int

structure GrOk (g : Gr) : Prop where
  fr : ∀ i, i < g.m → g.fr i < g.N
  to : ∀ i, i < g.m → g.to i < g.N

def far : Int := 1073741824

def prI (a b m : Int) : Int := max (b - m) (m - b) - max (a - m) (m - a)

theorem prI_up (a m : Int) : prI a (a + 1) m = 1 ∨ prI a (a + 1) m = -1 := by unfold prI; omega
theorem prI_dn (a m : Int) : prI a (a - 1) m = 1 ∨ prI a (a - 1) m = -1 := by unfold prI; omega

/-- A step that is free: edge 'i', by 'd', from 'u' to 'v'. -/
def Res (g : Gr) (now : List Int) (i : Nat) (d : Int) (u v : Nat) : Prop :=
  i < g.m ∧ u ≠ v ∧ ((d = 1 ∧ g.fr i = u ∧ g.to i = v ∧ gi now i < g.hi i) ∨ (d = -1 ∧ g.to i = u ∧ g.fr i = v ∧ g.lo i < gi now i))

abbrev pr (g : Gr) (now : List Int) (i : Nat) (d : Int) : Int := prI (gi now i) (gi now i + d) (g.ar i)

theorem Res.pr1 {g : Gr} {now : List Int} {i : Nat} {d : Int} {u v : Nat} (h : Res g now i d u v) : pr g now i d = 1 ∨ pr g now i d = -1 := by
  obtain ⟨_, _, h⟩ := h
  rcases h with ⟨rfl, _⟩ | ⟨rfl, _⟩
  · exact prI_up _ _
  · exact prI_dn _ _

theorem Res.lt {g : Gr} (hg : GrOk g) {now : List Int} {i : Nat} {d : Int} {u v : Nat} (h : Res g now i d u v) : u < g.N ∧ v < g.N := by
  obtain ⟨hi, _, h⟩ := h
  have h1 := hg.fr i hi
  have h2 := hg.to i hi
  rcases h with ⟨_, rfl, rfl, _⟩ | ⟨_, rfl, rfl, _⟩ <;> exact ⟨‹_›, ‹_›⟩

/-- Prices of nodes under which no step is too cheap. -/
def Pot (g : Gr) (now : List Int) (π : Nat → Int) : Prop := ∀ i d u v, Res g now i d u v → π v - π u ≤ pr g now i d

structure St where
  cost : List Int
  by_ : List Stp
  ch : Bool

def tryS (s : St) (st : Stp) (u v : Nat) (price : Int) : St :=
  if gi s.cost u < far ∧ gi s.cost u + price < gi s.cost v then ⟨s.cost.set v (gi s.cost u + price), s.by_.set v st, true⟩ else s

def stp1 (g : Gr) (now : List Int) (i : Nat) (s : St) : St :=
  if gi now i < g.hi i then tryS s ⟨i, 1, g.fr i⟩ (g.fr i) (g.to i) (pr g now i 1) else s
def stp2 (g : Gr) (now : List Int) (i : Nat) (s : St) : St :=
  if g.lo i < gi now i then tryS s ⟨i, -1, g.to i⟩ (g.to i) (g.fr i) (pr g now i (-1)) else s
def stp (g : Gr) (now : List Int) (i : Nat) (s : St) : St := if g.fr i = g.to i then s else stp2 g now i (stp1 g now i s)

def rnd (g : Gr) (now : List Int) : Nat → St → St
  | 0, s => s
  | k + 1, s => stp g now k (rnd g now k s)

def cost0 (exc : List Int) : List Int := exc.map fun e => if e ≤ 0 then far else 0
def by0 (n : Nat) : List Stp := List.replicate n ⟨0, 0, -1⟩

def rn (g : Gr) (now exc : List Int) : Nat → St
  | 0 => ⟨cost0 exc, by0 exc.length, true⟩
  | k + 1 => rnd g now g.m { rn g now exc k with ch := false }

/-- What holds all the way. -/
structure BI (g : Gr) (now exc : List Int) (s : St) (t : Nat → Nat) (T : Nat) : Prop where
  lc : s.cost.length = g.N
  lb : s.by_.length = g.N
  far : ∀ v, v < g.N → gi s.cost v ≤ far
  root : ∀ v, v < g.N → (gs s.by_ v).frm = -1 → gi s.cost v = if gi exc v ≤ 0 then Flow.far else 0
  link : ∀ v, v < g.N → (gs s.by_ v).frm ≠ -1 → gi s.cost v < Flow.far ∧ ∃ u i : Nat, u < g.N ∧ (gs s.by_ v).frm = u ∧ (gs s.by_ v).pc = i ∧ Res g now i (gs s.by_ v).by_ u v ∧ gi s.cost u < Flow.far ∧
    gi s.cost u + pr g now i (gs s.by_ v).by_ ≤ gi s.cost v ∧ (gi s.cost u + pr g now i (gs s.by_ v).by_ = gi s.cost v → t u < t v)
  tt : ∀ v, v < g.N → t v < T

theorem BI.init {g : Gr} {now exc : List Int} (he : exc.length = g.N) (c : Bool) : BI g now exc ⟨cost0 exc, by0 exc.length, c⟩ (fun _ => 0) 1 := by
  have hc : ∀ v, v < g.N → gi (cost0 exc) v = if gi exc v ≤ 0 then Flow.far else 0 := by
    intro v hv
    have : v < exc.length := by omega
    simp [gi, cost0, this]
  have hb : ∀ v, v < g.N → gs (by0 exc.length) v = ⟨0, 0, -1⟩ := by
    intro v hv
    have : v < exc.length := by omega
    simp [gs, by0, this]
  refine ⟨by simp [cost0, he], by simp [by0, he], fun v hv => ?_, fun v hv _ => hc v hv, fun v hv h => ?_, fun v _ => by omega⟩
  · show gi (cost0 exc) v ≤ _
    rw [hc v hv]; unfold Flow.far; split <;> omega
  · exact absurd (by show (gs (by0 exc.length) v).frm = -1; rw [hb v hv]) h

theorem BI.tryS {g : Gr} (hg : GrOk g) {now exc : List Int} {s : St} {t : Nat → Nat} {T : Nat} (h : BI g now exc s t T) {i : Nat} {d : Int} {u v : Nat} (hr : Res g now i d u v) :
    ∃ t' T', BI g now exc (tryS s ⟨i, d, u⟩ u v (pr g now i d)) t' T' := by
  unfold Flow.tryS
  split
  · rename_i hc
    obtain ⟨c1, c2⟩ := hc
    obtain ⟨hu, hv⟩ := hr.lt hg
    have hlc : v < s.cost.length := by rw [h.lc]; exact hv
    have hlb : v < s.by_.length := by rw [h.lb]; exact hv
    have hfv := h.far v hv
    have hne : u ≠ v := hr.2.1
    refine ⟨fun x => if x = v then T else t x, T + 1, by simp [h.lc], by simp [h.lb], fun x hx => ?_, fun x hx hfx => ?_, fun x hx hfx => ?_, fun x hx => ?_⟩
    · simp only [gi_set hlc]
      split
      · omega
      · exact h.far x hx
    · simp only [gi_set hlc]
      simp only [gs_set hlb] at hfx
      split
      · rename_i e
        subst e
        simp at hfx
        try omega
      · rename_i e
        rw [if_neg e] at hfx
        exact h.root x hx hfx
    · simp only [gi_set hlc]
      simp only [gs_set hlb] at hfx ⊢
      by_cases e : x = v
      · subst e
        simp only [if_true]
        refine ⟨by omega, u, i, hu, rfl, rfl, hr, ?_, ?_, ?_⟩
        · rw [if_neg hne]; exact c1
        · rw [if_neg hne]; exact Int.le_refl _
        · intro _
          rw [if_neg hne]
          exact h.tt u hu
      · simp only [if_neg e] at hfx ⊢
        obtain ⟨l1, u', i', l2, l3, l4, l5, l6, l7, l8⟩ := h.link x hx hfx
        refine ⟨l1, u', i', l2, l3, l4, l5, ?_, ?_, ?_⟩
        · split <;> omega
        · split
          · rename_i eu; subst eu; omega
          · exact l7
        · intro he
          by_cases eu : u' = v
          · subst eu
            rw [if_pos rfl] at he
            omega
          · rw [if_neg eu] at he ⊢
            exact l8 he
    · have := h.tt x hx
      show (if x = v then T else t x) < T + 1
      split <;> omega
  · exact ⟨t, T, h⟩

theorem BI.stp1 {g : Gr} (hg : GrOk g) {now exc : List Int} {s : St} {t : Nat → Nat} {T : Nat} (h : BI g now exc s t T) {i : Nat} (hi : i < g.m) (hne : g.fr i ≠ g.to i) : ∃ t' T', BI g now exc (stp1 g now i s) t' T' := by
  unfold Flow.stp1
  split
  · rename_i hc
    exact h.tryS hg ⟨hi, hne, .inl ⟨rfl, rfl, rfl, hc⟩⟩
  · exact ⟨t, T, h⟩

theorem BI.stp2 {g : Gr} (hg : GrOk g) {now exc : List Int} {s : St} {t : Nat → Nat} {T : Nat} (h : BI g now exc s t T) {i : Nat} (hi : i < g.m) (hne : g.fr i ≠ g.to i) : ∃ t' T', BI g now exc (stp2 g now i s) t' T' := by
  unfold Flow.stp2
  split
  · rename_i hc
    exact h.tryS hg ⟨hi, fun e => hne e.symm, .inr ⟨rfl, rfl, rfl, hc⟩⟩
  · exact ⟨t, T, h⟩

theorem BI.stp {g : Gr} (hg : GrOk g) {now exc : List Int} {s : St} {t : Nat → Nat} {T : Nat} (h : BI g now exc s t T) {i : Nat} (hi : i < g.m) : ∃ t' T', BI g now exc (stp g now i s) t' T' := by
  unfold Flow.stp
  split
  · exact ⟨t, T, h⟩
  · rename_i hne
    obtain ⟨t1, T1, h1⟩ := h.stp1 hg hi hne
    exact h1.stp2 hg hi hne

theorem BI.rnd {g : Gr} (hg : GrOk g) {now exc : List Int} {s : St} {t : Nat → Nat} {T : Nat} (h : BI g now exc s t T) : ∀ k, k ≤ g.m → ∃ t' T', BI g now exc (rnd g now k s) t' T'
  | 0, _ => ⟨t, T, h⟩
  | k + 1, hk => by
    obtain ⟨t1, T1, h1⟩ := h.rnd hg k (by omega)
    exact h1.stp hg (by omega)

theorem BI.ch {g : Gr} {now exc : List Int} {s : St} {t : Nat → Nat} {T : Nat} (h : BI g now exc s t T) (c : Bool) : BI g now exc { s with ch := c } t T := ⟨h.lc, h.lb, h.far, h.root, h.link, h.tt⟩

theorem BI.rn {g : Gr} (hg : GrOk g) {now exc : List Int} (he : exc.length = g.N) : ∀ k, ∃ t T, BI g now exc (rn g now exc k) t T
  | 0 => ⟨_, _, BI.init he true⟩
  | k + 1 => by
    obtain ⟨t, T, h⟩ := BI.rn hg he k
    exact (h.ch false).rnd hg _ (Nat.le_refl _)

-- counting

def cnt (P : Nat → Bool) : Nat → Nat
  | 0 => 0
  | n + 1 => cnt P n + if P n then 1 else 0

theorem cnt_le (P : Nat → Bool) : ∀ n, cnt P n ≤ n
  | 0 => Nat.le_refl _
  | n + 1 => by have := cnt_le P n; simp only [cnt]; split <;> omega

theorem cnt_mono {P Q : Nat → Bool} (h : ∀ x, P x = true → Q x = true) : ∀ n, cnt P n ≤ cnt Q n
  | 0 => Nat.le_refl _
  | n + 1 => by
    have := cnt_mono h n
    simp only [cnt]
    have h0 := h n
    cases hp : P n <;> cases hq : Q n <;> simp [hp, hq] at h0 ⊢ <;> omega

theorem cnt_lt {P Q : Nat → Bool} (h : ∀ x, P x = true → Q x = true) {y : Nat} (hq : Q y = true) (hp : P y = false) : ∀ n, y < n → cnt P n < cnt Q n
  | 0, hy => by omega
  | n + 1, hy => by
    simp only [cnt]
    by_cases e : y = n
    · subst e
      have := cnt_mono h y
      simp [hp, hq]; omega
    · have h1 := cnt_lt h hq hp n (by omega)
      have h0 := h n
      cases hpn : P n <;> cases hqn : Q n <;> simp [hpn, hqn] at h0 ⊢ <;> omega

/-- Which node comes ahead of which. -/
def ltR (s : St) (π : Nat → Int) (t : Nat → Nat) (u v : Nat) : Prop :=
  gi s.cost u - π u < gi s.cost v - π v ∨ (gi s.cost u - π u = gi s.cost v - π v ∧ t u < t v)

open Classical in
noncomputable def rk (g : Gr) (s : St) (π : Nat → Int) (t : Nat → Nat) (v : Nat) : Nat := cnt (fun u => decide (ltR s π t u v)) g.N

theorem rk_lt {g : Gr} {s : St} {π : Nat → Int} {t : Nat → Nat} {u v : Nat} (hu : u < g.N) (h : ltR s π t u v) : rk g s π t u < rk g s π t v := by
  classical
  unfold rk
  refine cnt_lt (fun x hx => ?_) (y := u) (by simpa using h) ?_ g.N hu
  · simp only [decide_eq_true_eq] at hx ⊢
    unfold ltR at *
    omega
  · simp only [decide_eq_false_iff_not]
    unfold ltR
    omega

theorem rk_le (g : Gr) (s : St) (π : Nat → Int) (t : Nat → Nat) (v : Nat) : rk g s π t v ≤ g.N := cnt_le _ _

theorem BI.back {g : Gr} {now exc : List Int} {s : St} {t : Nat → Nat} {T : Nat} (h : BI g now exc s t T) {π : Nat → Int} (hp : Pot g now π) {v : Nat} (hv : v < g.N) (hf : (gs s.by_ v).frm ≠ -1) :
    ∃ u i : Nat, u < g.N ∧ (gs s.by_ v).frm = u ∧ (gs s.by_ v).pc = i ∧ Res g now i (gs s.by_ v).by_ u v ∧ gi s.cost u < Flow.far ∧ gi s.cost u + pr g now i (gs s.by_ v).by_ ≤ gi s.cost v ∧ rk g s π t u < rk g s π t v := by
  obtain ⟨l1, u, i, l2, l3, l4, l5, l6, l7, l8⟩ := h.link v hv hf
  refine ⟨u, i, l2, l3, l4, l5, l6, l7, rk_lt l2 ?_⟩
  have := hp _ _ _ _ l5
  unfold ltR
  by_cases e : gi s.cost u + pr g now i (gs s.by_ v).by_ = gi s.cost v
  · have := l8 e
    omega
  · omega

theorem BI.low {g : Gr} {now exc : List Int} {s : St} {t : Nat → Nat} {T : Nat} (h : BI g now exc s t T) {π : Nat → Int} (hp : Pot g now π) :
    ∀ (n v : Nat), v < g.N → rk g s π t v ≤ n → -(n : Int) ≤ gi s.cost v
  | n, v, hv, hn => by
    by_cases hf : (gs s.by_ v).frm = -1
    · rw [h.root v hv hf]; unfold Flow.far; split <;> omega
    · obtain ⟨u, i, h1, h2, h3, h4, h5, h6, h7⟩ := h.back hp hv hf
      have := h4.pr1
      match n, hn with
      | 0, hn => omega
      | n + 1, hn =>
        have := h.low hp n u h1 (by omega)
        omega

theorem BI.low' {g : Gr} {now exc : List Int} {s : St} {t : Nat → Nat} {T : Nat} (h : BI g now exc s t T) {π : Nat → Int} (hp : Pot g now π) {v : Nat} (hv : v < g.N) : -(g.N : Int) ≤ gi s.cost v :=
  h.low hp g.N v hv (rk_le _ _ _ _ _)

-- rounds end

def sumN (f : Nat → Int) : Nat → Int
  | 0 => 0
  | n + 1 => sumN f n + f n

theorem sumN_congr {f g : Nat → Int} : ∀ {n : Nat}, (∀ i, i < n → f i = g i) → sumN f n = sumN g n
  | 0, _ => rfl
  | n + 1, h => by simp only [sumN]; rw [sumN_congr fun i hi => h i (by omega), h n (by omega)]

theorem sumN_le {f g : Nat → Int} : ∀ {n : Nat}, (∀ i, i < n → f i ≤ g i) → sumN f n ≤ sumN g n
  | 0, _ => Int.le_refl _
  | n + 1, h => by
    have h1 := sumN_le (n := n) fun i hi => h i (by omega)
    have h2 := h n (by omega)
    simp only [sumN]; omega

theorem sumN_lt {f g : Nat → Int} {y : Nat} : ∀ {n : Nat}, (∀ i, i < n → f i ≤ g i) → y < n → f y < g y → sumN f n < sumN g n
  | 0, _, hy, _ => by omega
  | n + 1, h, hy, hl => by
    simp only [sumN]
    have h2 := h n (by omega)
    by_cases e : y = n
    · subst e
      have := sumN_le (n := y) fun i hi => h i (by omega)
      omega
    · have := sumN_lt (n := n) (fun i hi => h i (by omega)) (by omega) hl
      omega

def tot (g : Gr) (s : St) : Int := sumN (fun v => gi s.cost v + g.N) g.N

/-- A step does nothing, or makes the whole less and says so. -/
def Did (g : Gr) (s s' : St) : Prop := s' = s ∨ (s'.ch = true ∧ tot g s' < tot g s)

theorem Did.trans {g : Gr} {a b c : St} (h : Did g a b) (k : Did g b c) (hch : b.ch = true → c.ch = true) : Did g a c := by
  rcases h with rfl | ⟨h1, h2⟩
  · exact k
  · rcases k with rfl | ⟨k1, k2⟩
    · exact .inr ⟨h1, h2⟩
    · exact .inr ⟨k1, by omega⟩

theorem tryS_did {g : Gr} {s : St} {st : Stp} {u v : Nat} {p : Int} (hl : s.cost.length = g.N) (hv : v < g.N) :
    (tryS s st u v p = s ∧ ¬ (gi s.cost u < far ∧ gi s.cost u + p < gi s.cost v)) ∨ ((tryS s st u v p).ch = true ∧ tot g (tryS s st u v p) < tot g s) := by
  unfold tryS
  split
  · rename_i hc
    refine .inr ⟨rfl, ?_⟩
    refine sumN_lt (y := v) (fun i hi => ?_) hv ?_
    · simp only [gi_set (show v < s.cost.length by omega)]
      split
      · rename_i e; subst e; omega
      · exact Int.le_refl _
    · simp only [gi_set (show v < s.cost.length by omega), if_true]; omega
  · rename_i hc
    exact .inl ⟨rfl, hc⟩

theorem tryS_ch {s : St} {st : Stp} {u v : Nat} {p : Int} (h : s.ch = true) : (tryS s st u v p).ch = true := by
  unfold tryS; split
  · rfl
  · exact h

theorem tryS_len {s : St} {st : Stp} {u v : Nat} {p : Int} : (tryS s st u v p).cost.length = s.cost.length := by
  unfold tryS; split
  · simp
  · rfl

/-- No step of an edge makes anything cheaper. -/
def Calm (g : Gr) (now : List Int) (s : St) (i : Nat) : Prop := ∀ d u v, Res g now i d u v → gi s.cost u < far → gi s.cost v ≤ gi s.cost u + pr g now i d

theorem stp_did {g : Gr} (hg : GrOk g) {now : List Int} {s : St} {i : Nat} (hi : i < g.m) (hl : s.cost.length = g.N) :
    (stp g now i s = s ∧ Calm g now s i) ∨ ((stp g now i s).ch = true ∧ tot g (stp g now i s) < tot g s) := by
  unfold stp
  split
  · rename_i e
    refine .inl ⟨rfl, fun d u v hr => ?_⟩
    obtain ⟨_, hne, h⟩ := hr
    rcases h with ⟨_, rfl, rfl, _⟩ | ⟨_, rfl, rfl, _⟩
    · exact absurd e hne
    · exact absurd e.symm hne
  · have a1 : (stp1 g now i s = s ∧ (gi now i < g.hi i → ¬ (gi s.cost (g.fr i) < far ∧ gi s.cost (g.fr i) + pr g now i 1 < gi s.cost (g.to i)))) ∨ ((stp1 g now i s).ch = true ∧ tot g (stp1 g now i s) < tot g s) := by
      unfold stp1
      split
      · rcases tryS_did (st := ⟨i, 1, g.fr i⟩) (u := g.fr i) (p := pr g now i 1) hl (hg.to i hi) with ⟨h1, h2⟩ | h
        · exact .inl ⟨h1, fun _ => h2⟩
        · exact .inr h
      · rename_i hc
        exact .inl ⟨rfl, fun h => absurd h hc⟩
    have hl1 : (stp1 g now i s).cost.length = g.N := by
      unfold stp1; split
      · rw [tryS_len]; exact hl
      · exact hl
    have a2 : ∀ s : St, s.cost.length = g.N → (stp2 g now i s = s ∧ (g.lo i < gi now i → ¬ (gi s.cost (g.to i) < far ∧ gi s.cost (g.to i) + pr g now i (-1) < gi s.cost (g.fr i)))) ∨ ((stp2 g now i s).ch = true ∧ tot g (stp2 g now i s) < tot g s) := by
      intro s hl
      unfold stp2
      split
      · rcases tryS_did (st := ⟨i, -1, g.to i⟩) (u := g.to i) (p := pr g now i (-1)) hl (hg.fr i hi) with ⟨h1, h2⟩ | h
        · exact .inl ⟨h1, fun _ => h2⟩
        · exact .inr h
      · rename_i hc
        exact .inl ⟨rfl, fun h => absurd h hc⟩
    have a3 : (stp1 g now i s).ch = true → (stp2 g now i (stp1 g now i s)).ch = true := by
      intro h
      unfold stp2; split
      · exact tryS_ch h
      · exact h
    rcases a1 with ⟨h1, h2⟩ | ⟨h1, h2⟩
    · rw [h1]
      rcases a2 s hl with ⟨k1, k2⟩ | k
      · refine .inl ⟨k1, fun d u v hr hf => ?_⟩
        obtain ⟨_, _, h⟩ := hr
        rcases h with ⟨rfl, rfl, rfl, hc⟩ | ⟨rfl, rfl, rfl, hc⟩
        · have := h2 hc; omega
        · have := k2 hc; omega
      · exact .inr k
    · rcases a2 _ hl1 with ⟨k1, k2⟩ | ⟨k1, k2⟩
      · rw [k1]; exact .inr ⟨h1, h2⟩
      · exact .inr ⟨k1, by omega⟩

theorem rnd_did {g : Gr} (hg : GrOk g) {now exc : List Int} {s : St} {t : Nat → Nat} {T : Nat} (hb : BI g now exc s t T) : ∀ k, k ≤ g.m →
    (rnd g now k s = s ∧ ∀ i, i < k → Calm g now s i) ∨ ((rnd g now k s).ch = true ∧ tot g (rnd g now k s) < tot g s)
  | 0, _ => .inl ⟨rfl, fun i hi => by omega⟩
  | k + 1, hk => by
    obtain ⟨t1, T1, h1⟩ := hb.rnd hg k (by omega)
    have hs := stp_did hg (now := now) (i := k) (by omega) h1.lc
    rcases rnd_did hg hb k (by omega) with ⟨e1, e2⟩ | ⟨e1, e2⟩
    · simp only [rnd]
      rw [e1] at hs ⊢
      rcases hs with ⟨h2, h3⟩ | h2
      · refine .inl ⟨h2, fun i hi => ?_⟩
        by_cases e : i = k
        · subst e; exact h3
        · exact e2 i (by omega)
      · exact .inr h2
    · simp only [rnd]
      rcases hs with ⟨h2, h3⟩ | ⟨h2, h3⟩
      · rw [h2]; exact .inr ⟨e1, e2⟩
      · exact .inr ⟨h2, by omega⟩

/-- ROUNDS END: behind some round nothing has changed, and no step makes anything cheaper. -/
theorem rounds_end {g : Gr} (hg : GrOk g) {now exc : List Int} (he : exc.length = g.N) {π : Nat → Int} (hp : Pot g now π) :
    ∃ n, (rn g now exc (n + 1)).ch = false ∧ (∀ k, k ≤ n → (rn g now exc k).ch = true) ∧ ∀ i, i < g.m → Calm g now (rn g now exc (n + 1)) i := by
  have key : ∀ (M k : Nat), (tot g (rn g now exc k)).toNat ≤ M → (∀ j, j ≤ k → (rn g now exc j).ch = true) →
      ∃ n, k ≤ n ∧ (rn g now exc (n + 1)).ch = false ∧ (∀ j, j ≤ n → (rn g now exc j).ch = true) ∧ ∀ i, i < g.m → Calm g now (rn g now exc (n + 1)) i := by
    intro M
    induction M with
    | zero =>
      intro k hM hj
      obtain ⟨t, T, hb⟩ := BI.rn (now := now) hg he k
      rcases rnd_did hg (hb.ch false) g.m (Nat.le_refl _) with ⟨h1, h2⟩ | ⟨h1, h2⟩
      · refine ⟨k, Nat.le_refl _, ?_, hj, fun i hi => ?_⟩
        · simp only [rn]; rw [h1]
        · simp only [rn]; rw [h1]; exact h2 i hi
      · exfalso
        obtain ⟨t1, T1, hb1⟩ := BI.rn (now := now) hg he (k + 1)
        have : 0 ≤ tot g (rn g now exc (k + 1)) := by
          have := sumN_le (f := fun _ => 0) (g := fun v => gi (rn g now exc (k + 1)).cost v + g.N) (n := g.N) fun v hv => by have := hb1.low' hp hv; omega
          have h0 : ∀ n, sumN (fun _ => 0) n = 0 := by
            intro n; induction n with
            | zero => rfl
            | succ n ih => simp [sumN, ih]
          rw [h0] at this
          exact this
        have e : rnd g now g.m { rn g now exc k with ch := false } = rn g now exc (k + 1) := rfl
        rw [e] at h2
        have e2 : tot g { rn g now exc k with ch := false } = tot g (rn g now exc k) := rfl
        rw [e2] at h2
        omega
    | succ M ih =>
      intro k hM hj
      obtain ⟨t, T, hb⟩ := BI.rn (now := now) hg he k
      rcases rnd_did hg (hb.ch false) g.m (Nat.le_refl _) with ⟨h1, h2⟩ | ⟨h1, h2⟩
      · refine ⟨k, Nat.le_refl _, ?_, hj, fun i hi => ?_⟩
        · simp only [rn]; rw [h1]
        · simp only [rn]; rw [h1]; exact h2 i hi
      · have e : rnd g now g.m { rn g now exc k with ch := false } = rn g now exc (k + 1) := rfl
        rw [e] at h1 h2
        have e2 : tot g { rn g now exc k with ch := false } = tot g (rn g now exc k) := rfl
        rw [e2] at h2
        obtain ⟨n, h3, h4⟩ := ih (k + 1) (by omega) fun j hj' => by
          by_cases e : j = k + 1
          · subst e; exact h1
          · exact hj j (by omega)
        exact ⟨n, by omega, h4⟩
  obtain ⟨n, _, h⟩ := key _ 0 (Nat.le_refl _) fun j hj => by
    have : j = 0 := by omega
    subst this; rfl
  exact ⟨n, h⟩

end Go.Proofs.Ytgcmjidphcafnaa.Flow

/- The law of the cheapest ways: a unit that is pushed along one keeps a net good; where none is left, some nodes are cut off. No condition. -/
namespace Go.Proofs.Ytgcmjidphcafnaa.Flow

def addA (l : List Int) (i : Nat) (d : Int) : List Int := l.set i (gi l i + d)

@[simp] theorem addA_len (l : List Int) (i : Nat) (d : Int) : (addA l i d).length = l.length := by simp [addA]

theorem gi_addA {l : List Int} {i j : Nat} {d : Int} (h : i < l.length) : gi (addA l i d) j = gi l j + if j = i then d else 0 := by
  rw [addA, gi_set h]
  split
  · rename_i e; subst e; rfl
  · omega

def backN (by_ : List Stp) (v : Nat) : Nat → Nat
  | 0 => v
  | k + 1 => (gs by_ (backN by_ v k)).frm.toNat

def nowN (by_ : List Stp) (now : List Int) (v : Nat) : Nat → List Int
  | 0 => now
  | k + 1 => addA (nowN by_ now v k) (gs by_ (backN by_ v k)).pc.toNat (gs by_ (backN by_ v k)).by_

/-- The way back to where it begins. -/
structure Way (g : Gr) (now : List Int) (s : St) (v n : Nat) : Prop where
  root : (gs s.by_ (backN s.by_ v n)).frm = -1
  nodes : ∀ k, k ≤ n → backN s.by_ v k < g.N ∧ gi s.cost (backN s.by_ v k) < far
  links : ∀ k, k < n → ∃ i : Nat, (gs s.by_ (backN s.by_ v k)).pc = i ∧ (gs s.by_ (backN s.by_ v k)).frm = (backN s.by_ v (k + 1) : Int) ∧
    Res g now i (gs s.by_ (backN s.by_ v k)).by_ (backN s.by_ v (k + 1)) (backN s.by_ v k) ∧ gi s.cost (backN s.by_ v (k + 1)) + pr g now i (gs s.by_ (backN s.by_ v k)).by_ ≤ gi s.cost (backN s.by_ v k)
  dist : ∀ j k, j < k → k ≤ n → backN s.by_ v k ≠ backN s.by_ v j

theorem way_from {g : Gr} {now exc : List Int} {s : St} {t : Nat → Nat} {T : Nat} (h : BI g now exc s t T) {π : Nat → Int} (hp : Pot g now π) {v : Nat} (hv : v < g.N) (hr : gi s.cost v < far) : ∃ n, Way g now s v n := by
  have key : ∀ (M k : Nat), backN s.by_ v k < g.N → gi s.cost (backN s.by_ v k) < far → rk g s π t (backN s.by_ v k) ≤ M →
      ∃ n, k ≤ n ∧ (gs s.by_ (backN s.by_ v n)).frm = -1 ∧ ∀ j, k ≤ j → j < n → (gs s.by_ (backN s.by_ v j)).frm ≠ -1 := by
    intro M
    induction M with
    | zero =>
      intro k h1 h2 h3
      by_cases hf : (gs s.by_ (backN s.by_ v k)).frm = -1
      · exact ⟨k, Nat.le_refl _, hf, fun j a b => by omega⟩
      · obtain ⟨u, i, q1, q2, q3, q4, q5, q6, q7⟩ := h.back hp h1 hf
        omega
    | succ M ih =>
      intro k h1 h2 h3
      by_cases hf : (gs s.by_ (backN s.by_ v k)).frm = -1
      · exact ⟨k, Nat.le_refl _, hf, fun j a b => by omega⟩
      · obtain ⟨u, i, q1, q2, q3, q4, q5, q6, q7⟩ := h.back hp h1 hf
        have e : backN s.by_ v (k + 1) = u := by simp [backN, q2]
        obtain ⟨n, n1, n2, n3⟩ := ih (k + 1) (by rw [e]; exact q1) (by rw [e]; exact q5) (by rw [e]; omega)
        refine ⟨n, by omega, n2, fun j a b => ?_⟩
        by_cases ej : j = k
        · subst ej; exact hf
        · exact n3 j (by omega) b
  obtain ⟨n, _, n2, n3⟩ := key _ 0 hv hr (Nat.le_refl _)
  have nodes : ∀ k, k ≤ n → backN s.by_ v k < g.N ∧ gi s.cost (backN s.by_ v k) < far := by
    intro k
    induction k with
    | zero => intro _; exact ⟨hv, hr⟩
    | succ k ih =>
      intro hk
      obtain ⟨a, b⟩ := ih (by omega)
      obtain ⟨u, i, q1, q2, q3, q4, q5, q6, q7⟩ := h.back hp a (n3 k (by omega) (by omega))
      have e : backN s.by_ v (k + 1) = u := by simp [backN, q2]
      rw [e]
      exact ⟨q1, q5⟩
  have dec : ∀ k, k < n → rk g s π t (backN s.by_ v (k + 1)) < rk g s π t (backN s.by_ v k) := by
    intro k hk
    obtain ⟨u, i, q1, q2, q3, q4, q5, q6, q7⟩ := h.back hp (nodes k (by omega)).1 (n3 k (by omega) (by omega))
    have e : backN s.by_ v (k + 1) = u := by simp [backN, q2]
    rw [e]; exact q7
  have dec2 : ∀ d j, j + d < n → rk g s π t (backN s.by_ v (j + d + 1)) < rk g s π t (backN s.by_ v j) := by
    intro d
    induction d with
    | zero => intro j hj; exact dec j hj
    | succ d ih =>
      intro j hj
      have h1 := ih j (by omega)
      have h2 := dec (j + d + 1) (by omega)
      show rk g s π t (backN s.by_ v (j + d + 1 + 1)) < _
      omega
  refine ⟨n, n2, nodes, fun k hk => ?_, fun j k hj hk => ?_⟩
  · obtain ⟨u, i, q1, q2, q3, q4, q5, q6, q7⟩ := h.back hp (nodes k (by omega)).1 (n3 k (by omega) (by omega))
    have e : backN s.by_ v (k + 1) = u := by simp [backN, q2]
    rw [e]
    exact ⟨i, q3, q2, q4, q6⟩
  · intro e
    have := dec2 (k - j - 1) j (by omega)
    rw [show j + (k - j - 1) + 1 = k by omega, e] at this
    omega

/-- What comes into a node by the edges, less what goes out. -/
def balF (g : Gr) (now : List Int) (v : Nat) (i : Nat) : Int := (if g.to i = v then gi now i else 0) - (if g.fr i = v then gi now i else 0)
def bal (g : Gr) (now : List Int) (v : Nat) : Int := sumN (balF g now v) g.m

theorem sumN_add {f h k : Nat → Int} {i : Nat} {z : Int} (he : ∀ j, j ≠ i → f j = h j) (hi : f i = h i + z) : ∀ {n : Nat}, sumN f n = sumN h n + if i < n then z else 0
  | 0 => by simp [sumN]
  | n + 1 => by
    simp only [sumN]
    rw [sumN_add (k := k) he hi (n := n)]
    by_cases e : n = i
    · subst e; rw [hi]; simp; omega
    · rw [he n e]
      by_cases h1 : i < n
      · rw [if_pos h1, if_pos (by omega)]; omega
      · rw [if_neg h1, if_neg (by omega)]; omega

theorem bal_addA {g : Gr} {now : List Int} {i : Nat} {d : Int} (hl : now.length = g.m) (hi : i < g.m) (v : Nat) :
    bal g (addA now i d) v = bal g now v + ((if g.to i = v then d else 0) - (if g.fr i = v then d else 0)) := by
  unfold bal
  rw [sumN_add (k := fun _ => 0) (i := i) (z := (if g.to i = v then d else 0) - (if g.fr i = v then d else 0)) (h := balF g now v), if_pos hi]
  · intro j hj
    simp only [balF, gi_addA (show i < now.length by omega), if_neg hj, Int.add_zero]
  · simp only [balF, gi_addA (show i < now.length by omega), if_true]
    split <;> split <;> omega

structure Good (g : Gr) (sup : Nat → Int) (now exc : List Int) : Prop where
  ln : now.length = g.m
  le : exc.length = g.N
  bd : ∀ i, i < g.m → g.lo i ≤ gi now i ∧ gi now i ≤ g.hi i
  loop : ∀ i, i < g.m → g.fr i = g.to i → gi now i = g.ar i
  ex : ∀ v, v < g.N → gi exc v = sup v + bal g now v
  zero : sumN (gi exc) g.N = 0
  pot : ∃ π, Pot g now π

section
variable {g : Gr} {now exc : List Int} {s : St} {v n : Nat}

theorem nowN_len {by_ : List Stp} : ∀ k, (nowN by_ now v k).length = now.length
  | 0 => rfl
  | k + 1 => by simp [nowN, nowN_len k]

theorem Way.fresh (h : Way g now s v n) {j k : Nat} (hj : j < k) (hk : k < n) : (gs s.by_ (backN s.by_ v j)).pc ≠ (gs s.by_ (backN s.by_ v k)).pc := by
  obtain ⟨i, a1, a2, a3, _⟩ := h.links j (by omega)
  obtain ⟨i', b1, b2, b3, _⟩ := h.links k hk
  intro e
  rw [a1, b1] at e
  have : i = i' := by omega
  subst this
  obtain ⟨_, _, c⟩ := a3
  obtain ⟨_, _, d⟩ := b3
  have d1 := h.dist j k hj (by omega)
  have d2 := h.dist j (k + 1) (by omega) (by omega)
  rcases c with ⟨_, c1, c2, _⟩ | ⟨_, c1, c2, _⟩ <;> rcases d with ⟨_, e1, e2, _⟩ | ⟨_, e1, e2, _⟩
  · exact d1 (by rw [← c2, ← e2])
  · exact d2 (by rw [← c2, ← e1])
  · exact d2 (by rw [← c2, ← e1])
  · exact d1 (by rw [← c2, ← e2])

theorem Way.nowC (h : Way g now s v n) (hl : now.length = g.m) : ∀ k, k ≤ n → ∀ i, i < g.m →
    (gi (nowN s.by_ now v k) i = gi now i ∧ ∀ j, j < k → (gs s.by_ (backN s.by_ v j)).pc ≠ i) ∨
    ∃ j, j < k ∧ (gs s.by_ (backN s.by_ v j)).pc = i ∧ gi (nowN s.by_ now v k) i = gi now i + (gs s.by_ (backN s.by_ v j)).by_
  | 0, _, i, _ => .inl ⟨rfl, fun j hj => by omega⟩
  | k + 1, hk, i, hi => by
    obtain ⟨i0, a1, a2, a3, _⟩ := h.links k (by omega)
    have hi0 : i0 < g.m := a3.1
    have e0 : (gs s.by_ (backN s.by_ v k)).pc.toNat = i0 := by rw [a1]; rfl
    have hlen : i0 < (nowN s.by_ now v k).length := by rw [nowN_len]; omega
    simp only [nowN, e0, gi_addA hlen]
    have ih := h.nowC hl k (by omega) i hi
    by_cases e : i = i0
    · subst e
      rw [if_pos rfl]
      rcases ih with ⟨b1, b2⟩ | ⟨j, b1, b2, b3⟩
      · exact .inr ⟨k, by omega, a1, by rw [b1]⟩
      · exact absurd (b2.trans a1.symm) (h.fresh b1 (by omega))
    · rw [if_neg e, Int.add_zero]
      rcases ih with ⟨b1, b2⟩ | ⟨j, b1, b2, b3⟩
      · refine .inl ⟨b1, fun j hj => ?_⟩
        by_cases ej : j = k
        · subst ej; rw [a1]; intro e'; exact e (by omega)
        · exact b2 j (by omega)
      · exact .inr ⟨j, by omega, b2, b3⟩

theorem Way.bal (h : Way g now s v n) (hl : now.length = g.m) (x : Nat) : ∀ k, k ≤ n →
    bal g (nowN s.by_ now v k) x = bal g now x + (if x = v then 1 else 0) - (if x = backN s.by_ v k then 1 else 0)
  | 0, _ => by simp only [nowN, backN]; omega
  | k + 1, hk => by
    obtain ⟨i0, a1, a2, a3, _⟩ := h.links k (by omega)
    have e0 : (gs s.by_ (backN s.by_ v k)).pc.toNat = i0 := by rw [a1]; rfl
    have ih := h.bal hl x k (by omega)
    simp only [nowN, e0]
    rw [bal_addA (by rw [nowN_len]; exact hl) a3.1, ih]
    obtain ⟨_, hne, c⟩ := a3
    rcases c with ⟨c0, c1, c2, _⟩ | ⟨c0, c1, c2, _⟩
    · rw [c0, c1, c2]
      by_cases e1 : backN s.by_ v k = x <;> by_cases e2 : backN s.by_ v (k + 1) = x <;> simp [e1, e2, eq_comm] <;> omega
    · rw [c0, c1, c2]
      by_cases e1 : backN s.by_ v k = x <;> by_cases e2 : backN s.by_ v (k + 1) = x <;> simp [e1, e2, eq_comm] <;> omega
end

/-- All is as cheap as it can be. -/
structure Fin (g : Gr) (now exc : List Int) (s : St) : Prop where
  bi : ∃ t T, BI g now exc s t T
  calm : ∀ i, i < g.m → Calm g now s i

theorem Fin.high {g : Gr} {now exc : List Int} {s : St} (h : Fin g now exc s) {π : Nat → Int} (hp : Pot g now π) {v : Nat} (hv : v < g.N) (hr : gi s.cost v < far) : gi s.cost v ≤ g.N := by
  obtain ⟨t, T, hb⟩ := h.bi
  have key : ∀ (n v : Nat), v < g.N → gi s.cost v < far → rk g s π t v ≤ n → gi s.cost v ≤ n := by
    intro n
    induction n with
    | zero =>
      intro v hv hr hn
      by_cases hf : (gs s.by_ v).frm = -1
      · have := hb.root v hv hf
        rw [this] at hr ⊢
        split at hr
        · omega
        · rw [if_neg ‹_›]; exact Int.le_refl _
      · obtain ⟨u, i, h1, h2, h3, h4, h5, h6, h7⟩ := hb.back hp hv hf
        omega
    | succ n ih =>
      intro v hv hr hn
      by_cases hf : (gs s.by_ v).frm = -1
      · have := hb.root v hv hf
        rw [this] at hr ⊢
        split at hr
        · omega
        · rw [if_neg ‹_›]; omega
      · obtain ⟨u, i, h1, h2, h3, h4, h5, h6, h7⟩ := hb.back hp hv hf
        have a := ih u h1 h5 (by omega)
        have b := h.calm i h4.1 _ _ _ h4 h5
        have := h4.pr1
        omega
  exact key g.N v hv hr (rk_le _ _ _ _ _)

theorem abs_sum {f : Nat → Int} : ∀ {n i : Nat}, i < n → -(sumN (fun j => max (f j) (-(f j))) n) ≤ f i ∧ f i ≤ sumN (fun j => max (f j) (-(f j))) n
  | 0, i, hi => by omega
  | n + 1, i, hi => by
    have h0 : ∀ n, 0 ≤ sumN (fun j => max (f j) (-(f j))) n := by
      intro n; induction n with
      | zero => exact Int.le_refl _
      | succ n ih => simp only [sumN]; omega
    have := h0 n
    simp only [sumN]
    by_cases e : i = n
    · subst e; omega
    · have := abs_sum (f := f) (n := n) (i := i) (by omega)
      omega

/-- A PUSH KEEPS A NET GOOD. -/
theorem push_good {g : Gr} (hg : GrOk g) (hN : (g.N : Int) < 1000) {sup : Nat → Int} {now exc : List Int} (h : Good g sup now exc) {s : St} (hf : Fin g now exc s) {b n : Nat} (hb : b < g.N) (hr : gi s.cost b < far) (hneg : gi exc b < 0)
    (hw : Way g now s b n) : Good g sup (nowN s.by_ now b n) (addA (addA exc b 1) (backN s.by_ b n) (-1)) ∧ 0 < gi exc (backN s.by_ b n) ∧ b ≠ backN s.by_ b n := by
  obtain ⟨π, hp⟩ := h.pot
  obtain ⟨t, T, hbi⟩ := hf.bi
  obtain ⟨hrn, hrr⟩ := hw.nodes n (Nat.le_refl _)
  have hroot := hbi.root _ hrn hw.root
  have hpos : 0 < gi exc (backN s.by_ b n) := by
    rw [hroot] at hrr
    split at hrr
    · omega
    · omega
  have hne : b ≠ backN s.by_ b n := by intro e; rw [← e] at hpos; omega
  have hlb : b < exc.length := by rw [h.le]; exact hb
  have hlr : backN s.by_ b n < (addA exc b 1).length := by rw [addA_len, h.le]; exact hrn
  have hexc : ∀ x, gi (addA (addA exc b 1) (backN s.by_ b n) (-1)) x = gi exc x + (if x = b then 1 else 0) - (if x = backN s.by_ b n then 1 else 0) := by
    intro x
    rw [gi_addA hlr, gi_addA hlb]
    split <;> split <;> omega
  have hch : ∀ i, i < g.m → gi (nowN s.by_ now b n) i = gi now i ∨ ∃ d u w, Res g now i d u w ∧ gi s.cost u < far ∧ gi s.cost w < far ∧ gi s.cost w = gi s.cost u + pr g now i d ∧ gi (nowN s.by_ now b n) i = gi now i + d := by
    intro i hi
    rcases hw.nowC h.ln n (Nat.le_refl _) i hi with ⟨a, _⟩ | ⟨j, a1, a2, a3⟩
    · exact .inl a
    · obtain ⟨i0, b1, b2, b3, b4⟩ := hw.links j a1
      rw [a2] at b1
      have : i0 = i := by omega
      subst this
      have c1 := (hw.nodes (j + 1) (by omega)).2
      have c2 := (hw.nodes j (by omega)).2
      have := hf.calm i0 hi _ _ _ b3 c1
      exact .inr ⟨_, _, _, b3, c1, c2, by omega, a3⟩
  refine ⟨⟨by rw [nowN_len]; exact h.ln, by rw [addA_len, addA_len]; exact h.le, fun i hi => ?_, fun i hi he => ?_, fun x hx => ?_, ?_, ?_⟩, hpos, hne⟩
  · have := h.bd i hi
    rcases hch i hi with a | ⟨d, u, w, a1, _, _, _, a2⟩
    · rw [a]; exact this
    · rw [a2]
      obtain ⟨_, _, c⟩ := a1
      rcases c with ⟨rfl, _, _, c⟩ | ⟨rfl, _, _, c⟩ <;> omega
  · rcases hch i hi with a | ⟨d, u, w, a1, _⟩
    · rw [a]; exact h.loop i hi he
    · exfalso
      obtain ⟨_, c0, c⟩ := a1
      rcases c with ⟨_, c1, c2, _⟩ | ⟨_, c1, c2, _⟩
      · exact c0 (by rw [← c1, ← c2, he])
      · exact c0 (by rw [← c1, ← c2, he])
  · rw [hexc, hw.bal h.ln x n (Nat.le_refl _), h.ex x hx]; omega
  · have e1 : ∀ m, sumN (gi (addA (addA exc b 1) (backN s.by_ b n) (-1))) m = sumN (gi exc) m + (if b < m then 1 else 0) - (if backN s.by_ b n < m then 1 else 0) := by
      intro m
      induction m with
      | zero => simp [sumN]
      | succ m ih =>
        simp only [sumN]
        rw [ih, hexc]
        by_cases a1 : m = b <;> by_cases a2 : m = backN s.by_ b n
        · exact absurd (a1.symm.trans a2) hne
        · rw [if_pos a1, if_neg a2]
          by_cases a3 : backN s.by_ b n < m
          · rw [if_neg (by omega), if_pos a3, if_pos (by omega), if_pos (by omega)]; omega
          · rw [if_neg (by omega), if_neg a3, if_pos (by omega), if_neg (by omega)]; omega
        · rw [if_neg a1, if_pos a2]
          by_cases a3 : b < m
          · rw [if_pos a3, if_neg (by omega), if_pos (by omega), if_pos (by omega)]; omega
          · rw [if_neg a3, if_neg (by omega), if_neg (by omega), if_pos (by omega)]; omega
        · rw [if_neg a1, if_neg a2]
          have q1 : (if b < m + 1 then (1 : Int) else 0) = if b < m then 1 else 0 := by
            by_cases a3 : b < m
            · rw [if_pos a3, if_pos (by omega)]
            · rw [if_neg a3, if_neg (by omega)]
          have q2 : (if backN s.by_ b n < m + 1 then (1 : Int) else 0) = if backN s.by_ b n < m then 1 else 0 := by
            by_cases a3 : backN s.by_ b n < m
            · rw [if_pos a3, if_pos (by omega)]
            · rw [if_neg a3, if_neg (by omega)]
          rw [q1, q2]; omega
    rw [e1, h.zero, if_pos hb, if_pos hrn]; rfl
  · refine ⟨fun x => if gi s.cost x < far then gi s.cost x else π x + (2000 + sumN (fun j => max (π j) (-(π j))) g.N), fun i d u w hres => ?_⟩
    obtain ⟨hu, hwN⟩ := hres.lt hg
    have hi := hres.1
    rcases hch i hi with a | ⟨d0, u0, w0, a1, a2, a3, a4, a5⟩
    · have hres' : Res g now i d u w := by
        unfold Res at hres ⊢
        rw [a] at hres; exact hres
      have hpr : pr g (nowN s.by_ now b n) i d = pr g now i d := by unfold pr; rw [a]
      rw [hpr]
      have hp1 := hres'.pr1
      by_cases cu : gi s.cost u < far
      · have c1 := hf.calm i hi _ _ _ hres' cu
        have c2 := hf.high hp hu cu
        have cw : gi s.cost w < far := by unfold far; omega
        simp only [if_pos cu, if_pos cw]
        omega
      · have := hp _ _ _ _ hres'
        by_cases cw : gi s.cost w < far
        · simp only [if_neg cu, if_pos cw]
          have c3 := hf.high hp hwN cw
          have c4 := abs_sum (f := π) hu
          omega
        · simp only [if_neg cu, if_neg cw]
          omega
    · obtain ⟨_, r1, r⟩ := a1
      obtain ⟨_, q1, q⟩ := hres
      simp only [pr] at a4 ⊢
      rw [a5]
      rcases r with ⟨rfl, r2, r3, r4⟩ | ⟨rfl, r2, r3, r4⟩ <;> rcases q with ⟨rfl, q2, q3, q4⟩ | ⟨rfl, q2, q3, q4⟩
      · have e1 : u = u0 := by rw [← q2, ← r2]
        have e2 : w = w0 := by rw [← q3, ← r3]
        subst e1; subst e2
        simp only [if_pos a2, if_pos a3]
        unfold prI at *; omega
      · have e1 : u = w0 := by rw [← q2, ← r3]
        have e2 : w = u0 := by rw [← q3, ← r2]
        subst e1; subst e2
        simp only [if_pos a2, if_pos a3]
        unfold prI at *; omega
      · have e1 : u = w0 := by rw [← q2, ← r3]
        have e2 : w = u0 := by rw [← q3, ← r2]
        subst e1; subst e2
        simp only [if_pos a2, if_pos a3]
        unfold prI at *; omega
      · have e1 : u = u0 := by rw [← q2, ← r2]
        have e2 : w = w0 := by rw [← q3, ← r3]
        subst e1; subst e2
        simp only [if_pos a2, if_pos a3]
        unfold prI at *; omega

/-- The cheapest node that has too little. -/
def bestN (exc cost : List Int) : Nat → Int
  | 0 => -1
  | v + 1 => if gi exc v < 0 ∧ gi cost v < far ∧ (bestN exc cost v < 0 ∨ gi cost v < gi cost (bestN exc cost v).toNat) then v else bestN exc cost v

theorem bestN_cases (exc cost : List Int) : ∀ k, (bestN exc cost k = -1 ∧ ∀ v, v < k → gi exc v < 0 → ¬ gi cost v < far) ∨
    ∃ b : Nat, bestN exc cost k = b ∧ b < k ∧ gi exc b < 0 ∧ gi cost b < far
  | 0 => .inl ⟨rfl, fun v hv => by omega⟩
  | k + 1 => by
    simp only [bestN]
    split
    · rename_i h
      exact .inr ⟨k, rfl, by omega, h.1, h.2.1⟩
    · rename_i h
      rcases bestN_cases exc cost k with ⟨h1, h2⟩ | ⟨b, h1, h2, h3⟩
      · refine .inl ⟨h1, fun v hv he hc => ?_⟩
        by_cases e : v = k
        · subst e; exact h ⟨he, hc, .inl (by omega)⟩
        · exact h2 v (by omega) he hc
      · exact .inr ⟨b, h1, by omega, h3⟩

def posS (exc : List Int) (n : Nat) : Int := sumN (fun v => max (gi exc v) 0) n

theorem posS_nonneg (exc : List Int) : ∀ n, 0 ≤ posS exc n
  | 0 => Int.le_refl _
  | n + 1 => by have := posS_nonneg exc n; unfold posS at *; simp only [sumN]; omega

theorem posS_push {exc : List Int} {b r N : Nat} (hb : b < exc.length) (hr : r < N) (hrl : r < exc.length) (h1 : gi exc b < 0) (h2 : 0 < gi exc r) : posS (addA (addA exc b 1) r (-1)) N < posS exc N := by
  have hne : b ≠ r := by intro e; subst e; omega
  refine sumN_lt (y := r) (fun i _ => ?_) hr ?_
  · rw [gi_addA (by simpa using hrl), gi_addA hb]
    by_cases e1 : i = b
    · subst e1; rw [if_pos rfl, if_neg hne]; omega
    · rw [if_neg e1]; split <;> omega
  · rw [gi_addA (by simpa using hrl), gi_addA hb, if_neg (fun e => hne e.symm), if_pos rfl]; omega

/-- Nodes that are cut off. -/
structure Cut (g : Gr) (now exc : List Int) (S : Nat → Bool) : Prop where
  pos : 0 < sumN (fun v => if S v then gi exc v else 0) g.N
  out : ∀ i, i < g.m → S (g.fr i) = true → S (g.to i) = false → gi now i = g.hi i
  inn : ∀ i, i < g.m → S (g.to i) = true → S (g.fr i) = false → gi now i = g.lo i

theorem pos_of_zero {f : Nat → Int} {y : Nat} : ∀ {n : Nat}, sumN f n = 0 → y < n → f y ≠ 0 → ∃ v, v < n ∧ 0 < f v := by
  intro n hz hy hne
  apply Classical.byContradiction
  intro hcon
  have hle : ∀ i, i < n → f i ≤ 0 := fun i hi => by
    apply Classical.byContradiction
    intro h; exact hcon ⟨i, hi, by omega⟩
  have := sumN_lt (f := f) (g := fun _ => 0) (y := y) hle hy (by have := hle y hy; omega)
  have h0 : ∀ n, sumN (fun _ => 0) n = 0 := by
    intro n; induction n with
    | zero => rfl
    | succ n ih => simp [sumN, ih]
  rw [h0] at this
  omega

theorem cut_of {g : Gr} (hg : GrOk g) (hN : (g.N : Int) < 1000) {sup : Nat → Int} {now exc : List Int} (h : Good g sup now exc) {s : St} (hf : Fin g now exc s) (hno : ∀ v, v < g.N → gi exc v < 0 → ¬ gi s.cost v < far)
    {y : Nat} (hy : y < g.N) (hne : gi exc y ≠ 0) : Cut g now exc (fun v => decide (gi s.cost v < far)) := by
  obtain ⟨π, hp⟩ := h.pot
  obtain ⟨t, T, hb⟩ := hf.bi
  refine ⟨?_, fun i hi h1 h2 => ?_, fun i hi h1 h2 => ?_⟩
  · obtain ⟨v, hv, hpos⟩ := pos_of_zero h.zero hy hne
    have hreach : ∀ v, v < g.N → 0 < gi exc v → gi s.cost v < far := by
      intro v hv hpos
      by_cases hfr : (gs s.by_ v).frm = -1
      · rw [hb.root v hv hfr, if_neg (by omega)]; decide
      · exact (hb.link v hv hfr).1
    have := sumN_lt (f := fun _ => 0) (g := fun v => if decide (gi s.cost v < far) then gi exc v else 0) (y := v) (n := g.N) (fun i hi => ?_) hv ?_
    · have h0 : ∀ n, sumN (fun _ => 0) n = 0 := by
        intro n; induction n with
        | zero => rfl
        | succ n ih => simp [sumN, ih]
      rw [h0] at this
      exact this
    · simp only [decide_eq_true_eq]
      split
      · rename_i hc
        have := hno i hi
        by_cases e : gi exc i < 0
        · exact absurd hc (this e)
        · omega
      · omega
    · simp only [decide_eq_true_eq, if_pos (hreach v hv hpos)]
      exact hpos
  · simp only [decide_eq_true_eq, decide_eq_false_iff_not] at h1 h2
    apply Classical.byContradiction
    intro hc
    have hb' := h.bd i hi
    have hne : g.fr i ≠ g.to i := fun e => h2 (e ▸ h1)
    have hres : Res g now i 1 (g.fr i) (g.to i) := ⟨hi, hne, .inl ⟨rfl, rfl, rfl, by omega⟩⟩
    have c1 := hf.calm i hi _ _ _ hres h1
    have c2 := hf.high hp (hg.fr i hi) h1
    have c3 := hres.pr1
    unfold far at *
    omega
  · simp only [decide_eq_true_eq, decide_eq_false_iff_not] at h1 h2
    apply Classical.byContradiction
    intro hc
    have hb' := h.bd i hi
    have hne : g.to i ≠ g.fr i := fun e => h2 (e ▸ h1)
    have hres : Res g now i (-1) (g.to i) (g.fr i) := ⟨hi, hne, .inr ⟨rfl, rfl, rfl, by omega⟩⟩
    have c1 := hf.calm i hi _ _ _ hres h1
    have c2 := hf.high hp (hg.to i hi) h1
    have c3 := hres.pr1
    unfold far at *
    omega

end Go.Proofs.Ytgcmjidphcafnaa.Flow

/- The law of the cheapest ways: pushes until all is even, or some nodes are cut off; what comes out is cheapest. No condition. -/
namespace Go.Proofs.Ytgcmjidphcafnaa.Flow

/-- A push, and what it goes by. -/
structure PushData (g : Gr) (now exc : List Int) (n b k : Nat) : Prop where
  ch : (rn g now exc (n + 1)).ch = false
  chs : ∀ j, j ≤ n → (rn g now exc j).ch = true
  best : bestN exc (rn g now exc (n + 1)).cost g.N = (b : Int)
  way : Way g now (rn g now exc (n + 1)) b k

inductive Run (g : Gr) : List Int → List Int → Option (List Int) → Prop
  | done {now exc : List Int} (h : ∀ v, v < g.N → gi exc v = 0) : Run g now exc (some now)
  | stuck {now exc : List Int} {y n : Nat} (hy : y < g.N) (hne : gi exc y ≠ 0) (ch : (rn g now exc (n + 1)).ch = false) (chs : ∀ j, j ≤ n → (rn g now exc j).ch = true)
      (best : bestN exc (rn g now exc (n + 1)).cost g.N = -1) : Run g now exc none
  | step {now exc : List Int} {y n b k : Nat} {r : Option (List Int)} (hy : y < g.N) (hne : gi exc y ≠ 0) (d : PushData g now exc n b k)
      (h : Run g (nowN (rn g now exc (n + 1)).by_ now b k) (addA (addA exc b 1) (backN (rn g now exc (n + 1)).by_ b k) (-1)) r) : Run g now exc r

theorem fin_of {g : Gr} (hg : GrOk g) {now exc : List Int} (he : exc.length = g.N) {π : Nat → Int} (hp : Pot g now π) : ∃ n, (rn g now exc (n + 1)).ch = false ∧ (∀ k, k ≤ n → (rn g now exc k).ch = true) ∧ Fin g now exc (rn g now exc (n + 1)) := by
  obtain ⟨n, h1, h2, h3⟩ := rounds_end hg he hp
  exact ⟨n, h1, h2, BI.rn hg he (n + 1), h3⟩

/-- Rounds that have ended are at their end. -/
theorem fin_at {g : Gr} (hg : GrOk g) {now exc : List Int} (he : exc.length = g.N) {n : Nat} (ch : (rn g now exc (n + 1)).ch = false) : Fin g now exc (rn g now exc (n + 1)) := by
  refine ⟨BI.rn hg he (n + 1), ?_⟩
  obtain ⟨t, T, hb⟩ := BI.rn (now := now) hg he n
  rcases rnd_did hg (hb.ch false) g.m (Nat.le_refl _) with ⟨h1, h2⟩ | ⟨h1, h2⟩
  · intro i hi
    simp only [rn]; rw [h1]; exact h2 i hi
  · have e : rnd g now g.m { rn g now exc n with ch := false } = rn g now exc (n + 1) := rfl
    rw [e, ch] at h1
    simp at h1

theorem PushData.good {g : Gr} (hg : GrOk g) (hN : (g.N : Int) < 1000) {sup : Nat → Int} {now exc : List Int} (h : Good g sup now exc) {n b k : Nat} (d : PushData g now exc n b k) :
    Good g sup (nowN (rn g now exc (n + 1)).by_ now b k) (addA (addA exc b 1) (backN (rn g now exc (n + 1)).by_ b k) (-1)) ∧
    posS (addA (addA exc b 1) (backN (rn g now exc (n + 1)).by_ b k) (-1)) g.N < posS exc g.N := by
  have hf := fin_at hg h.le d.ch
  rcases bestN_cases exc (rn g now exc (n + 1)).cost g.N with ⟨h1, _⟩ | ⟨b', h1, h2, h3, h4⟩
  · rw [d.best] at h1; omega
  · have : b' = b := by have := d.best; omega
    subst this
    obtain ⟨q1, q2, q3⟩ := push_good hg hN h hf h2 h4 h3 d.way
    have hr := (d.way.nodes k (Nat.le_refl _)).1
    exact ⟨q1, posS_push (by rw [h.le]; exact h2) hr (by rw [h.le]; exact hr) h3 q2⟩

/-- WHAT SETTLING ENDS IN. -/
theorem run_ends {g : Gr} (hg : GrOk g) (hN : (g.N : Int) < 1000) {sup : Nat → Int} : ∀ (M : Nat) (now exc : List Int), (posS exc g.N).toNat ≤ M → Good g sup now exc →
    ∃ r, Run g now exc r ∧ (match r with
      | some l => ∃ e, Good g sup l e ∧ ∀ v, v < g.N → gi e v = 0
      | none => ∃ l e S, Good g sup l e ∧ Cut g l e S) := by
  intro M
  induction M with
  | zero =>
    intro now exc hM h
    by_cases hz : ∀ v, v < g.N → gi exc v = 0
    · exact ⟨_, .done hz, exc, h, hz⟩
    · exfalso
      have : ∃ y, y < g.N ∧ gi exc y ≠ 0 := by
        apply Classical.byContradiction
        intro hc
        exact hz fun v hv => Classical.byContradiction fun e => hc ⟨v, hv, e⟩
      obtain ⟨y, hy, hne⟩ := this
      obtain ⟨v, hv, hpos⟩ := pos_of_zero h.zero hy hne
      have := sumN_lt (f := fun _ => 0) (g := fun v => max (gi exc v) 0) (y := v) (n := g.N) (fun i _ => by omega) hv (by omega)
      have h0 : ∀ n, sumN (fun _ => 0) n = 0 := by
        intro n; induction n with
        | zero => rfl
        | succ n ih => simp [sumN, ih]
      rw [h0] at this
      unfold posS at hM
      omega
  | succ M ih =>
    intro now exc hM h
    by_cases hz : ∀ v, v < g.N → gi exc v = 0
    · exact ⟨_, .done hz, exc, h, hz⟩
    · have : ∃ y, y < g.N ∧ gi exc y ≠ 0 := by
        apply Classical.byContradiction
        intro hc
        exact hz fun v hv => Classical.byContradiction fun e => hc ⟨v, hv, e⟩
      obtain ⟨y, hy, hne⟩ := this
      obtain ⟨π, hp⟩ := h.pot
      obtain ⟨n, c1, c2, hf⟩ := fin_of hg h.le hp
      rcases bestN_cases exc (rn g now exc (n + 1)).cost g.N with ⟨h1, h2⟩ | ⟨b, h1, h2, h3, h4⟩
      · exact ⟨none, .stuck hy hne c1 c2 h1, now, exc, _, h, cut_of hg hN h hf h2 hy hne⟩
      · obtain ⟨t, T, hb⟩ := hf.bi
        obtain ⟨k, hw⟩ := way_from hb hp h2 h4
        have d : PushData g now exc n b k := ⟨c1, c2, h1, hw⟩
        obtain ⟨q1, q2⟩ := d.good hg hN h
        have := posS_nonneg (addA (addA exc b 1) (backN (rn g now exc (n + 1)).by_ b k) (-1)) g.N
        obtain ⟨r, hr, hm⟩ := ih _ _ (by omega) q1
        exact ⟨r, .step hy hne d hr, hm⟩

-- sums

theorem sumN_zero : ∀ n, sumN (fun _ => 0) n = 0
  | 0 => rfl
  | n + 1 => by simp [sumN, sumN_zero n]

theorem sumN_plus (f h : Nat → Int) : ∀ n, sumN (fun i => f i + h i) n = sumN f n + sumN h n
  | 0 => rfl
  | n + 1 => by simp only [sumN, sumN_plus f h n]; omega

theorem sumN_minus (f h : Nat → Int) : ∀ n, sumN (fun i => f i - h i) n = sumN f n - sumN h n
  | 0 => rfl
  | n + 1 => by simp only [sumN, sumN_minus f h n]; omega

theorem sumN_single (f : Nat → Int) (a : Nat) : ∀ n, sumN (fun v => if a = v then f v else 0) n = if a < n then f a else 0
  | 0 => by simp [sumN]
  | n + 1 => by
    simp only [sumN, sumN_single f a n]
    by_cases e : a = n
    · subst e; simp
    · rw [if_neg e]
      by_cases h : a < n
      · rw [if_pos h, if_pos (by omega)]; omega
      · rw [if_neg h, if_neg (by omega)]; rfl

def balz (g : Gr) (z : Nat → Int) (v : Nat) : Int := sumN (fun i => (if g.to i = v then z i else 0) - (if g.fr i = v then z i else 0)) g.m

theorem bal_eq (g : Gr) (now : List Int) (v : Nat) : bal g now v = balz g (gi now) v := rfl

theorem dot_swap {g : Gr} (hg : GrOk g) (z π : Nat → Int) : sumN (fun i => z i * (π (g.to i) - π (g.fr i))) g.m = sumN (fun v => π v * balz g z v) g.N := by
  have key : ∀ m, m ≤ g.m → sumN (fun i => z i * (π (g.to i) - π (g.fr i))) m = sumN (fun v => π v * sumN (fun i => (if g.to i = v then z i else 0) - (if g.fr i = v then z i else 0)) m) g.N := by
    intro m
    induction m with
    | zero => intro _; simp [sumN, sumN_zero]
    | succ m ih =>
      intro hm
      simp only [sumN]
      rw [ih (by omega)]
      have e1 : ∀ v, π v * (sumN (fun i => (if g.to i = v then z i else 0) - (if g.fr i = v then z i else 0)) m + ((if g.to m = v then z m else 0) - (if g.fr m = v then z m else 0))) =
          π v * sumN (fun i => (if g.to i = v then z i else 0) - (if g.fr i = v then z i else 0)) m + ((if g.to m = v then z m * π v else 0) - (if g.fr m = v then z m * π v else 0)) := by
        intro v
        rw [Int.mul_add, Int.mul_sub]
        congr 1
        split <;> split <;> simp [Int.mul_comm]
      rw [sumN_congr fun v _ => e1 v, sumN_plus, sumN_minus, sumN_single (fun v => z m * π v), sumN_single (fun v => z m * π v), if_pos (hg.to m (by omega)), if_pos (hg.fr m (by omega)), Int.mul_sub]
  exact key g.m (Nat.le_refl _)

/-- What a change costs. -/
def chg (g : Gr) (i : Nat) (a : Int) : Int := max (g.ar i - a) (a - g.ar i)

theorem convex {a y m c : Int} (h1 : a < y → c ≤ prI a (a + 1) m) (h2 : y < a → -c ≤ prI a (a - 1) m) : (y - a) * c ≤ max (m - y) (y - m) - max (m - a) (a - m) := by
  rcases Int.lt_trichotomy a y with h | h | h
  · have h1 := h1 h
    have : (y - a) * c ≤ (y - a) * prI a (a + 1) m := Int.mul_le_mul_of_nonneg_left h1 (by omega)
    rcases prI_up a m with e | e
    · rw [e, Int.mul_one] at this
      unfold prI at e; omega
    · rw [e] at this
      unfold prI at e; omega
  · subst h; simp
  · have h2 := h2 h
    have : (a - y) * (-c) ≤ (a - y) * prI a (a - 1) m := Int.mul_le_mul_of_nonneg_left h2 (by omega)
    have e0 : (a - y) * (-c) = (y - a) * c := by rw [← Int.neg_mul_neg]; congr 1 <;> omega
    rw [e0] at this
    rcases prI_dn a m with e | e
    · rw [e, Int.mul_one] at this
      unfold prI at e; omega
    · rw [e] at this
      unfold prI at e; omega

/-- WHAT COMES OUT IS CHEAPEST. -/
theorem cheapest {g : Gr} (hg : GrOk g) {sup : Nat → Int} {now exc : List Int} (h : Good g sup now exc) (hz : ∀ v, v < g.N → gi exc v = 0) {y : Nat → Int} (hb : ∀ i, i < g.m → g.lo i ≤ y i ∧ y i ≤ g.hi i) (hy : ∀ v, v < g.N → sup v + balz g y v = 0) :
    sumN (fun i => chg g i (gi now i)) g.m ≤ sumN (fun i => chg g i (y i)) g.m := by
  obtain ⟨π, hp⟩ := h.pot
  have h1 : sumN (fun i => (y i - gi now i) * (π (g.to i) - π (g.fr i))) g.m ≤ sumN (fun i => chg g i (y i) - chg g i (gi now i)) g.m := by
    refine sumN_le fun i hi => ?_
    have b1 := hb i hi
    have b2 := h.bd i hi
    by_cases e : g.fr i = g.to i
    · have := h.loop i hi e
      rw [e]; simp
      unfold chg; omega
    · refine convex (fun hl => ?_) (fun hl => ?_)
      · have := hp i 1 (g.fr i) (g.to i) ⟨hi, e, .inl ⟨rfl, rfl, rfl, by omega⟩⟩
        exact this
      · have := hp i (-1) (g.to i) (g.fr i) ⟨hi, fun e' => e e'.symm, .inr ⟨rfl, rfl, rfl, by omega⟩⟩
        unfold pr at this
        rw [Int.add_neg_eq_sub] at this
        omega
  have h2 := dot_swap hg (fun i => y i - gi now i) π
  have h3 : ∀ v, v < g.N → π v * balz g (fun i => y i - gi now i) v = 0 := by
    intro v hv
    have e1 : balz g (fun i => y i - gi now i) v = balz g y v - balz g (gi now) v := by
      unfold balz
      rw [← sumN_minus]
      refine sumN_congr fun i _ => ?_
      dsimp only
      split <;> split <;> omega
    have e2 := hy v hv
    have e3 := h.ex v hv
    rw [hz v hv, bal_eq] at e3
    have : balz g (fun i => y i - gi now i) v = 0 := by rw [e1]; omega
    rw [this, Int.mul_zero]
  rw [sumN_congr h3, sumN_zero] at h2
  rw [h2, sumN_minus] at h1
  omega

/-- What nodes can give at most. -/
def outS (g : Gr) (S : Nat → Bool) (i : Nat) : Int := if S (g.fr i) && !S (g.to i) then g.hi i else if S (g.to i) && !S (g.fr i) then -g.lo i else 0
def supS (g : Gr) (sup : Nat → Int) (S : Nat → Bool) : Int := sumN (fun v => if S v then sup v else 0) g.N

theorem balS {g : Gr} (hg : GrOk g) (S : Nat → Bool) (z : Nat → Int) : sumN (fun v => if S v then balz g z v else 0) g.N = sumN (fun i => (if S (g.to i) then z i else 0) - (if S (g.fr i) then z i else 0)) g.m := by
  have := dot_swap hg z (fun v => if S v then 1 else 0)
  have e1 : sumN (fun v => (if S v then (1 : Int) else 0) * balz g z v) g.N = sumN (fun v => if S v then balz g z v else 0) g.N := sumN_congr fun v _ => by split <;> simp
  rw [e1] at this
  rw [← this]
  refine sumN_congr fun i _ => ?_
  rw [Int.mul_sub]
  split <;> split <;> simp

/-- A cut proves that too much is left. -/
theorem cut_sup {g : Gr} (hg : GrOk g) {sup : Nat → Int} {now exc : List Int} (h : Good g sup now exc) {S : Nat → Bool} (c : Cut g now exc S) : sumN (outS g S) g.m < supS g sup S := by
  have h1 := c.pos
  have e1 : sumN (fun v => if S v then gi exc v else 0) g.N = supS g sup S + sumN (fun v => if S v then balz g (gi now) v else 0) g.N := by
    unfold supS
    rw [← sumN_plus]
    refine sumN_congr fun v hv => ?_
    rw [h.ex v hv, bal_eq]
    split <;> omega
  rw [e1, balS hg] at h1
  have e2 : sumN (outS g S) g.m = sumN (fun i => (if S (g.fr i) then gi now i else 0) - (if S (g.to i) then gi now i else 0)) g.m := by
    refine sumN_congr fun i hi => ?_
    unfold outS
    have c1 := c.out i hi
    have c2 := c.inn i hi
    cases a : S (g.fr i) <;> cases b : S (g.to i) <;> simp [a, b] at c1 c2 ⊢
    · exact c2.symm
    · exact c1.symm
  have e3 : sumN (fun i => (if S (g.to i) then gi now i else 0) - (if S (g.fr i) then gi now i else 0)) g.m + sumN (fun i => (if S (g.fr i) then gi now i else 0) - (if S (g.to i) then gi now i else 0)) g.m = 0 := by
    rw [← sumN_plus, sumN_congr (g := fun _ => 0) fun i _ => by omega, sumN_zero]
  omega

/-- And then nothing can fill it. -/
theorem sup_none {g : Gr} (hg : GrOk g) {sup : Nat → Int} {S : Nat → Bool} {y : Nat → Int} (hb : ∀ i, i < g.m → g.lo i ≤ y i ∧ y i ≤ g.hi i) (hy : ∀ v, v < g.N → S v = true → sup v + balz g y v = 0) : supS g sup S ≤ sumN (outS g S) g.m := by
  have e1 : supS g sup S + sumN (fun v => if S v then balz g y v else 0) g.N = 0 := by
    unfold supS
    rw [← sumN_plus, sumN_congr (g := fun _ => 0) fun v hv => ?_, sumN_zero]
    cases hs : S v
    · simp
    · simpa using hy v hv hs
  rw [balS hg] at e1
  have e2 : sumN (fun i => (if S (g.fr i) then y i else 0) - (if S (g.to i) then y i else 0)) g.m ≤ sumN (outS g S) g.m := by
    refine sumN_le fun i hi => ?_
    have := hb i hi
    unfold outS
    cases a : S (g.fr i) <;> cases b : S (g.to i) <;> simp <;> omega
  have e3 : sumN (fun i => (if S (g.to i) then y i else 0) - (if S (g.fr i) then y i else 0)) g.m + sumN (fun i => (if S (g.fr i) then y i else 0) - (if S (g.to i) then y i else 0)) g.m = 0 := by
    rw [← sumN_plus, sumN_congr (g := fun _ => 0) fun i _ => by omega, sumN_zero]
  omega

theorem bal_total {g : Gr} (hg : GrOk g) (z : Nat → Int) : sumN (balz g z) g.N = 0 := by
  have := balS hg (fun _ => true) z
  simp only [if_true] at this
  rw [show sumN (balz g z) g.N = sumN (fun v => balz g z v) g.N from rfl, this, sumN_congr (g := fun _ => 0) fun i _ => by omega, sumN_zero]

end Go.Proofs.Ytgcmjidphcafnaa.Flow

