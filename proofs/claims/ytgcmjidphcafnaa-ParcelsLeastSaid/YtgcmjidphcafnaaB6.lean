/- The machine of abstract values and the contracts of the functions of the program, which the statements of this seat share. No condition. -/
import Derived.Test.YtgcmjidphcafnaaB5

set_option linter.unusedSimpArgs false
set_option linter.unusedVariables false
set_option linter.constructorNameAsVariable false

namespace Go.Proofs.Ytgcmjidphcafnaa
open Go Go.Abs

set_option maxHeartbeats 2000000

/-- What settling says. -/
def SetPost (p : Plat) (r : Option (List Int)) : Prop :=
  match r with
  | some l => IsP p l ∧ ∀ y, IsP p y → sumC p l ≤ sumC p y
  | none => (∃ r c, r < 2 ^ p.rows.length ∧ c < 2 ^ p.cols.length ∧ SetP p r c) ∧ ∀ y, ¬ IsP p y

theorem settle_c (p : Plat) (hp : PlatW p) : ∃ r, Pure Try.prog 51 [encPlat p] (encSet51 r) ∧ SetPost p r := by
  obtain ⟨r, h1, h2⟩ := settle_ends hp
  exact ⟨r, settle51 p hp r h1, h2⟩

theorem can57 (p : Plat) (hp : PlatW p) (b : Bool) (hb : b = true ↔ ∃ l, IsP p l) : Pure Try.prog 57 [encPlat p] (.bool b) := by
  obtain ⟨r, h1, h2⟩ := settle_c p hp
  cases r with
  | some l =>
    have : b = true := hb.2 ⟨l, h2.1⟩
    subst this
    simp only [encSet51] at h1
    refine pure_of (fn := Try.f57) [.tmp 2] ⟨Try.func57, rfl, by kernel_rfl⟩ (by kernel_rfl) (by kernel_rfl) (by kernel_rfl) fun x hx hσ => ?_
    repeat refine awp_seq ?_
    refine awp_reg1 (by rw [hx]; kernel_rfl) fun K hK => ?_
    simp (config := { maxSteps := 1000000 }) [ty25]
    refine hK _ ?_
    clear hK K
    first | show AWP _ _ _ _ _ | show ∃ _, _ | skip
    repeat refine awp_seq ?_
    refine awp_reg1 (by rw [hx]; kernel_rfl) fun K hK => ?_
    simp (config := { maxSteps := 1000000 }) [ty25]
    refine callP (h1) (by first | (simp; done) | (simp [*]; done)) ?_
    simp (config := { maxSteps := 1000000 }) []
    refine hK _ ?_
    clear hK K
    first | show AWP _ _ _ _ _ | show ∃ _, _ | skip
    repeat refine awp_seq ?_
    refine awp_reg1 (by rw [hx]; kernel_rfl) fun K hK => ?_
    simp (config := { maxSteps := 1000000 }) []
    refine hK _ ?_
    clear hK K
    first | show AWP _ _ _ _ _ | show ∃ _, _ | skip
    repeat refine awp_seq ?_
    refine awp_ret ?_
    refine And.intro (Or.inr rfl) ?_
    simp [retC, resC, viewC, mapO]
  | none =>
    have : b = false := by
      cases b
      · rfl
      · obtain ⟨l, hl⟩ := hb.1 rfl
        exact absurd hl (h2.2 l)
    subst this
    simp only [encSet51] at h1
    refine pure_of (fn := Try.f57) [.tmp 2] ⟨Try.func57, rfl, by kernel_rfl⟩ (by kernel_rfl) (by kernel_rfl) (by kernel_rfl) fun x hx hσ => ?_
    repeat refine awp_seq ?_
    refine awp_reg1 (by rw [hx]; kernel_rfl) fun K hK => ?_
    simp (config := { maxSteps := 1000000 }) [ty25]
    refine hK _ ?_
    clear hK K
    first | show AWP _ _ _ _ _ | show ∃ _, _ | skip
    repeat refine awp_seq ?_
    refine awp_reg1 (by rw [hx]; kernel_rfl) fun K hK => ?_
    simp (config := { maxSteps := 1000000 }) [ty25]
    refine callP (h1) (by first | (simp; done) | (simp [*]; done)) ?_
    simp (config := { maxSteps := 1000000 }) []
    refine hK _ ?_
    clear hK K
    first | show AWP _ _ _ _ _ | show ∃ _, _ | skip
    repeat refine awp_seq ?_
    refine awp_reg1 (by rw [hx]; kernel_rfl) fun K hK => ?_
    simp (config := { maxSteps := 1000000 }) []
    refine hK _ ?_
    clear hK K
    first | show AWP _ _ _ _ _ | show ∃ _, _ | skip
    repeat refine awp_seq ?_
    refine awp_ret ?_
    refine And.intro (Or.inr rfl) ?_
    simp [retC, resC, viewC, mapO]

theorem adjust_bad (p : Plat) (h0 : p.ps.length ≤ 1000) (h1 : p.rows.length ≤ 1000) (h2 : p.cols.length ≤ 1000) (hp : ¬ PlatOk p) : Pure Try.prog 16 [encPlat p] (.tup [.sl true true [], encI 60]) := by
  have hc := check33 p h0 h1 h2
  rw [if_neg hp] at hc
  refine pure_of (fn := Try.f16) [.tmp 2, .tmp 3] ⟨Try.func16, rfl, by kernel_rfl⟩ (by kernel_rfl) (by kernel_rfl) (by kernel_rfl) fun x hx hσ => ?_
  repeat refine awp_seq ?_
  refine awp_reg1 (by rw [hx]; kernel_rfl) fun K hK => ?_
  simp (config := { maxSteps := 1000000 }) [ty25]
  refine hK _ ?_
  clear hK K
  first | show AWP _ _ _ _ _ | show ∃ _, _ | skip
  repeat refine awp_seq ?_
  refine awp_reg1 (by rw [hx]; kernel_rfl) fun K hK => ?_
  simp (config := { maxSteps := 1000000 }) [ty25]
  refine callP (hc) (by first | (simp; done) | (simp [*]; done)) ?_
  simp (config := { maxSteps := 1000000 }) []
  refine hK _ ?_
  clear hK K
  first | show AWP _ _ _ _ _ | show ∃ _, _ | skip
  repeat refine awp_seq ?_
  refine awp_reg1 (by rw [hx]; kernel_rfl) fun K hK => ?_
  simp (config := { maxSteps := 1000000 }) [ty30]
  refine hK _ ?_
  clear hK K
  first | show AWP _ _ _ _ _ | show ∃ _, _ | skip
  repeat refine awp_seq ?_
  refine awp_cond (by simp; rfl) (by rw [hx]; simp) (fun hd => ?_) (fun hd => ?_)
  · repeat refine awp_seq ?_
    refine awp_reg1 (by rw [hx]; kernel_rfl) fun K hK => ?_
    simp (config := { maxSteps := 1000000 }) []
    refine hK _ ?_
    clear hK K
    first | show AWP _ _ _ _ _ | show ∃ _, _ | skip
    repeat refine awp_seq ?_
    refine awp_ret ?_
    refine And.intro (Or.inr rfl) ?_
    simp [retC, resC, viewC, mapO]
  · simp at hd

def encAdj (r : Option (List Int)) : C :=
  match r with
  | some l => .tup [.sl l.isEmpty false (l.map cI), encI 0]
  | none => .tup [.sl true true [], encI 3]

theorem adjust_c (p : Plat) (hp : PlatOk p) : ∃ r, Pure Try.prog 16 [encPlat p] (encAdj r) ∧ SetPost p r := by
  have hc := check33 p (by have := hp.n8; omega) (by have := hp.r4; omega) (by have := hp.c4; omega)
  rw [if_pos hp] at hc
  obtain ⟨r, h1, h2⟩ := settle_c p hp.w
  refine ⟨r, ?_, h2⟩
  cases r with
  | some l =>
    simp only [encSet51] at h1
    refine pure_of (fn := Try.f16) [.tmp 2, .tmp 3] ⟨Try.func16, rfl, by kernel_rfl⟩ (by kernel_rfl) (by kernel_rfl) (by kernel_rfl) fun x hx hσ => ?_
    repeat refine awp_seq ?_
    refine awp_reg1 (by rw [hx]; kernel_rfl) fun K hK => ?_
    simp (config := { maxSteps := 1000000 }) [ty25]
    refine hK _ ?_
    clear hK K
    first | show AWP _ _ _ _ _ | show ∃ _, _ | skip
    repeat refine awp_seq ?_
    refine awp_reg1 (by rw [hx]; kernel_rfl) fun K hK => ?_
    simp (config := { maxSteps := 1000000 }) [ty25]
    refine callP (hc) (by first | (simp; done) | (simp [*]; done)) ?_
    simp (config := { maxSteps := 1000000 }) []
    refine hK _ ?_
    clear hK K
    first | show AWP _ _ _ _ _ | show ∃ _, _ | skip
    repeat refine awp_seq ?_
    refine awp_reg1 (by rw [hx]; kernel_rfl) fun K hK => ?_
    simp (config := { maxSteps := 1000000 }) [ty30]
    refine hK _ ?_
    clear hK K
    first | show AWP _ _ _ _ _ | show ∃ _, _ | skip
    repeat refine awp_seq ?_
    refine awp_cond (by simp; rfl) (by rw [hx]; simp) (fun hd => ?_) (fun hd => ?_)
    · simp at hd
    · refine awp_skip ?_
      first | show AWP _ _ _ _ _ | show ∃ _, _ | skip
      repeat refine awp_seq ?_
      refine awp_reg1 (by rw [hx]; kernel_rfl) fun K hK => ?_
      simp (config := { maxSteps := 1000000 }) [ty25]
      refine callP (h1) (by first | (simp; done) | (simp [*]; done)) ?_
      simp (config := { maxSteps := 1000000 }) []
      refine hK _ ?_
      clear hK K
      first | show AWP _ _ _ _ _ | show ∃ _, _ | skip
      repeat refine awp_seq ?_
      refine awp_reg1 (by rw [hx]; kernel_rfl) fun K hK => ?_
      simp (config := { maxSteps := 1000000 }) []
      refine hK _ ?_
      clear hK K
      first | show AWP _ _ _ _ _ | show ∃ _, _ | skip
      repeat refine awp_seq ?_
      refine awp_cond (by simp; rfl) (by rw [hx]; simp) (fun he => ?_) (fun he => ?_)
      · simp at he
      · refine awp_skip ?_
        first | show AWP _ _ _ _ _ | show ∃ _, _ | skip
        repeat refine awp_seq ?_
        refine awp_reg1 (by rw [hx]; kernel_rfl) fun K hK => ?_
        simp (config := { maxSteps := 1000000 }) []
        refine hK _ ?_
        clear hK K
        first | show AWP _ _ _ _ _ | show ∃ _, _ | skip
        repeat refine awp_seq ?_
        refine awp_ret ?_
        refine And.intro (Or.inr rfl) ?_
        simp [retC, resC, viewC, mapO, encAdj]
  | none =>
    simp only [encSet51] at h1
    refine pure_of (fn := Try.f16) [.tmp 2, .tmp 3] ⟨Try.func16, rfl, by kernel_rfl⟩ (by kernel_rfl) (by kernel_rfl) (by kernel_rfl) fun x hx hσ => ?_
    repeat refine awp_seq ?_
    refine awp_reg1 (by rw [hx]; kernel_rfl) fun K hK => ?_
    simp (config := { maxSteps := 1000000 }) [ty25]
    refine hK _ ?_
    clear hK K
    first | show AWP _ _ _ _ _ | show ∃ _, _ | skip
    repeat refine awp_seq ?_
    refine awp_reg1 (by rw [hx]; kernel_rfl) fun K hK => ?_
    simp (config := { maxSteps := 1000000 }) [ty25]
    refine callP (hc) (by first | (simp; done) | (simp [*]; done)) ?_
    simp (config := { maxSteps := 1000000 }) []
    refine hK _ ?_
    clear hK K
    first | show AWP _ _ _ _ _ | show ∃ _, _ | skip
    repeat refine awp_seq ?_
    refine awp_reg1 (by rw [hx]; kernel_rfl) fun K hK => ?_
    simp (config := { maxSteps := 1000000 }) [ty30]
    refine hK _ ?_
    clear hK K
    first | show AWP _ _ _ _ _ | show ∃ _, _ | skip
    repeat refine awp_seq ?_
    refine awp_cond (by simp; rfl) (by rw [hx]; simp) (fun hd => ?_) (fun hd => ?_)
    · simp at hd
    · refine awp_skip ?_
      first | show AWP _ _ _ _ _ | show ∃ _, _ | skip
      repeat refine awp_seq ?_
      refine awp_reg1 (by rw [hx]; kernel_rfl) fun K hK => ?_
      simp (config := { maxSteps := 1000000 }) [ty25]
      refine callP (h1) (by first | (simp; done) | (simp [*]; done)) ?_
      simp (config := { maxSteps := 1000000 }) []
      refine hK _ ?_
      clear hK K
      first | show AWP _ _ _ _ _ | show ∃ _, _ | skip
      repeat refine awp_seq ?_
      refine awp_reg1 (by rw [hx]; kernel_rfl) fun K hK => ?_
      simp (config := { maxSteps := 1000000 }) []
      refine hK _ ?_
      clear hK K
      first | show AWP _ _ _ _ _ | show ∃ _, _ | skip
      repeat refine awp_seq ?_
      refine awp_cond (by simp; rfl) (by rw [hx]; simp) (fun he => ?_) (fun he => ?_)
      · repeat refine awp_seq ?_
        refine awp_reg1 (by rw [hx]; kernel_rfl) fun K hK => ?_
        simp (config := { maxSteps := 1000000 }) []
        refine hK _ ?_
        clear hK K
        first | show AWP _ _ _ _ _ | show ∃ _, _ | skip
        repeat refine awp_seq ?_
        refine awp_ret ?_
        refine And.intro (Or.inr rfl) ?_
        simp [retC, resC, viewC, mapO, encAdj]
      · simp at he

theorem least_bad (p : Plat) (h0 : p.ps.length ≤ 1000) (h1 : p.rows.length ≤ 1000) (h2 : p.cols.length ≤ 1000) (hp : ¬ PlatOk p) : Pure Try.prog 25 [encPlat p] (.tup [encI 0, encI 60]) := by
  have hc := adjust_bad p h0 h1 h2 hp
  refine pure_of (fn := Try.f25) [.tmp 2, .tmp 3] ⟨Try.func25, rfl, by kernel_rfl⟩ (by kernel_rfl) (by kernel_rfl) (by kernel_rfl) fun x hx hσ => ?_
  repeat refine awp_seq ?_
  refine awp_reg1 (by rw [hx]; kernel_rfl) fun K hK => ?_
  simp (config := { maxSteps := 1000000 }) [ty25]
  refine hK _ ?_
  clear hK K
  first | show AWP _ _ _ _ _ | show ∃ _, _ | skip
  repeat refine awp_seq ?_
  refine awp_reg1 (by rw [hx]; kernel_rfl) fun K hK => ?_
  simp (config := { maxSteps := 1000000 }) [ty25]
  refine callP (hc) (by first | (simp; done) | (simp [*]; done)) ?_
  simp (config := { maxSteps := 1000000 }) []
  refine hK _ ?_
  clear hK K
  first | show AWP _ _ _ _ _ | show ∃ _, _ | skip
  repeat refine awp_seq ?_
  refine awp_reg1 (by rw [hx]; kernel_rfl) fun K hK => ?_
  simp (config := { maxSteps := 1000000 }) [ty23]
  refine hK _ ?_
  clear hK K
  first | show AWP _ _ _ _ _ | show ∃ _, _ | skip
  repeat refine awp_seq ?_
  refine awp_block ?_
  refine awp_loop (fun _ : Unit => ⟨ofL [(2, encI 0), (3, encI 60), (13, encI 0), (14, encI 0)], stoT []⟩) (fun _ => True) (fun _ => 0) () trivial ?_ ?_
  · refine wk_shape (shp0 hσ (by simp) (by simp) ?_) ?_
    · simp [SlotOk] <;> (repeat' (first | exact .same (by simp [purel, C.isPure]) | refine And.intro ?_ ?_))
    · simp [mtc, mtl, mT, C.isPure, purel] <;> (try simp (disch := omega) [wrap_id])
  · intro _ _
    repeat refine awp_seq ?_
    refine awp_reg1 (by rw [hx]; kernel_rfl) fun K hK => ?_
    simp (config := { maxSteps := 1000000 }) [ty3]
    refine hK _ ?_
    clear hK K
    first | show AWP _ _ _ _ _ | show ∃ _, _ | skip
    repeat refine awp_seq ?_
    refine awp_cond (by simp; rfl) (by rw [hx]; simp) (fun hd => ?_) (fun hd => ?_)
    · simp at hd
    · repeat refine awp_seq ?_
      refine awp_exit ?_
      first | show AWP _ _ _ _ _ | show ∃ _, _ | skip
      repeat refine awp_seq ?_
      refine awp_reg1 (by rw [hx]; kernel_rfl) fun K hK => ?_
      simp (config := { maxSteps := 1000000 }) []
      refine hK _ ?_
      clear hK K
      first | show AWP _ _ _ _ _ | show ∃ _, _ | skip
      repeat refine awp_seq ?_
      refine awp_ret ?_
      refine And.intro (Or.inr rfl) ?_
      simp [retC, resC, viewC, mapO]

def encLeast (p : Plat) (r : Option (List Int)) : C :=
  match r with
  | some l => .tup [encI (sumC p l), encI 0]
  | none => .tup [encI 0, encI 3]

theorem least_c (p : Plat) (hp : PlatOk p) : ∃ r, Pure Try.prog 25 [encPlat p] (encLeast p r) ∧ Pure Try.prog 16 [encPlat p] (encAdj r) ∧ SetPost p r := by
  obtain ⟨r, h1, h2⟩ := adjust_c p hp
  refine ⟨r, ?_, h1, h2⟩
  cases r with
  | none =>
    simp only [encAdj] at h1
    refine pure_of (fn := Try.f25) [.tmp 2, .tmp 3] ⟨Try.func25, rfl, by kernel_rfl⟩ (by kernel_rfl) (by kernel_rfl) (by kernel_rfl) fun x hx hσ => ?_
    repeat refine awp_seq ?_
    refine awp_reg1 (by rw [hx]; kernel_rfl) fun K hK => ?_
    simp (config := { maxSteps := 1000000 }) [ty25]
    refine hK _ ?_
    clear hK K
    first | show AWP _ _ _ _ _ | show ∃ _, _ | skip
    repeat refine awp_seq ?_
    refine awp_reg1 (by rw [hx]; kernel_rfl) fun K hK => ?_
    simp (config := { maxSteps := 1000000 }) [ty25]
    refine callP (h1) (by first | (simp; done) | (simp [*]; done)) ?_
    simp (config := { maxSteps := 1000000 }) []
    refine hK _ ?_
    clear hK K
    first | show AWP _ _ _ _ _ | show ∃ _, _ | skip
    repeat refine awp_seq ?_
    refine awp_reg1 (by rw [hx]; kernel_rfl) fun K hK => ?_
    simp (config := { maxSteps := 1000000 }) [ty23]
    refine hK _ ?_
    clear hK K
    first | show AWP _ _ _ _ _ | show ∃ _, _ | skip
    repeat refine awp_seq ?_
    refine awp_block ?_
    refine awp_loop (fun _ : Unit => ⟨ofL [(2, encI 0), (3, encI 3), (13, encI 0), (14, encI 0)], stoT []⟩) (fun _ => True) (fun _ => 0) () trivial ?_ ?_
    · refine wk_shape (shp0 hσ (by simp) (by simp) ?_) ?_
      · simp [SlotOk] <;> (repeat' (first | exact .same (by simp [purel, C.isPure]) | refine And.intro ?_ ?_))
      · simp [mtc, mtl, mT, C.isPure, purel] <;> (try simp (disch := omega) [wrap_id])
    · intro _ _
      repeat refine awp_seq ?_
      refine awp_reg1 (by rw [hx]; kernel_rfl) fun K hK => ?_
      simp (config := { maxSteps := 1000000 }) [ty3]
      refine hK _ ?_
      clear hK K
      first | show AWP _ _ _ _ _ | show ∃ _, _ | skip
      repeat refine awp_seq ?_
      refine awp_cond (by simp; rfl) (by rw [hx]; simp) (fun hd => ?_) (fun hd => ?_)
      · simp at hd
      · repeat refine awp_seq ?_
        refine awp_exit ?_
        first | show AWP _ _ _ _ _ | show ∃ _, _ | skip
        repeat refine awp_seq ?_
        refine awp_reg1 (by rw [hx]; kernel_rfl) fun K hK => ?_
        simp (config := { maxSteps := 1000000 }) []
        refine hK _ ?_
        clear hK K
        first | show AWP _ _ _ _ _ | show ∃ _, _ | skip
        repeat refine awp_seq ?_
        refine awp_ret ?_
        refine And.intro (Or.inr rfl) ?_
        simp [retC, resC, viewC, mapO, encLeast]
  | some l =>
    simp only [encAdj] at h1
    obtain ⟨hl, hb, hf⟩ := h2.1
    have hbd := bd_of_ends hp hl hb
    have h8 := hp.n8
    refine pure_of (fn := Try.f25) [.tmp 2, .tmp 3] ⟨Try.func25, rfl, by kernel_rfl⟩ (by kernel_rfl) (by kernel_rfl) (by kernel_rfl) fun x hx hσ => ?_
    repeat refine awp_seq ?_
    refine awp_reg1 (by rw [hx]; kernel_rfl) fun K hK => ?_
    simp (config := { maxSteps := 1000000 }) [ty25]
    refine hK _ ?_
    clear hK K
    first | show AWP _ _ _ _ _ | show ∃ _, _ | skip
    repeat refine awp_seq ?_
    refine awp_reg1 (by rw [hx]; kernel_rfl) fun K hK => ?_
    simp (config := { maxSteps := 1000000 }) [ty25]
    refine callP (h1) (by first | (simp; done) | (simp [*]; done)) ?_
    simp (config := { maxSteps := 1000000 }) []
    refine hK _ ?_
    clear hK K
    first | show AWP _ _ _ _ _ | show ∃ _, _ | skip
    repeat refine awp_seq ?_
    refine awp_reg1 (by rw [hx]; kernel_rfl) fun K hK => ?_
    simp (config := { maxSteps := 1000000 }) [ty23]
    refine hK _ ?_
    clear hK K
    first | show AWP _ _ _ _ _ | show ∃ _, _ | skip
    repeat refine awp_seq ?_
    refine awp_block ?_
    refine awp_loop (fun i : Nat => ⟨ofL [(1, .ptr 1 3 0 0), (2, encI (sumTo (chgF p l) i)), (3, encI 0), (12, .sl l.isEmpty false (l.map cI)), (13, encI l.length), (14, encI i)], stoT [(1, 1, .live (obPlat p))]⟩)
      (fun i => i ≤ l.length) (fun i => l.length - i) 0 (by simp) ?_ ?_
    · refine wk_shape (shp0 hσ (by simp) (by simp) ?_) ?_
      · simp [SlotOk] <;> (repeat' (first | exact .same (by simp [purel, C.isPure]) | refine And.intro ?_ ?_))
      · simp [mtc, mtl, mT, C.isPure, purel, sumTo] <;> (try simp (disch := omega) [wrap_id])
    · intro i hi
      repeat refine awp_seq ?_
      refine awp_reg1 (by rw [hx]; kernel_rfl) fun K hK => ?_
      simp (config := { maxSteps := 1000000 }) [ty3]
      refine hK _ ?_
      clear hK K
      first | show AWP _ _ _ _ _ | show ∃ _, _ | skip
      repeat refine awp_seq ?_
      refine awp_cond (by simp; rfl) (by rw [hx]; simp) (fun hc => ?_) (fun hc => ?_)
      · simp at hc
        refine awp_skip ?_
        first | show AWP _ _ _ _ _ | show ∃ _, _ | skip
        repeat refine awp_seq ?_
        refine awp_block ?_
        have hi' : i < p.ps.length := by omega
        have hq := hp.ps _ (List.getElem_mem hi')
        have hq' := hq
        unfold PcOk at hq'
        have hlb := hbd _ (List.getElem_mem hc)
        repeat refine awp_seq ?_
        refine awp_reg1 (by rw [hx]; kernel_rfl) fun K hK => ?_
        simp (config := { maxSteps := 1000000 }) [ty23, ty3, hc]
        refine hK _ ?_
        clear hK K
        first | show AWP _ _ _ _ _ | show ∃ _, _ | skip
        repeat refine awp_seq ?_
        refine awp_drw3 [] [0, 1, 2, 3, 4, 5, 6, 7, 8, 9, 10, 11, 12, 13, 14, 15, 16] (by rw [hx]; kernel_rfl) (by kernel_rfl) (by kernel_rfl) (by kernel_rfl) fun K hK => ?_
        simp (config := { maxSteps := 1000000 }) [ty25, ty22, ty45, ty3, hi']
        refine callPD (price_c p.ps[i].area l[i] p.ps[i].area (by omega) (by omega) (by omega) (by omega) (by omega) (by omega)) (by first | (simp; done) | (simp [*]; done)) (by simp) ?_
        simp (config := { maxSteps := 1000000 }) []
        refine hK _ ?_
        clear hK K
        first | show AWP _ _ _ _ _ | show ∃ _, _ | skip
        repeat refine awp_seq ?_
        refine awp_reg1 (by rw [hx]; kernel_rfl) fun K hK => ?_
        simp (config := { maxSteps := 1000000 }) [ty3]
        refine hK _ ?_
        clear hK K
        first | show AWP _ _ _ _ _ | show ∃ _, _ | skip
        refine ⟨i + 1, by omega, by omega, ?_⟩
        have hs := sumTo_le (f := chgF p l) (b := 20000) (n := i) fun j hj => by have := chgF_bd hp.ps hbd j (by omega); omega
        have e1 : chgF p l i = max (l[i] - p.ps[i].area) (p.ps[i].area - l[i]) - max (p.ps[i].area - p.ps[i].area) (p.ps[i].area - p.ps[i].area) := by simp [chgF, hi', hc, chgI]; omega
        have e2 := chgF_bd hp.ps hbd i hi'
        rw [e1] at e2
        have w1 : IntKind.i64.wrap (sumTo (chgF p l) i + (max (l[i] - p.ps[i].area) (p.ps[i].area - l[i]) - max (p.ps[i].area - p.ps[i].area) (p.ps[i].area - p.ps[i].area))) = sumTo (chgF p l) (i + 1) := by
          rw [← e1]; rw [← e1] at e2; rw [wrap_id (by omega) (by omega)]; rfl
        simp only [Int.sub_self, Int.max_self, Int.sub_zero] at w1
        refine wk_shape (shp0 hσ (by simp) (by simp) ?_) ?_
        · simp [SlotOk] <;> (repeat' (first | exact .same (by simp [purel, C.isPure]) | refine And.intro ?_ ?_))
        · simp [mtc, mtl, mT, C.isPure, purel, w1] <;> (try simp (disch := omega) [wrap_id])
      · simp at hc
        repeat refine awp_seq ?_
        refine awp_exit ?_
        first | show AWP _ _ _ _ _ | show ∃ _, _ | skip
        have : i = l.length := by omega
        subst this
        repeat refine awp_seq ?_
        refine awp_reg1 (by rw [hx]; kernel_rfl) fun K hK => ?_
        simp (config := { maxSteps := 1000000 }) []
        refine hK _ ?_
        clear hK K
        first | show AWP _ _ _ _ _ | show ∃ _, _ | skip
        repeat refine awp_seq ?_
        refine awp_ret ?_
        refine And.intro (Or.inr rfl) ?_
        simp [retC, resC, viewC, mapO, encLeast, sumC, hl]

end Go.Proofs.Ytgcmjidphcafnaa

namespace Go.Proofs.Ytgcmjidphcafnaa
open Go Go.Abs

set_option maxHeartbeats 2000000

theorem mapTo_mem {f : Nat → Pc → Pc} {ps : List Pc} {q : Pc} (h : q ∈ mapTo f ps ps.length) : ∃ i, ∃ hi : i < ps.length, q = f i ps[i] := by
  obtain ⟨j, hj, rfl⟩ := List.getElem_of_mem h
  have hj' : j < ps.length := by simpa using hj
  have := mapTo_get f ps j hj' ps.length
  rw [List.getElem?_eq_getElem hj, if_pos hj'] at this
  simp only [Option.some.injEq, List.getElem?_eq_getElem hj', Option.getD_some] at this
  exact ⟨j, hj', this⟩

theorem withP_w {p : Plat} (hp : PlatW p) {f : Nat → Pc → Pc} (hf : ∀ i, ∀ hi : i < p.ps.length, PcW (f i p.ps[i]) ∧ (f i p.ps[i]).row = p.ps[i].row ∧ (f i p.ps[i]).col = p.ps[i].col) : PlatW (withP p f) := by
  refine ⟨by simpa using hp.n8, hp.r4, hp.c4, hp.rows, hp.cols, fun q hq => ?_, fun q hq => ?_, fun q hq => ?_⟩
  · obtain ⟨i, hi, rfl⟩ := mapTo_mem hq
    exact (hf i hi).1
  · obtain ⟨i, hi, rfl⟩ := mapTo_mem hq
    rw [(hf i hi).2.1]; exact hp.rr _ (List.getElem_mem hi)
  · obtain ⟨i, hi, rfl⟩ := mapTo_mem hq
    rw [(hf i hi).2.2]; exact hp.cc _ (List.getElem_mem hi)

theorem even_w {p : Plat} (hp : PlatW p) {n : Int} (hn : 0 ≤ n) : PlatW (withP p (fEven n)) := withP_w hp fun i hi => by
  have := hp.ps _ (List.getElem_mem hi)
  refine ⟨?_, rfl, rfl⟩
  unfold PcW fEven at *
  simp only
  omega

theorem few_w {p : Plat} (hp : PlatW p) (s : Nat) : PlatW (withP p (fFew s)) := withP_w hp fun i hi => by
  have := hp.ps _ (List.getElem_mem hi)
  refine ⟨?_, rfl, rfl⟩
  unfold PcW fFew at *
  simp only
  split <;> omega

theorem span_w {p : Plat} (hp : PlatW p) (k : Int) {n : Int} (hn : 0 ≤ n ∧ n ≤ 1098) : PlatW (withP p (fSpan k n)) := withP_w hp fun i hi => by
  have := hp.ps _ (List.getElem_mem hi)
  unfold fSpan
  split
  · refine ⟨?_, rfl, rfl⟩
    unfold PcW at *
    simp only
    omega
  · exact ⟨this, rfl, rfl⟩

/-- There is an adjustment. -/
def Fe (p : Plat) : Prop := ∃ l, IsP p l

theorem with_even (p : Plat) (hpn : p.pn = true → p.ps = []) (hl : p.ps.length ≤ 1000) (n : Int) : Pure Try.prog 69 [encPlat p, .fn (.func 85) [] [.ip [encI n] 0]] (encPlat (withP p (fEven n))) :=
  with69 p hpn hl 85 [.ip [encI n] 0] (fEven n) (by simp) fun em l i h1 h2 h3 => cap85 em l i n h2

theorem with_few (p : Plat) (hp : PlatOk p) (hpn : p.pn = true → p.ps = []) (s : Nat) (hs : s < 256) : Pure Try.prog 69 [encPlat p, .fn (.func 70) [] [.ip [.int .u64 s] 0]] (encPlat (withP p (fFew s))) :=
  with69 p hpn (by have := hp.n8; omega) 70 [.ip [.int .u64 s] 0] (fFew s) (by simp) fun em l i h1 h2 h3 => by
    have h8 := hp.n8
    refine cap70 em l i s h2 (by omega) hs ?_
    have hi : i < p.ps.length := by omega
    rw [h3]
    simp only [List.getElem?_eq_getElem hi, Option.getD_some]
    have := hp.ps _ (List.getElem_mem hi)
    unfold PcOk at this; omega

theorem with_span (p : Plat) (hpn : p.pn = true → p.ps = []) (hl : p.ps.length ≤ 1000) (k n : Int) : Pure Try.prog 69 [encPlat p, .fn (.func 79) [] [.ip [encI k] 0, .ip [encI n] 0]] (encPlat (withP p (fSpan k n))) :=
  with69 p hpn hl 79 [.ip [encI k] 0, .ip [encI n] 0] (fSpan k n) (by simp) fun em l i h1 h2 h3 => cap79 em l i k n h2

theorem even_bad (p : Plat) (h0 : p.ps.length ≤ 1000) (h1 : p.rows.length ≤ 1000) (h2 : p.cols.length ≤ 1000) (hp : ¬ PlatOk p) : Pure Try.prog 67 [encPlat p] (.tup [encI 0, .sl true true [], encI 60]) := by
  have hc := check33 p h0 h1 h2
  rw [if_neg hp] at hc
  refine pure_of (fn := Try.f67) [.tmp 2, .tmp 3, .tmp 4] ⟨Try.func67, rfl, by kernel_rfl⟩ (by kernel_rfl) (by kernel_rfl) (by kernel_rfl) fun x hx hσ => ?_
  repeat refine awp_seq ?_
  refine awp_reg1 (by rw [hx]; kernel_rfl) fun K hK => ?_
  simp (config := { maxSteps := 1000000 }) [ty25]
  refine hK _ ?_
  clear hK K
  first | show AWP _ _ _ _ _ | show ∃ _, _ | skip
  repeat refine awp_seq ?_
  refine awp_reg1 (by rw [hx]; kernel_rfl) fun K hK => ?_
  simp (config := { maxSteps := 1000000 }) [ty25]
  refine callP (hc) (by first | (simp; done) | (simp [*]; done)) ?_
  simp (config := { maxSteps := 1000000 }) []
  refine hK _ ?_
  clear hK K
  first | show AWP _ _ _ _ _ | show ∃ _, _ | skip
  repeat refine awp_seq ?_
  refine awp_reg1 (by rw [hx]; kernel_rfl) fun K hK => ?_
  simp (config := { maxSteps := 1000000 }) [ty30]
  refine hK _ ?_
  clear hK K
  first | show AWP _ _ _ _ _ | show ∃ _, _ | skip
  repeat refine awp_seq ?_
  refine awp_cond (by simp; rfl) (by rw [hx]; simp) (fun hd => ?_) (fun hd => ?_)
  · repeat refine awp_seq ?_
    refine awp_reg1 (by rw [hx]; kernel_rfl) fun K hK => ?_
    simp (config := { maxSteps := 1000000 }) []
    refine hK _ ?_
    clear hK K
    first | show AWP _ _ _ _ _ | show ∃ _, _ | skip
    repeat refine awp_seq ?_
    refine awp_ret ?_
    refine And.intro (Or.inr rfl) ?_
    simp [retC, resC, viewC, mapO]
  · simp at hd

theorem even_ok (p : Plat) (hp : PlatOk p) (hpn : p.pn = true → p.ps = []) (N0 : Nat) (res : C) (hno : ∀ n : Nat, n < N0 → ¬ Fe (withP p (fEven n)))
    (hstop : (N0 = 100 ∧ res = .tup [encI 0, .sl true true [], encI 3]) ∨
      (N0 < 100 ∧ ∃ l, Pure Try.prog 51 [encPlat (withP p (fEven N0))] (encSet51 (some l)) ∧ IsP (withP p (fEven N0)) l ∧ res = .tup [encI N0, .sl l.isEmpty false (l.map cI), encI 0])) :
    Pure Try.prog 67 [encPlat p] res := by
  have hc := check33 p (by have := hp.n8; omega) (by have := hp.r4; omega) (by have := hp.c4; omega)
  rw [if_pos hp] at hc
  refine pure_of (fn := Try.f67) [.tmp 2, .tmp 3, .tmp 4] ⟨Try.func67, rfl, by kernel_rfl⟩ (by kernel_rfl) (by kernel_rfl) (by kernel_rfl) fun x hx hσ => ?_
  repeat refine awp_seq ?_
  refine awp_reg1 (by rw [hx]; kernel_rfl) fun K hK => ?_
  simp (config := { maxSteps := 1000000 }) [ty25]
  refine hK _ ?_
  clear hK K
  first | show AWP _ _ _ _ _ | show ∃ _, _ | skip
  repeat refine awp_seq ?_
  refine awp_reg1 (by rw [hx]; kernel_rfl) fun K hK => ?_
  simp (config := { maxSteps := 1000000 }) [ty25]
  refine callP (hc) (by first | (simp; done) | (simp [*]; done)) ?_
  simp (config := { maxSteps := 1000000 }) []
  refine hK _ ?_
  clear hK K
  first | show AWP _ _ _ _ _ | show ∃ _, _ | skip
  repeat refine awp_seq ?_
  refine awp_reg1 (by rw [hx]; kernel_rfl) fun K hK => ?_
  simp (config := { maxSteps := 1000000 }) [ty30]
  refine hK _ ?_
  clear hK K
  first | show AWP _ _ _ _ _ | show ∃ _, _ | skip
  repeat refine awp_seq ?_
  refine awp_cond (by simp; rfl) (by rw [hx]; simp) (fun hd => ?_) (fun hd => ?_)
  · simp at hd
  clear hd
  refine awp_skip ?_
  first | show AWP _ _ _ _ _ | show ∃ _, _ | skip
  repeat refine awp_seq ?_
  refine awp_reg1 (by rw [hx]; kernel_rfl) fun K hK => ?_
  simp (config := { maxSteps := 1000000 }) []
  refine hK _ ?_
  clear hK K
  first | show AWP _ _ _ _ _ | show ∃ _, _ | skip
  repeat refine awp_seq ?_
  refine awp_block ?_
  refine awp_loop (fun n : Nat => ⟨ofL [(1, .ptr 1 3 0 0), (14, encI n)], stoT [(1, 1, .live (obPlat p))]⟩) (fun n => n ≤ N0) (fun n => 100 - n) 0 (by simp) ?_ ?_
  · refine wk_shape (shp0 hσ (by simp) (by simp) ?_) ?_
    · simp [SlotOk] <;> (repeat' (first | exact .same (by simp [purel, C.isPure]) | refine And.intro ?_ ?_))
    · simp [mtc, mtl, mT, C.isPure, purel] <;> (try simp (disch := omega) [wrap_id])
  · intro n hn
    repeat refine awp_seq ?_
    refine awp_reg1 (by rw [hx]; kernel_rfl) fun K hK => ?_
    simp (config := { maxSteps := 1000000 }) [ty3]
    refine hK _ ?_
    clear hK K
    first | show AWP _ _ _ _ _ | show ∃ _, _ | skip
    repeat refine awp_seq ?_
    refine awp_cond (by simp; rfl) (by rw [hx]; simp) (fun hc1 => ?_) (fun hc1 => ?_)
    · simp at hc1
      refine awp_skip ?_
      first | show AWP _ _ _ _ _ | show ∃ _, _ | skip
      repeat refine awp_seq ?_
      refine awp_block ?_
      repeat refine awp_seq ?_
      refine awp_reg1 (by rw [hx]; kernel_rfl) fun K hK => ?_
      simp (config := { maxSteps := 1000000 }) [ty3]
      refine hK _ ?_
      clear hK K
      first | show AWP _ _ _ _ _ | show ∃ _, _ | skip
      refine AWP.weak ?_ (wk_frzSlot 6 6 (o := cellOb (encI n)) (c' := .ip [encI n] 0) (by simp) rfl (fz_ptr rfl rfl rfl))
      rcases Nat.lt_or_ge n N0 with hlt | hge
      · obtain ⟨r, hs, hpost⟩ := settle_c (withP p (fEven n)) (even_w hp.w (by omega))
        cases r with
        | some l => exact absurd ⟨l, hpost.1⟩ (hno n hlt)
        | none =>
          simp only [encSet51] at hs
          repeat refine awp_seq ?_
          refine awp_reg1 (by rw [hx]; kernel_rfl) fun K hK => ?_
          simp (config := { maxSteps := 1000000 }) [ty25]
          refine callP (with_even p hpn (by have := hp.n8; omega) n) (by first | (simp; done) | (simp [*]; done)) ?_
          simp (config := { maxSteps := 1000000 }) []
          refine callP (hs) (by first | (simp; done) | (simp [*]; done)) ?_
          simp (config := { maxSteps := 1000000 }) []
          refine hK _ ?_
          clear hK K
          first | show AWP _ _ _ _ _ | show ∃ _, _ | skip
          repeat refine awp_seq ?_
          refine awp_reg1 (by rw [hx]; kernel_rfl) fun K hK => ?_
          simp (config := { maxSteps := 1000000 }) []
          refine hK _ ?_
          clear hK K
          first | show AWP _ _ _ _ _ | show ∃ _, _ | skip
          repeat refine awp_seq ?_
          refine awp_cond (by simp; rfl) (by rw [hx]; simp) (fun hd => ?_) (fun hd => ?_)
          · simp at hd
          · refine awp_skip ?_
            first | show AWP _ _ _ _ _ | show ∃ _, _ | skip
            repeat refine awp_seq ?_
            refine awp_reg1 (by rw [hx]; kernel_rfl) fun K hK => ?_
            simp (config := { maxSteps := 1000000 }) [ty3]
            refine hK _ ?_
            clear hK K
            first | show AWP _ _ _ _ _ | show ∃ _, _ | skip
            refine ⟨n + 1, by omega, by omega, ?_⟩
            refine wk_shape (shp0 hσ (by simp) (by simp) ?_) ?_
            · simp [SlotOk] <;> (repeat' (first | exact .same (by simp [purel, C.isPure]) | refine And.intro ?_ ?_))
            · simp [mtc, mtl, mT, C.isPure, purel] <;> (try simp (disch := omega) [wrap_id])
      · have : n = N0 := by omega
        subst this
        rcases hstop with ⟨e1, _⟩ | ⟨_, l, hs, _, e2⟩
        · omega
        · simp only [encSet51] at hs
          repeat refine awp_seq ?_
          refine awp_reg1 (by rw [hx]; kernel_rfl) fun K hK => ?_
          simp (config := { maxSteps := 1000000 }) [ty25]
          refine callP (with_even p hpn (by have := hp.n8; omega) n) (by first | (simp; done) | (simp [*]; done)) ?_
          simp (config := { maxSteps := 1000000 }) []
          refine callP (hs) (by first | (simp; done) | (simp [*]; done)) ?_
          simp (config := { maxSteps := 1000000 }) []
          refine hK _ ?_
          clear hK K
          first | show AWP _ _ _ _ _ | show ∃ _, _ | skip
          repeat refine awp_seq ?_
          refine awp_reg1 (by rw [hx]; kernel_rfl) fun K hK => ?_
          simp (config := { maxSteps := 1000000 }) []
          refine hK _ ?_
          clear hK K
          first | show AWP _ _ _ _ _ | show ∃ _, _ | skip
          repeat refine awp_seq ?_
          refine awp_cond (by simp; rfl) (by rw [hx]; simp) (fun hd => ?_) (fun hd => ?_)
          · repeat refine awp_seq ?_
            refine awp_reg1 (by rw [hx]; kernel_rfl) fun K hK => ?_
            simp (config := { maxSteps := 1000000 }) [ty3]
            refine hK _ ?_
            clear hK K
            first | show AWP _ _ _ _ _ | show ∃ _, _ | skip
            repeat refine awp_seq ?_
            refine awp_ret ?_
            refine And.intro (Or.inr rfl) ?_
            rw [e2]
            simp [retC, resC, viewC, mapO]
          · simp at hd
    · simp at hc1
      repeat refine awp_seq ?_
      refine awp_exit ?_
      first | show AWP _ _ _ _ _ | show ∃ _, _ | skip
      repeat refine awp_seq ?_
      refine awp_reg1 (by rw [hx]; kernel_rfl) fun K hK => ?_
      simp (config := { maxSteps := 1000000 }) []
      refine hK _ ?_
      clear hK K
      first | show AWP _ _ _ _ _ | show ∃ _, _ | skip
      repeat refine awp_seq ?_
      refine awp_ret ?_
      refine And.intro (Or.inr rfl) ?_
      rcases hstop with ⟨_, e2⟩ | ⟨e1, _⟩
      · rw [e2]
        simp [retC, resC, viewC, mapO]
      · omega

def encEven (o : Option (Nat × List Int)) : C :=
  match o with
  | some (n, l) => .tup [encI n, .sl l.isEmpty false (l.map cI), encI 0]
  | none => .tup [encI 0, .sl true true [], encI 3]

def EvenPost (p : Plat) (o : Option (Nat × List Int)) : Prop :=
  match o with
  | some (n, l) => n < 100 ∧ IsP (withP p (fEven n)) l ∧ ∀ m : Nat, m < n → ¬ Fe (withP p (fEven m))
  | none => ∀ m : Nat, m < 100 → ¬ Fe (withP p (fEven m))

theorem even_c (p : Plat) (hp : PlatOk p) (hpn : p.pn = true → p.ps = []) : ∃ o, Pure Try.prog 67 [encPlat p] (encEven o) ∧ EvenPost p o := by
  by_cases h : ∃ n : Nat, n < 100 ∧ Fe (withP p (fEven n))
  · obtain ⟨n, hn, hfe⟩ := h
    obtain ⟨m, h1, h2, h3⟩ := least_ex (P := fun n : Nat => Fe (withP p (fEven n))) hfe
    obtain ⟨r, hs, hpost⟩ := settle_c (withP p (fEven m)) (even_w hp.w (by omega))
    cases r with
    | none => obtain ⟨l, hl⟩ := h2; exact absurd hl (hpost.2 l)
    | some l =>
      refine ⟨some (m, l), ?_, by omega, hpost.1, h3⟩
      exact even_ok p hp hpn m _ h3 (.inr ⟨by omega, l, hs, hpost.1, rfl⟩)
  · have h' : ∀ m : Nat, m < 100 → ¬ Fe (withP p (fEven m)) := fun m hm hf => h ⟨m, hm, hf⟩
    exact ⟨none, even_ok p hp hpn 100 _ h' (.inl ⟨rfl, rfl⟩), h'⟩


theorem worst37 (p : Plat) (n e : Int) (l : C) (hl : l.isPure = true) (h : Pure Try.prog 67 [encPlat p] (.tup [encI n, l, encI e])) : Pure Try.prog 37 [encPlat p] (.tup [encI n, encI e]) := by
  refine pure_of (fn := Try.f37) [.tmp 2, .tmp 3] ⟨Try.func37, rfl, by kernel_rfl⟩ (by kernel_rfl) (by kernel_rfl) (by kernel_rfl) fun x hx hσ => ?_
  repeat refine awp_seq ?_
  refine awp_reg1 (by rw [hx]; kernel_rfl) fun K hK => ?_
  simp (config := { maxSteps := 1000000 }) [ty25]
  refine hK _ ?_
  clear hK K
  first | show AWP _ _ _ _ _ | show ∃ _, _ | skip
  repeat refine awp_seq ?_
  refine awp_reg1 (by rw [hx]; kernel_rfl) fun K hK => ?_
  simp (config := { maxSteps := 1000000 }) [ty25]
  refine callP (h) (by first | (simp; done) | (simp [*]; done)) ?_
  simp (config := { maxSteps := 1000000 }) []
  refine hK _ ?_
  clear hK K
  first | show AWP _ _ _ _ _ | show ∃ _, _ | skip
  repeat refine awp_seq ?_
  refine awp_reg1 (by rw [hx]; kernel_rfl) fun K hK => ?_
  simp (config := { maxSteps := 1000000 }) []
  refine hK _ ?_
  clear hK K
  first | show AWP _ _ _ _ _ | show ∃ _, _ | skip
  repeat refine awp_seq ?_
  refine awp_ret ?_
  refine And.intro (Or.inr rfl) ?_
  simp [retC, resC, viewC, mapO]

theorem even43 (p : Plat) (n e : Int) (l : C) (hl : l.isPure = true) (h : Pure Try.prog 67 [encPlat p] (.tup [encI n, l, encI e])) : Pure Try.prog 43 [encPlat p] (.tup [l, encI e]) := by
  refine pure_of (fn := Try.f43) [.tmp 2, .tmp 3] ⟨Try.func43, rfl, by kernel_rfl⟩ (by kernel_rfl) (by kernel_rfl) (by kernel_rfl) fun x hx hσ => ?_
  repeat refine awp_seq ?_
  refine awp_reg1 (by rw [hx]; kernel_rfl) fun K hK => ?_
  simp (config := { maxSteps := 1000000 }) [ty25]
  refine hK _ ?_
  clear hK K
  first | show AWP _ _ _ _ _ | show ∃ _, _ | skip
  repeat refine awp_seq ?_
  refine awp_reg1 (by rw [hx]; kernel_rfl) fun K hK => ?_
  simp (config := { maxSteps := 1000000 }) [ty25]
  refine callP (h) (by first | (simp; done) | (simp [*]; done)) ?_
  simp (config := { maxSteps := 1000000 }) []
  refine hK _ ?_
  clear hK K
  first | show AWP _ _ _ _ _ | show ∃ _, _ | skip
  repeat refine awp_seq ?_
  refine awp_reg1 (by rw [hx]; kernel_rfl) fun K hK => ?_
  simp (config := { maxSteps := 1000000 }) []
  refine hK _ ?_
  clear hK K
  first | show AWP _ _ _ _ _ | show ∃ _, _ | skip
  repeat refine awp_seq ?_
  refine awp_ret ?_
  refine And.intro (Or.inr rfl) ?_
  simp [retC, resC, viewC, mapO]
  simp [hl, purel, C.isPure]

end Go.Proofs.Ytgcmjidphcafnaa

namespace Go.Proofs.Ytgcmjidphcafnaa
open Go Go.Abs

set_option maxHeartbeats 2000000

def andU (a b : Int) : Int := IntKind.u64.wrap (BitVec.ofInt IntKind.u64.bits a &&& BitVec.ofInt IntKind.u64.bits b).toNat
def addU (a b : Int) : Int := IntKind.u64.wrap (a + b)
def shrU (a : Int) (b : Nat) : Int := a.fdiv (2 ^ (min b IntKind.u64.bits))
def andI (a b : Int) : Int := IntKind.i64.wrap (BitVec.ofInt IntKind.i64.bits a &&& BitVec.ofInt IntKind.i64.bits b).toNat

theorem ib_and (a b : Int) : intBin .and .u64 a b = some (.int .u64 (andU a b)) := rfl
theorem ib_add (a b : Int) : intBin .add .u64 a b = some (.int .u64 (addU a b)) := rfl
theorem ib_andI (a b : Int) : intBin .and .i64 a b = some (.int .i64 (andI a b)) := rfl
theorem sh_1 (a : Int) : shiftC .shr .u64 a 1 = some (.int .u64 (shrU a 1)) := rfl
theorem sh_2 (a : Int) : shiftC .shr .u64 a 2 = some (.int .u64 (shrU a 2)) := rfl
theorem sh_4 (a : Int) : shiftC .shr .u64 a 4 = some (.int .u64 (shrU a 4)) := rfl
theorem sh_8 (a : Int) : shiftC .shr .u64 a 8 = some (.int .u64 (shrU a 8)) := rfl
theorem sh_16 (a : Int) : shiftC .shr .u64 a 16 = some (.int .u64 (shrU a 16)) := rfl
theorem sh_32 (a : Int) : shiftC .shr .u64 a 32 = some (.int .u64 (shrU a 32)) := rfl

def p1 (x : Int) : Int := addU (andU (shrU x 1) 6148914691236517205) (andU x 6148914691236517205)
def p2 (x : Int) : Int := addU (andU (shrU x 2) 3689348814741910323) (andU x 3689348814741910323)
def p3 (x : Int) : Int := andU (addU (shrU x 4) x) 1085102592571150095
def p4 (x : Int) (n : Nat) : Int := addU x (shrU x n)
def popI (x : Int) : Int := andI (IntKind.i64.wrap (p4 (p4 (p4 (p3 (p2 (p1 x))) 8) 16) 32)) 127

def popc (s : Nat) : Nat := Flow.cnt (fun i => Nat.testBit s i) 8

theorem pop_fact : ∀ s : Fin 256, popI s.val = (popc s.val : Int) := by decide +kernel

theorem ones87 (s : Nat) (hs : s < 256) : Pure Try.prog 87 [.int .u64 s] (encI (popc s)) := by
  have e := pop_fact ⟨s, hs⟩
  simp only at e
  refine pure_of (fn := Try.f87) [.tmp 2] ⟨Try.func87, rfl, by kernel_rfl⟩ (by kernel_rfl) (by kernel_rfl) (by kernel_rfl) fun x hx hσ => ?_
  repeat refine awp_seq ?_
  refine awp_reg1 (by rw [hx]; kernel_rfl) fun K hK => ?_
  simp (config := { maxSteps := 1000000 }) []
  refine hK _ ?_
  clear hK K
  first | show AWP _ _ _ _ _ | show ∃ _, _ | skip
  repeat refine awp_seq ?_
  refine awp_reg1 (by rw [hx]; kernel_rfl) fun K hK => ?_
  simp (config := { maxSteps := 1000000 }) [ty100, ib_and, ib_add, sh_1, -intBin, -shiftC]
  refine hK _ ?_
  clear hK K
  first | show AWP _ _ _ _ _ | show ∃ _, _ | skip
  repeat refine awp_seq ?_
  refine awp_reg1 (by rw [hx]; kernel_rfl) fun K hK => ?_
  simp (config := { maxSteps := 1000000 }) [ty100, ib_and, ib_add, sh_2, -intBin, -shiftC]
  refine hK _ ?_
  clear hK K
  first | show AWP _ _ _ _ _ | show ∃ _, _ | skip
  repeat refine awp_seq ?_
  refine awp_reg1 (by rw [hx]; kernel_rfl) fun K hK => ?_
  simp (config := { maxSteps := 1000000 }) [ty100, ib_and, ib_add, sh_4, -intBin, -shiftC]
  refine hK _ ?_
  clear hK K
  first | show AWP _ _ _ _ _ | show ∃ _, _ | skip
  repeat refine awp_seq ?_
  refine awp_reg1 (by rw [hx]; kernel_rfl) fun K hK => ?_
  simp (config := { maxSteps := 1000000 }) [ty100, ib_and, ib_add, sh_8, -intBin, -shiftC]
  refine hK _ ?_
  clear hK K
  first | show AWP _ _ _ _ _ | show ∃ _, _ | skip
  repeat refine awp_seq ?_
  refine awp_reg1 (by rw [hx]; kernel_rfl) fun K hK => ?_
  simp (config := { maxSteps := 1000000 }) [ty100, ib_and, ib_add, sh_16, -intBin, -shiftC]
  refine hK _ ?_
  clear hK K
  first | show AWP _ _ _ _ _ | show ∃ _, _ | skip
  repeat refine awp_seq ?_
  refine awp_reg1 (by rw [hx]; kernel_rfl) fun K hK => ?_
  simp (config := { maxSteps := 1000000 }) [ty100, ib_and, ib_add, sh_32, -intBin, -shiftC]
  refine hK _ ?_
  clear hK K
  first | show AWP _ _ _ _ _ | show ∃ _, _ | skip
  repeat refine awp_seq ?_
  refine awp_reg1 (by rw [hx]; kernel_rfl) fun K hK => ?_
  simp (config := { maxSteps := 1000000 }) [ty100, ty3, ib_andI, -intBin, -shiftC]
  refine hK _ ?_
  clear hK K
  first | show AWP _ _ _ _ _ | show ∃ _, _ | skip
  repeat refine awp_seq ?_
  refine awp_ret ?_
  refine And.intro (Or.inr rfl) ?_
  simp [retC, resC, viewC, mapO]
  rw [← e]
  rfl

theorem ones68 (s : Nat) (hs : s < 256) : Pure Try.prog 68 [.int .u64 s] (encI (popc s)) := by
  refine pure_of (fn := Try.f68) [.tmp 2] ⟨Try.func68, rfl, by kernel_rfl⟩ (by kernel_rfl) (by kernel_rfl) (by kernel_rfl) fun x hx hσ => ?_
  repeat refine awp_seq ?_
  refine awp_reg1 (by rw [hx]; kernel_rfl) fun K hK => ?_
  simp (config := { maxSteps := 1000000 }) []
  refine hK _ ?_
  clear hK K
  first | show AWP _ _ _ _ _ | show ∃ _, _ | skip
  repeat refine awp_seq ?_
  refine awp_cond (by simp; rfl) (by rw [hx]; simp) (fun h => ?_) (fun h => ?_)
  · simp at h
  · refine awp_skip ?_
    first | show AWP _ _ _ _ _ | show ∃ _, _ | skip
    repeat refine awp_seq ?_
    refine awp_reg1 (by rw [hx]; kernel_rfl) fun K hK => ?_
    simp (config := { maxSteps := 1000000 }) []
    refine callP (ones87 s hs) (by first | (simp; done) | (simp [*]; done)) ?_
    simp (config := { maxSteps := 1000000 }) []
    refine hK _ ?_
    clear hK K
    first | show AWP _ _ _ _ _ | show ∃ _, _ | skip
    repeat refine awp_seq ?_
    refine awp_ret ?_
    refine And.intro (Or.inr rfl) ?_
    simp [retC, resC, viewC, mapO]

theorem shl_fact9 : ∀ n : Fin 9, IntKind.u64.wrap (2 ^ (min n.val IntKind.u64.bits)) = ((2 ^ n.val : Nat) : Int) := by decide +kernel

theorem few_bad (p : Plat) (h0 : p.ps.length ≤ 1000) (h1 : p.rows.length ≤ 1000) (h2 : p.cols.length ≤ 1000) (hp : ¬ PlatOk p) : Pure Try.prog 38 [encPlat p] (.tup [encI 0, encI 60]) := by
  have hc := check33 p h0 h1 h2
  rw [if_neg hp] at hc
  refine pure_of (fn := Try.f38) [.tmp 2, .tmp 3] ⟨Try.func38, rfl, by kernel_rfl⟩ (by kernel_rfl) (by kernel_rfl) (by kernel_rfl) fun x hx hσ => ?_
  repeat refine awp_seq ?_
  refine awp_reg1 (by rw [hx]; kernel_rfl) fun K hK => ?_
  simp (config := { maxSteps := 1000000 }) [ty25]
  refine hK _ ?_
  clear hK K
  first | show AWP _ _ _ _ _ | show ∃ _, _ | skip
  repeat refine awp_seq ?_
  refine awp_reg1 (by rw [hx]; kernel_rfl) fun K hK => ?_
  simp (config := { maxSteps := 1000000 }) [ty25]
  refine callP (hc) (by first | (simp; done) | (simp [*]; done)) ?_
  simp (config := { maxSteps := 1000000 }) []
  refine hK _ ?_
  clear hK K
  first | show AWP _ _ _ _ _ | show ∃ _, _ | skip
  repeat refine awp_seq ?_
  refine awp_reg1 (by rw [hx]; kernel_rfl) fun K hK => ?_
  simp (config := { maxSteps := 1000000 }) [ty30]
  refine hK _ ?_
  clear hK K
  first | show AWP _ _ _ _ _ | show ∃ _, _ | skip
  repeat refine awp_seq ?_
  refine awp_cond (by simp; rfl) (by rw [hx]; simp) (fun hd => ?_) (fun hd => ?_)
  · repeat refine awp_seq ?_
    refine awp_reg1 (by rw [hx]; kernel_rfl) fun K hK => ?_
    simp (config := { maxSteps := 1000000 }) []
    refine hK _ ?_
    clear hK K
    first | show AWP _ _ _ _ _ | show ∃ _, _ | skip
    repeat refine awp_seq ?_
    refine awp_ret ?_
    refine And.intro (Or.inr rfl) ?_
    simp [retC, resC, viewC, mapO]
  · simp at hd

/-- Some parcels, so many of them, can be changed alone. -/
def FewP (p : Plat) (k s : Nat) : Prop := popc s = k ∧ Fe (withP p (fFew s))

theorem few_ok (p : Plat) (hp : PlatOk p) (hpn : p.pn = true → p.ps = []) (K0 : Nat) (res : C) (hno : ∀ k, k < K0 → ∀ s, s < 2 ^ p.ps.length → ¬ FewP p k s)
    (hstop : (K0 = p.ps.length + 1 ∧ res = .tup [encI 0, encI 3]) ∨ (K0 ≤ p.ps.length ∧ ∃ s0, s0 < 2 ^ p.ps.length ∧ FewP p K0 s0 ∧ res = .tup [encI K0, encI 0])) :
    Pure Try.prog 38 [encPlat p] res := by
  have h8 := hp.n8
  have hc := check33 p (by omega) (by have := hp.r4; omega) (by have := hp.c4; omega)
  rw [if_pos hp] at hc
  have q1 : 2 ^ p.ps.length ≤ 2 ^ 8 := Nat.pow_le_pow_right (by omega) h8
  have s1 := shl_fact9 ⟨p.ps.length, by omega⟩
  simp only at s1
  generalize hN : 2 ^ p.ps.length = N at *
  have w1 : IntKind.i64.wrap ((p.ps.length : Int) + 1) = ((p.ps.length + 1 : Nat) : Int) := by rw [wrap_id (by omega) (by omega)]; omega
  refine pure_of (fn := Try.f38) [.tmp 2, .tmp 3] ⟨Try.func38, rfl, by kernel_rfl⟩ (by kernel_rfl) (by kernel_rfl) (by kernel_rfl) fun x hx hσ => ?_
  repeat refine awp_seq ?_
  refine awp_reg1 (by rw [hx]; kernel_rfl) fun K hK => ?_
  simp (config := { maxSteps := 1000000 }) [ty25]
  refine hK _ ?_
  clear hK K
  first | show AWP _ _ _ _ _ | show ∃ _, _ | skip
  repeat refine awp_seq ?_
  refine awp_reg1 (by rw [hx]; kernel_rfl) fun K hK => ?_
  simp (config := { maxSteps := 1000000 }) [ty25]
  refine callP (hc) (by first | (simp; done) | (simp [*]; done)) ?_
  simp (config := { maxSteps := 1000000 }) []
  refine hK _ ?_
  clear hK K
  first | show AWP _ _ _ _ _ | show ∃ _, _ | skip
  repeat refine awp_seq ?_
  refine awp_reg1 (by rw [hx]; kernel_rfl) fun K hK => ?_
  simp (config := { maxSteps := 1000000 }) [ty30]
  refine hK _ ?_
  clear hK K
  first | show AWP _ _ _ _ _ | show ∃ _, _ | skip
  repeat refine awp_seq ?_
  refine awp_cond (by simp; rfl) (by rw [hx]; simp) (fun hd => ?_) (fun hd => ?_)
  · simp at hd
  clear hd
  refine awp_skip ?_
  first | show AWP _ _ _ _ _ | show ∃ _, _ | skip
  repeat refine awp_seq ?_
  refine awp_reg1 (by rw [hx]; kernel_rfl) fun K hK => ?_
  simp (config := { maxSteps := 1000000 }) [ty25, ty22, ty3, w1]
  refine hK _ ?_
  clear hK K
  first | show AWP _ _ _ _ _ | show ∃ _, _ | skip
  repeat refine awp_seq ?_
  refine awp_block ?_
  refine awp_loop (fun k : Nat => ⟨ofL [(1, .ptr 1 3 0 0), (15, encI (p.ps.length + 1 : Nat)), (16, encI k)], stoT [(1, 1, .live (obPlat p))]⟩) (fun k => k ≤ K0) (fun k => p.ps.length + 1 - k) 0 (by simp) ?_ ?_
  · refine wk_shape (shp0 hσ (by simp) (by simp) ?_) ?_
    · simp [SlotOk] <;> (repeat' (first | exact .same (by simp [purel, C.isPure]) | refine And.intro ?_ ?_))
    · simp [mtc, mtl, mT, C.isPure, purel] <;> (try simp (disch := omega) [wrap_id])
  · intro k hk
    repeat refine awp_seq ?_
    refine awp_reg1 (by rw [hx]; kernel_rfl) fun K hK => ?_
    simp (config := { maxSteps := 1000000 }) [ty3]
    refine hK _ ?_
    clear hK K
    first | show AWP _ _ _ _ _ | show ∃ _, _ | skip
    repeat refine awp_seq ?_
    refine awp_cond (by simp; rfl) (by rw [hx]; simp) (fun h1 => ?_) (fun h1 => ?_)
    · simp at h1
      refine awp_skip ?_
      first | show AWP _ _ _ _ _ | show ∃ _, _ | skip
      repeat refine awp_seq ?_
      refine awp_block ?_
      repeat refine awp_seq ?_
      refine awp_reg1 (by rw [hx]; kernel_rfl) fun K hK => ?_
      simp (config := { maxSteps := 1000000 }) []
      refine hK _ ?_
      clear hK K
      first | show AWP _ _ _ _ _ | show ∃ _, _ | skip
      repeat refine awp_seq ?_
      refine awp_reg1 (by rw [hx]; kernel_rfl) fun K hK => ?_
      simp (config := { maxSteps := 1000000 }) [ty25, ty22, ty64, s1]
      refine hK _ ?_
      clear hK K
      first | show AWP _ _ _ _ _ | show ∃ _, _ | skip
      repeat refine awp_seq ?_
      refine awp_block ?_
      refine awp_loop (fun s : Nat => ⟨ofL [(1, .ptr 1 3 0 0), (5, encI k), (15, encI (p.ps.length + 1 : Nat)), (16, encI k), (22, .int .u64 N), (23, .int .u64 s)], stoT [(1, 1, .live (obPlat p))]⟩)
        (fun s => s ≤ N ∧ ∀ s', s' < s → ¬ FewP p k s') (fun s => N - s) 0 (by simp) ?_ ?_
      · refine wk_shape (shp0 hσ (by simp) (by simp) ?_) ?_
        · simp [SlotOk] <;> (repeat' (first | exact .same (by simp [purel, C.isPure]) | refine And.intro ?_ ?_))
        · simp [mtc, mtl, mT, C.isPure, purel] <;> (try simp (disch := omega) [wrap_id])
      · intro s ⟨hs1, hs2⟩
        repeat refine awp_seq ?_
        refine awp_reg1 (by rw [hx]; kernel_rfl) fun K hK => ?_
        simp (config := { maxSteps := 1000000 }) [ty64]
        refine hK _ ?_
        clear hK K
        first | show AWP _ _ _ _ _ | show ∃ _, _ | skip
        repeat refine awp_seq ?_
        refine awp_cond (by simp; rfl) (by rw [hx]; simp) (fun h2 => ?_) (fun h2 => ?_)
        · simp at h2
          refine awp_skip ?_
          first | show AWP _ _ _ _ _ | show ∃ _, _ | skip
          repeat refine awp_seq ?_
          refine awp_block ?_
          repeat refine awp_seq ?_
          refine awp_reg1 (by rw [hx]; kernel_rfl) fun K hK => ?_
          simp (config := { maxSteps := 1000000 }) [ty64]
          refine hK _ ?_
          clear hK K
          first | show AWP _ _ _ _ _ | show ∃ _, _ | skip
          refine AWP.weak ?_ (wk_frzSlot 6 6 (o := cellOb (.int .u64 s)) (c' := .ip [.int .u64 s] 0) (by simp) rfl (fz_ptr rfl rfl rfl))
          have w12 : IntKind.u64.wrap ((s : Int) + 1) = (s : Int) + 1 := wrapu_id (by omega) (by omega)
          by_cases hpk : popc s = k
          · by_cases hfe : Fe (withP p (fFew s))
            · have hcan := can57 (withP p (fFew s)) (few_w hp.w s) true (iff_of_true rfl hfe)
              repeat refine awp_seq ?_
              refine awp_reg1 (by rw [hx]; kernel_rfl) fun K hK => ?_
              simp (config := { maxSteps := 1000000 }) [ty64, ty3]
              refine callP (ones68 s (by omega)) (by first | (simp; done) | (simp [*]; done)) ?_
              simp (config := { maxSteps := 1000000 }) [hpk, ty25]
              refine callP (with_few p hp hpn s (by omega)) (by first | (simp; done) | (simp [*]; done)) ?_
              simp (config := { maxSteps := 1000000 }) []
              refine callP (hcan) (by first | (simp; done) | (simp [*]; done)) ?_
              simp (config := { maxSteps := 1000000 }) []
              refine hK _ ?_
              clear hK K
              first | show AWP _ _ _ _ _ | show ∃ _, _ | skip
              repeat refine awp_seq ?_
              refine awp_cond (by simp; rfl) (by rw [hx]; simp) (fun hd => ?_) (fun hd => ?_)
              · have hkK : k = K0 := by
                  apply Classical.byContradiction
                  intro hne
                  exact hno k (by omega) s (by omega) ⟨hpk, hfe⟩
                subst hkK
                repeat refine awp_seq ?_
                refine awp_reg1 (by rw [hx]; kernel_rfl) fun K hK => ?_
                simp (config := { maxSteps := 1000000 }) []
                refine hK _ ?_
                clear hK K
                first | show AWP _ _ _ _ _ | show ∃ _, _ | skip
                repeat refine awp_seq ?_
                refine awp_ret ?_
                refine And.intro (Or.inr rfl) ?_
                rcases hstop with ⟨e1, _⟩ | ⟨_, s0, _, _, e4⟩
                · omega
                · rw [e4]
                  simp [retC, resC, viewC, mapO]
              · simp at hd
            · have hcan := can57 (withP p (fFew s)) (few_w hp.w s) false (iff_of_false (by simp) hfe)
              repeat refine awp_seq ?_
              refine awp_reg1 (by rw [hx]; kernel_rfl) fun K hK => ?_
              simp (config := { maxSteps := 1000000 }) [ty64, ty3]
              refine callP (ones68 s (by omega)) (by first | (simp; done) | (simp [*]; done)) ?_
              simp (config := { maxSteps := 1000000 }) [hpk, ty25]
              refine callP (with_few p hp hpn s (by omega)) (by first | (simp; done) | (simp [*]; done)) ?_
              simp (config := { maxSteps := 1000000 }) []
              refine callP (hcan) (by first | (simp; done) | (simp [*]; done)) ?_
              simp (config := { maxSteps := 1000000 }) []
              refine hK _ ?_
              clear hK K
              first | show AWP _ _ _ _ _ | show ∃ _, _ | skip
              repeat refine awp_seq ?_
              refine awp_cond (by simp; rfl) (by rw [hx]; simp) (fun hd => ?_) (fun hd => ?_)
              · simp at hd
              · refine awp_skip ?_
                first | show AWP _ _ _ _ _ | show ∃ _, _ | skip
                repeat refine awp_seq ?_
                refine awp_reg1 (by rw [hx]; kernel_rfl) fun K hK => ?_
                simp (config := { maxSteps := 1000000 }) [ty64]
                refine hK _ ?_
                clear hK K
                first | show AWP _ _ _ _ _ | show ∃ _, _ | skip
                refine ⟨s + 1, ⟨by omega, fun s' h => ?_⟩, by omega, ?_⟩
                · by_cases e : s' = s
                  · subst e; exact fun h => hfe h.2
                  · exact hs2 s' (by omega)
                · refine wk_shape (shp0 hσ (by simp) (by simp) ?_) ?_
                  · simp [SlotOk] <;> (repeat' (first | exact .same (by simp [purel, C.isPure]) | refine And.intro ?_ ?_))
                  · simp [mtc, mtl, mT, C.isPure, purel, w12]
          · have hpk' : (((popc s : Nat) : Int) == (k : Int)) = false := by rw [beq_eq_false_iff_ne]; omega
            repeat refine awp_seq ?_
            refine awp_reg1 (by rw [hx]; kernel_rfl) fun K hK => ?_
            simp (config := { maxSteps := 1000000 }) [ty64, ty3]
            refine callP (ones68 s (by omega)) (by first | (simp; done) | (simp [*]; done)) ?_
            simp (config := { maxSteps := 1000000 }) [hpk', ty25]
            refine hK _ ?_
            clear hK K
            first | show AWP _ _ _ _ _ | show ∃ _, _ | skip
            repeat refine awp_seq ?_
            refine awp_cond (by simp; rfl) (by rw [hx]; simp) (fun hd => ?_) (fun hd => ?_)
            · simp at hd
            · refine awp_skip ?_
              first | show AWP _ _ _ _ _ | show ∃ _, _ | skip
              repeat refine awp_seq ?_
              refine awp_reg1 (by rw [hx]; kernel_rfl) fun K hK => ?_
              simp (config := { maxSteps := 1000000 }) [ty64]
              refine hK _ ?_
              clear hK K
              first | show AWP _ _ _ _ _ | show ∃ _, _ | skip
              refine ⟨s + 1, ⟨by omega, fun s' h => ?_⟩, by omega, ?_⟩
              · by_cases e : s' = s
                · subst e; exact fun h => hpk h.1
                · exact hs2 s' (by omega)
              · refine wk_shape (shp0 hσ (by simp) (by simp) ?_) ?_
                · simp [SlotOk] <;> (repeat' (first | exact .same (by simp [purel, C.isPure]) | refine And.intro ?_ ?_))
                · simp [mtc, mtl, mT, C.isPure, purel, w12]
        · simp at h2
          repeat refine awp_seq ?_
          refine awp_exit ?_
          first | show AWP _ _ _ _ _ | show ∃ _, _ | skip
          have hkK : k < K0 := by
            apply Classical.byContradiction
            intro hne
            have : k = K0 := by omega
            subst this
            rcases hstop with ⟨e1, _⟩ | ⟨_, s0, e1, e2, _⟩
            · omega
            · exact hs2 s0 (by omega) e2
          repeat refine awp_seq ?_
          refine awp_reg1 (by rw [hx]; kernel_rfl) fun K hK => ?_
          simp (config := { maxSteps := 1000000 }) [ty3]
          refine hK _ ?_
          clear hK K
          first | show AWP _ _ _ _ _ | show ∃ _, _ | skip
          refine ⟨k + 1, by omega, by omega, ?_⟩
          refine wk_shape (shp0 hσ (by simp) (by simp) ?_) ?_
          · simp [SlotOk] <;> (repeat' (first | exact .same (by simp [purel, C.isPure]) | refine And.intro ?_ ?_))
          · simp [mtc, mtl, mT, C.isPure, purel] <;> (try simp (disch := omega) [wrap_id])
    · simp at h1
      repeat refine awp_seq ?_
      refine awp_exit ?_
      first | show AWP _ _ _ _ _ | show ∃ _, _ | skip
      repeat refine awp_seq ?_
      refine awp_reg1 (by rw [hx]; kernel_rfl) fun K hK => ?_
      simp (config := { maxSteps := 1000000 }) []
      refine hK _ ?_
      clear hK K
      first | show AWP _ _ _ _ _ | show ∃ _, _ | skip
      repeat refine awp_seq ?_
      refine awp_ret ?_
      refine And.intro (Or.inr rfl) ?_
      rcases hstop with ⟨_, e2⟩ | ⟨e1, _⟩
      · rw [e2]
        simp [retC, resC, viewC, mapO]
      · omega

def encFew (o : Option Nat) : C :=
  match o with
  | some k => .tup [encI k, encI 0]
  | none => .tup [encI 0, encI 3]

def FewPost (p : Plat) (o : Option Nat) : Prop :=
  match o with
  | some k => k ≤ p.ps.length ∧ (∃ s, s < 2 ^ p.ps.length ∧ FewP p k s) ∧ ∀ k', k' < k → ∀ s, s < 2 ^ p.ps.length → ¬ FewP p k' s
  | none => ∀ k, k ≤ p.ps.length → ∀ s, s < 2 ^ p.ps.length → ¬ FewP p k s

theorem few_c (p : Plat) (hp : PlatOk p) (hpn : p.pn = true → p.ps = []) : ∃ o, Pure Try.prog 38 [encPlat p] (encFew o) ∧ FewPost p o := by
  by_cases h : ∃ k, k ≤ p.ps.length ∧ ∃ s, s < 2 ^ p.ps.length ∧ FewP p k s
  · obtain ⟨k, hk, hfe⟩ := h
    obtain ⟨m, h1, h2, h3⟩ := least_ex (P := fun k : Nat => ∃ s, s < 2 ^ p.ps.length ∧ FewP p k s) hfe
    have h3' : ∀ k', k' < m → ∀ s, s < 2 ^ p.ps.length → ¬ FewP p k' s := fun k' hk' s hs hf => h3 k' hk' ⟨s, hs, hf⟩
    obtain ⟨s, hs, hf⟩ := h2
    exact ⟨some m, few_ok p hp hpn m _ h3' (.inr ⟨by omega, s, hs, hf, rfl⟩), by omega, ⟨s, hs, hf⟩, h3'⟩
  · have h' : ∀ k, k ≤ p.ps.length → ∀ s, s < 2 ^ p.ps.length → ¬ FewP p k s := fun k hk s hs hf => h ⟨k, hk, s, hs, hf⟩
    exact ⟨none, few_ok p hp hpn (p.ps.length + 1) _ (fun k hk => h' k (by omega)) (.inl ⟨rfl, rfl⟩), h'⟩

end Go.Proofs.Ytgcmjidphcafnaa

namespace Go.Proofs.Ytgcmjidphcafnaa
open Go Go.Abs

set_option maxHeartbeats 2000000

@[simp] abbrev platRow (p : Plat) : List C := [.sl p.pn false (p.ps.map cP), .sl p.rn false (p.rows.map cI), .sl p.cn false (p.cols.map cI)]

theorem fixed78 (p : Plat) (hp : PlatW p) (hpn : p.pn = true → p.ps = []) (k n : Int) (hn : 0 ≤ n ∧ n ≤ 1098) (b : Bool) (hb : b = true ↔ Fe (withP p (fSpan k n))) :
    Pure Try.prog 78 ([encI n] ++ [.ip (platRow p) 0, .ip [encI k] 0]) (.bool b) := by
  have hcan := can57 (withP p (fSpan k n)) (span_w hp k hn) b hb
  refine pure_of (fn := Try.f78) [.tmp 4] ⟨Try.func78, rfl, by kernel_rfl⟩ (by kernel_rfl) (by kernel_rfl) (by kernel_rfl) fun x hx hσ => ?_
  repeat refine awp_seq ?_
  refine awp_reg1 (by rw [hx]; kernel_rfl) fun K hK => ?_
  simp (config := { maxSteps := 1000000 }) []
  refine hK _ ?_
  clear hK K
  first | show AWP _ _ _ _ _ | show ∃ _, _ | skip
  refine AWP.weak ?_ (wk_frzSlot 3 3 (o := cellOb (encI n)) (c' := .ip [encI n] 0) (by simp) rfl (fz_ptr rfl rfl rfl))
  repeat refine awp_seq ?_
  refine awp_reg1 (by rw [hx]; kernel_rfl) fun K hK => ?_
  simp (config := { maxSteps := 1000000 }) [ty25]
  refine callP (with_span p hpn (by have := hp.n8; omega) k n) (by first | (simp; done) | (simp [*]; done)) ?_
  simp (config := { maxSteps := 1000000 }) []
  refine callP (hcan) (by first | (simp; done) | (simp [*]; done)) ?_
  simp (config := { maxSteps := 1000000 }) []
  refine hK _ ?_
  clear hK K
  first | show AWP _ _ _ _ _ | show ∃ _, _ | skip
  repeat refine awp_seq ?_
  refine awp_ret ?_
  refine And.intro (Or.inr rfl) ?_
  simp [retC, resC, viewC, mapO]

theorem span58 (p : Plat) (hp : PlatW p) (hpn : p.pn = true → p.ps = []) (k : Nat) (hk : k < p.ps.length) (a b : Int)
    (ha : lowI p.ps[k] ≤ a ∧ Fe (withP p (fSpan k a)) ∧ ∀ n, lowI p.ps[k] ≤ n → n < a → ¬ Fe (withP p (fSpan k n))) (hb : b ≤ highI p.ps[k] ∧ Fe (withP p (fSpan k b)) ∧ ∀ n, b < n → n ≤ highI p.ps[k] → ¬ Fe (withP p (fSpan k n)))
    (hab : a ≤ highI p.ps[k] ∧ lowI p.ps[k] ≤ b) : Pure Try.prog 58 [encPlat p, encI k] (.agg [encI a, encI b]) := by
  have hq := hp.ps _ (List.getElem_mem hk)
  have hq' := hq
  unfold PcW at hq'
  have hlh : 0 ≤ lowI p.ps[k] ∧ lowI p.ps[k] ≤ highI p.ps[k] ∧ highI p.ps[k] ≤ 1098 := by unfold lowI highI; omega
  refine pure_of (fn := Try.f58) [.cell 4 41] ⟨Try.func58, rfl, by kernel_rfl⟩ (by kernel_rfl) (by kernel_rfl) (by kernel_rfl) fun x hx hσ => ?_
  repeat refine awp_seq ?_
  refine awp_reg1 (by rw [hx]; kernel_rfl) fun K hK => ?_
  simp (config := { maxSteps := 1000000 }) [ty41]
  refine hK _ ?_
  clear hK K
  first | show AWP _ _ _ _ _ | show ∃ _, _ | skip
  refine AWP.weak ?_ (wk_frzSlot 2 2 (o := obPlat p) (c' := .ip (platRow p) 0) (by simp) (plat_pure p) (fz_ptr rfl rfl rfl))
  refine AWP.weak ?_ (wk_frzSlot 3 3 (o := cellOb (encI k)) (c' := .ip [encI k] 0) (by simp) rfl (fz_ptr rfl rfl rfl))
  repeat refine awp_seq ?_
  refine awp_reg1 (by rw [hx]; kernel_rfl) fun K hK => ?_
  simp (config := { maxSteps := 1000000 }) []
  refine hK _ ?_
  clear hK K
  first | show AWP _ _ _ _ _ | show ∃ _, _ | skip
  repeat refine awp_seq ?_
  refine awp_reg1 (by rw [hx]; kernel_rfl) fun K hK => ?_
  simp (config := { maxSteps := 1000000 }) [ty25, ty22, ty3, ty45, ty41, hk]
  refine callP (ends_w p.ps[k] hq) (by first | (simp; done) | (simp [*]; done)) ?_
  simp (config := { maxSteps := 1000000 }) [ty41]
  refine hK _ ?_
  clear hK K
  first | show AWP _ _ _ _ _ | show ∃ _, _ | skip
  repeat refine awp_seq ?_
  refine awp_block ?_
  refine awp_loop (fun d : Nat => ⟨ofL [(4, .ptr 4 2 0 0), (5, .fn (.func 78) [] [.ip (platRow p) 0, .ip [encI k] 0]), (6, .ptr 6 2 0 0)], stoT [(4, 4, .live ⟨false, false, 2, [[encI 0, encI 0]]⟩), (6, 6, .live ⟨false, false, 2, [[encI (lowI p.ps[k] + d), encI (highI p.ps[k])]]⟩)]⟩)
    (fun d => lowI p.ps[k] + d ≤ a) (fun d => (a - lowI p.ps[k]).toNat - d) 0 (by simp; omega) ?_ ?_
  · refine wk_shape (shp0 hσ (by simp) (by simp) ?_) ?_
    · simp [SlotOk] <;> (repeat' (first | exact .same (by simp [purel, C.isPure]) | refine And.intro ?_ ?_))
    · simp [mtc, mtl, mT, C.isPure, purel] <;> (try simp (disch := omega) [wrap_id])
  · intro d hd
    by_cases hfe : Fe (withP p (fSpan k (lowI p.ps[k] + d)))
    · have hda : lowI p.ps[k] + d = a := by
        apply Classical.byContradiction
        intro hne
        exact ha.2.2 _ (by omega) (by omega) hfe
      have h78 := fixed78 p hp hpn k (lowI p.ps[k] + d) (by omega) true (iff_of_true rfl hfe)
      repeat refine awp_seq ?_
      refine awp_reg1 (by rw [hx]; kernel_rfl) fun K hK => ?_
      simp (config := { maxSteps := 1000000 }) [ty41, ty3]
      refine callP (h78) (by first | (simp; done) | (simp [*]; done)) ?_
      simp (config := { maxSteps := 1000000 }) []
      refine hK _ ?_
      clear hK K
      first | show AWP _ _ _ _ _ | show ∃ _, _ | skip
      repeat refine awp_seq ?_
      refine awp_cond (by simp; rfl) (by rw [hx]; simp) (fun hc => ?_) (fun hc => ?_)
      · simp at hc
      · repeat refine awp_seq ?_
        refine awp_exit ?_
        first | show AWP _ _ _ _ _ | show ∃ _, _ | skip
        rw [hda]
        repeat refine awp_seq ?_
        refine awp_block ?_
        refine awp_loop (fun d : Nat => ⟨ofL [(4, .ptr 4 2 0 0), (5, .fn (.func 78) [] [.ip (platRow p) 0, .ip [encI k] 0]), (6, .ptr 6 2 0 0)], stoT [(4, 4, .live ⟨false, false, 2, [[encI 0, encI 0]]⟩), (6, 6, .live ⟨false, false, 2, [[encI a, encI (highI p.ps[k] - d)]]⟩)]⟩)
          (fun d => b ≤ highI p.ps[k] - d) (fun d => (highI p.ps[k] - b).toNat - d) 0 (by simp; omega) ?_ ?_
        · refine wk_shape (shp0 hσ (by simp) (by simp) ?_) ?_
          · simp [SlotOk] <;> (repeat' (first | exact .same (by simp [purel, C.isPure]) | refine And.intro ?_ ?_))
          · simp [mtc, mtl, mT, C.isPure, purel] <;> (try simp (disch := omega) [wrap_id])
        · intro e he
          by_cases hfe : Fe (withP p (fSpan k (highI p.ps[k] - e)))
          · have heb : highI p.ps[k] - e = b := by
              apply Classical.byContradiction
              intro hne
              exact hb.2.2 _ (by omega) (by omega) hfe
            have h78 := fixed78 p hp hpn k (highI p.ps[k] - e) (by omega) true (iff_of_true rfl hfe)
            repeat refine awp_seq ?_
            refine awp_reg1 (by rw [hx]; kernel_rfl) fun K hK => ?_
            simp (config := { maxSteps := 1000000 }) [ty41, ty3]
            refine callP (h78) (by first | (simp; done) | (simp [*]; done)) ?_
            simp (config := { maxSteps := 1000000 }) []
            refine hK _ ?_
            clear hK K
            first | show AWP _ _ _ _ _ | show ∃ _, _ | skip
            repeat refine awp_seq ?_
            refine awp_cond (by simp; rfl) (by rw [hx]; simp) (fun hc => ?_) (fun hc => ?_)
            · simp at hc
            · repeat refine awp_seq ?_
              refine awp_exit ?_
              first | show AWP _ _ _ _ _ | show ∃ _, _ | skip
              rw [heb]
              repeat refine awp_seq ?_
              refine awp_reg1 (by rw [hx]; kernel_rfl) fun K hK => ?_
              simp (config := { maxSteps := 1000000 }) [ty41]
              refine hK _ ?_
              clear hK K
              first | show AWP _ _ _ _ _ | show ∃ _, _ | skip
              repeat refine awp_seq ?_
              refine awp_ret ?_
              refine And.intro (Or.inr rfl) ?_
              simp [retC, resC, viewC, mapO, ty41]
          · have h78 := fixed78 p hp hpn k (highI p.ps[k] - e) (by omega) false (iff_of_false (by simp) hfe)
            have hlt : b < highI p.ps[k] - e := by
              apply Classical.byContradiction
              intro hne
              have : highI p.ps[k] - e = b := by omega
              rw [this] at hfe
              exact hfe hb.2.1
            have w6 : IntKind.i64.wrap (highI p.ps[k] - e - 1) = highI p.ps[k] - (e + 1 : Nat) := by rw [wrap_id (by omega) (by omega)]; omega
            repeat refine awp_seq ?_
            refine awp_reg1 (by rw [hx]; kernel_rfl) fun K hK => ?_
            simp (config := { maxSteps := 1000000 }) [ty41, ty3]
            refine callP (h78) (by first | (simp; done) | (simp [*]; done)) ?_
            simp (config := { maxSteps := 1000000 }) []
            refine hK _ ?_
            clear hK K
            first | show AWP _ _ _ _ _ | show ∃ _, _ | skip
            repeat refine awp_seq ?_
            refine awp_cond (by simp; rfl) (by rw [hx]; simp) (fun hc => ?_) (fun hc => ?_)
            · refine awp_skip ?_
              first | show AWP _ _ _ _ _ | show ∃ _, _ | skip
              repeat refine awp_seq ?_
              refine awp_block ?_
              repeat refine awp_seq ?_
              refine awp_reg1 (by rw [hx]; kernel_rfl) fun K hK => ?_
              simp (config := { maxSteps := 1000000 }) [ty41, ty3, w6]
              refine hK _ ?_
              clear hK K
              first | show AWP _ _ _ _ _ | show ∃ _, _ | skip
              refine ⟨e + 1, by omega, by omega, ?_⟩
              refine wk_shape (shp0 hσ (by simp) (by simp) ?_) ?_
              · simp [SlotOk] <;> (repeat' (first | exact .same (by simp [purel, C.isPure]) | refine And.intro ?_ ?_))
              · simp [mtc, mtl, mT, C.isPure, purel] <;> (try simp (disch := omega) [wrap_id])
            · simp at hc
    · have h78 := fixed78 p hp hpn k (lowI p.ps[k] + d) (by omega) false (iff_of_false (by simp) hfe)
      have hlt : lowI p.ps[k] + d < a := by
        apply Classical.byContradiction
        intro hne
        have : lowI p.ps[k] + d = a := by omega
        rw [this] at hfe
        exact hfe ha.2.1
      have w4 : IntKind.i64.wrap (lowI p.ps[k] + d + 1) = lowI p.ps[k] + (d + 1 : Nat) := by rw [wrap_id (by omega) (by omega)]; omega
      repeat refine awp_seq ?_
      refine awp_reg1 (by rw [hx]; kernel_rfl) fun K hK => ?_
      simp (config := { maxSteps := 1000000 }) [ty41, ty3]
      refine callP (h78) (by first | (simp; done) | (simp [*]; done)) ?_
      simp (config := { maxSteps := 1000000 }) []
      refine hK _ ?_
      clear hK K
      first | show AWP _ _ _ _ _ | show ∃ _, _ | skip
      repeat refine awp_seq ?_
      refine awp_cond (by simp; rfl) (by rw [hx]; simp) (fun hc => ?_) (fun hc => ?_)
      · refine awp_skip ?_
        first | show AWP _ _ _ _ _ | show ∃ _, _ | skip
        repeat refine awp_seq ?_
        refine awp_block ?_
        repeat refine awp_seq ?_
        refine awp_reg1 (by rw [hx]; kernel_rfl) fun K hK => ?_
        simp (config := { maxSteps := 1000000 }) [ty41, ty3, w4]
        refine hK _ ?_
        clear hK K
        first | show AWP _ _ _ _ _ | show ∃ _, _ | skip
        refine ⟨d + 1, by omega, by omega, ?_⟩
        refine wk_shape (shp0 hσ (by simp) (by simp) ?_) ?_
        · simp [SlotOk] <;> (repeat' (first | exact .same (by simp [purel, C.isPure]) | refine And.intro ?_ ?_))
        · simp [mtc, mtl, mT, C.isPure, purel] <;> (try simp (disch := omega) [wrap_id])
      · simp at hc

end Go.Proofs.Ytgcmjidphcafnaa

namespace Go.Proofs.Ytgcmjidphcafnaa
open Go Go.Abs

set_option maxHeartbeats 2000000

-- adjustments of a changed plat

theorem pcA_with {p : Plat} {f : Nat → Pc → Pc} {i : Nat} (hi : i < p.ps.length) : pcA (withP p f) i = f i (pcA p i) := by
  have := mapTo_get f p.ps i hi p.ps.length
  rw [if_pos hi] at this
  simp only [pcA, this, Option.getD_some]

theorem full_with {p : Plat} {f : Nat → Pc → Pc} (hf : ∀ i q, (f i q).row = q.row ∧ (f i q).col = q.col) {l : List Int} (hl : l.length = p.ps.length) : FullP (withP p f) l ↔ FullP p l := by
  have e1 : ∀ r, sumTo (rowF (withP p f) l r) l.length = sumTo (rowF p l r) l.length := fun r => sumTo_congr fun i hi => by
    unfold rowF
    have := pcA_with (p := p) (f := f) (i := i) (by omega)
    simp only [pcA] at this
    rw [this, (hf i _).1]
  have e2 : ∀ r, sumTo (colF (withP p f) l r) l.length = sumTo (colF p l r) l.length := fun r => sumTo_congr fun i hi => by
    unfold colF
    have := pcA_with (p := p) (f := f) (i := i) (by omega)
    simp only [pcA] at this
    rw [this, (hf i _).2]
  unfold FullP
  simp only [e1, e2]

theorem isP_with {p : Plat} {f : Nat → Pc → Pc} (hf : ∀ i q, (f i q).row = q.row ∧ (f i q).col = q.col) {l : List Int} :
    IsP (withP p f) l ↔ l.length = p.ps.length ∧ (∀ i, i < l.length → lowI (f i (pcA p i)) ≤ Flow.gi l i ∧ Flow.gi l i ≤ highI (f i (pcA p i))) ∧ FullP p l := by
  unfold IsP
  constructor
  · rintro ⟨h1, h2, h3⟩
    have hl : l.length = p.ps.length := by simpa using h1
    refine ⟨hl, fun i hi => ?_, (full_with hf hl).1 h3⟩
    have := h2 i hi
    have e := pcA_with (p := p) (f := f) (i := i) (by omega)
    simp only [pcA] at e
    rw [e] at this
    exact this
  · rintro ⟨hl, h2, h3⟩
    refine ⟨by simpa using hl, fun i hi => ?_, (full_with hf hl).2 h3⟩
    have := h2 i hi
    have e := pcA_with (p := p) (f := f) (i := i) (by omega)
    simp only [pcA] at e
    rw [e]
    exact this

theorem fSpan_rc (k n : Int) (i : Nat) (q : Pc) : (fSpan k n i q).row = q.row ∧ (fSpan k n i q).col = q.col := by unfold fSpan; split <;> exact ⟨rfl, rfl⟩
theorem fEven_rc (n : Int) (i : Nat) (q : Pc) : (fEven n i q).row = q.row ∧ (fEven n i q).col = q.col := ⟨rfl, rfl⟩
theorem fFew_rc (s i : Nat) (q : Pc) : (fFew s i q).row = q.row ∧ (fFew s i q).col = q.col := ⟨rfl, rfl⟩

theorem isP_bd {p : Plat} {l : List Int} (h : IsP p l) {i : Nat} (hi : i < p.ps.length) : lowI (pcA p i) ≤ Flow.gi l i ∧ Flow.gi l i ≤ highI (pcA p i) := h.2.1 i (by rw [h.1]; exact hi)

theorem isP_span {p : Plat} {k : Nat} (hk : k < p.ps.length) {n : Int} (hn : lowI (pcA p k) ≤ n ∧ n ≤ highI (pcA p k)) (hw : 0 ≤ n) {l : List Int} : IsP (withP p (fSpan k n)) l ↔ IsP p l ∧ Flow.gi l k = n := by
  rw [isP_with (fSpan_rc k n)]
  have e0 : lowI ⟨(pcA p k).row, (pcA p k).col, n, 0⟩ = n ∧ highI ⟨(pcA p k).row, (pcA p k).col, n, 0⟩ = n := by unfold lowI highI; simp only; omega
  have ek : fSpan k n k (pcA p k) = ⟨(pcA p k).row, (pcA p k).col, n, 0⟩ := by unfold fSpan; rw [if_pos rfl]
  have en : ∀ i, i ≠ k → fSpan k n i (pcA p i) = pcA p i := fun i h => by unfold fSpan; rw [if_neg (by omega)]
  constructor
  · rintro ⟨h1, h2, h3⟩
    have hkk := h2 k (by omega)
    rw [ek, e0.1, e0.2] at hkk
    refine ⟨⟨h1, fun i hi => ?_, h3⟩, by omega⟩
    by_cases e : i = k
    · subst e
      show lowI (pcA p i) ≤ Flow.gi l i ∧ Flow.gi l i ≤ highI (pcA p i)
      omega
    · have := h2 i hi
      rw [en i e] at this
      exact this
  · rintro ⟨⟨h1, h2, h3⟩, h4⟩
    refine ⟨h1, fun i hi => ?_, h3⟩
    by_cases e : i = k
    · subst e
      rw [ek, e0.1, e0.2]; omega
    · rw [en i e]
      exact h2 i hi

/-- The least and the greatest adjusted area of a parcel. -/
def RangeP (p : Plat) (k : Nat) (a b : Int) : Prop := (∃ l, IsP p l ∧ Flow.gi l k = a) ∧ (∃ l, IsP p l ∧ Flow.gi l k = b) ∧ ∀ l, IsP p l → a ≤ Flow.gi l k ∧ Flow.gi l k ≤ b

theorem low_nn (q : Pc) : 0 ≤ lowI q := by unfold lowI; omega

theorem fe_span {p : Plat} {k : Nat} (hk : k < p.ps.length) {n : Int} (hn : lowI (pcA p k) ≤ n ∧ n ≤ highI (pcA p k)) : Fe (withP p (fSpan k n)) ↔ ∃ l, IsP p l ∧ Flow.gi l k = n := by
  have := low_nn (pcA p k)
  unfold Fe
  constructor
  · rintro ⟨l, h⟩; exact ⟨l, (isP_span hk hn (by omega)).1 h⟩
  · rintro ⟨l, h⟩; exact ⟨l, (isP_span hk hn (by omega)).2 h⟩

theorem range_span (p : Plat) (hp : PlatW p) (hpn : p.pn = true → p.ps = []) (k : Nat) (hk : k < p.ps.length) (a b : Int) (h : RangeP p k a b) : Pure Try.prog 58 [encPlat p, encI k] (.agg [encI a, encI b]) := by
  obtain ⟨⟨l1, h1, h2⟩, ⟨l2, h3, h4⟩, h5⟩ := h
  have ek : pcA p k = p.ps[k] := by simp [pcA, hk]
  have b1 := isP_bd h1 hk
  have b2 := isP_bd h3 hk
  rw [h2] at b1
  rw [h4] at b2
  rw [ek] at b1 b2
  refine span58 p hp hpn k hk a b ⟨b1.1, (fe_span hk (by rw [ek]; exact b1)).2 ⟨l1, h1, h2⟩, fun n hn hlt hfe => ?_⟩ ⟨b2.2, (fe_span hk (by rw [ek]; exact b2)).2 ⟨l2, h3, h4⟩, fun n hn hlt hfe => ?_⟩ ⟨b1.2, b2.1⟩
  · obtain ⟨l, g1, g2⟩ := (fe_span hk (by rw [ek]; omega)).1 hfe
    have := h5 l g1
    omega
  · obtain ⟨l, g1, g2⟩ := (fe_span hk (by rw [ek]; omega)).1 hfe
    have := h5 l g1
    omega

/-- A least whole number. -/
theorem least_int {P : Int → Prop} {lo : Int} (hlo : ∀ n, P n → lo ≤ n) {n : Int} (h : P n) : ∃ m, P m ∧ ∀ k, P k → m ≤ k := by
  obtain ⟨d, h1, h2, h3⟩ := least_ex (P := fun d : Nat => P (lo + d)) (n := (n - lo).toNat) (by have := hlo n h; rw [show lo + ((n - lo).toNat : Int) = n by omega]; exact h)
  refine ⟨lo + d, h2, fun k hk => ?_⟩
  apply Classical.byContradiction
  intro hc
  have := hlo k hk
  exact h3 (k - lo).toNat (by omega) (by rw [show lo + ((k - lo).toNat : Int) = k by omega]; exact hk)

theorem range_ex {p : Plat} (hf : Fe p) {k : Nat} (hk : k < p.ps.length) : ∃ a b, RangeP p k a b := by
  obtain ⟨l, hl⟩ := hf
  obtain ⟨a, ⟨la, h1, h2⟩, h3⟩ := least_int (P := fun n => ∃ l, IsP p l ∧ Flow.gi l k = n) (lo := lowI (pcA p k)) (fun n ⟨l, h, e⟩ => by have := isP_bd h hk; omega) ⟨l, hl, rfl⟩
  obtain ⟨b, ⟨lb, h4, h5⟩, h6⟩ := least_int (P := fun n => ∃ l, IsP p l ∧ -(Flow.gi l k) = n) (lo := -(highI (pcA p k))) (fun n ⟨l, h, e⟩ => by have := isP_bd h hk; omega) ⟨l, hl, rfl⟩
  refine ⟨a, -b, ⟨la, h1, h2⟩, ⟨lb, h4, by omega⟩, fun l hl => ?_⟩
  have g1 := h3 _ ⟨l, hl, rfl⟩
  have g2 := h6 _ ⟨l, hl, rfl⟩
  omega

theorem range_one {p : Plat} {k : Nat} {a b c d : Int} (h : RangeP p k a b) (g : RangeP p k c d) : a = c ∧ b = d := by
  obtain ⟨⟨l1, h1, h2⟩, ⟨l2, h3, h4⟩, h5⟩ := h
  obtain ⟨⟨l3, g1, g2⟩, ⟨l4, g3, g4⟩, g5⟩ := g
  have q1 := h5 l3 g1
  have q2 := h5 l4 g3
  have q3 := g5 l1 h1
  have q4 := g5 l2 h3
  omega

-- Range

theorem range_bad (p : Plat) (k : Int) (h0 : p.ps.length ≤ 1000) (h1 : p.rows.length ≤ 1000) (h2 : p.cols.length ≤ 1000) (hp : ¬ PlatOk p) : Pure Try.prog 21 [encPlat p, encI k] (.tup [.agg [encI 0, encI 0], encI 60]) := by
  have hc := check33 p h0 h1 h2
  rw [if_neg hp] at hc
  refine pure_of (fn := Try.f21) [.cell 4 41, .tmp 5] ⟨Try.func21, rfl, by kernel_rfl⟩ (by kernel_rfl) (by kernel_rfl) (by kernel_rfl) fun x hx hσ => ?_
  repeat refine awp_seq ?_
  refine awp_reg1 (by rw [hx]; kernel_rfl) fun K hK => ?_
  simp (config := { maxSteps := 1000000 }) [ty25, ty41]
  refine hK _ ?_
  clear hK K
  first | show AWP _ _ _ _ _ | show ∃ _, _ | skip
  repeat refine awp_seq ?_
  refine awp_reg1 (by rw [hx]; kernel_rfl) fun K hK => ?_
  simp (config := { maxSteps := 1000000 }) [ty25]
  refine callP (hc) (by first | (simp; done) | (simp [*]; done)) ?_
  simp (config := { maxSteps := 1000000 }) []
  refine hK _ ?_
  clear hK K
  first | show AWP _ _ _ _ _ | show ∃ _, _ | skip
  repeat refine awp_seq ?_
  refine awp_reg1 (by rw [hx]; kernel_rfl) fun K hK => ?_
  simp (config := { maxSteps := 1000000 }) [ty30]
  refine hK _ ?_
  clear hK K
  first | show AWP _ _ _ _ _ | show ∃ _, _ | skip
  repeat refine awp_seq ?_
  refine awp_cond (by simp; rfl) (by rw [hx]; simp) (fun hd => ?_) (fun hd => ?_)
  · repeat refine awp_seq ?_
    refine awp_reg1 (by rw [hx]; kernel_rfl) fun K hK => ?_
    simp (config := { maxSteps := 1000000 }) [ty41]
    refine hK _ ?_
    clear hK K
    first | show AWP _ _ _ _ _ | show ∃ _, _ | skip
    repeat refine awp_seq ?_
    refine awp_ret ?_
    refine And.intro (Or.inr rfl) ?_
    simp [retC, resC, viewC, mapO, ty41]
  · simp at hd

theorem range_out (p : Plat) (hp : PlatOk p) (k : Int) (hk : ¬ (0 ≤ k ∧ k < p.ps.length)) : Pure Try.prog 21 [encPlat p, encI k] (.tup [.agg [encI 0, encI 0], encI 1]) := by
  have h8 := hp.n8
  have hc := check33 p (by omega) (by have := hp.r4; omega) (by have := hp.c4; omega)
  rw [if_pos hp] at hc
  have w4 : IntKind.i64.wrap ((p.ps.length : Int) - 1) = (p.ps.length : Int) - 1 := wrap_id (by omega) (by omega)
  have hw := within56 k 0 ((p.ps.length : Int) - 1)
  rw [decide_eq_false (by omega)] at hw
  refine pure_of (fn := Try.f21) [.cell 4 41, .tmp 5] ⟨Try.func21, rfl, by kernel_rfl⟩ (by kernel_rfl) (by kernel_rfl) (by kernel_rfl) fun x hx hσ => ?_
  repeat refine awp_seq ?_
  refine awp_reg1 (by rw [hx]; kernel_rfl) fun K hK => ?_
  simp (config := { maxSteps := 1000000 }) [ty25, ty41]
  refine hK _ ?_
  clear hK K
  first | show AWP _ _ _ _ _ | show ∃ _, _ | skip
  repeat refine awp_seq ?_
  refine awp_reg1 (by rw [hx]; kernel_rfl) fun K hK => ?_
  simp (config := { maxSteps := 1000000 }) [ty25]
  refine callP (hc) (by first | (simp; done) | (simp [*]; done)) ?_
  simp (config := { maxSteps := 1000000 }) []
  refine hK _ ?_
  clear hK K
  first | show AWP _ _ _ _ _ | show ∃ _, _ | skip
  repeat refine awp_seq ?_
  refine awp_reg1 (by rw [hx]; kernel_rfl) fun K hK => ?_
  simp (config := { maxSteps := 1000000 }) [ty30]
  refine hK _ ?_
  clear hK K
  first | show AWP _ _ _ _ _ | show ∃ _, _ | skip
  repeat refine awp_seq ?_
  refine awp_cond (by simp; rfl) (by rw [hx]; simp) (fun hd => ?_) (fun hd => ?_)
  · simp at hd
  clear hd
  refine awp_skip ?_
  first | show AWP _ _ _ _ _ | show ∃ _, _ | skip
  repeat refine awp_seq ?_
  refine awp_reg1 (by rw [hx]; kernel_rfl) fun K hK => ?_
  simp (config := { maxSteps := 1000000 }) [ty25, ty22, ty3, w4]
  refine callP (hw) (by first | (simp; done) | (simp [*]; done)) ?_
  simp (config := { maxSteps := 1000000 }) []
  refine hK _ ?_
  clear hK K
  first | show AWP _ _ _ _ _ | show ∃ _, _ | skip
  repeat refine awp_seq ?_
  refine awp_cond (by simp; rfl) (by rw [hx]; simp) (fun hd => ?_) (fun hd => ?_)
  · repeat refine awp_seq ?_
    refine awp_reg1 (by rw [hx]; kernel_rfl) fun K hK => ?_
    simp (config := { maxSteps := 1000000 }) [ty41]
    refine hK _ ?_
    clear hK K
    first | show AWP _ _ _ _ _ | show ∃ _, _ | skip
    repeat refine awp_seq ?_
    refine awp_ret ?_
    refine And.intro (Or.inr rfl) ?_
    simp [retC, resC, viewC, mapO, ty41]
  · simp at hd

theorem range_none (p : Plat) (hp : PlatOk p) (k : Nat) (hk : k < p.ps.length) (hf : ¬ Fe p) : Pure Try.prog 21 [encPlat p, encI k] (.tup [.agg [encI 0, encI 0], encI 3]) := by
  have h8 := hp.n8
  have hc := check33 p (by omega) (by have := hp.r4; omega) (by have := hp.c4; omega)
  rw [if_pos hp] at hc
  have w4 : IntKind.i64.wrap ((p.ps.length : Int) - 1) = (p.ps.length : Int) - 1 := wrap_id (by omega) (by omega)
  have hw := within56 k 0 ((p.ps.length : Int) - 1)
  rw [decide_eq_true (by omega)] at hw
  have hcan := can57 p hp.w false (iff_of_false (by simp) hf)
  refine pure_of (fn := Try.f21) [.cell 4 41, .tmp 5] ⟨Try.func21, rfl, by kernel_rfl⟩ (by kernel_rfl) (by kernel_rfl) (by kernel_rfl) fun x hx hσ => ?_
  repeat refine awp_seq ?_
  refine awp_reg1 (by rw [hx]; kernel_rfl) fun K hK => ?_
  simp (config := { maxSteps := 1000000 }) [ty25, ty41]
  refine hK _ ?_
  clear hK K
  first | show AWP _ _ _ _ _ | show ∃ _, _ | skip
  repeat refine awp_seq ?_
  refine awp_reg1 (by rw [hx]; kernel_rfl) fun K hK => ?_
  simp (config := { maxSteps := 1000000 }) [ty25]
  refine callP (hc) (by first | (simp; done) | (simp [*]; done)) ?_
  simp (config := { maxSteps := 1000000 }) []
  refine hK _ ?_
  clear hK K
  first | show AWP _ _ _ _ _ | show ∃ _, _ | skip
  repeat refine awp_seq ?_
  refine awp_reg1 (by rw [hx]; kernel_rfl) fun K hK => ?_
  simp (config := { maxSteps := 1000000 }) [ty30]
  refine hK _ ?_
  clear hK K
  first | show AWP _ _ _ _ _ | show ∃ _, _ | skip
  repeat refine awp_seq ?_
  refine awp_cond (by simp; rfl) (by rw [hx]; simp) (fun hd => ?_) (fun hd => ?_)
  · simp at hd
  clear hd
  refine awp_skip ?_
  first | show AWP _ _ _ _ _ | show ∃ _, _ | skip
  repeat refine awp_seq ?_
  refine awp_reg1 (by rw [hx]; kernel_rfl) fun K hK => ?_
  simp (config := { maxSteps := 1000000 }) [ty25, ty22, ty3, w4]
  refine callP (hw) (by first | (simp; done) | (simp [*]; done)) ?_
  simp (config := { maxSteps := 1000000 }) []
  refine hK _ ?_
  clear hK K
  first | show AWP _ _ _ _ _ | show ∃ _, _ | skip
  repeat refine awp_seq ?_
  refine awp_cond (by simp; rfl) (by rw [hx]; simp) (fun hd => ?_) (fun hd => ?_)
  · simp at hd
  · refine awp_skip ?_
    first | show AWP _ _ _ _ _ | show ∃ _, _ | skip
    repeat refine awp_seq ?_
    refine awp_reg1 (by rw [hx]; kernel_rfl) fun K hK => ?_
    simp (config := { maxSteps := 1000000 }) [ty25]
    refine callP (hcan) (by first | (simp; done) | (simp [*]; done)) ?_
    simp (config := { maxSteps := 1000000 }) []
    refine hK _ ?_
    clear hK K
    first | show AWP _ _ _ _ _ | show ∃ _, _ | skip
    repeat refine awp_seq ?_
    refine awp_cond (by simp; rfl) (by rw [hx]; simp) (fun he => ?_) (fun he => ?_)
    · repeat refine awp_seq ?_
      refine awp_reg1 (by rw [hx]; kernel_rfl) fun K hK => ?_
      simp (config := { maxSteps := 1000000 }) [ty41]
      refine hK _ ?_
      clear hK K
      first | show AWP _ _ _ _ _ | show ∃ _, _ | skip
      repeat refine awp_seq ?_
      refine awp_ret ?_
      refine And.intro (Or.inr rfl) ?_
      simp [retC, resC, viewC, mapO, ty41]
    · simp at he

theorem range_c (p : Plat) (hp : PlatOk p) (hpn : p.pn = true → p.ps = []) (k : Nat) (hk : k < p.ps.length) (a b : Int) (h : RangeP p k a b) : Pure Try.prog 21 [encPlat p, encI k] (.tup [.agg [encI a, encI b], encI 0]) := by
  have h8 := hp.n8
  have hc := check33 p (by omega) (by have := hp.r4; omega) (by have := hp.c4; omega)
  rw [if_pos hp] at hc
  have w4 : IntKind.i64.wrap ((p.ps.length : Int) - 1) = (p.ps.length : Int) - 1 := wrap_id (by omega) (by omega)
  have hw := within56 k 0 ((p.ps.length : Int) - 1)
  rw [decide_eq_true (by omega)] at hw
  have hcan := can57 p hp.w true (iff_of_true rfl ⟨h.1.choose, h.1.choose_spec.1⟩)
  have hsp := range_span p hp.w hpn k hk a b h
  refine pure_of (fn := Try.f21) [.cell 4 41, .tmp 5] ⟨Try.func21, rfl, by kernel_rfl⟩ (by kernel_rfl) (by kernel_rfl) (by kernel_rfl) fun x hx hσ => ?_
  repeat refine awp_seq ?_
  refine awp_reg1 (by rw [hx]; kernel_rfl) fun K hK => ?_
  simp (config := { maxSteps := 1000000 }) [ty25, ty41]
  refine hK _ ?_
  clear hK K
  first | show AWP _ _ _ _ _ | show ∃ _, _ | skip
  repeat refine awp_seq ?_
  refine awp_reg1 (by rw [hx]; kernel_rfl) fun K hK => ?_
  simp (config := { maxSteps := 1000000 }) [ty25]
  refine callP (hc) (by first | (simp; done) | (simp [*]; done)) ?_
  simp (config := { maxSteps := 1000000 }) []
  refine hK _ ?_
  clear hK K
  first | show AWP _ _ _ _ _ | show ∃ _, _ | skip
  repeat refine awp_seq ?_
  refine awp_reg1 (by rw [hx]; kernel_rfl) fun K hK => ?_
  simp (config := { maxSteps := 1000000 }) [ty30]
  refine hK _ ?_
  clear hK K
  first | show AWP _ _ _ _ _ | show ∃ _, _ | skip
  repeat refine awp_seq ?_
  refine awp_cond (by simp; rfl) (by rw [hx]; simp) (fun hd => ?_) (fun hd => ?_)
  · simp at hd
  clear hd
  refine awp_skip ?_
  first | show AWP _ _ _ _ _ | show ∃ _, _ | skip
  repeat refine awp_seq ?_
  refine awp_reg1 (by rw [hx]; kernel_rfl) fun K hK => ?_
  simp (config := { maxSteps := 1000000 }) [ty25, ty22, ty3, w4]
  refine callP (hw) (by first | (simp; done) | (simp [*]; done)) ?_
  simp (config := { maxSteps := 1000000 }) []
  refine hK _ ?_
  clear hK K
  first | show AWP _ _ _ _ _ | show ∃ _, _ | skip
  repeat refine awp_seq ?_
  refine awp_cond (by simp; rfl) (by rw [hx]; simp) (fun hd => ?_) (fun hd => ?_)
  · simp at hd
  · refine awp_skip ?_
    first | show AWP _ _ _ _ _ | show ∃ _, _ | skip
    repeat refine awp_seq ?_
    refine awp_reg1 (by rw [hx]; kernel_rfl) fun K hK => ?_
    simp (config := { maxSteps := 1000000 }) [ty25]
    refine callP (hcan) (by first | (simp; done) | (simp [*]; done)) ?_
    simp (config := { maxSteps := 1000000 }) []
    refine hK _ ?_
    clear hK K
    first | show AWP _ _ _ _ _ | show ∃ _, _ | skip
    repeat refine awp_seq ?_
    refine awp_cond (by simp; rfl) (by rw [hx]; simp) (fun he => ?_) (fun he => ?_)
    · simp at he
    · refine awp_skip ?_
      first | show AWP _ _ _ _ _ | show ∃ _, _ | skip
      repeat refine awp_seq ?_
      refine awp_reg1 (by rw [hx]; kernel_rfl) fun K hK => ?_
      simp (config := { maxSteps := 1000000 }) [ty25, ty41]
      refine callP (hsp) (by first | (simp; done) | (simp [*]; done)) ?_
      simp (config := { maxSteps := 1000000 }) [ty41]
      refine hK _ ?_
      clear hK K
      first | show AWP _ _ _ _ _ | show ∃ _, _ | skip
      repeat refine awp_seq ?_
      refine awp_ret ?_
      refine And.intro (Or.inr rfl) ?_
      simp [retC, resC, viewC, mapO, ty41]

-- Fixed

def fixTo (q : Nat → Bool) : Nat → List Int
  | 0 => []
  | n + 1 => if q n then fixTo q n ++ [(n : Int)] else fixTo q n

theorem fixTo_len (q : Nat → Bool) : ∀ n, (fixTo q n).length ≤ n
  | 0 => Nat.le_refl _
  | n + 1 => by have := fixTo_len q n; simp only [fixTo]; split <;> simp <;> omega

theorem fixed_bad (p : Plat) (h0 : p.ps.length ≤ 1000) (h1 : p.rows.length ≤ 1000) (h2 : p.cols.length ≤ 1000) (hp : ¬ PlatOk p) : Pure Try.prog 30 [encPlat p] (.tup [.sl true true [], encI 60]) := by
  have hc := check33 p h0 h1 h2
  rw [if_neg hp] at hc
  refine pure_of (fn := Try.f30) [.tmp 2, .tmp 3] ⟨Try.func30, rfl, by kernel_rfl⟩ (by kernel_rfl) (by kernel_rfl) (by kernel_rfl) fun x hx hσ => ?_
  repeat refine awp_seq ?_
  refine awp_reg1 (by rw [hx]; kernel_rfl) fun K hK => ?_
  simp (config := { maxSteps := 1000000 }) [ty25]
  refine hK _ ?_
  clear hK K
  first | show AWP _ _ _ _ _ | show ∃ _, _ | skip
  repeat refine awp_seq ?_
  refine awp_reg1 (by rw [hx]; kernel_rfl) fun K hK => ?_
  simp (config := { maxSteps := 1000000 }) [ty25]
  refine callP (hc) (by first | (simp; done) | (simp [*]; done)) ?_
  simp (config := { maxSteps := 1000000 }) []
  refine hK _ ?_
  clear hK K
  first | show AWP _ _ _ _ _ | show ∃ _, _ | skip
  repeat refine awp_seq ?_
  refine awp_reg1 (by rw [hx]; kernel_rfl) fun K hK => ?_
  simp (config := { maxSteps := 1000000 }) [ty30]
  refine hK _ ?_
  clear hK K
  first | show AWP _ _ _ _ _ | show ∃ _, _ | skip
  repeat refine awp_seq ?_
  refine awp_cond (by simp; rfl) (by rw [hx]; simp) (fun hd => ?_) (fun hd => ?_)
  · repeat refine awp_seq ?_
    refine awp_reg1 (by rw [hx]; kernel_rfl) fun K hK => ?_
    simp (config := { maxSteps := 1000000 }) []
    refine hK _ ?_
    clear hK K
    first | show AWP _ _ _ _ _ | show ∃ _, _ | skip
    repeat refine awp_seq ?_
    refine awp_ret ?_
    refine And.intro (Or.inr rfl) ?_
    simp [retC, resC, viewC, mapO]
  · simp at hd

theorem fixed_none (p : Plat) (hp : PlatOk p) (hf : ¬ Fe p) : Pure Try.prog 30 [encPlat p] (.tup [.sl true true [], encI 3]) := by
  have h8 := hp.n8
  have hc := check33 p (by omega) (by have := hp.r4; omega) (by have := hp.c4; omega)
  rw [if_pos hp] at hc
  have hcan := can57 p hp.w false (iff_of_false (by simp) hf)
  refine pure_of (fn := Try.f30) [.tmp 2, .tmp 3] ⟨Try.func30, rfl, by kernel_rfl⟩ (by kernel_rfl) (by kernel_rfl) (by kernel_rfl) fun x hx hσ => ?_
  repeat refine awp_seq ?_
  refine awp_reg1 (by rw [hx]; kernel_rfl) fun K hK => ?_
  simp (config := { maxSteps := 1000000 }) [ty25]
  refine hK _ ?_
  clear hK K
  first | show AWP _ _ _ _ _ | show ∃ _, _ | skip
  repeat refine awp_seq ?_
  refine awp_reg1 (by rw [hx]; kernel_rfl) fun K hK => ?_
  simp (config := { maxSteps := 1000000 }) [ty25]
  refine callP (hc) (by first | (simp; done) | (simp [*]; done)) ?_
  simp (config := { maxSteps := 1000000 }) []
  refine hK _ ?_
  clear hK K
  first | show AWP _ _ _ _ _ | show ∃ _, _ | skip
  repeat refine awp_seq ?_
  refine awp_reg1 (by rw [hx]; kernel_rfl) fun K hK => ?_
  simp (config := { maxSteps := 1000000 }) [ty30]
  refine hK _ ?_
  clear hK K
  first | show AWP _ _ _ _ _ | show ∃ _, _ | skip
  repeat refine awp_seq ?_
  refine awp_cond (by simp; rfl) (by rw [hx]; simp) (fun hd => ?_) (fun hd => ?_)
  · simp at hd
  clear hd
  refine awp_skip ?_
  first | show AWP _ _ _ _ _ | show ∃ _, _ | skip
  repeat refine awp_seq ?_
  refine awp_reg1 (by rw [hx]; kernel_rfl) fun K hK => ?_
  simp (config := { maxSteps := 1000000 }) [ty25]
  refine callP (hcan) (by first | (simp; done) | (simp [*]; done)) ?_
  simp (config := { maxSteps := 1000000 }) []
  refine hK _ ?_
  clear hK K
  first | show AWP _ _ _ _ _ | show ∃ _, _ | skip
  repeat refine awp_seq ?_
  refine awp_cond (by simp; rfl) (by rw [hx]; simp) (fun he => ?_) (fun he => ?_)
  · repeat refine awp_seq ?_
    refine awp_reg1 (by rw [hx]; kernel_rfl) fun K hK => ?_
    simp (config := { maxSteps := 1000000 }) []
    refine hK _ ?_
    clear hK K
    first | show AWP _ _ _ _ _ | show ∃ _, _ | skip
    repeat refine awp_seq ?_
    refine awp_ret ?_
    refine And.intro (Or.inr rfl) ?_
    simp [retC, resC, viewC, mapO]
  · simp at he

theorem fixed_c (p : Plat) (hp : PlatOk p) (hpn : p.pn = true → p.ps = []) (hf : Fe p) (a b : Nat → Int) (h : ∀ k, k < p.ps.length → RangeP p k (a k) (b k)) :
    Pure Try.prog 30 [encPlat p] (.tup [.sl (fixTo (fun k => a k == b k) p.ps.length).isEmpty false ((fixTo (fun k => a k == b k) p.ps.length).map cI), encI 0]) := by
  have h8 := hp.n8
  have hc := check33 p (by omega) (by have := hp.r4; omega) (by have := hp.c4; omega)
  rw [if_pos hp] at hc
  have hcan := can57 p hp.w true (iff_of_true rfl hf)
  generalize hq : (fun k => a k == b k) = q
  have hqk : ∀ k, (a k == b k) = q k := fun k => by rw [← hq]
  refine pure_of (fn := Try.f30) [.tmp 2, .tmp 3] ⟨Try.func30, rfl, by kernel_rfl⟩ (by kernel_rfl) (by kernel_rfl) (by kernel_rfl) fun x hx hσ => ?_
  repeat refine awp_seq ?_
  refine awp_reg1 (by rw [hx]; kernel_rfl) fun K hK => ?_
  simp (config := { maxSteps := 1000000 }) [ty25]
  refine hK _ ?_
  clear hK K
  first | show AWP _ _ _ _ _ | show ∃ _, _ | skip
  repeat refine awp_seq ?_
  refine awp_reg1 (by rw [hx]; kernel_rfl) fun K hK => ?_
  simp (config := { maxSteps := 1000000 }) [ty25]
  refine callP (hc) (by first | (simp; done) | (simp [*]; done)) ?_
  simp (config := { maxSteps := 1000000 }) []
  refine hK _ ?_
  clear hK K
  first | show AWP _ _ _ _ _ | show ∃ _, _ | skip
  repeat refine awp_seq ?_
  refine awp_reg1 (by rw [hx]; kernel_rfl) fun K hK => ?_
  simp (config := { maxSteps := 1000000 }) [ty30]
  refine hK _ ?_
  clear hK K
  first | show AWP _ _ _ _ _ | show ∃ _, _ | skip
  repeat refine awp_seq ?_
  refine awp_cond (by simp; rfl) (by rw [hx]; simp) (fun hd => ?_) (fun hd => ?_)
  · simp at hd
  clear hd
  refine awp_skip ?_
  first | show AWP _ _ _ _ _ | show ∃ _, _ | skip
  repeat refine awp_seq ?_
  refine awp_reg1 (by rw [hx]; kernel_rfl) fun K hK => ?_
  simp (config := { maxSteps := 1000000 }) [ty25]
  refine callP (hcan) (by first | (simp; done) | (simp [*]; done)) ?_
  simp (config := { maxSteps := 1000000 }) []
  refine hK _ ?_
  clear hK K
  first | show AWP _ _ _ _ _ | show ∃ _, _ | skip
  repeat refine awp_seq ?_
  refine awp_cond (by simp; rfl) (by rw [hx]; simp) (fun he => ?_) (fun he => ?_)
  · simp at he
  clear he
  refine awp_skip ?_
  first | show AWP _ _ _ _ _ | show ∃ _, _ | skip
  repeat refine awp_seq ?_
  refine awp_reg1 (by rw [hx]; kernel_rfl) fun K hK => ?_
  simp (config := { maxSteps := 1000000 }) []
  refine hK _ ?_
  clear hK K
  first | show AWP _ _ _ _ _ | show ∃ _, _ | skip
  repeat refine awp_seq ?_
  refine awp_reg1 (by rw [hx]; kernel_rfl) fun K hK => ?_
  simp (config := { maxSteps := 1000000 }) [ty25, ty22]
  refine hK _ ?_
  clear hK K
  first | show AWP _ _ _ _ _ | show ∃ _, _ | skip
  repeat refine awp_seq ?_
  refine awp_block ?_
  refine AWP.weak ?_ (wk_nil 5 5 1 (fu := true) (by simp) (by simp))
  refine awp_loop (fun i : Nat => ⟨ofL [(1, .ptr 1 3 0 0), (5, .own 5 1 0 (fixTo q i).length), (18, encI p.ps.length), (19, encI i)], stoT [(1, 1, .live (obPlat p)), (5, 5, .live ⟨(fixTo q i).isEmpty, false, 1, (fixTo q i).map cI⟩)]⟩)
    (fun i => i ≤ p.ps.length) (fun i => p.ps.length - i) 0 (by simp) ?_ ?_
  · refine wk_shape (shp0 hσ (by simp) (by simp) ?_) ?_
    · simp [SlotOk, fixTo]; exact ⟨.same (plat_pure p), .same rfl⟩
    · simp [mtc, mtl, mT, C.isPure, fixTo]
  · intro i hi
    have hlen := fixTo_len q i
    repeat refine awp_seq ?_
    refine awp_reg1 (by rw [hx]; kernel_rfl) fun K hK => ?_
    simp (config := { maxSteps := 1000000 }) [ty3]
    refine hK _ ?_
    clear hK K
    first | show AWP _ _ _ _ _ | show ∃ _, _ | skip
    repeat refine awp_seq ?_
    refine awp_cond (by simp; rfl) (by rw [hx]; simp) (fun hc1 => ?_) (fun hc1 => ?_)
    · simp at hc1
      refine awp_skip ?_
      first | show AWP _ _ _ _ _ | show ∃ _, _ | skip
      repeat refine awp_seq ?_
      refine awp_block ?_
      repeat refine awp_seq ?_
      refine awp_reg1 (by rw [hx]; kernel_rfl) fun K hK => ?_
      simp (config := { maxSteps := 1000000 }) []
      refine hK _ ?_
      clear hK K
      first | show AWP _ _ _ _ _ | show ∃ _, _ | skip
      repeat refine awp_seq ?_
      refine awp_reg1 (by rw [hx]; kernel_rfl) fun K hK => ?_
      simp (config := { maxSteps := 1000000 }) [ty25, ty41]
      refine callP (range_span p hp.w hpn i hc1 (a i) (b i) (h i hc1)) (by first | (simp; done) | (simp [*]; done)) ?_
      simp (config := { maxSteps := 1000000 }) [ty41]
      refine hK _ ?_
      clear hK K
      first | show AWP _ _ _ _ _ | show ∃ _, _ | skip
      repeat refine awp_seq ?_
      refine awp_reg1 (by rw [hx]; kernel_rfl) fun K hK => ?_
      simp (config := { maxSteps := 1000000 }) [ty41, ty3, hqk]
      refine hK _ ?_
      clear hK K
      first | show AWP _ _ _ _ _ | show ∃ _, _ | skip
      repeat refine awp_seq ?_
      refine awp_cond (by simp; rfl) (by rw [hx]; simp) (fun hd => ?_) (fun hd => ?_)
      · repeat refine awp_seq ?_
        refine awp_reg1 (by rw [hx]; kernel_rfl) fun K hK => ?_
        simp (config := { maxSteps := 1000000 }) [ty23, ty3]
        refine ⟨by omega, ?_⟩
        refine hK _ ?_
        clear hK K
        first | show AWP _ _ _ _ _ | show ∃ _, _ | skip
        repeat refine awp_seq ?_
        refine awp_reg1 (by rw [hx]; kernel_rfl) fun K hK => ?_
        simp (config := { maxSteps := 1000000 }) [ty3]
        refine hK _ ?_
        clear hK K
        first | show AWP _ _ _ _ _ | show ∃ _, _ | skip
        refine ⟨i + 1, by omega, by omega, ?_⟩
        refine wk_shape (T := [(1, 1, .live (obPlat p)), (5, 33, .live ⟨(fixTo q (i+1)).isEmpty, false, 1, (fixTo q (i+1)).map cI⟩)]) (shp0 hσ (by simp) (by simp) ?_) ?_
        · simp [SlotOk, fixTo, hd]
          exact ⟨.same (plat_pure p), .same (by simp [purel, C.isPure])⟩
        · simp [mtc, mtl, mT, C.isPure, fixTo, hd]
          rw [wrap_id (by omega) (by omega)]
      · refine awp_skip ?_
        first | show AWP _ _ _ _ _ | show ∃ _, _ | skip
        repeat refine awp_seq ?_
        refine awp_reg1 (by rw [hx]; kernel_rfl) fun K hK => ?_
        simp (config := { maxSteps := 1000000 }) [ty3]
        refine hK _ ?_
        clear hK K
        first | show AWP _ _ _ _ _ | show ∃ _, _ | skip
        refine ⟨i + 1, by omega, by omega, ?_⟩
        refine wk_shape (T := [(1, 1, .live (obPlat p)), (5, 5, .live ⟨(fixTo q (i+1)).isEmpty, false, 1, (fixTo q (i+1)).map cI⟩)]) (shp0 hσ (by simp) (by simp) ?_) ?_
        · simp [SlotOk, fixTo, hd]
          exact ⟨.same (plat_pure p), .same (by simp [purel, C.isPure])⟩
        · simp [mtc, mtl, mT, C.isPure, fixTo, hd]
          rw [wrap_id (by omega) (by omega)]
    · simp at hc1
      repeat refine awp_seq ?_
      refine awp_exit ?_
      first | show AWP _ _ _ _ _ | show ∃ _, _ | skip
      have : i = p.ps.length := by omega
      subst this
      repeat refine awp_seq ?_
      refine awp_reg1 (by rw [hx]; kernel_rfl) fun K hK => ?_
      simp (config := { maxSteps := 1000000 }) []
      refine hK _ ?_
      clear hK K
      first | show AWP _ _ _ _ _ | show ∃ _, _ | skip
      repeat refine awp_seq ?_
      refine awp_ret ?_
      refine And.intro (Or.inr rfl) ?_
      refine ⟨_, by simp [retC, resC]; rfl, ?_⟩
      unfold viewC
      rw [if_neg (by simp [C.isPure, purel])]
      simp only [mapO]
      rw [viewC_own (o := ⟨(fixTo q p.ps.length).isEmpty, false, 1, (fixTo q p.ps.length).map cI⟩) (by simp) rfl (by simp) (ints_pure _), viewC_self rfl]
      simp

end Go.Proofs.Ytgcmjidphcafnaa

namespace Go.Proofs.Ytgcmjidphcafnaa
open Go Go.Abs

set_option maxHeartbeats 2000000

def subTo (p : Plat) (l : List Int) (sel : Pc → Int) (v : List Int) : Nat → List Int
  | 0 => v
  | i + 1 => if sel (pcA p i) = -1 then subTo p l sel v i else addAt (subTo p l sel v i) (sel (pcA p i)).toNat (-(l[i]?.getD 0))

@[simp] theorem subTo_len (p : Plat) (l : List Int) (sel : Pc → Int) (v : List Int) : ∀ i, (subTo p l sel v i).length = v.length
  | 0 => rfl
  | i + 1 => by simp only [subTo]; split <;> simp [subTo_len p l sel v i]

def selF (p : Plat) (l : List Int) (sel : Pc → Int) (r : Nat) (i : Nat) : Int := if sel (pcA p i) = r then l[i]?.getD 0 else 0

theorem subTo_get {p : Plat} {l : List Int} {sel : Pc → Int} {v : List Int} (hs : ∀ i, i < p.ps.length → -1 ≤ sel (pcA p i) ∧ sel (pcA p i) < v.length) (r : Nat) :
    ∀ i, i ≤ p.ps.length → Flow.gi (subTo p l sel v i) r = Flow.gi v r - sumTo (selF p l sel r) i
  | 0, _ => by simp [subTo, sumTo]
  | i + 1, hi => by
    have ih := subTo_get (l := l) hs r i (by omega)
    have h := hs i (by omega)
    simp only [subTo, sumTo, selF]
    split
    · rw [ih, if_neg (by omega)]; omega
    · rw [gi_addAt (by simp; omega), ih]
      by_cases e : sel (pcA p i) = r
      · rw [if_pos (by omega), if_pos e]; omega
      · rw [if_neg (by omega), if_neg e]; omega

theorem subTo_bd {p : Plat} (hp : PlatOk p) {l : List Int} {sel : Pc → Int} {v : List Int} (hv : ∀ a ∈ v, 0 ≤ a ∧ a ≤ 9999) (hs : ∀ i, i < p.ps.length → -1 ≤ sel (pcA p i) ∧ sel (pcA p i) < v.length)
    {i : Nat} (hi : i ≤ p.ps.length) (hl : ∀ j, j < i → 0 ≤ Flow.gi l j ∧ Flow.gi l j ≤ 1098) (r : Nat) : -100000 ≤ Flow.gi (subTo p l sel v i) r ∧ Flow.gi (subTo p l sel v i) r ≤ 100000 := by
  have h8 := hp.n8
  rw [subTo_get hs r i hi]
  have h1 : 0 ≤ Flow.gi v r ∧ Flow.gi v r ≤ 9999 := by
    by_cases h : r < v.length
    · simp only [Flow.gi, List.getElem?_eq_getElem h, Option.getD_some]; exact hv _ (List.getElem_mem h)
    · simp [Flow.gi, List.getElem?_eq_none (Nat.le_of_not_lt h)]
  have h2 := sumTo_le (f := selF p l sel r) (b := 1098) (n := i) fun j hj => by
    have := hl j hj
    unfold selF
    simp only [Flow.gi] at this
    split <;> omega
  omega

theorem ne84 (e : Int) : Pure Try.prog 84 ([encI e] ++ []) (.bool (e != 0)) := by
  refine pure_of (fn := Try.f84) [.tmp 2] ⟨Try.func84, rfl, by kernel_rfl⟩ (by kernel_rfl) (by kernel_rfl) (by kernel_rfl) fun x hx hσ => ?_
  repeat refine awp_seq ?_
  refine awp_reg1 (by rw [hx]; kernel_rfl) fun K hK => ?_
  simp (config := { maxSteps := 1000000 }) []
  refine hK _ ?_
  clear hK K
  first | show AWP _ _ _ _ _ | show ∃ _, _ | skip
  repeat refine awp_seq ?_
  refine awp_reg1 (by rw [hx]; kernel_rfl) fun K hK => ?_
  simp (config := { maxSteps := 1000000 }) [ty3]
  refine hK _ ?_
  clear hK K
  first | show AWP _ _ _ _ _ | show ∃ _, _ | skip
  repeat refine awp_seq ?_
  refine awp_ret ?_
  refine And.intro (Or.inr rfl) ?_
  simp [retC, resC, viewC, mapO]

theorem sel_row {p : Plat} (hp : PlatOk p) (i : Nat) (hi : i < p.ps.length) : -1 ≤ (pcA p i).row ∧ (pcA p i).row < p.rows.length := by
  have := pc_in hp.w i hi
  obtain ⟨h1, h2, h3⟩ := this
  unfold PcW at h1
  omega
theorem sel_col {p : Plat} (hp : PlatOk p) (i : Nat) (hi : i < p.ps.length) : -1 ≤ (pcA p i).col ∧ (pcA p i).col < p.cols.length := by
  have := pc_in hp.w i hi
  obtain ⟨h1, h2, h3⟩ := this
  unfold PcW at h1
  omega

theorem zero_sub {p : Plat} {l : List Int} {sel : Pc → Int} {v : List Int} (hs : ∀ i, i < p.ps.length → -1 ≤ sel (pcA p i) ∧ sel (pcA p i) < v.length) :
    ((subTo p l sel v p.ps.length).any fun e => e != 0) = false ↔ ∀ r, r < v.length → sumTo (selF p l sel r) p.ps.length = Flow.gi v r := by
  constructor
  · intro h r hr
    have h2 := subTo_get (l := l) hs r p.ps.length (Nat.le_refl _)
    have h3 : Flow.gi (subTo p l sel v p.ps.length) r = 0 := by
      apply Classical.byContradiction
      intro hne
      have := any_ne.2 ⟨r, by simpa using hr, hne⟩
      rw [h] at this; simp at this
    omega
  · intro h
    apply Classical.byContradiction
    intro hc
    obtain ⟨y, hy, hne⟩ := any_ne.1 (by simpa using hc)
    have hy' : y < v.length := by simpa using hy
    have h2 := subTo_get (l := l) hs y p.ps.length (Nat.le_refl _)
    have := h y hy'
    omega

@[simp] abbrev clOb (l : List Int) (em : Bool) : Ob := ⟨l.isEmpty, em, 1, l.map cI⟩

theorem addAt_ne {l : List Int} {i : Nat} {d : Int} : (addAt l i d).isEmpty = l.isEmpty := by
  unfold addAt; cases l <;> cases i <;> rfl



theorem fills66 (p : Plat) (hp : PlatOk p) (hrn : p.rn = true → p.rows = []) (hcn : p.cn = true → p.cols = []) (nl fu : Bool) (l : List Int) (hl : l.length = p.ps.length) (b : Bool) (hb : b = true ↔ IsP p l) :
    Pure Try.prog 66 [encPlat p, .sl nl fu (l.map cI)] (.bool b) := by
  have h8 := hp.n8
  have hr4 := hp.r4
  have hc4 := hp.c4
  refine pure_of (fn := Try.f66) [.tmp 4] ⟨Try.func66, rfl, by kernel_rfl⟩ (by kernel_rfl) (by kernel_rfl) (by kernel_rfl) fun x hx hσ => ?_
  repeat refine awp_seq ?_
  refine awp_reg1 (by rw [hx]; kernel_rfl) fun K hK => ?_
  simp (config := { maxSteps := 1000000 }) []
  refine hK _ ?_
  clear hK K
  first | show AWP _ _ _ _ _ | show ∃ _, _ | skip
  repeat refine awp_seq ?_
  refine awp_drw3 [2, 5] [0, 1, 3, 4, 2, 5, 6, 7] (by rw [hx]; kernel_rfl) (by kernel_rfl) (by kernel_rfl) (by kernel_rfl) fun K hK => ?_
  simp (config := { maxSteps := 1000000 }) [ty25, ty23]
  refine freshD (clone83 p.rn false p.rows (by omega) hrn) (by simp) (by simp) (by simp) ?_
  simp
  refine freshD (clone83 p.cn false p.cols (by omega) hcn) (by simp) (by simp) (by simp) ?_
  simp
  refine hK _ ?_
  clear hK K
  first | show AWP _ _ _ _ _ | show ∃ _, _ | skip
  repeat refine awp_seq ?_
  refine awp_reg1 (by rw [hx]; kernel_rfl) fun K hK => ?_
  simp (config := { maxSteps := 1000000 }) [ty25, ty22]
  refine hK _ ?_
  clear hK K
  first | show AWP _ _ _ _ _ | show ∃ _, _ | skip
  repeat refine awp_seq ?_
  refine awp_block ?_
  refine awp_loop (fun i : Nat => ⟨ofL [(1, .sl nl fu (l.map cI)), (2, .ptr 2 3 0 0), (5, .own 13 1 0 p.rows.length), (6, .own 16 1 0 p.cols.length), (18, .sl p.pn false (p.ps.map cP)), (19, encI p.ps.length), (20, encI i)],
      stoT [(2, 2, .live (obPlat p)), (13, 13, .live (clOb (subTo p l Pc.row p.rows i) (!p.rn))), (16, 16, .live (clOb (subTo p l Pc.col p.cols i) (!p.cn)))]⟩)
    (fun i => i ≤ p.ps.length ∧ ∀ j, j < i → lowI (pcA p j) ≤ Flow.gi l j ∧ Flow.gi l j ≤ highI (pcA p j)) (fun i => p.ps.length - i) 0 (by simp) ?_ ?_
  · refine wk_shape (T := [(2, 2, .live (obPlat p)), (13, 13, .live (clOb (subTo p l Pc.row p.rows 0) (!p.rn))), (16, 16, .live (clOb (subTo p l Pc.col p.cols 0) (!p.cn)))]) (shp0 hσ (by simp) (by simp) ?_) ?_
    · simp [SlotOk, subTo]
      exact ⟨.same (plat_pure p), .same (ints_pure _), .same (ints_pure _)⟩
    · simp [mtc, mtl, mT, C.isPure, purel]
  · intro i ⟨hi, hin⟩
    repeat refine awp_seq ?_
    refine awp_reg1 (by rw [hx]; kernel_rfl) fun K hK => ?_
    simp (config := { maxSteps := 1000000 }) [ty3]
    refine hK _ ?_
    clear hK K
    first | show AWP _ _ _ _ _ | show ∃ _, _ | skip
    repeat refine awp_seq ?_
    refine awp_cond (by simp; rfl) (by rw [hx]; simp) (fun hc => ?_) (fun hc => ?_)
    · simp at hc
      refine awp_skip ?_
      first | show AWP _ _ _ _ _ | show ∃ _, _ | skip
      repeat refine awp_seq ?_
      refine awp_block ?_
      have hil : i < l.length := by omega
      have hq := hp.ps _ (List.getElem_mem hc)
      have egd : pcA p i = p.ps[i] := by simp [pcA, hc]
      have egl : Flow.gi l i = l[i] := by simp [Flow.gi, hil]
      repeat refine awp_seq ?_
      refine awp_reg1 (by rw [hx]; kernel_rfl) fun K hK => ?_
      simp (config := { maxSteps := 1000000 }) [ty22, ty45, hc]
      refine hK _ ?_
      clear hK K
      first | show AWP _ _ _ _ _ | show ∃ _, _ | skip
      repeat refine awp_seq ?_
      refine awp_reg1 (by rw [hx]; kernel_rfl) fun K hK => ?_
      simp (config := { maxSteps := 1000000 }) [ty45, ty41]
      refine callP (ends_c p.ps[i] hq) (by first | (simp; done) | (simp [*]; done)) ?_
      simp (config := { maxSteps := 1000000 }) [ty41]
      refine hK _ ?_
      clear hK K
      first | show AWP _ _ _ _ _ | show ∃ _, _ | skip
      repeat refine awp_seq ?_
      refine awp_drw3 [] [0, 1, 2, 3, 4, 5, 6, 7, 8, 9] (by rw [hx]; kernel_rfl) (by kernel_rfl) (by kernel_rfl) (by kernel_rfl) fun K hK => ?_
      simp (config := { maxSteps := 1000000 }) [ty23, ty41, ty3, hil]
      refine callPD (within56 l[i] (lowI p.ps[i]) (highI p.ps[i])) (by first | (simp; done) | (simp [*]; done)) (by simp) ?_
      simp (config := { maxSteps := 1000000 }) []
      refine hK _ ?_
      clear hK K
      first | show AWP _ _ _ _ _ | show ∃ _, _ | skip
      by_cases hwi : lowI p.ps[i] ≤ l[i] ∧ l[i] ≤ highI p.ps[i]
      · repeat refine awp_seq ?_
        refine awp_cond (by simp; rfl) (by rw [hx]; simp) (fun hd => ?_) (fun hd => ?_)
        · simp at hd; omega
        clear hd
        refine awp_skip ?_
        first | show AWP _ _ _ _ _ | show ∃ _, _ | skip
        have hlb : ∀ j, j < i + 1 → 0 ≤ Flow.gi l j ∧ Flow.gi l j ≤ 1098 := by
          intro j hj
          have hjl : j < p.ps.length := by omega
          have hw := (pc_in hp.w j hjl).1
          have hb' : 0 ≤ lowI (pcA p j) ∧ highI (pcA p j) ≤ 1098 := by unfold PcW at hw; unfold lowI highI; omega
          by_cases e : j = i
          · subst e; rw [egd] at hb'; rw [egl]; omega
          · have := hin j (by omega); omega
        have hli := hlb i (by omega)
        rw [egl] at hli
        have sr := sel_row hp i hc
        have sc := sel_col hp i hc
        rw [egd] at sr sc
        have bR := subTo_bd hp hp.rows (sel_row hp) (l := l) (i := i) (by omega) (fun j hj => hlb j (by omega))
        have bC := subTo_bd hp hp.cols (sel_col hp) (l := l) (i := i) (by omega) (fun j hj => hlb j (by omega))
        have eR1 : p.ps[i].row = -1 → subTo p l Pc.row p.rows (i + 1) = subTo p l Pc.row p.rows i := fun h => by simp only [subTo, egd]; rw [if_pos h]
        have eC1 : p.ps[i].col = -1 → subTo p l Pc.col p.cols (i + 1) = subTo p l Pc.col p.cols i := fun h => by simp only [subTo, egd]; rw [if_pos h]
        have hin' : ∀ j, j < i + 1 → lowI (pcA p j) ≤ Flow.gi l j ∧ Flow.gi l j ≤ highI (pcA p j) := by
          intro j hj
          by_cases e : j = i
          · subst e; rw [egd, egl]; exact hwi
          · exact hin j (by omega)
        refine AWP.weak (t := ⟨ofL [(1, .sl nl fu (l.map cI)), (2, .ptr 2 3 0 0), (5, .own 13 1 0 p.rows.length), (6, .own 16 1 0 p.cols.length), (7, encI i), (8, .ptr 8 4 0 0), (18, .sl p.pn false (p.ps.map cP)), (19, encI p.ps.length), (20, encI i)],
          stoT [(2, 2, .live (obPlat p)), (8, 8, .live (obPc p.ps[i])), (13, 13, .live (clOb (subTo p l Pc.row p.rows i) (!p.rn))), (16, 16, .live (clOb (subTo p l Pc.col p.cols i) (!p.cn)))]⟩) ?_ ?_
        rotate_left
        · refine wk_shape (T := [(2, 2, .live (obPlat p)), (8, 8, .live (obPc p.ps[i])), (13, 13, .live (clOb (subTo p l Pc.row p.rows i) (!p.rn))), (16, 16, .live (clOb (subTo p l Pc.col p.cols i) (!p.cn)))]) (shp0 hσ (by simp) (by simp) ?_) ?_
          · simp [SlotOk]
            exact ⟨.same (plat_pure p), .same (by simp [purel, C.isPure]), .same (ints_pure _), .same (ints_pure _)⟩
          · simp [mtc, mtl, mT, C.isPure, purel]
        repeat refine awp_seq ?_
        refine awp_reg1 (by rw [hx]; kernel_rfl) fun K hK => ?_
        simp (config := { maxSteps := 1000000 }) [ty45, ty3]
        refine hK _ ?_
        clear hK K
        first | show AWP _ _ _ _ _ | show ∃ _, _ | skip
        repeat refine awp_seq ?_
        refine awp_cond (by simp; rfl) (by rw [hx]; simp) (fun h1 => ?_) (fun h1 => ?_)
        · simp at h1
          obtain ⟨r, hr⟩ : ∃ r : Nat, p.ps[i].row = r := ⟨p.ps[i].row.toNat, by omega⟩
          have hrl : r < p.rows.length := by omega
          have hrl' : r < (subTo p l Pc.row p.rows i).length := by simpa using hrl
          have hne : subTo p l Pc.row p.rows i ≠ [] := by intro e; rw [e] at hrl'; simp at hrl'
          have bRr := bR r
          have egr : Flow.gi (subTo p l Pc.row p.rows i) r = (subTo p l Pc.row p.rows i)[r] := by simp only [Flow.gi, List.getElem?_eq_getElem hrl', Option.getD_some]
          rw [egr] at bRr
          have w9 : IntKind.i64.wrap ((subTo p l Pc.row p.rows i)[r] - l[i]) = (subTo p l Pc.row p.rows i)[r] - l[i] := wrap_id (by omega) (by omega)
          have e9 : ((subTo p l Pc.row p.rows i).map cI).set r [.int .i64 ((subTo p l Pc.row p.rows i)[r] - l[i])] = (subTo p l Pc.row p.rows (i + 1)).map cI := by
            simp only [subTo, egd, hr]
            rw [if_neg (by omega)]
            simp only [Int.toNat_natCast, addAt, List.getElem?_eq_getElem hrl', List.getElem?_eq_getElem hil, Option.getD_some, List.map_set, Int.sub_eq_add_neg]
          have i9 : (subTo p l Pc.row p.rows (i + 1)).isEmpty = (subTo p l Pc.row p.rows i).isEmpty := by
            simp only [subTo, egd, hr]
            rw [if_neg (by omega), addAt_ne]
          repeat refine awp_seq ?_
          refine awp_drw3 [] [0, 1, 2, 3, 4, 5, 6, 7, 8, 9, 10, 11] (by rw [hx]; kernel_rfl) (by kernel_rfl) (by kernel_rfl) (by kernel_rfl) fun K hK => ?_
          simp (config := { maxSteps := 1000000 }) [ty23, ty3, ty45, hr, hrl, hrl', hil, hne, w9, e9]
          refine hK _ ?_
          clear hK K
          first | show AWP _ _ _ _ _ | show ∃ _, _ | skip
          repeat refine awp_seq ?_
          refine awp_reg1 (by rw [hx]; kernel_rfl) fun K hK => ?_
          simp (config := { maxSteps := 1000000 }) [ty45, ty3]
          refine hK _ ?_
          clear hK K
          first | show AWP _ _ _ _ _ | show ∃ _, _ | skip
          repeat refine awp_seq ?_
          refine awp_cond (by simp; rfl) (by rw [hx]; simp) (fun h2 => ?_) (fun h2 => ?_)
          · simp at h2
            obtain ⟨c, hcc⟩ : ∃ c : Nat, p.ps[i].col = c := ⟨p.ps[i].col.toNat, by omega⟩
            have hcl : c < p.cols.length := by omega
            have hcl' : c < (subTo p l Pc.col p.cols i).length := by simpa using hcl
            have hne2 : subTo p l Pc.col p.cols i ≠ [] := by intro e; rw [e] at hcl'; simp at hcl'
            have bCc := bC c
            have egc : Flow.gi (subTo p l Pc.col p.cols i) c = (subTo p l Pc.col p.cols i)[c] := by simp only [Flow.gi, List.getElem?_eq_getElem hcl', Option.getD_some]
            rw [egc] at bCc
            have w11 : IntKind.i64.wrap ((subTo p l Pc.col p.cols i)[c] - l[i]) = (subTo p l Pc.col p.cols i)[c] - l[i] := wrap_id (by omega) (by omega)
            have e11 : ((subTo p l Pc.col p.cols i).map cI).set c [.int .i64 ((subTo p l Pc.col p.cols i)[c] - l[i])] = (subTo p l Pc.col p.cols (i + 1)).map cI := by
              simp only [subTo, egd, hcc]
              rw [if_neg (by omega)]
              simp only [Int.toNat_natCast, addAt, List.getElem?_eq_getElem hcl', List.getElem?_eq_getElem hil, Option.getD_some, List.map_set, Int.sub_eq_add_neg]
            have i11 : (subTo p l Pc.col p.cols (i + 1)).isEmpty = (subTo p l Pc.col p.cols i).isEmpty := by
              simp only [subTo, egd, hcc]
              rw [if_neg (by omega), addAt_ne]
            repeat refine awp_seq ?_
            refine awp_drw3 [] [0, 1, 2, 3, 4, 5, 6, 7, 8, 9, 10, 11] (by rw [hx]; kernel_rfl) (by kernel_rfl) (by kernel_rfl) (by kernel_rfl) fun K hK => ?_
            simp (config := { maxSteps := 1000000 }) [ty23, ty3, ty45, hcc, hcl, hcl', hil, hne2, w11, e11]
            refine hK _ ?_
            clear hK K
            first | show AWP _ _ _ _ _ | show ∃ _, _ | skip
            repeat refine awp_seq ?_
            refine awp_reg1 (by rw [hx]; kernel_rfl) fun K hK => ?_
            simp (config := { maxSteps := 1000000 }) [ty3]
            refine hK _ ?_
            clear hK K
            first | show AWP _ _ _ _ _ | show ∃ _, _ | skip
            refine ⟨i + 1, ⟨by omega, hin'⟩, by omega, ?_⟩
            refine wk_shape (T := [(2, 2, .live (obPlat p)), (13, 13, .live (clOb (subTo p l Pc.row p.rows (i + 1)) (!p.rn))), (16, 16, .live (clOb (subTo p l Pc.col p.cols (i + 1)) (!p.cn)))]) (shp0 hσ (by simp) (by simp) ?_) ?_
            · simp [SlotOk]
              refine ⟨.same (plat_pure p), ⟨by simpa using i9, rowsOk_of (by first | rfl | exact e9) (ints_pure _)⟩, ⟨by simpa using i11, rowsOk_of (by first | rfl | exact e11) (ints_pure _)⟩⟩
            · simp [mtc, mtl, mT, C.isPure, purel]
              rw [wrap_id (by omega) (by omega)]
          · simp at h2
            refine awp_skip ?_
            first | show AWP _ _ _ _ _ | show ∃ _, _ | skip
            have i11 : (subTo p l Pc.col p.cols (i + 1)).isEmpty = (subTo p l Pc.col p.cols i).isEmpty := by rw [eC1 h2]
            have e11 : (subTo p l Pc.col p.cols i).map cI = (subTo p l Pc.col p.cols (i + 1)).map cI := by rw [eC1 h2]
            repeat refine awp_seq ?_
            refine awp_reg1 (by rw [hx]; kernel_rfl) fun K hK => ?_
            simp (config := { maxSteps := 1000000 }) [ty3]
            refine hK _ ?_
            clear hK K
            first | show AWP _ _ _ _ _ | show ∃ _, _ | skip
            refine ⟨i + 1, ⟨by omega, hin'⟩, by omega, ?_⟩
            refine wk_shape (T := [(2, 2, .live (obPlat p)), (13, 13, .live (clOb (subTo p l Pc.row p.rows (i + 1)) (!p.rn))), (16, 16, .live (clOb (subTo p l Pc.col p.cols (i + 1)) (!p.cn)))]) (shp0 hσ (by simp) (by simp) ?_) ?_
            · simp [SlotOk]
              refine ⟨.same (plat_pure p), ⟨by simpa using i9, rowsOk_of (by first | rfl | exact e9) (ints_pure _)⟩, ⟨by simpa using i11, rowsOk_of (by first | rfl | exact e11) (ints_pure _)⟩⟩
            · simp [mtc, mtl, mT, C.isPure, purel]
              rw [wrap_id (by omega) (by omega)]
        · simp at h1
          refine awp_skip ?_
          first | show AWP _ _ _ _ _ | show ∃ _, _ | skip
          have i9 : (subTo p l Pc.row p.rows (i + 1)).isEmpty = (subTo p l Pc.row p.rows i).isEmpty := by rw [eR1 h1]
          have e9 : (subTo p l Pc.row p.rows i).map cI = (subTo p l Pc.row p.rows (i + 1)).map cI := by rw [eR1 h1]
          repeat refine awp_seq ?_
          refine awp_reg1 (by rw [hx]; kernel_rfl) fun K hK => ?_
          simp (config := { maxSteps := 1000000 }) [ty45, ty3]
          refine hK _ ?_
          clear hK K
          first | show AWP _ _ _ _ _ | show ∃ _, _ | skip
          repeat refine awp_seq ?_
          refine awp_cond (by simp; rfl) (by rw [hx]; simp) (fun h2 => ?_) (fun h2 => ?_)
          · simp at h2
            obtain ⟨c, hcc⟩ : ∃ c : Nat, p.ps[i].col = c := ⟨p.ps[i].col.toNat, by omega⟩
            have hcl : c < p.cols.length := by omega
            have hcl' : c < (subTo p l Pc.col p.cols i).length := by simpa using hcl
            have hne2 : subTo p l Pc.col p.cols i ≠ [] := by intro e; rw [e] at hcl'; simp at hcl'
            have bCc := bC c
            have egc : Flow.gi (subTo p l Pc.col p.cols i) c = (subTo p l Pc.col p.cols i)[c] := by simp only [Flow.gi, List.getElem?_eq_getElem hcl', Option.getD_some]
            rw [egc] at bCc
            have w11 : IntKind.i64.wrap ((subTo p l Pc.col p.cols i)[c] - l[i]) = (subTo p l Pc.col p.cols i)[c] - l[i] := wrap_id (by omega) (by omega)
            have e11 : ((subTo p l Pc.col p.cols i).map cI).set c [.int .i64 ((subTo p l Pc.col p.cols i)[c] - l[i])] = (subTo p l Pc.col p.cols (i + 1)).map cI := by
              simp only [subTo, egd, hcc]
              rw [if_neg (by omega)]
              simp only [Int.toNat_natCast, addAt, List.getElem?_eq_getElem hcl', List.getElem?_eq_getElem hil, Option.getD_some, List.map_set, Int.sub_eq_add_neg]
            have i11 : (subTo p l Pc.col p.cols (i + 1)).isEmpty = (subTo p l Pc.col p.cols i).isEmpty := by
              simp only [subTo, egd, hcc]
              rw [if_neg (by omega), addAt_ne]
            repeat refine awp_seq ?_
            refine awp_drw3 [] [0, 1, 2, 3, 4, 5, 6, 7, 8, 9, 10, 11] (by rw [hx]; kernel_rfl) (by kernel_rfl) (by kernel_rfl) (by kernel_rfl) fun K hK => ?_
            simp (config := { maxSteps := 1000000 }) [ty23, ty3, ty45, hcc, hcl, hcl', hil, hne2, w11, e11]
            refine hK _ ?_
            clear hK K
            first | show AWP _ _ _ _ _ | show ∃ _, _ | skip
            repeat refine awp_seq ?_
            refine awp_reg1 (by rw [hx]; kernel_rfl) fun K hK => ?_
            simp (config := { maxSteps := 1000000 }) [ty3]
            refine hK _ ?_
            clear hK K
            first | show AWP _ _ _ _ _ | show ∃ _, _ | skip
            refine ⟨i + 1, ⟨by omega, hin'⟩, by omega, ?_⟩
            refine wk_shape (T := [(2, 2, .live (obPlat p)), (13, 13, .live (clOb (subTo p l Pc.row p.rows (i + 1)) (!p.rn))), (16, 16, .live (clOb (subTo p l Pc.col p.cols (i + 1)) (!p.cn)))]) (shp0 hσ (by simp) (by simp) ?_) ?_
            · simp [SlotOk]
              refine ⟨.same (plat_pure p), ⟨by simpa using i9, rowsOk_of (by first | rfl | exact e9) (ints_pure _)⟩, ⟨by simpa using i11, rowsOk_of (by first | rfl | exact e11) (ints_pure _)⟩⟩
            · simp [mtc, mtl, mT, C.isPure, purel]
              rw [wrap_id (by omega) (by omega)]
          · simp at h2
            refine awp_skip ?_
            first | show AWP _ _ _ _ _ | show ∃ _, _ | skip
            have i11 : (subTo p l Pc.col p.cols (i + 1)).isEmpty = (subTo p l Pc.col p.cols i).isEmpty := by rw [eC1 h2]
            have e11 : (subTo p l Pc.col p.cols i).map cI = (subTo p l Pc.col p.cols (i + 1)).map cI := by rw [eC1 h2]
            repeat refine awp_seq ?_
            refine awp_reg1 (by rw [hx]; kernel_rfl) fun K hK => ?_
            simp (config := { maxSteps := 1000000 }) [ty3]
            refine hK _ ?_
            clear hK K
            first | show AWP _ _ _ _ _ | show ∃ _, _ | skip
            refine ⟨i + 1, ⟨by omega, hin'⟩, by omega, ?_⟩
            refine wk_shape (T := [(2, 2, .live (obPlat p)), (13, 13, .live (clOb (subTo p l Pc.row p.rows (i + 1)) (!p.rn))), (16, 16, .live (clOb (subTo p l Pc.col p.cols (i + 1)) (!p.cn)))]) (shp0 hσ (by simp) (by simp) ?_) ?_
            · simp [SlotOk]
              refine ⟨.same (plat_pure p), ⟨by simpa using i9, rowsOk_of (by first | rfl | exact e9) (ints_pure _)⟩, ⟨by simpa using i11, rowsOk_of (by first | rfl | exact e11) (ints_pure _)⟩⟩
            · simp [mtc, mtl, mT, C.isPure, purel]
              rw [wrap_id (by omega) (by omega)]
      · repeat refine awp_seq ?_
        refine awp_cond (by simp; rfl) (by rw [hx]; simp) (fun hd => ?_) (fun hd => ?_)
        · repeat refine awp_seq ?_
          refine awp_reg1 (by rw [hx]; kernel_rfl) fun K hK => ?_
          simp (config := { maxSteps := 1000000 }) []
          refine hK _ ?_
          clear hK K
          first | show AWP _ _ _ _ _ | show ∃ _, _ | skip
          repeat refine awp_seq ?_
          refine awp_ret ?_
          refine And.intro (Or.inr rfl) ?_
          have : b = false := by
            cases b
            · rfl
            · exfalso
              have := (hb.1 rfl).2.1 i hil
              have e : lowI (pcA p i) ≤ Flow.gi l i ∧ Flow.gi l i ≤ highI (pcA p i) := this
              rw [egd, egl] at e
              exact hwi e
          subst this
          simp [retC, resC, viewC, mapO]
        · simp at hd; omega
    · simp at hc
      repeat refine awp_seq ?_
      refine awp_exit ?_
      first | show AWP _ _ _ _ _ | show ∃ _, _ | skip
      have : i = p.ps.length := by omega
      subst this
      have zr := zero_sub (p := p) (l := l) (sel := Pc.row) (v := p.rows) (sel_row hp)
      have zc := zero_sub (p := p) (l := l) (sel := Pc.col) (v := p.cols) (sel_col hp)
      have hbb : b = (!((subTo p l Pc.row p.rows p.ps.length).any fun e => e != 0) && !((subTo p l Pc.col p.cols p.ps.length).any fun e => e != 0)) := by
        rw [Bool.eq_iff_iff, hb]
        simp only [Bool.and_eq_true, Bool.not_eq_true']
        rw [zr, zc]
        constructor
        · rintro ⟨_, _, h1, h2⟩
          rw [hl] at h1 h2
          exact ⟨h1, h2⟩
        · rintro ⟨h1, h2⟩
          exact ⟨hl, fun i hi => hin i (by omega), by unfold FullP; rw [hl]; exact ⟨h1, h2⟩⟩
      have cR := contains64 ((subTo p l Pc.row p.rows p.ps.length).isEmpty && !(!p.rn)) false (subTo p l Pc.row p.rows p.ps.length) 84 [] (fun e => e != 0) (fun a _ => ne84 a) rfl (by simp; omega)
      have cC := contains64 ((subTo p l Pc.col p.cols p.ps.length).isEmpty && !(!p.cn)) false (subTo p l Pc.col p.cols p.ps.length) 84 [] (fun e => e != 0) (fun a _ => ne84 a) rfl (by simp; omega)
      repeat refine awp_seq ?_
      refine awp_reg1 (by rw [hx]; kernel_rfl) fun K hK => ?_
      simp (config := { maxSteps := 1000000 }) []
      refine hK _ ?_
      clear hK K
      first | show AWP _ _ _ _ _ | show ∃ _, _ | skip
      by_cases ha : ((subTo p l Pc.row p.rows p.ps.length).any fun e => e != 0) = true
      · rw [ha] at cR hbb
        repeat refine awp_seq ?_
        refine awp_reg1 (by rw [hx]; kernel_rfl) fun K hK => ?_
        simp (config := { maxSteps := 1000000 }) []
        refine callL cR ?_ (.inr rfl) ?_
        · simp only [viewL, mapO]
          rw [viewC_own (o := clOb (subTo p l Pc.row p.rows p.ps.length) (!p.rn)) (by simp) rfl (by simp) (ints_pure _), viewC_self (by simp [C.isPure, purel])]
        simp
        refine hK _ ?_
        clear hK K
        first | show AWP _ _ _ _ _ | show ∃ _, _ | skip
        repeat refine awp_seq ?_
        refine awp_ret ?_
        refine And.intro (Or.inr rfl) ?_
        subst hbb
        simp [retC, resC, viewC, mapO]
      · rw [Bool.not_eq_true] at ha
        rw [ha] at cR hbb
        repeat refine awp_seq ?_
        refine awp_reg1 (by rw [hx]; kernel_rfl) fun K hK => ?_
        simp (config := { maxSteps := 1000000 }) []
        refine callL cR ?_ (.inr rfl) ?_
        · simp only [viewL, mapO]
          rw [viewC_own (o := clOb (subTo p l Pc.row p.rows p.ps.length) (!p.rn)) (by simp) rfl (by simp) (ints_pure _), viewC_self (by simp [C.isPure, purel])]
        simp
        refine callL cC ?_ (.inr rfl) ?_
        · simp only [viewL, mapO]
          rw [viewC_own (o := clOb (subTo p l Pc.col p.cols p.ps.length) (!p.cn)) (by simp) rfl (by simp) (ints_pure _), viewC_self (by simp [C.isPure, purel])]
        simp
        refine hK _ ?_
        clear hK K
        first | show AWP _ _ _ _ _ | show ∃ _, _ | skip
        repeat refine awp_seq ?_
        refine awp_ret ?_
        refine And.intro (Or.inr rfl) ?_
        rw [hbb]
        simp [retC, resC, viewC, mapO]

end Go.Proofs.Ytgcmjidphcafnaa

namespace Go.Proofs.Ytgcmjidphcafnaa
open Go Go.Abs

set_option maxHeartbeats 2000000

-- Fills, and the reference's

def encFills (p : Plat) (l : List Int) (ok : Bool) (e : Int) (b : Bool) : Prop := (¬ ok = true ∧ e = 60 ∧ b = false) ∨ (ok = true ∧ l.length ≠ p.ps.length ∧ e = 1 ∧ b = false) ∨ (ok = true ∧ l.length = p.ps.length ∧ e = 0 ∧ (b = true ↔ IsP p l))


open Classical in
theorem fills35 (p : Plat) (nl : Bool) (l : List Int) (h0 : p.ps.length ≤ 1000) (h1 : p.rows.length ≤ 1000) (h2 : p.cols.length ≤ 1000) (hrn : p.rn = true → p.rows = []) (hcn : p.cn = true → p.cols = []) (e : Int) (b : Bool) (h : encFills p l (decide (PlatOk p)) e b) :
    Pure Try.prog 35 [encPlat p, .sl nl false (l.map cI)] (.tup [.bool b, encI e]) := by
  have hc := check33 p h0 h1 h2
  unfold encFills at h
  rcases h with ⟨h1, rfl, rfl⟩ | ⟨h1, h2, rfl, rfl⟩ | ⟨h1, h2, rfl, h3⟩
  · simp only [decide_eq_true_eq] at h1
    rw [if_neg h1] at hc
    refine pure_of (fn := Try.f35) [.tmp 4, .tmp 5] ⟨Try.func35, rfl, by kernel_rfl⟩ (by kernel_rfl) (by kernel_rfl) (by kernel_rfl) fun x hx hσ => ?_
    repeat refine awp_seq ?_
    refine awp_reg1 (by rw [hx]; kernel_rfl) fun K hK => ?_
    simp (config := { maxSteps := 1000000 }) [ty25]
    refine hK _ ?_
    clear hK K
    first | show AWP _ _ _ _ _ | show ∃ _, _ | skip
    repeat refine awp_seq ?_
    refine awp_reg1 (by rw [hx]; kernel_rfl) fun K hK => ?_
    simp (config := { maxSteps := 1000000 }) [ty25]
    refine callP (hc) (by first | (simp; done) | (simp [*]; done)) ?_
    simp (config := { maxSteps := 1000000 }) []
    refine hK _ ?_
    clear hK K
    first | show AWP _ _ _ _ _ | show ∃ _, _ | skip
    repeat refine awp_seq ?_
    refine awp_reg1 (by rw [hx]; kernel_rfl) fun K hK => ?_
    simp (config := { maxSteps := 1000000 }) [ty30]
    refine hK _ ?_
    clear hK K
    first | show AWP _ _ _ _ _ | show ∃ _, _ | skip
    repeat refine awp_seq ?_
    refine awp_cond (by simp; rfl) (by rw [hx]; simp) (fun hd => ?_) (fun hd => ?_)
    · repeat refine awp_seq ?_
      refine awp_reg1 (by rw [hx]; kernel_rfl) fun K hK => ?_
      simp (config := { maxSteps := 1000000 }) []
      refine hK _ ?_
      clear hK K
      first | show AWP _ _ _ _ _ | show ∃ _, _ | skip
      repeat refine awp_seq ?_
      refine awp_ret ?_
      refine And.intro (Or.inr rfl) ?_
      simp [retC, resC, viewC, mapO]
    · simp at hd
  · simp only [decide_eq_true_eq] at h1
    rw [if_pos h1] at hc
    have hne : ((l.length : Int) == (p.ps.length : Int)) = false := by rw [beq_eq_false_iff_ne]; omega
    refine pure_of (fn := Try.f35) [.tmp 4, .tmp 5] ⟨Try.func35, rfl, by kernel_rfl⟩ (by kernel_rfl) (by kernel_rfl) (by kernel_rfl) fun x hx hσ => ?_
    repeat refine awp_seq ?_
    refine awp_reg1 (by rw [hx]; kernel_rfl) fun K hK => ?_
    simp (config := { maxSteps := 1000000 }) [ty25]
    refine hK _ ?_
    clear hK K
    first | show AWP _ _ _ _ _ | show ∃ _, _ | skip
    repeat refine awp_seq ?_
    refine awp_reg1 (by rw [hx]; kernel_rfl) fun K hK => ?_
    simp (config := { maxSteps := 1000000 }) [ty25]
    refine callP (hc) (by first | (simp; done) | (simp [*]; done)) ?_
    simp (config := { maxSteps := 1000000 }) []
    refine hK _ ?_
    clear hK K
    first | show AWP _ _ _ _ _ | show ∃ _, _ | skip
    repeat refine awp_seq ?_
    refine awp_reg1 (by rw [hx]; kernel_rfl) fun K hK => ?_
    simp (config := { maxSteps := 1000000 }) [ty30]
    refine hK _ ?_
    clear hK K
    first | show AWP _ _ _ _ _ | show ∃ _, _ | skip
    repeat refine awp_seq ?_
    refine awp_cond (by simp; rfl) (by rw [hx]; simp) (fun hd => ?_) (fun hd => ?_)
    · simp at hd
    clear hd
    refine awp_skip ?_
    first | show AWP _ _ _ _ _ | show ∃ _, _ | skip
    repeat refine awp_seq ?_
    refine awp_reg1 (by rw [hx]; kernel_rfl) fun K hK => ?_
    simp (config := { maxSteps := 1000000 }) [ty25, ty22, ty23, ty3, hne]
    refine hK _ ?_
    clear hK K
    first | show AWP _ _ _ _ _ | show ∃ _, _ | skip
    repeat refine awp_seq ?_
    refine awp_cond (by simp; rfl) (by rw [hx]; simp) (fun hd => ?_) (fun hd => ?_)
    · repeat refine awp_seq ?_
      refine awp_reg1 (by rw [hx]; kernel_rfl) fun K hK => ?_
      simp (config := { maxSteps := 1000000 }) []
      refine hK _ ?_
      clear hK K
      first | show AWP _ _ _ _ _ | show ∃ _, _ | skip
      repeat refine awp_seq ?_
      refine awp_ret ?_
      refine And.intro (Or.inr rfl) ?_
      simp [retC, resC, viewC, mapO]
    · simp at hd; omega
  · simp only [decide_eq_true_eq] at h1
    rw [if_pos h1] at hc
    refine pure_of (fn := Try.f35) [.tmp 4, .tmp 5] ⟨Try.func35, rfl, by kernel_rfl⟩ (by kernel_rfl) (by kernel_rfl) (by kernel_rfl) fun x hx hσ => ?_
    repeat refine awp_seq ?_
    refine awp_reg1 (by rw [hx]; kernel_rfl) fun K hK => ?_
    simp (config := { maxSteps := 1000000 }) [ty25]
    refine hK _ ?_
    clear hK K
    first | show AWP _ _ _ _ _ | show ∃ _, _ | skip
    repeat refine awp_seq ?_
    refine awp_reg1 (by rw [hx]; kernel_rfl) fun K hK => ?_
    simp (config := { maxSteps := 1000000 }) [ty25]
    refine callP (hc) (by first | (simp; done) | (simp [*]; done)) ?_
    simp (config := { maxSteps := 1000000 }) []
    refine hK _ ?_
    clear hK K
    first | show AWP _ _ _ _ _ | show ∃ _, _ | skip
    repeat refine awp_seq ?_
    refine awp_reg1 (by rw [hx]; kernel_rfl) fun K hK => ?_
    simp (config := { maxSteps := 1000000 }) [ty30]
    refine hK _ ?_
    clear hK K
    first | show AWP _ _ _ _ _ | show ∃ _, _ | skip
    repeat refine awp_seq ?_
    refine awp_cond (by simp; rfl) (by rw [hx]; simp) (fun hd => ?_) (fun hd => ?_)
    · simp at hd
    clear hd
    refine awp_skip ?_
    first | show AWP _ _ _ _ _ | show ∃ _, _ | skip
    repeat refine awp_seq ?_
    refine awp_reg1 (by rw [hx]; kernel_rfl) fun K hK => ?_
    simp (config := { maxSteps := 1000000 }) [ty25, ty22, ty23, ty3, h2]
    refine hK _ ?_
    clear hK K
    first | show AWP _ _ _ _ _ | show ∃ _, _ | skip
    repeat refine awp_seq ?_
    refine awp_cond (by simp; rfl) (by rw [hx]; simp) (fun hd => ?_) (fun hd => ?_)
    · simp at hd
    · refine awp_skip ?_
      first | show AWP _ _ _ _ _ | show ∃ _, _ | skip
      repeat refine awp_seq ?_
      refine awp_reg1 (by rw [hx]; kernel_rfl) fun K hK => ?_
      simp (config := { maxSteps := 1000000 }) [ty25]
      refine callP (fills66 p h1 hrn hcn nl false l h2 b h3) (by first | (simp; done) | (simp [*]; done)) ?_
      simp (config := { maxSteps := 1000000 }) []
      refine hK _ ?_
      clear hK K
      first | show AWP _ _ _ _ _ | show ∃ _, _ | skip
      repeat refine awp_seq ?_
      refine awp_ret ?_
      refine And.intro (Or.inr rfl) ?_
      simp [retC, resC, viewC, mapO]

open Classical in
theorem fills36 (p : Plat) (nl : Bool) (l : List Int) (h0 : p.ps.length ≤ 1000) (h1 : p.rows.length ≤ 1000) (h2 : p.cols.length ≤ 1000) (hl : l.length ≤ 1000) (e : Int) (b : Bool) (h : encFills p l (decide (PlatOk p)) e b) :
    Pure Try.prog 36 [encPlat p, .sl nl false (l.map cI)] (.tup [.bool b, encI e]) := by
  have hc := check34 p h0 h1 h2
  unfold encFills at h
  rcases h with ⟨h1, rfl, rfl⟩ | ⟨h1, h2, rfl, rfl⟩ | ⟨h1, h2, rfl, h3⟩
  · simp only [decide_eq_true_eq] at h1
    rw [if_neg h1] at hc
    refine pure_of (fn := Try.f36) [.tmp 4, .tmp 5] ⟨Try.func36, rfl, by kernel_rfl⟩ (by kernel_rfl) (by kernel_rfl) (by kernel_rfl) fun x hx hσ => ?_
    repeat refine awp_seq ?_
    refine awp_reg1 (by rw [hx]; kernel_rfl) fun K hK => ?_
    simp (config := { maxSteps := 1000000 }) [ty25]
    refine hK _ ?_
    clear hK K
    first | show AWP _ _ _ _ _ | show ∃ _, _ | skip
    repeat refine awp_seq ?_
    refine awp_reg1 (by rw [hx]; kernel_rfl) fun K hK => ?_
    simp (config := { maxSteps := 1000000 }) [ty25]
    refine callP (hc) (by first | (simp; done) | (simp [*]; done)) ?_
    simp (config := { maxSteps := 1000000 }) []
    refine hK _ ?_
    clear hK K
    first | show AWP _ _ _ _ _ | show ∃ _, _ | skip
    repeat refine awp_seq ?_
    refine awp_reg1 (by rw [hx]; kernel_rfl) fun K hK => ?_
    simp (config := { maxSteps := 1000000 }) [ty30]
    refine hK _ ?_
    clear hK K
    first | show AWP _ _ _ _ _ | show ∃ _, _ | skip
    repeat refine awp_seq ?_
    refine awp_cond (by simp; rfl) (by rw [hx]; simp) (fun hd => ?_) (fun hd => ?_)
    · repeat refine awp_seq ?_
      refine awp_reg1 (by rw [hx]; kernel_rfl) fun K hK => ?_
      simp (config := { maxSteps := 1000000 }) []
      refine hK _ ?_
      clear hK K
      first | show AWP _ _ _ _ _ | show ∃ _, _ | skip
      repeat refine awp_seq ?_
      refine awp_ret ?_
      refine And.intro (Or.inr rfl) ?_
      simp [retC, resC, viewC, mapO]
    · simp at hd
  · simp only [decide_eq_true_eq] at h1
    rw [if_pos h1] at hc
    have hne : ((l.length : Int) == (p.ps.length : Int)) = false := by rw [beq_eq_false_iff_ne]; omega
    refine pure_of (fn := Try.f36) [.tmp 4, .tmp 5] ⟨Try.func36, rfl, by kernel_rfl⟩ (by kernel_rfl) (by kernel_rfl) (by kernel_rfl) fun x hx hσ => ?_
    repeat refine awp_seq ?_
    refine awp_reg1 (by rw [hx]; kernel_rfl) fun K hK => ?_
    simp (config := { maxSteps := 1000000 }) [ty25]
    refine hK _ ?_
    clear hK K
    first | show AWP _ _ _ _ _ | show ∃ _, _ | skip
    repeat refine awp_seq ?_
    refine awp_reg1 (by rw [hx]; kernel_rfl) fun K hK => ?_
    simp (config := { maxSteps := 1000000 }) [ty25]
    refine callP (hc) (by first | (simp; done) | (simp [*]; done)) ?_
    simp (config := { maxSteps := 1000000 }) []
    refine hK _ ?_
    clear hK K
    first | show AWP _ _ _ _ _ | show ∃ _, _ | skip
    repeat refine awp_seq ?_
    refine awp_reg1 (by rw [hx]; kernel_rfl) fun K hK => ?_
    simp (config := { maxSteps := 1000000 }) [ty30]
    refine hK _ ?_
    clear hK K
    first | show AWP _ _ _ _ _ | show ∃ _, _ | skip
    repeat refine awp_seq ?_
    refine awp_cond (by simp; rfl) (by rw [hx]; simp) (fun hd => ?_) (fun hd => ?_)
    · simp at hd
    clear hd
    refine awp_skip ?_
    first | show AWP _ _ _ _ _ | show ∃ _, _ | skip
    repeat refine awp_seq ?_
    refine awp_reg1 (by rw [hx]; kernel_rfl) fun K hK => ?_
    simp (config := { maxSteps := 1000000 }) [ty25, ty22, ty23, ty3, hne]
    refine hK _ ?_
    clear hK K
    first | show AWP _ _ _ _ _ | show ∃ _, _ | skip
    repeat refine awp_seq ?_
    refine awp_cond (by simp; rfl) (by rw [hx]; simp) (fun hd => ?_) (fun hd => ?_)
    · repeat refine awp_seq ?_
      refine awp_reg1 (by rw [hx]; kernel_rfl) fun K hK => ?_
      simp (config := { maxSteps := 1000000 }) []
      refine hK _ ?_
      clear hK K
      first | show AWP _ _ _ _ _ | show ∃ _, _ | skip
      repeat refine awp_seq ?_
      refine awp_ret ?_
      refine And.intro (Or.inr rfl) ?_
      simp [retC, resC, viewC, mapO]
    · simp at hd; omega
  · simp only [decide_eq_true_eq] at h1
    rw [if_pos h1] at hc
    refine pure_of (fn := Try.f36) [.tmp 4, .tmp 5] ⟨Try.func36, rfl, by kernel_rfl⟩ (by kernel_rfl) (by kernel_rfl) (by kernel_rfl) fun x hx hσ => ?_
    repeat refine awp_seq ?_
    refine awp_reg1 (by rw [hx]; kernel_rfl) fun K hK => ?_
    simp (config := { maxSteps := 1000000 }) [ty25]
    refine hK _ ?_
    clear hK K
    first | show AWP _ _ _ _ _ | show ∃ _, _ | skip
    repeat refine awp_seq ?_
    refine awp_reg1 (by rw [hx]; kernel_rfl) fun K hK => ?_
    simp (config := { maxSteps := 1000000 }) [ty25]
    refine callP (hc) (by first | (simp; done) | (simp [*]; done)) ?_
    simp (config := { maxSteps := 1000000 }) []
    refine hK _ ?_
    clear hK K
    first | show AWP _ _ _ _ _ | show ∃ _, _ | skip
    repeat refine awp_seq ?_
    refine awp_reg1 (by rw [hx]; kernel_rfl) fun K hK => ?_
    simp (config := { maxSteps := 1000000 }) [ty30]
    refine hK _ ?_
    clear hK K
    first | show AWP _ _ _ _ _ | show ∃ _, _ | skip
    repeat refine awp_seq ?_
    refine awp_cond (by simp; rfl) (by rw [hx]; simp) (fun hd => ?_) (fun hd => ?_)
    · simp at hd
    clear hd
    refine awp_skip ?_
    first | show AWP _ _ _ _ _ | show ∃ _, _ | skip
    repeat refine awp_seq ?_
    refine awp_reg1 (by rw [hx]; kernel_rfl) fun K hK => ?_
    simp (config := { maxSteps := 1000000 }) [ty25, ty22, ty23, ty3, h2]
    refine hK _ ?_
    clear hK K
    first | show AWP _ _ _ _ _ | show ∃ _, _ | skip
    repeat refine awp_seq ?_
    refine awp_cond (by simp; rfl) (by rw [hx]; simp) (fun hd => ?_) (fun hd => ?_)
    · simp at hd
    · refine awp_skip ?_
      first | show AWP _ _ _ _ _ | show ∃ _, _ | skip
      repeat refine awp_seq ?_
      refine awp_reg1 (by rw [hx]; kernel_rfl) fun K hK => ?_
      simp (config := { maxSteps := 1000000 }) [ty25]
      refine callP (is_c p nl false l h1 hl b h3) (by first | (simp; done) | (simp [*]; done)) ?_
      simp (config := { maxSteps := 1000000 }) []
      refine hK _ ?_
      clear hK K
      first | show AWP _ _ _ _ _ | show ∃ _, _ | skip
      repeat refine awp_seq ?_
      refine awp_ret ?_
      refine And.intro (Or.inr rfl) ?_
      simp [retC, resC, viewC, mapO]

-- what is less known

theorem pr_full {G : Nat → Prop} {w : World} {nl fu : Bool} {rows : List (List C)} {v : Value} (h : PR G w (.sl nl fu rows) v) : PR G w (.sl nl false rows) v := by
  cases h with
  | slnil => exact .slnil _
  | slemp => exact .slemp _ _
  | sl cell hG hb hn hf hc hsz hcell hcl hr => exact .sl cell hG hb hn (by simp) hc hsz hcell hcl hr

theorem pr_plat {G : Nat → Prop} {w : World} {a b c : Bool} {p : Plat} {v : Value} (h : PR G w (.agg [.sl p.pn a (p.ps.map cP), .sl p.rn b (p.rows.map cI), .sl p.cn c (p.cols.map cI)]) v) : PR G w (encPlat p) v := by
  cases h with
  | agg hs hr =>
    refine .agg hs fun i d hi => ?_
    match i, hi with
    | 0, hi => simp at hi; subst hi; exact pr_full (hr 0 _ rfl)
    | 1, hi => simp at hi; subst hi; exact pr_full (hr 1 _ rfl)
    | 2, hi => simp at hi; subst hi; exact pr_full (hr 2 _ rfl)

theorem pure_plat {f : FuncId} {p : Plat} {rest : List C} {r : C} (h : Pure Try.prog f (encPlat p :: rest) r) (a b c : Bool) : Pure Try.prog f (.agg [.sl p.pn a (p.ps.map cP), .sl p.rn b (p.rows.map cI), .sl p.cn c (p.cols.map cI)] :: rest) r := by
  refine ⟨h.toCallable, fun G w vs hpl => h.calls G w vs ⟨hpl.1, fun i d hi => ?_⟩⟩
  cases i with
  | zero => simp at hi; subst hi; exact pr_plat (hpl.2 0 _ rfl)
  | succ i => exact hpl.2 (i + 1) d (by simpa using hi)

-- chains

theorem listTo_stop {s n : Nat} (h : s < 2 ^ n) : ∀ d, listTo s (n + d) = listTo s n
  | 0 => rfl
  | d + 1 => by
    rw [← Nat.add_assoc]
    simp only [listTo]
    rw [Nat.testBit_lt_two_pow (Nat.lt_of_lt_of_le h (Nat.pow_le_pow_right (by omega) (by omega)))]
    simp [listTo_stop h d]

theorem listTo_asc (s : Nat) : ∀ n i, i < (listTo s n).length → 0 ≤ (listTo s n)[i]?.getD 0 ∧ (listTo s n)[i]?.getD 0 < n ∧ (0 < i → (listTo s n)[i-1]?.getD 0 < (listTo s n)[i]?.getD 0)
  | 0, i, h => by simp [listTo] at h
  | n + 1, i, h => by
    simp only [listTo] at h ⊢
    cases hb : Nat.testBit s n
    · simp only [hb, Bool.false_eq_true, if_false] at h ⊢
      have := listTo_asc s n i h
      omega
    · simp only [hb, if_true, List.length_append, List.length_cons, List.length_nil] at h ⊢
      by_cases e : i < (listTo s n).length
      · have := listTo_asc s n i e
        rw [List.getElem?_append_left e]
        refine ⟨this.1, by omega, fun h0 => ?_⟩
        rw [List.getElem?_append_left (by omega)]
        exact this.2.2 h0
      · have e2 : i = (listTo s n).length := by omega
        subst e2
        rw [List.getElem?_append_right (Nat.le_refl _)]
        simp only [Nat.sub_self, List.getElem?_cons_zero, Option.getD_some]
        refine ⟨by omega, by omega, fun h0 => ?_⟩
        rw [List.getElem?_append_left (by omega)]
        exact (listTo_asc s n _ (by omega)).2.1

theorem listP_of {s n : Nat} (hn : n ≤ 4) (h : s < 2 ^ n) : ListP (listTo s 4) n := by
  have e : listTo s 4 = listTo s n := by
    have := listTo_stop h (4 - n)
    rwa [show n + (4 - n) = 4 by omega] at this
  rw [e]
  exact fun i hi => listTo_asc s n i hi

theorem listTo_small {s n : Nat} (hn : n ≤ 4) (h : s < 2 ^ n) : (listTo s 4).length ≤ n := by
  have e : listTo s 4 = listTo s n := by
    have := listTo_stop h (4 - n)
    rwa [show n + (4 - n) = 4 by omega] at this
  rw [e]; exact listTo_len s n

theorem memB_list {s : Nat} (h : s < 16) : memB (listTo s 4) = hasB s := by
  funext z
  unfold memB hasB
  rw [Bool.eq_iff_iff]
  simp only [decide_eq_true_eq, Bool.and_eq_true]
  rw [listTo_mem s z 4]
  constructor
  · rintro ⟨h1, _, h3⟩; exact ⟨h1, h3⟩
  · rintro ⟨h1, h3⟩
    refine ⟨h1, ?_, h3⟩
    apply Classical.byContradiction
    intro hc
    rw [Nat.testBit_lt_two_pow (Nat.lt_of_lt_of_le (show s < 2 ^ 4 from h) (Nat.pow_le_pow_right (by omega) (by omega)))] at h3
    simp at h3

theorem setP_proves {p : Plat} (hp : PlatOk p) {r c : Nat} (hr : r < 2 ^ p.rows.length) (hc : c < 2 ^ p.cols.length) (h : SetP p r c) : ProvesP p (listTo r 4) (listTo c 4) := by
  have q1 : 2 ^ p.rows.length ≤ 2 ^ 4 := Nat.pow_le_pow_right (by omega) hp.r4
  have q2 : 2 ^ p.cols.length ≤ 2 ^ 4 := Nat.pow_le_pow_right (by omega) hp.c4
  refine ⟨listP_of hp.r4 hr, listP_of hp.c4 hc, fun hz => ?_, ?_⟩
  · have z1 : listTo r 4 = [] := List.eq_nil_of_length_eq_zero (by omega)
    have z2 : listTo c 4 = [] := List.eq_nil_of_length_eq_zero (by omega)
    have b1 : hasB r = fun _ => false := by
      rw [← memB_list (by omega)]
      funext z
      unfold memB; rw [z1]; simp
    have b2 : hasB c = fun _ => false := by
      rw [← memB_list (by omega)]
      funext z
      unfold memB; rw [z2]; simp
    unfold SetP SurplusP at h
    rw [z1, z2, b1, b2] at h
    have s1 : sumTo (lowF p (fun _ => false) fun _ => false) p.ps.length = 0 := by
      rw [sumTo_eq, Flow.sumN_congr (g := fun _ => 0) fun i _ => by simp [lowF], Flow.sumN_zero]
    have s2 : sumTo (highF p (fun _ => false) fun _ => false) p.ps.length = 0 := by
      rw [sumTo_eq, Flow.sumN_congr (g := fun _ => 0) fun i _ => by simp [highF], Flow.sumN_zero]
    rw [s1, s2] at h
    simp [sumTo] at h
  · rw [memB_list (by omega), memB_list (by omega)]; exact h

end Go.Proofs.Ytgcmjidphcafnaa

