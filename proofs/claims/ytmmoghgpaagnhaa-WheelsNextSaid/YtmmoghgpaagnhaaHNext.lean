/- For every input the law WheelsNext returns true, and each argument reads afterwards as it read before. No condition. -/
import Derived.Test.YtmmoghgpaagnhaaB5

set_option linter.unusedSimpArgs false
set_option linter.unusedVariables false
set_option linter.constructorNameAsVariable false

namespace Go.Proofs.Ytmmoghgpaagnhaa
open Go Go.Abs

set_option maxHeartbeats 4000000

theorem ready19 (w : Wh) (nl fu : Bool) (l : List Wl) : ∃ b, Pure Try.prog 19 [encWh w, sWl nl fu l] (.bool b) ∧ (b = true → checkI w l = 0 ∧ Near w l) := by
  obtain ⟨f, hF, hf⟩ := far12 w nl fu l
  cases f
  · obtain ⟨h40, hnear⟩ := hf rfl
    by_cases hz : checkI w l = 0
    · refine ⟨true, ?_, fun _ => ⟨hz, hnear hz⟩⟩
      refine pure_of (fn := Try.f19) [.tmp 4] ⟨Try.func19, rfl, by kernel_rfl⟩ (by kernel_rfl) (by kernel_rfl) (by kernel_rfl) fun x hx hσ => ?_
      repeat refine awp_seq ?_
      refine awp_reg1 (by rw [hx]; kernel_rfl) fun K hK => ?_
      simp (config := { maxSteps := 1000000 }) [ty25]
      refine hK _ ?_
      clear hK K
      first | show AWP _ _ _ _ _ | show ∃ _, _ | skip
      repeat refine awp_seq ?_
      refine awp_reg1 (by rw [hx]; kernel_rfl) fun K hK => ?_
      simp (config := { maxSteps := 1000000 }) [ty25]
      refine callP (hF) (by first | (simp; done) | (simp [*]; done)) ?_
      simp (config := { maxSteps := 1000000 }) [ty4, ty25]
      refine callP (ref31 w nl fu l (by omega)) (by first | (simp; done) | (simp [*]; done)) ?_
      simp (config := { maxSteps := 1000000 }) [ty31, hz, ty4]
      refine hK _ ?_
      clear hK K
      first | show AWP _ _ _ _ _ | show ∃ _, _ | skip
      repeat refine awp_seq ?_
      refine awp_ret ?_
      refine And.intro (Or.inr rfl) ?_
      simp [retC, resC, viewC, mapO]
    · refine ⟨false, ?_, by simp⟩
      have hz' : (checkI w l == 0) = false := by simp [hz]
      refine pure_of (fn := Try.f19) [.tmp 4] ⟨Try.func19, rfl, by kernel_rfl⟩ (by kernel_rfl) (by kernel_rfl) (by kernel_rfl) fun x hx hσ => ?_
      repeat refine awp_seq ?_
      refine awp_reg1 (by rw [hx]; kernel_rfl) fun K hK => ?_
      simp (config := { maxSteps := 1000000 }) [ty25]
      refine hK _ ?_
      clear hK K
      first | show AWP _ _ _ _ _ | show ∃ _, _ | skip
      repeat refine awp_seq ?_
      refine awp_reg1 (by rw [hx]; kernel_rfl) fun K hK => ?_
      simp (config := { maxSteps := 1000000 }) [ty25]
      refine callP (hF) (by first | (simp; done) | (simp [*]; done)) ?_
      simp (config := { maxSteps := 1000000 }) [ty4, ty25]
      refine callP (ref31 w nl fu l (by omega)) (by first | (simp; done) | (simp [*]; done)) ?_
      simp (config := { maxSteps := 1000000 }) [ty31, ty4]
      refine hK _ ?_
      clear hK K
      first | show AWP _ _ _ _ _ | show ∃ _, _ | skip
      repeat refine awp_seq ?_
      refine awp_ret ?_
      refine And.intro (Or.inr rfl) ?_
      simp [retC, resC, viewC, mapO, hz']
  · refine ⟨false, ?_, by simp⟩
    refine pure_of (fn := Try.f19) [.tmp 4] ⟨Try.func19, rfl, by kernel_rfl⟩ (by kernel_rfl) (by kernel_rfl) (by kernel_rfl) fun x hx hσ => ?_
    repeat refine awp_seq ?_
    refine awp_reg1 (by rw [hx]; kernel_rfl) fun K hK => ?_
    simp (config := { maxSteps := 1000000 }) [ty25]
    refine hK _ ?_
    clear hK K
    first | show AWP _ _ _ _ _ | show ∃ _, _ | skip
    repeat refine awp_seq ?_
    refine awp_reg1 (by rw [hx]; kernel_rfl) fun K hK => ?_
    simp (config := { maxSteps := 1000000 }) [ty25]
    refine callP (hF) (by first | (simp; done) | (simp [*]; done)) ?_
    simp (config := { maxSteps := 1000000 }) [ty4, ty25]
    refine hK _ ?_
    clear hK K
    first | show AWP _ _ _ _ _ | show ∃ _, _ | skip
    repeat refine awp_seq ?_
    refine awp_ret ?_
    refine And.intro (Or.inr rfl) ?_
    simp [retC, resC, viewC, mapO]

theorem law3 (w : Wh) (nl fu : Bool) (l : List Wl) (a b : Int) : Pure Try.prog 3 [encWh w, sWl nl fu l, .agg [encI a, encI b]] (.bool true) := by
  obtain ⟨f, hF, hf⟩ := far12 w nl fu l
  refine pure_of (fn := Try.f3) [.tmp 6] ⟨Try.func3, rfl, by kernel_rfl⟩ (by kernel_rfl) (by kernel_rfl) (by kernel_rfl) fun x hx hσ => ?_
  repeat refine awp_seq ?_
  refine awp_reg1 (by rw [hx]; kernel_rfl) fun K hK => ?_
  simp (config := { maxSteps := 1000000 }) [ty25, ty28]
  refine hK _ ?_
  clear hK K
  first | show AWP _ _ _ _ _ | show ∃ _, _ | skip
  repeat refine awp_seq ?_
  refine awp_reg1 (by rw [hx]; kernel_rfl) fun K hK => ?_
  simp (config := { maxSteps := 1000000 }) [ty25]
  refine callP (hF) (by first | (simp; done) | (simp [*]; done)) ?_
  simp (config := { maxSteps := 1000000 }) [ty4]
  refine hK _ ?_
  clear hK K
  first | show AWP _ _ _ _ _ | show ∃ _, _ | skip
  cases f
  · repeat refine awp_seq ?_
    refine awp_cond (by simp; rfl) (by rw [hx]; simp) (fun hd => ?_) (fun hd => ?_)
    · simp at hd
    · clear hd
      obtain ⟨h40, _⟩ := hf rfl
      refine awp_skip ?_
      first | show AWP _ _ _ _ _ | show ∃ _, _ | skip
      repeat refine awp_seq ?_
      refine awp_reg1 (by rw [hx]; kernel_rfl) fun K hK => ?_
      simp (config := { maxSteps := 1000000 }) [ty26, ty39]
      refine ⟨by omega, ?_⟩
      refine hK _ ?_
      clear hK K
      first | show AWP _ _ _ _ _ | show ∃ _, _ | skip
      refine AWP.weak ?_ (wk_frz 7 24 (c := sWl false false l) (o := ⟨l.isEmpty, true, 5, l.map cWl⟩) (by simp) (by simp [purel, C.isPure]) (by
        have := fz_own (k := 24) (sz := 5) (n := l.length) (b := false) (o := ⟨l.isEmpty, true, 5, l.map cWl⟩) rfl (by simp) (by simp)
        simpa using this))
      repeat refine awp_seq ?_
      refine awp_reg1 (by rw [hx]; kernel_rfl) fun K hK => ?_
      simp (config := { maxSteps := 1000000 }) [ty25, ty28, ty3]
      refine callP (worst14 w false false l a b (by omega)) (by first | (simp; done) | (simp [*]; done)) ?_
      simp (config := { maxSteps := 1000000 }) [ty3, ty31]
      refine hK _ ?_
      clear hK K
      first | show AWP _ _ _ _ _ | show ∃ _, _ | skip
      repeat refine awp_seq ?_
      refine awp_reg1 (by rw [hx]; kernel_rfl) fun K hK => ?_
      simp (config := { maxSteps := 1000000 }) [ty25, ty28, ty3]
      refine callP (ref15 w nl fu l a b (by omega)) (by first | (simp; done) | (simp [*]; done)) ?_
      simp (config := { maxSteps := 1000000 }) [ty3, ty31]
      refine hK _ ?_
      clear hK K
      first | show AWP _ _ _ _ _ | show ∃ _, _ | skip
      repeat refine awp_seq ?_
      refine awp_reg1 (by rw [hx]; kernel_rfl) fun K hK => ?_
      simp (config := { maxSteps := 1000000 }) [ty25]
      refine callP (next16 w false false l (by omega)) (by first | (simp; done) | (simp [*]; done)) ?_
      simp (config := { maxSteps := 1000000 }) [ty3, ty31]
      refine hK _ ?_
      clear hK K
      first | show AWP _ _ _ _ _ | show ∃ _, _ | skip
      repeat refine awp_seq ?_
      refine awp_reg1 (by rw [hx]; kernel_rfl) fun K hK => ?_
      simp (config := { maxSteps := 1000000 }) [ty25]
      refine callP (ref17 w nl fu l (by omega)) (by first | (simp; done) | (simp [*]; done)) ?_
      simp (config := { maxSteps := 1000000 }) [ty3, ty31]
      refine hK _ ?_
      clear hK K
      first | show AWP _ _ _ _ _ | show ∃ _, _ | skip
      repeat refine awp_seq ?_
      refine awp_reg1 (by rw [hx]; kernel_rfl) fun K hK => ?_
      simp (config := { maxSteps := 1000000 }) [ty3, ty31, ty4]
      refine callP (walks18 false false nl fu l (by omega)) (by first | (simp; done) | (simp [*]; done)) ?_
      simp (config := { maxSteps := 1000000 }) [ty4]
      refine callP (works13) (by first | (simp; done) | (simp [*]; done)) ?_
      simp (config := { maxSteps := 1000000 }) [ty4]
      refine hK _ ?_
      clear hK K
      first | show AWP _ _ _ _ _ | show ∃ _, _ | skip
      repeat refine awp_seq ?_
      refine awp_ret ?_
      refine And.intro (Or.inr rfl) ?_
      simp [retC, resC, viewC, mapO]
  · repeat refine awp_seq ?_
    refine awp_cond (by simp; rfl) (by rw [hx]; simp) (fun hd => ?_) (fun hd => ?_)
    · clear hd
      repeat refine awp_seq ?_
      refine awp_reg1 (by rw [hx]; kernel_rfl) fun K hK => ?_
      simp (config := { maxSteps := 1000000 }) []
      refine callP (works13) (by first | (simp; done) | (simp [*]; done)) ?_
      simp (config := { maxSteps := 1000000 }) []
      refine hK _ ?_
      clear hK K
      first | show AWP _ _ _ _ _ | show ∃ _, _ | skip
      repeat refine awp_seq ?_
      refine awp_ret ?_
      refine And.intro (Or.inr rfl) ?_
      simp [retC, resC, viewC, mapO]
    · simp at hd

end Go.Proofs.Ytmmoghgpaagnhaa

namespace Go.Proofs.Ytmmoghgpaagnhaa
open Go Go.Abs
open Go.ChangeShapes Go.WideShapes Go.ChangeAt Go.RowKit

set_option maxRecDepth 100000 in
theorem wheelsNext_lifted (os : Os) (started : os.Started) (H : Type) (enc : TypeId × Value → H) :
    ReturnsInHanded {} Try.checked os 3 .any (Rows.wheelsNextSpec.pre6 enc Try.prog Try.f3 Rows.wheelsNextRow.domain false) (Rows.wheelsNextSpec.post enc Try.prog Try.f3 false true false false) := by
  refine returnsInHanded_of_change (C := Try.checked) J.own started (by kernel_rfl) Try.func3
    (ChangeSpec.witness6 (enc := enc) (C := Try.checked) false ⟨#[], #[.agg #[.int .i64 0, .int .i64 0, .int .i64 0, .int .i64 0, .int .i64 0, .int .i64 0, .int .i64 0, .int .i64 0], .slice none 0 0, .agg #[.int .i64 0, .int .i64 0]], []⟩ 8 (by kernel_rfl) (by kernel_rfl) (by kernel_rfl) (by kernel_rfl)) ?_
  intro W base args ds gs before hval hW _ _
  refine law_contract (P := Try.prog) (tb := 4) (by kernel_rfl) J.ub rfl (fun ds hl => ?_) J.laid J.maps J.sized (by kernel_rfl) (by kernel_rfl) (fun cargs hc => ?_) W base args ds gs before hval hW
  · have h2 : ds.length = 3 := hl
    match ds, h2 with
    | [_, _, _], _ => rfl
  · rw [Try.params3] at hc
    obtain ⟨w, r, rfl, hc1⟩ := arg25 hc
    obtain ⟨nl, l, r', rfl, hc2⟩ := arg26 hc1
    obtain ⟨a, b, r'', rfl, hc3⟩ := arg28 hc2
    obtain rfl := arg_end hc3
    exact law3 w nl false l a b

theorem wheelsNext_holds : Rows.WheelsNextSaid :=
  OpenClaim.holds_of_wide 3 Try.f3 rfl rfl rfl rfl rfl rfl rfl ⟨rfl, rfl, rfl, rfl, rfl⟩ rfl rfl rfl rfl rfl (by kernel_rfl) Try.func3 (by kernel_rfl)
    (of_decide_eq_true (by kernel_rfl)) (by unfold Func.isWrapper; first | (rw [if_pos (by decide +kernel)]; kernel_rfl) | (rw [if_neg (by decide +kernel)]; exact ⟨rfl, rfl⟩))
    (fun os started H enc _ => wheelsNext_lifted os started H enc)
#print axioms wheelsNext_holds
end Go.Proofs.Ytmmoghgpaagnhaa

