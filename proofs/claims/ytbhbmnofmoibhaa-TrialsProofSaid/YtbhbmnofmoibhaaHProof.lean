/- For every input the law TrialsProof returns true, and each argument reads afterwards as it read before. No condition. -/
import Derived.Test.YtbhbmnofmoibhaaB4

set_option linter.unusedSimpArgs false
set_option linter.unusedVariables false
set_option linter.constructorNameAsVariable false

namespace Go.Proofs.Ytbhbmnofmoibhaa
open Go Go.Abs

set_option maxHeartbeats 2000000
set_option maxRecDepth 100000

theorem sh49 : shT Try.prog 6 49 = some [.sl (i64s 1)] := by kernel_rfl
theorem ag49 : isAggT Try.prog 49 = false := by kernel_rfl

theorem argInts {cs : List C} {ts : List TypeId} (h : ArgsFit Try.prog (49 :: ts) cs) : ∃ (nl : Bool) (l : List Int) (r : List C), cs = .sl nl false (l.map cI) :: r ∧ ArgsFit Try.prog ts r := by
  obtain ⟨c, r, rfl, h1, h2⟩ := arg_one sh49 ag49 h
  obtain ⟨nl, rows, _, m', e, h3, h4⟩ := fit_sl h1
  simp only [FitL] at h4
  subst h4
  cases e
  obtain ⟨l, rfl⟩ := rows_map (f := cI) (rows := rows) fun row hr => by
    obtain ⟨zs, e1, rfl⟩ := fit_flat (h3 row hr)
    match zs, e1 with
    | [a], _ => exact ⟨a, rfl⟩
  exact ⟨nl, l, r, rfl, h2⟩
end Go.Proofs.Ytbhbmnofmoibhaa

namespace Go.Proofs.Ytbhbmnofmoibhaa
open Go Go.Abs

set_option maxHeartbeats 8000000

theorem l_subset37 (a1 a2 b1 b2 : Bool) (A B : List Int) (hn : A.length ≤ 1000000) (hm : B.length ≤ 1000000) (hs : ∀ a ∈ A, a ∈ B) (hl : A.length ≤ B.length) : Pure Try.prog 20 [.sl a1 a2 (A.map cI), .sl b1 b2 (B.map cI)] (.bool true) := by
  refine pure_of (fn := Try.f20) [.tmp 4] ⟨Try.func20, rfl, by kernel_rfl⟩ (by kernel_rfl) (by kernel_rfl) (by kernel_rfl) fun x hx hσ => ?_
  (repeat refine awp_seq ?_); refine awp_reg1 (by rw [hx]; kernel_rfl) fun K hK => ?_; simp (maxSteps := 1000000) []; refine hK _ ?_; clear hK K; (first | show AWP _ _ _ _ _ | show ∃ _, _ | skip)
  (repeat refine awp_seq ?_); refine awp_reg1 (by rw [hx]; kernel_rfl) fun K hK => ?_; simp (maxSteps := 1000000) []; refine hK _ ?_; clear hK K; (first | show AWP _ _ _ _ _ | show ∃ _, _ | skip)
  (repeat refine awp_seq ?_); refine awp_block ?_
  refine awp_loop (fun i : Nat => ⟨ofL [(0, .sl a1 a2 (A.map cI)), (1, .sl b1 b2 (B.map cI)), (5, encI i)], stoT []⟩)
    (fun i => i ≤ A.length) (fun i => A.length - i) 0 (Nat.zero_le _) ?_ ?_
  · refine wk_shape (shp0 hσ (by simp) (by simp) ?_) ?_
    · simp [SlotOk] <;> (repeat' (first | exact .same (by simp [purel, C.isPure]) | exact .cons (by simp [mtl, mtc, mT, mH, C.isPure, purel]) (by simp) .nil | refine And.intro ?_ ?_))
    · simp [mtc, mtl, mT, C.isPure, purel] <;> (try simp (disch := omega) [wrap_id]) <;> (try omega)
  · rintro i hi
    (repeat refine awp_seq ?_); refine awp_reg1 (by rw [hx]; kernel_rfl) fun K hK => ?_; simp (maxSteps := 1000000) [ty49, ty3]; refine hK _ ?_; clear hK K; (first | show AWP _ _ _ _ _ | show ∃ _, _ | skip)
    (repeat refine awp_seq ?_); refine awp_cond (by simp; rfl) (by rw [hx]; simp) (fun hc => ?_) (fun hc => ?_)
    · simp at hc
      refine awp_skip ?_; (first | show AWP _ _ _ _ _ | show ∃ _, _ | skip)
      (repeat refine awp_seq ?_); refine awp_block ?_
      (repeat refine awp_seq ?_); refine awp_reg1 (by rw [hx]; kernel_rfl) fun K hK => ?_; simp (maxSteps := 1000000) [ty49, ty3, hc]
      have h41 := in41 b1 b2 B A[i] hm
      rw [decide_eq_true (hs _ (List.getElem_mem hc))] at h41
      refine callP (h41) (by first | (simp; done) | (simp [*]; done)) ?_; simp (maxSteps := 1000000) [ty4]
      refine hK _ ?_; clear hK K; (first | show AWP _ _ _ _ _ | show ∃ _, _ | skip)
      (repeat refine awp_seq ?_); refine awp_cond (by simp; rfl) (by rw [hx]; simp) (fun hd => ?_) (fun hd => ?_)
      · simp at hd
      · clear hd
        refine awp_skip ?_; (first | show AWP _ _ _ _ _ | show ∃ _, _ | skip)
        (repeat refine awp_seq ?_); refine awp_reg1 (by rw [hx]; kernel_rfl) fun K hK => ?_; simp (maxSteps := 1000000) [ty3]; refine hK _ ?_; clear hK K; (first | show AWP _ _ _ _ _ | show ∃ _, _ | skip)
        rw [wrap_id (by omega) (by omega)]
        refine ⟨i + 1, by omega, by omega, ?_⟩
        refine wk_shape (shp0 hσ (by simp) (by simp) ?_) ?_
        · simp [SlotOk] <;> (repeat' (first | exact .same (by simp [purel, C.isPure]) | exact .cons (by simp [mtl, mtc, mT, mH, C.isPure, purel]) (by simp) .nil | refine And.intro ?_ ?_))
        · simp [mtc, mtl, mT, C.isPure, purel] <;> (try simp (disch := omega) [wrap_id]) <;> (try omega)
    · simp at hc
      (repeat refine awp_seq ?_); refine awp_exit ?_; (first | show AWP _ _ _ _ _ | show ∃ _, _ | skip)
      (repeat refine awp_seq ?_); refine awp_reg1 (by rw [hx]; kernel_rfl) fun K hK => ?_; simp (maxSteps := 1000000) [ty49, ty3, hl]; refine hK _ ?_; clear hK K; (first | show AWP _ _ _ _ _ | show ∃ _, _ | skip)
      (repeat refine awp_seq ?_); refine awp_ret ?_; refine And.intro (Or.inr rfl) ?_
      simp [retC, resC, viewC, mapO, hl]

-- the copy is answered the same

end Go.Proofs.Ytbhbmnofmoibhaa

namespace Go.Proofs.Ytbhbmnofmoibhaa
open Go Go.Abs

set_option maxHeartbeats 8000000

theorem ends_mem {f : Tr → Int} {t : Ti} {is : Bool} (h : openT t is = 0) {k : Tr} (hk : k ∈ truthsS t (allS t)) : (endsT f t is).1 ≤ f k ∧ f k ≤ (endsT f t is).2 := by
  have h0 : 0 < (truthsS t (allS t)).length := List.length_pos_of_mem hk
  rw [ends_mnmx h h0]
  exact ⟨(mnT_spec f _ _).2.1 k hk, (mxT_spec f _ _).2.1 k hk⟩

end Go.Proofs.Ytbhbmnofmoibhaa

namespace Go.Proofs.Ytbhbmnofmoibhaa
open Go Go.Abs

set_option maxHeartbeats 8000000

theorem sub_len {α : Type} : ∀ (A B : List α), A.Nodup → (∀ a ∈ A, a ∈ B) → A.length ≤ B.length
  | [], _, _, _ => Nat.zero_le _
  | a :: A, B, hn, hs => by
    have h1 := List.nodup_cons.1 hn
    obtain ⟨P, Q, rfl⟩ := List.append_of_mem (hs a (by simp))
    have ih := sub_len A (P ++ Q) h1.2 fun b hb => by
      have hne : b ≠ a := fun e => h1.1 (e ▸ hb)
      have := hs b (by simp [hb])
      simp [hne] at this
      simp [this]
    simp only [List.length_append, List.length_cons] at ih ⊢
    omega

/-- All truths of a trial. -/
abbrev trL (t : Ti) : List Tr := truthsS t (allS t)

theorem openT_true {t : Ti} (h : checkT t = 0) : openT t true = if trL t = [] then 3 else 0 := by
  unfold openT
  rw [if_neg (by simpa using h), if_neg (by decide)]

theorem ends_some {f : Tr → Int} {t : Ti} {is : Bool} (h : openT t is = 0) : (∃ k ∈ trL t, f k = (endsT f t is).1) ∧ ∃ k ∈ trL t, f k = (endsT f t is).2 := by
  have hne := (numsT_ok (f := f) h).2.2
  unfold endsT
  cases hl : numsT f t is with
  | nil => exact absurd hl hne
  | cons a l =>
    have h1 : a ∈ numsT f t is := by rw [hl]; simp
    have h2 : (a :: l).getLastD 0 ∈ numsT f t is := by
      rw [hl, List.getLastD_eq_getLast?, List.getLast?_eq_some_getLast (by simp), Option.getD_some]
      exact List.getLast_mem _
    exact ⟨(numsT_mem h1).2, (numsT_mem h2).2⟩

end Go.Proofs.Ytbhbmnofmoibhaa

namespace Go.Proofs.Ytbhbmnofmoibhaa
open Go Go.Abs

set_option maxHeartbeats 8000000

theorem l_some19 (t : Ti) (nl fu : Bool) (l : List Int) (hl : InT t l) (hn : l.length ≤ 1000) (ht : t.ts.length ≤ 1000) : Pure Try.prog 19 [encTi t, .sl nl fu (l.map cI)] (encTi (someT t l)) := by
  obtain ⟨U, hU⟩ : ∃ U : Nat → List Ts, ∀ i, U i = pickT t (l.take i) := ⟨_, fun _ => rfl⟩
  have hU0 : U 0 = [] := by rw [hU]; rfl
  have hUl : ∀ i, i ≤ l.length → (U i).length = i := fun i hi => by rw [hU, pickT_len (hl.take i)]; simp; omega
  have hUs : ∀ i (hi : i < l.length) (hz : (l[i]).toNat < t.ts.length), U (i + 1) = U i ++ [t.ts[(l[i]).toNat]] := fun i hi hz => by rw [hU, hU]; exact pickT_step hl hi hz
  have hUn : pickT t l = U l.length := by rw [hU, List.take_length]
  unfold someT
  rw [hUn]
  clear hUn hU
  refine pure_of (fn := Try.f19) [.cell 4 28] ⟨Try.func19, rfl, by kernel_rfl⟩ (by kernel_rfl) (by kernel_rfl) (by kernel_rfl) fun x hx hσ => ?_
  (repeat refine awp_seq ?_); refine awp_reg1 (by rw [hx]; kernel_rfl) fun K hK => ?_; simp (maxSteps := 1000000) [ty28]; refine hK _ ?_; clear hK K; (first | show AWP _ _ _ _ _ | show ∃ _, _ | skip)
  (repeat refine awp_seq ?_); refine awp_reg1 (by rw [hx]; kernel_rfl) fun K hK => ?_; simp (maxSteps := 1000000) [ty28]; refine hK _ ?_; clear hK K; (first | show AWP _ _ _ _ _ | show ∃ _, _ | skip)
  (repeat refine awp_seq ?_); refine awp_reg1 (by rw [hx]; kernel_rfl) fun K hK => ?_; simp (maxSteps := 1000000) [ty28, ty26]; refine hK _ ?_; clear hK K; (first | show AWP _ _ _ _ _ | show ∃ _, _ | skip)
  (repeat refine awp_seq ?_); refine awp_reg1 (by rw [hx]; kernel_rfl) fun K hK => ?_; simp (maxSteps := 1000000) []; refine hK _ ?_; clear hK K; (first | show AWP _ _ _ _ _ | show ∃ _, _ | skip)
  (repeat refine awp_seq ?_); refine awp_block ?_
  refine AWP.weak ?_ (wk_nilCell 5 0 9 1000 2 (o := ⟨false, false, 10, [cTo t (.sl true true [])]⟩) (row := cTo t (.sl true true [])) (fu := true) (by simp) rfl rfl rfl (by simp) (by decide))
  refine awp_loop (fun i : Nat => ⟨ofL [(1, .sl nl fu (l.map cI)), (2, .ptr 2 10 0 0), (4, .ptr 4 10 0 0), (5, .ptr 5 10 0 0), (6, encI i)],
      stoT [(2, 2, .live (obTi t)), (4, 4, .live ⟨false, false, 10, [[encI 0, encI 0, encI 0, encI 0, encI 0, encI 0, encI 0, encI 0, encI 0, .sl true true []]]⟩), (5, 5, .live ⟨false, false, 10, [cTo t (.own 1000 2 0 i)]⟩), (1000, 1000, .live ⟨(U i).isEmpty, false, 2, (U i).map cTs⟩)]⟩)
    (fun i => i ≤ l.length) (fun i => l.length - i) 0 (by simp) ?_ ?_
  · refine wk_shape (shp0 hσ (by simp) (by simp) ?_) ?_
    · simp [SlotOk, hU0] <;> (repeat' (first | (refine RowsOk.same ?_; simp [purel, C.isPure]; done) | (refine rowsCons ?_; simp [mtl, mtc, mT, mH, C.isPure, purel]; done) | (refine rowsCons ?_; simp [mtl, mtc, mT, mH, C.isPure, purel]) | refine And.intro ?_ ?_))
    · simp [mtc, mtl, mT, C.isPure, purel, hU0] <;> (try simp (disch := omega) [wrap_id]) <;> (try omega)
  · intro i hi
    have hUi := hUl i hi
    (repeat refine awp_seq ?_); refine awp_reg1 (by rw [hx]; kernel_rfl) fun K hK => ?_; simp (maxSteps := 1000000) [ty49, ty3]; refine hK _ ?_; clear hK K; (first | show AWP _ _ _ _ _ | show ∃ _, _ | skip)
    (repeat refine awp_seq ?_); refine awp_cond (by simp; rfl) (by rw [hx]; simp) (fun hc => ?_) (fun hc => ?_)
    · simp at hc
      refine awp_skip ?_; (first | show AWP _ _ _ _ _ | show ∃ _, _ | skip)
      (repeat refine awp_seq ?_); refine awp_block ?_
      have hz := hl _ (List.getElem_mem hc)
      have hz1 : (l[i]).toNat < t.ts.length := by omega
      have hst := hUs i hc hz1
      generalize hV : U i = V at *
      have hwi : IntKind.i64.wrap ((i : Int) + 1) = ((i + 1 : Nat) : Int) := by rw [wrap_id (by omega) (by omega)]; rfl
      (repeat refine awp_seq ?_); refine awp_drw3 [] [0, 1, 2, 3, 4, 5, 6, 7, 8, 9, 10, 11, 12, 13, 14] (by rw [hx]; kernel_rfl) (by kernel_rfl) (by kernel_rfl) (by kernel_rfl) fun K hK => ?_; simp (maxSteps := 1000000) [ty28, ty26, ty49, ty3, hc, hz.1, hz.2]; refine hK _ ?_; clear hK K; (first | show AWP _ _ _ _ _ | show ∃ _, _ | skip)
      (repeat refine awp_seq ?_); refine awp_cond (by simp [hz.1, hz.2]; rfl) (by rw [hx]; simp) (fun hd => ?_) (fun hd => ?_)
      · clear hd
        (repeat refine awp_seq ?_); refine awp_drw3 [1001, 1003, 1007, 1009, 5011, 11000] [0, 1, 2, 3, 4, 5, 6, 7, 8, 9, 10, 11, 12, 13] (by rw [hx]; kernel_rfl) (by kernel_rfl) (by kernel_rfl) (by kernel_rfl) fun K hK => ?_; simp (maxSteps := 1000000) [ty28, ty26, ty49, ty3, ty46, hc, hz.1, hz1, hUi]
        refine ⟨by omega, ?_⟩
        refine hK _ ?_; clear hK K; (first | show AWP _ _ _ _ _ | show ∃ _, _ | skip)
        (repeat refine awp_seq ?_); refine awp_reg1 (by rw [hx]; kernel_rfl) fun K hK => ?_; simp (maxSteps := 1000000) [ty3]; refine hK _ ?_; clear hK K; (first | show AWP _ _ _ _ _ | show ∃ _, _ | skip)
        refine ⟨i + 1, by omega, by omega, ?_⟩
        rw [hst, hwi]
        refine wk_shape2 [(2, 2, .live (obTi t)), (4, 4, .live ⟨false, false, 10, [[encI 0, encI 0, encI 0, encI 0, encI 0, encI 0, encI 0, encI 0, encI 0, .sl true true []]]⟩), (5, 5, .live ⟨false, false, 10, [cTo t (.own 1000 2 0 (i + 1))]⟩), (1000, 41, .live ⟨(V ++ [t.ts[(l[i]).toNat]]).isEmpty, false, 2, (V ++ [t.ts[(l[i]).toNat]]).map cTs⟩)] (by first | rfl | (simp only [if_pos, if_true]; rfl)) (shp0 hσ (by simp) (by simp) ?_) ?_
        · simp [SlotOk] <;> (repeat' (first | (refine RowsOk.same ?_; simp [purel, C.isPure]; done) | (refine rowsCons ?_; simp [mtl, mtc, mT, mH, C.isPure, purel]; done) | (refine rowsCons ?_; simp [mtl, mtc, mT, mH, C.isPure, purel]) | refine And.intro ?_ ?_))
        · simp [mtc, mtl, mT, C.isPure, purel] <;> (try simp (disch := omega) [wrap_id]) <;> (try omega)
      · simp [hz.1, hz.2] at hd
    · simp at hc
      (repeat refine awp_seq ?_); refine awp_exit ?_; (first | show AWP _ _ _ _ _ | show ∃ _, _ | skip)
      have hin : i = l.length := by omega
      rw [hin] at hUi ⊢
      have hem : (U l.length).isEmpty = l.isEmpty := by
        cases h1 : U l.length <;> cases h2 : l <;> rw [h1, h2] at hUi <;> simp at hUi <;> rfl
      generalize U l.length = V at *
      rw [hem]
      refine AWP.weak ?_ (wk_frzCell 1000 5 0 9 (o := ⟨l.isEmpty, false, 2, V.map cTs⟩) (oq := ⟨false, false, 10, [cTo t (.own 1000 2 0 l.length)]⟩) (row := cTo t (.own 1000 2 0 l.length)) (c := .own 1000 2 0 l.length) (c' := sTs l.isEmpty false V) (by simp) (by simp [purel, C.isPure]) (by simp) (by decide) rfl rfl rfl (fz_own rfl (by simp [hUi]) (by simp)) rfl)
      (repeat refine awp_seq ?_); refine awp_reg1 (by rw [hx]; kernel_rfl) fun K hK => ?_; simp (maxSteps := 1000000) [ty28]; refine hK _ ?_; clear hK K; (first | show AWP _ _ _ _ _ | show ∃ _, _ | skip)
      (repeat refine awp_seq ?_); refine awp_ret ?_; refine And.intro (Or.inr rfl) ?_
      simp [retC, resC, viewC, mapO, ty28]

end Go.Proofs.Ytbhbmnofmoibhaa

namespace Go.Proofs.Ytbhbmnofmoibhaa
open Go Go.Abs

set_option maxHeartbeats 8000000

theorem decSets_cd {t : Ti} {c : Cl} {s : Nat} (h : s ∈ decSets t c) : s < 2 ^ t.ts.length ∧ cdB t c s = true := by
  refine ⟨decL_lt h, ?_⟩
  unfold decSets at h
  rcases decL_spec (cdB t c) (2 ^ t.ts.length) with ⟨h1, h2⟩ | ⟨m, h1, h2, h3⟩
  · rw [h1] at h; simp at h
  · rw [h2, List.mem_filter] at h
    have := h.2
    simp only [Bool.and_eq_true, beq_iff_eq] at this
    exact this.2

theorem neededT_len (t : Ti) (c : Cl) : (neededT t c).length ≤ t.ts.length := by
  unfold neededT
  split
  · exact fixTo_len _ _
  · simp

end Go.Proofs.Ytbhbmnofmoibhaa

namespace Go.Proofs.Ytbhbmnofmoibhaa
open Go Go.Abs

set_option maxHeartbeats 8000000

theorem certL_sub {L M : List Tr} {c : Cl} (hne : M ≠ []) (hs : ∀ k ∈ M, k ∈ L) : certL L c = 3 ∨ certL M c = certL L c := by
  unfold certL
  split
  · rename_i h
    rw [List.countP_eq_zero] at h
    right
    rw [if_pos (List.countP_eq_zero.2 fun k hk => h k (hs k hk))]
  · split
    · rename_i h
      rw [List.countP_eq_zero] at h
      right
      have h2 := List.countP_eq_zero.2 fun k hk => h k (hs k hk)
      rw [if_neg ?_, if_pos h2]
      intro h3
      rw [List.countP_eq_zero] at h3
      obtain ⟨k, hk⟩ := List.exists_mem_of_ne_nil _ hne
      have a1 := h k (hs k hk)
      have a2 := h3 k hk
      simp at a1 a2
      rw [a1] at a2
      cases a2
    · exact .inl rfl

theorem set_sup (t : Ti) (s : Nat) : ∀ k ∈ trL t, k ∈ truthsS t s := by
  intro k hk
  have h := List.mem_filter.1 hk
  refine List.mem_filter.2 ⟨h.1, okS_iff.2 fun i hi _ => ?_⟩
  exact okS_iff.1 h.2 i hi (testBit_all hi)

theorem certT_eq {t : Ti} {c : Cl} (hc : classB c = true) (h : openT t true = 0) : certT t c = certL (trL t) c := if_pos (by rw [hc]; exact h)

theorem cdB_iff {t : Ti} {c : Cl} {s : Nat} : cdB t c s = true ↔ certL (truthsS t s) c ≠ 3 := by unfold cdB; simp

theorem cd_all {t : Ti} {c : Cl} (hc : classB c = true) (h : openT t true = 0) {s : Nat} (hs : cdB t c s = true) : certT t c = certL (truthsS t s) c := by
  rw [certT_eq hc h]
  exact (certL_sub (openT_ok h).2.2 (set_sup t s)).resolve_left (cdB_iff.1 hs)

theorem decSets_of {t : Ti} {c : Cl} {s : Nat} (h : s ∈ decSets t c) : s < 2 ^ t.ts.length ∧ cdB t c s = true := decSets_cd h

theorem dec_iff {t : Ti} {c : Cl} (hc : classB c = true) (h : openT t true = 0) : decSets t c ≠ [] ↔ certT t c ≠ 3 := by
  constructor
  · intro hd
    obtain ⟨a, r, har⟩ := decSets_cons hd
    have ham : a ∈ decSets t c := by rw [har]; simp
    have h1 := (decSets_of ham).2
    rw [cd_all hc h h1]
    exact cdB_iff.1 h1
  · intro hd he
    have h1 : cdB t c (allS t) = true := cdB_iff.2 (by rw [← certT_eq hc h]; exact hd)
    rcases decL_spec (cdB t c) (2 ^ t.ts.length) with ⟨_, h3⟩ | ⟨m, h2, _⟩
    · have := h3 (allS t) (by have := allS_succ t; omega)
      rw [h1] at this; cases this
    · exact h2 he

theorem few_le {t : Ti} {c : Cl} {s a : Nat} {r : List Nat} (h : decSets t c = a :: r) (hs : s < 2 ^ t.ts.length) (hc : cdB t c s = true) : popc a ≤ popc s := by
  rcases decL_spec (cdB t c) (2 ^ t.ts.length) with ⟨h2, _⟩ | ⟨m, h1, h2, h3⟩
  · have h2' : decSets t c = [] := h2
    rw [h] at h2'; cases h2'
  · have ha : a ∈ decSets t c := by rw [h]; simp
    have e : decSets t c = _ := h2
    rw [e, List.mem_filter] at ha
    have := ha.2
    simp only [Bool.and_eq_true, beq_iff_eq] at this
    have h4 := h3 s hs hc
    omega

theorem inAll_sub {t : Ti} {a : Nat} {r : List Nat} : ∀ i, (inAll (a :: r) (allS t)).testBit i = true → a.testBit i = true := by
  intro i h
  rw [inAll_bit] at h
  simp at h
  exact h.2.1

theorem need_sub {t : Ti} {c : Cl} (h : decE t c = 0) : (∀ z ∈ neededT t c, z ∈ decideT t c) ∧ (neededT t c).length ≤ (decideT t c).length := by
  obtain ⟨_, _, h0⟩ := decE_ok h
  obtain ⟨a, r, har⟩ := decSets_cons h0
  have e1 : neededT t c = listS t (inAll (a :: r) (allS t)) := by unfold neededT; rw [if_pos h, har]
  have e2 : decideT t c = listS t a := by unfold decideT; rw [if_pos h, har]; rfl
  have hs : ∀ z ∈ neededT t c, z ∈ decideT t c := by
    intro z hz
    rw [e1, listS_mem] at hz
    rw [e2, listS_mem]
    obtain ⟨i, h1, h2, h3⟩ := hz
    exact ⟨i, h1, inAll_sub i h2, h3⟩
  refine ⟨hs, sub_len _ _ ?_ hs⟩
  rw [e1]
  exact (fixTo_lt _ _).imp fun h => Int.ne_of_lt h

/-- What a trial with some of its tests answers. -/
theorem some_cert {t : Ti} {c : Cl} {s : Nat} (hc : classB c = true) (hok : TiOk t) (h : openT t true = 0) :
    openT (someT t (listS t s)) (classB c) = 0 ∧ certT (someT t (listS t s)) c = certL (truthsS t s) c := by
  have hp := pickT_len (listS_in t s)
  have h6 : (listS t s).length ≤ t.ts.length := fixTo_len _ _
  have hl6 := hok.len
  have hso := someT_ok (l := listS t s) hok (by omega)
  have hz := checkT_ok.2 hso
  have hne : trL (someT t (listS t s)) ≠ [] := by
    show truthsS (someT t (listS t s)) (allS (someT t (listS t s))) ≠ []
    rw [some_set]
    obtain ⟨k, hk⟩ := List.exists_mem_of_ne_nil _ (openT_ok h).2.2
    exact List.ne_nil_of_mem (set_sup t s k hk)
  have ho : openT (someT t (listS t s)) true = 0 := by rw [openT_true hz, if_neg hne]
  refine ⟨by rw [hc]; exact ho, ?_⟩
  rw [certT_eq hc ho]
  show certL (truthsS (someT t (listS t s)) (allS (someT t (listS t s)))) c = _
  rw [some_set]

end Go.Proofs.Ytbhbmnofmoibhaa

namespace Go.Proofs.Ytbhbmnofmoibhaa
open Go Go.Abs

set_option maxHeartbeats 8000000





theorem law5c (t : Ti) (nl fu : Bool) (l : List Int) (c : Cl) : Pure Try.prog 5 [encTi t, .sl nl fu (l.map cI), encCl c] (.bool true) := by
  obtain ⟨f, hF, hf⟩ := ready19 t
  cases f
  · refine pure_of (fn := Try.f5) [.tmp 6] ⟨Try.func5, rfl, by kernel_rfl⟩ (by kernel_rfl) (by kernel_rfl) (by kernel_rfl) fun x hx hσ => ?_
    (repeat refine awp_seq ?_); refine awp_reg1 (by rw [hx]; kernel_rfl) fun K hK => ?_; simp (maxSteps := 1000000) [ty28, ty30]; refine hK _ ?_; clear hK K; (first | show AWP _ _ _ _ _ | show ∃ _, _ | skip)
    (repeat refine awp_seq ?_); refine awp_reg1 (by rw [hx]; kernel_rfl) fun K hK => ?_; simp (maxSteps := 1000000) [ty28]
    refine callP (hF) (by first | (simp; done) | (simp [*]; done)) ?_; simp (maxSteps := 1000000) [ty4]
    refine hK _ ?_; clear hK K; (first | show AWP _ _ _ _ _ | show ∃ _, _ | skip)
    (repeat refine awp_seq ?_); refine awp_cond (by simp; rfl) (by rw [hx]; simp) (fun hd => ?_) (fun hd => ?_)
    · clear hd
      (repeat refine awp_seq ?_); refine awp_reg1 (by rw [hx]; kernel_rfl) fun K hK => ?_; simp (maxSteps := 1000000) []
      refine callP (works9) (by first | (simp; done) | (simp [*]; done)) ?_; simp (maxSteps := 1000000) []
      refine hK _ ?_; clear hK K; (first | show AWP _ _ _ _ _ | show ∃ _, _ | skip)
      (repeat refine awp_seq ?_); refine awp_ret ?_; refine And.intro (Or.inr rfl) ?_
      simp [retC, resC, viewC, mapO]
    · simp at hd
  obtain ⟨hz, hnear⟩ := hf rfl
  have hn := hnear.len
  have hok := checkT_ok.1 hz
  have h6 := hok.len
  by_cases h20 : (20 : Int) < (l.length : Int)
  · refine pure_of (fn := Try.f5) [.tmp 6] ⟨Try.func5, rfl, by kernel_rfl⟩ (by kernel_rfl) (by kernel_rfl) (by kernel_rfl) fun x hx hσ => ?_
    (repeat refine awp_seq ?_); refine awp_reg1 (by rw [hx]; kernel_rfl) fun K hK => ?_; simp (maxSteps := 1000000) [ty28, ty30]; refine hK _ ?_; clear hK K; (first | show AWP _ _ _ _ _ | show ∃ _, _ | skip)
    (repeat refine awp_seq ?_); refine awp_reg1 (by rw [hx]; kernel_rfl) fun K hK => ?_; simp (maxSteps := 1000000) [ty28]
    refine callP (hF) (by first | (simp; done) | (simp [*]; done)) ?_; simp (maxSteps := 1000000) [ty4, ty28, ty49, ty3, h20]
    refine hK _ ?_; clear hK K; (first | show AWP _ _ _ _ _ | show ∃ _, _ | skip)
    (repeat refine awp_seq ?_); refine awp_cond (by simp [h20]; rfl) (by rw [hx]; simp) (fun hd => ?_) (fun hd => ?_)
    · clear hd
      (repeat refine awp_seq ?_); refine awp_reg1 (by rw [hx]; kernel_rfl) fun K hK => ?_; simp (maxSteps := 1000000) []
      refine callP (works9) (by first | (simp; done) | (simp [*]; done)) ?_; simp (maxSteps := 1000000) []
      refine hK _ ?_; clear hK K; (first | show AWP _ _ _ _ _ | show ∃ _, _ | skip)
      (repeat refine awp_seq ?_); refine awp_ret ?_; refine And.intro (Or.inr rfl) ?_
      simp [retC, resC, viewC, mapO]
    · simp [h20] at hd
  have c43 := q_isList43 t nl fu l (by omega) (by omega)
  by_cases hlo : ListOk t.ts.length l
  rotate_left
  · rw [decide_eq_false hlo] at c43
    refine pure_of (fn := Try.f5) [.tmp 6] ⟨Try.func5, rfl, by kernel_rfl⟩ (by kernel_rfl) (by kernel_rfl) (by kernel_rfl) fun x hx hσ => ?_
    (repeat refine awp_seq ?_); refine awp_reg1 (by rw [hx]; kernel_rfl) fun K hK => ?_; simp (maxSteps := 1000000) [ty28, ty30]; refine hK _ ?_; clear hK K; (first | show AWP _ _ _ _ _ | show ∃ _, _ | skip)
    (repeat refine awp_seq ?_); refine awp_reg1 (by rw [hx]; kernel_rfl) fun K hK => ?_; simp (maxSteps := 1000000) [ty28]
    refine callP (hF) (by first | (simp; done) | (simp [*]; done)) ?_; simp (maxSteps := 1000000) [ty4, ty28, ty49, ty3, h20]
    refine callP (c43) (by first | (simp; done) | (simp [*]; done)) ?_; simp (maxSteps := 1000000) [ty4]
    refine hK _ ?_; clear hK K; (first | show AWP _ _ _ _ _ | show ∃ _, _ | skip)
    (repeat refine awp_seq ?_); refine awp_cond (by simp; rfl) (by rw [hx]; simp) (fun hd => ?_) (fun hd => ?_)
    · clear hd
      (repeat refine awp_seq ?_); refine awp_reg1 (by rw [hx]; kernel_rfl) fun K hK => ?_; simp (maxSteps := 1000000) []
      refine callP (works9) (by first | (simp; done) | (simp [*]; done)) ?_; simp (maxSteps := 1000000) []
      refine hK _ ?_; clear hK K; (first | show AWP _ _ _ _ _ | show ∃ _, _ | skip)
      (repeat refine awp_seq ?_); refine awp_ret ?_; refine And.intro (Or.inr rfl) ?_
      simp [retC, resC, viewC, mapO]
    · simp at hd
  rw [decide_eq_true hlo] at c43
  cases hc : classB c
  · refine pure_of (fn := Try.f5) [.tmp 6] ⟨Try.func5, rfl, by kernel_rfl⟩ (by kernel_rfl) (by kernel_rfl) (by kernel_rfl) fun x hx hσ => ?_
    (repeat refine awp_seq ?_); refine awp_reg1 (by rw [hx]; kernel_rfl) fun K hK => ?_; simp (maxSteps := 1000000) [ty28, ty30]; refine hK _ ?_; clear hK K; (first | show AWP _ _ _ _ _ | show ∃ _, _ | skip)
    (repeat refine awp_seq ?_); refine awp_reg1 (by rw [hx]; kernel_rfl) fun K hK => ?_; simp (maxSteps := 1000000) [ty28]
    refine callP (hF) (by first | (simp; done) | (simp [*]; done)) ?_; simp (maxSteps := 1000000) [ty4, ty28, ty49, ty3, h20]
    refine callP (c43) (by first | (simp; done) | (simp [*]; done)) ?_; simp (maxSteps := 1000000) [ty4, ty30]
    refine callP (q_isClass20 c) (by first | (simp; done) | (simp [*]; done)) ?_; simp (maxSteps := 1000000) [ty4, hc]
    refine hK _ ?_; clear hK K; (first | show AWP _ _ _ _ _ | show ∃ _, _ | skip)
    (repeat refine awp_seq ?_); refine awp_cond (by simp [hc]; rfl) (by rw [hx]; simp) (fun hd => ?_) (fun hd => ?_)
    · clear hd
      (repeat refine awp_seq ?_); refine awp_reg1 (by rw [hx]; kernel_rfl) fun K hK => ?_; simp (maxSteps := 1000000) []
      refine callP (works9) (by first | (simp; done) | (simp [*]; done)) ?_; simp (maxSteps := 1000000) []
      refine hK _ ?_; clear hK K; (first | show AWP _ _ _ _ _ | show ∃ _, _ | skip)
      (repeat refine awp_seq ?_); refine awp_ret ?_; refine And.intro (Or.inr rfl) ?_
      simp [retC, resC, viewC, mapO]
    · simp [hc] at hd
  obtain ⟨s, hs, rfl⟩ := set_of_list hlo
  have c16 := fewest38 t c hn
  have c17 := decide42 t c hn
  have c18 := needed40 t c hn
  have c11 := certify11 t c hn
  rw [hc] at c11
  have hdl : (decideT t c).length ≤ t.ts.length := by
    unfold decideT
    split
    · exact fixTo_len _ _
    · simp
  have k1 : ¬ (20 : Int) < ((decideT t c).length : Int) := by omega
  have hnl := neededT_len t c
  have k2 : ¬ (20 : Int) < ((neededT t c).length : Int) := by omega
  have hE := openT_true hz
  by_cases hL : trL t = []
  · rw [if_pos hL] at hE
    have hD : decE t c = 3 := by unfold decE; rw [hc, hE]; rfl
    rw [hD] at c16 c17 c18
    rw [hE] at c11
    refine pure_of (fn := Try.f5) [.tmp 6] ⟨Try.func5, rfl, by kernel_rfl⟩ (by kernel_rfl) (by kernel_rfl) (by kernel_rfl) fun x hx hσ => ?_
    (repeat refine awp_seq ?_); refine awp_reg1 (by rw [hx]; kernel_rfl) fun K hK => ?_; simp (maxSteps := 1000000) [ty28, ty30]; refine hK _ ?_; clear hK K; (first | show AWP _ _ _ _ _ | show ∃ _, _ | skip)
    (repeat refine awp_seq ?_); refine awp_reg1 (by rw [hx]; kernel_rfl) fun K hK => ?_; simp (maxSteps := 1000000) [ty28]
    refine callP (hF) (by first | (simp; done) | (simp [*]; done)) ?_; simp (maxSteps := 1000000) [ty4, ty28, ty49, ty3, h20]
    refine callP (c43) (by first | (simp; done) | (simp [*]; done)) ?_; simp (maxSteps := 1000000) [ty4, ty30]
    refine callP (q_isClass20 c) (by first | (simp; done) | (simp [*]; done)) ?_; simp (maxSteps := 1000000) [ty4, hc]
    refine hK _ ?_; clear hK K; (first | show AWP _ _ _ _ _ | show ∃ _, _ | skip)
    (repeat refine awp_seq ?_); refine awp_cond (by simp [hc]; rfl) (by rw [hx]; simp) (fun hd => ?_) (fun hd => ?_)
    · simp [hc] at hd
    clear hd
    refine awp_skip ?_; (first | show AWP _ _ _ _ _ | show ∃ _, _ | skip)
    (repeat refine awp_seq ?_); refine awp_reg1 (by rw [hx]; kernel_rfl) fun K hK => ?_; simp (maxSteps := 1000000) [ty28, ty30]
    refine callP (c16) (by first | (simp; done) | (simp [*]; done)) ?_; simp (maxSteps := 1000000) [ty28]
    refine hK _ ?_; clear hK K; (first | show AWP _ _ _ _ _ | show ∃ _, _ | skip)
    (repeat refine awp_seq ?_); refine awp_reg1 (by rw [hx]; kernel_rfl) fun K hK => ?_; simp (maxSteps := 1000000) [ty28, ty30]
    refine callP (c17) (by first | (simp; done) | (simp [*]; done)) ?_; simp (maxSteps := 1000000) [ty28, ty49]
    refine hK _ ?_; clear hK K; (first | show AWP _ _ _ _ _ | show ∃ _, _ | skip)
    (repeat refine awp_seq ?_); refine awp_reg1 (by rw [hx]; kernel_rfl) fun K hK => ?_; simp (maxSteps := 1000000) [ty28, ty30]
    refine callP (c18) (by first | (simp; done) | (simp [*]; done)) ?_; simp (maxSteps := 1000000) [ty28, ty49]
    refine hK _ ?_; clear hK K; (first | show AWP _ _ _ _ _ | show ∃ _, _ | skip)
    (repeat refine awp_seq ?_); refine awp_reg1 (by rw [hx]; kernel_rfl) fun K hK => ?_; simp (maxSteps := 1000000) [ty28, ty30]
    refine callP (c11) (by first | (simp; done) | (simp [*]; done)) ?_; simp (maxSteps := 1000000) [ty28]
    refine hK _ ?_; clear hK K; (first | show AWP _ _ _ _ _ | show ∃ _, _ | skip)
    (repeat refine awp_seq ?_); refine awp_reg1 (by rw [hx]; kernel_rfl) fun K hK => ?_; simp (maxSteps := 1000000) [ty34, ty49, ty3]
    refine callP (l_isKnown36 3) (by first | (simp; done) | (simp [*]; done)) ?_; simp (maxSteps := 1000000) [ty4, ty34]
    refine callP (l_isKnown36 3) (by first | (simp; done) | (simp [*]; done)) ?_; simp (maxSteps := 1000000) [ty4, ty34, ty49, ty3, k1, k2]
    refine hK _ ?_; clear hK K; (first | show AWP _ _ _ _ _ | show ∃ _, _ | skip)
    (repeat refine awp_seq ?_); refine awp_cond (by simp [k2]; rfl) (by rw [hx]; simp) (fun hd => ?_) (fun hd => ?_)
    · simp [k2] at hd
    clear hd
    refine awp_skip ?_; (first | show AWP _ _ _ _ _ | show ∃ _, _ | skip)
    (repeat refine awp_seq ?_); refine awp_reg1 (by rw [hx]; kernel_rfl) fun K hK => ?_; simp (maxSteps := 1000000) [ty34]; refine hK _ ?_; clear hK K; (first | show AWP _ _ _ _ _ | show ∃ _, _ | skip)
    (repeat refine awp_seq ?_); refine awp_cond (by simp; rfl) (by rw [hx]; simp) (fun hd => ?_) (fun hd => ?_)
    · clear hd
      (repeat refine awp_seq ?_); refine awp_reg1 (by rw [hx]; kernel_rfl) fun K hK => ?_; simp (maxSteps := 1000000) [ty34]
      refine callP (works9) (by first | (simp; done) | (simp [*]; done)) ?_; simp (maxSteps := 1000000) [ty4]
      refine hK _ ?_; clear hK K; (first | show AWP _ _ _ _ _ | show ∃ _, _ | skip)
      (repeat refine awp_seq ?_); refine awp_ret ?_; refine And.intro (Or.inr rfl) ?_
      simp [retC, resC, viewC, mapO]
    · simp at hd
  rw [if_neg hL] at hE
  rw [hE] at c11
  have hsl := listS_len hs (by omega)
  have hin := listS_in t s
  have hp := pickT_len hin
  have cs := l_some19 t nl fu (listS t s) hin (by omega) (by omega)
  have hsc := some_cert (s := s) hc hok hE
  have cl := certify11 (someT t (listS t s)) c (someT_len hn (by omega))
  rw [hsc.1, hsc.2] at cl
  by_cases hd0 : decSets t c = []
  · have hD : decE t c = 3 := by unfold decE; rw [hc, hE, if_neg (by simp), if_pos hd0]
    rw [hD] at c16 c17 c18
    have h3 : certT t c = 3 := Classical.byContradiction fun h => (dec_iff hc hE).2 h hd0
    rw [h3] at c11
    have hm : certL (truthsS t s) c = 3 := Classical.byContradiction fun h => by
      have := cd_all hc hE (cdB_iff.2 h)
      omega
    rw [hm] at cl
    refine pure_of (fn := Try.f5) [.tmp 6] ⟨Try.func5, rfl, by kernel_rfl⟩ (by kernel_rfl) (by kernel_rfl) (by kernel_rfl) fun x hx hσ => ?_
    (repeat refine awp_seq ?_); refine awp_reg1 (by rw [hx]; kernel_rfl) fun K hK => ?_; simp (maxSteps := 1000000) [ty28, ty30]; refine hK _ ?_; clear hK K; (first | show AWP _ _ _ _ _ | show ∃ _, _ | skip)
    (repeat refine awp_seq ?_); refine awp_reg1 (by rw [hx]; kernel_rfl) fun K hK => ?_; simp (maxSteps := 1000000) [ty28]
    refine callP (hF) (by first | (simp; done) | (simp [*]; done)) ?_; simp (maxSteps := 1000000) [ty4, ty28, ty49, ty3, h20]
    refine callP (c43) (by first | (simp; done) | (simp [*]; done)) ?_; simp (maxSteps := 1000000) [ty4, ty30]
    refine callP (q_isClass20 c) (by first | (simp; done) | (simp [*]; done)) ?_; simp (maxSteps := 1000000) [ty4, hc]
    refine hK _ ?_; clear hK K; (first | show AWP _ _ _ _ _ | show ∃ _, _ | skip)
    (repeat refine awp_seq ?_); refine awp_cond (by simp [hc]; rfl) (by rw [hx]; simp) (fun hd => ?_) (fun hd => ?_)
    · simp [hc] at hd
    clear hd
    refine awp_skip ?_; (first | show AWP _ _ _ _ _ | show ∃ _, _ | skip)
    (repeat refine awp_seq ?_); refine awp_reg1 (by rw [hx]; kernel_rfl) fun K hK => ?_; simp (maxSteps := 1000000) [ty28, ty30]
    refine callP (c16) (by first | (simp; done) | (simp [*]; done)) ?_; simp (maxSteps := 1000000) [ty28]
    refine hK _ ?_; clear hK K; (first | show AWP _ _ _ _ _ | show ∃ _, _ | skip)
    (repeat refine awp_seq ?_); refine awp_reg1 (by rw [hx]; kernel_rfl) fun K hK => ?_; simp (maxSteps := 1000000) [ty28, ty30]
    refine callP (c17) (by first | (simp; done) | (simp [*]; done)) ?_; simp (maxSteps := 1000000) [ty28, ty49]
    refine hK _ ?_; clear hK K; (first | show AWP _ _ _ _ _ | show ∃ _, _ | skip)
    (repeat refine awp_seq ?_); refine awp_reg1 (by rw [hx]; kernel_rfl) fun K hK => ?_; simp (maxSteps := 1000000) [ty28, ty30]
    refine callP (c18) (by first | (simp; done) | (simp [*]; done)) ?_; simp (maxSteps := 1000000) [ty28, ty49]
    refine hK _ ?_; clear hK K; (first | show AWP _ _ _ _ _ | show ∃ _, _ | skip)
    (repeat refine awp_seq ?_); refine awp_reg1 (by rw [hx]; kernel_rfl) fun K hK => ?_; simp (maxSteps := 1000000) [ty28, ty30]
    refine callP (c11) (by first | (simp; done) | (simp [*]; done)) ?_; simp (maxSteps := 1000000) [ty28]
    refine hK _ ?_; clear hK K; (first | show AWP _ _ _ _ _ | show ∃ _, _ | skip)
    (repeat refine awp_seq ?_); refine awp_reg1 (by rw [hx]; kernel_rfl) fun K hK => ?_; simp (maxSteps := 1000000) [ty34, ty49, ty3]
    refine callP (l_isKnown36 3) (by first | (simp; done) | (simp [*]; done)) ?_; simp (maxSteps := 1000000) [ty4, ty34]
    refine callP (l_isKnown36 0) (by first | (simp; done) | (simp [*]; done)) ?_; simp (maxSteps := 1000000) [ty4, ty34, ty49, ty3, k1, k2]
    refine hK _ ?_; clear hK K; (first | show AWP _ _ _ _ _ | show ∃ _, _ | skip)
    (repeat refine awp_seq ?_); refine awp_cond (by simp [k2]; rfl) (by rw [hx]; simp) (fun hd => ?_) (fun hd => ?_)
    · simp [k2] at hd
    clear hd
    refine awp_skip ?_; (first | show AWP _ _ _ _ _ | show ∃ _, _ | skip)
    (repeat refine awp_seq ?_); refine awp_reg1 (by rw [hx]; kernel_rfl) fun K hK => ?_; simp (maxSteps := 1000000) [ty34]; refine hK _ ?_; clear hK K; (first | show AWP _ _ _ _ _ | show ∃ _, _ | skip)
    (repeat refine awp_seq ?_); refine awp_cond (by simp; rfl) (by rw [hx]; simp) (fun hd => ?_) (fun hd => ?_)
    · simp at hd
    clear hd
    refine awp_skip ?_; (first | show AWP _ _ _ _ _ | show ∃ _, _ | skip)
    (repeat refine awp_seq ?_); refine awp_reg1 (by rw [hx]; kernel_rfl) fun K hK => ?_; simp (maxSteps := 1000000) [ty34, ty3, ty4]; refine hK _ ?_; clear hK K; (first | show AWP _ _ _ _ _ | show ∃ _, _ | skip)
    (repeat refine awp_seq ?_); refine awp_cond (by simp; rfl) (by rw [hx]; simp) (fun hd => ?_) (fun hd => ?_)
    · simp at hd
    clear hd
    refine awp_skip ?_; (first | show AWP _ _ _ _ _ | show ∃ _, _ | skip)
    (repeat refine awp_seq ?_); refine awp_reg1 (by rw [hx]; kernel_rfl) fun K hK => ?_; simp (maxSteps := 1000000) [ty34]; refine hK _ ?_; clear hK K; (first | show AWP _ _ _ _ _ | show ∃ _, _ | skip)
    (repeat refine awp_seq ?_); refine awp_cond (by simp; rfl) (by rw [hx]; simp) (fun hd => ?_) (fun hd => ?_)
    · simp at hd
    clear hd
    refine awp_skip ?_; (first | show AWP _ _ _ _ _ | show ∃ _, _ | skip)
    (repeat refine awp_seq ?_); refine awp_drw3 [] [0, 1, 2, 3, 4, 5, 6, 7, 8, 9] (by rw [hx]; kernel_rfl) (by kernel_rfl) (by kernel_rfl) (by kernel_rfl) fun K hK => ?_; simp (maxSteps := 1000000) [ty28, ty30]
    refine callPD (cs) (by first | (simp; done) | (simp [*]; done)) (by simp) ?_; simp (maxSteps := 1000000) [ty30]
    refine callPD (cl) (by first | (simp; done) | (simp [*]; done)) (by simp) ?_; simp (maxSteps := 1000000) []
    refine hK _ ?_; clear hK K; (first | show AWP _ _ _ _ _ | show ∃ _, _ | skip)
    (repeat refine awp_seq ?_); refine awp_reg1 (by rw [hx]; kernel_rfl) fun K hK => ?_; simp (maxSteps := 1000000) [ty34, ty3, ty49, ty4, ty3]
    refine callP (works9) (by first | (simp; done) | (simp [*]; done)) ?_; simp (maxSteps := 1000000) [ty4]
    refine hK _ ?_; clear hK K; (first | show AWP _ _ _ _ _ | show ∃ _, _ | skip)
    (repeat refine awp_seq ?_); refine awp_ret ?_; refine And.intro (Or.inr rfl) ?_
    simp [retC, resC, viewC, mapO]
  · have hD : decE t c = 0 := by unfold decE; rw [hc, hE, if_neg (by simp), if_neg hd0]
    rw [hD] at c16 c17 c18
    have h3 := (dec_iff hc hE).1 hd0
    have h3' : (certT t c == 3) = false := by simpa using h3
    have h3'' : (certT t c != 3) = true := by simpa using h3
    obtain ⟨a, r, har⟩ := decSets_cons hd0
    obtain ⟨halt, hacd⟩ := decSets_of (t := t) (c := c) (s := a) (by rw [har]; simp)
    have hdt : decideT t c = listS t a := by unfold decideT; rw [if_pos hD, har]; rfl
    have hln : (listS t a).length = popc a := listS_len halt (by omega)
    have hfw : fewestT t c = ((listS t a).length : Int) := by unfold fewestT; rw [if_pos hD, har, hln]; rfl
    have hns := need_sub hD
    have hca := cd_all hc hE hacd
    have hia := listS_in t a
    have hpa := pickT_len hia
    have hla : (listS t a).length ≤ t.ts.length := fixTo_len _ _
    have hsa := some_cert (s := a) hc hok hE
    have da := certify11 (someT t (listS t a)) c (someT_len hn (by omega))
    rw [hsa.1, hsa.2, ← hca] at da
    have ds := l_some19 t (listS t a).isEmpty ((0 : Int) != 0) (listS t a) hia (by omega) (by omega)
    have c43a := q_isList43 t (listS t a).isEmpty ((0 : Int) != 0) (listS t a) (by omega) (by omega)
    rw [decide_eq_true (listS_ok t a)] at c43a
    rw [hdt] at hns k1 hdl
    rw [hdt] at c17
    rw [hfw] at c16
    have hsb := l_subset37 (neededT t c).isEmpty ((0 : Int) != 0) (listS t a).isEmpty ((0 : Int) != 0) (neededT t c) (listS t a) (by omega) (by omega) hns.1 hns.2
    refine pure_of (fn := Try.f5) [.tmp 6] ⟨Try.func5, rfl, by kernel_rfl⟩ (by kernel_rfl) (by kernel_rfl) (by kernel_rfl) fun x hx hσ => ?_
    (repeat refine awp_seq ?_); refine awp_reg1 (by rw [hx]; kernel_rfl) fun K hK => ?_; simp (maxSteps := 1000000) [ty28, ty30]; refine hK _ ?_; clear hK K; (first | show AWP _ _ _ _ _ | show ∃ _, _ | skip)
    (repeat refine awp_seq ?_); refine awp_reg1 (by rw [hx]; kernel_rfl) fun K hK => ?_; simp (maxSteps := 1000000) [ty28]
    refine callP (hF) (by first | (simp; done) | (simp [*]; done)) ?_; simp (maxSteps := 1000000) [ty4, ty28, ty49, ty3, h20]
    refine callP (c43) (by first | (simp; done) | (simp [*]; done)) ?_; simp (maxSteps := 1000000) [ty4, ty30]
    refine callP (q_isClass20 c) (by first | (simp; done) | (simp [*]; done)) ?_; simp (maxSteps := 1000000) [ty4, hc]
    refine hK _ ?_; clear hK K; (first | show AWP _ _ _ _ _ | show ∃ _, _ | skip)
    (repeat refine awp_seq ?_); refine awp_cond (by simp [hc]; rfl) (by rw [hx]; simp) (fun hd => ?_) (fun hd => ?_)
    · simp [hc] at hd
    clear hd
    refine awp_skip ?_; (first | show AWP _ _ _ _ _ | show ∃ _, _ | skip)
    (repeat refine awp_seq ?_); refine awp_reg1 (by rw [hx]; kernel_rfl) fun K hK => ?_; simp (maxSteps := 1000000) [ty28, ty30]
    refine callP (c16) (by first | (simp; done) | (simp [*]; done)) ?_; simp (maxSteps := 1000000) [ty28]
    refine hK _ ?_; clear hK K; (first | show AWP _ _ _ _ _ | show ∃ _, _ | skip)
    (repeat refine awp_seq ?_); refine awp_reg1 (by rw [hx]; kernel_rfl) fun K hK => ?_; simp (maxSteps := 1000000) [ty28, ty30]
    refine callP (c17) (by first | (simp; done) | (simp [*]; done)) ?_; simp (maxSteps := 1000000) [ty28, ty49]
    refine hK _ ?_; clear hK K; (first | show AWP _ _ _ _ _ | show ∃ _, _ | skip)
    (repeat refine awp_seq ?_); refine awp_reg1 (by rw [hx]; kernel_rfl) fun K hK => ?_; simp (maxSteps := 1000000) [ty28, ty30]
    refine callP (c18) (by first | (simp; done) | (simp [*]; done)) ?_; simp (maxSteps := 1000000) [ty28, ty49]
    refine hK _ ?_; clear hK K; (first | show AWP _ _ _ _ _ | show ∃ _, _ | skip)
    (repeat refine awp_seq ?_); refine awp_reg1 (by rw [hx]; kernel_rfl) fun K hK => ?_; simp (maxSteps := 1000000) [ty28, ty30]
    refine callP (c11) (by first | (simp; done) | (simp [*]; done)) ?_; simp (maxSteps := 1000000) [ty28]
    refine hK _ ?_; clear hK K; (first | show AWP _ _ _ _ _ | show ∃ _, _ | skip)
    (repeat refine awp_seq ?_); refine awp_reg1 (by rw [hx]; kernel_rfl) fun K hK => ?_; simp (maxSteps := 1000000) [ty34, ty49, ty3]
    refine callP (l_isKnown36 0) (by first | (simp; done) | (simp [*]; done)) ?_; simp (maxSteps := 1000000) [ty4, ty34]
    refine callP (l_isKnown36 0) (by first | (simp; done) | (simp [*]; done)) ?_; simp (maxSteps := 1000000) [ty4, ty34, ty49, ty3, k1, k2]
    refine hK _ ?_; clear hK K; (first | show AWP _ _ _ _ _ | show ∃ _, _ | skip)
    (repeat refine awp_seq ?_); refine awp_cond (by simp [k2]; rfl) (by rw [hx]; simp) (fun hd => ?_) (fun hd => ?_)
    · simp [k2] at hd
    clear hd
    refine awp_skip ?_; (first | show AWP _ _ _ _ _ | show ∃ _, _ | skip)
    (repeat refine awp_seq ?_); refine awp_reg1 (by rw [hx]; kernel_rfl) fun K hK => ?_; simp (maxSteps := 1000000) [ty34]; refine hK _ ?_; clear hK K; (first | show AWP _ _ _ _ _ | show ∃ _, _ | skip)
    (repeat refine awp_seq ?_); refine awp_cond (by simp; rfl) (by rw [hx]; simp) (fun hd => ?_) (fun hd => ?_)
    · simp at hd
    clear hd
    refine awp_skip ?_; (first | show AWP _ _ _ _ _ | show ∃ _, _ | skip)
    (repeat refine awp_seq ?_); refine awp_reg1 (by rw [hx]; kernel_rfl) fun K hK => ?_; simp (maxSteps := 1000000) [ty34, ty3, ty4, h3', h3'']; refine hK _ ?_; clear hK K; (first | show AWP _ _ _ _ _ | show ∃ _, _ | skip)
    (repeat refine awp_seq ?_); refine awp_cond (by simp [h3', h3'']; rfl) (by rw [hx]; simp) (fun hd => ?_) (fun hd => ?_)
    · simp [h3', h3''] at hd
    clear hd
    refine awp_skip ?_; (first | show AWP _ _ _ _ _ | show ∃ _, _ | skip)
    (repeat refine awp_seq ?_); refine awp_reg1 (by rw [hx]; kernel_rfl) fun K hK => ?_; simp (maxSteps := 1000000) [ty34]; refine hK _ ?_; clear hK K; (first | show AWP _ _ _ _ _ | show ∃ _, _ | skip)
    (repeat refine awp_seq ?_); refine awp_cond (by simp; rfl) (by rw [hx]; simp) (fun hd => ?_) (fun hd => ?_)
    rotate_left
    · simp at hd
    clear hd
    (repeat refine awp_seq ?_); refine awp_drw3 [] [0, 1, 2, 3, 4, 5, 6, 7, 8, 9] (by rw [hx]; kernel_rfl) (by kernel_rfl) (by kernel_rfl) (by kernel_rfl) fun K hK => ?_; simp (maxSteps := 1000000) [ty28, ty30]
    refine callPD (ds) (by first | (simp; done) | (simp [*]; done)) (by simp) ?_; simp (maxSteps := 1000000) [ty30]
    refine callPD (da) (by first | (simp; done) | (simp [*]; done)) (by simp) ?_; simp (maxSteps := 1000000) []
    refine hK _ ?_; clear hK K; (first | show AWP _ _ _ _ _ | show ∃ _, _ | skip)
    (repeat refine awp_seq ?_); refine awp_reg1 (by rw [hx]; kernel_rfl) fun K hK => ?_; simp (maxSteps := 1000000) [ty49, ty3, ty28]
    refine callP (c43a) (by first | (simp; done) | (simp [*]; done)) ?_; simp (maxSteps := 1000000) [ty4, ty34, ty3]
    refine callP (hsb) (by first | (simp; done) | (simp [*]; done)) ?_; simp (maxSteps := 1000000) [ty4]
    refine hK _ ?_; clear hK K; (first | show AWP _ _ _ _ _ | show ∃ _, _ | skip)
    (repeat refine awp_seq ?_); refine awp_cond (by simp; rfl) (by rw [hx]; simp) (fun hd => ?_) (fun hd => ?_)
    · simp at hd
    clear hd
    refine awp_skip ?_; (first | show AWP _ _ _ _ _ | show ∃ _, _ | skip)
    by_cases hm : certL (truthsS t s) c = 3
    · rw [hm] at cl
      (repeat refine awp_seq ?_); refine awp_drw3 [] [0, 1, 2, 3, 4, 5, 6, 7, 8, 9] (by rw [hx]; kernel_rfl) (by kernel_rfl) (by kernel_rfl) (by kernel_rfl) fun K hK => ?_; simp (maxSteps := 1000000) [ty28, ty30]
      refine callPD (cs) (by first | (simp; done) | (simp [*]; done)) (by simp) ?_; simp (maxSteps := 1000000) [ty30]
      refine callPD (cl) (by first | (simp; done) | (simp [*]; done)) (by simp) ?_; simp (maxSteps := 1000000) []
      refine hK _ ?_; clear hK K; (first | show AWP _ _ _ _ _ | show ∃ _, _ | skip)
      (repeat refine awp_seq ?_); refine awp_reg1 (by rw [hx]; kernel_rfl) fun K hK => ?_; simp (maxSteps := 1000000) [ty34, ty3, ty49, ty4, ty3]
      refine callP (works9) (by first | (simp; done) | (simp [*]; done)) ?_; simp (maxSteps := 1000000) [ty4]
      refine hK _ ?_; clear hK K; (first | show AWP _ _ _ _ _ | show ∃ _, _ | skip)
      (repeat refine awp_seq ?_); refine awp_ret ?_; refine And.intro (Or.inr rfl) ?_
      simp [retC, resC, viewC, mapO]
    · have hm2 := cd_all hc hE (cdB_iff.2 hm)
      rw [← hm2] at cl
      have hle := few_le har hs (cdB_iff.2 hm)
      have hle' : ((listS t a).length : Int) ≤ ((listS t s).length : Int) := by omega
      (repeat refine awp_seq ?_); refine awp_drw3 [] [0, 1, 2, 3, 4, 5, 6, 7, 8, 9] (by rw [hx]; kernel_rfl) (by kernel_rfl) (by kernel_rfl) (by kernel_rfl) fun K hK => ?_; simp (maxSteps := 1000000) [ty28, ty30]
      refine callPD (cs) (by first | (simp; done) | (simp [*]; done)) (by simp) ?_; simp (maxSteps := 1000000) [ty30]
      refine callPD (cl) (by first | (simp; done) | (simp [*]; done)) (by simp) ?_; simp (maxSteps := 1000000) []
      refine hK _ ?_; clear hK K; (first | show AWP _ _ _ _ _ | show ∃ _, _ | skip)
      (repeat refine awp_seq ?_); refine awp_reg1 (by rw [hx]; kernel_rfl) fun K hK => ?_; simp (maxSteps := 1000000) [ty34, ty3, ty49, ty4, h3', h3'', hle']
      refine callP (works9) (by first | (simp; done) | (simp [*]; done)) ?_; simp (maxSteps := 1000000) [ty4]
      refine hK _ ?_; clear hK K; (first | show AWP _ _ _ _ _ | show ∃ _, _ | skip)
      (repeat refine awp_seq ?_); refine awp_ret ?_; refine And.intro (Or.inr rfl) ?_
      simp [retC, resC, viewC, mapO]
end Go.Proofs.Ytbhbmnofmoibhaa

namespace Go.Proofs.Ytbhbmnofmoibhaa
open Go Go.Abs
open Go.ChangeShapes Go.WideShapes Go.ChangeAt Go.RowKit

set_option maxRecDepth 100000 in
theorem trialsProof_lifted (os : Os) (started : os.Started) (H : Type) (enc : TypeId × Value → H) :
    ReturnsInHanded {} Try.checked os 5 .any (Rows.trialsProofSpec.pre6 enc Try.prog Try.f5 Rows.trialsProofRow.domain false) (Rows.trialsProofSpec.post enc Try.prog Try.f5 false true false false) := by
  refine returnsInHanded_of_change (C := Try.checked) J.own started (by kernel_rfl) Try.func5
    (ChangeSpec.witness6 (enc := enc) (C := Try.checked) false ⟨#[], #[.agg #[.int .i64 0, .int .i64 0, .int .i64 0, .int .i64 0, .int .i64 0, .int .i64 0, .int .i64 0, .int .i64 0, .int .i64 0, .slice none 0 0], .slice none 0 0, .agg #[.int .i64 0, .int .i64 0]], []⟩ 8 (by kernel_rfl) (by kernel_rfl) (by kernel_rfl) (by kernel_rfl)) ?_
  intro W base args ds gs before hval hW _ _
  refine law_contract (P := Try.prog) (tb := 4) (by kernel_rfl) J.ub rfl (fun ds hl => ?_) J.laid J.maps J.sized (by kernel_rfl) (by kernel_rfl) (fun cargs hc => ?_) W base args ds gs before hval hW
  · have h2 : ds.length = 3 := hl
    match ds, h2 with
    | [_, _, _], _ => rfl
  · rw [Try.params5] at hc
    obtain ⟨t, r, rfl, hc1⟩ := arg28 hc
    obtain ⟨nl, l, r', rfl, hc2⟩ := argInts hc1
    obtain ⟨c, r'', rfl, hc3⟩ := arg30 hc2
    obtain rfl := arg_end hc3
    exact law5c t nl false l c

theorem trialsProof_holds : Rows.TrialsProofSaid :=
  OpenClaim.holds_of_wide 5 Try.f5 rfl rfl rfl rfl rfl rfl rfl ⟨rfl, rfl, rfl, rfl, rfl⟩ rfl rfl rfl rfl rfl (by kernel_rfl) Try.func5 (by kernel_rfl)
    (of_decide_eq_true (by kernel_rfl)) (by unfold Func.isWrapper; first | (rw [if_pos (by decide +kernel)]; kernel_rfl) | (rw [if_neg (by decide +kernel)]; exact ⟨rfl, rfl⟩))
    (fun os started H enc _ => trialsProof_lifted os started H enc)
#print axioms trialsProof_holds
end Go.Proofs.Ytbhbmnofmoibhaa

