/- For every input the law TrialsOrder returns true, and each argument reads afterwards as it read before. No condition. -/
import Derived.Test.YtbhbmnofmoibhaaB5

set_option linter.unusedSimpArgs false
set_option linter.unusedVariables false
set_option linter.constructorNameAsVariable false

namespace Go.Proofs.Ytbhbmnofmoibhaa
open Go Go.Abs

set_option maxHeartbeats 2000000
set_option maxRecDepth 100000

theorem sh42 : shT Try.prog 6 42 = some (i64s 4) := by kernel_rfl
theorem ag42 : isAggT Try.prog 42 = true := by kernel_rfl
theorem sh49 : shT Try.prog 6 49 = some [.sl (i64s 1)] := by kernel_rfl
theorem ag49 : isAggT Try.prog 49 = false := by kernel_rfl

theorem argTurn {cs : List C} {ts : List TypeId} (h : ArgsFit Try.prog (42 :: ts) cs) : ∃ (a b : Int) (c : Cl) (r : List C), cs = .agg [encI a, encI b, encI c.size, encI c.most] :: r ∧ ArgsFit Try.prog ts r := by
  obtain ⟨m, r, rfl, h1, h2⟩ := arg_agg sh42 ag42 h
  obtain ⟨zs, e1, rfl⟩ := fit_flat h1
  match zs, e1 with
  | [a, b, c, d], _ => exact ⟨a, b, ⟨c, d⟩, r, rfl, h2⟩
theorem argInts {cs : List C} {ts : List TypeId} (h : ArgsFit Try.prog (49 :: ts) cs) : ∃ (nl : Bool) (l : List Int) (r : List C), cs = .sl nl false (l.map cI) :: r ∧ ArgsFit Try.prog ts r := by
  obtain ⟨c, r, rfl, h1, h2⟩ := arg_one sh49 ag49 h
  obtain ⟨nl, rows, _, m', e, h3, h4⟩ := fit_sl h1
  simp only [FitL] at h4
  subst h4
  cases e
  obtain ⟨l, rfl⟩ := rows_map (f := cI) (rows := rows) fun row hr => by
    obtain ⟨zs, e1, rfl⟩ := fit_flat (h3 row hr)
    match zs, e1 with
    | [a], _ => exact ⟨a, rfl⟩
  exact ⟨nl, l, r, rfl, h2⟩
end Go.Proofs.Ytbhbmnofmoibhaa

namespace Go.Proofs.Ytbhbmnofmoibhaa
open Go Go.Abs

set_option maxHeartbeats 8000000

theorem l_subset37 (a1 a2 b1 b2 : Bool) (A B : List Int) (hn : A.length ≤ 1000000) (hm : B.length ≤ 1000000) (hs : ∀ a ∈ A, a ∈ B) (hl : A.length ≤ B.length) : Pure Try.prog 20 [.sl a1 a2 (A.map cI), .sl b1 b2 (B.map cI)] (.bool true) := by
  refine pure_of (fn := Try.f20) [.tmp 4] ⟨Try.func20, rfl, by kernel_rfl⟩ (by kernel_rfl) (by kernel_rfl) (by kernel_rfl) fun x hx hσ => ?_
  (repeat refine awp_seq ?_); refine awp_reg1 (by rw [hx]; kernel_rfl) fun K hK => ?_; simp (maxSteps := 1000000) []; refine hK _ ?_; clear hK K; (first | show AWP _ _ _ _ _ | show ∃ _, _ | skip)
  (repeat refine awp_seq ?_); refine awp_reg1 (by rw [hx]; kernel_rfl) fun K hK => ?_; simp (maxSteps := 1000000) []; refine hK _ ?_; clear hK K; (first | show AWP _ _ _ _ _ | show ∃ _, _ | skip)
  (repeat refine awp_seq ?_); refine awp_block ?_
  refine awp_loop (fun i : Nat => ⟨ofL [(0, .sl a1 a2 (A.map cI)), (1, .sl b1 b2 (B.map cI)), (5, encI i)], stoT []⟩)
    (fun i => i ≤ A.length) (fun i => A.length - i) 0 (Nat.zero_le _) ?_ ?_
  · refine wk_shape (shp0 hσ (by simp) (by simp) ?_) ?_
    · simp [SlotOk] <;> (repeat' (first | exact .same (by simp [purel, C.isPure]) | exact .cons (by simp [mtl, mtc, mT, mH, C.isPure, purel]) (by simp) .nil | refine And.intro ?_ ?_))
    · simp [mtc, mtl, mT, C.isPure, purel] <;> (try simp (disch := omega) [wrap_id]) <;> (try omega)
  · rintro i hi
    (repeat refine awp_seq ?_); refine awp_reg1 (by rw [hx]; kernel_rfl) fun K hK => ?_; simp (maxSteps := 1000000) [ty49, ty3]; refine hK _ ?_; clear hK K; (first | show AWP _ _ _ _ _ | show ∃ _, _ | skip)
    (repeat refine awp_seq ?_); refine awp_cond (by simp; rfl) (by rw [hx]; simp) (fun hc => ?_) (fun hc => ?_)
    · simp at hc
      refine awp_skip ?_; (first | show AWP _ _ _ _ _ | show ∃ _, _ | skip)
      (repeat refine awp_seq ?_); refine awp_block ?_
      (repeat refine awp_seq ?_); refine awp_reg1 (by rw [hx]; kernel_rfl) fun K hK => ?_; simp (maxSteps := 1000000) [ty49, ty3, hc]
      have h41 := in41 b1 b2 B A[i] hm
      rw [decide_eq_true (hs _ (List.getElem_mem hc))] at h41
      refine callP (h41) (by first | (simp; done) | (simp [*]; done)) ?_; simp (maxSteps := 1000000) [ty4]
      refine hK _ ?_; clear hK K; (first | show AWP _ _ _ _ _ | show ∃ _, _ | skip)
      (repeat refine awp_seq ?_); refine awp_cond (by simp; rfl) (by rw [hx]; simp) (fun hd => ?_) (fun hd => ?_)
      · simp at hd
      · clear hd
        refine awp_skip ?_; (first | show AWP _ _ _ _ _ | show ∃ _, _ | skip)
        (repeat refine awp_seq ?_); refine awp_reg1 (by rw [hx]; kernel_rfl) fun K hK => ?_; simp (maxSteps := 1000000) [ty3]; refine hK _ ?_; clear hK K; (first | show AWP _ _ _ _ _ | show ∃ _, _ | skip)
        rw [wrap_id (by omega) (by omega)]
        refine ⟨i + 1, by omega, by omega, ?_⟩
        refine wk_shape (shp0 hσ (by simp) (by simp) ?_) ?_
        · simp [SlotOk] <;> (repeat' (first | exact .same (by simp [purel, C.isPure]) | exact .cons (by simp [mtl, mtc, mT, mH, C.isPure, purel]) (by simp) .nil | refine And.intro ?_ ?_))
        · simp [mtc, mtl, mT, C.isPure, purel] <;> (try simp (disch := omega) [wrap_id]) <;> (try omega)
    · simp at hc
      (repeat refine awp_seq ?_); refine awp_exit ?_; (first | show AWP _ _ _ _ _ | show ∃ _, _ | skip)
      (repeat refine awp_seq ?_); refine awp_reg1 (by rw [hx]; kernel_rfl) fun K hK => ?_; simp (maxSteps := 1000000) [ty49, ty3, hl]; refine hK _ ?_; clear hK K; (first | show AWP _ _ _ _ _ | show ∃ _, _ | skip)
      (repeat refine awp_seq ?_); refine awp_ret ?_; refine And.intro (Or.inr rfl) ?_
      simp [retC, resC, viewC, mapO, hl]

-- the copy is answered the same

theorem copy_len {t : Ti} (h : TiLen t) : TiLen (copyT t) := by
  have e1 : (copyT t).ts = t.ts.map copyY := rfl
  refine ⟨by rw [e1, List.length_map]; exact h.ts, fun y hy => ?_⟩
  rw [e1] at hy
  obtain ⟨z, hz, rfl⟩ := List.mem_map.1 hy
  exact h.l z hz

end Go.Proofs.Ytbhbmnofmoibhaa

namespace Go.Proofs.Ytbhbmnofmoibhaa
open Go Go.Abs

set_option maxHeartbeats 8000000

theorem ends_mem {f : Tr → Int} {t : Ti} {is : Bool} (h : openT t is = 0) {k : Tr} (hk : k ∈ truthsS t (allS t)) : (endsT f t is).1 ≤ f k ∧ f k ≤ (endsT f t is).2 := by
  have h0 : 0 < (truthsS t (allS t)).length := List.length_pos_of_mem hk
  rw [ends_mnmx h h0]
  exact ⟨(mnT_spec f _ _).2.1 k hk, (mxT_spec f _ _).2.1 k hk⟩

theorem isTrB_mem {t : Ti} {k : Tr} (h : isTrB t k = true) : k ∈ truthsS t (allS t) := by
  have hk : k ∈ allT (gwT t) := by
    unfold isTrB at h
    simp only [Bool.and_eq_true] at h
    have h1 : -t.gain ≤ k.area ∧ k.area ≤ t.gain := by simpa [withinB] using h.1.1
    have h2 : -t.w.skew ≤ k.skew ∧ k.skew ≤ t.w.skew := by simpa [withinB] using h.1.2
    exact allT_mem.2 ⟨h1, h2⟩
  rw [← truths_filter]
  exact List.mem_filter.2 ⟨hk, h⟩

end Go.Proofs.Ytbhbmnofmoibhaa

namespace Go.Proofs.Ytbhbmnofmoibhaa
open Go Go.Abs

set_option maxHeartbeats 8000000

theorem sub_len {α : Type} : ∀ (A B : List α), A.Nodup → (∀ a ∈ A, a ∈ B) → A.length ≤ B.length
  | [], _, _, _ => Nat.zero_le _
  | a :: A, B, hn, hs => by
    have h1 := List.nodup_cons.1 hn
    obtain ⟨P, Q, rfl⟩ := List.append_of_mem (hs a (by simp))
    have ih := sub_len A (P ++ Q) h1.2 fun b hb => by
      have hne : b ≠ a := fun e => h1.1 (e ▸ hb)
      have := hs b (by simp [hb])
      simp [hne] at this
      simp [this]
    simp only [List.length_append, List.length_cons] at ih ⊢
    omega

/-- All truths of a trial. -/
abbrev trL (t : Ti) : List Tr := truthsS t (allS t)

theorem trL_mem {t : Ti} {k : Tr} : k ∈ trL t ↔ isTrB t k = true := by
  refine ⟨fun h => ?_, isTrB_mem⟩
  have h' : k ∈ (allT (gwT t)).filter (isTrB t) := by rw [truths_filter]; exact h
  exact (List.mem_filter.1 h').2
theorem openT_true {t : Ti} (h : checkT t = 0) : openT t true = if trL t = [] then 3 else 0 := by
  unfold openT
  rw [if_neg (by simpa using h), if_neg (by decide)]

theorem ends_some {f : Tr → Int} {t : Ti} {is : Bool} (h : openT t is = 0) : (∃ k ∈ trL t, f k = (endsT f t is).1) ∧ ∃ k ∈ trL t, f k = (endsT f t is).2 := by
  have hne := (numsT_ok (f := f) h).2.2
  unfold endsT
  cases hl : numsT f t is with
  | nil => exact absurd hl hne
  | cons a l =>
    have h1 : a ∈ numsT f t is := by rw [hl]; simp
    have h2 : (a :: l).getLastD 0 ∈ numsT f t is := by
      rw [hl, List.getLastD_eq_getLast?, List.getLast?_eq_some_getLast (by simp), Option.getD_some]
      exact List.getLast_mem _
    exact ⟨(numsT_mem h1).2, (numsT_mem h2).2⟩

/-- One test more, in new memory. -/
def addT (t : Ti) (y : Ts) : Ti := { t with nl := false, fu := false, ts := t.ts.map copyY ++ [y] }
end Go.Proofs.Ytbhbmnofmoibhaa

namespace Go.Proofs.Ytbhbmnofmoibhaa
open Go Go.Abs

set_option maxHeartbeats 8000000

theorem l_some19 (t : Ti) (nl fu : Bool) (l : List Int) (hl : InT t l) (hn : l.length ≤ 1000) (ht : t.ts.length ≤ 1000) : Pure Try.prog 19 [encTi t, .sl nl fu (l.map cI)] (encTi (someT t l)) := by
  obtain ⟨U, hU⟩ : ∃ U : Nat → List Ts, ∀ i, U i = pickT t (l.take i) := ⟨_, fun _ => rfl⟩
  have hU0 : U 0 = [] := by rw [hU]; rfl
  have hUl : ∀ i, i ≤ l.length → (U i).length = i := fun i hi => by rw [hU, pickT_len (hl.take i)]; simp; omega
  have hUs : ∀ i (hi : i < l.length) (hz : (l[i]).toNat < t.ts.length), U (i + 1) = U i ++ [t.ts[(l[i]).toNat]] := fun i hi hz => by rw [hU, hU]; exact pickT_step hl hi hz
  have hUn : pickT t l = U l.length := by rw [hU, List.take_length]
  unfold someT
  rw [hUn]
  clear hUn hU
  refine pure_of (fn := Try.f19) [.cell 4 28] ⟨Try.func19, rfl, by kernel_rfl⟩ (by kernel_rfl) (by kernel_rfl) (by kernel_rfl) fun x hx hσ => ?_
  (repeat refine awp_seq ?_); refine awp_reg1 (by rw [hx]; kernel_rfl) fun K hK => ?_; simp (maxSteps := 1000000) [ty28]; refine hK _ ?_; clear hK K; (first | show AWP _ _ _ _ _ | show ∃ _, _ | skip)
  (repeat refine awp_seq ?_); refine awp_reg1 (by rw [hx]; kernel_rfl) fun K hK => ?_; simp (maxSteps := 1000000) [ty28]; refine hK _ ?_; clear hK K; (first | show AWP _ _ _ _ _ | show ∃ _, _ | skip)
  (repeat refine awp_seq ?_); refine awp_reg1 (by rw [hx]; kernel_rfl) fun K hK => ?_; simp (maxSteps := 1000000) [ty28, ty26]; refine hK _ ?_; clear hK K; (first | show AWP _ _ _ _ _ | show ∃ _, _ | skip)
  (repeat refine awp_seq ?_); refine awp_reg1 (by rw [hx]; kernel_rfl) fun K hK => ?_; simp (maxSteps := 1000000) []; refine hK _ ?_; clear hK K; (first | show AWP _ _ _ _ _ | show ∃ _, _ | skip)
  (repeat refine awp_seq ?_); refine awp_block ?_
  refine AWP.weak ?_ (wk_nilCell 5 0 9 1000 2 (o := ⟨false, false, 10, [cTo t (.sl true true [])]⟩) (row := cTo t (.sl true true [])) (fu := true) (by simp) rfl rfl rfl (by simp) (by decide))
  refine awp_loop (fun i : Nat => ⟨ofL [(1, .sl nl fu (l.map cI)), (2, .ptr 2 10 0 0), (4, .ptr 4 10 0 0), (5, .ptr 5 10 0 0), (6, encI i)],
      stoT [(2, 2, .live (obTi t)), (4, 4, .live ⟨false, false, 10, [[encI 0, encI 0, encI 0, encI 0, encI 0, encI 0, encI 0, encI 0, encI 0, .sl true true []]]⟩), (5, 5, .live ⟨false, false, 10, [cTo t (.own 1000 2 0 i)]⟩), (1000, 1000, .live ⟨(U i).isEmpty, false, 2, (U i).map cTs⟩)]⟩)
    (fun i => i ≤ l.length) (fun i => l.length - i) 0 (by simp) ?_ ?_
  · refine wk_shape (shp0 hσ (by simp) (by simp) ?_) ?_
    · simp [SlotOk, hU0] <;> (repeat' (first | (refine RowsOk.same ?_; simp [purel, C.isPure]; done) | (refine rowsCons ?_; simp [mtl, mtc, mT, mH, C.isPure, purel]; done) | (refine rowsCons ?_; simp [mtl, mtc, mT, mH, C.isPure, purel]) | refine And.intro ?_ ?_))
    · simp [mtc, mtl, mT, C.isPure, purel, hU0] <;> (try simp (disch := omega) [wrap_id]) <;> (try omega)
  · intro i hi
    have hUi := hUl i hi
    (repeat refine awp_seq ?_); refine awp_reg1 (by rw [hx]; kernel_rfl) fun K hK => ?_; simp (maxSteps := 1000000) [ty49, ty3]; refine hK _ ?_; clear hK K; (first | show AWP _ _ _ _ _ | show ∃ _, _ | skip)
    (repeat refine awp_seq ?_); refine awp_cond (by simp; rfl) (by rw [hx]; simp) (fun hc => ?_) (fun hc => ?_)
    · simp at hc
      refine awp_skip ?_; (first | show AWP _ _ _ _ _ | show ∃ _, _ | skip)
      (repeat refine awp_seq ?_); refine awp_block ?_
      have hz := hl _ (List.getElem_mem hc)
      have hz1 : (l[i]).toNat < t.ts.length := by omega
      have hst := hUs i hc hz1
      generalize hV : U i = V at *
      have hwi : IntKind.i64.wrap ((i : Int) + 1) = ((i + 1 : Nat) : Int) := by rw [wrap_id (by omega) (by omega)]; rfl
      (repeat refine awp_seq ?_); refine awp_drw3 [] [0, 1, 2, 3, 4, 5, 6, 7, 8, 9, 10, 11, 12, 13, 14] (by rw [hx]; kernel_rfl) (by kernel_rfl) (by kernel_rfl) (by kernel_rfl) fun K hK => ?_; simp (maxSteps := 1000000) [ty28, ty26, ty49, ty3, hc, hz.1, hz.2]; refine hK _ ?_; clear hK K; (first | show AWP _ _ _ _ _ | show ∃ _, _ | skip)
      (repeat refine awp_seq ?_); refine awp_cond (by simp [hz.1, hz.2]; rfl) (by rw [hx]; simp) (fun hd => ?_) (fun hd => ?_)
      · clear hd
        (repeat refine awp_seq ?_); refine awp_drw3 [1001, 1003, 1007, 1009, 5011, 11000] [0, 1, 2, 3, 4, 5, 6, 7, 8, 9, 10, 11, 12, 13] (by rw [hx]; kernel_rfl) (by kernel_rfl) (by kernel_rfl) (by kernel_rfl) fun K hK => ?_; simp (maxSteps := 1000000) [ty28, ty26, ty49, ty3, ty46, hc, hz.1, hz1, hUi]
        refine ⟨by omega, ?_⟩
        refine hK _ ?_; clear hK K; (first | show AWP _ _ _ _ _ | show ∃ _, _ | skip)
        (repeat refine awp_seq ?_); refine awp_reg1 (by rw [hx]; kernel_rfl) fun K hK => ?_; simp (maxSteps := 1000000) [ty3]; refine hK _ ?_; clear hK K; (first | show AWP _ _ _ _ _ | show ∃ _, _ | skip)
        refine ⟨i + 1, by omega, by omega, ?_⟩
        rw [hst, hwi]
        refine wk_shape2 [(2, 2, .live (obTi t)), (4, 4, .live ⟨false, false, 10, [[encI 0, encI 0, encI 0, encI 0, encI 0, encI 0, encI 0, encI 0, encI 0, .sl true true []]]⟩), (5, 5, .live ⟨false, false, 10, [cTo t (.own 1000 2 0 (i + 1))]⟩), (1000, 41, .live ⟨(V ++ [t.ts[(l[i]).toNat]]).isEmpty, false, 2, (V ++ [t.ts[(l[i]).toNat]]).map cTs⟩)] (by first | rfl | (simp only [if_pos, if_true]; rfl)) (shp0 hσ (by simp) (by simp) ?_) ?_
        · simp [SlotOk] <;> (repeat' (first | (refine RowsOk.same ?_; simp [purel, C.isPure]; done) | (refine rowsCons ?_; simp [mtl, mtc, mT, mH, C.isPure, purel]; done) | (refine rowsCons ?_; simp [mtl, mtc, mT, mH, C.isPure, purel]) | refine And.intro ?_ ?_))
        · simp [mtc, mtl, mT, C.isPure, purel] <;> (try simp (disch := omega) [wrap_id]) <;> (try omega)
      · simp [hz.1, hz.2] at hd
    · simp at hc
      (repeat refine awp_seq ?_); refine awp_exit ?_; (first | show AWP _ _ _ _ _ | show ∃ _, _ | skip)
      have hin : i = l.length := by omega
      rw [hin] at hUi ⊢
      have hem : (U l.length).isEmpty = l.isEmpty := by
        cases h1 : U l.length <;> cases h2 : l <;> rw [h1, h2] at hUi <;> simp at hUi <;> rfl
      generalize U l.length = V at *
      rw [hem]
      refine AWP.weak ?_ (wk_frzCell 1000 5 0 9 (o := ⟨l.isEmpty, false, 2, V.map cTs⟩) (oq := ⟨false, false, 10, [cTo t (.own 1000 2 0 l.length)]⟩) (row := cTo t (.own 1000 2 0 l.length)) (c := .own 1000 2 0 l.length) (c' := sTs l.isEmpty false V) (by simp) (by simp [purel, C.isPure]) (by simp) (by decide) rfl rfl rfl (fz_own rfl (by simp [hUi]) (by simp)) rfl)
      (repeat refine awp_seq ?_); refine awp_reg1 (by rw [hx]; kernel_rfl) fun K hK => ?_; simp (maxSteps := 1000000) [ty28]; refine hK _ ?_; clear hK K; (first | show AWP _ _ _ _ _ | show ∃ _, _ | skip)
      (repeat refine awp_seq ?_); refine awp_ret ?_; refine And.intro (Or.inr rfl) ?_
      simp [retC, resC, viewC, mapO, ty28]

end Go.Proofs.Ytbhbmnofmoibhaa

namespace Go.Proofs.Ytbhbmnofmoibhaa
open Go Go.Abs

set_option maxHeartbeats 8000000

theorem decSets_cd {t : Ti} {c : Cl} {s : Nat} (h : s ∈ decSets t c) : s < 2 ^ t.ts.length ∧ cdB t c s = true := by
  refine ⟨decL_lt h, ?_⟩
  unfold decSets at h
  rcases decL_spec (cdB t c) (2 ^ t.ts.length) with ⟨h1, h2⟩ | ⟨m, h1, h2, h3⟩
  · rw [h1] at h; simp at h
  · rw [h2, List.mem_filter] at h
    have := h.2
    simp only [Bool.and_eq_true, beq_iff_eq] at this
    exact this.2

theorem neededT_len (t : Ti) (c : Cl) : (neededT t c).length ≤ t.ts.length := by
  unfold neededT
  split
  · exact fixTo_len _ _
  · simp

end Go.Proofs.Ytbhbmnofmoibhaa

namespace Go.Proofs.Ytbhbmnofmoibhaa
open Go Go.Abs

set_option maxHeartbeats 8000000

theorem certL_sub {L M : List Tr} {c : Cl} (hne : M ≠ []) (hs : ∀ k ∈ M, k ∈ L) : certL L c = 3 ∨ certL M c = certL L c := by
  unfold certL
  split
  · rename_i h
    rw [List.countP_eq_zero] at h
    right
    rw [if_pos (List.countP_eq_zero.2 fun k hk => h k (hs k hk))]
  · split
    · rename_i h
      rw [List.countP_eq_zero] at h
      right
      have h2 := List.countP_eq_zero.2 fun k hk => h k (hs k hk)
      rw [if_neg ?_, if_pos h2]
      intro h3
      rw [List.countP_eq_zero] at h3
      obtain ⟨k, hk⟩ := List.exists_mem_of_ne_nil _ hne
      have a1 := h k (hs k hk)
      have a2 := h3 k hk
      simp at a1 a2
      rw [a1] at a2
      cases a2
    · exact .inl rfl

theorem set_sup (t : Ti) (s : Nat) : ∀ k ∈ trL t, k ∈ truthsS t s := by
  intro k hk
  have h := List.mem_filter.1 hk
  refine List.mem_filter.2 ⟨h.1, okS_iff.2 fun i hi _ => ?_⟩
  exact okS_iff.1 h.2 i hi (testBit_all hi)

theorem certT_eq {t : Ti} {c : Cl} (hc : classB c = true) (h : openT t true = 0) : certT t c = certL (trL t) c := if_pos (by rw [hc]; exact h)

theorem cdB_iff {t : Ti} {c : Cl} {s : Nat} : cdB t c s = true ↔ certL (truthsS t s) c ≠ 3 := by unfold cdB; simp

theorem cd_all {t : Ti} {c : Cl} (hc : classB c = true) (h : openT t true = 0) {s : Nat} (hs : cdB t c s = true) : certT t c = certL (truthsS t s) c := by
  rw [certT_eq hc h]
  exact (certL_sub (openT_ok h).2.2 (set_sup t s)).resolve_left (cdB_iff.1 hs)

theorem decSets_of {t : Ti} {c : Cl} {s : Nat} (h : s ∈ decSets t c) : s < 2 ^ t.ts.length ∧ cdB t c s = true := decSets_cd h

theorem dec_iff {t : Ti} {c : Cl} (hc : classB c = true) (h : openT t true = 0) : decSets t c ≠ [] ↔ certT t c ≠ 3 := by
  constructor
  · intro hd
    obtain ⟨a, r, har⟩ := decSets_cons hd
    have ham : a ∈ decSets t c := by rw [har]; simp
    have h1 := (decSets_of ham).2
    rw [cd_all hc h h1]
    exact cdB_iff.1 h1
  · intro hd he
    have h1 : cdB t c (allS t) = true := cdB_iff.2 (by rw [← certT_eq hc h]; exact hd)
    rcases decL_spec (cdB t c) (2 ^ t.ts.length) with ⟨_, h3⟩ | ⟨m, h2, _⟩
    · have := h3 (allS t) (by have := allS_succ t; omega)
      rw [h1] at this; cases this
    · exact h2 he

theorem few_le {t : Ti} {c : Cl} {s a : Nat} {r : List Nat} (h : decSets t c = a :: r) (hs : s < 2 ^ t.ts.length) (hc : cdB t c s = true) : popc a ≤ popc s := by
  rcases decL_spec (cdB t c) (2 ^ t.ts.length) with ⟨h2, _⟩ | ⟨m, h1, h2, h3⟩
  · have h2' : decSets t c = [] := h2
    rw [h] at h2'; cases h2'
  · have ha : a ∈ decSets t c := by rw [h]; simp
    have e : decSets t c = _ := h2
    rw [e, List.mem_filter] at ha
    have := ha.2
    simp only [Bool.and_eq_true, beq_iff_eq] at this
    have h4 := h3 s hs hc
    omega

theorem inAll_sub {t : Ti} {a : Nat} {r : List Nat} : ∀ i, (inAll (a :: r) (allS t)).testBit i = true → a.testBit i = true := by
  intro i h
  rw [inAll_bit] at h
  simp at h
  exact h.2.1

theorem need_sub {t : Ti} {c : Cl} (h : decE t c = 0) : (∀ z ∈ neededT t c, z ∈ decideT t c) ∧ (neededT t c).length ≤ (decideT t c).length := by
  obtain ⟨_, _, h0⟩ := decE_ok h
  obtain ⟨a, r, har⟩ := decSets_cons h0
  have e1 : neededT t c = listS t (inAll (a :: r) (allS t)) := by unfold neededT; rw [if_pos h, har]
  have e2 : decideT t c = listS t a := by unfold decideT; rw [if_pos h, har]; rfl
  have hs : ∀ z ∈ neededT t c, z ∈ decideT t c := by
    intro z hz
    rw [e1, listS_mem] at hz
    rw [e2, listS_mem]
    obtain ⟨i, h1, h2, h3⟩ := hz
    exact ⟨i, h1, inAll_sub i h2, h3⟩
  refine ⟨hs, sub_len _ _ ?_ hs⟩
  rw [e1]
  exact (fixTo_lt _ _).imp fun h => Int.ne_of_lt h

/-- What a trial with some of its tests answers. -/
theorem some_cert {t : Ti} {c : Cl} {s : Nat} (hc : classB c = true) (hok : TiOk t) (h : openT t true = 0) :
    openT (someT t (listS t s)) (classB c) = 0 ∧ certT (someT t (listS t s)) c = certL (truthsS t s) c := by
  have hp := pickT_len (listS_in t s)
  have h6 : (listS t s).length ≤ t.ts.length := fixTo_len _ _
  have hl6 := hok.len
  have hso := someT_ok (l := listS t s) hok (by omega)
  have hz := checkT_ok.2 hso
  have hne : trL (someT t (listS t s)) ≠ [] := by
    show truthsS (someT t (listS t s)) (allS (someT t (listS t s))) ≠ []
    rw [some_set]
    obtain ⟨k, hk⟩ := List.exists_mem_of_ne_nil _ (openT_ok h).2.2
    exact List.ne_nil_of_mem (set_sup t s k hk)
  have ho : openT (someT t (listS t s)) true = 0 := by rw [openT_true hz, if_neg hne]
  refine ⟨by rw [hc]; exact ho, ?_⟩
  rw [certT_eq hc ho]
  show certL (truthsS (someT t (listS t s)) (allS (someT t (listS t s)))) c = _
  rw [some_set]

end Go.Proofs.Ytbhbmnofmoibhaa

namespace Go.Proofs.Ytbhbmnofmoibhaa
open Go Go.Abs

set_option maxHeartbeats 8000000

theorem q_copyE10 (t : Ti) (hl : TiLen t) (B : Nat) : Eff Try.prog 13 [] [encTi t] (.agg (cTo t (.own B 2 0 t.ts.length))) [(B, ⟨t.ts.isEmpty, false, 2, (t.ts.map copyY).map cTs⟩)] := by
  have hlt := hl.ts
  obtain ⟨U, hU⟩ : ∃ U : Nat → List Ts, ∀ i, U i = (t.ts.take i).map copyY := ⟨_, fun _ => rfl⟩
  have hU0 : U 0 = [] := by rw [hU]; rfl
  have hUl : ∀ i, i ≤ t.ts.length → (U i).length = i := fun i hi => by rw [hU]; simp; omega
  have hUs : ∀ i (hi : i < t.ts.length), U (i + 1) = U i ++ [copyY t.ts[i]] := fun i hi => by rw [hU, hU, List.take_succ_eq_append_getElem hi, List.map_append]; rfl
  have hUn : t.ts.map copyY = U t.ts.length := by rw [hU, List.take_length]
  rw [hUn]
  clear hUn hU
  refine eff_of_body (fn := Try.f13) [.cell 2 28] ⟨Try.func13, rfl, by kernel_rfl⟩ (by kernel_rfl) (by kernel_rfl) (by kernel_rfl) ?_ ?_ fun x hx hσ => ?_
  · simp [wil, C.wi]
  · simp
  rw [show stoO ([] : List (Nat × Ob)) = freeS from rfl] at hσ ⊢
  (repeat refine awp_seq ?_); refine awp_reg1 (by rw [hx]; kernel_rfl) fun K hK => ?_; simp (maxSteps := 1000000) [ty28]; refine hK _ ?_; clear hK K; (first | show AWP _ _ _ _ _ | show ∃ _, _ | skip)
  (repeat refine awp_seq ?_); refine awp_reg1 (by rw [hx]; kernel_rfl) fun K hK => ?_; simp (maxSteps := 1000000) [ty28]; refine hK _ ?_; clear hK K; (first | show AWP _ _ _ _ _ | show ∃ _, _ | skip)
  (repeat refine awp_seq ?_); refine awp_reg1 (by rw [hx]; kernel_rfl) fun K hK => ?_; simp (maxSteps := 1000000) [ty28, ty26]; refine hK _ ?_; clear hK K; (first | show AWP _ _ _ _ _ | show ∃ _, _ | skip)
  (repeat refine awp_seq ?_); refine awp_reg1 (by rw [hx]; kernel_rfl) fun K hK => ?_; simp (maxSteps := 1000000) []; refine hK _ ?_; clear hK K; (first | show AWP _ _ _ _ _ | show ∃ _, _ | skip)
  (repeat refine awp_seq ?_); refine awp_block ?_
  refine AWP.weak ?_ (wk_nilCell 3 0 9 1000 2 (o := ⟨false, false, 10, [cTo t (.sl true true [])]⟩) (row := cTo t (.sl true true [])) (fu := true) (by simp) rfl rfl rfl (by simp) (by decide))
  refine awp_loop (fun i : Nat => ⟨ofL [(1, .ptr 1 10 0 0), (2, .ptr 2 10 0 0), (3, .ptr 3 10 0 0), (4, encI i)],
      stoT [(1, 1, .live (obTi t)), (2, 2, .live ⟨false, false, 10, [[encI 0, encI 0, encI 0, encI 0, encI 0, encI 0, encI 0, encI 0, encI 0, .sl true true []]]⟩), (3, 3, .live ⟨false, false, 10, [cTo t (.own 1000 2 0 i)]⟩), (1000, 1000, .live ⟨(U i).isEmpty, false, 2, (U i).map cTs⟩)]⟩)
    (fun i => i ≤ t.ts.length) (fun i => t.ts.length - i) 0 (by simp) ?_ ?_
  · refine wk_shape (shp0 hσ (by simp) (by simp) ?_) ?_
    · simp [SlotOk, hU0] <;> (repeat' (first | (refine RowsOk.same ?_; simp [purel, C.isPure]; done) | (refine rowsCons ?_; simp [mtl, mtc, mT, mH, C.isPure, purel]; done) | (refine rowsCons ?_; simp [mtl, mtc, mT, mH, C.isPure, purel]) | refine And.intro ?_ ?_))
    · simp [mtc, mtl, mT, C.isPure, purel, hU0] <;> (try simp (disch := omega) [wrap_id]) <;> (try omega)
  · intro i hi
    have hUi := hUl i hi
    (repeat refine awp_seq ?_); refine awp_reg1 (by rw [hx]; kernel_rfl) fun K hK => ?_; simp (maxSteps := 1000000) [ty28, ty26, ty3]; refine hK _ ?_; clear hK K; (first | show AWP _ _ _ _ _ | show ∃ _, _ | skip)
    (repeat refine awp_seq ?_); refine awp_cond (by simp; rfl) (by rw [hx]; simp) (fun hc => ?_) (fun hc => ?_)
    · simp at hc
      refine awp_skip ?_; (first | show AWP _ _ _ _ _ | show ∃ _, _ | skip)
      (repeat refine awp_seq ?_); refine awp_block ?_
      have hst := hUs i hc
      have hln := hl.l _ (List.getElem_mem hc)
      obtain ⟨y, hy⟩ : ∃ y, y = t.ts[i] := ⟨_, rfl⟩
      generalize hV : U i = V at *
      have hwi : IntKind.i64.wrap ((i : Int) + 1) = ((i + 1 : Nat) : Int) := by rw [wrap_id (by omega) (by omega)]; rfl
      (repeat refine awp_seq ?_); refine awp_drw3 [1001, 1003, 1007, 1010, 1014, 15, 17, 5018, 11000] [0, 1, 2, 3, 4, 5, 6, 7, 8, 9, 10, 11, 12, 13, 14, 15, 16, 17, 18, 19, 20] (by rw [hx]; kernel_rfl) (by kernel_rfl) (by kernel_rfl) (by kernel_rfl) fun K hK => ?_; simp (maxSteps := 1000000) [ty28, ty26, ty3, ty46, ty44, ty102, hc, ← hy]
      refine ⟨⟨by rw [hy]; omega, by rw [hy]; omega⟩, ⟨by omega, by omega, by omega⟩, ?_⟩
      refine hK _ ?_; clear hK K; (first | show AWP _ _ _ _ _ | show ∃ _, _ | skip)
      rw [← hy] at hst
      refine AWP.weak ?_ (wk_frzCell 29 32 i 1 (o := ⟨y.l.isEmpty, true, 5, y.l.map cWl⟩) (oq := ⟨false, false, 2, V.map cTs ++ [[encI y.area, .own 29 5 0 y.l.length]]⟩) (row := [encI y.area, .own 29 5 0 y.l.length]) (c := .own 29 5 0 y.l.length) (c' := sWl false false y.l) (by simp) (by simp [purel, C.isPure]) (by simp) (by decide) rfl
        (by show (V.map cTs ++ [[encI y.area, .own 29 5 0 y.l.length]])[i]? = _
            rw [List.getElem?_append_right (by simp; omega)]
            simp [hUi]) rfl (by
        have := fz_own (k := 29) (sz := 5) (n := y.l.length) (b := false) (o := ⟨y.l.isEmpty, true, 5, y.l.map cWl⟩) rfl (by simp) (by simp)
        simpa using this) rfl)
      have hset : (V.map cTs ++ [[encI y.area, .own 29 5 0 y.l.length]]).set i [encI y.area, sWl false false y.l] = (V ++ [copyY y]).map cTs := by
        rw [set_last _ _ _ (by simp [hUi])]
        simp [copyY]
      simp only [List.set_cons_succ, List.set_cons_zero]
      rw [hset]
      (repeat refine awp_seq ?_); refine awp_reg1 (by rw [hx]; kernel_rfl) fun K hK => ?_; simp (maxSteps := 1000000) [ty3]; refine hK _ ?_; clear hK K; (first | show AWP _ _ _ _ _ | show ∃ _, _ | skip)
      refine ⟨i + 1, by omega, by omega, ?_⟩
      rw [hst, hwi]
      refine wk_shape2 [(1, 1, .live (obTi t)), (2, 2, .live ⟨false, false, 10, [[encI 0, encI 0, encI 0, encI 0, encI 0, encI 0, encI 0, encI 0, encI 0, .sl true true []]]⟩), (3, 3, .live ⟨false, false, 10, [cTo t (.own 1000 2 0 (i + 1))]⟩), (1000, 32, .live ⟨(V ++ [copyY y]).isEmpty, false, 2, (V ++ [copyY y]).map cTs⟩)] (by first | rfl | (simp only [if_pos, if_true]; rfl)) (shp0 hσ (by simp) (by simp) ?_) ?_
      · simp [SlotOk] <;> (repeat' (first | (refine RowsOk.same ?_; simp [purel, C.isPure]; done) | (refine rowsCons ?_; simp [mtl, mtc, mT, mH, C.isPure, purel]; done) | (refine rowsCons ?_; simp [mtl, mtc, mT, mH, C.isPure, purel]) | refine And.intro ?_ ?_))
      · simp [mtc, mtl, mT, C.isPure, purel] <;> (try simp (disch := omega) [wrap_id]) <;> (try omega)
    · simp at hc
      (repeat refine awp_seq ?_); refine awp_exit ?_; (first | show AWP _ _ _ _ _ | show ∃ _, _ | skip)
      have hin : i = t.ts.length := by omega
      rw [hin] at hUi ⊢
      have hem : (U t.ts.length).isEmpty = t.ts.isEmpty := by
        cases h1 : U t.ts.length <;> cases h2 : t.ts <;> rw [h1, h2] at hUi <;> simp at hUi <;> rfl
      generalize U t.ts.length = V at *
      rw [hem]
      (repeat refine awp_seq ?_); refine awp_reg1 (by rw [hx]; kernel_rfl) fun K hK => ?_; simp (maxSteps := 1000000) [ty28]; refine hK _ ?_; clear hK K; (first | show AWP _ _ _ _ _ | show ∃ _, _ | skip)
      (repeat refine awp_seq ?_); refine awp_ret ?_; refine And.intro (Or.inr rfl) ?_
      refine ⟨.agg (cTo t (.own 1000 2 0 t.ts.length)), [(B, 1000, .live ⟨t.ts.isEmpty, false, 2, V.map cTs⟩)], ?_, shp0 hσ (by simp) (by simp) ?_, ?_, rfl⟩
      · simp [retC, resC, viewC, mapO, ty28]
      · simp [SlotOk]
        exact .same (by simp [purel, C.isPure])
      · simp [mtc, mtl, mT, C.isPure, purel]

end Go.Proofs.Ytbhbmnofmoibhaa

namespace Go.Proofs.Ytbhbmnofmoibhaa
open Go Go.Abs

set_option maxHeartbeats 8000000

/-- Each test of one trial is one of the other. -/
structure Cov (a b : Ti) : Prop where
  w : a.w = b.w
  gain : a.gain = b.gain
  at_ : ∀ y ∈ a.ts, ∃ z ∈ b.ts, y.area = z.area ∧ y.l = z.l

theorem allow_eq {w : Wh} {y z : Ts} {k : Tr} (h1 : y.area = z.area) (h2 : y.l = z.l) : allowB w y k = allowB w z k := by
  unfold allowB tellA; rw [h1, h2]

theorem Cov.sub {a b : Ti} (h : Cov a b) : ∀ k ∈ trL b, k ∈ trL a := by
  intro k hk
  rw [trL_mem] at hk ⊢
  unfold isTrB at hk ⊢
  rw [h.w, h.gain]
  simp only [Bool.and_eq_true, List.all_eq_true] at hk ⊢
  refine ⟨hk.1, fun y hy => ?_⟩
  obtain ⟨z, hz, h1, h2⟩ := h.at_ y hy
  rw [allow_eq h1 h2]
  exact hk.2 z hz

theorem cov_trL {a b : Ti} (h : Cov a b) (g : Cov b a) : trL a = trL b := by
  have e : gwT a = gwT b := by unfold gwT; rw [h.w, h.gain]
  show truthsS a (allS a) = truthsS b (allS b)
  rw [← truths_filter, ← truths_filter, e]
  refine List.filter_congr fun k _ => ?_
  rw [Bool.eq_iff_iff, ← trL_mem, ← trL_mem]
  exact ⟨g.sub k, h.sub k⟩

theorem Cov.ok {a b : Ti} (h : Cov a b) (hb : TiOk b) (hl : a.ts.length ≤ 6) : TiOk a := by
  refine ⟨by rw [h.gain]; exact hb.gain, hl, fun y hy => ?_, by rw [h.w]; exact hb.wh, fun y hy => ?_⟩
  · obtain ⟨z, hz, h1, h2⟩ := h.at_ y hy
    rw [h1]; exact hb.area z hz
  · obtain ⟨z, hz, h1, h2⟩ := h.at_ y hy
    rw [h2, h.w]; exact hb.chk z hz

/-- As many tests of the other trial at most tell the same. -/
theorem Cov.sets {a b : Ti} (h : Cov a b) (g : Cov b a) (ha : a.ts.length ≤ 6) (hb : b.ts.length ≤ 6) {s : Nat} (hs : s < 2 ^ a.ts.length) :
    ∃ r, r < 2 ^ b.ts.length ∧ truthsS b r = truthsS a s ∧ popc r ≤ popc s := by
  have hj : ∀ i (hi : i < a.ts.length), ∃ j, ∃ hj : j < b.ts.length, a.ts[i].area = b.ts[j].area ∧ a.ts[i].l = b.ts[j].l := by
    intro i hi
    obtain ⟨z, hz, h1⟩ := h.at_ _ (List.getElem_mem hi)
    obtain ⟨j, hj, rfl⟩ := List.getElem_of_mem hz
    exact ⟨j, hj, h1⟩
  obtain ⟨f, hf⟩ : ∃ f : Nat → Nat, ∀ i (hi : i < a.ts.length), ∃ hj : f i < b.ts.length, a.ts[i].area = b.ts[f i].area ∧ a.ts[i].l = b.ts[f i].l := by
    refine ⟨fun i => if hi : i < a.ts.length then Classical.choose (hj i hi) else 0, fun i hi => ?_⟩
    have := Classical.choose_spec (hj i hi)
    simp only [dif_pos hi]
    exact this
  obtain ⟨r, h1, h2⟩ := bits_ex (fun j => decide (∃ i, i < a.ts.length ∧ s.testBit i = true ∧ f i = j)) b.ts.length
  have e : gwT b = gwT a := by unfold gwT; rw [h.w, h.gain]
  refine ⟨r, h1, ?_, ?_⟩
  · unfold truthsS
    rw [e]
    refine List.filter_congr fun k _ => ?_
    rw [Bool.eq_iff_iff, okS_iff, okS_iff]
    constructor
    · intro hk i hi hb
      obtain ⟨hl, q1, q2⟩ := hf i hi
      rw [allow_eq q1 q2, h.w]
      exact hk (f i) hl (by rw [h2 _ hl, decide_eq_true_eq]; exact ⟨i, hi, hb, rfl⟩)
    · intro hk j hj hb
      rw [h2 _ hj, decide_eq_true_eq] at hb
      obtain ⟨i, hi, hb, rfl⟩ := hb
      obtain ⟨hl, q1, q2⟩ := hf i hi
      rw [← allow_eq q1 q2, ← h.w]
      exact hk i hi hb
  · rw [← listS_len hs (by omega), ← listS_len h1 (by omega)]
    suffices hsl : (listS b r).length ≤ ((listS a s).map fun z : Int => ((f z.toNat : Nat) : Int)).length by
      rw [List.length_map] at hsl; exact hsl
    refine sub_len _ _ ((fixTo_lt _ _).imp fun h => Int.ne_of_lt h) fun z hz => ?_
    obtain ⟨j, hj, hb, rfl⟩ := listS_mem.1 hz
    rw [h2 _ hj, decide_eq_true_eq] at hb
    obtain ⟨i, hi, hb, rfl⟩ := hb
    exact List.mem_map.2 ⟨(i : Int), listS_mem.2 ⟨i, hi, hb, rfl⟩, by simp⟩

theorem cov_dec {a b : Ti} (h : Cov a b) (g : Cov b a) (ha : a.ts.length ≤ 6) (hb : b.ts.length ≤ 6) (c : Cl) (hd : decSets a c ≠ []) : ∃ x r y q, decSets a c = x :: r ∧ decSets b c = y :: q ∧ popc y ≤ popc x := by
  obtain ⟨x, r, hx⟩ := decSets_cons hd
  obtain ⟨h1, h2⟩ := decSets_of (t := a) (c := c) (s := x) (by rw [hx]; simp)
  obtain ⟨z, h3, h4, h5⟩ := h.sets g ha hb h1
  have h6 : cdB b c z = true := by unfold cdB at h2 ⊢; rw [h4]; exact h2
  cases hy : decSets b c with
  | nil =>
    rcases decL_spec (cdB b c) (2 ^ b.ts.length) with ⟨_, h8⟩ | ⟨m, h7, _⟩
    · rw [h8 z h3] at h6; cases h6
    · exact absurd hy h7
  | cons y q =>
    have := few_le hy h3 h6
    exact ⟨x, r, y, q, hx, rfl, by omega⟩

/-- Trials that have the same tests are answered the same. -/
theorem cov_same {a b : Ti} (h : Cov a b) (g : Cov b a) (ha : TiOk a) (hb : TiOk b) (c : Cl) :
    (∀ is, openT a is = openT b is) ∧ manyT a = manyT b ∧ (∀ f is, numsT f a is = numsT f b is) ∧ (∀ f is, endsT f a is = endsT f b is) ∧ decE a c = decE b c ∧ fewestT a c = fewestT b c := by
  have e1 := cov_trL h g
  have e1' : truthsS a (allS a) = truthsS b (allS b) := e1
  have e2 : ∀ is, openT a is = openT b is := by
    intro is
    unfold openT
    rw [checkT_ok.2 ha, checkT_ok.2 hb, e1']
  have e3 : ∀ f is, numsT f a is = numsT f b is := by
    intro f is
    unfold numsT
    rw [e2, e1']
  have e5 : decE a c = decE b c := by
    unfold decE
    rw [e2]
    by_cases q1 : decSets a c = []
    · by_cases q2 : decSets b c = []
      · rw [q1, q2]
      · obtain ⟨x, r, y, q, h1, h2, _⟩ := cov_dec g h hb.len ha.len c q2
        rw [q1] at h2; cases h2
    · by_cases q2 : decSets b c = []
      · obtain ⟨x, r, y, q, h1, h2, _⟩ := cov_dec h g ha.len hb.len c q1
        rw [q2] at h2; cases h2
      · rw [if_neg q1, if_neg q2]
  refine ⟨e2, ?_, e3, fun f is => by unfold endsT; rw [e3], e5, ?_⟩
  · unfold manyT; rw [e2, e1']
  · unfold fewestT
    rw [e5]
    split
    · rename_i hz
      obtain ⟨_, _, hd⟩ := decE_ok (t := a) (by rw [e5]; exact hz)
      obtain ⟨x, r, y, q, h1, h2, h3⟩ := cov_dec h g ha.len hb.len c hd
      obtain ⟨y', q', x', r', k1, k2, k3⟩ := cov_dec g h hb.len ha.len c (by rw [h2]; simp)
      rw [h1] at k2
      rw [h2] at k1
      injection k1 with k1a k1b
      injection k2 with k2a k2b
      subst k1a k2a
      rw [h1, h2]
      show ((popc x : Nat) : Int) = (popc y : Int)
      omega
    · rfl

/-- A trial whose tests come in another order. -/
def atY (t : Ti) (i : Nat) : Ts := t.ts[i]?.getD ⟨0, true, true, []⟩
def turnL (t : Ti) (f i : Nat) : List Ts := (List.range t.ts.length).map fun j => if j < i then atY t ((j + f) % t.ts.length) else copyY (atY t j)
def turnT (t : Ti) (f : Nat) : Ti := { t with nl := t.ts.isEmpty, fu := false, ts := turnL t f t.ts.length }

theorem atY_get {t : Ti} {i : Nat} (h : i < t.ts.length) : atY t i = t.ts[i] := by unfold atY; rw [List.getElem?_eq_getElem h]; rfl
theorem atY_mem {t : Ti} {i : Nat} (h : i < t.ts.length) : atY t i ∈ t.ts := by rw [atY_get h]; exact List.getElem_mem h

theorem turn_zero (t : Ti) (f : Nat) : turnL t f 0 = t.ts.map copyY := by
  refine List.ext_getElem (by simp [turnL]) fun i h1 h2 => ?_
  have : i < t.ts.length := by simpa [turnL] using h1
  simp [turnL, atY_get this]
theorem turn_len (t : Ti) (f i : Nat) : (turnL t f i).length = t.ts.length := by simp [turnL]
theorem turn_set {t : Ti} {f i : Nat} (hi : i < t.ts.length) : (turnL t f i).set i (t.ts[(i + f) % t.ts.length]'(Nat.mod_lt _ (by omega))) = turnL t f (i + 1) := by
  refine List.ext_getElem (by simp [turnL]) fun j h1 h2 => ?_
  have hj : j < t.ts.length := by simpa [turnL] using h2
  rw [List.getElem_set]
  split
  · rename_i e
    subst e
    simp [turnL, atY_get (Nat.mod_lt (i + f) (show 0 < t.ts.length by omega))]
  · rename_i e
    by_cases q : j < i
    · have : j < i + 1 := by omega
      simp [turnL, q, this]
    · have : ¬ j < i + 1 := by omega
      simp [turnL, q, this]

theorem turn_cov (t : Ti) (f : Nat) : Cov (turnT t f) t ∧ Cov t (turnT t f) := by
  have hm : ∀ y, y ∈ (turnT t f).ts ↔ ∃ j, j < t.ts.length ∧ y = atY t ((j + f) % t.ts.length) := by
    intro y
    show y ∈ turnL t f t.ts.length ↔ _
    unfold turnL
    rw [List.mem_map]
    constructor
    · rintro ⟨j, hj, rfl⟩
      have := List.mem_range.1 hj
      exact ⟨j, this, by rw [if_pos this]⟩
    · rintro ⟨j, hj, rfl⟩
      exact ⟨j, List.mem_range.2 hj, by rw [if_pos hj]⟩
  refine ⟨⟨rfl, rfl, fun y hy => ?_⟩, ⟨rfl, rfl, fun y hy => ?_⟩⟩
  · obtain ⟨j, hj, rfl⟩ := (hm y).1 hy
    exact ⟨_, atY_mem (Nat.mod_lt _ (by omega)), rfl, rfl⟩
  · obtain ⟨i, hi, rfl⟩ := List.getElem_of_mem hy
    have hn : 0 < t.ts.length := by omega
    have h1 := Nat.mod_lt f hn
    have h0 := Nat.div_add_mod f t.ts.length
    have key : ∃ j, j < t.ts.length ∧ (j + f) % t.ts.length = i := by
      by_cases q : f % t.ts.length ≤ i
      · refine ⟨i - f % t.ts.length, by omega, ?_⟩
        rw [show i - f % t.ts.length + f = i + t.ts.length * (f / t.ts.length) by omega, Nat.add_mul_mod_self_left, Nat.mod_eq_of_lt hi]
      · refine ⟨i + t.ts.length - f % t.ts.length, by omega, ?_⟩
        rw [show i + t.ts.length - f % t.ts.length + f = i + t.ts.length + t.ts.length * (f / t.ts.length) by omega, Nat.add_mul_mod_self_left, Nat.add_mod_right, Nat.mod_eq_of_lt hi]
    obtain ⟨j, hj, e⟩ := key
    refine ⟨atY t ((j + f) % t.ts.length), (hm _).2 ⟨j, hj, rfl⟩, ?_⟩
    rw [e, atY_get hi]
    exact ⟨rfl, rfl⟩

theorem copy_cov (t : Ti) : Cov (copyT t) t ∧ Cov t (copyT t) := by
  have e : (copyT t).ts = t.ts.map copyY := rfl
  refine ⟨⟨rfl, rfl, fun y hy => ?_⟩, ⟨rfl, rfl, fun y hy => ?_⟩⟩
  · rw [e] at hy
    obtain ⟨z, hz, rfl⟩ := List.mem_map.1 hy
    exact ⟨z, hz, rfl, rfl⟩
  · exact ⟨copyY y, by rw [e]; exact List.mem_map.2 ⟨y, hy, rfl⟩, rfl, rfl⟩

theorem add_cov {t : Ti} {y : Ts} (hy : y ∈ t.ts) : Cov (addT t y) t ∧ Cov t (addT t y) := by
  have e : (addT t y).ts = t.ts.map copyY ++ [y] := rfl
  refine ⟨⟨rfl, rfl, fun z hz => ?_⟩, ⟨rfl, rfl, fun z hz => ?_⟩⟩
  · rw [e, List.mem_append, List.mem_singleton] at hz
    rcases hz with hz | rfl
    · obtain ⟨x, hx, rfl⟩ := List.mem_map.1 hz
      exact ⟨x, hx, rfl, rfl⟩
    · exact ⟨z, hy, rfl, rfl⟩
  · exact ⟨copyY z, by rw [e]; exact List.mem_append.2 (.inl (List.mem_map.2 ⟨z, hz, rfl⟩)), rfl, rfl⟩

end Go.Proofs.Ytbhbmnofmoibhaa

namespace Go.Proofs.Ytbhbmnofmoibhaa
open Go Go.Abs

set_option maxHeartbeats 8000000

theorem alike14 {a b : Ti} (h : Cov a b) (g : Cov b a) (ha : TiOk a) (hb : TiOk b) (la : TiLen a) (lb : TiLen b) (c : Cl) : Pure Try.prog 14 [encTi a, encTi b, encCl c] (.bool true) := by
  obtain ⟨e1, e2, e3, e4, e5, e6⟩ := cov_same h g ha hb c
  have a31 := many31 a la
  have a22 := gains22 a la
  have a23 := skews23 a la
  have a24 := errs24 a c.size la
  have a38 := fewest38 a c la
  have b31 := many31 b lb
  have b22 := gains22 b lb
  have b23 := skews23 b lb
  have b24 := errs24 b c.size lb
  have b38 := fewest38 b c lb
  rw [e1, e2] at a31
  rw [e3, e1] at a22
  rw [e3, e1] at a23
  rw [e4, e1] at a24
  rw [e6, e5] at a38
  have g1 := numsT_len Tr.area b true
  have g2 := numsT_len Tr.skew b true
  have s1 := same29 (numsT Tr.area b true).isEmpty (numsT Tr.area b true).isEmpty (numsT Tr.area b true).isEmpty (numsT Tr.area b true).isEmpty (numsT Tr.area b true) (numsT Tr.area b true) (by omega) (by omega)
  have s2 := same29 (numsT Tr.skew b true).isEmpty (numsT Tr.skew b true).isEmpty (numsT Tr.skew b true).isEmpty (numsT Tr.skew b true).isEmpty (numsT Tr.skew b true) (numsT Tr.skew b true) (by omega) (by omega)
  simp only [decide_true] at s1 s2
  have he2 : ∀ p : Int × Int, eqInts [.i64, .i64] [.int .i64 p.1, .int .i64 p.2] [.int .i64 p.1, .int .i64 p.2] = some true := fun p => by simp [eqInts]
  refine pure_of (fn := Try.f14) [.tmp 6] ⟨Try.func14, rfl, by kernel_rfl⟩ (by kernel_rfl) (by kernel_rfl) (by kernel_rfl) fun x hx hσ => ?_
  (repeat refine awp_seq ?_); refine awp_reg1 (by rw [hx]; kernel_rfl) fun K hK => ?_; simp (maxSteps := 1000000) [ty28, ty30]; refine hK _ ?_; clear hK K; (first | show AWP _ _ _ _ _ | show ∃ _, _ | skip)
  (repeat refine awp_seq ?_); refine awp_reg1 (by rw [hx]; kernel_rfl) fun K hK => ?_; simp (maxSteps := 1000000) [ty28]
  refine callP (a31) (by first | (simp; done) | (simp [*]; done)) ?_; simp (maxSteps := 1000000) [ty28]
  refine hK _ ?_; clear hK K; (first | show AWP _ _ _ _ _ | show ∃ _, _ | skip)
  (repeat refine awp_seq ?_); refine awp_reg1 (by rw [hx]; kernel_rfl) fun K hK => ?_; simp (maxSteps := 1000000) [ty28]
  refine callP (b31) (by first | (simp; done) | (simp [*]; done)) ?_; simp (maxSteps := 1000000) [ty28]
  refine hK _ ?_; clear hK K; (first | show AWP _ _ _ _ _ | show ∃ _, _ | skip)
  (repeat refine awp_seq ?_); refine awp_reg1 (by rw [hx]; kernel_rfl) fun K hK => ?_; simp (maxSteps := 1000000) [ty28]
  refine callP (a22) (by first | (simp; done) | (simp [*]; done)) ?_; simp (maxSteps := 1000000) [ty28, ty49]
  refine hK _ ?_; clear hK K; (first | show AWP _ _ _ _ _ | show ∃ _, _ | skip)
  (repeat refine awp_seq ?_); refine awp_reg1 (by rw [hx]; kernel_rfl) fun K hK => ?_; simp (maxSteps := 1000000) [ty28]
  refine callP (b22) (by first | (simp; done) | (simp [*]; done)) ?_; simp (maxSteps := 1000000) [ty28, ty49]
  refine hK _ ?_; clear hK K; (first | show AWP _ _ _ _ _ | show ∃ _, _ | skip)
  (repeat refine awp_seq ?_); refine awp_reg1 (by rw [hx]; kernel_rfl) fun K hK => ?_; simp (maxSteps := 1000000) [ty28]
  refine callP (a23) (by first | (simp; done) | (simp [*]; done)) ?_; simp (maxSteps := 1000000) [ty28, ty49]
  refine hK _ ?_; clear hK K; (first | show AWP _ _ _ _ _ | show ∃ _, _ | skip)
  (repeat refine awp_seq ?_); refine awp_reg1 (by rw [hx]; kernel_rfl) fun K hK => ?_; simp (maxSteps := 1000000) [ty28]
  refine callP (b23) (by first | (simp; done) | (simp [*]; done)) ?_; simp (maxSteps := 1000000) [ty28, ty49]
  refine hK _ ?_; clear hK K; (first | show AWP _ _ _ _ _ | show ∃ _, _ | skip)
  (repeat refine awp_seq ?_); refine awp_reg1 (by rw [hx]; kernel_rfl) fun K hK => ?_; simp (maxSteps := 1000000) [ty28, ty30, ty3]
  refine callP (a24) (by first | (simp; done) | (simp [*]; done)) ?_; simp (maxSteps := 1000000) [ty28, ty23]
  refine hK _ ?_; clear hK K; (first | show AWP _ _ _ _ _ | show ∃ _, _ | skip)
  (repeat refine awp_seq ?_); refine awp_reg1 (by rw [hx]; kernel_rfl) fun K hK => ?_; simp (maxSteps := 1000000) [ty28, ty30, ty3]
  refine callP (b24) (by first | (simp; done) | (simp [*]; done)) ?_; simp (maxSteps := 1000000) [ty28, ty23]
  refine hK _ ?_; clear hK K; (first | show AWP _ _ _ _ _ | show ∃ _, _ | skip)
  (repeat refine awp_seq ?_); refine awp_reg1 (by rw [hx]; kernel_rfl) fun K hK => ?_; simp (maxSteps := 1000000) [ty28, ty30]
  refine callP (a38) (by first | (simp; done) | (simp [*]; done)) ?_; simp (maxSteps := 1000000) [ty28]
  refine hK _ ?_; clear hK K; (first | show AWP _ _ _ _ _ | show ∃ _, _ | skip)
  (repeat refine awp_seq ?_); refine awp_reg1 (by rw [hx]; kernel_rfl) fun K hK => ?_; simp (maxSteps := 1000000) [ty28, ty30]
  refine callP (b38) (by first | (simp; done) | (simp [*]; done)) ?_; simp (maxSteps := 1000000) [ty28]
  refine hK _ ?_; clear hK K; (first | show AWP _ _ _ _ _ | show ∃ _, _ | skip)
  (repeat refine awp_seq ?_); refine awp_reg1 (by rw [hx]; kernel_rfl) fun K hK => ?_; simp (maxSteps := 1000000) [ty34, ty49, ty3, ty4, ty23]
  refine callP (s1) (by first | (simp; done) | (simp [*]; done)) ?_; simp (maxSteps := 1000000) [ty34, ty49, ty3, ty4, ty23]
  refine callP (s2) (by first | (simp; done) | (simp [*]; done)) ?_; simp (maxSteps := 1000000) [ty34, ty49, ty3, ty4, ty23, fe23, he2]
  refine hK _ ?_; clear hK K; (first | show AWP _ _ _ _ _ | show ∃ _, _ | skip)
  (repeat refine awp_seq ?_); refine awp_ret ?_; refine And.intro (Or.inr rfl) ?_
  simp [retC, resC, viewC, mapO]

theorem copyM10 (t : Ti) (hl : TiLen t) : Makes Try.prog 13 [encTi t] [⟨t.ts.isEmpty, false, 2, (t.ts.map copyY).map cTs⟩] (fun B => .agg (cTo t (.own B 2 0 t.ts.length))) :=
  Makes.of fun B => q_copyE10 t hl B

theorem makesD {P : Program} {Y : YRel} {ops : Array Oper} {na : List Nat} {l : List (Nat × Oper)} {K : AS → Prop} {s : AS} {d : Nat} {f : FuncId} {args : List C} {obs : List Ob} {r : Nat → C} {m : Nat} (hp : Makes P f args obs r) (hf : ∀ q, mkB d ≤ q → q < mkB d + obs.length → s.sto q = .free)
    (hm : m = 0 ∨ m = 4) (h : evalD P Y ops na l ⟨putE s.env (some d) (r (mkB d)), updK s.sto (mkB d) obs⟩ K) : contCD P Y ops na l K s (some d) m f args :=
  .inr (.inr (.inl ⟨hm, _, _, hp s.sto (mkB d) hf, fun _ => ⟨obs, r, d, rfl, hp, hf, rfl, rfl⟩, h⟩))
theorem exq (B : Nat) (q : Nat) (h1 : mkB B ≤ q) : 100000 ≤ q := by unfold mkB at h1; omega
@[simp] theorem updK_apply (σ : Nat → Slot) (B : Nat) (obs : List Ob) (k : Nat) : updK σ B obs k = if B ≤ k ∧ k < B + obs.length then .live (obs[k - B]?.getD ⟨false, false, 0, []⟩) else σ k := rfl

end Go.Proofs.Ytbhbmnofmoibhaa

namespace Go.Proofs.Ytbhbmnofmoibhaa
open Go Go.Abs

set_option maxHeartbeats 8000000
set_option maxRecDepth 4000




theorem law4c (t : Ti) (F W : Int) (c : Cl) : Pure Try.prog 4 [encTi t, .agg [encI F, encI W, encI c.size, encI c.most]] (.bool true) := by
  obtain ⟨f, hF, hf⟩ := ready19 t
  refine pure_of (fn := Try.f4) [.tmp 4] ⟨Try.func4, rfl, by kernel_rfl⟩ (by kernel_rfl) (by kernel_rfl) (by kernel_rfl) fun x hx hσ => ?_
  (repeat refine awp_seq ?_); refine awp_reg1 (by rw [hx]; kernel_rfl) fun K hK => ?_; simp (maxSteps := 1000000) [ty28, ty42]; refine hK _ ?_; clear hK K; (first | show AWP _ _ _ _ _ | show ∃ _, _ | skip)
  cases f
  · (repeat refine awp_seq ?_); refine awp_reg1 (by rw [hx]; kernel_rfl) fun K hK => ?_; simp (maxSteps := 1000000) [ty28]
    refine callP (hF) (by first | (simp; done) | (simp [*]; done)) ?_; simp (maxSteps := 1000000) [ty4]
    refine hK _ ?_; clear hK K; (first | show AWP _ _ _ _ _ | show ∃ _, _ | skip)
    (repeat refine awp_seq ?_); refine awp_cond (by simp; rfl) (by rw [hx]; simp) (fun hd => ?_) (fun hd => ?_)
    · clear hd
      (repeat refine awp_seq ?_); refine awp_reg1 (by rw [hx]; kernel_rfl) fun K hK => ?_; simp (maxSteps := 1000000) []
      refine callP (works9) (by first | (simp; done) | (simp [*]; done)) ?_; simp (maxSteps := 1000000) []
      refine hK _ ?_; clear hK K; (first | show AWP _ _ _ _ _ | show ∃ _, _ | skip)
      (repeat refine awp_seq ?_); refine awp_ret ?_; refine And.intro (Or.inr rfl) ?_
      simp [retC, resC, viewC, mapO]
    · simp at hd
  obtain ⟨hz, hnear⟩ := hf rfl
  have hn := hnear.len
  have hok := checkT_ok.1 hz
  by_cases h3 : (3 : Int) < (t.ts.length : Int)
  · (repeat refine awp_seq ?_); refine awp_reg1 (by rw [hx]; kernel_rfl) fun K hK => ?_; simp (maxSteps := 1000000) [ty28]
    refine callP (hF) (by first | (simp; done) | (simp [*]; done)) ?_; simp (maxSteps := 1000000) [ty4, ty28, ty26, ty3, h3]
    refine hK _ ?_; clear hK K; (first | show AWP _ _ _ _ _ | show ∃ _, _ | skip)
    (repeat refine awp_seq ?_); refine awp_cond (by simp [h3]; rfl) (by rw [hx]; simp) (fun hd => ?_) (fun hd => ?_)
    · clear hd
      (repeat refine awp_seq ?_); refine awp_reg1 (by rw [hx]; kernel_rfl) fun K hK => ?_; simp (maxSteps := 1000000) []
      refine callP (works9) (by first | (simp; done) | (simp [*]; done)) ?_; simp (maxSteps := 1000000) []
      refine hK _ ?_; clear hK K; (first | show AWP _ _ _ _ _ | show ∃ _, _ | skip)
      (repeat refine awp_seq ?_); refine awp_ret ?_; refine And.intro (Or.inr rfl) ?_
      simp [retC, resC, viewC, mapO]
    · simp [h3] at hd
  by_cases f0 : F < 0
  · (repeat refine awp_seq ?_); refine awp_reg1 (by rw [hx]; kernel_rfl) fun K hK => ?_; simp (maxSteps := 1000000) [ty28]
    refine callP (hF) (by first | (simp; done) | (simp [*]; done)) ?_; simp (maxSteps := 1000000) [ty4, ty28, ty26, ty3, ty42, h3, f0]
    refine hK _ ?_; clear hK K; (first | show AWP _ _ _ _ _ | show ∃ _, _ | skip)
    (repeat refine awp_seq ?_); refine awp_cond (by simp [f0]; rfl) (by rw [hx]; simp) (fun hd => ?_) (fun hd => ?_)
    · clear hd
      (repeat refine awp_seq ?_); refine awp_reg1 (by rw [hx]; kernel_rfl) fun K hK => ?_; simp (maxSteps := 1000000) []
      refine callP (works9) (by first | (simp; done) | (simp [*]; done)) ?_; simp (maxSteps := 1000000) []
      refine hK _ ?_; clear hK K; (first | show AWP _ _ _ _ _ | show ∃ _, _ | skip)
      (repeat refine awp_seq ?_); refine awp_ret ?_; refine And.intro (Or.inr rfl) ?_
      simp [retC, resC, viewC, mapO]
    · simp [f0] at hd
  by_cases f1 : 100 < F
  · (repeat refine awp_seq ?_); refine awp_reg1 (by rw [hx]; kernel_rfl) fun K hK => ?_; simp (maxSteps := 1000000) [ty28]
    refine callP (hF) (by first | (simp; done) | (simp [*]; done)) ?_; simp (maxSteps := 1000000) [ty4, ty28, ty26, ty3, ty42, h3, f0, f1]
    refine hK _ ?_; clear hK K; (first | show AWP _ _ _ _ _ | show ∃ _, _ | skip)
    (repeat refine awp_seq ?_); refine awp_cond (by simp [f1]; rfl) (by rw [hx]; simp) (fun hd => ?_) (fun hd => ?_)
    · clear hd
      (repeat refine awp_seq ?_); refine awp_reg1 (by rw [hx]; kernel_rfl) fun K hK => ?_; simp (maxSteps := 1000000) []
      refine callP (works9) (by first | (simp; done) | (simp [*]; done)) ?_; simp (maxSteps := 1000000) []
      refine hK _ ?_; clear hK K; (first | show AWP _ _ _ _ _ | show ∃ _, _ | skip)
      (repeat refine awp_seq ?_); refine awp_ret ?_; refine And.intro (Or.inr rfl) ?_
      simp [retC, resC, viewC, mapO]
    · simp [f1] at hd
  cases hc : classB c
  · (repeat refine awp_seq ?_); refine awp_reg1 (by rw [hx]; kernel_rfl) fun K hK => ?_; simp (maxSteps := 1000000) [ty28]
    refine callP (hF) (by first | (simp; done) | (simp [*]; done)) ?_; simp (maxSteps := 1000000) [ty4, ty28, ty26, ty3, ty42, ty30, h3, f0, f1]
    refine callP (q_isClass20 c) (by first | (simp; done) | (simp [*]; done)) ?_; simp (maxSteps := 1000000) [ty4, hc]
    refine hK _ ?_; clear hK K; (first | show AWP _ _ _ _ _ | show ∃ _, _ | skip)
    (repeat refine awp_seq ?_); refine awp_cond (by simp [hc]; rfl) (by rw [hx]; simp) (fun hd => ?_) (fun hd => ?_)
    · clear hd
      (repeat refine awp_seq ?_); refine awp_reg1 (by rw [hx]; kernel_rfl) fun K hK => ?_; simp (maxSteps := 1000000) []
      refine callP (works9) (by first | (simp; done) | (simp [*]; done)) ?_; simp (maxSteps := 1000000) []
      refine hK _ ?_; clear hK K; (first | show AWP _ _ _ _ _ | show ∃ _, _ | skip)
      (repeat refine awp_seq ?_); refine awp_ret ?_; refine And.intro (Or.inr rfl) ?_
      simp [retC, resC, viewC, mapO]
    · simp [hc] at hd
  obtain ⟨g, rfl⟩ : ∃ g : Nat, F = g := ⟨F.toNat, by omega⟩
  have hcp := copyM10 t hn
  have tc := turn_cov t g
  have hto : TiOk (turnT t g) := tc.1.ok hok (by show (turnL t g t.ts.length).length ≤ 6; rw [turn_len]; omega)
  have htl : TiLen (turnT t g) := ⟨by show (turnL t g t.ts.length).length ≤ 1000; rw [turn_len]; omega, fun y hy => by
    obtain ⟨z, hz1, _, h2⟩ := tc.1.at_ y hy
    rw [h2]; exact hn.l z hz1⟩
  have al1 := alike14 tc.2 tc.1 hok hto hn htl c
  have al0 := alike14 (copy_cov t).2 (copy_cov t).1 hok ((copy_cov t).1.ok hok (by have e : (copyT t).ts = t.ts.map copyY := rfl; rw [e, List.length_map]; exact hok.len)) hn (copy_len hn) c
  (repeat refine awp_seq ?_); refine awp_reg1 (by rw [hx]; kernel_rfl) fun K hK => ?_; simp (maxSteps := 1000000) [ty28]
  refine callP (hF) (by first | (simp; done) | (simp [*]; done)) ?_; simp (maxSteps := 1000000) [ty4, ty28, ty26, ty3, ty42, ty30, h3, f0, f1]
  refine callP (q_isClass20 c) (by first | (simp; done) | (simp [*]; done)) ?_; simp (maxSteps := 1000000) [ty4, hc]
  refine hK _ ?_; clear hK K; (first | show AWP _ _ _ _ _ | show ∃ _, _ | skip)
  (repeat refine awp_seq ?_); refine awp_cond (by simp [hc]; rfl) (by rw [hx]; simp) (fun hd => ?_) (fun hd => ?_)
  · simp [hc] at hd
  clear hd
  refine awp_skip ?_; (first | show AWP _ _ _ _ _ | show ∃ _, _ | skip)
  (repeat refine awp_seq ?_); refine awp_drw3 [3001, 3003] [0, 2, 1, 3, 4, 5, 6, 7] (by rw [hx]; kernel_rfl) (by kernel_rfl) (by kernel_rfl) (by kernel_rfl) fun K hK => ?_; simp (maxSteps := 1000000) [ty28]
  refine makesD hcp ?_ (by simp) ?_
  · intro q h1 h2
    have := exq _ _ h1
    have e1 : q ≠ 2 := by omega
    have e2 : q ≠ 3 := by omega
    simp [e1, e2]
  simp [mkB]
  refine makesD hcp ?_ (by simp) ?_
  · intro q h1 h2
    simp only [mkB] at h1 h2
    simp at h2
    have e1 : q ≠ 2 := by omega
    have e2 : q ≠ 3 := by omega
    have e3 : ¬ q < 100351 := by omega
    simp [e1, e2, e3]
  simp [mkB, ty28]
  refine hK _ ?_; clear hK K; (first | show AWP _ _ _ _ _ | show ∃ _, _ | skip)
  (repeat refine awp_seq ?_); refine awp_reg1 (by rw [hx]; kernel_rfl) fun K hK => ?_; simp (maxSteps := 1000000) []; refine hK _ ?_; clear hK K; (first | show AWP _ _ _ _ _ | show ∃ _, _ | skip)
  (repeat refine awp_seq ?_); refine awp_block ?_
  refine awp_loop (fun i : Nat => ⟨ofL [(2, .ptr 2 10 0 0), (3, .ptr 3 4 0 0), (5, .ptr 5 10 0 0), (6, .ptr 6 10 0 0), (7, encI i)],
      stoT [(2, 2, .live (obTi t)), (3, 3, .live ⟨false, false, 4, [[encI g, encI W, encI c.size, encI c.most]]⟩), (5, 5, .live ⟨false, false, 10, [cTo t (.own 5001 2 0 t.ts.length)]⟩), (6, 6, .live ⟨false, false, 10, [cTo t (.own 5002 2 0 t.ts.length)]⟩),
        (5001, 5001, .live ⟨t.ts.isEmpty, false, 2, (turnL t g i).map cTs⟩), (5002, 5002, .live ⟨t.ts.isEmpty, false, 2, (t.ts.map copyY).map cTs⟩)]⟩)
    (fun i => i ≤ t.ts.length) (fun i => t.ts.length - i) 0 (Nat.zero_le _) ?_ ?_
  · rw [turn_zero]
    refine wk_shape2 [(2, 2, .live (obTi t)), (3, 3, .live ⟨false, false, 4, [[encI g, encI W, encI c.size, encI c.most]]⟩), (5, 5, .live ⟨false, false, 10, [cTo t (.own 5001 2 0 t.ts.length)]⟩), (6, 6, .live ⟨false, false, 10, [cTo t (.own 5002 2 0 t.ts.length)]⟩), (5001, 100350, .live ⟨t.ts.isEmpty, false, 2, (t.ts.map copyY).map cTs⟩), (5002, 100370, .live ⟨t.ts.isEmpty, false, 2, (t.ts.map copyY).map cTs⟩)] (by first | rfl | (simp only [if_pos, if_true]; rfl)) (shp0 hσ (by simp) (by simp) ?_) ?_
    · simp [SlotOk] <;> (repeat' (first | (refine RowsOk.same ?_; simp [purel, C.isPure]; done) | (refine rowsCons ?_; simp [mtl, mtc, mT, mH, C.isPure, purel]; done) | (refine rowsCons ?_; simp [mtl, mtc, mT, mH, C.isPure, purel]) | refine And.intro ?_ ?_))
    · simp [mtc, mtl, mT, C.isPure, purel] <;> (try simp (disch := omega) [wrap_id]) <;> (try omega)
  · intro i hi
    (repeat refine awp_seq ?_); refine awp_reg1 (by rw [hx]; kernel_rfl) fun K hK => ?_; simp (maxSteps := 1000000) [ty28, ty26, ty3]; refine hK _ ?_; clear hK K; (first | show AWP _ _ _ _ _ | show ∃ _, _ | skip)
    (repeat refine awp_seq ?_); refine awp_cond (by simp; rfl) (by rw [hx]; simp) (fun hq => ?_) (fun hq => ?_)
    · simp at hq
      refine awp_skip ?_; (first | show AWP _ _ _ _ _ | show ∃ _, _ | skip)
      (repeat refine awp_seq ?_); refine awp_block ?_
      have hln := turn_len t g i
      have hmod := Nat.mod_lt (i + g) (show 0 < t.ts.length by omega)
      have hst := turn_set (t := t) (f := g) hq
      have hwi : IntKind.i64.wrap ((i : Int) + 1) = ((i + 1 : Nat) : Int) := by rw [wrap_id (by omega) (by omega)]; rfl
      have hwg : IntKind.i64.wrap ((i : Int) + (g : Int)) = ((i + g : Nat) : Int) := by rw [wrap_id (by omega) (by omega)]; omega
      have hn0 : ¬ ((t.ts.length : Int) = 0) := by omega
      have htm : ((i : Int) + (g : Int)).tmod (t.ts.length : Int) = (((i + g) % t.ts.length : Nat) : Int) := by
        rw [show ((i : Int) + (g : Int)) = ((i + g : Nat) : Int) by omega]; rfl
      have hne : ¬ t.ts = [] := fun e => by rw [e] at hq; simp at hq
      obtain ⟨M, hM⟩ : ∃ M : Nat, M = (i + g) % t.ts.length := ⟨_, rfl⟩
      simp only [← hM] at htm hmod hst
      generalize hV : turnL t g i = V at *
      (repeat refine awp_seq ?_); refine awp_drw3 [1001, 1004, 1007, 1010, 1014, 2016, 15001] [0, 1, 2, 3, 4, 5, 6, 7, 8, 9, 10, 11, 12, 13, 14, 15, 16] (by rw [hx]; kernel_rfl) (by kernel_rfl) (by kernel_rfl) (by kernel_rfl) fun K hK => ?_; simp (maxSteps := 1000000) [ty28, ty26, ty42, ty46, ty3, hq, hwg, hn0, hln, htm, hmod, hne]
      refine hK _ ?_; clear hK K; (first | show AWP _ _ _ _ _ | show ∃ _, _ | skip)
      (repeat refine awp_seq ?_); refine awp_reg1 (by rw [hx]; kernel_rfl) fun K hK => ?_; simp (maxSteps := 1000000) [ty3]; refine hK _ ?_; clear hK K; (first | show AWP _ _ _ _ _ | show ∃ _, _ | skip)
      refine ⟨i + 1, by omega, by omega, ?_⟩
      rw [← hst, hwi]
      have hset : (V.map cTs).set i [encI t.ts[M].area, sWl t.ts[M].nl t.ts[M].fu t.ts[M].l] = (V.set i t.ts[M]).map cTs := by simp [List.map_set]
      simp only [encI, sWl] at hset
      rw [hset]
      generalize V.set i t.ts[M] = V' at *
      refine wk_shape (shp0 hσ (by simp) (by simp) ?_) ?_
      · simp [SlotOk, hne] <;> (repeat' (first | (refine RowsOk.same ?_; simp [purel, C.isPure]; done) | (refine rowsCons ?_; simp [mtl, mtc, mT, mH, C.isPure, purel]; done) | (refine rowsCons ?_; simp [mtl, mtc, mT, mH, C.isPure, purel]) | refine And.intro ?_ ?_))
      · simp [mtc, mtl, mT, C.isPure, purel, hne] <;> (try simp (disch := omega) [wrap_id]) <;> (try omega)
    · simp at hq
      (repeat refine awp_seq ?_); refine awp_exit ?_; (first | show AWP _ _ _ _ _ | show ∃ _, _ | skip)
      have hin : i = t.ts.length := by omega
      have hln := turn_len t g t.ts.length
      rw [hin]
      have hfz := fz_own (k := 5001) (sz := 2) (n := t.ts.length) (b := t.ts.isEmpty) (o := ⟨t.ts.isEmpty, false, 2, (turnL t g t.ts.length).map cTs⟩) rfl (by simp [hln]) (by simp)
      have htu : [cTo t (.sl t.ts.isEmpty false ((turnL t g t.ts.length).map cTs))] = [cTi (turnT t g)] := rfl
      have hcc : [cTo t (.sl t.ts.isEmpty false ((t.ts.map copyY).map cTs))] = [cTi (copyT t)] := rfl
      refine AWP.weak ?_ (wk_frzCell 5001 5 0 9 (o := ⟨t.ts.isEmpty, false, 2, (turnL t g t.ts.length).map cTs⟩) (oq := ⟨false, false, 10, [cTo t (.own 5001 2 0 t.ts.length)]⟩) (row := cTo t (.own 5001 2 0 t.ts.length)) (c := .own 5001 2 0 t.ts.length) (c' := .sl t.ts.isEmpty false ((turnL t g t.ts.length).map cTs)) (by simp) (by simp [purel, C.isPure]) (by simp) (by decide) rfl rfl rfl hfz rfl)
      simp only [List.set_cons_succ, List.set_cons_zero]
      rw [htu]
      by_cases w0 : 0 ≤ W
      · by_cases w1 : W < (t.ts.length : Int)
        · (repeat refine awp_seq ?_); refine awp_reg1 (by rw [hx]; kernel_rfl) fun K hK => ?_; simp (maxSteps := 1000000) [ty28, ty26, ty42, ty3, w0, w1]; refine hK _ ?_; clear hK K; (first | show AWP _ _ _ _ _ | show ∃ _, _ | skip)
          (repeat refine awp_seq ?_); refine awp_cond (by simp [w0, w1]; rfl) (by rw [hx]; simp) (fun hd => ?_) (fun hd => ?_)
          rotate_left
          · simp [w0, w1] at hd
          clear hd
          have hwn : W.toNat < t.ts.length := by omega
          have hym : t.ts[W.toNat] ∈ t.ts := List.getElem_mem hwn
          have ac := add_cov hym
          have hao : TiOk (addT t t.ts[W.toNat]) := ac.1.ok hok (by show (t.ts.map copyY ++ [t.ts[W.toNat]]).length ≤ 6; simp; omega)
          have hal : TiLen (addT t t.ts[W.toNat]) := ⟨by show (t.ts.map copyY ++ [t.ts[W.toNat]]).length ≤ 1000; simp; omega, fun y hy => by
            obtain ⟨z, hz1, _, h2⟩ := ac.1.at_ y hy
            rw [h2]; exact hn.l z hz1⟩
          have al2 := alike14 ac.2 ac.1 hok hao hn hal c
          (repeat refine awp_seq ?_); refine awp_drw3 [1001, 1003, 1005, 1007, 5009, 15002] [0, 1, 2, 3, 4, 5, 6, 7, 8, 9, 10, 11] (by rw [hx]; kernel_rfl) (by kernel_rfl) (by kernel_rfl) (by kernel_rfl) fun K hK => ?_; simp (maxSteps := 1000000) [ty28, ty26, ty42, ty46, ty3, w0, w1, hwn]
          refine ⟨⟨by omega, by omega⟩, ?_⟩
          refine hK _ ?_; clear hK K; (first | show AWP _ _ _ _ _ | show ∃ _, _ | skip)
          have hfz2 := fz_own (k := 81) (sz := 2) (n := t.ts.length + 1) (b := false) (o := ⟨false, false, 2, (t.ts.map copyY).map cTs ++ [cTs t.ts[W.toNat]]⟩) rfl (by simp) (by simp)
          have hadd : [cTo t (.sl false false ((t.ts.map copyY).map cTs ++ [cTs t.ts[W.toNat]]))] = [cTi (addT t t.ts[W.toNat])] := by simp [addT]
          refine AWP.weak ?_ (wk_frzCell 81 6 0 9 (o := ⟨false, false, 2, (t.ts.map copyY).map cTs ++ [cTs t.ts[W.toNat]]⟩) (oq := ⟨false, false, 10, [cTo t (.own 81 2 0 (t.ts.length + 1))]⟩) (row := cTo t (.own 81 2 0 (t.ts.length + 1))) (c := .own 81 2 0 (t.ts.length + 1)) (c' := .sl false false ((t.ts.map copyY).map cTs ++ [cTs t.ts[W.toNat]])) (by simp) (by simp [purel, C.isPure]) (by simp) (by decide) rfl rfl rfl hfz2 rfl)
          simp only [List.set_cons_succ, List.set_cons_zero]
          rw [hadd]
          (repeat refine awp_seq ?_); refine awp_reg1 (by rw [hx]; kernel_rfl) fun K hK => ?_; simp (maxSteps := 1000000) [ty28, ty42, ty30]
          refine callP (al1) (by first | (simp; done) | (simp [*]; done)) ?_; simp (maxSteps := 1000000) [ty4, ty28, ty42, ty30]
          refine callP (al2) (by first | (simp; done) | (simp [*]; done)) ?_; simp (maxSteps := 1000000) [ty4, ty28, ty42, ty30]
          refine callP (works9) (by first | (simp; done) | (simp [*]; done)) ?_; simp (maxSteps := 1000000) [ty4]
          refine hK _ ?_; clear hK K; (first | show AWP _ _ _ _ _ | show ∃ _, _ | skip)
          (repeat refine awp_seq ?_); refine awp_ret ?_; refine And.intro (Or.inr rfl) ?_
          simp [retC, resC, viewC, mapO]
        · (repeat refine awp_seq ?_); refine awp_reg1 (by rw [hx]; kernel_rfl) fun K hK => ?_; simp (maxSteps := 1000000) [ty28, ty26, ty42, ty3, w0, w1]; refine hK _ ?_; clear hK K; (first | show AWP _ _ _ _ _ | show ∃ _, _ | skip)
          (repeat refine awp_seq ?_); refine awp_cond (by simp [w0, w1]; rfl) (by rw [hx]; simp) (fun hd => ?_) (fun hd => ?_)
          · simp [w0, w1] at hd
          clear hd
          refine awp_skip ?_; (first | show AWP _ _ _ _ _ | show ∃ _, _ | skip)
          have al2 := al0
          have hfz2 := fz_own (k := 5002) (sz := 2) (n := t.ts.length) (b := t.ts.isEmpty) (o := ⟨t.ts.isEmpty, false, 2, (t.ts.map copyY).map cTs⟩) rfl (by simp) (by simp)
          refine AWP.weak ?_ (wk_frzCell 5002 6 0 9 (o := ⟨t.ts.isEmpty, false, 2, (t.ts.map copyY).map cTs⟩) (oq := ⟨false, false, 10, [cTo t (.own 5002 2 0 t.ts.length)]⟩) (row := cTo t (.own 5002 2 0 t.ts.length)) (c := .own 5002 2 0 t.ts.length) (c' := .sl t.ts.isEmpty false ((t.ts.map copyY).map cTs)) (by simp) (by simp [purel, C.isPure]) (by simp) (by decide) rfl rfl rfl hfz2 rfl)
          simp only [List.set_cons_succ, List.set_cons_zero]
          rw [hcc]
          (repeat refine awp_seq ?_); refine awp_reg1 (by rw [hx]; kernel_rfl) fun K hK => ?_; simp (maxSteps := 1000000) [ty28, ty42, ty30]
          refine callP (al1) (by first | (simp; done) | (simp [*]; done)) ?_; simp (maxSteps := 1000000) [ty4, ty28, ty42, ty30]
          refine callP (al2) (by first | (simp; done) | (simp [*]; done)) ?_; simp (maxSteps := 1000000) [ty4, ty28, ty42, ty30]
          refine callP (works9) (by first | (simp; done) | (simp [*]; done)) ?_; simp (maxSteps := 1000000) [ty4]
          refine hK _ ?_; clear hK K; (first | show AWP _ _ _ _ _ | show ∃ _, _ | skip)
          (repeat refine awp_seq ?_); refine awp_ret ?_; refine And.intro (Or.inr rfl) ?_
          simp [retC, resC, viewC, mapO]
      · (repeat refine awp_seq ?_); refine awp_reg1 (by rw [hx]; kernel_rfl) fun K hK => ?_; simp (maxSteps := 1000000) [ty28, ty26, ty42, ty3, w0, w0]; refine hK _ ?_; clear hK K; (first | show AWP _ _ _ _ _ | show ∃ _, _ | skip)
        (repeat refine awp_seq ?_); refine awp_cond (by simp [w0, w0]; rfl) (by rw [hx]; simp) (fun hd => ?_) (fun hd => ?_)
        · simp [w0, w0] at hd
        clear hd
        refine awp_skip ?_; (first | show AWP _ _ _ _ _ | show ∃ _, _ | skip)
        have al2 := al0
        have hfz2 := fz_own (k := 5002) (sz := 2) (n := t.ts.length) (b := t.ts.isEmpty) (o := ⟨t.ts.isEmpty, false, 2, (t.ts.map copyY).map cTs⟩) rfl (by simp) (by simp)
        refine AWP.weak ?_ (wk_frzCell 5002 6 0 9 (o := ⟨t.ts.isEmpty, false, 2, (t.ts.map copyY).map cTs⟩) (oq := ⟨false, false, 10, [cTo t (.own 5002 2 0 t.ts.length)]⟩) (row := cTo t (.own 5002 2 0 t.ts.length)) (c := .own 5002 2 0 t.ts.length) (c' := .sl t.ts.isEmpty false ((t.ts.map copyY).map cTs)) (by simp) (by simp [purel, C.isPure]) (by simp) (by decide) rfl rfl rfl hfz2 rfl)
        simp only [List.set_cons_succ, List.set_cons_zero]
        rw [hcc]
        (repeat refine awp_seq ?_); refine awp_reg1 (by rw [hx]; kernel_rfl) fun K hK => ?_; simp (maxSteps := 1000000) [ty28, ty42, ty30]
        refine callP (al1) (by first | (simp; done) | (simp [*]; done)) ?_; simp (maxSteps := 1000000) [ty4, ty28, ty42, ty30]
        refine callP (al2) (by first | (simp; done) | (simp [*]; done)) ?_; simp (maxSteps := 1000000) [ty4, ty28, ty42, ty30]
        refine callP (works9) (by first | (simp; done) | (simp [*]; done)) ?_; simp (maxSteps := 1000000) [ty4]
        refine hK _ ?_; clear hK K; (first | show AWP _ _ _ _ _ | show ∃ _, _ | skip)
        (repeat refine awp_seq ?_); refine awp_ret ?_; refine And.intro (Or.inr rfl) ?_
        simp [retC, resC, viewC, mapO]

end Go.Proofs.Ytbhbmnofmoibhaa

namespace Go.Proofs.Ytbhbmnofmoibhaa
open Go Go.Abs
open Go.ChangeShapes Go.WideShapes Go.ChangeAt Go.RowKit

set_option maxRecDepth 100000 in
theorem trialsOrder_lifted (os : Os) (started : os.Started) (H : Type) (enc : TypeId × Value → H) :
    ReturnsInHanded {} Try.checked os 4 .any (Rows.trialsOrderSpec.pre6 enc Try.prog Try.f4 Rows.trialsOrderRow.domain false) (Rows.trialsOrderSpec.post enc Try.prog Try.f4 false true false false) := by
  refine returnsInHanded_of_change (C := Try.checked) J.own started (by kernel_rfl) Try.func4
    (ChangeSpec.witness6 (enc := enc) (C := Try.checked) false ⟨#[], #[.agg #[.int .i64 0, .int .i64 0, .int .i64 0, .int .i64 0, .int .i64 0, .int .i64 0, .int .i64 0, .int .i64 0, .int .i64 0, .slice none 0 0], .agg #[.int .i64 0, .int .i64 0, .int .i64 0, .int .i64 0]], []⟩ 8 (by kernel_rfl) (by kernel_rfl) (by kernel_rfl) (by kernel_rfl)) ?_
  intro W base args ds gs before hval hW _ _
  refine law_contract (P := Try.prog) (tb := 4) (by kernel_rfl) J.ub rfl (fun ds hl => ?_) J.laid J.maps J.sized (by kernel_rfl) (by kernel_rfl) (fun cargs hc => ?_) W base args ds gs before hval hW
  · have h2 : ds.length = 2 := hl
    match ds, h2 with
    | [_, _], _ => rfl
  · rw [Try.params4] at hc
    obtain ⟨t, r, rfl, hc1⟩ := arg28 hc
    obtain ⟨a, b, c, r', rfl, hc2⟩ := argTurn hc1
    obtain rfl := arg_end hc2
    exact law4c t a b c

theorem trialsOrder_holds : Rows.TrialsOrderSaid :=
  OpenClaim.holds_of_wide 4 Try.f4 rfl rfl rfl rfl rfl rfl rfl ⟨rfl, rfl, rfl, rfl, rfl⟩ rfl rfl rfl rfl rfl (by kernel_rfl) Try.func4 (by kernel_rfl)
    (of_decide_eq_true (by kernel_rfl)) (by unfold Func.isWrapper; first | (rw [if_pos (by decide +kernel)]; kernel_rfl) | (rw [if_neg (by decide +kernel)]; exact ⟨rfl, rfl⟩))
    (fun os started H enc _ => trialsOrder_lifted os started H enc)
#print axioms trialsOrder_holds
end Go.Proofs.Ytbhbmnofmoibhaa

