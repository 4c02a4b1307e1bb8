/- For every input the law TrialsZero returns true, and each argument reads afterwards as it read before. No condition. -/
import Derived.Test.YtbhbmnofmoibhaaB5

set_option linter.unusedSimpArgs false
set_option linter.unusedVariables false
set_option linter.constructorNameAsVariable false

namespace Go.Proofs.Ytbhbmnofmoibhaa
open Go Go.Abs

set_option maxHeartbeats 2000000
set_option maxRecDepth 100000

theorem sh42 : shT Try.prog 6 42 = some (i64s 4) := by kernel_rfl
theorem ag42 : isAggT Try.prog 42 = true := by kernel_rfl
theorem sh57 : shT Try.prog 6 57 = some (i64s 2) := by kernel_rfl
theorem ag57 : isAggT Try.prog 57 = true := by kernel_rfl
theorem sh49 : shT Try.prog 6 49 = some [.sl (i64s 1)] := by kernel_rfl
theorem ag49 : isAggT Try.prog 49 = false := by kernel_rfl

theorem argTurn {cs : List C} {ts : List TypeId} (h : ArgsFit Try.prog (42 :: ts) cs) : ∃ (a b : Int) (c : Cl) (r : List C), cs = .agg [encI a, encI b, encI c.size, encI c.most] :: r ∧ ArgsFit Try.prog ts r := by
  obtain ⟨m, r, rfl, h1, h2⟩ := arg_agg sh42 ag42 h
  obtain ⟨zs, e1, rfl⟩ := fit_flat h1
  match zs, e1 with
  | [a, b, c, d], _ => exact ⟨a, b, ⟨c, d⟩, r, rfl, h2⟩
theorem argTwo {cs : List C} {ts : List TypeId} (h : ArgsFit Try.prog (57 :: ts) cs) : ∃ (a b : Int) (r : List C), cs = .agg [encI a, encI b] :: r ∧ ArgsFit Try.prog ts r := by
  obtain ⟨m, r, rfl, h1, h2⟩ := arg_agg sh57 ag57 h
  obtain ⟨zs, e1, rfl⟩ := fit_flat h1
  match zs, e1 with
  | [a, b], _ => exact ⟨a, b, r, rfl, h2⟩
theorem argInts {cs : List C} {ts : List TypeId} (h : ArgsFit Try.prog (49 :: ts) cs) : ∃ (nl : Bool) (l : List Int) (r : List C), cs = .sl nl false (l.map cI) :: r ∧ ArgsFit Try.prog ts r := by
  obtain ⟨c, r, rfl, h1, h2⟩ := arg_one sh49 ag49 h
  obtain ⟨nl, rows, _, m', e, h3, h4⟩ := fit_sl h1
  simp only [FitL] at h4
  subst h4
  cases e
  obtain ⟨l, rfl⟩ := rows_map (f := cI) (rows := rows) fun row hr => by
    obtain ⟨zs, e1, rfl⟩ := fit_flat (h3 row hr)
    match zs, e1 with
    | [a], _ => exact ⟨a, rfl⟩
  exact ⟨nl, l, r, rfl, h2⟩
end Go.Proofs.Ytbhbmnofmoibhaa

namespace Go.Proofs.Ytbhbmnofmoibhaa
open Go Go.Abs

set_option maxHeartbeats 8000000

theorem l_subset37 (a1 a2 b1 b2 : Bool) (A B : List Int) (hn : A.length ≤ 1000000) (hm : B.length ≤ 1000000) (hs : ∀ a ∈ A, a ∈ B) (hl : A.length ≤ B.length) : Pure Try.prog 20 [.sl a1 a2 (A.map cI), .sl b1 b2 (B.map cI)] (.bool true) := by
  refine pure_of (fn := Try.f20) [.tmp 4] ⟨Try.func20, rfl, by kernel_rfl⟩ (by kernel_rfl) (by kernel_rfl) (by kernel_rfl) fun x hx hσ => ?_
  (repeat refine awp_seq ?_); refine awp_reg1 (by rw [hx]; kernel_rfl) fun K hK => ?_; simp (maxSteps := 1000000) []; refine hK _ ?_; clear hK K; (first | show AWP _ _ _ _ _ | show ∃ _, _ | skip)
  (repeat refine awp_seq ?_); refine awp_reg1 (by rw [hx]; kernel_rfl) fun K hK => ?_; simp (maxSteps := 1000000) []; refine hK _ ?_; clear hK K; (first | show AWP _ _ _ _ _ | show ∃ _, _ | skip)
  (repeat refine awp_seq ?_); refine awp_block ?_
  refine awp_loop (fun i : Nat => ⟨ofL [(0, .sl a1 a2 (A.map cI)), (1, .sl b1 b2 (B.map cI)), (5, encI i)], stoT []⟩)
    (fun i => i ≤ A.length) (fun i => A.length - i) 0 (Nat.zero_le _) ?_ ?_
  · refine wk_shape (shp0 hσ (by simp) (by simp) ?_) ?_
    · simp [SlotOk] <;> (repeat' (first | exact .same (by simp [purel, C.isPure]) | exact .cons (by simp [mtl, mtc, mT, mH, C.isPure, purel]) (by simp) .nil | refine And.intro ?_ ?_))
    · simp [mtc, mtl, mT, C.isPure, purel] <;> (try simp (disch := omega) [wrap_id]) <;> (try omega)
  · rintro i hi
    (repeat refine awp_seq ?_); refine awp_reg1 (by rw [hx]; kernel_rfl) fun K hK => ?_; simp (maxSteps := 1000000) [ty49, ty3]; refine hK _ ?_; clear hK K; (first | show AWP _ _ _ _ _ | show ∃ _, _ | skip)
    (repeat refine awp_seq ?_); refine awp_cond (by simp; rfl) (by rw [hx]; simp) (fun hc => ?_) (fun hc => ?_)
    · simp at hc
      refine awp_skip ?_; (first | show AWP _ _ _ _ _ | show ∃ _, _ | skip)
      (repeat refine awp_seq ?_); refine awp_block ?_
      (repeat refine awp_seq ?_); refine awp_reg1 (by rw [hx]; kernel_rfl) fun K hK => ?_; simp (maxSteps := 1000000) [ty49, ty3, hc]
      have h41 := in41 b1 b2 B A[i] hm
      rw [decide_eq_true (hs _ (List.getElem_mem hc))] at h41
      refine callP (h41) (by first | (simp; done) | (simp [*]; done)) ?_; simp (maxSteps := 1000000) [ty4]
      refine hK _ ?_; clear hK K; (first | show AWP _ _ _ _ _ | show ∃ _, _ | skip)
      (repeat refine awp_seq ?_); refine awp_cond (by simp; rfl) (by rw [hx]; simp) (fun hd => ?_) (fun hd => ?_)
      · simp at hd
      · clear hd
        refine awp_skip ?_; (first | show AWP _ _ _ _ _ | show ∃ _, _ | skip)
        (repeat refine awp_seq ?_); refine awp_reg1 (by rw [hx]; kernel_rfl) fun K hK => ?_; simp (maxSteps := 1000000) [ty3]; refine hK _ ?_; clear hK K; (first | show AWP _ _ _ _ _ | show ∃ _, _ | skip)
        rw [wrap_id (by omega) (by omega)]
        refine ⟨i + 1, by omega, by omega, ?_⟩
        refine wk_shape (shp0 hσ (by simp) (by simp) ?_) ?_
        · simp [SlotOk] <;> (repeat' (first | exact .same (by simp [purel, C.isPure]) | exact .cons (by simp [mtl, mtc, mT, mH, C.isPure, purel]) (by simp) .nil | refine And.intro ?_ ?_))
        · simp [mtc, mtl, mT, C.isPure, purel] <;> (try simp (disch := omega) [wrap_id]) <;> (try omega)
    · simp at hc
      (repeat refine awp_seq ?_); refine awp_exit ?_; (first | show AWP _ _ _ _ _ | show ∃ _, _ | skip)
      (repeat refine awp_seq ?_); refine awp_reg1 (by rw [hx]; kernel_rfl) fun K hK => ?_; simp (maxSteps := 1000000) [ty49, ty3, hl]; refine hK _ ?_; clear hK K; (first | show AWP _ _ _ _ _ | show ∃ _, _ | skip)
      (repeat refine awp_seq ?_); refine awp_ret ?_; refine And.intro (Or.inr rfl) ?_
      simp [retC, resC, viewC, mapO, hl]

-- the copy is answered the same

theorem copy_len {t : Ti} (h : TiLen t) : TiLen (copyT t) := by
  have e1 : (copyT t).ts = t.ts.map copyY := rfl
  refine ⟨by rw [e1, List.length_map]; exact h.ts, fun y hy => ?_⟩
  rw [e1] at hy
  obtain ⟨z, hz, rfl⟩ := List.mem_map.1 hy
  exact h.l z hz

end Go.Proofs.Ytbhbmnofmoibhaa

namespace Go.Proofs.Ytbhbmnofmoibhaa
open Go Go.Abs

set_option maxHeartbeats 8000000

theorem len_bd {lo : Int} {N : Nat} : ∀ {l : List Int}, l.Pairwise (· < ·) → (∀ z ∈ l, lo ≤ z ∧ z < lo + N) → l.length ≤ N
  | [], _, _ => by simp
  | z :: l, h, hb => by
    rw [List.pairwise_cons] at h
    have hz := hb z (by simp)
    obtain ⟨M, hM⟩ : ∃ M : Nat, (M : Int) = lo + N - (z + 1) := ⟨(lo + N - (z + 1)).toNat, by omega⟩
    have ih := len_bd (lo := z + 1) (N := M) h.2 fun y hy => by
      have h1 := h.1 y hy
      have h2 := (hb y (by simp [hy])).2
      omega
    simp only [List.length_cons]
    omega

theorem kindsL_lt (f : Tr → Int) (L : List Tr) : (kindsL f L).Pairwise (· < ·) := by
  have h1 := kindsL_sorted f L
  have h2 := kindsL_nodup f L
  refine (h1.and h2).imp ?_
  rintro a b ⟨h3, h4⟩
  have : a ≠ b := h4
  omega

theorem skews_len' (t : Ti) : (numsT Tr.skew t true).length ≤ 41 := by
  by_cases h : openT t true = 0
  · have hok := (openT_ok h).1
    have hs := hok.num.skew
    rw [(numsT_ok h).1]
    refine len_bd (lo := -20) (kindsL_lt _ _) fun z hz => ?_
    obtain ⟨k, hk, rfl⟩ := (kindsL_mem _ _ _).1 hz
    have := allT_mem.1 (List.mem_filter.1 hk).1
    have e3 : (gwT t).skew = t.w.skew := rfl
    rw [e3] at this
    omega
  · rw [numsT_zero h]; simp

theorem ends_mem {f : Tr → Int} {t : Ti} {is : Bool} (h : openT t is = 0) {k : Tr} (hk : k ∈ truthsS t (allS t)) : (endsT f t is).1 ≤ f k ∧ f k ≤ (endsT f t is).2 := by
  have h0 : 0 < (truthsS t (allS t)).length := List.length_pos_of_mem hk
  rw [ends_mnmx h h0]
  exact ⟨(mnT_spec f _ _).2.1 k hk, (mxT_spec f _ _).2.1 k hk⟩

theorem isTrB_mem {t : Ti} {k : Tr} (h : isTrB t k = true) : k ∈ truthsS t (allS t) := by
  have hk : k ∈ allT (gwT t) := by
    unfold isTrB at h
    simp only [Bool.and_eq_true] at h
    have h1 : -t.gain ≤ k.area ∧ k.area ≤ t.gain := by simpa [withinB] using h.1.1
    have h2 : -t.w.skew ≤ k.skew ∧ k.skew ≤ t.w.skew := by simpa [withinB] using h.1.2
    exact allT_mem.2 ⟨h1, h2⟩
  rw [← truths_filter]
  exact List.mem_filter.2 ⟨hk, h⟩

end Go.Proofs.Ytbhbmnofmoibhaa

namespace Go.Proofs.Ytbhbmnofmoibhaa
open Go Go.Abs

set_option maxHeartbeats 8000000

theorem sub_len {α : Type} : ∀ (A B : List α), A.Nodup → (∀ a ∈ A, a ∈ B) → A.length ≤ B.length
  | [], _, _, _ => Nat.zero_le _
  | a :: A, B, hn, hs => by
    have h1 := List.nodup_cons.1 hn
    obtain ⟨P, Q, rfl⟩ := List.append_of_mem (hs a (by simp))
    have ih := sub_len A (P ++ Q) h1.2 fun b hb => by
      have hne : b ≠ a := fun e => h1.1 (e ▸ hb)
      have := hs b (by simp [hb])
      simp [hne] at this
      simp [this]
    simp only [List.length_append, List.length_cons] at ih ⊢
    omega

/-- All truths of a trial. -/
abbrev trL (t : Ti) : List Tr := truthsS t (allS t)

theorem trL_mem {t : Ti} {k : Tr} : k ∈ trL t ↔ isTrB t k = true := by
  refine ⟨fun h => ?_, isTrB_mem⟩
  have h' : k ∈ (allT (gwT t)).filter (isTrB t) := by rw [truths_filter]; exact h
  exact (List.mem_filter.1 h').2
theorem openT_true {t : Ti} (h : checkT t = 0) : openT t true = if trL t = [] then 3 else 0 := by
  unfold openT
  rw [if_neg (by simpa using h), if_neg (by decide)]

theorem ends_some {f : Tr → Int} {t : Ti} {is : Bool} (h : openT t is = 0) : (∃ k ∈ trL t, f k = (endsT f t is).1) ∧ ∃ k ∈ trL t, f k = (endsT f t is).2 := by
  have hne := (numsT_ok (f := f) h).2.2
  unfold endsT
  cases hl : numsT f t is with
  | nil => exact absurd hl hne
  | cons a l =>
    have h1 : a ∈ numsT f t is := by rw [hl]; simp
    have h2 : (a :: l).getLastD 0 ∈ numsT f t is := by
      rw [hl, List.getLastD_eq_getLast?, List.getLast?_eq_some_getLast (by simp), Option.getD_some]
      exact List.getLast_mem _
    exact ⟨(numsT_mem h1).2, (numsT_mem h2).2⟩

/-- One test more, in new memory. -/
def addT (t : Ti) (y : Ts) : Ti := { t with nl := false, fu := false, ts := t.ts.map copyY ++ [y] }
end Go.Proofs.Ytbhbmnofmoibhaa

namespace Go.Proofs.Ytbhbmnofmoibhaa
open Go Go.Abs

set_option maxHeartbeats 8000000

theorem l_some19 (t : Ti) (nl fu : Bool) (l : List Int) (hl : InT t l) (hn : l.length ≤ 1000) (ht : t.ts.length ≤ 1000) : Pure Try.prog 19 [encTi t, .sl nl fu (l.map cI)] (encTi (someT t l)) := by
  obtain ⟨U, hU⟩ : ∃ U : Nat → List Ts, ∀ i, U i = pickT t (l.take i) := ⟨_, fun _ => rfl⟩
  have hU0 : U 0 = [] := by rw [hU]; rfl
  have hUl : ∀ i, i ≤ l.length → (U i).length = i := fun i hi => by rw [hU, pickT_len (hl.take i)]; simp; omega
  have hUs : ∀ i (hi : i < l.length) (hz : (l[i]).toNat < t.ts.length), U (i + 1) = U i ++ [t.ts[(l[i]).toNat]] := fun i hi hz => by rw [hU, hU]; exact pickT_step hl hi hz
  have hUn : pickT t l = U l.length := by rw [hU, List.take_length]
  unfold someT
  rw [hUn]
  clear hUn hU
  refine pure_of (fn := Try.f19) [.cell 4 28] ⟨Try.func19, rfl, by kernel_rfl⟩ (by kernel_rfl) (by kernel_rfl) (by kernel_rfl) fun x hx hσ => ?_
  (repeat refine awp_seq ?_); refine awp_reg1 (by rw [hx]; kernel_rfl) fun K hK => ?_; simp (maxSteps := 1000000) [ty28]; refine hK _ ?_; clear hK K; (first | show AWP _ _ _ _ _ | show ∃ _, _ | skip)
  (repeat refine awp_seq ?_); refine awp_reg1 (by rw [hx]; kernel_rfl) fun K hK => ?_; simp (maxSteps := 1000000) [ty28]; refine hK _ ?_; clear hK K; (first | show AWP _ _ _ _ _ | show ∃ _, _ | skip)
  (repeat refine awp_seq ?_); refine awp_reg1 (by rw [hx]; kernel_rfl) fun K hK => ?_; simp (maxSteps := 1000000) [ty28, ty26]; refine hK _ ?_; clear hK K; (first | show AWP _ _ _ _ _ | show ∃ _, _ | skip)
  (repeat refine awp_seq ?_); refine awp_reg1 (by rw [hx]; kernel_rfl) fun K hK => ?_; simp (maxSteps := 1000000) []; refine hK _ ?_; clear hK K; (first | show AWP _ _ _ _ _ | show ∃ _, _ | skip)
  (repeat refine awp_seq ?_); refine awp_block ?_
  refine AWP.weak ?_ (wk_nilCell 5 0 9 1000 2 (o := ⟨false, false, 10, [cTo t (.sl true true [])]⟩) (row := cTo t (.sl true true [])) (fu := true) (by simp) rfl rfl rfl (by simp) (by decide))
  refine awp_loop (fun i : Nat => ⟨ofL [(1, .sl nl fu (l.map cI)), (2, .ptr 2 10 0 0), (4, .ptr 4 10 0 0), (5, .ptr 5 10 0 0), (6, encI i)],
      stoT [(2, 2, .live (obTi t)), (4, 4, .live ⟨false, false, 10, [[encI 0, encI 0, encI 0, encI 0, encI 0, encI 0, encI 0, encI 0, encI 0, .sl true true []]]⟩), (5, 5, .live ⟨false, false, 10, [cTo t (.own 1000 2 0 i)]⟩), (1000, 1000, .live ⟨(U i).isEmpty, false, 2, (U i).map cTs⟩)]⟩)
    (fun i => i ≤ l.length) (fun i => l.length - i) 0 (by simp) ?_ ?_
  · refine wk_shape (shp0 hσ (by simp) (by simp) ?_) ?_
    · simp [SlotOk, hU0] <;> (repeat' (first | (refine RowsOk.same ?_; simp [purel, C.isPure]; done) | (refine rowsCons ?_; simp [mtl, mtc, mT, mH, C.isPure, purel]; done) | (refine rowsCons ?_; simp [mtl, mtc, mT, mH, C.isPure, purel]) | refine And.intro ?_ ?_))
    · simp [mtc, mtl, mT, C.isPure, purel, hU0] <;> (try simp (disch := omega) [wrap_id]) <;> (try omega)
  · intro i hi
    have hUi := hUl i hi
    (repeat refine awp_seq ?_); refine awp_reg1 (by rw [hx]; kernel_rfl) fun K hK => ?_; simp (maxSteps := 1000000) [ty49, ty3]; refine hK _ ?_; clear hK K; (first | show AWP _ _ _ _ _ | show ∃ _, _ | skip)
    (repeat refine awp_seq ?_); refine awp_cond (by simp; rfl) (by rw [hx]; simp) (fun hc => ?_) (fun hc => ?_)
    · simp at hc
      refine awp_skip ?_; (first | show AWP _ _ _ _ _ | show ∃ _, _ | skip)
      (repeat refine awp_seq ?_); refine awp_block ?_
      have hz := hl _ (List.getElem_mem hc)
      have hz1 : (l[i]).toNat < t.ts.length := by omega
      have hst := hUs i hc hz1
      generalize hV : U i = V at *
      have hwi : IntKind.i64.wrap ((i : Int) + 1) = ((i + 1 : Nat) : Int) := by rw [wrap_id (by omega) (by omega)]; rfl
      (repeat refine awp_seq ?_); refine awp_drw3 [] [0, 1, 2, 3, 4, 5, 6, 7, 8, 9, 10, 11, 12, 13, 14] (by rw [hx]; kernel_rfl) (by kernel_rfl) (by kernel_rfl) (by kernel_rfl) fun K hK => ?_; simp (maxSteps := 1000000) [ty28, ty26, ty49, ty3, hc, hz.1, hz.2]; refine hK _ ?_; clear hK K; (first | show AWP _ _ _ _ _ | show ∃ _, _ | skip)
      (repeat refine awp_seq ?_); refine awp_cond (by simp [hz.1, hz.2]; rfl) (by rw [hx]; simp) (fun hd => ?_) (fun hd => ?_)
      · clear hd
        (repeat refine awp_seq ?_); refine awp_drw3 [1001, 1003, 1007, 1009, 5011, 11000] [0, 1, 2, 3, 4, 5, 6, 7, 8, 9, 10, 11, 12, 13] (by rw [hx]; kernel_rfl) (by kernel_rfl) (by kernel_rfl) (by kernel_rfl) fun K hK => ?_; simp (maxSteps := 1000000) [ty28, ty26, ty49, ty3, ty46, hc, hz.1, hz1, hUi]
        refine ⟨by omega, ?_⟩
        refine hK _ ?_; clear hK K; (first | show AWP _ _ _ _ _ | show ∃ _, _ | skip)
        (repeat refine awp_seq ?_); refine awp_reg1 (by rw [hx]; kernel_rfl) fun K hK => ?_; simp (maxSteps := 1000000) [ty3]; refine hK _ ?_; clear hK K; (first | show AWP _ _ _ _ _ | show ∃ _, _ | skip)
        refine ⟨i + 1, by omega, by omega, ?_⟩
        rw [hst, hwi]
        refine wk_shape2 [(2, 2, .live (obTi t)), (4, 4, .live ⟨false, false, 10, [[encI 0, encI 0, encI 0, encI 0, encI 0, encI 0, encI 0, encI 0, encI 0, .sl true true []]]⟩), (5, 5, .live ⟨false, false, 10, [cTo t (.own 1000 2 0 (i + 1))]⟩), (1000, 41, .live ⟨(V ++ [t.ts[(l[i]).toNat]]).isEmpty, false, 2, (V ++ [t.ts[(l[i]).toNat]]).map cTs⟩)] (by first | rfl | (simp only [if_pos, if_true]; rfl)) (shp0 hσ (by simp) (by simp) ?_) ?_
        · simp [SlotOk] <;> (repeat' (first | (refine RowsOk.same ?_; simp [purel, C.isPure]; done) | (refine rowsCons ?_; simp [mtl, mtc, mT, mH, C.isPure, purel]; done) | (refine rowsCons ?_; simp [mtl, mtc, mT, mH, C.isPure, purel]) | refine And.intro ?_ ?_))
        · simp [mtc, mtl, mT, C.isPure, purel] <;> (try simp (disch := omega) [wrap_id]) <;> (try omega)
      · simp [hz.1, hz.2] at hd
    · simp at hc
      (repeat refine awp_seq ?_); refine awp_exit ?_; (first | show AWP _ _ _ _ _ | show ∃ _, _ | skip)
      have hin : i = l.length := by omega
      rw [hin] at hUi ⊢
      have hem : (U l.length).isEmpty = l.isEmpty := by
        cases h1 : U l.length <;> cases h2 : l <;> rw [h1, h2] at hUi <;> simp at hUi <;> rfl
      generalize U l.length = V at *
      rw [hem]
      refine AWP.weak ?_ (wk_frzCell 1000 5 0 9 (o := ⟨l.isEmpty, false, 2, V.map cTs⟩) (oq := ⟨false, false, 10, [cTo t (.own 1000 2 0 l.length)]⟩) (row := cTo t (.own 1000 2 0 l.length)) (c := .own 1000 2 0 l.length) (c' := sTs l.isEmpty false V) (by simp) (by simp [purel, C.isPure]) (by simp) (by decide) rfl rfl rfl (fz_own rfl (by simp [hUi]) (by simp)) rfl)
      (repeat refine awp_seq ?_); refine awp_reg1 (by rw [hx]; kernel_rfl) fun K hK => ?_; simp (maxSteps := 1000000) [ty28]; refine hK _ ?_; clear hK K; (first | show AWP _ _ _ _ _ | show ∃ _, _ | skip)
      (repeat refine awp_seq ?_); refine awp_ret ?_; refine And.intro (Or.inr rfl) ?_
      simp [retC, resC, viewC, mapO, ty28]

end Go.Proofs.Ytbhbmnofmoibhaa

namespace Go.Proofs.Ytbhbmnofmoibhaa
open Go Go.Abs

set_option maxHeartbeats 8000000

theorem decSets_cd {t : Ti} {c : Cl} {s : Nat} (h : s ∈ decSets t c) : s < 2 ^ t.ts.length ∧ cdB t c s = true := by
  refine ⟨decL_lt h, ?_⟩
  unfold decSets at h
  rcases decL_spec (cdB t c) (2 ^ t.ts.length) with ⟨h1, h2⟩ | ⟨m, h1, h2, h3⟩
  · rw [h1] at h; simp at h
  · rw [h2, List.mem_filter] at h
    have := h.2
    simp only [Bool.and_eq_true, beq_iff_eq] at this
    exact this.2

theorem neededT_len (t : Ti) (c : Cl) : (neededT t c).length ≤ t.ts.length := by
  unfold neededT
  split
  · exact fixTo_len _ _
  · simp

end Go.Proofs.Ytbhbmnofmoibhaa

namespace Go.Proofs.Ytbhbmnofmoibhaa
open Go Go.Abs

set_option maxHeartbeats 8000000

theorem certL_sub {L M : List Tr} {c : Cl} (hne : M ≠ []) (hs : ∀ k ∈ M, k ∈ L) : certL L c = 3 ∨ certL M c = certL L c := by
  unfold certL
  split
  · rename_i h
    rw [List.countP_eq_zero] at h
    right
    rw [if_pos (List.countP_eq_zero.2 fun k hk => h k (hs k hk))]
  · split
    · rename_i h
      rw [List.countP_eq_zero] at h
      right
      have h2 := List.countP_eq_zero.2 fun k hk => h k (hs k hk)
      rw [if_neg ?_, if_pos h2]
      intro h3
      rw [List.countP_eq_zero] at h3
      obtain ⟨k, hk⟩ := List.exists_mem_of_ne_nil _ hne
      have a1 := h k (hs k hk)
      have a2 := h3 k hk
      simp at a1 a2
      rw [a1] at a2
      cases a2
    · exact .inl rfl

theorem set_sup (t : Ti) (s : Nat) : ∀ k ∈ trL t, k ∈ truthsS t s := by
  intro k hk
  have h := List.mem_filter.1 hk
  refine List.mem_filter.2 ⟨h.1, okS_iff.2 fun i hi _ => ?_⟩
  exact okS_iff.1 h.2 i hi (testBit_all hi)

theorem certT_eq {t : Ti} {c : Cl} (hc : classB c = true) (h : openT t true = 0) : certT t c = certL (trL t) c := if_pos (by rw [hc]; exact h)

theorem cdB_iff {t : Ti} {c : Cl} {s : Nat} : cdB t c s = true ↔ certL (truthsS t s) c ≠ 3 := by unfold cdB; simp

theorem cd_all {t : Ti} {c : Cl} (hc : classB c = true) (h : openT t true = 0) {s : Nat} (hs : cdB t c s = true) : certT t c = certL (truthsS t s) c := by
  rw [certT_eq hc h]
  exact (certL_sub (openT_ok h).2.2 (set_sup t s)).resolve_left (cdB_iff.1 hs)

theorem decSets_of {t : Ti} {c : Cl} {s : Nat} (h : s ∈ decSets t c) : s < 2 ^ t.ts.length ∧ cdB t c s = true := decSets_cd h

theorem dec_iff {t : Ti} {c : Cl} (hc : classB c = true) (h : openT t true = 0) : decSets t c ≠ [] ↔ certT t c ≠ 3 := by
  constructor
  · intro hd
    obtain ⟨a, r, har⟩ := decSets_cons hd
    have ham : a ∈ decSets t c := by rw [har]; simp
    have h1 := (decSets_of ham).2
    rw [cd_all hc h h1]
    exact cdB_iff.1 h1
  · intro hd he
    have h1 : cdB t c (allS t) = true := cdB_iff.2 (by rw [← certT_eq hc h]; exact hd)
    rcases decL_spec (cdB t c) (2 ^ t.ts.length) with ⟨_, h3⟩ | ⟨m, h2, _⟩
    · have := h3 (allS t) (by have := allS_succ t; omega)
      rw [h1] at this; cases this
    · exact h2 he

theorem few_le {t : Ti} {c : Cl} {s a : Nat} {r : List Nat} (h : decSets t c = a :: r) (hs : s < 2 ^ t.ts.length) (hc : cdB t c s = true) : popc a ≤ popc s := by
  rcases decL_spec (cdB t c) (2 ^ t.ts.length) with ⟨h2, _⟩ | ⟨m, h1, h2, h3⟩
  · have h2' : decSets t c = [] := h2
    rw [h] at h2'; cases h2'
  · have ha : a ∈ decSets t c := by rw [h]; simp
    have e : decSets t c = _ := h2
    rw [e, List.mem_filter] at ha
    have := ha.2
    simp only [Bool.and_eq_true, beq_iff_eq] at this
    have h4 := h3 s hs hc
    omega

theorem inAll_sub {t : Ti} {a : Nat} {r : List Nat} : ∀ i, (inAll (a :: r) (allS t)).testBit i = true → a.testBit i = true := by
  intro i h
  rw [inAll_bit] at h
  simp at h
  exact h.2.1

theorem need_sub {t : Ti} {c : Cl} (h : decE t c = 0) : (∀ z ∈ neededT t c, z ∈ decideT t c) ∧ (neededT t c).length ≤ (decideT t c).length := by
  obtain ⟨_, _, h0⟩ := decE_ok h
  obtain ⟨a, r, har⟩ := decSets_cons h0
  have e1 : neededT t c = listS t (inAll (a :: r) (allS t)) := by unfold neededT; rw [if_pos h, har]
  have e2 : decideT t c = listS t a := by unfold decideT; rw [if_pos h, har]; rfl
  have hs : ∀ z ∈ neededT t c, z ∈ decideT t c := by
    intro z hz
    rw [e1, listS_mem] at hz
    rw [e2, listS_mem]
    obtain ⟨i, h1, h2, h3⟩ := hz
    exact ⟨i, h1, inAll_sub i h2, h3⟩
  refine ⟨hs, sub_len _ _ ?_ hs⟩
  rw [e1]
  exact (fixTo_lt _ _).imp fun h => Int.ne_of_lt h

/-- What a trial with some of its tests answers. -/
theorem some_cert {t : Ti} {c : Cl} {s : Nat} (hc : classB c = true) (hok : TiOk t) (h : openT t true = 0) :
    openT (someT t (listS t s)) (classB c) = 0 ∧ certT (someT t (listS t s)) c = certL (truthsS t s) c := by
  have hp := pickT_len (listS_in t s)
  have h6 : (listS t s).length ≤ t.ts.length := fixTo_len _ _
  have hl6 := hok.len
  have hso := someT_ok (l := listS t s) hok (by omega)
  have hz := checkT_ok.2 hso
  have hne : trL (someT t (listS t s)) ≠ [] := by
    show truthsS (someT t (listS t s)) (allS (someT t (listS t s))) ≠ []
    rw [some_set]
    obtain ⟨k, hk⟩ := List.exists_mem_of_ne_nil _ (openT_ok h).2.2
    exact List.ne_nil_of_mem (set_sup t s k hk)
  have ho : openT (someT t (listS t s)) true = 0 := by rw [openT_true hz, if_neg hne]
  refine ⟨by rw [hc]; exact ho, ?_⟩
  rw [certT_eq hc ho]
  show certL (truthsS (someT t (listS t s)) (allS (someT t (listS t s)))) c = _
  rw [some_set]

end Go.Proofs.Ytbhbmnofmoibhaa

namespace Go.Proofs.Ytbhbmnofmoibhaa
open Go Go.Abs

set_option maxHeartbeats 8000000

theorem seenA_zero (g : Int) : seenA 0 g = 0 := by unfold seenA; simp
theorem errI_zero (k : Tr) : errI k 0 = absI k.skew := by unfold errI; rw [seenA_zero]; simp [absI]

theorem seenA_up {a b g : Int} (hab : a ≤ b) (hg : -50 ≤ g) : seenA a g ≤ seenA b g := by
  unfold seenA
  obtain ⟨d, rfl⟩ : ∃ d, b = a + d := ⟨b - a, by omega⟩
  have h1 : d * (-50) ≤ d * g := Int.mul_le_mul_of_nonneg_left hg (by omega)
  rw [Int.add_mul]
  generalize a * g = p at *
  generalize d * g = q at *
  omega

/-- The least and the greatest size of the first numbers. -/
def leastTo (l : List Int) : Nat → Int
  | 0 => absI (l.headD 0)
  | i + 1 => if absI (l[i]?.getD 0) < leastTo l i then absI (l[i]?.getD 0) else leastTo l i
def mostTo (l : List Int) : Nat → Int
  | 0 => absI (l.headD 0)
  | i + 1 => if mostTo l i < absI (l[i]?.getD 0) then absI (l[i]?.getD 0) else mostTo l i

theorem head_mem {l : List Int} (h : l ≠ []) : l.headD 0 ∈ l := by
  cases l with
  | nil => exact absurd rfl h
  | cons a l => simp

theorem least_spec {l : List Int} (h : l ≠ []) : ∀ i, i ≤ l.length → (∃ z ∈ l, leastTo l i = absI z) ∧ ∀ j (hj : j < l.length), j < i → leastTo l i ≤ absI l[j]
  | 0, _ => ⟨⟨_, head_mem h, rfl⟩, fun j hj h0 => absurd h0 (by omega)⟩
  | i + 1, hi => by
    obtain ⟨h1, h2⟩ := least_spec h i (by omega)
    have hi' : i < l.length := by omega
    simp only [leastTo, List.getElem?_eq_getElem hi', Option.getD_some]
    split
    · rename_i g
      refine ⟨⟨_, List.getElem_mem hi', rfl⟩, fun j hj hji => ?_⟩
      by_cases e : j = i
      · subst e; exact Int.le_refl _
      · have := h2 j hj (by omega); omega
    · rename_i g
      refine ⟨h1, fun j hj hji => ?_⟩
      by_cases e : j = i
      · subst e; omega
      · exact h2 j hj (by omega)

theorem most_spec {l : List Int} (h : l ≠ []) : ∀ i, i ≤ l.length → (∃ z ∈ l, mostTo l i = absI z) ∧ ∀ j (hj : j < l.length), j < i → absI l[j] ≤ mostTo l i
  | 0, _ => ⟨⟨_, head_mem h, rfl⟩, fun j hj h0 => absurd h0 (by omega)⟩
  | i + 1, hi => by
    obtain ⟨h1, h2⟩ := most_spec h i (by omega)
    have hi' : i < l.length := by omega
    simp only [mostTo, List.getElem?_eq_getElem hi', Option.getD_some]
    split
    · rename_i g
      refine ⟨⟨_, List.getElem_mem hi', rfl⟩, fun j hj hji => ?_⟩
      by_cases e : j = i
      · subst e; exact Int.le_refl _
      · have := h2 j hj (by omega); omega
    · rename_i g
      refine ⟨h1, fun j hj hji => ?_⟩
      by_cases e : j = i
      · subst e; omega
      · exact h2 j hj (by omega)

theorem least_step {l : List Int} {i : Nat} (hi : i < l.length) : leastTo l (i + 1) = if absI l[i] < leastTo l i then absI l[i] else leastTo l i := by
  simp only [leastTo, List.getElem?_eq_getElem hi, Option.getD_some]
theorem most_step {l : List Int} {i : Nat} (hi : i < l.length) : mostTo l (i + 1) = if mostTo l i < absI l[i] then absI l[i] else mostTo l i := by
  simp only [mostTo, List.getElem?_eq_getElem hi, Option.getD_some]

theorem ends_zero {t : Ti} (h : openT t true = 0) : endsT (fun k => errI k 0) t true = (leastTo (numsT Tr.skew t true) (numsT Tr.skew t true).length, mostTo (numsT Tr.skew t true) (numsT Tr.skew t true).length) := by
  obtain ⟨e1, _, e3⟩ := numsT_ok (f := Tr.skew) h
  obtain ⟨⟨k1, m1, q1⟩, k2, m2, q2⟩ := ends_some (f := fun k => errI k 0) h
  have hm : ∀ k ∈ trL t, _ := fun k hk => ends_mem (f := fun k => errI k 0) h hk
  have hin : ∀ z, z ∈ numsT Tr.skew t true ↔ ∃ k ∈ trL t, k.skew = z := fun z => by rw [e1]; exact kindsL_mem _ _ _
  obtain ⟨⟨z1, n1, p1⟩, l1⟩ := least_spec e3 _ (Nat.le_refl _)
  obtain ⟨⟨z2, n2, p2⟩, l2⟩ := most_spec e3 _ (Nat.le_refl _)
  obtain ⟨a1, b1, c1⟩ := (hin z1).1 n1
  obtain ⟨a2, b2, c2⟩ := (hin z2).1 n2
  have hle : ∀ k ∈ trL t, leastTo (numsT Tr.skew t true) (numsT Tr.skew t true).length ≤ absI k.skew ∧ absI k.skew ≤ mostTo (numsT Tr.skew t true) (numsT Tr.skew t true).length := by
    intro k hk
    obtain ⟨j, hj, e⟩ := List.getElem_of_mem ((hin k.skew).2 ⟨k, hk, rfl⟩)
    have u1 := l1 j hj hj
    have u2 := l2 j hj hj
    rw [e] at u1 u2
    exact ⟨u1, u2⟩
  have v1 := hle k1 m1
  have v2 := hle k2 m2
  have v3 := hm a1 b1
  have v4 := hm a2 b2
  simp only [errI_zero] at q1 q2 v3 v4
  rw [c1] at v3
  rw [c2] at v4
  refine Prod.ext ?_ ?_
  · show (endsT (fun k => errI k 0) t true).1 = leastTo _ _
    simp only [errI_zero]
    omega
  · show (endsT (fun k => errI k 0) t true).2 = mostTo _ _
    simp only [errI_zero]
    omega

theorem ends_mono {t : Ti} {a b : Int} (h : openT t true = 0) (hab : a ≤ b) : (endsT (fun k => seenA a k.area) t true).1 ≤ (endsT (fun k => seenA b k.area) t true).1 ∧ (endsT (fun k => seenA a k.area) t true).2 ≤ (endsT (fun k => seenA b k.area) t true).2 := by
  have hok := (openT_ok h).1
  have hg : ∀ k ∈ trL t, -50 ≤ k.area := fun k hk => (every_k hok (List.mem_filter.1 hk).1).1.1
  obtain ⟨⟨k1, m1, q1⟩, _⟩ := ends_some (f := fun k => seenA b k.area) h
  obtain ⟨_, k2, m2, q2⟩ := ends_some (f := fun k => seenA a k.area) h
  have v1 := (ends_mem (f := fun k => seenA a k.area) h m1).1
  have v2 := (ends_mem (f := fun k => seenA b k.area) h m2).2
  have w1 := seenA_up hab (hg k1 m1)
  have w2 := seenA_up hab (hg k2 m2)
  try simp only at q1 q2 v1 v2
  omega

/-- A trial with one test of the area 0 alone. -/
def zeroT (t : Ti) (y : Ts) : Ti := { t with nl := false, fu := true, ts := [⟨0, y.nl, y.fu, y.l⟩] }

theorem check_one {w : Wh} {l : List Wl} (h : checkI w l = 0) : checkI (oneW w 0) l = 0 := by
  have hw := (checkI_ok h).1
  have h1 : wheelB (oneW w 0) = true := wheelB_iff.2 ⟨hw.full, hw.read, hw.slip, hw.skew, hw.circle, by show (0 : Int) ≤ 0 ∧ (0 : Int) ≤ 0 ∧ (0 : Int) ≤ 9999; omega, hw.wrong⟩
  have h2 : wheelB w = true := wheelB_iff.2 hw
  have h3 : walkB (oneW w 0) = walkB w := rfl
  unfold checkI at h ⊢
  rw [h1, h3]
  rw [h2] at h
  simpa using h

theorem zero_ok {t : Ti} {y : Ts} (hok : TiOk t) (hy : y ∈ t.ts) : TiOk (zeroT t y) := by
  have e : (zeroT t y).ts = [⟨0, y.nl, y.fu, y.l⟩] := rfl
  refine ⟨hok.gain, by rw [e]; simp, fun z hz => ?_, hok.wh, fun z hz => ?_⟩
  · rw [e, List.mem_singleton] at hz; subst hz; show (0 : Int) ≤ 0 ∧ (0 : Int) ≤ 9000; omega
  · rw [e, List.mem_singleton] at hz; subst hz; exact hok.chk y hy

theorem zero_trL {t : Ti} {y : Ts} : trL (zeroT t y) = (allT (gwT t)).filter (allowB t.w ⟨0, y.nl, y.fu, y.l⟩) := by
  show truthsS (zeroT t y) (allS (zeroT t y)) = _
  rw [← truths_filter]
  have e : gwT (zeroT t y) = gwT t := rfl
  rw [e]
  refine List.filter_congr fun k hk => ?_
  have h1 := allT_mem.1 hk
  have e1 : (gwT t).glow = -t.gain := rfl
  have e2 : (gwT t).ghigh = t.gain := rfl
  have e3 : (gwT t).skew = t.w.skew := rfl
  rw [e1, e2, e3] at h1
  unfold isTrB withinB
  have f1 : (zeroT t y).gain = t.gain := rfl
  have f2 : (zeroT t y).w = t.w := rfl
  have f3 : (zeroT t y).ts = [⟨0, y.nl, y.fu, y.l⟩] := rfl
  rw [f1, f2, f3]
  simp [h1]

theorem tell_zero (w : Wh) (y : Ts) (g : Int) : tellA w ⟨0, y.nl, y.fu, y.l⟩ g = numsI Tr.skew (oneW w 0) y.l := by unfold tellA; rw [seenA_zero]

theorem zero_count (t : Ti) (y : Ts) : ∀ a, a ≤ nA (gwT t) → (rowsA t ⟨0, y.nl, y.fu, y.l⟩ (a * nS (gwT t))).length = a * (numsI Tr.skew (oneW t.w 0) y.l).length
  | 0, _ => by simp [rowsA]
  | a + 1, h => by
    rw [rowsA_step t _ (by omega), List.length_append, List.length_map, tell_zero, zero_count t y a (by omega), Nat.add_mul, Nat.one_mul]

theorem zero_len {t : Ti} {y : Ts} (hok : TiOk t) : ((trL (zeroT t y)).length : Int) = (numsI Tr.skew (oneW t.w 0) y.l).length * (2 * t.gain + 1) := by
  have hg := hok.gain
  have hA : (nA (gwT t) : Int) = t.gain - -t.gain + 1 := by unfold nA gwT; simp only; omega
  have hlen := allT_len (gwT t)
  have hfin : rowsA t ⟨0, y.nl, y.fu, y.l⟩ (nA (gwT t) * nS (gwT t)) = trL (zeroT t y) := by rw [zero_trL]; unfold rowsA upT; rw [← hlen, List.take_length]
  rw [← hfin, zero_count t y _ (Nat.le_refl _), Int.natCast_mul, hA, Int.mul_comm]
  congr 1
  omega

theorem zero_mem {t : Ti} {y : Ts} (hok : TiOk t) {z : Int} : (∃ k ∈ trL (zeroT t y), k.skew = z) ↔ z ∈ numsI Tr.skew (oneW t.w 0) y.l := by
  have hg := hok.gain
  rw [zero_trL]
  constructor
  · rintro ⟨k, hk, rfl⟩
    have := (List.mem_filter.1 hk).2
    unfold allowB at this
    rw [tell_zero] at this
    simpa using this
  · intro hz
    have hb := numsI_skew hz
    refine ⟨⟨0, z⟩, List.mem_filter.2 ⟨allT_mem.2 ⟨?_, hb⟩, ?_⟩, rfl⟩
    · show -t.gain ≤ 0 ∧ 0 ≤ t.gain
      omega
    · unfold allowB
      rw [tell_zero]
      simpa using hz

theorem zero_all {t : Ti} {y : Ts} (hok : TiOk t) (hy : y ∈ t.ts) : (openI (oneW t.w 0) y.l true = 0 ∨ openI (oneW t.w 0) y.l true = 3) ∧ openT (zeroT t y) true = openI (oneW t.w 0) y.l true ∧
    numsT Tr.skew (zeroT t y) true = numsI Tr.skew (oneW t.w 0) y.l ∧ (manyT (zeroT t y) : Int) = (numsI Tr.skew (oneW t.w 0) y.l).length * (2 * t.gain + 1) := by
  have hc := check_one (hok.chk y hy)
  have hz := checkT_ok.2 (zero_ok hok hy)
  have h3 : openI (oneW t.w 0) y.l true = 0 ∨ openI (oneW t.w 0) y.l true = 3 := by
    unfold openI
    rw [hc]
    by_cases q : truthsL (oneW t.w 0) y.l = []
    · right; simp [q]
    · left; simp [q]
  have hE := openT_true hz
  have hlen := zero_len (y := y) hok
  rcases h3 with h | h
  · obtain ⟨n1, n2, n3⟩ := numsI_ok (f := Tr.skew) h
    obtain ⟨z, hz⟩ := List.exists_mem_of_ne_nil _ n3
    obtain ⟨k, hk, _⟩ := (zero_mem hok).2 hz
    have hne : trL (zeroT t y) ≠ [] := List.ne_nil_of_mem hk
    rw [if_neg hne] at hE
    refine ⟨.inl h, by rw [hE, h], ?_, ?_⟩
    · rw [(numsT_ok hE).1]
      have hs := numsI_sorted Tr.skew (oneW t.w 0) y.l
      refine sorted_eq (kindsL_sorted _ _) hs.1 (kindsL_nodup _ _) hs.2 fun b => ?_
      rw [kindsL_mem]
      exact zero_mem hok
    · unfold manyT
      rw [if_pos hE]
      exact hlen
  · have hn := numsI_zero (f := Tr.skew) (w := oneW t.w 0) (l := y.l) (by rw [h]; decide)
    have hne : trL (zeroT t y) = [] := by
      rw [hn] at hlen
      simp at hlen
      exact hlen
    rw [if_pos hne] at hE
    refine ⟨.inr h, by rw [hE, h], ?_, ?_⟩
    · rw [hn, numsT_zero (by rw [hE]; decide)]
    · unfold manyT
      rw [if_neg (by rw [hE]; decide), hn]
      simp

end Go.Proofs.Ytbhbmnofmoibhaa

namespace Go.Proofs.Ytbhbmnofmoibhaa
open Go Go.Abs

set_option maxHeartbeats 8000000
set_option maxRecDepth 4000



theorem law6c (t : Ti) (a b : Int) : Pure Try.prog 6 [encTi t, .agg [encI a, encI b]] (.bool true) := by
  obtain ⟨f, hF, hf⟩ := ready19 t
  refine pure_of (fn := Try.f6) [.tmp 4] ⟨Try.func6, rfl, by kernel_rfl⟩ (by kernel_rfl) (by kernel_rfl) (by kernel_rfl) fun x hx hσ => ?_
  (repeat refine awp_seq ?_); refine awp_reg1 (by rw [hx]; kernel_rfl) fun K hK => ?_; simp (maxSteps := 1000000) [ty28, ty57]; refine hK _ ?_; clear hK K; (first | show AWP _ _ _ _ _ | show ∃ _, _ | skip)
  cases f
  · (repeat refine awp_seq ?_); refine awp_reg1 (by rw [hx]; kernel_rfl) fun K hK => ?_; simp (maxSteps := 1000000) [ty28]
    refine callP (hF) (by first | (simp; done) | (simp [*]; done)) ?_; simp (maxSteps := 1000000) [ty4]
    refine hK _ ?_; clear hK K; (first | show AWP _ _ _ _ _ | show ∃ _, _ | skip)
    (repeat refine awp_seq ?_); refine awp_cond (by simp; rfl) (by rw [hx]; simp) (fun hd => ?_) (fun hd => ?_)
    · clear hd
      (repeat refine awp_seq ?_); refine awp_reg1 (by rw [hx]; kernel_rfl) fun K hK => ?_; simp (maxSteps := 1000000) []
      refine callP (works9) (by first | (simp; done) | (simp [*]; done)) ?_; simp (maxSteps := 1000000) []
      refine hK _ ?_; clear hK K; (first | show AWP _ _ _ _ _ | show ∃ _, _ | skip)
      (repeat refine awp_seq ?_); refine awp_ret ?_; refine And.intro (Or.inr rfl) ?_
      simp [retC, resC, viewC, mapO]
    · simp at hd
  obtain ⟨hz, hnear⟩ := hf rfl
  have hn := hnear.len
  have hok := checkT_ok.1 hz
  have hE := openT_true hz
  have hA0 : areaB 0 = true := rfl
  have c24 := errs24 t 0 hn
  rw [hA0] at c24
  have c23 := skews23 t hn
  have hsl := skews_len' t
  (repeat refine awp_seq ?_); refine awp_reg1 (by rw [hx]; kernel_rfl) fun K hK => ?_; simp (maxSteps := 1000000) [ty28]
  refine callP (hF) (by first | (simp; done) | (simp [*]; done)) ?_; simp (maxSteps := 1000000) [ty4]
  refine hK _ ?_; clear hK K; (first | show AWP _ _ _ _ _ | show ∃ _, _ | skip)
  (repeat refine awp_seq ?_); refine awp_cond (by simp; rfl) (by rw [hx]; simp) (fun hd => ?_) (fun hd => ?_)
  · simp at hd
  clear hd
  refine awp_skip ?_; (first | show AWP _ _ _ _ _ | show ∃ _, _ | skip)
  by_cases hL : trL t = []
  · rw [if_pos hL] at hE
    rw [hE] at c24
    rw [hE, numsT_zero (by rw [hE]; decide)] at c23
    (repeat refine awp_seq ?_); refine awp_reg1 (by rw [hx]; kernel_rfl) fun K hK => ?_; simp (maxSteps := 1000000) [ty28]
    refine callP (c24) (by first | (simp; done) | (simp [*]; done)) ?_; simp (maxSteps := 1000000) [ty28, ty23]
    refine hK _ ?_; clear hK K; (first | show AWP _ _ _ _ _ | show ∃ _, _ | skip)
    (repeat refine awp_seq ?_); refine awp_reg1 (by rw [hx]; kernel_rfl) fun K hK => ?_; simp (maxSteps := 1000000) [ty28]
    refine callP (c23) (by first | (simp; done) | (simp [*]; done)) ?_; simp (maxSteps := 1000000) [ty28, ty49]
    refine hK _ ?_; clear hK K; (first | show AWP _ _ _ _ _ | show ∃ _, _ | skip)
    (repeat refine awp_seq ?_); refine awp_reg1 (by rw [hx]; kernel_rfl) fun K hK => ?_; simp (maxSteps := 1000000) [ty34, ty49, ty3]
    refine callP (l_isKnown36 3) (by first | (simp; done) | (simp [*]; done)) ?_; simp (maxSteps := 1000000) [ty4, ty34, ty49, ty3]
    refine hK _ ?_; clear hK K; (first | show AWP _ _ _ _ _ | show ∃ _, _ | skip)
    (repeat refine awp_seq ?_); refine awp_cond (by simp; rfl) (by rw [hx]; simp) (fun hd => ?_) (fun hd => ?_)
    · simp at hd
    clear hd
    refine awp_skip ?_; (first | show AWP _ _ _ _ _ | show ∃ _, _ | skip)
    (repeat refine awp_seq ?_); refine awp_reg1 (by rw [hx]; kernel_rfl) fun K hK => ?_; simp (maxSteps := 1000000) [ty34]; refine hK _ ?_; clear hK K; (first | show AWP _ _ _ _ _ | show ∃ _, _ | skip)
    (repeat refine awp_seq ?_); refine awp_cond (by simp; rfl) (by rw [hx]; simp) (fun hd => ?_) (fun hd => ?_)
    · simp at hd
    clear hd
    refine awp_skip ?_; (first | show AWP _ _ _ _ _ | show ∃ _, _ | skip)
    (repeat refine awp_seq ?_); refine awp_reg1 (by rw [hx]; kernel_rfl) fun K hK => ?_; simp (maxSteps := 1000000) [ty28, ty26, ty3]; refine hK _ ?_; clear hK K; (first | show AWP _ _ _ _ _ | show ∃ _, _ | skip)
    by_cases h0 : t.ts = []
    · (repeat refine awp_seq ?_); refine awp_cond (by simp [h0]; rfl) (by rw [hx]; simp) (fun hd => ?_) (fun hd => ?_)
      · clear hd
        (repeat refine awp_seq ?_); refine awp_reg1 (by rw [hx]; kernel_rfl) fun K hK => ?_; simp (maxSteps := 1000000) []
        refine callP (works9) (by first | (simp; done) | (simp [*]; done)) ?_; simp (maxSteps := 1000000) []
        refine hK _ ?_; clear hK K; (first | show AWP _ _ _ _ _ | show ∃ _, _ | skip)
        (repeat refine awp_seq ?_); refine awp_ret ?_; refine And.intro (Or.inr rfl) ?_
        simp [retC, resC, viewC, mapO]
      · simp [h0] at hd
    (repeat refine awp_seq ?_); refine awp_cond (by simp [h0]; rfl) (by rw [hx]; simp) (fun hd => ?_) (fun hd => ?_)
    · simp [h0] at hd
    clear hd
    refine awp_skip ?_; (first | show AWP _ _ _ _ _ | show ∃ _, _ | skip)
    obtain ⟨y, r, hyr⟩ : ∃ y r, t.ts = y :: r := by
      cases h : t.ts with
      | nil => exact absurd h h0
      | cons a l => exact ⟨a, l, rfl⟩
    have hym : y ∈ t.ts := by rw [hyr]; simp
    obtain ⟨z1, z2, z3, z4⟩ := zero_all hok hym
    have zok := zero_ok hok hym
    have hyl := hn.l y hym
    have zln : TiLen (zeroT t y) := ⟨by show [_].length ≤ 1000; simp, fun x hx => by
      have e : (zeroT t y).ts = [⟨0, y.nl, y.fu, y.l⟩] := rfl
      rw [e, List.mem_singleton] at hx
      subst hx
      exact hyl⟩
    have zbd := truthsS_bd (allS (zeroT t y)) zok
    have zmb : manyT (zeroT t y) ≤ 410000 := by
      unfold manyT
      split
      · exact zbd
      · omega
    have c36 := skews36 (oneW t.w 0) y.nl y.fu y.l hyl
    have d23 := skews23 (zeroT t y) zln
    have d31 := many31 (zeroT t y) zln
    rw [z2, z3] at d23
    rw [z2] at d31
    have hgn := hok.gain
    have w1 : IntKind.i64.wrap (2 * t.gain) = 2 * t.gain := wrap_id (by omega) (by omega)
    have w2 : IntKind.i64.wrap (2 * t.gain + 1) = 2 * t.gain + 1 := wrap_id (by omega) (by omega)
    have w3 : IntKind.i64.wrap (((numsI Tr.skew (oneW t.w 0) y.l).length : Int) * (2 * t.gain + 1)) = (manyT (zeroT t y) : Int) := by rw [← z4]; exact wrap_id (by omega) (by omega)
    have hNl : (numsI Tr.skew (oneW t.w 0) y.l).length ≤ 410000 := by
      rw [← z3]; exact numsT_len _ _ _
    have s29 := same29 (numsI Tr.skew (oneW t.w 0) y.l).isEmpty (numsI Tr.skew (oneW t.w 0) y.l).isEmpty (numsI Tr.skew (oneW t.w 0) y.l).isEmpty (numsI Tr.skew (oneW t.w 0) y.l).isEmpty (numsI Tr.skew (oneW t.w 0) y.l) (numsI Tr.skew (oneW t.w 0) y.l) (by omega) (by omega)
    simp only [decide_true] at s29
    generalize numsI Tr.skew (oneW t.w 0) y.l = N at *
    generalize manyT (zeroT t y) = M at *
    (repeat refine awp_seq ?_); refine awp_drw3 [1001, 1003, 1005, 1008, 12] [0, 1, 2, 3, 4, 5, 6, 7, 8, 9, 10, 11, 12, 13] (by rw [hx]; kernel_rfl) (by kernel_rfl) (by kernel_rfl) (by kernel_rfl) fun K hK => ?_; simp (maxSteps := 1000000) [ty28, ty26, ty3, ty25, ty46, ty44, hyr]
    refine hK _ ?_; clear hK K; (first | show AWP _ _ _ _ _ | show ∃ _, _ | skip)
    (repeat refine awp_seq ?_); refine awp_reg1 (by rw [hx]; kernel_rfl) fun K hK => ?_; simp (maxSteps := 1000000) [ty28, ty25]; refine hK _ ?_; clear hK K; (first | show AWP _ _ _ _ _ | show ∃ _, _ | skip)
    (repeat refine awp_seq ?_); refine awp_reg1 (by rw [hx]; kernel_rfl) fun K hK => ?_; simp (maxSteps := 1000000) [ty23, ty25]; refine hK _ ?_; clear hK K; (first | show AWP _ _ _ _ _ | show ∃ _, _ | skip)
    (repeat refine awp_seq ?_); refine awp_drw3 [] [0, 1, 2, 3, 4, 5, 6, 7, 8, 9, 10, 11] (by rw [hx]; kernel_rfl) (by kernel_rfl) (by kernel_rfl) (by kernel_rfl) fun K hK => ?_; simp (maxSteps := 1000000) [ty25, ty28, ty26, ty46, ty44, hyr]
    refine callPD (c36) (by first | (simp; done) | (simp [*]; done)) (by simp) ?_; simp (maxSteps := 1000000) [ty49]
    refine hK _ ?_; clear hK K; (first | show AWP _ _ _ _ _ | show ∃ _, _ | skip)
    (repeat refine awp_seq ?_); refine awp_reg1 (by rw [hx]; kernel_rfl) fun K hK => ?_; simp (maxSteps := 1000000) [ty28]
    refine callP (d23) (by first | (simp; done) | (simp [*]; done)) ?_; simp (maxSteps := 1000000) [ty28, ty49]
    refine hK _ ?_; clear hK K; (first | show AWP _ _ _ _ _ | show ∃ _, _ | skip)
    (repeat refine awp_seq ?_); refine awp_reg1 (by rw [hx]; kernel_rfl) fun K hK => ?_; simp (maxSteps := 1000000) [ty28]
    refine callP (d31) (by first | (simp; done) | (simp [*]; done)) ?_; simp (maxSteps := 1000000) [ty28]
    refine hK _ ?_; clear hK K; (first | show AWP _ _ _ _ _ | show ∃ _, _ | skip)
    rcases z1 with z1 | z1
    · rw [z1]
      (repeat refine awp_seq ?_); refine awp_reg1 (by rw [hx]; kernel_rfl) fun K hK => ?_; simp (maxSteps := 1000000) [ty34, ty49, ty3, ty28]
      refine callP (l_isKnown36 0) (by first | (simp; done) | (simp [*]; done)) ?_; simp (maxSteps := 1000000) [ty4, ty34, ty49, ty3, ty28]
      refine callP (s29) (by first | (simp; done) | (simp [*]; done)) ?_; simp (maxSteps := 1000000) [ty4, ty34, ty49, ty3, ty28, w1, w2, w3]
      refine callP (works9) (by first | (simp; done) | (simp [*]; done)) ?_; simp (maxSteps := 1000000) [ty4]
      refine hK _ ?_; clear hK K; (first | show AWP _ _ _ _ _ | show ∃ _, _ | skip)
      (repeat refine awp_seq ?_); refine awp_ret ?_; refine And.intro (Or.inr rfl) ?_
      simp [retC, resC, viewC, mapO]
    · rw [z1]
      (repeat refine awp_seq ?_); refine awp_reg1 (by rw [hx]; kernel_rfl) fun K hK => ?_; simp (maxSteps := 1000000) [ty34, ty49, ty3, ty28]
      refine callP (l_isKnown36 3) (by first | (simp; done) | (simp [*]; done)) ?_; simp (maxSteps := 1000000) [ty4, ty34, ty49, ty3, ty28]
      refine callP (s29) (by first | (simp; done) | (simp [*]; done)) ?_; simp (maxSteps := 1000000) [ty4, ty34, ty49, ty3, ty28, w1, w2, w3]
      refine callP (works9) (by first | (simp; done) | (simp [*]; done)) ?_; simp (maxSteps := 1000000) [ty4]
      refine hK _ ?_; clear hK K; (first | show AWP _ _ _ _ _ | show ∃ _, _ | skip)
      (repeat refine awp_seq ?_); refine awp_ret ?_; refine And.intro (Or.inr rfl) ?_
      simp [retC, resC, viewC, mapO]
  rw [if_neg hL] at hE
  rw [hE] at c24
  have hnn := (numsT_ok (f := Tr.skew) hE).2.2
  have hez := ends_zero hE
  rw [hez] at c24
  rw [hE] at c23
  obtain ⟨L, hLd⟩ : ∃ L, L = numsT Tr.skew t true := ⟨_, rfl⟩
  rw [← hLd] at c24 c23 hsl hnn
  have hLl : 0 < L.length := List.length_pos_iff.2 hnn
  have hL20 : ¬ (200 : Int) < (L.length : Int) := by omega
  have hL0 : ¬ (L.length : Int) = 0 := by omega
  have hem : L.isEmpty = false := by simpa using hnn
  have hhd : L[0] = L.headD 0 := by cases L with | nil => exact absurd rfl hnn | cons a l => rfl
  (repeat refine awp_seq ?_); refine awp_reg1 (by rw [hx]; kernel_rfl) fun K hK => ?_; simp (maxSteps := 1000000) [ty28]
  refine callP (c24) (by first | (simp; done) | (simp [*]; done)) ?_; simp (maxSteps := 1000000) [ty28, ty23]
  refine hK _ ?_; clear hK K; (first | show AWP _ _ _ _ _ | show ∃ _, _ | skip)
  (repeat refine awp_seq ?_); refine awp_reg1 (by rw [hx]; kernel_rfl) fun K hK => ?_; simp (maxSteps := 1000000) [ty28]
  refine callP (c23) (by first | (simp; done) | (simp [*]; done)) ?_; simp (maxSteps := 1000000) [ty28, ty49]
  refine hK _ ?_; clear hK K; (first | show AWP _ _ _ _ _ | show ∃ _, _ | skip)
  (repeat refine awp_seq ?_); refine awp_reg1 (by rw [hx]; kernel_rfl) fun K hK => ?_; simp (maxSteps := 1000000) [ty34, ty49, ty3]
  refine callP (l_isKnown36 0) (by first | (simp; done) | (simp [*]; done)) ?_; simp (maxSteps := 1000000) [ty4, ty34, ty49, ty3, hL20, hL0]
  refine hK _ ?_; clear hK K; (first | show AWP _ _ _ _ _ | show ∃ _, _ | skip)
  (repeat refine awp_seq ?_); refine awp_cond (by simp [hL20, hL0, hnn]; rfl) (by rw [hx]; simp) (fun hd => ?_) (fun hd => ?_)
  · simp [hL20, hL0, hnn] at hd
  clear hd
  refine awp_skip ?_; (first | show AWP _ _ _ _ _ | show ∃ _, _ | skip)
  (repeat refine awp_seq ?_); refine awp_reg1 (by rw [hx]; kernel_rfl) fun K hK => ?_; simp (maxSteps := 1000000) [ty34]; refine hK _ ?_; clear hK K; (first | show AWP _ _ _ _ _ | show ∃ _, _ | skip)
  (repeat refine awp_seq ?_); refine awp_cond (by simp; rfl) (by rw [hx]; simp) (fun hd => ?_) (fun hd => ?_)
  rotate_left
  · simp at hd
  clear hd
  obtain ⟨z, r, hzr⟩ : ∃ z r, L = z :: r := by cases L with | nil => exact absurd rfl hnn | cons a l => exact ⟨a, l, rfl⟩
  have hbz : ∀ j (hj : j < L.length), -20 ≤ L[j] ∧ L[j] ≤ 20 := by
    intro j hj
    have hm : L[j] ∈ L := List.getElem_mem hj
    generalize L[j] = v at *
    rw [hLd] at hm
    obtain ⟨_, k, hk, rfl⟩ := numsT_mem hm
    have h1 := (allT_mem.1 (List.mem_filter.1 hk).1).2
    have h2 : (gwT t).skew = t.w.skew := rfl
    have h3 := hok.num.skew
    omega
  have hz0 : z = L[0] := by simp [hzr]
  have hbz0 := hbz 0 hLl
  rw [← hz0] at hbz0
  have hlz : absI z = leastTo L 0 := by rw [hzr]; rfl
  have hmz : absI z = mostTo L 0 := by rw [hzr]; rfl
  simp only [hem, hzr]
  (repeat refine awp_seq ?_); refine awp_drw3 [] [0, 1, 2, 3, 4, 5, 6, 7, 8, 9] (by rw [hx]; kernel_rfl) (by kernel_rfl) (by kernel_rfl) (by kernel_rfl) fun K hK => ?_; simp (maxSteps := 1000000) [ty49, ty3]
  refine callPD (q_size67 z (by omega)) (by first | (simp; done) | (simp [*]; done)) (by simp) ?_; simp (maxSteps := 1000000) [ty49, ty3]
  refine callPD (q_size67 z (by omega)) (by first | (simp; done) | (simp [*]; done)) (by simp) ?_; simp (maxSteps := 1000000) [ty49, ty3]
  refine hK _ ?_; clear hK K; (first | show AWP _ _ _ _ _ | show ∃ _, _ | skip)
  (repeat refine awp_seq ?_); refine awp_reg1 (by rw [hx]; kernel_rfl) fun K hK => ?_; simp (maxSteps := 1000000) []; refine hK _ ?_; clear hK K; (first | show AWP _ _ _ _ _ | show ∃ _, _ | skip)
  (repeat refine awp_seq ?_); refine awp_block ?_
  refine awp_loop (fun i : Nat => ⟨ofL [(2, .ptr 2 10 0 0), (3, .ptr 3 2 0 0), (5, .ptr 5 2 0 0), (6, encI 0), (7, .sl false false (L.map cI)), (8, encI 0), (9, encI (leastTo L i)), (10, encI (mostTo L i)), (11, encI i)],
      stoT [(2, 2, .live (obTi t)), (3, 3, .live ⟨false, false, 2, [[encI a, encI b]]⟩), (5, 5, .live ⟨false, false, 2, [[encI (leastTo L L.length), encI (mostTo L L.length)]]⟩)]⟩)
    (fun i => i ≤ L.length) (fun i => L.length - i) 0 (Nat.zero_le _) ?_ ?_
  · rw [← hlz, ← hmz]
    refine wk_shape (shp0 hσ (by simp) (by simp) ?_) ?_
    · simp [SlotOk, hzr] <;> (repeat' (first | (refine RowsOk.same ?_; simp [purel, C.isPure]; done) | (refine rowsCons ?_; simp [mtl, mtc, mT, mH, C.isPure, purel]; done) | (refine rowsCons ?_; simp [mtl, mtc, mT, mH, C.isPure, purel]) | refine And.intro ?_ ?_))
    · simp [mtc, mtl, mT, C.isPure, purel, hzr] <;> (try simp (disch := omega) [wrap_id]) <;> (try omega)
  · intro i hi
    (repeat refine awp_seq ?_); refine awp_reg1 (by rw [hx]; kernel_rfl) fun K hK => ?_; simp (maxSteps := 1000000) [ty49, ty3]; refine hK _ ?_; clear hK K; (first | show AWP _ _ _ _ _ | show ∃ _, _ | skip)
    (repeat refine awp_seq ?_); refine awp_cond (by simp; rfl) (by rw [hx]; simp) (fun hq => ?_) (fun hq => ?_)
    · simp at hq
      refine awp_skip ?_; (first | show AWP _ _ _ _ _ | show ∃ _, _ | skip)
      (repeat refine awp_seq ?_); refine awp_block ?_
      have h1 := least_step hq
      have h2 := most_step hq
      have hb := hbz i hq
      have hwi : IntKind.i64.wrap ((i : Int) + 1) = ((i + 1 : Nat) : Int) := by rw [wrap_id (by omega) (by omega)]; rfl
      (repeat refine awp_seq ?_); refine awp_drw3 [] [0, 1, 2, 3, 4, 5, 6, 7, 8, 9, 10, 11, 12, 13, 14, 15] (by rw [hx]; kernel_rfl) (by kernel_rfl) (by kernel_rfl) (by kernel_rfl) fun K hK => ?_; simp (maxSteps := 1000000) [ty49, ty3, hq]
      refine callPD (q_size67 L[i] (by omega)) (by first | (simp; done) | (simp [*]; done)) (by simp) ?_; simp (maxSteps := 1000000) [ty49, ty3, hq]
      refine callPD (q_size67 L[i] (by omega)) (by first | (simp; done) | (simp [*]; done)) (by simp) ?_; simp (maxSteps := 1000000) [ty49, ty3, hq]
      refine hK _ ?_; clear hK K; (first | show AWP _ _ _ _ _ | show ∃ _, _ | skip)
      (repeat refine awp_seq ?_); refine awp_reg1 (by rw [hx]; kernel_rfl) fun K hK => ?_; simp (maxSteps := 1000000) [ty3]; refine hK _ ?_; clear hK K; (first | show AWP _ _ _ _ _ | show ∃ _, _ | skip)
      refine ⟨i + 1, by omega, by omega, ?_⟩
      rw [h1, h2, hwi]
      refine wk_shape (shp0 hσ (by simp) (by simp) ?_) ?_
      · simp [SlotOk] <;> (repeat' (first | (refine RowsOk.same ?_; simp [purel, C.isPure]; done) | (refine rowsCons ?_; simp [mtl, mtc, mT, mH, C.isPure, purel]; done) | (refine rowsCons ?_; simp [mtl, mtc, mT, mH, C.isPure, purel]) | refine And.intro ?_ ?_))
      · simp [mtc, mtl, mT, C.isPure, purel] <;> (try simp (disch := omega) [wrap_id]) <;> (try omega)
    · simp at hq
      (repeat refine awp_seq ?_); refine awp_exit ?_; (first | show AWP _ _ _ _ _ | show ∃ _, _ | skip)
      have hin : i = L.length := by omega
      rw [hin]
      have he2 : ∀ u v : Int, eqInts [.i64, .i64] [.int .i64 u, .int .i64 v] [.int .i64 u, .int .i64 v] = some true := fun u v => by simp [eqInts]
      (repeat refine awp_seq ?_); refine awp_reg1 (by rw [hx]; kernel_rfl) fun K hK => ?_; simp (maxSteps := 1000000) [ty23, fe23, ty3, he2]; refine hK _ ?_; clear hK K; (first | show AWP _ _ _ _ _ | show ∃ _, _ | skip)
      (repeat refine awp_seq ?_); refine awp_cond (by simp; rfl) (by rw [hx]; simp) (fun hd => ?_) (fun hd => ?_)
      · simp at hd
      clear hd
      refine awp_skip ?_; (first | show AWP _ _ _ _ _ | show ∃ _, _ | skip)
      by_cases a0 : 0 ≤ a
      · by_cases ab : a ≤ b
        · by_cases b9 : b ≤ 9000
          · have c13a := seen13 t a hn
            have c13b := seen13 t b hn
            rw [areaB_iff.2 ⟨a0, by omega⟩, hE] at c13a
            rw [areaB_iff.2 ⟨by omega, b9⟩, hE] at c13b
            have hmo := ends_mono hE ab
            have m1 : ¬ (endsT (fun k => seenA b k.area) t true).1 < (endsT (fun k => seenA a k.area) t true).1 := by omega
            have m2 : ¬ (endsT (fun k => seenA b k.area) t true).2 < (endsT (fun k => seenA a k.area) t true).2 := by omega
            (repeat refine awp_seq ?_); refine awp_reg1 (by rw [hx]; kernel_rfl) fun K hK => ?_; simp (maxSteps := 1000000) [ty57, ty3, a0, ab, b9]; refine hK _ ?_; clear hK K; (first | show AWP _ _ _ _ _ | show ∃ _, _ | skip)
            (repeat refine awp_seq ?_); refine awp_cond (by simp [a0, ab, b9]; rfl) (by rw [hx]; simp) (fun hd => ?_) (fun hd => ?_)
            rotate_left
            · simp [a0, ab, b9] at hd
            clear hd
            (repeat refine awp_seq ?_); refine awp_reg1 (by rw [hx]; kernel_rfl) fun K hK => ?_; simp (maxSteps := 1000000) [ty28, ty57, ty3]
            refine callP (c13a) (by first | (simp; done) | (simp [*]; done)) ?_; simp (maxSteps := 1000000) [ty28, ty23]
            refine hK _ ?_; clear hK K; (first | show AWP _ _ _ _ _ | show ∃ _, _ | skip)
            (repeat refine awp_seq ?_); refine awp_reg1 (by rw [hx]; kernel_rfl) fun K hK => ?_; simp (maxSteps := 1000000) [ty28, ty57, ty3]
            refine callP (c13b) (by first | (simp; done) | (simp [*]; done)) ?_; simp (maxSteps := 1000000) [ty28, ty23]
            refine hK _ ?_; clear hK K; (first | show AWP _ _ _ _ _ | show ∃ _, _ | skip)
            (repeat refine awp_seq ?_); refine awp_reg1 (by rw [hx]; kernel_rfl) fun K hK => ?_; simp (maxSteps := 1000000) [ty34, ty3, ty23, m1, m2]; refine hK _ ?_; clear hK K; (first | show AWP _ _ _ _ _ | show ∃ _, _ | skip)
            (repeat refine awp_seq ?_); refine awp_cond (by simp [m1, m2]; rfl) (by rw [hx]; simp) (fun hd => ?_) (fun hd => ?_)
            · simp [m1, m2] at hd
            clear hd
            refine awp_skip ?_; (first | show AWP _ _ _ _ _ | show ∃ _, _ | skip)
            (repeat refine awp_seq ?_); refine awp_reg1 (by rw [hx]; kernel_rfl) fun K hK => ?_; simp (maxSteps := 1000000) [ty28, ty26, ty3]; refine hK _ ?_; clear hK K; (first | show AWP _ _ _ _ _ | show ∃ _, _ | skip)
            by_cases h0 : t.ts = []
            · (repeat refine awp_seq ?_); refine awp_cond (by simp [h0]; rfl) (by rw [hx]; simp) (fun hd => ?_) (fun hd => ?_)
              · clear hd
                (repeat refine awp_seq ?_); refine awp_reg1 (by rw [hx]; kernel_rfl) fun K hK => ?_; simp (maxSteps := 1000000) []
                refine callP (works9) (by first | (simp; done) | (simp [*]; done)) ?_; simp (maxSteps := 1000000) []
                refine hK _ ?_; clear hK K; (first | show AWP _ _ _ _ _ | show ∃ _, _ | skip)
                (repeat refine awp_seq ?_); refine awp_ret ?_; refine And.intro (Or.inr rfl) ?_
                simp [retC, resC, viewC, mapO]
              · simp [h0] at hd
            (repeat refine awp_seq ?_); refine awp_cond (by simp [h0]; rfl) (by rw [hx]; simp) (fun hd => ?_) (fun hd => ?_)
            · simp [h0] at hd
            clear hd
            refine awp_skip ?_; (first | show AWP _ _ _ _ _ | show ∃ _, _ | skip)
            obtain ⟨y, r, hyr⟩ : ∃ y r, t.ts = y :: r := by
              cases h : t.ts with
              | nil => exact absurd h h0
              | cons a l => exact ⟨a, l, rfl⟩
            have hym : y ∈ t.ts := by rw [hyr]; simp
            obtain ⟨z1, z2, z3, z4⟩ := zero_all hok hym
            have zok := zero_ok hok hym
            have hyl := hn.l y hym
            have zln : TiLen (zeroT t y) := ⟨by show [_].length ≤ 1000; simp, fun x hx => by
              have e : (zeroT t y).ts = [⟨0, y.nl, y.fu, y.l⟩] := rfl
              rw [e, List.mem_singleton] at hx
              subst hx
              exact hyl⟩
            have zbd := truthsS_bd (allS (zeroT t y)) zok
            have zmb : manyT (zeroT t y) ≤ 410000 := by
              unfold manyT
              split
              · exact zbd
              · omega
            have c36 := skews36 (oneW t.w 0) y.nl y.fu y.l hyl
            have d23 := skews23 (zeroT t y) zln
            have d31 := many31 (zeroT t y) zln
            rw [z2, z3] at d23
            rw [z2] at d31
            have hgn := hok.gain
            have w1 : IntKind.i64.wrap (2 * t.gain) = 2 * t.gain := wrap_id (by omega) (by omega)
            have w2 : IntKind.i64.wrap (2 * t.gain + 1) = 2 * t.gain + 1 := wrap_id (by omega) (by omega)
            have w3 : IntKind.i64.wrap (((numsI Tr.skew (oneW t.w 0) y.l).length : Int) * (2 * t.gain + 1)) = (manyT (zeroT t y) : Int) := by rw [← z4]; exact wrap_id (by omega) (by omega)
            have hNl : (numsI Tr.skew (oneW t.w 0) y.l).length ≤ 410000 := by
              rw [← z3]; exact numsT_len _ _ _
            have s29 := same29 (numsI Tr.skew (oneW t.w 0) y.l).isEmpty (numsI Tr.skew (oneW t.w 0) y.l).isEmpty (numsI Tr.skew (oneW t.w 0) y.l).isEmpty (numsI Tr.skew (oneW t.w 0) y.l).isEmpty (numsI Tr.skew (oneW t.w 0) y.l) (numsI Tr.skew (oneW t.w 0) y.l) (by omega) (by omega)
            simp only [decide_true] at s29
            generalize numsI Tr.skew (oneW t.w 0) y.l = N at *
            generalize manyT (zeroT t y) = M at *
            (repeat refine awp_seq ?_); refine awp_drw3 [1001, 1003, 1005, 1008, 12] [0, 1, 2, 3, 4, 5, 6, 7, 8, 9, 10, 11, 12, 13] (by rw [hx]; kernel_rfl) (by kernel_rfl) (by kernel_rfl) (by kernel_rfl) fun K hK => ?_; simp (maxSteps := 1000000) [ty28, ty26, ty3, ty25, ty46, ty44, hyr]
            refine hK _ ?_; clear hK K; (first | show AWP _ _ _ _ _ | show ∃ _, _ | skip)
            (repeat refine awp_seq ?_); refine awp_reg1 (by rw [hx]; kernel_rfl) fun K hK => ?_; simp (maxSteps := 1000000) [ty28, ty25]; refine hK _ ?_; clear hK K; (first | show AWP _ _ _ _ _ | show ∃ _, _ | skip)
            (repeat refine awp_seq ?_); refine awp_reg1 (by rw [hx]; kernel_rfl) fun K hK => ?_; simp (maxSteps := 1000000) [ty23, ty25]; refine hK _ ?_; clear hK K; (first | show AWP _ _ _ _ _ | show ∃ _, _ | skip)
            (repeat refine awp_seq ?_); refine awp_drw3 [] [0, 1, 2, 3, 4, 5, 6, 7, 8, 9, 10, 11] (by rw [hx]; kernel_rfl) (by kernel_rfl) (by kernel_rfl) (by kernel_rfl) fun K hK => ?_; simp (maxSteps := 1000000) [ty25, ty28, ty26, ty46, ty44, hyr]
            refine callPD (c36) (by first | (simp; done) | (simp [*]; done)) (by simp) ?_; simp (maxSteps := 1000000) [ty49]
            refine hK _ ?_; clear hK K; (first | show AWP _ _ _ _ _ | show ∃ _, _ | skip)
            (repeat refine awp_seq ?_); refine awp_reg1 (by rw [hx]; kernel_rfl) fun K hK => ?_; simp (maxSteps := 1000000) [ty28]
            refine callP (d23) (by first | (simp; done) | (simp [*]; done)) ?_; simp (maxSteps := 1000000) [ty28, ty49]
            refine hK _ ?_; clear hK K; (first | show AWP _ _ _ _ _ | show ∃ _, _ | skip)
            (repeat refine awp_seq ?_); refine awp_reg1 (by rw [hx]; kernel_rfl) fun K hK => ?_; simp (maxSteps := 1000000) [ty28]
            refine callP (d31) (by first | (simp; done) | (simp [*]; done)) ?_; simp (maxSteps := 1000000) [ty28]
            refine hK _ ?_; clear hK K; (first | show AWP _ _ _ _ _ | show ∃ _, _ | skip)
            rcases z1 with z1 | z1
            · rw [z1]
              (repeat refine awp_seq ?_); refine awp_reg1 (by rw [hx]; kernel_rfl) fun K hK => ?_; simp (maxSteps := 1000000) [ty34, ty49, ty3, ty28]
              refine callP (l_isKnown36 0) (by first | (simp; done) | (simp [*]; done)) ?_; simp (maxSteps := 1000000) [ty4, ty34, ty49, ty3, ty28]
              refine callP (s29) (by first | (simp; done) | (simp [*]; done)) ?_; simp (maxSteps := 1000000) [ty4, ty34, ty49, ty3, ty28, w1, w2, w3]
              refine callP (works9) (by first | (simp; done) | (simp [*]; done)) ?_; simp (maxSteps := 1000000) [ty4]
              refine hK _ ?_; clear hK K; (first | show AWP _ _ _ _ _ | show ∃ _, _ | skip)
              (repeat refine awp_seq ?_); refine awp_ret ?_; refine And.intro (Or.inr rfl) ?_
              simp [retC, resC, viewC, mapO]
            · rw [z1]
              (repeat refine awp_seq ?_); refine awp_reg1 (by rw [hx]; kernel_rfl) fun K hK => ?_; simp (maxSteps := 1000000) [ty34, ty49, ty3, ty28]
              refine callP (l_isKnown36 3) (by first | (simp; done) | (simp [*]; done)) ?_; simp (maxSteps := 1000000) [ty4, ty34, ty49, ty3, ty28]
              refine callP (s29) (by first | (simp; done) | (simp [*]; done)) ?_; simp (maxSteps := 1000000) [ty4, ty34, ty49, ty3, ty28, w1, w2, w3]
              refine callP (works9) (by first | (simp; done) | (simp [*]; done)) ?_; simp (maxSteps := 1000000) [ty4]
              refine hK _ ?_; clear hK K; (first | show AWP _ _ _ _ _ | show ∃ _, _ | skip)
              (repeat refine awp_seq ?_); refine awp_ret ?_; refine And.intro (Or.inr rfl) ?_
              simp [retC, resC, viewC, mapO]
          · (repeat refine awp_seq ?_); refine awp_reg1 (by rw [hx]; kernel_rfl) fun K hK => ?_; simp (maxSteps := 1000000) [ty57, ty3, b9, ab, a0]; refine hK _ ?_; clear hK K; (first | show AWP _ _ _ _ _ | show ∃ _, _ | skip)
            (repeat refine awp_seq ?_); refine awp_cond (by simp [b9, ab, a0]; rfl) (by rw [hx]; simp) (fun hd => ?_) (fun hd => ?_)
            · simp [b9, ab, a0] at hd
            clear hd
            refine awp_skip ?_; (first | show AWP _ _ _ _ _ | show ∃ _, _ | skip)
            (repeat refine awp_seq ?_); refine awp_reg1 (by rw [hx]; kernel_rfl) fun K hK => ?_; simp (maxSteps := 1000000) [ty28, ty26, ty3]; refine hK _ ?_; clear hK K; (first | show AWP _ _ _ _ _ | show ∃ _, _ | skip)
            by_cases h0 : t.ts = []
            · (repeat refine awp_seq ?_); refine awp_cond (by simp [h0]; rfl) (by rw [hx]; simp) (fun hd => ?_) (fun hd => ?_)
              · clear hd
                (repeat refine awp_seq ?_); refine awp_reg1 (by rw [hx]; kernel_rfl) fun K hK => ?_; simp (maxSteps := 1000000) []
                refine callP (works9) (by first | (simp; done) | (simp [*]; done)) ?_; simp (maxSteps := 1000000) []
                refine hK _ ?_; clear hK K; (first | show AWP _ _ _ _ _ | show ∃ _, _ | skip)
                (repeat refine awp_seq ?_); refine awp_ret ?_; refine And.intro (Or.inr rfl) ?_
                simp [retC, resC, viewC, mapO]
              · simp [h0] at hd
            (repeat refine awp_seq ?_); refine awp_cond (by simp [h0]; rfl) (by rw [hx]; simp) (fun hd => ?_) (fun hd => ?_)
            · simp [h0] at hd
            clear hd
            refine awp_skip ?_; (first | show AWP _ _ _ _ _ | show ∃ _, _ | skip)
            obtain ⟨y, r, hyr⟩ : ∃ y r, t.ts = y :: r := by
              cases h : t.ts with
              | nil => exact absurd h h0
              | cons a l => exact ⟨a, l, rfl⟩
            have hym : y ∈ t.ts := by rw [hyr]; simp
            obtain ⟨z1, z2, z3, z4⟩ := zero_all hok hym
            have zok := zero_ok hok hym
            have hyl := hn.l y hym
            have zln : TiLen (zeroT t y) := ⟨by show [_].length ≤ 1000; simp, fun x hx => by
              have e : (zeroT t y).ts = [⟨0, y.nl, y.fu, y.l⟩] := rfl
              rw [e, List.mem_singleton] at hx
              subst hx
              exact hyl⟩
            have zbd := truthsS_bd (allS (zeroT t y)) zok
            have zmb : manyT (zeroT t y) ≤ 410000 := by
              unfold manyT
              split
              · exact zbd
              · omega
            have c36 := skews36 (oneW t.w 0) y.nl y.fu y.l hyl
            have d23 := skews23 (zeroT t y) zln
            have d31 := many31 (zeroT t y) zln
            rw [z2, z3] at d23
            rw [z2] at d31
            have hgn := hok.gain
            have w1 : IntKind.i64.wrap (2 * t.gain) = 2 * t.gain := wrap_id (by omega) (by omega)
            have w2 : IntKind.i64.wrap (2 * t.gain + 1) = 2 * t.gain + 1 := wrap_id (by omega) (by omega)
            have w3 : IntKind.i64.wrap (((numsI Tr.skew (oneW t.w 0) y.l).length : Int) * (2 * t.gain + 1)) = (manyT (zeroT t y) : Int) := by rw [← z4]; exact wrap_id (by omega) (by omega)
            have hNl : (numsI Tr.skew (oneW t.w 0) y.l).length ≤ 410000 := by
              rw [← z3]; exact numsT_len _ _ _
            have s29 := same29 (numsI Tr.skew (oneW t.w 0) y.l).isEmpty (numsI Tr.skew (oneW t.w 0) y.l).isEmpty (numsI Tr.skew (oneW t.w 0) y.l).isEmpty (numsI Tr.skew (oneW t.w 0) y.l).isEmpty (numsI Tr.skew (oneW t.w 0) y.l) (numsI Tr.skew (oneW t.w 0) y.l) (by omega) (by omega)
            simp only [decide_true] at s29
            generalize numsI Tr.skew (oneW t.w 0) y.l = N at *
            generalize manyT (zeroT t y) = M at *
            (repeat refine awp_seq ?_); refine awp_drw3 [1001, 1003, 1005, 1008, 12] [0, 1, 2, 3, 4, 5, 6, 7, 8, 9, 10, 11, 12, 13] (by rw [hx]; kernel_rfl) (by kernel_rfl) (by kernel_rfl) (by kernel_rfl) fun K hK => ?_; simp (maxSteps := 1000000) [ty28, ty26, ty3, ty25, ty46, ty44, hyr]
            refine hK _ ?_; clear hK K; (first | show AWP _ _ _ _ _ | show ∃ _, _ | skip)
            (repeat refine awp_seq ?_); refine awp_reg1 (by rw [hx]; kernel_rfl) fun K hK => ?_; simp (maxSteps := 1000000) [ty28, ty25]; refine hK _ ?_; clear hK K; (first | show AWP _ _ _ _ _ | show ∃ _, _ | skip)
            (repeat refine awp_seq ?_); refine awp_reg1 (by rw [hx]; kernel_rfl) fun K hK => ?_; simp (maxSteps := 1000000) [ty23, ty25]; refine hK _ ?_; clear hK K; (first | show AWP _ _ _ _ _ | show ∃ _, _ | skip)
            (repeat refine awp_seq ?_); refine awp_drw3 [] [0, 1, 2, 3, 4, 5, 6, 7, 8, 9, 10, 11] (by rw [hx]; kernel_rfl) (by kernel_rfl) (by kernel_rfl) (by kernel_rfl) fun K hK => ?_; simp (maxSteps := 1000000) [ty25, ty28, ty26, ty46, ty44, hyr]
            refine callPD (c36) (by first | (simp; done) | (simp [*]; done)) (by simp) ?_; simp (maxSteps := 1000000) [ty49]
            refine hK _ ?_; clear hK K; (first | show AWP _ _ _ _ _ | show ∃ _, _ | skip)
            (repeat refine awp_seq ?_); refine awp_reg1 (by rw [hx]; kernel_rfl) fun K hK => ?_; simp (maxSteps := 1000000) [ty28]
            refine callP (d23) (by first | (simp; done) | (simp [*]; done)) ?_; simp (maxSteps := 1000000) [ty28, ty49]
            refine hK _ ?_; clear hK K; (first | show AWP _ _ _ _ _ | show ∃ _, _ | skip)
            (repeat refine awp_seq ?_); refine awp_reg1 (by rw [hx]; kernel_rfl) fun K hK => ?_; simp (maxSteps := 1000000) [ty28]
            refine callP (d31) (by first | (simp; done) | (simp [*]; done)) ?_; simp (maxSteps := 1000000) [ty28]
            refine hK _ ?_; clear hK K; (first | show AWP _ _ _ _ _ | show ∃ _, _ | skip)
            rcases z1 with z1 | z1
            · rw [z1]
              (repeat refine awp_seq ?_); refine awp_reg1 (by rw [hx]; kernel_rfl) fun K hK => ?_; simp (maxSteps := 1000000) [ty34, ty49, ty3, ty28]
              refine callP (l_isKnown36 0) (by first | (simp; done) | (simp [*]; done)) ?_; simp (maxSteps := 1000000) [ty4, ty34, ty49, ty3, ty28]
              refine callP (s29) (by first | (simp; done) | (simp [*]; done)) ?_; simp (maxSteps := 1000000) [ty4, ty34, ty49, ty3, ty28, w1, w2, w3]
              refine callP (works9) (by first | (simp; done) | (simp [*]; done)) ?_; simp (maxSteps := 1000000) [ty4]
              refine hK _ ?_; clear hK K; (first | show AWP _ _ _ _ _ | show ∃ _, _ | skip)
              (repeat refine awp_seq ?_); refine awp_ret ?_; refine And.intro (Or.inr rfl) ?_
              simp [retC, resC, viewC, mapO]
            · rw [z1]
              (repeat refine awp_seq ?_); refine awp_reg1 (by rw [hx]; kernel_rfl) fun K hK => ?_; simp (maxSteps := 1000000) [ty34, ty49, ty3, ty28]
              refine callP (l_isKnown36 3) (by first | (simp; done) | (simp [*]; done)) ?_; simp (maxSteps := 1000000) [ty4, ty34, ty49, ty3, ty28]
              refine callP (s29) (by first | (simp; done) | (simp [*]; done)) ?_; simp (maxSteps := 1000000) [ty4, ty34, ty49, ty3, ty28, w1, w2, w3]
              refine callP (works9) (by first | (simp; done) | (simp [*]; done)) ?_; simp (maxSteps := 1000000) [ty4]
              refine hK _ ?_; clear hK K; (first | show AWP _ _ _ _ _ | show ∃ _, _ | skip)
              (repeat refine awp_seq ?_); refine awp_ret ?_; refine And.intro (Or.inr rfl) ?_
              simp [retC, resC, viewC, mapO]
        · (repeat refine awp_seq ?_); refine awp_reg1 (by rw [hx]; kernel_rfl) fun K hK => ?_; simp (maxSteps := 1000000) [ty57, ty3, ab, a0]; refine hK _ ?_; clear hK K; (first | show AWP _ _ _ _ _ | show ∃ _, _ | skip)
          (repeat refine awp_seq ?_); refine awp_cond (by simp [ab, a0]; rfl) (by rw [hx]; simp) (fun hd => ?_) (fun hd => ?_)
          · simp [ab, a0] at hd
          clear hd
          refine awp_skip ?_; (first | show AWP _ _ _ _ _ | show ∃ _, _ | skip)
          (repeat refine awp_seq ?_); refine awp_reg1 (by rw [hx]; kernel_rfl) fun K hK => ?_; simp (maxSteps := 1000000) [ty28, ty26, ty3]; refine hK _ ?_; clear hK K; (first | show AWP _ _ _ _ _ | show ∃ _, _ | skip)
          by_cases h0 : t.ts = []
          · (repeat refine awp_seq ?_); refine awp_cond (by simp [h0]; rfl) (by rw [hx]; simp) (fun hd => ?_) (fun hd => ?_)
            · clear hd
              (repeat refine awp_seq ?_); refine awp_reg1 (by rw [hx]; kernel_rfl) fun K hK => ?_; simp (maxSteps := 1000000) []
              refine callP (works9) (by first | (simp; done) | (simp [*]; done)) ?_; simp (maxSteps := 1000000) []
              refine hK _ ?_; clear hK K; (first | show AWP _ _ _ _ _ | show ∃ _, _ | skip)
              (repeat refine awp_seq ?_); refine awp_ret ?_; refine And.intro (Or.inr rfl) ?_
              simp [retC, resC, viewC, mapO]
            · simp [h0] at hd
          (repeat refine awp_seq ?_); refine awp_cond (by simp [h0]; rfl) (by rw [hx]; simp) (fun hd => ?_) (fun hd => ?_)
          · simp [h0] at hd
          clear hd
          refine awp_skip ?_; (first | show AWP _ _ _ _ _ | show ∃ _, _ | skip)
          obtain ⟨y, r, hyr⟩ : ∃ y r, t.ts = y :: r := by
            cases h : t.ts with
            | nil => exact absurd h h0
            | cons a l => exact ⟨a, l, rfl⟩
          have hym : y ∈ t.ts := by rw [hyr]; simp
          obtain ⟨z1, z2, z3, z4⟩ := zero_all hok hym
          have zok := zero_ok hok hym
          have hyl := hn.l y hym
          have zln : TiLen (zeroT t y) := ⟨by show [_].length ≤ 1000; simp, fun x hx => by
            have e : (zeroT t y).ts = [⟨0, y.nl, y.fu, y.l⟩] := rfl
            rw [e, List.mem_singleton] at hx
            subst hx
            exact hyl⟩
          have zbd := truthsS_bd (allS (zeroT t y)) zok
          have zmb : manyT (zeroT t y) ≤ 410000 := by
            unfold manyT
            split
            · exact zbd
            · omega
          have c36 := skews36 (oneW t.w 0) y.nl y.fu y.l hyl
          have d23 := skews23 (zeroT t y) zln
          have d31 := many31 (zeroT t y) zln
          rw [z2, z3] at d23
          rw [z2] at d31
          have hgn := hok.gain
          have w1 : IntKind.i64.wrap (2 * t.gain) = 2 * t.gain := wrap_id (by omega) (by omega)
          have w2 : IntKind.i64.wrap (2 * t.gain + 1) = 2 * t.gain + 1 := wrap_id (by omega) (by omega)
          have w3 : IntKind.i64.wrap (((numsI Tr.skew (oneW t.w 0) y.l).length : Int) * (2 * t.gain + 1)) = (manyT (zeroT t y) : Int) := by rw [← z4]; exact wrap_id (by omega) (by omega)
          have hNl : (numsI Tr.skew (oneW t.w 0) y.l).length ≤ 410000 := by
            rw [← z3]; exact numsT_len _ _ _
          have s29 := same29 (numsI Tr.skew (oneW t.w 0) y.l).isEmpty (numsI Tr.skew (oneW t.w 0) y.l).isEmpty (numsI Tr.skew (oneW t.w 0) y.l).isEmpty (numsI Tr.skew (oneW t.w 0) y.l).isEmpty (numsI Tr.skew (oneW t.w 0) y.l) (numsI Tr.skew (oneW t.w 0) y.l) (by omega) (by omega)
          simp only [decide_true] at s29
          generalize numsI Tr.skew (oneW t.w 0) y.l = N at *
          generalize manyT (zeroT t y) = M at *
          (repeat refine awp_seq ?_); refine awp_drw3 [1001, 1003, 1005, 1008, 12] [0, 1, 2, 3, 4, 5, 6, 7, 8, 9, 10, 11, 12, 13] (by rw [hx]; kernel_rfl) (by kernel_rfl) (by kernel_rfl) (by kernel_rfl) fun K hK => ?_; simp (maxSteps := 1000000) [ty28, ty26, ty3, ty25, ty46, ty44, hyr]
          refine hK _ ?_; clear hK K; (first | show AWP _ _ _ _ _ | show ∃ _, _ | skip)
          (repeat refine awp_seq ?_); refine awp_reg1 (by rw [hx]; kernel_rfl) fun K hK => ?_; simp (maxSteps := 1000000) [ty28, ty25]; refine hK _ ?_; clear hK K; (first | show AWP _ _ _ _ _ | show ∃ _, _ | skip)
          (repeat refine awp_seq ?_); refine awp_reg1 (by rw [hx]; kernel_rfl) fun K hK => ?_; simp (maxSteps := 1000000) [ty23, ty25]; refine hK _ ?_; clear hK K; (first | show AWP _ _ _ _ _ | show ∃ _, _ | skip)
          (repeat refine awp_seq ?_); refine awp_drw3 [] [0, 1, 2, 3, 4, 5, 6, 7, 8, 9, 10, 11] (by rw [hx]; kernel_rfl) (by kernel_rfl) (by kernel_rfl) (by kernel_rfl) fun K hK => ?_; simp (maxSteps := 1000000) [ty25, ty28, ty26, ty46, ty44, hyr]
          refine callPD (c36) (by first | (simp; done) | (simp [*]; done)) (by simp) ?_; simp (maxSteps := 1000000) [ty49]
          refine hK _ ?_; clear hK K; (first | show AWP _ _ _ _ _ | show ∃ _, _ | skip)
          (repeat refine awp_seq ?_); refine awp_reg1 (by rw [hx]; kernel_rfl) fun K hK => ?_; simp (maxSteps := 1000000) [ty28]
          refine callP (d23) (by first | (simp; done) | (simp [*]; done)) ?_; simp (maxSteps := 1000000) [ty28, ty49]
          refine hK _ ?_; clear hK K; (first | show AWP _ _ _ _ _ | show ∃ _, _ | skip)
          (repeat refine awp_seq ?_); refine awp_reg1 (by rw [hx]; kernel_rfl) fun K hK => ?_; simp (maxSteps := 1000000) [ty28]
          refine callP (d31) (by first | (simp; done) | (simp [*]; done)) ?_; simp (maxSteps := 1000000) [ty28]
          refine hK _ ?_; clear hK K; (first | show AWP _ _ _ _ _ | show ∃ _, _ | skip)
          rcases z1 with z1 | z1
          · rw [z1]
            (repeat refine awp_seq ?_); refine awp_reg1 (by rw [hx]; kernel_rfl) fun K hK => ?_; simp (maxSteps := 1000000) [ty34, ty49, ty3, ty28]
            refine callP (l_isKnown36 0) (by first | (simp; done) | (simp [*]; done)) ?_; simp (maxSteps := 1000000) [ty4, ty34, ty49, ty3, ty28]
            refine callP (s29) (by first | (simp; done) | (simp [*]; done)) ?_; simp (maxSteps := 1000000) [ty4, ty34, ty49, ty3, ty28, w1, w2, w3]
            refine callP (works9) (by first | (simp; done) | (simp [*]; done)) ?_; simp (maxSteps := 1000000) [ty4]
            refine hK _ ?_; clear hK K; (first | show AWP _ _ _ _ _ | show ∃ _, _ | skip)
            (repeat refine awp_seq ?_); refine awp_ret ?_; refine And.intro (Or.inr rfl) ?_
            simp [retC, resC, viewC, mapO]
          · rw [z1]
            (repeat refine awp_seq ?_); refine awp_reg1 (by rw [hx]; kernel_rfl) fun K hK => ?_; simp (maxSteps := 1000000) [ty34, ty49, ty3, ty28]
            refine callP (l_isKnown36 3) (by first | (simp; done) | (simp [*]; done)) ?_; simp (maxSteps := 1000000) [ty4, ty34, ty49, ty3, ty28]
            refine callP (s29) (by first | (simp; done) | (simp [*]; done)) ?_; simp (maxSteps := 1000000) [ty4, ty34, ty49, ty3, ty28, w1, w2, w3]
            refine callP (works9) (by first | (simp; done) | (simp [*]; done)) ?_; simp (maxSteps := 1000000) [ty4]
            refine hK _ ?_; clear hK K; (first | show AWP _ _ _ _ _ | show ∃ _, _ | skip)
            (repeat refine awp_seq ?_); refine awp_ret ?_; refine And.intro (Or.inr rfl) ?_
            simp [retC, resC, viewC, mapO]
      · (repeat refine awp_seq ?_); refine awp_reg1 (by rw [hx]; kernel_rfl) fun K hK => ?_; simp (maxSteps := 1000000) [ty57, ty3, a0]; refine hK _ ?_; clear hK K; (first | show AWP _ _ _ _ _ | show ∃ _, _ | skip)
        (repeat refine awp_seq ?_); refine awp_cond (by simp [a0]; rfl) (by rw [hx]; simp) (fun hd => ?_) (fun hd => ?_)
        · simp [a0] at hd
        clear hd
        refine awp_skip ?_; (first | show AWP _ _ _ _ _ | show ∃ _, _ | skip)
        (repeat refine awp_seq ?_); refine awp_reg1 (by rw [hx]; kernel_rfl) fun K hK => ?_; simp (maxSteps := 1000000) [ty28, ty26, ty3]; refine hK _ ?_; clear hK K; (first | show AWP _ _ _ _ _ | show ∃ _, _ | skip)
        by_cases h0 : t.ts = []
        · (repeat refine awp_seq ?_); refine awp_cond (by simp [h0]; rfl) (by rw [hx]; simp) (fun hd => ?_) (fun hd => ?_)
          · clear hd
            (repeat refine awp_seq ?_); refine awp_reg1 (by rw [hx]; kernel_rfl) fun K hK => ?_; simp (maxSteps := 1000000) []
            refine callP (works9) (by first | (simp; done) | (simp [*]; done)) ?_; simp (maxSteps := 1000000) []
            refine hK _ ?_; clear hK K; (first | show AWP _ _ _ _ _ | show ∃ _, _ | skip)
            (repeat refine awp_seq ?_); refine awp_ret ?_; refine And.intro (Or.inr rfl) ?_
            simp [retC, resC, viewC, mapO]
          · simp [h0] at hd
        (repeat refine awp_seq ?_); refine awp_cond (by simp [h0]; rfl) (by rw [hx]; simp) (fun hd => ?_) (fun hd => ?_)
        · simp [h0] at hd
        clear hd
        refine awp_skip ?_; (first | show AWP _ _ _ _ _ | show ∃ _, _ | skip)
        obtain ⟨y, r, hyr⟩ : ∃ y r, t.ts = y :: r := by
          cases h : t.ts with
          | nil => exact absurd h h0
          | cons a l => exact ⟨a, l, rfl⟩
        have hym : y ∈ t.ts := by rw [hyr]; simp
        obtain ⟨z1, z2, z3, z4⟩ := zero_all hok hym
        have zok := zero_ok hok hym
        have hyl := hn.l y hym
        have zln : TiLen (zeroT t y) := ⟨by show [_].length ≤ 1000; simp, fun x hx => by
          have e : (zeroT t y).ts = [⟨0, y.nl, y.fu, y.l⟩] := rfl
          rw [e, List.mem_singleton] at hx
          subst hx
          exact hyl⟩
        have zbd := truthsS_bd (allS (zeroT t y)) zok
        have zmb : manyT (zeroT t y) ≤ 410000 := by
          unfold manyT
          split
          · exact zbd
          · omega
        have c36 := skews36 (oneW t.w 0) y.nl y.fu y.l hyl
        have d23 := skews23 (zeroT t y) zln
        have d31 := many31 (zeroT t y) zln
        rw [z2, z3] at d23
        rw [z2] at d31
        have hgn := hok.gain
        have w1 : IntKind.i64.wrap (2 * t.gain) = 2 * t.gain := wrap_id (by omega) (by omega)
        have w2 : IntKind.i64.wrap (2 * t.gain + 1) = 2 * t.gain + 1 := wrap_id (by omega) (by omega)
        have w3 : IntKind.i64.wrap (((numsI Tr.skew (oneW t.w 0) y.l).length : Int) * (2 * t.gain + 1)) = (manyT (zeroT t y) : Int) := by rw [← z4]; exact wrap_id (by omega) (by omega)
        have hNl : (numsI Tr.skew (oneW t.w 0) y.l).length ≤ 410000 := by
          rw [← z3]; exact numsT_len _ _ _
        have s29 := same29 (numsI Tr.skew (oneW t.w 0) y.l).isEmpty (numsI Tr.skew (oneW t.w 0) y.l).isEmpty (numsI Tr.skew (oneW t.w 0) y.l).isEmpty (numsI Tr.skew (oneW t.w 0) y.l).isEmpty (numsI Tr.skew (oneW t.w 0) y.l) (numsI Tr.skew (oneW t.w 0) y.l) (by omega) (by omega)
        simp only [decide_true] at s29
        generalize numsI Tr.skew (oneW t.w 0) y.l = N at *
        generalize manyT (zeroT t y) = M at *
        (repeat refine awp_seq ?_); refine awp_drw3 [1001, 1003, 1005, 1008, 12] [0, 1, 2, 3, 4, 5, 6, 7, 8, 9, 10, 11, 12, 13] (by rw [hx]; kernel_rfl) (by kernel_rfl) (by kernel_rfl) (by kernel_rfl) fun K hK => ?_; simp (maxSteps := 1000000) [ty28, ty26, ty3, ty25, ty46, ty44, hyr]
        refine hK _ ?_; clear hK K; (first | show AWP _ _ _ _ _ | show ∃ _, _ | skip)
        (repeat refine awp_seq ?_); refine awp_reg1 (by rw [hx]; kernel_rfl) fun K hK => ?_; simp (maxSteps := 1000000) [ty28, ty25]; refine hK _ ?_; clear hK K; (first | show AWP _ _ _ _ _ | show ∃ _, _ | skip)
        (repeat refine awp_seq ?_); refine awp_reg1 (by rw [hx]; kernel_rfl) fun K hK => ?_; simp (maxSteps := 1000000) [ty23, ty25]; refine hK _ ?_; clear hK K; (first | show AWP _ _ _ _ _ | show ∃ _, _ | skip)
        (repeat refine awp_seq ?_); refine awp_drw3 [] [0, 1, 2, 3, 4, 5, 6, 7, 8, 9, 10, 11] (by rw [hx]; kernel_rfl) (by kernel_rfl) (by kernel_rfl) (by kernel_rfl) fun K hK => ?_; simp (maxSteps := 1000000) [ty25, ty28, ty26, ty46, ty44, hyr]
        refine callPD (c36) (by first | (simp; done) | (simp [*]; done)) (by simp) ?_; simp (maxSteps := 1000000) [ty49]
        refine hK _ ?_; clear hK K; (first | show AWP _ _ _ _ _ | show ∃ _, _ | skip)
        (repeat refine awp_seq ?_); refine awp_reg1 (by rw [hx]; kernel_rfl) fun K hK => ?_; simp (maxSteps := 1000000) [ty28]
        refine callP (d23) (by first | (simp; done) | (simp [*]; done)) ?_; simp (maxSteps := 1000000) [ty28, ty49]
        refine hK _ ?_; clear hK K; (first | show AWP _ _ _ _ _ | show ∃ _, _ | skip)
        (repeat refine awp_seq ?_); refine awp_reg1 (by rw [hx]; kernel_rfl) fun K hK => ?_; simp (maxSteps := 1000000) [ty28]
        refine callP (d31) (by first | (simp; done) | (simp [*]; done)) ?_; simp (maxSteps := 1000000) [ty28]
        refine hK _ ?_; clear hK K; (first | show AWP _ _ _ _ _ | show ∃ _, _ | skip)
        rcases z1 with z1 | z1
        · rw [z1]
          (repeat refine awp_seq ?_); refine awp_reg1 (by rw [hx]; kernel_rfl) fun K hK => ?_; simp (maxSteps := 1000000) [ty34, ty49, ty3, ty28]
          refine callP (l_isKnown36 0) (by first | (simp; done) | (simp [*]; done)) ?_; simp (maxSteps := 1000000) [ty4, ty34, ty49, ty3, ty28]
          refine callP (s29) (by first | (simp; done) | (simp [*]; done)) ?_; simp (maxSteps := 1000000) [ty4, ty34, ty49, ty3, ty28, w1, w2, w3]
          refine callP (works9) (by first | (simp; done) | (simp [*]; done)) ?_; simp (maxSteps := 1000000) [ty4]
          refine hK _ ?_; clear hK K; (first | show AWP _ _ _ _ _ | show ∃ _, _ | skip)
          (repeat refine awp_seq ?_); refine awp_ret ?_; refine And.intro (Or.inr rfl) ?_
          simp [retC, resC, viewC, mapO]
        · rw [z1]
          (repeat refine awp_seq ?_); refine awp_reg1 (by rw [hx]; kernel_rfl) fun K hK => ?_; simp (maxSteps := 1000000) [ty34, ty49, ty3, ty28]
          refine callP (l_isKnown36 3) (by first | (simp; done) | (simp [*]; done)) ?_; simp (maxSteps := 1000000) [ty4, ty34, ty49, ty3, ty28]
          refine callP (s29) (by first | (simp; done) | (simp [*]; done)) ?_; simp (maxSteps := 1000000) [ty4, ty34, ty49, ty3, ty28, w1, w2, w3]
          refine callP (works9) (by first | (simp; done) | (simp [*]; done)) ?_; simp (maxSteps := 1000000) [ty4]
          refine hK _ ?_; clear hK K; (first | show AWP _ _ _ _ _ | show ∃ _, _ | skip)
          (repeat refine awp_seq ?_); refine awp_ret ?_; refine And.intro (Or.inr rfl) ?_
          simp [retC, resC, viewC, mapO]

end Go.Proofs.Ytbhbmnofmoibhaa

namespace Go.Proofs.Ytbhbmnofmoibhaa
open Go Go.Abs
open Go.ChangeShapes Go.WideShapes Go.ChangeAt Go.RowKit

set_option maxRecDepth 100000 in
theorem trialsZero_lifted (os : Os) (started : os.Started) (H : Type) (enc : TypeId × Value → H) :
    ReturnsInHanded {} Try.checked os 6 .any (Rows.trialsZeroSpec.pre6 enc Try.prog Try.f6 Rows.trialsZeroRow.domain false) (Rows.trialsZeroSpec.post enc Try.prog Try.f6 false true false false) := by
  refine returnsInHanded_of_change (C := Try.checked) J.own started (by kernel_rfl) Try.func6
    (ChangeSpec.witness6 (enc := enc) (C := Try.checked) false ⟨#[], #[.agg #[.int .i64 0, .int .i64 0, .int .i64 0, .int .i64 0, .int .i64 0, .int .i64 0, .int .i64 0, .int .i64 0, .int .i64 0, .slice none 0 0], .agg #[.int .i64 0, .int .i64 0]], []⟩ 8 (by kernel_rfl) (by kernel_rfl) (by kernel_rfl) (by kernel_rfl)) ?_
  intro W base args ds gs before hval hW _ _
  refine law_contract (P := Try.prog) (tb := 4) (by kernel_rfl) J.ub rfl (fun ds hl => ?_) J.laid J.maps J.sized (by kernel_rfl) (by kernel_rfl) (fun cargs hc => ?_) W base args ds gs before hval hW
  · have h2 : ds.length = 2 := hl
    match ds, h2 with
    | [_, _], _ => rfl
  · rw [Try.params6] at hc
    obtain ⟨t, r, rfl, hc1⟩ := arg28 hc
    obtain ⟨a, b, r', rfl, hc2⟩ := argTwo hc1
    obtain rfl := arg_end hc2
    exact law6c t a b

theorem trialsZero_holds : Rows.TrialsZeroSaid :=
  OpenClaim.holds_of_wide 6 Try.f6 rfl rfl rfl rfl rfl rfl rfl ⟨rfl, rfl, rfl, rfl, rfl⟩ rfl rfl rfl rfl rfl (by kernel_rfl) Try.func6 (by kernel_rfl)
    (of_decide_eq_true (by kernel_rfl)) (by unfold Func.isWrapper; first | (rw [if_pos (by decide +kernel)]; kernel_rfl) | (rw [if_neg (by decide +kernel)]; exact ⟨rfl, rfl⟩))
    (fun os started H enc _ => trialsZero_lifted os started H enc)
#print axioms trialsZero_holds
end Go.Proofs.Ytbhbmnofmoibhaa

