/- The machine of abstract values and the contracts of the functions of the program, which the statements of this seat share. No condition. -/
import Derived.Test.YtgcmjidphcafnaaB4
import Derived.Shelf.Spec.SlicesGrow

set_option linter.unusedSimpArgs false
set_option linter.unusedVariables false
set_option linter.constructorNameAsVariable false

namespace Go.Proofs.Ytgcmjidphcafnaa
open Go Go.Abs Go.Shelf

def growT_ren : Ren where
  f := fun x => match x with
    | 4 => 93
    | n => n
  t := fun x => match x with
    | 22 => 23
    | 25 => 3
    | 3 => 3
    | 4 => 4
    | 9 => 9
    | 20 => 20
    | 0 => 0
    | n => n
  g := fun n => n

theorem growT : Lays8.n4 Try.prog growT_ren := {
  mixed := by kernel_rfl
  f4 := ⟨Try.f93.name, by decide, Try.func93.trans (congrArg some (by kernel_rfl))⟩
  t0 := Try.underlying0
  a0 := Try.isAgg0
  z0 := Try.sizeOf0
  v0 := Try.zeroValue0
  t3 := Try.underlying3
  a3 := Try.isAgg3
  z3 := Try.sizeOf3
  v3 := Try.zeroValue3
  t4 := Try.underlying4
  a4 := Try.isAgg4
  z4 := Try.sizeOf4
  v4 := Try.zeroValue4
  t9 := Try.underlying9
  a9 := Try.isAgg9
  z9 := Try.sizeOf9
  v9 := Try.zeroValue9
  t20 := Try.underlying20
  a20 := Try.isAgg20
  z20 := Try.sizeOf20
  v20 := Try.zeroValue20
  t22 := Try.underlying23
  a22 := Try.isAgg23
  z22 := Try.sizeOf23
  v22 := Try.zeroValue23 }

set_option maxHeartbeats 2000000

theorem grow_c (fu : Bool) (n : Nat) (h0 : 0 < n) (h1 : n ≤ 100000) : Fresh Try.prog 93 [.sl true fu [], encI n] ⟨false, false, 1, []⟩ := by
  refine { fn := ⟨Try.f93, Try.func93, by kernel_rfl, by kernel_rfl⟩, calls := fun G w vs hpl => ?_ }
  obtain ⟨hs, hr⟩ := hpl
  have e0 := hr 0 _ rfl
  have e1 := hr 1 _ rfl
  have hv : vs = #[.slice none 0 0, .int .i64 n] := by
    have c0 : (vs.getD 0 undef) = .slice none 0 0 := by
      generalize vs.getD 0 undef = v at e0
      cases e0; rfl
    have c1 : (vs.getD 1 undef) = .int .i64 n := by
      generalize vs.getD 1 undef = v at e1
      cases e1; rfl
    apply Array.ext
    · simpa using hs
    · intro i hi hi'
      simp at hs
      have : i = 0 ∨ i = 1 := by omega
      rcases this with rfl | rfl
      · simpa [hi] using c0
      · simpa [hi] using c1
  subst hv
  obtain ⟨inf, d, z, ht⟩ := tyOf_ok ty3
  have hcall := Any8.slices_Grow_grow growT inf z ht.info ht.zero (by rw [ht.size]; decide) none 0 0 n [] w (by omega) (by omega) (by rw [ht.bytes]; simp; omega) (by omega) (by simp) (fun _ => rfl) (fun a h => by cases h)
  refine Calls.mono hcall ?_
  rintro e w' ⟨rfl, rfl⟩
  refine ⟨_, rfl, ?_, ⟨rfl, rfl, rfl, by show w.heap.size ≤ (w.heap.push _).size; simp, fun b hb => ?_⟩⟩
  · refine OwnV.block (b := w.heap.size) (cap := grownCap w (0 + n) 0 (growT_ren.t 25)) rfl (Nat.le_refl _) (alloc_new w.drew _) (by decide) (by simp) ?_ (by simp)
    simp only [Array.size_append, List.size_toArray, List.length_nil]
    have hz : ∀ m, (Builtin.zeroCells z.cells m).size = m := by
      intro m
      simp [Builtin.zeroCells, ht.zs]
    rw [hz, hz]
    omega
  · exact alloc_old w.drew _ hb

/-- A clone. -/
theorem clone83 (nl fu : Bool) (l : List Int) (hl : l.length ≤ 1000) (hnl : nl = true → l = []) : Fresh Try.prog 83 [.sl nl fu (l.map cI)] ⟨l.isEmpty, !nl, 1, l.map cI⟩ := by
  refine fresh_of (fn := Try.f83) [.tmp 2] ⟨Try.func83, rfl, by kernel_rfl⟩ (by kernel_rfl) (by kernel_rfl) (by kernel_rfl) fun x hx hσ => ?_
  repeat refine awp_seq ?_
  refine awp_reg1 (by rw [hx]; kernel_rfl) fun K hK => ?_
  simp (config := { maxSteps := 1000000 }) []
  refine hK _ ?_
  clear hK K
  first | show AWP _ _ _ _ _ | show ∃ _, _ | skip
  cases nl with
  | true =>
    have := hnl rfl
    subst this
    repeat refine awp_seq ?_
    refine awp_reg1 (by rw [hx]; kernel_rfl) fun K hK => ?_
    simp (config := { maxSteps := 1000000 }) [ty23]
    refine hK _ ?_
    clear hK K
    first | show AWP _ _ _ _ _ | show ∃ _, _ | skip
    repeat refine awp_seq ?_
    refine awp_cond (by simp; rfl) (by rw [hx]; simp) (fun hd => ?_) (fun hd => ?_)
    · repeat refine awp_seq ?_
      refine awp_reg1 (by rw [hx]; kernel_rfl) fun K hK => ?_
      simp (config := { maxSteps := 1000000 }) []
      refine hK _ ?_
      clear hK K
      first | show AWP _ _ _ _ _ | show ∃ _, _ | skip
      repeat refine awp_seq ?_
      refine awp_ret ?_
      refine And.intro (Or.inr rfl) ?_
      exact .inr ⟨rfl, rfl, rfl, true, by simp [retC, resC]⟩
    · simp at hd
  | false =>
    repeat refine awp_seq ?_
    refine awp_reg1 (by rw [hx]; kernel_rfl) fun K hK => ?_
    simp (config := { maxSteps := 1000000 }) [ty23]
    refine hK _ ?_
    clear hK K
    first | show AWP _ _ _ _ _ | show ∃ _, _ | skip
    repeat refine awp_seq ?_
    refine awp_cond (by simp; rfl) (by rw [hx]; simp) (fun hd => ?_) (fun hd => ?_)
    · simp at hd
    · refine awp_skip ?_
      first | show AWP _ _ _ _ _ | show ∃ _, _ | skip
      repeat refine awp_seq ?_
      refine awp_reg1 (by rw [hx]; kernel_rfl) fun K hK => ?_
      simp (config := { maxSteps := 1000000 }) [ty23, ty3]
      refine ⟨by omega, ?_⟩
      refine hK _ ?_
      clear hK K
      first | show AWP _ _ _ _ _ | show ∃ _, _ | skip
      repeat refine awp_seq ?_
      refine awp_ret ?_
      refine And.intro (Or.inr rfl) ?_
      refine .inl ⟨7, by simp [retC, resC], by simp, by simp [purel, C.isPure]⟩

theorem clone88 (nl fu : Bool) (l : List Pc) (hl : l.length ≤ 1000) (hnl : nl = true → l = []) : Fresh Try.prog 88 [.sl nl fu (l.map cP)] ⟨l.isEmpty, !nl, 4, l.map cP⟩ := by
  refine fresh_of (fn := Try.f88) [.tmp 2] ⟨Try.func88, rfl, by kernel_rfl⟩ (by kernel_rfl) (by kernel_rfl) (by kernel_rfl) fun x hx hσ => ?_
  repeat refine awp_seq ?_
  refine awp_reg1 (by rw [hx]; kernel_rfl) fun K hK => ?_
  simp (config := { maxSteps := 1000000 }) []
  refine hK _ ?_
  clear hK K
  first | show AWP _ _ _ _ _ | show ∃ _, _ | skip
  cases nl with
  | true =>
    have := hnl rfl
    subst this
    repeat refine awp_seq ?_
    refine awp_reg1 (by rw [hx]; kernel_rfl) fun K hK => ?_
    simp (config := { maxSteps := 1000000 }) [ty22]
    refine hK _ ?_
    clear hK K
    first | show AWP _ _ _ _ _ | show ∃ _, _ | skip
    repeat refine awp_seq ?_
    refine awp_cond (by simp; rfl) (by rw [hx]; simp) (fun hd => ?_) (fun hd => ?_)
    · repeat refine awp_seq ?_
      refine awp_reg1 (by rw [hx]; kernel_rfl) fun K hK => ?_
      simp (config := { maxSteps := 1000000 }) []
      refine hK _ ?_
      clear hK K
      first | show AWP _ _ _ _ _ | show ∃ _, _ | skip
      repeat refine awp_seq ?_
      refine awp_ret ?_
      refine And.intro (Or.inr rfl) ?_
      exact .inr ⟨rfl, rfl, rfl, true, by simp [retC, resC]⟩
    · simp at hd
  | false =>
    repeat refine awp_seq ?_
    refine awp_reg1 (by rw [hx]; kernel_rfl) fun K hK => ?_
    simp (config := { maxSteps := 1000000 }) [ty22]
    refine hK _ ?_
    clear hK K
    first | show AWP _ _ _ _ _ | show ∃ _, _ | skip
    repeat refine awp_seq ?_
    refine awp_cond (by simp; rfl) (by rw [hx]; simp) (fun hd => ?_) (fun hd => ?_)
    · simp at hd
    · refine awp_skip ?_
      first | show AWP _ _ _ _ _ | show ∃ _, _ | skip
      repeat refine awp_seq ?_
      refine awp_reg1 (by rw [hx]; kernel_rfl) fun K hK => ?_
      simp (config := { maxSteps := 1000000 }) [ty22, ty45]
      refine ⟨by omega, ?_⟩
      refine hK _ ?_
      clear hK K
      first | show AWP _ _ _ _ _ | show ∃ _, _ | skip
      repeat refine awp_seq ?_
      refine awp_ret ?_
      refine And.intro (Or.inr rfl) ?_
      refine .inl ⟨7, by simp [retC, resC], by simp, by simp [purel, C.isPure]⟩

end Go.Proofs.Ytgcmjidphcafnaa

namespace Go.Proofs.Ytgcmjidphcafnaa
open Go Go.Abs

set_option maxHeartbeats 2000000

@[simp] abbrev cS (q : Bool × Bool × List Int) : List C := [.sl q.1 q.2.1 (q.2.2.map cI)]
def catTo (ls : List (Bool × Bool × List Int)) : Nat → List Int
  | 0 => []
  | n + 1 => catTo ls n ++ (ls[n]?.getD (false, false, [])).2.2

theorem catTo_mono (ls : List (Bool × Bool × List Int)) : ∀ {n m : Nat}, n ≤ m → (catTo ls n).length ≤ (catTo ls m).length
  | n, m, h => by
    induction m with
    | zero => have : n = 0 := by omega
              subst this; exact Nat.le_refl _
    | succ m ih =>
      by_cases hn : n = m + 1
      · subst hn; exact Nat.le_refl _
      · have := ih (by omega)
        simp only [catTo, List.length_append]; omega

theorem concat89 (nl fu : Bool) (ls : List (Bool × Bool × List Int)) (h0 : 0 < (catTo ls ls.length).length) (h1 : (catTo ls ls.length).length ≤ 1000) (h2 : ls.length ≤ 1000) :
    Fresh Try.prog 89 [.sl nl fu (ls.map cS)] ⟨false, false, 1, (catTo ls ls.length).map cI⟩ := by
  refine fresh_of (fn := Try.f89) [.tmp 2] ⟨Try.func89, rfl, by kernel_rfl⟩ (by kernel_rfl) (by kernel_rfl) (by kernel_rfl) fun x hx hσ => ?_
  repeat refine awp_seq ?_
  refine awp_reg1 (by rw [hx]; kernel_rfl) fun K hK => ?_
  simp (config := { maxSteps := 1000000 }) []
  refine hK _ ?_
  clear hK K
  first | show AWP _ _ _ _ _ | show ∃ _, _ | skip
  repeat refine awp_seq ?_
  refine awp_reg1 (by rw [hx]; kernel_rfl) fun K hK => ?_
  simp (config := { maxSteps := 1000000 }) []
  refine hK _ ?_
  clear hK K
  first | show AWP _ _ _ _ _ | show ∃ _, _ | skip
  repeat refine awp_seq ?_
  refine awp_reg1 (by rw [hx]; kernel_rfl) fun K hK => ?_
  simp (config := { maxSteps := 1000000 }) [ty73]
  refine hK _ ?_
  clear hK K
  first | show AWP _ _ _ _ _ | show ∃ _, _ | skip
  repeat refine awp_seq ?_
  refine awp_block ?_
  refine awp_loop (fun i : Nat => ⟨ofL [(0, .sl nl fu (ls.map cS)), (3, encI (catTo ls i).length), (9, .sl nl fu (ls.map cS)), (10, encI ls.length), (11, encI i)], stoT []⟩)
    (fun i => i ≤ ls.length) (fun i => ls.length - i) 0 (by simp) ?_ ?_
  · refine wk_shape (shp0 hσ (by simp) (by simp) ?_) ?_
    · simp [SlotOk] <;> (repeat' (first | exact .same (by simp [purel, C.isPure]) | refine And.intro ?_ ?_))
    · simp [mtc, mtl, mT, C.isPure, purel, catTo] <;> (try simp (disch := omega) [wrap_id])
  · intro i hi
    repeat refine awp_seq ?_
    refine awp_reg1 (by rw [hx]; kernel_rfl) fun K hK => ?_
    simp (config := { maxSteps := 1000000 }) [ty3]
    refine hK _ ?_
    clear hK K
    first | show AWP _ _ _ _ _ | show ∃ _, _ | skip
    repeat refine awp_seq ?_
    refine awp_cond (by simp; rfl) (by rw [hx]; simp) (fun hc => ?_) (fun hc => ?_)
    · simp at hc
      refine awp_skip ?_
      first | show AWP _ _ _ _ _ | show ∃ _, _ | skip
      repeat refine awp_seq ?_
      refine awp_block ?_
      have m1 := catTo_mono ls (n := i + 1) (m := ls.length) (by omega)
      have e1 : (catTo ls (i + 1)).length = (catTo ls i).length + (ls[i]).2.2.length := by simp [catTo, hc]
      repeat refine awp_seq ?_
      refine awp_reg1 (by rw [hx]; kernel_rfl) fun K hK => ?_
      simp (config := { maxSteps := 1000000 }) [ty73, ty23, hc]
      refine hK _ ?_
      clear hK K
      first | show AWP _ _ _ _ _ | show ∃ _, _ | skip
      have w1 : IntKind.i64.wrap ((((catTo ls i).length : Nat) : Int) + ((ls[i]).2.2.length : Nat)) = ((catTo ls (i + 1)).length : Int) := by rw [wrap_id (by omega) (by omega), e1]; omega
      repeat refine awp_seq ?_
      refine awp_reg1 (by rw [hx]; kernel_rfl) fun K hK => ?_
      simp (config := { maxSteps := 1000000 }) [ty3, ty23, w1]
      refine hK _ ?_
      clear hK K
      first | show AWP _ _ _ _ _ | show ∃ _, _ | skip
      have hn : ¬ ((catTo ls (i + 1)).length : Int) < 0 := by omega
      repeat refine awp_seq ?_
      refine awp_reg1 (by rw [hx]; kernel_rfl) fun K hK => ?_
      simp (config := { maxSteps := 1000000 }) [ty3, hn]
      refine hK _ ?_
      clear hK K
      first | show AWP _ _ _ _ _ | show ∃ _, _ | skip
      repeat refine awp_seq ?_
      refine awp_cond (by simp; rfl) (by rw [hx]; simp) (fun hd => ?_) (fun hd => ?_)
      · simp at hd
      · refine awp_skip ?_
        first | show AWP _ _ _ _ _ | show ∃ _, _ | skip
        repeat refine awp_seq ?_
        refine awp_reg1 (by rw [hx]; kernel_rfl) fun K hK => ?_
        simp (config := { maxSteps := 1000000 }) [ty3]
        refine hK _ ?_
        clear hK K
        first | show AWP _ _ _ _ _ | show ∃ _, _ | skip
        refine ⟨i + 1, by omega, by omega, ?_⟩
        refine wk_shape (shp0 hσ (by simp) (by simp) ?_) ?_
        · simp [SlotOk] <;> (repeat' (first | exact .same (by simp [purel, C.isPure]) | refine And.intro ?_ ?_))
        · simp [mtc, mtl, mT, C.isPure, purel] <;> (try simp (disch := omega) [wrap_id])
    · simp at hc
      repeat refine awp_seq ?_
      refine awp_exit ?_
      first | show AWP _ _ _ _ _ | show ∃ _, _ | skip
      have : i = ls.length := by omega
      subst this
      repeat refine awp_seq ?_
      refine awp_reg1 (by rw [hx]; kernel_rfl) fun K hK => ?_
      simp (config := { maxSteps := 1000000 }) []
      refine freshL (grow_c true (catTo ls ls.length).length h0 (by omega)) (by simp) (by simp) ?_
      simp
      refine hK _ ?_
      clear hK K
      first | show AWP _ _ _ _ _ | show ∃ _, _ | skip
      repeat refine awp_seq ?_
      refine awp_reg1 (by rw [hx]; kernel_rfl) fun K hK => ?_
      simp (config := { maxSteps := 1000000 }) [ty73]
      refine hK _ ?_
      clear hK K
      first | show AWP _ _ _ _ _ | show ∃ _, _ | skip
      repeat refine awp_seq ?_
      refine awp_block ?_
      refine awp_loop (fun i : Nat => ⟨ofL [(6, .own 6 1 0 (catTo ls i).length), (25, .sl nl fu (ls.map cS)), (26, encI ls.length), (27, encI i)], stoT [(6, 6, .live ⟨false, false, 1, (catTo ls i).map cI⟩)]⟩)
        (fun i => i ≤ ls.length) (fun i => ls.length - i) 0 (by simp) ?_ ?_
      · refine wk_shape (T := [(6, 24, .live ⟨false, false, 1, (catTo ls 0).map cI⟩)]) (shp0 hσ (by simp) (by simp) ?_) ?_
        · simp [SlotOk, catTo]; exact .same rfl
        · simp [mtc, mtl, mT, C.isPure, purel, catTo]
      · intro i hi
        repeat refine awp_seq ?_
        refine awp_reg1 (by rw [hx]; kernel_rfl) fun K hK => ?_
        simp (config := { maxSteps := 1000000 }) [ty3]
        refine hK _ ?_
        clear hK K
        first | show AWP _ _ _ _ _ | show ∃ _, _ | skip
        repeat refine awp_seq ?_
        refine awp_cond (by simp; rfl) (by rw [hx]; simp) (fun hc => ?_) (fun hc => ?_)
        · simp at hc
          refine awp_skip ?_
          first | show AWP _ _ _ _ _ | show ∃ _, _ | skip
          repeat refine awp_seq ?_
          refine awp_block ?_
          have m1 := catTo_mono ls (n := i + 1) (m := ls.length) (by omega)
          have e1 : (catTo ls (i + 1)).length = (catTo ls i).length + (ls[i]).2.2.length := by simp [catTo, hc]
          have e2 : catTo ls (i + 1) = catTo ls i ++ (ls[i]).2.2 := by simp [catTo, hc]
          repeat refine awp_seq ?_
          refine awp_reg1 (by rw [hx]; kernel_rfl) fun K hK => ?_
          simp (config := { maxSteps := 1000000 }) [ty73, ty23, hc]
          refine hK _ ?_
          clear hK K
          first | show AWP _ _ _ _ _ | show ∃ _, _ | skip
          repeat refine awp_seq ?_
          refine awp_reg1 (by rw [hx]; kernel_rfl) fun K hK => ?_
          simp (config := { maxSteps := 1000000 }) [ty23, ty3]
          refine ⟨by omega, ?_⟩
          refine hK _ ?_
          clear hK K
          first | show AWP _ _ _ _ _ | show ∃ _, _ | skip
          repeat refine awp_seq ?_
          refine awp_reg1 (by rw [hx]; kernel_rfl) fun K hK => ?_
          simp (config := { maxSteps := 1000000 }) [ty3]
          refine hK _ ?_
          clear hK K
          first | show AWP _ _ _ _ _ | show ∃ _, _ | skip
          refine ⟨i + 1, by omega, by omega, ?_⟩
          refine wk_shape (T := [(6, 33, .live ⟨false, false, 1, (catTo ls (i + 1)).map cI⟩)]) (shp0 hσ (by simp) (by simp) ?_) ?_
          · simp [SlotOk, e2]; exact .same (by simp [purel, C.isPure])
          · simp [mtc, mtl, mT, C.isPure, purel, e1]
            simp (disch := omega) [wrap_id]
        · simp at hc
          repeat refine awp_seq ?_
          refine awp_exit ?_
          first | show AWP _ _ _ _ _ | show ∃ _, _ | skip
          have : i = ls.length := by omega
          subst this
          repeat refine awp_seq ?_
          refine awp_reg1 (by rw [hx]; kernel_rfl) fun K hK => ?_
          simp (config := { maxSteps := 1000000 }) []
          refine hK _ ?_
          clear hK K
          first | show AWP _ _ _ _ _ | show ∃ _, _ | skip
          repeat refine awp_seq ?_
          refine awp_ret ?_
          refine And.intro (Or.inr rfl) ?_
          exact .inl ⟨6, by simp [retC, resC], by simp, by simp [purel, C.isPure]⟩

/-- What a plat's net holds. -/
@[simp] abbrev netRow (p : Plat) (a b : C) : List C := [.sl p.pn false (p.ps.map cP), .sl p.rn false (p.rows.map cI), .sl p.cn false (p.cols.map cI), a, b]

def lastN (p : Plat) : Nat := p.rows.length + p.cols.length
def fromN (p : Plat) (q : Pc) : Nat := if q.row = -1 then lastN p else q.row.toNat
def toN (p : Plat) (q : Pc) : Nat := if q.col = -1 then lastN p else p.rows.length + q.col.toNat

/-- A parcel whose strips are there. -/
def PcRC (p : Plat) (q : Pc) : Prop := (-1 ≤ q.row ∧ q.row ≤ (p.rows.length : Int) - 1) ∧ (-1 ≤ q.col ∧ q.col ≤ (p.cols.length : Int) - 1)

/-- A parcel that may have been settled at an end. -/
def PcW (p : Pc) : Prop := -1 ≤ p.row ∧ p.row ≤ 3 ∧ -1 ≤ p.col ∧ p.col ≤ 3 ∧ 0 ≤ p.area ∧ 0 ≤ p.off ∧ p.area + p.off ≤ 1098

structure PlatW (p : Plat) : Prop where
  n8 : p.ps.length ≤ 8
  r4 : p.rows.length ≤ 4
  c4 : p.cols.length ≤ 4
  rows : ∀ a ∈ p.rows, 0 ≤ a ∧ a ≤ 9999
  cols : ∀ a ∈ p.cols, 0 ≤ a ∧ a ≤ 9999
  ps : ∀ q ∈ p.ps, PcW q
  rr : ∀ q ∈ p.ps, q.row < p.rows.length
  cc : ∀ q ∈ p.ps, q.col < p.cols.length

theorem PcOk.w {q : Pc} (h : PcOk q) : PcW q := by unfold PcOk at h; unfold PcW; omega
theorem PlatOk.w {p : Plat} (h : PlatOk p) : PlatW p := ⟨h.n8, h.r4, h.c4, h.rows, h.cols, fun q hq => (h.ps q hq).w, h.rr, h.cc⟩
theorem PlatW.fit {p : Plat} (h : PlatW p) {q : Pc} (hq : q ∈ p.ps) : PcRC p q := by
  have h1 := h.ps q hq
  have h2 := h.rr q hq
  have h3 := h.cc q hq
  unfold PcW at h1
  unfold PcRC
  omega

theorem ends_w (p : Pc) (h : PcW p) : Pure Try.prog 72 [encPc p] (.agg [encI (lowI p), encI (highI p)]) := by
  unfold PcW at h
  refine pure_of (fn := Try.f72) [.cell 2 41] ⟨Try.func72, rfl, by kernel_rfl⟩ (by kernel_rfl) (by kernel_rfl) (by kernel_rfl) fun x hx hσ => ?_
  repeat refine awp_seq ?_
  refine awp_reg1 (by rw [hx]; kernel_rfl) fun K hK => ?_
  simp (config := { maxSteps := 1000000 }) [ty45, ty3, ty41]
  refine hK _ ?_
  clear hK K
  first | show AWP _ _ _ _ _ | show ∃ _, _ | skip
  repeat refine awp_seq ?_
  refine awp_reg1 (by rw [hx]; kernel_rfl) fun K hK => ?_
  simp (config := { maxSteps := 1000000 }) [ty45, ty3, ty41]
  refine hK _ ?_
  clear hK K
  first | show AWP _ _ _ _ _ | show ∃ _, _ | skip
  repeat refine awp_seq ?_
  refine awp_ret ?_
  refine And.intro (Or.inr rfl) ?_
  rw [wrap_id (by omega) (by omega), wrap_id (by omega) (by omega)]
  simp [retC, resC, viewC, mapO, highI, lowI, ty41]
  omega

theorem nodes90 (p : Plat) (a b : C) (q : Pc) (h1 : p.rows.length ≤ 1000) (h2 : p.cols.length ≤ 1000) (hq : PcRC p q) : Pure Try.prog 90 [.ip (netRow p a b) 0, encPc q] (.tup [encI (fromN p q), encI (toN p q)]) := by
  unfold PcRC at hq
  have w1 : IntKind.i64.wrap ((p.rows.length : Int) + p.cols.length) = (lastN p : Int) := by rw [wrap_id (by omega) (by omega)]; unfold lastN; omega
  have w2 : IntKind.i64.wrap ((p.rows.length : Int) + q.col) = (p.rows.length : Int) + q.col := wrap_id (by omega) (by omega)
  refine pure_of (fn := Try.f90) [.tmp 4, .tmp 5] ⟨Try.func90, rfl, by kernel_rfl⟩ (by kernel_rfl) (by kernel_rfl) (by kernel_rfl) fun x hx hσ => ?_
  repeat refine awp_seq ?_
  refine awp_reg1 (by rw [hx]; kernel_rfl) fun K hK => ?_
  simp (config := { maxSteps := 1000000 }) [ty45]
  refine hK _ ?_
  clear hK K
  first | show AWP _ _ _ _ _ | show ∃ _, _ | skip
  repeat refine awp_seq ?_
  refine awp_drw3 [] [0, 1, 2, 3, 4, 5, 6, 7, 8, 9, 10, 11, 12, 13] (by rw [hx]; kernel_rfl) (by kernel_rfl) (by kernel_rfl) (by kernel_rfl) fun K hK => ?_
  simp (config := { maxSteps := 1000000 }) [ty92, ty25, ty23, ty3, w1]
  refine hK _ ?_
  clear hK K
  first | show AWP _ _ _ _ _ | show ∃ _, _ | skip
  repeat refine awp_seq ?_
  refine awp_drw3 [] [0, 1, 2, 3, 4, 5, 6, 7, 8, 9, 10, 11, 12] (by rw [hx]; kernel_rfl) (by kernel_rfl) (by kernel_rfl) (by kernel_rfl) fun K hK => ?_
  simp (config := { maxSteps := 1000000 }) [ty92, ty25, ty23, ty3, ty45, w2]
  refine hK _ ?_
  clear hK K
  first | show AWP _ _ _ _ _ | show ∃ _, _ | skip
  by_cases g1 : q.row = -1
  · repeat refine awp_seq ?_
    refine awp_reg1 (by rw [hx]; kernel_rfl) fun K hK => ?_
    simp (config := { maxSteps := 1000000 }) [ty45, ty3, g1]
    refine hK _ ?_
    clear hK K
    first | show AWP _ _ _ _ _ | show ∃ _, _ | skip
    repeat refine awp_seq ?_
    refine awp_cond (by simp; rfl) (by rw [hx]; simp) (fun hd => ?_) (fun hd => ?_)
    · repeat refine awp_seq ?_
      refine awp_reg1 (by rw [hx]; kernel_rfl) fun K hK => ?_
      simp (config := { maxSteps := 1000000 }) []
      refine hK _ ?_
      clear hK K
      first | show AWP _ _ _ _ _ | show ∃ _, _ | skip
      by_cases g2 : q.col = -1
      · repeat refine awp_seq ?_
        refine awp_reg1 (by rw [hx]; kernel_rfl) fun K hK => ?_
        simp (config := { maxSteps := 1000000 }) [ty45, ty3, g2]
        refine hK _ ?_
        clear hK K
        first | show AWP _ _ _ _ _ | show ∃ _, _ | skip
        repeat refine awp_seq ?_
        refine awp_cond (by simp; rfl) (by rw [hx]; simp) (fun hd => ?_) (fun hd => ?_)
        · repeat refine awp_seq ?_
          refine awp_reg1 (by rw [hx]; kernel_rfl) fun K hK => ?_
          simp (config := { maxSteps := 1000000 }) []
          refine hK _ ?_
          clear hK K
          first | show AWP _ _ _ _ _ | show ∃ _, _ | skip
          repeat refine awp_seq ?_
          refine awp_reg1 (by rw [hx]; kernel_rfl) fun K hK => ?_
          simp (config := { maxSteps := 1000000 }) []
          refine hK _ ?_
          clear hK K
          first | show AWP _ _ _ _ _ | show ∃ _, _ | skip
          repeat refine awp_seq ?_
          refine awp_ret ?_
          refine And.intro (Or.inr rfl) ?_
          simp [retC, resC, viewC, mapO, fromN, toN, g1, g2]
        · simp at hd
      · repeat refine awp_seq ?_
        refine awp_reg1 (by rw [hx]; kernel_rfl) fun K hK => ?_
        simp (config := { maxSteps := 1000000 }) [ty45, ty3, g2]
        refine hK _ ?_
        clear hK K
        first | show AWP _ _ _ _ _ | show ∃ _, _ | skip
        repeat refine awp_seq ?_
        refine awp_cond (by simp; rfl) (by rw [hx]; simp) (fun hd => ?_) (fun hd => ?_)
        · simp at hd
          exact absurd hd g2
        · refine awp_skip ?_
          first | show AWP _ _ _ _ _ | show ∃ _, _ | skip
          repeat refine awp_seq ?_
          refine awp_reg1 (by rw [hx]; kernel_rfl) fun K hK => ?_
          simp (config := { maxSteps := 1000000 }) []
          refine hK _ ?_
          clear hK K
          first | show AWP _ _ _ _ _ | show ∃ _, _ | skip
          repeat refine awp_seq ?_
          refine awp_ret ?_
          refine And.intro (Or.inr rfl) ?_
          have : (p.rows.length : Int) + q.col = ((p.rows.length + q.col.toNat : Nat) : Int) := by omega
          simp [retC, resC, viewC, mapO, fromN, toN, g1, g2, this]
    · simp at hd
  · repeat refine awp_seq ?_
    refine awp_reg1 (by rw [hx]; kernel_rfl) fun K hK => ?_
    simp (config := { maxSteps := 1000000 }) [ty45, ty3, g1]
    refine hK _ ?_
    clear hK K
    first | show AWP _ _ _ _ _ | show ∃ _, _ | skip
    repeat refine awp_seq ?_
    refine awp_cond (by simp; rfl) (by rw [hx]; simp) (fun hd => ?_) (fun hd => ?_)
    · simp at hd
      exact absurd hd g1
    · refine awp_skip ?_
      first | show AWP _ _ _ _ _ | show ∃ _, _ | skip
      have e1 : q.row = ((q.row.toNat : Nat) : Int) := by omega
      by_cases g2 : q.col = -1
      · repeat refine awp_seq ?_
        refine awp_reg1 (by rw [hx]; kernel_rfl) fun K hK => ?_
        simp (config := { maxSteps := 1000000 }) [ty45, ty3, g2]
        refine hK _ ?_
        clear hK K
        first | show AWP _ _ _ _ _ | show ∃ _, _ | skip
        repeat refine awp_seq ?_
        refine awp_cond (by simp; rfl) (by rw [hx]; simp) (fun hd => ?_) (fun hd => ?_)
        · repeat refine awp_seq ?_
          refine awp_reg1 (by rw [hx]; kernel_rfl) fun K hK => ?_
          simp (config := { maxSteps := 1000000 }) []
          refine hK _ ?_
          clear hK K
          first | show AWP _ _ _ _ _ | show ∃ _, _ | skip
          repeat refine awp_seq ?_
          refine awp_reg1 (by rw [hx]; kernel_rfl) fun K hK => ?_
          simp (config := { maxSteps := 1000000 }) []
          refine hK _ ?_
          clear hK K
          first | show AWP _ _ _ _ _ | show ∃ _, _ | skip
          repeat refine awp_seq ?_
          refine awp_ret ?_
          refine And.intro (Or.inr rfl) ?_
          simp [retC, resC, viewC, mapO, fromN, toN, g1, g2]
          omega
        · simp at hd
      · repeat refine awp_seq ?_
        refine awp_reg1 (by rw [hx]; kernel_rfl) fun K hK => ?_
        simp (config := { maxSteps := 1000000 }) [ty45, ty3, g2]
        refine hK _ ?_
        clear hK K
        first | show AWP _ _ _ _ _ | show ∃ _, _ | skip
        repeat refine awp_seq ?_
        refine awp_cond (by simp; rfl) (by rw [hx]; simp) (fun hd => ?_) (fun hd => ?_)
        · simp at hd
          exact absurd hd g2
        · refine awp_skip ?_
          first | show AWP _ _ _ _ _ | show ∃ _, _ | skip
          repeat refine awp_seq ?_
          refine awp_reg1 (by rw [hx]; kernel_rfl) fun K hK => ?_
          simp (config := { maxSteps := 1000000 }) []
          refine hK _ ?_
          clear hK K
          first | show AWP _ _ _ _ _ | show ∃ _, _ | skip
          repeat refine awp_seq ?_
          refine awp_ret ?_
          refine And.intro (Or.inr rfl) ?_
          have : (p.rows.length : Int) + q.col = ((p.rows.length + q.col.toNat : Nat) : Int) := by omega
          simp [retC, resC, viewC, mapO, fromN, toN, g1, g2, this]
          omega

end Go.Proofs.Ytgcmjidphcafnaa

namespace Go.Proofs.Ytgcmjidphcafnaa
open Go Go.Abs

set_option maxHeartbeats 2000000

def addAt (l : List Int) (i : Nat) (d : Int) : List Int := l.set i (l[i]?.getD 0 + d)

@[simp] theorem addAt_len (l : List Int) (i : Nat) (d : Int) : (addAt l i d).length = l.length := by simp [addAt]

def exc0 (p : Plat) : List Int := p.rows ++ List.replicate (p.cols.length + 1) 0
def excA (p : Plat) : Nat → List Int
  | 0 => exc0 p
  | i + 1 => (excA p i).set (p.rows.length + i) (-(p.cols[i]?.getD 0))
def excB (p : Plat) : Nat → List Int
  | 0 => excA p p.cols.length
  | i + 1 => addAt (addAt (excB p i) (fromN p (p.ps[i]?.getD p0)) (-(p.ps[i]?.getD p0).area)) (toN p (p.ps[i]?.getD p0)) (p.ps[i]?.getD p0).area
def excD (p : Plat) : Nat → List Int
  | 0 => (excB p p.ps.length).set (lastN p) 0
  | v + 1 => addAt (excD p v) (lastN p) (-((excD p v)[v]?.getD 0))

@[simp] theorem excA_len (p : Plat) : ∀ i, (excA p i).length = lastN p + 1
  | 0 => by simp [excA, exc0, lastN]; omega
  | i + 1 => by simp [excA, excA_len p i]
@[simp] theorem excB_len (p : Plat) : ∀ i, (excB p i).length = lastN p + 1
  | 0 => by simp [excB]
  | i + 1 => by simp [excB, excB_len p i]
@[simp] theorem excD_len (p : Plat) : ∀ i, (excD p i).length = lastN p + 1
  | 0 => by simp [excD]
  | i + 1 => by simp [excD, excD_len p i]

def BdL (l : List Int) (b : Int) : Prop := ∀ a ∈ l, -b ≤ a ∧ a ≤ b

theorem BdL.get {l : List Int} {b : Int} (h : BdL l b) (hb : 0 ≤ b) (i : Nat) : -b ≤ l[i]?.getD 0 ∧ l[i]?.getD 0 ≤ b := by
  by_cases hi : i < l.length
  · simp only [List.getElem?_eq_getElem hi, Option.getD_some]; exact h _ (List.getElem_mem hi)
  · simp [List.getElem?_eq_none (Nat.le_of_not_lt hi)]; omega

theorem BdL.set {l : List Int} {b c : Int} (h : BdL l b) (i : Nat) {v : Int} (hbc : b ≤ c) (hv : -c ≤ v ∧ v ≤ c) : BdL (l.set i v) c := by
  intro a ha
  rcases List.mem_or_eq_of_mem_set ha with h1 | h1
  · have := h a h1; omega
  · rw [h1]; exact hv

theorem BdL.addAt {l : List Int} {b c : Int} (h : BdL l b) (hb : 0 ≤ b) (i : Nat) {d : Int} (hd : -c ≤ d ∧ d ≤ c) : BdL (addAt l i d) (b + c) := by
  have := h.get hb i
  exact h.set i (by omega) (by omega)

theorem excA_bd {p : Plat} (hp : PlatW p) : ∀ i, BdL (excA p i) 9999
  | 0 => by
    intro a ha
    simp only [excA, exc0, List.mem_append, List.mem_replicate] at ha
    rcases ha with h | ⟨_, rfl⟩
    · have := hp.rows a h; omega
    · omega
  | i + 1 => by
    refine (excA_bd hp i).set _ (Int.le_refl _) ?_
    by_cases hi : i < p.cols.length
    · simp only [List.getElem?_eq_getElem hi, Option.getD_some]
      have := hp.cols _ (List.getElem_mem hi); omega
    · simp [List.getElem?_eq_none (Nat.le_of_not_lt hi)]

theorem area_bd {p : Plat} (hp : PlatW p) (i : Nat) : 0 ≤ (p.ps[i]?.getD p0).area ∧ (p.ps[i]?.getD p0).area ≤ 1098 := by
  by_cases hi : i < p.ps.length
  · simp only [List.getElem?_eq_getElem hi, Option.getD_some]
    have := hp.ps _ (List.getElem_mem hi)
    unfold PcW at this; omega
  · simp [List.getElem?_eq_none (Nat.le_of_not_lt hi), p0]

theorem excB_bd {p : Plat} (hp : PlatW p) : ∀ i : Nat, BdL (excB p i) (9999 + 2196 * i)
  | 0 => fun a ha => by
    have := excA_bd hp _ a ha
    omega
  | i + 1 => by
    have h1 := (excB_bd hp i).addAt (by omega) (fromN p (p.ps[i]?.getD p0)) (c := 1098) (d := -(p.ps[i]?.getD p0).area) (by have := area_bd hp i; omega)
    have h2 := h1.addAt (by omega) (toN p (p.ps[i]?.getD p0)) (c := 1098) (d := (p.ps[i]?.getD p0).area) (by have := area_bd hp i; omega)
    intro a ha
    have := h2 a ha
    omega

theorem excD_bd {p : Plat} (hp : PlatW p) : ∀ v : Nat, v ≤ lastN p → BdL (excD p v) (30000 + 30000 * v) ∧ ∀ u, u < lastN p → -30000 ≤ (excD p v)[u]?.getD 0 ∧ (excD p v)[u]?.getD 0 ≤ 30000
  | 0, _ => by
    have h1 := excB_bd hp p.ps.length
    have h8 := hp.n8
    constructor
    · intro a ha
      have := (h1.set (c := 30000) (lastN p) (v := 0) (by omega) (by omega)) a ha
      omega
    · intro u hu
      simp only [excD]
      rw [List.getElem?_set_ne (by omega)]
      have := h1.get (by omega) u
      omega
  | v + 1, hv => by
    obtain ⟨h1, h2⟩ := excD_bd hp v (by omega)
    have h3 := h2 v (by omega)
    constructor
    · intro a ha
      have := (h1.addAt (by omega) (lastN p) (c := 30000) (d := -((excD p v)[v]?.getD 0)) (by omega)) a ha
      omega
    · intro u hu
      simp only [excD, addAt]
      rw [List.getElem?_set_ne (by omega)]
      exact h2 u hu

@[simp] abbrev netOb (p : Plat) (a b : C) : Ob := ⟨false, false, 5, [netRow p a b]⟩
@[simp] abbrev listOb (l : List Int) : Ob := ⟨l.isEmpty, false, 1, l.map cI⟩
@[simp] abbrev excOb (l : List Int) : Ob := ⟨false, false, 1, l.map cI⟩

def areasTo (p : Plat) (i : Nat) : List Int := (p.ps.take i).map (·.area)
theorem areasTo_len (p : Plat) (i : Nat) (h : i ≤ p.ps.length) : (areasTo p i).length = i := by simp [areasTo]; omega
theorem areasTo_succ (p : Plat) (i : Nat) (h : i < p.ps.length) : areasTo p (i + 1) = areasTo p i ++ [p.ps[i].area] := by
  simp only [areasTo]
  rw [List.take_add_one, List.map_append]
  simp [h]

theorem viewC_net {σ : Nat → Slot} {n k k1 k2 n1 n2 : Nat} {p : Plat} {o1 o2 : Ob} (h : σ k = .live (netOb p (.own k1 1 0 n1) (.own k2 1 0 n2))) (h1 : σ k1 = .live o1) (h2 : σ k2 = .live o2)
    (e1 : o1.sz = 1) (e2 : o2.sz = 1) (m1 : n1 = o1.rows.length) (m2 : n2 = o2.rows.length) (q1 : o1.rows.all purel = true) (q2 : o2.rows.all purel = true) :
    viewC σ (n + 2) (.ptr k 5 0 0) = some (.ip (netRow p (.sl (o1.nl && !o1.em) false o1.rows) (.sl (o2.nl && !o2.em) false o2.rows)) 0) := by
  unfold viewC
  rw [if_neg (by simp [C.isPure])]
  simp only [h]
  simp only [and_self, if_true, List.getElem?_cons_zero, mapO, viewC_own h1 e1 m1 q1, viewC_own h2 e2 m2 q2]
  rw [viewC_self (by simp [C.isPure]), viewC_self (by simp [C.isPure]), viewC_self (by simp [C.isPure])]
  rfl

theorem rowsOk_net {m : List (Nat × Nat)} {p : Plat} {a b a' b' : C} (h1 : mtc m a a') (h2 : mtc m b b') (c1 : a'.cell = true) (c2 : b'.cell = true) : RowsOk m [netRow p a b] [netRow p a' b'] := by
  refine .cons ?_ ?_ .nil
  · simp [mtl, mtc, C.isPure, h1, h2]
  · simp only [List.all_cons, c1, c2]; rfl

theorem rowsOk_of {m : List (Nat × Nat)} {r s : List (List C)} (h : r = s) (hp : s.all purel = true) : RowsOk m r s := by
  subst h; exact .same hp

theorem ints_pure (l : List Int) : (l.map cI).all purel = true := by simp [purel, C.isPure]
theorem pcs_pure (l : List Pc) : (l.map cP).all purel = true := by simp [purel, C.isPure]
theorem plat_pure (p : Plat) : [[C.sl p.pn false (p.ps.map cP), C.sl p.rn false (p.rows.map cI), C.sl p.cn false (p.cols.map cI)]].all purel = true := by simp [purel, C.isPure]

theorem begin74 (p : Plat) (hp : PlatW p) : Eff Try.prog 74 [] [encPlat p] (.ptr 1000 5 0 0)
    [(1000, netOb p (.own 1001 1 0 p.ps.length) (.own 1002 1 0 (lastN p + 1))), (1001, listOb (p.ps.map (·.area))), (1002, excOb (excD p (lastN p)))] := by
  have h8 := hp.n8
  have hr4 := hp.r4
  have hc4 := hp.c4
  refine eff_of_body (fn := Try.f74) [.tmp 2] ⟨Try.func74, rfl, by kernel_rfl⟩ (by kernel_rfl) (by kernel_rfl) (by kernel_rfl) ?_ ?_ fun x hx hσ => ?_
  · simp [wil, C.wi]
  · simp
  repeat refine awp_seq ?_
  refine awp_reg1 (by rw [hx]; kernel_rfl) fun K hK => ?_
  simp (config := { maxSteps := 1000000 }) [ty25]
  refine hK _ ?_
  clear hK K
  first | show AWP _ _ _ _ _ | show ∃ _, _ | skip
  have w1 : IntKind.i64.wrap ((p.cols.length : Int) + 1) = ((p.cols.length + 1 : Nat) : Int) := by rw [wrap_id (by omega) (by omega)]; omega
  have hcat : catTo [(p.rn, false, p.rows), (false, false, List.replicate (p.cols.length + 1) 0)] 2 = exc0 p := by simp [catTo, exc0]
  have hc := concat89 false false [(p.rn, false, p.rows), (false, false, List.replicate (p.cols.length + 1) 0)] (by simp [catTo]; omega) (by simp [catTo]; omega) (by simp)
  simp only [List.length_cons, List.length_nil, Nat.zero_add, hcat] at hc
  simp only [List.map_cons, List.map_nil, List.map_replicate] at hc
  repeat refine awp_seq ?_
  refine awp_drw3 [8, 509] [0, 1, 2, 3, 4, 5, 6, 7, 8, 9, 10, 11, 12] (by rw [hx]; kernel_rfl) (by kernel_rfl) (by kernel_rfl) (by kernel_rfl) fun K hK => ?_
  simp (config := { maxSteps := 1000000 }) [ty25, ty23, ty3, ty73, w1]
  refine ⟨by omega, ?_⟩
  refine viewfD (pargs := [C.sl false false [cS (p.rn, false, p.rows), cS (false, false, List.replicate (p.cols.length + 1) 0)]]) hc ?_ ?_ (by simp) (by simp) ?_
  · simp [List.map_replicate]
  · simp
  simp [ty92, ty25]
  refine hK _ ?_
  clear hK K
  first | show AWP _ _ _ _ _ | show ∃ _, _ | skip
  have w2 : IntKind.i64.wrap (((exc0 p).length : Nat) - 1 : Int) = (lastN p : Int) := by rw [wrap_id (by simp [exc0]; omega) (by simp [exc0]; omega)]; simp [exc0, lastN]; omega
  repeat refine awp_seq ?_
  refine awp_reg1 (by rw [hx]; kernel_rfl) fun K hK => ?_
  simp (config := { maxSteps := 1000000 }) [ty92, ty23, ty3, w2]
  refine hK _ ?_
  clear hK K
  first | show AWP _ _ _ _ _ | show ∃ _, _ | skip
  repeat refine awp_seq ?_
  refine awp_reg1 (by rw [hx]; kernel_rfl) fun K hK => ?_
  simp (config := { maxSteps := 1000000 }) [ty25, ty23]
  refine hK _ ?_
  clear hK K
  first | show AWP _ _ _ _ _ | show ∃ _, _ | skip
  repeat refine awp_seq ?_
  refine awp_block ?_
  have hσ : x.σ = freeS := hσ
  refine awp_loop (fun i : Nat => ⟨ofL [(1, .ptr 1 3 0 0), (3, .ptr 1000 5 0 0), (4, encI (lastN p)), (32, .sl p.cn false (p.cols.map cI)), (33, encI p.cols.length), (34, encI i)],
      stoT [(1, 1, .live (obPlat p)), (1000, 1000, .live (netOb p (.sl true true []) (.own 1002 1 0 (lastN p + 1)))), (1002, 1002, .live (excOb (excA p i)))]⟩)
    (fun i => i ≤ p.cols.length) (fun i => p.cols.length - i) 0 (by simp) ?_ ?_
  · refine wk_shape (T := [(1, 1, .live (obPlat p)), (1000, 24, .live (netOb p (.sl true true []) (.own 1002 1 0 (lastN p + 1)))), (1002, 22, .live (excOb (excA p 0)))]) (shp0 hσ (by simp) (by simp) ?_) ?_
    · simp [SlotOk]
      refine ⟨.same (plat_pure p), rowsOk_net (by simp [mtc, C.isPure]) (by simp [mtc, mT, exc0, lastN]; omega) rfl rfl, .same (ints_pure _)⟩
    · simp [mtc, mtl, mT, C.isPure, purel]
  · intro i hi
    repeat refine awp_seq ?_
    refine awp_reg1 (by rw [hx]; kernel_rfl) fun K hK => ?_
    simp (config := { maxSteps := 1000000 }) [ty3]
    refine hK _ ?_
    clear hK K
    first | show AWP _ _ _ _ _ | show ∃ _, _ | skip
    repeat refine awp_seq ?_
    refine awp_cond (by simp; rfl) (by rw [hx]; simp) (fun h1 => ?_) (fun h1 => ?_)
    · simp at h1
      refine awp_skip ?_
      first | show AWP _ _ _ _ _ | show ∃ _, _ | skip
      repeat refine awp_seq ?_
      refine awp_block ?_
      repeat refine awp_seq ?_
      refine awp_reg1 (by rw [hx]; kernel_rfl) fun K hK => ?_
      simp (config := { maxSteps := 1000000 }) [ty23, ty3, h1]
      refine hK _ ?_
      clear hK K
      first | show AWP _ _ _ _ _ | show ∃ _, _ | skip
      obtain ⟨k, hk⟩ : ∃ k, k = p.rows.length + i := ⟨_, rfl⟩
      have hlt : k < lastN p + 1 := by unfold lastN; omega
      have hlt' : k < (excA p i).length := by simpa using hlt
      have w3 : IntKind.i64.wrap ((p.rows.length : Int) + i) = (k : Int) := by rw [wrap_id (by omega) (by omega)]; omega
      have hcb := hp.cols _ (List.getElem_mem h1)
      have w4 : IntKind.i64.wrap (-p.cols[i]) = -p.cols[i] := wrap_id (by omega) (by omega)
      repeat refine awp_seq ?_
      refine awp_drw3 [] [0, 1, 2, 3, 4, 5, 6, 7, 8, 9, 10, 11, 12] (by rw [hx]; kernel_rfl) (by kernel_rfl) (by kernel_rfl) (by kernel_rfl) fun K hK => ?_
      simp (config := { maxSteps := 1000000 }) [ty92, ty23, ty3, ty25, w3, w4, hlt, hlt']
      refine hK _ ?_
      clear hK K
      first | show AWP _ _ _ _ _ | show ∃ _, _ | skip
      repeat refine awp_seq ?_
      refine awp_reg1 (by rw [hx]; kernel_rfl) fun K hK => ?_
      simp (config := { maxSteps := 1000000 }) [ty3]
      refine hK _ ?_
      clear hK K
      first | show AWP _ _ _ _ _ | show ∃ _, _ | skip
      refine ⟨i + 1, by omega, by omega, ?_⟩
      have e1 : (excA p (i + 1)).map cI = ((excA p i).map cI).set k [.int .i64 (-p.cols[i])] := by simp [excA, h1, hk]
      refine wk_shape (T := [(1, 1, .live (obPlat p)), (1000, 1000, .live (netOb p (.sl true true []) (.own 1002 1 0 (lastN p + 1)))), (1002, 1002, .live (excOb (excA p (i + 1))))]) (shp0 hσ (by simp) (by simp) ?_) ?_
      · simp [SlotOk]
        refine ⟨.same (plat_pure p), rowsOk_net (by simp [mtc, C.isPure]) (by simp [mtc, mT]) rfl rfl, rowsOk_of e1.symm (ints_pure _)⟩
      · simp [mtc, mtl, mT, C.isPure, purel]
        simp (disch := omega) [wrap_id]
    · simp at h1
      repeat refine awp_seq ?_
      refine awp_exit ?_
      first | show AWP _ _ _ _ _ | show ∃ _, _ | skip
      have : i = p.cols.length := by omega
      subst this
      have hσ' := hσ
      repeat refine awp_seq ?_
      refine awp_reg1 (by rw [hx]; kernel_rfl) fun K hK => ?_
      simp (config := { maxSteps := 1000000 }) [ty25, ty22]
      refine hK _ ?_
      clear hK K
      first | show AWP _ _ _ _ _ | show ∃ _, _ | skip
      repeat refine awp_seq ?_
      refine awp_block ?_
      refine AWP.weak ?_ (wk_nilCell 1000 0 3 1001 1 (o := netOb p (.sl true true []) (.own 1002 1 0 (lastN p + 1))) (row := netRow p (.sl true true []) (.own 1002 1 0 (lastN p + 1))) (fu := true) (by simp) rfl rfl rfl (by simp) (by simp))
      refine awp_loop (fun i : Nat => ⟨ofL [(1, .ptr 1 3 0 0), (3, .ptr 1000 5 0 0), (4, encI (lastN p)), (53, .sl p.pn false (p.ps.map cP)), (54, encI p.ps.length), (55, encI i)],
          stoT [(1, 1, .live (obPlat p)), (1000, 1000, .live (netOb p (.own 1001 1 0 i) (.own 1002 1 0 (lastN p + 1)))), (1001, 1001, .live (listOb (areasTo p i))), (1002, 1002, .live (excOb (excB p i)))]⟩)
        (fun i => i ≤ p.ps.length) (fun i => p.ps.length - i) 0 (by simp) ?_ ?_
      · refine wk_shape (T := [(1, 1, .live (obPlat p)), (1000, 1000, .live (netOb p (.own 1001 1 0 0) (.own 1002 1 0 (lastN p + 1)))), (1001, 1001, .live (listOb (areasTo p 0))), (1002, 1002, .live (excOb (excB p 0)))]) (shp0 hσ (by simp) (by simp) ?_) ?_
        · simp [SlotOk, areasTo]
          refine ⟨.same (plat_pure p), rowsOk_net (by simp [mtc, mT]) (by simp [mtc, mT]) rfl rfl, .same rfl, .same (ints_pure _)⟩
        · simp [mtc, mtl, mT, C.isPure, purel]
      · intro i hi
        repeat refine awp_seq ?_
        refine awp_reg1 (by rw [hx]; kernel_rfl) fun K hK => ?_
        simp (config := { maxSteps := 1000000 }) [ty3]
        refine hK _ ?_
        clear hK K
        first | show AWP _ _ _ _ _ | show ∃ _, _ | skip
        repeat refine awp_seq ?_
        refine awp_cond (by simp; rfl) (by rw [hx]; simp) (fun h2 => ?_) (fun h2 => ?_)
        · simp at h2
          refine awp_skip ?_
          first | show AWP _ _ _ _ _ | show ∃ _, _ | skip
          repeat refine awp_seq ?_
          refine awp_block ?_
          have hq := hp.ps _ (List.getElem_mem h2)
          have hfit : PcRC p p.ps[i] := hp.fit (List.getElem_mem h2)
          have hqo := hq
          unfold PcW at hqo
          have hrr := hp.rr _ (List.getElem_mem h2)
          have hcc := hp.cc _ (List.getElem_mem h2)
          have egd : p.ps[i]?.getD p0 = p.ps[i] := by simp [h2]
          have hal := areasTo_len p i (by omega)
          repeat refine awp_seq ?_
          refine awp_reg1 (by rw [hx]; kernel_rfl) fun K hK => ?_
          simp (config := { maxSteps := 1000000 }) [ty22, ty45, h2]
          refine hK _ ?_
          clear hK K
          first | show AWP _ _ _ _ _ | show ∃ _, _ | skip
          repeat refine awp_seq ?_
          refine awp_drw3 [] [0, 1, 2, 3, 4, 5, 6, 7, 8, 9, 10, 11] (by rw [hx]; kernel_rfl) (by kernel_rfl) (by kernel_rfl) (by kernel_rfl) fun K hK => ?_
          simp (config := { maxSteps := 1000000 }) [ty92, ty23, ty3, ty45]
          refine ⟨by omega, ?_⟩
          have ea : (areasTo p i).map cI ++ [[C.int IntKind.i64 p.ps[i].area]] = (areasTo p (i + 1)).map cI := by rw [areasTo_succ p i h2]; simp
          simp [ty92, ea]
          refine hK _ ?_
          clear hK K
          first | show AWP _ _ _ _ _ | show ∃ _, _ | skip
          repeat refine awp_seq ?_
          refine awp_reg1 (by rw [hx]; kernel_rfl) fun K hK => ?_
          simp (config := { maxSteps := 1000000 }) [ty45]
          refine callL (nodes90 p (.sl false false ((areasTo p (i + 1)).map cI)) (.sl false false ((excB p i).map cI)) p.ps[i] (by omega) (by omega) hfit) ?_ (.inr rfl) ?_
          · simp only [viewL, mapO]
            rw [viewC_net (p := p) (k1 := 67) (k2 := 1002) (n1 := i + 1) (n2 := lastN p + 1) (o1 := ⟨false, false, 1, (areasTo p (i + 1)).map cI⟩) (o2 := excOb (excB p i)) (by simp) (by simp) (by simp) rfl rfl (by simp [areasTo_len p (i + 1) (by omega)]) (by simp) (ints_pure _) (ints_pure _),
              viewC_self (by simp [C.isPure, purel])]
            rfl
          simp
          refine hK _ ?_
          clear hK K
          first | show AWP _ _ _ _ _ | show ∃ _, _ | skip
          obtain ⟨k, hk⟩ : ∃ k, k = fromN p p.ps[i] := ⟨_, rfl⟩
          obtain ⟨k2, hk2⟩ : ∃ k, k = toN p p.ps[i] := ⟨_, rfl⟩
          rw [← hk, ← hk2]
          have hlt : k < lastN p + 1 := by rw [hk]; unfold fromN; split <;> (unfold lastN; omega)
          have hlt2 : k2 < lastN p + 1 := by rw [hk2]; unfold toN; split <;> (unfold lastN; omega)
          have hlt' : k < (excB p i).length := by simpa using hlt
          have hb0 := excB_bd hp i
          have hg0 := hb0 _ (List.getElem_mem hlt')
          obtain ⟨E1, hE1⟩ : ∃ E1, E1 = addAt (excB p i) k (-p.ps[i].area) := ⟨_, rfl⟩
          have hE1l : E1.length = lastN p + 1 := by rw [hE1]; simp
          have hlt2' : k2 < E1.length := by omega
          have hb1 : BdL E1 (9999 + 2196 * i + 1098) := by rw [hE1]; exact hb0.addAt (by omega) k (by omega)
          have hg1 := hb1 _ (List.getElem_mem hlt2')
          have w5 : IntKind.i64.wrap ((excB p i)[k] - p.ps[i].area) = (excB p i)[k] - p.ps[i].area := wrap_id (by omega) (by omega)
          have e5 : ((excB p i).map cI).set k [C.int IntKind.i64 ((excB p i)[k] - p.ps[i].area)] = E1.map cI := by
            have eg0 : (excB p i)[k]?.getD 0 = (excB p i)[k] := by simp only [List.getElem?_eq_getElem hlt', Option.getD_some]
            rw [hE1]; simp only [addAt, eg0, List.map_set, Int.sub_eq_add_neg]
          have w6 : IntKind.i64.wrap (E1[k2] + p.ps[i].area) = E1[k2] + p.ps[i].area := wrap_id (by omega) (by omega)
          have e6 : (E1.map cI).set k2 [C.int IntKind.i64 (E1[k2] + p.ps[i].area)] = (excB p (i + 1)).map cI := by
            simp only [excB, egd, ← hk, ← hk2, ← hE1]; simp [addAt, hlt2']
          repeat refine awp_seq ?_
          refine awp_drw3 [] [0, 1, 2, 3, 4, 5, 6, 7, 8, 9, 10, 11] (by rw [hx]; kernel_rfl) (by kernel_rfl) (by kernel_rfl) (by kernel_rfl) fun K hK => ?_
          simp (config := { maxSteps := 1000000 }) [ty92, ty23, ty3, ty45, hlt, hlt', w5, e5]
          refine hK _ ?_
          clear hK K
          first | show AWP _ _ _ _ _ | show ∃ _, _ | skip
          repeat refine awp_seq ?_
          refine awp_drw3 [] [0, 1, 2, 3, 4, 5, 6, 7, 8, 9, 10, 11] (by rw [hx]; kernel_rfl) (by kernel_rfl) (by kernel_rfl) (by kernel_rfl) fun K hK => ?_
          simp (config := { maxSteps := 1000000 }) [ty92, ty23, ty3, ty45, hlt2, hlt2', w6, e6]
          refine hK _ ?_
          clear hK K
          first | show AWP _ _ _ _ _ | show ∃ _, _ | skip
          repeat refine awp_seq ?_
          refine awp_reg1 (by rw [hx]; kernel_rfl) fun K hK => ?_
          simp (config := { maxSteps := 1000000 }) [ty3]
          refine hK _ ?_
          clear hK K
          first | show AWP _ _ _ _ _ | show ∃ _, _ | skip
          refine ⟨i + 1, by omega, by omega, ?_⟩
          refine wk_shape (T := [(1, 1, .live (obPlat p)), (1000, 1000, .live (netOb p (.own 1001 1 0 (i + 1)) (.own 1002 1 0 (lastN p + 1)))), (1001, 67, .live (listOb (areasTo p (i + 1)))), (1002, 1002, .live (excOb (excB p (i + 1))))]) (shp0 hσ (by simp) (by simp) ?_) ?_
          · simp [SlotOk]
            refine ⟨.same (plat_pure p), rowsOk_net (by simp [mtc, mT]) (by simp [mtc, mT]) rfl rfl, ⟨by rw [areasTo_succ p i h2]; simp, .same (ints_pure _)⟩, .same (ints_pure _)⟩
          · simp [mtc, mtl, mT, C.isPure, purel]
            simp (disch := omega) [wrap_id]
        · simp at h2
          repeat refine awp_seq ?_
          refine awp_exit ?_
          first | show AWP _ _ _ _ _ | show ∃ _, _ | skip
          have : i = p.ps.length := by omega
          subst this
          have hln : (excB p p.ps.length).length = lastN p + 1 := by simp
          have hlt : lastN p < lastN p + 1 := by omega
          have hlt' : lastN p < (excB p p.ps.length).length := by omega
          have e0 : ((excB p p.ps.length).map cI).set (lastN p) [C.int IntKind.i64 0] = (excD p 0).map cI := by simp [excD]
          have hlb : lastN p ≤ 8 := by unfold lastN; omega
          repeat refine awp_seq ?_
          refine awp_reg1 (by rw [hx]; kernel_rfl) fun K hK => ?_
          simp (config := { maxSteps := 1000000 }) [ty92, ty23, ty3, hlt', e0]
          refine hK _ ?_
          clear hK K
          first | show AWP _ _ _ _ _ | show ∃ _, _ | skip
          repeat refine awp_seq ?_
          refine awp_reg1 (by rw [hx]; kernel_rfl) fun K hK => ?_
          simp (config := { maxSteps := 1000000 }) [ty92, ty23, ty3]
          refine hK _ ?_
          clear hK K
          first | show AWP _ _ _ _ _ | show ∃ _, _ | skip
          repeat refine awp_seq ?_
          refine awp_block ?_
          refine awp_loop (fun v : Nat => ⟨ofL [(3, .ptr 1000 5 0 0), (4, encI (lastN p)), (110, .own 1002 1 0 (lastN p)), (111, encI (lastN p)), (112, encI v)],
              stoT [(1000, 1000, .live (netOb p (.own 1001 1 0 p.ps.length) (.own 1002 1 0 (lastN p + 1)))), (1001, 1001, .live (listOb (p.ps.map (·.area)))), (1002, 1002, .live (excOb (excD p v)))]⟩)
            (fun v => v ≤ lastN p) (fun v => lastN p - v) 0 (by simp) ?_ ?_
          · refine wk_shape (T := [(1000, 1000, .live (netOb p (.own 1001 1 0 p.ps.length) (.own 1002 1 0 (lastN p + 1)))), (1001, 1001, .live (listOb (p.ps.map (·.area)))), (1002, 1002, .live (excOb (excD p 0)))]) (shp0 hσ (by simp) (by simp) ?_) ?_
            · simp [SlotOk]
              refine ⟨rowsOk_net (by simp [mtc, mT]) (by simp [mtc, mT]) rfl rfl, ⟨by simp [areasTo], rowsOk_of (by simp [areasTo]) (by simp [purel, C.isPure])⟩, .same (ints_pure _)⟩
            · simp [mtc, mtl, mT, C.isPure, purel]
          · intro v hv
            repeat refine awp_seq ?_
            refine awp_reg1 (by rw [hx]; kernel_rfl) fun K hK => ?_
            simp (config := { maxSteps := 1000000 }) [ty3]
            refine hK _ ?_
            clear hK K
            first | show AWP _ _ _ _ _ | show ∃ _, _ | skip
            repeat refine awp_seq ?_
            refine awp_cond (by simp; rfl) (by rw [hx]; simp) (fun h3 => ?_) (fun h3 => ?_)
            · simp at h3
              refine awp_skip ?_
              first | show AWP _ _ _ _ _ | show ∃ _, _ | skip
              repeat refine awp_seq ?_
              refine awp_block ?_
              have hvl : v < (excD p v).length := by simp; omega
              have hvl1 : v < lastN p + 1 := by omega
              have hll : lastN p < (excD p v).length := by simp
              obtain ⟨b1, b2⟩ := excD_bd hp v hv
              have c1 := b2 v h3
              have c2 := b1 _ (List.getElem_mem hll)
              have eg : (excD p v)[v]?.getD 0 = (excD p v)[v] := by simp only [List.getElem?_eq_getElem hvl, Option.getD_some]
              have eg1 : (excD p v)[lastN p]?.getD 0 = (excD p v)[lastN p] := by simp only [List.getElem?_eq_getElem hll, Option.getD_some]
              rw [eg] at c1
              have w7 : IntKind.i64.wrap ((excD p v)[lastN p] - (excD p v)[v]) = (excD p v)[lastN p] - (excD p v)[v] := wrap_id (by omega) (by omega)
              have e7 : ((excD p v).map cI).set (lastN p) [C.int IntKind.i64 ((excD p v)[lastN p] - (excD p v)[v])] = (excD p (v + 1)).map cI := by
                simp only [excD, eg, addAt, eg1, List.map_set, Int.sub_eq_add_neg]
              repeat refine awp_seq ?_
              refine awp_reg1 (by rw [hx]; kernel_rfl) fun K hK => ?_
              simp (config := { maxSteps := 1000000 }) [ty23, ty3, h3, hvl1]
              refine hK _ ?_
              clear hK K
              first | show AWP _ _ _ _ _ | show ∃ _, _ | skip
              repeat refine awp_seq ?_
              refine awp_reg1 (by rw [hx]; kernel_rfl) fun K hK => ?_
              simp (config := { maxSteps := 1000000 }) [ty92, ty23, ty3, hll, w7, e7]
              refine hK _ ?_
              clear hK K
              first | show AWP _ _ _ _ _ | show ∃ _, _ | skip
              repeat refine awp_seq ?_
              refine awp_reg1 (by rw [hx]; kernel_rfl) fun K hK => ?_
              simp (config := { maxSteps := 1000000 }) [ty3]
              refine hK _ ?_
              clear hK K
              first | show AWP _ _ _ _ _ | show ∃ _, _ | skip
              refine ⟨v + 1, by omega, by omega, ?_⟩
              refine wk_shape (T := [(1000, 1000, .live (netOb p (.own 1001 1 0 p.ps.length) (.own 1002 1 0 (lastN p + 1)))), (1001, 1001, .live (listOb (p.ps.map (·.area)))), (1002, 1002, .live (excOb (excD p (v + 1))))]) (shp0 hσ (by simp) (by simp) ?_) ?_
              · simp [SlotOk]
                refine ⟨rowsOk_net (by simp [mtc, mT]) (by simp [mtc, mT]) rfl rfl, .same (by simp [purel, C.isPure]), .same (ints_pure _)⟩
              · simp [mtc, mtl, mT, C.isPure, purel]
                simp (disch := omega) [wrap_id]
            · simp at h3
              repeat refine awp_seq ?_
              refine awp_exit ?_
              first | show AWP _ _ _ _ _ | show ∃ _, _ | skip
              have : v = lastN p := by omega
              subst this
              repeat refine awp_seq ?_
              refine awp_reg1 (by rw [hx]; kernel_rfl) fun K hK => ?_
              simp (config := { maxSteps := 1000000 }) []
              refine hK _ ?_
              clear hK K
              first | show AWP _ _ _ _ _ | show ∃ _, _ | skip
              repeat refine awp_seq ?_
              refine awp_ret ?_
              refine And.intro (Or.inr rfl) ?_
              refine ⟨.ptr 1000 5 0 0, [(1000, 1000, .live (netOb p (.own 1001 1 0 p.ps.length) (.own 1002 1 0 (lastN p + 1)))), (1001, 1001, .live (listOb (p.ps.map (·.area)))), (1002, 1002, .live (excOb (excD p (lastN p))))], by simp [retC, resC], shp0 hσ (by simp) (by simp) ?_, by simp [mtc, mT], rfl⟩
              simp [SlotOk]
              refine ⟨rowsOk_net (by simp [mtc, mT]) (by simp [mtc, mT]) rfl rfl, .same (by simp [purel, C.isPure]), .same (ints_pure _)⟩

end Go.Proofs.Ytgcmjidphcafnaa

/- The law of parcels: a plat as a net; settling gives the cheapest adjustment, or a chain that proves that there is none. No condition. -/
namespace Go.Proofs.Ytgcmjidphcafnaa
open Go Go.Abs

set_option maxHeartbeats 1000000

theorem sumTo_eq (f : Nat → Int) : ∀ n, sumTo f n = Flow.sumN f n
  | 0 => rfl
  | n + 1 => by simp only [sumTo, Flow.sumN, sumTo_eq f n]

abbrev pcA (p : Plat) (i : Nat) : Pc := p.ps[i]?.getD p0

def grOf (p : Plat) : Flow.Gr := ⟨lastN p + 1, p.ps.length, fun i => fromN p (pcA p i), fun i => toN p (pcA p i), fun i => lowI (pcA p i), fun i => highI (pcA p i), fun i => (pcA p i).area⟩

theorem pc_in {p : Plat} (hp : PlatW p) (i : Nat) (hi : i < p.ps.length) : PcW (pcA p i) ∧ (pcA p i).row < p.rows.length ∧ (pcA p i).col < p.cols.length := by
  have e : pcA p i = p.ps[i] := by simp [pcA, hi]
  rw [e]
  exact ⟨hp.ps _ (List.getElem_mem hi), hp.rr _ (List.getElem_mem hi), hp.cc _ (List.getElem_mem hi)⟩

theorem fr_cases {p : Plat} (hp : PlatW p) (i : Nat) (hi : i < p.ps.length) : ((pcA p i).row = -1 ∧ fromN p (pcA p i) = lastN p) ∨ ((pcA p i).row ≠ -1 ∧ (fromN p (pcA p i) : Int) = (pcA p i).row ∧ fromN p (pcA p i) < p.rows.length) := by
  obtain ⟨h1, h2, h3⟩ := pc_in hp i hi
  unfold PcW at h1
  unfold fromN
  split
  · exact .inl ⟨‹_›, rfl⟩
  · exact .inr ⟨‹_›, by omega, by omega⟩

theorem to_cases {p : Plat} (hp : PlatW p) (i : Nat) (hi : i < p.ps.length) : ((pcA p i).col = -1 ∧ toN p (pcA p i) = lastN p) ∨ ((pcA p i).col ≠ -1 ∧ (toN p (pcA p i) : Int) = p.rows.length + (pcA p i).col ∧ p.rows.length ≤ toN p (pcA p i) ∧ toN p (pcA p i) < lastN p) := by
  obtain ⟨h1, h2, h3⟩ := pc_in hp i hi
  unfold PcW at h1
  unfold toN lastN
  split
  · exact .inl ⟨‹_›, rfl⟩
  · exact .inr ⟨‹_›, by omega, by omega, by omega⟩

theorem grOk {p : Plat} (hp : PlatW p) : Flow.GrOk (grOf p) := by
  constructor
  · intro i hi
    show fromN p (pcA p i) < lastN p + 1
    rcases fr_cases hp i hi with ⟨_, h⟩ | ⟨_, _, h⟩
    · omega
    · unfold lastN; omega
  · intro i hi
    show toN p (pcA p i) < lastN p + 1
    rcases to_cases hp i hi with ⟨_, h⟩ | ⟨_, _, _, h⟩ <;> omega

theorem grN {p : Plat} (hp : PlatW p) : ((grOf p).N : Int) < 1000 := by
  have := hp.r4
  have := hp.c4
  show ((lastN p + 1 : Nat) : Int) < 1000
  unfold lastN; omega

abbrev areas (p : Plat) : List Int := p.ps.map (·.area)

theorem areas_get {p : Plat} (i : Nat) (hi : i < p.ps.length) : Flow.gi (areas p) i = (pcA p i).area := by simp [Flow.gi, areas, pcA, hi]

theorem gi_addAt {l : List Int} {i j : Nat} {d : Int} (h : i < l.length) : Flow.gi (addAt l i d) j = Flow.gi l j + if j = i then d else 0 := Flow.gi_addA h

theorem excA_get (p : Plat) (v : Nat) : ∀ i, i ≤ p.cols.length → Flow.gi (excA p i) v = if v < p.rows.length then p.rows[v]?.getD 0 else if v < p.rows.length + i then -(p.cols[v - p.rows.length]?.getD 0) else 0
  | 0, _ => by
    simp only [excA, exc0, Flow.gi]
    by_cases h : v < p.rows.length
    · rw [List.getElem?_append_left h, if_pos h]
    · rw [List.getElem?_append_right (by omega), if_neg h, if_neg (by omega)]
      rw [List.getElem?_replicate]
      split <;> rfl
  | i + 1, hi => by
    have ih := excA_get p v i (by omega)
    have hl : p.rows.length + i < (excA p i).length := by rw [excA_len]; unfold lastN; omega
    simp only [excA]
    rw [Flow.gi_set hl, ih]
    by_cases h : v = p.rows.length + i
    · rw [if_pos h, if_neg (by omega), if_pos (by omega)]
      rw [show v - p.rows.length = i by omega]
    · rw [if_neg h]
      by_cases h2 : v < p.rows.length
      · rw [if_pos h2, if_pos h2]
      · rw [if_neg h2, if_neg h2]
        by_cases h3 : v < p.rows.length + i
        · rw [if_pos h3, if_pos (by omega)]
        · rw [if_neg h3, if_neg (by omega)]

theorem excB_get {p : Plat} (hp : PlatW p) (v : Nat) : ∀ i, i ≤ p.ps.length → Flow.gi (excB p i) v = Flow.gi (excA p p.cols.length) v + Flow.sumN (Flow.balF (grOf p) (areas p) v) i
  | 0, _ => by simp [excB, Flow.sumN]
  | i + 1, hi => by
    have ih := excB_get hp v i (by omega)
    have h1 := (grOk hp).fr i (by show i < p.ps.length; omega)
    have h2 := (grOk hp).to i (by show i < p.ps.length; omega)
    have e1 : fromN p (pcA p i) < (excB p i).length := by rw [excB_len]; exact h1
    have e2 : toN p (pcA p i) < (addAt (excB p i) (fromN p (pcA p i)) (-(pcA p i).area)).length := by rw [addAt_len, excB_len]; exact h2
    simp only [excB, Flow.sumN]
    rw [gi_addAt e2, gi_addAt e1, ih]
    have e3 : Flow.balF (grOf p) (areas p) v i = (if toN p (pcA p i) = v then (pcA p i).area else 0) - (if fromN p (pcA p i) = v then (pcA p i).area else 0) := by
      unfold Flow.balF
      rw [areas_get i (by omega)]
      rfl
    rw [e3]
    by_cases c1 : v = fromN p (pcA p i) <;> by_cases c2 : v = toN p (pcA p i)
    · rw [if_pos c1, if_pos c2, if_pos c2.symm, if_pos c1.symm]; simp only [pcA]; omega
    · rw [if_pos c1, if_neg c2, if_neg (fun e => c2 e.symm), if_pos c1.symm]; simp only [pcA]; omega
    · rw [if_neg c1, if_pos c2, if_pos c2.symm, if_neg (fun e => c1 e.symm)]; simp only [pcA]; omega
    · rw [if_neg c1, if_neg c2, if_neg (fun e => c2 e.symm), if_neg (fun e => c1 e.symm)]; omega

theorem excD_get (p : Plat) : ∀ k, k ≤ lastN p → (∀ v, v < lastN p → Flow.gi (excD p k) v = Flow.gi (excB p p.ps.length) v) ∧ Flow.gi (excD p k) (lastN p) = -(Flow.sumN (Flow.gi (excB p p.ps.length)) k)
  | 0, _ => by
    have hl : lastN p < (excB p p.ps.length).length := by rw [excB_len]; omega
    constructor
    · intro v hv
      simp only [excD]
      rw [Flow.gi_set hl, if_neg (by omega)]
    · simp only [excD, Flow.sumN]
      rw [Flow.gi_set hl, if_pos rfl]; rfl
  | k + 1, hk => by
    obtain ⟨h1, h2⟩ := excD_get p k (by omega)
    have hl : lastN p < (excD p k).length := by rw [excD_len]; omega
    constructor
    · intro v hv
      simp only [excD]
      rw [gi_addAt hl, if_neg (by omega), h1 v hv, Int.add_zero]
    · simp only [excD, Flow.sumN]
      have h3 := h1 k (by omega)
      unfold Flow.gi at h3
      rw [gi_addAt hl, if_pos rfl, h2, h3]
      simp only [Flow.gi]
      omega

def sup0 (p : Plat) (v : Nat) : Int := Flow.gi (excD p (lastN p)) v - Flow.bal (grOf p) (areas p) v

theorem sup_in {p : Plat} (hp : PlatW p) {v : Nat} (hv : v < lastN p) : sup0 p v = if v < p.rows.length then p.rows[v]?.getD 0 else -(p.cols[v - p.rows.length]?.getD 0) := by
  unfold sup0
  rw [(excD_get p (lastN p) (Nat.le_refl _)).1 v hv, excB_get hp v p.ps.length (Nat.le_refl _), excA_get p v p.cols.length (Nat.le_refl _)]
  have : Flow.bal (grOf p) (areas p) v = Flow.sumN (Flow.balF (grOf p) (areas p) v) p.ps.length := rfl
  rw [this]
  unfold lastN at hv
  split
  · omega
  · first
    | omega
    | (split <;> omega)

theorem exc_total (p : Plat) : Flow.sumN (Flow.gi (excD p (lastN p))) (lastN p + 1) = 0 := by
  obtain ⟨h1, h2⟩ := excD_get p (lastN p) (Nat.le_refl _)
  simp only [Flow.sumN]
  rw [h2, Flow.sumN_congr fun v hv => h1 v hv]
  omega

theorem good0 {p : Plat} (hp : PlatW p) : Flow.Good (grOf p) (sup0 p) (areas p) (excD p (lastN p)) := by
  refine ⟨by simp [grOf], by simp [grOf], fun i hi => ?_, fun i hi _ => areas_get i hi, fun v _ => by unfold sup0; omega, exc_total p, fun _ => 0, fun i d u v hr => ?_⟩
  · obtain ⟨h1, _⟩ := pc_in hp i hi
    unfold PcW at h1
    rw [areas_get i hi]
    show lowI (pcA p i) ≤ _ ∧ _ ≤ highI (pcA p i)
    unfold lowI highI
    omega
  · have hi := hr.1
    have e := areas_get i hi
    have : (grOf p).ar i = (pcA p i).area := rfl
    obtain ⟨_, _, h⟩ := hr
    show (0 : Int) - 0 ≤ _
    unfold Flow.pr Flow.prI
    rw [e, this]
    rcases h with ⟨rfl, _⟩ | ⟨rfl, _⟩ <;> omega

theorem rowF_bal {p : Plat} (hp : PlatW p) (l : List Int) {r : Nat} (hr : r < p.rows.length) : Flow.balz (grOf p) (Flow.gi l) r = -(sumTo (rowF p l r) p.ps.length) := by
  rw [sumTo_eq]
  have : Flow.balz (grOf p) (Flow.gi l) r + Flow.sumN (rowF p l r) p.ps.length = 0 := by
    unfold Flow.balz
    show Flow.sumN _ p.ps.length + _ = 0
    rw [← Flow.sumN_plus, Flow.sumN_congr (g := fun _ => 0) fun i hi => ?_, Flow.sumN_zero]
    have e1 : (grOf p).to i = toN p (pcA p i) := rfl
    have e2 : (grOf p).fr i = fromN p (pcA p i) := rfl
    rw [e1, e2]
    unfold rowF
    have t : toN p (pcA p i) ≠ r := by rcases to_cases hp i hi with ⟨_, h⟩ | ⟨_, _, h, _⟩ <;> (try unfold lastN at h) <;> omega
    rw [if_neg t]
    rcases fr_cases hp i hi with ⟨h1, h2⟩ | ⟨h1, h2, h3⟩
    · rw [if_neg (by rw [h2]; unfold lastN; omega), if_neg (by show ¬ (pcA p i).row = _; omega)]; rfl
    · by_cases c : fromN p (pcA p i) = r
      · rw [if_pos c, if_pos (by show (pcA p i).row = _; omega)]; simp only [Flow.gi]; omega
      · rw [if_neg c, if_neg (by show ¬ (pcA p i).row = _; omega)]; rfl
  omega

theorem colF_bal {p : Plat} (hp : PlatW p) (l : List Int) {c : Nat} (hc : c < p.cols.length) : Flow.balz (grOf p) (Flow.gi l) (p.rows.length + c) = sumTo (colF p l c) p.ps.length := by
  rw [sumTo_eq]
  unfold Flow.balz
  show Flow.sumN _ p.ps.length = _
  refine Flow.sumN_congr fun i hi => ?_
  have e1 : (grOf p).to i = toN p (pcA p i) := rfl
  have e2 : (grOf p).fr i = fromN p (pcA p i) := rfl
  rw [e1, e2]
  unfold colF
  have t : fromN p (pcA p i) ≠ p.rows.length + c := by rcases fr_cases hp i hi with ⟨_, h⟩ | ⟨_, _, h⟩ <;> (try unfold lastN at h) <;> omega
  rw [if_neg t]
  rcases to_cases hp i hi with ⟨h1, h2⟩ | ⟨h1, h2, h3, h4⟩
  · rw [if_neg (by rw [h2]; unfold lastN; omega), if_neg (by show ¬ (pcA p i).col = _; omega)]; rfl
  · by_cases d : toN p (pcA p i) = p.rows.length + c
    · rw [if_pos d, if_pos (by show (pcA p i).col = _; omega)]; simp only [Flow.gi]; omega
    · rw [if_neg d, if_neg (by show ¬ (pcA p i).col = _; omega)]; rfl

theorem sup_total {p : Plat} (hp : PlatW p) : Flow.sumN (sup0 p) (lastN p + 1) = 0 := by
  have h1 := exc_total p
  have h2 := Flow.bal_total (grOk hp) (Flow.gi (areas p))
  have h3 : Flow.sumN (fun v => sup0 p v + Flow.balz (grOf p) (Flow.gi (areas p)) v) (lastN p + 1) = 0 := by
    rw [← h1]
    refine Flow.sumN_congr fun v _ => ?_
    unfold sup0; rw [Flow.bal_eq]; omega
  rw [Flow.sumN_plus] at h3
  have : Flow.sumN (Flow.balz (grOf p) (Flow.gi (areas p))) (lastN p + 1) = 0 := h2
  omega

/-- What fills a plat balances its net. -/
theorem full_bal {p : Plat} (hp : PlatW p) {l : List Int} (hl : l.length = p.ps.length) : FullP p l ↔ ∀ v, v < (grOf p).N → sup0 p v + Flow.balz (grOf p) (Flow.gi l) v = 0 := by
  constructor
  · rintro ⟨h1, h2⟩
    have key : ∀ v, v < lastN p → sup0 p v + Flow.balz (grOf p) (Flow.gi l) v = 0 := by
      intro v hv
      rw [sup_in hp hv]
      by_cases c : v < p.rows.length
      · rw [if_pos c, rowF_bal hp l c, ← hl, h1 v c]; omega
      · rw [if_neg c]
        have hv' := hv
        unfold lastN at hv'
        have e : v = p.rows.length + (v - p.rows.length) := by omega
        have := colF_bal hp l (c := v - p.rows.length) (by omega)
        rw [← e] at this
        rw [this, ← hl, h2 (v - p.rows.length) (by omega)]; omega
    intro v hv
    have hv : v < lastN p + 1 := hv
    by_cases c : v < lastN p
    · exact key v c
    · have e : v = lastN p := by omega
      subst e
      have t1 := sup_total hp
      have t2 : Flow.sumN (Flow.balz (grOf p) (Flow.gi l)) (lastN p + 1) = 0 := Flow.bal_total (grOk hp) (Flow.gi l)
      have t3 : Flow.sumN (fun v => sup0 p v + Flow.balz (grOf p) (Flow.gi l) v) (lastN p) = 0 := by
        rw [Flow.sumN_congr (g := fun _ => 0) key, Flow.sumN_zero]
      rw [Flow.sumN_plus] at t3
      simp only [Flow.sumN] at t1 t2
      omega
  · intro h
    constructor
    · intro r hr
      have := h r (by show r < lastN p + 1; unfold lastN; omega)
      rw [sup_in hp (by unfold lastN; omega), if_pos hr, rowF_bal hp l hr] at this
      rw [hl]; omega
    · intro c hc
      have := h (p.rows.length + c) (by show p.rows.length + c < lastN p + 1; unfold lastN; omega)
      rw [sup_in hp (by unfold lastN; omega), if_neg (by omega), colF_bal hp l hc, show p.rows.length + c - p.rows.length = c by omega] at this
      rw [hl]; omega

/-- The sum of all changes. -/
def sumC (p : Plat) (l : List Int) : Int := sumTo (chgF p l) p.ps.length

theorem sumC_eq (p : Plat) (l : List Int) : sumC p l = Flow.sumN (fun i => Flow.chg (grOf p) i (Flow.gi l i)) (grOf p).m := by
  unfold sumC; rw [sumTo_eq]; rfl

theorem isP_of {p : Plat} (hp : PlatW p) {l e : List Int} (h : Flow.Good (grOf p) (sup0 p) l e) (hz : ∀ v, v < (grOf p).N → Flow.gi e v = 0) : IsP p l := by
  have hl : l.length = p.ps.length := h.ln
  refine ⟨hl, fun i hi => h.bd i (by show i < p.ps.length; omega), (full_bal hp hl).2 fun v hv => ?_⟩
  have := h.ex v hv
  rw [hz v hv] at this
  rw [Flow.bal_eq] at this
  omega

theorem isP_least {p : Plat} (hp : PlatW p) {l e : List Int} (h : Flow.Good (grOf p) (sup0 p) l e) (hz : ∀ v, v < (grOf p).N → Flow.gi e v = 0) {y : List Int} (hy : IsP p y) : sumC p l ≤ sumC p y := by
  rw [sumC_eq, sumC_eq]
  obtain ⟨h1, h2, h3⟩ := hy
  exact Flow.cheapest (grOk hp) h hz (fun i hi => h2 i (by have : i < p.ps.length := hi; omega)) ((full_bal hp h1).1 h3)

-- sets of strips

def rcS (p : Plat) (r c : Nat) (v : Nat) : Bool := if v < p.rows.length then Nat.testBit r v else if v < lastN p then Nat.testBit c (v - p.rows.length) else false

theorem bits_ex (f : Nat → Bool) : ∀ n, ∃ r, r < 2 ^ n ∧ ∀ i, i < n → Nat.testBit r i = f i
  | 0 => ⟨0, by simp, fun i hi => by omega⟩
  | n + 1 => by
    obtain ⟨r, h1, h2⟩ := bits_ex f n
    cases hf : f n
    · refine ⟨r, by rw [Nat.pow_succ]; omega, fun i hi => ?_⟩
      by_cases e : i = n
      · subst e; rw [hf]; exact Nat.testBit_lt_two_pow h1
      · exact h2 i (by omega)
    · refine ⟨2 ^ n + r, by rw [Nat.pow_succ]; omega, fun i hi => ?_⟩
      by_cases e : i = n
      · subst e; rw [hf, Nat.testBit_two_pow_add_eq, Nat.testBit_lt_two_pow h1]; rfl
      · rw [Nat.testBit_two_pow_add_gt (by omega)]; exact h2 i (by omega)

theorem sAt_sum (v : List Int) (s : Nat) : ∀ k, sumTo (sAt v (listTo s k)) (listTo s k).length = Flow.sumN (fun i => if Nat.testBit s i then v[i]?.getD 0 else 0) k
  | 0 => rfl
  | k + 1 => by
    have ih := sAt_sum v s k
    simp only [listTo, Flow.sumN]
    cases h : Nat.testBit s k
    · simp [ih]
    · simp only [if_true, List.length_append, List.length_cons, List.length_nil, Nat.zero_add, sumTo]
      rw [← ih]
      congr 1
      · refine sumTo_congr fun i hi => ?_
        unfold sAt
        rw [List.getElem?_append_left hi]
      · unfold sAt
        simp

theorem sAt_sum4 {v : List Int} {s : Nat} (hv : v.length ≤ 4) : sumTo (sAt v (listTo s 4)) (listTo s 4).length = Flow.sumN (fun i => if Nat.testBit s i then v[i]?.getD 0 else 0) v.length := by
  rw [sAt_sum]
  have key : ∀ d n, n = v.length + d → Flow.sumN (fun i => if Nat.testBit s i then v[i]?.getD 0 else 0) n = Flow.sumN (fun i => if Nat.testBit s i then v[i]?.getD 0 else 0) v.length := by
    intro d
    induction d with
    | zero => intro n hn; rw [hn]; rfl
    | succ d ih =>
      intro n hn
      subst hn
      rw [← Nat.add_assoc]
      simp only [Flow.sumN]
      rw [ih _ rfl, List.getElem?_eq_none (by omega)]
      simp
  exact key (4 - v.length) 4 (by omega)

theorem sumN_split (f : Nat → Int) (a : Nat) : ∀ b, Flow.sumN f (a + b) = Flow.sumN f a + Flow.sumN (fun i => f (a + i)) b
  | 0 => by simp [Flow.sumN]
  | b + 1 => by
    rw [← Nat.add_assoc]
    simp only [Flow.sumN]
    rw [sumN_split f a b]; omega

def surp (p : Plat) (r c : Nat) : Int := sumTo (sAt p.rows (listTo r 4)) (listTo r 4).length - sumTo (sAt p.cols (listTo c 4)) (listTo c 4).length

theorem surp_sup {p : Plat} (hp : PlatW p) (r c : Nat) : Flow.supS (grOf p) (sup0 p) (rcS p r c) = surp p r c := by
  unfold Flow.supS surp
  rw [sAt_sum4 hp.r4, sAt_sum4 hp.c4]
  show Flow.sumN _ (lastN p + 1) = _
  simp only [Flow.sumN]
  have e0 : rcS p r c (lastN p) = false := by unfold rcS lastN; rw [if_neg (by omega), if_neg (by omega)]
  rw [e0, show lastN p = p.rows.length + p.cols.length from rfl, sumN_split]
  have e1 : Flow.sumN (fun v => if rcS p r c v then sup0 p v else 0) p.rows.length = Flow.sumN (fun i => if Nat.testBit r i then p.rows[i]?.getD 0 else 0) p.rows.length := by
    refine Flow.sumN_congr fun i hi => ?_
    rw [sup_in hp (by unfold lastN; omega), if_pos hi]
    unfold rcS
    rw [if_pos hi]
  have e2 : Flow.sumN (fun i => if rcS p r c (p.rows.length + i) then sup0 p (p.rows.length + i) else 0) p.cols.length + Flow.sumN (fun i => if Nat.testBit c i then p.cols[i]?.getD 0 else 0) p.cols.length = 0 := by
    rw [← Flow.sumN_plus, Flow.sumN_congr (g := fun _ => 0) fun i hi => ?_, Flow.sumN_zero]
    have hs : rcS p r c (p.rows.length + i) = Nat.testBit c i := by
      unfold rcS
      rw [if_neg (by omega), if_pos (by unfold lastN; omega), show p.rows.length + i - p.rows.length = i by omega]
    rw [hs, sup_in hp (by unfold lastN; omega), if_neg (show ¬ p.rows.length + i < p.rows.length by omega), show p.rows.length + i - p.rows.length = i by omega]
    split <;> omega
  rw [e1]
  simp
  omega

theorem rc_fr {p : Plat} (hp : PlatW p) (r c : Nat) {i : Nat} (hi : i < p.ps.length) : rcS p r c ((grOf p).fr i) = hasB r (pcA p i).row := by
  have e2 : (grOf p).fr i = fromN p (pcA p i) := rfl
  rw [e2]
  unfold rcS hasB
  rcases fr_cases hp i hi with ⟨h1, h2⟩ | ⟨h1, h2, h3⟩
  · rw [h2, if_neg (by unfold lastN; omega), if_neg (by omega), h1]; rfl
  · rw [if_pos h3]
    have : (pcA p i).row.toNat = fromN p (pcA p i) := by omega
    rw [this]
    have : decide (0 ≤ (pcA p i).row) = true := by simp; omega
    rw [this, Bool.true_and]

theorem rc_to {p : Plat} (hp : PlatW p) (r c : Nat) {i : Nat} (hi : i < p.ps.length) : rcS p r c ((grOf p).to i) = hasB c (pcA p i).col := by
  have e2 : (grOf p).to i = toN p (pcA p i) := rfl
  rw [e2]
  unfold rcS hasB
  rcases to_cases hp i hi with ⟨h1, h2⟩ | ⟨h1, h2, h3, h4⟩
  · rw [h2, if_neg (by unfold lastN; omega), if_neg (by omega), h1]; rfl
  · rw [if_neg (by omega), if_pos h4]
    have : (pcA p i).col.toNat = toN p (pcA p i) - p.rows.length := by omega
    rw [this]
    have : decide (0 ≤ (pcA p i).col) = true := by simp; omega
    rw [this, Bool.true_and]

theorem high_out {p : Plat} (hp : PlatW p) (r c : Nat) : Flow.sumN (Flow.outS (grOf p) (rcS p r c)) (grOf p).m = sumTo (highF p (hasB r) (hasB c)) p.ps.length := by
  rw [sumTo_eq]
  refine Flow.sumN_congr fun i hi => ?_
  unfold Flow.outS highF
  rw [rc_fr hp r c hi, rc_to hp r c hi]
  rfl

theorem low_out {p : Plat} (hp : PlatW p) (r c : Nat) : Flow.sumN (Flow.outS (grOf p) (fun v => !rcS p r c v)) (grOf p).m = -(sumTo (lowF p (hasB r) (hasB c)) p.ps.length) := by
  rw [sumTo_eq]
  have : Flow.sumN (Flow.outS (grOf p) (fun v => !rcS p r c v)) (grOf p).m + Flow.sumN (lowF p (hasB r) (hasB c)) p.ps.length = 0 := by
    show Flow.sumN _ p.ps.length + _ = 0
    rw [← Flow.sumN_plus, Flow.sumN_congr (g := fun _ => 0) fun i hi => ?_, Flow.sumN_zero]
    unfold Flow.outS lowF
    simp only [rc_fr hp r c hi, rc_to hp r c hi]
    have e1 : (grOf p).lo i = lowI (pcA p i) := rfl
    have e2 : (grOf p).hi i = highI (pcA p i) := rfl
    rw [e1, e2]
    cases hasB r (pcA p i).row <;> cases hasB c (pcA p i).col <;> simp [pcA] <;> omega
  omega

theorem surp_not {p : Plat} (hp : PlatW p) (r c : Nat) : Flow.supS (grOf p) (sup0 p) (fun v => !rcS p r c v) = -(surp p r c) := by
  rw [← surp_sup hp]
  have t := sup_total hp
  unfold Flow.supS
  have : Flow.sumN (fun v => if (!rcS p r c v) = true then sup0 p v else 0) (grOf p).N + Flow.sumN (fun v => if rcS p r c v = true then sup0 p v else 0) (grOf p).N = 0 := by
    rw [← Flow.sumN_plus]
    refine (Flow.sumN_congr (g := sup0 p) fun v _ => ?_).trans t
    cases rcS p r c v <;> simp
  simp only at this ⊢
  omega

theorem setP_iff {p : Plat} (hp : PlatW p) (r c : Nat) : SetP p r c ↔
    Flow.sumN (Flow.outS (grOf p) (fun v => !rcS p r c v)) (grOf p).m < Flow.supS (grOf p) (sup0 p) (fun v => !rcS p r c v) ∨ Flow.sumN (Flow.outS (grOf p) (rcS p r c)) (grOf p).m < Flow.supS (grOf p) (sup0 p) (rcS p r c) := by
  rw [low_out hp, high_out hp, surp_not hp, surp_sup hp]
  unfold SetP SurplusP surp
  constructor <;> (intro h; rcases h with h | h <;> omega)

theorem cut_set {p : Plat} (hp : PlatW p) {l e : List Int} (h : Flow.Good (grOf p) (sup0 p) l e) {S : Nat → Bool} (hc : Flow.Cut (grOf p) l e S) :
    ∃ r c, r < 2 ^ p.rows.length ∧ c < 2 ^ p.cols.length ∧ SetP p r c := by
  have hlt := Flow.cut_sup (grOk hp) h hc
  have go : ∀ T : Nat → Bool, (∀ v, v < lastN p + 1 → S v = T v) → Flow.sumN (Flow.outS (grOf p) T) (grOf p).m < Flow.supS (grOf p) (sup0 p) T := by
    intro T hT
    have e1 : Flow.supS (grOf p) (sup0 p) S = Flow.supS (grOf p) (sup0 p) T := by
      unfold Flow.supS
      exact Flow.sumN_congr fun v hv => by rw [hT v hv]
    have e2 : Flow.sumN (Flow.outS (grOf p) S) (grOf p).m = Flow.sumN (Flow.outS (grOf p) T) (grOf p).m := by
      refine Flow.sumN_congr fun i hi => ?_
      unfold Flow.outS
      rw [hT _ ((grOk hp).fr i hi), hT _ ((grOk hp).to i hi)]
    rw [e1, e2] at hlt
    exact hlt
  cases hl : S (lastN p)
  · obtain ⟨r, r1, r2⟩ := bits_ex S p.rows.length
    obtain ⟨c, c1, c2⟩ := bits_ex (fun i => S (p.rows.length + i)) p.cols.length
    refine ⟨r, c, r1, c1, (setP_iff hp r c).2 (.inr (go _ fun v hv => ?_))⟩
    unfold rcS
    by_cases q : v < p.rows.length
    · rw [if_pos q, r2 v q]
    · rw [if_neg q]
      by_cases q2 : v < lastN p
      · rw [if_pos q2, c2 _ (by unfold lastN at q2; omega), show p.rows.length + (v - p.rows.length) = v by omega]
      · rw [if_neg q2, show v = lastN p by omega, hl]
  · obtain ⟨r, r1, r2⟩ := bits_ex (fun i => !S i) p.rows.length
    obtain ⟨c, c1, c2⟩ := bits_ex (fun i => !S (p.rows.length + i)) p.cols.length
    refine ⟨r, c, r1, c1, (setP_iff hp r c).2 (.inl (go _ fun v hv => ?_))⟩
    unfold rcS
    by_cases q : v < p.rows.length
    · rw [if_pos q, r2 v q, Bool.not_not]
    · rw [if_neg q]
      by_cases q2 : v < lastN p
      · rw [if_pos q2, c2 _ (by unfold lastN at q2; omega), show p.rows.length + (v - p.rows.length) = v by omega, Bool.not_not]
      · rw [if_neg q2, show v = lastN p by omega, hl]; rfl

theorem set_none {p : Plat} (hp : PlatW p) {r c : Nat} (h : SetP p r c) {y : List Int} (hy : IsP p y) : False := by
  obtain ⟨h1, h2, h3⟩ := hy
  have hb : ∀ i, i < (grOf p).m → (grOf p).lo i ≤ Flow.gi y i ∧ Flow.gi y i ≤ (grOf p).hi i := fun i hi => h2 i (by have : i < p.ps.length := hi; omega)
  have hf := (full_bal hp h1).1 h3
  rcases (setP_iff hp r c).1 h with h | h
  · have := Flow.sup_none (grOk hp) (S := fun v => !rcS p r c v) hb fun v hv _ => hf v hv
    omega
  · have := Flow.sup_none (grOk hp) (S := rcS p r c) hb fun v hv _ => hf v hv
    omega

/-- WHAT SETTLING GIVES. -/
theorem settle_ends {p : Plat} (hp : PlatW p) : ∃ r, Flow.Run (grOf p) (areas p) (excD p (lastN p)) r ∧ (match r with
    | some l => IsP p l ∧ ∀ y, IsP p y → sumC p l ≤ sumC p y
    | none => (∃ r c, r < 2 ^ p.rows.length ∧ c < 2 ^ p.cols.length ∧ SetP p r c) ∧ ∀ y, ¬ IsP p y) := by
  obtain ⟨r, h1, h2⟩ := Flow.run_ends (grOk hp) (grN hp) _ _ _ (Nat.le_refl _) (good0 hp)
  refine ⟨r, h1, ?_⟩
  cases r with
  | some l =>
    obtain ⟨e, h3, h4⟩ := h2
    exact ⟨isP_of hp h3 h4, fun y hy => isP_least hp h3 h4 hy⟩
  | none =>
    obtain ⟨l, e, S, h3, h4⟩ := h2
    obtain ⟨r, c, h5⟩ := cut_set hp h3 h4
    exact ⟨⟨r, c, h5⟩, fun y hy => set_none hp h5.2.2 hy⟩

end Go.Proofs.Ytgcmjidphcafnaa

namespace Go.Proofs.Ytgcmjidphcafnaa
open Go Go.Abs

set_option maxHeartbeats 2000000

@[simp] abbrev cStp (q : Flow.Stp) : List C := [encI q.pc, encI q.by_, encI q.frm]
@[simp] abbrev cellOb (c : C) : Ob := ⟨false, false, 1, [[c]]⟩
@[simp] abbrev byOb (l : List Flow.Stp) : Ob := ⟨false, false, 3, l.map cStp⟩
theorem stps_pure (l : List Flow.Stp) : (l.map cStp).all purel = true := by simp [purel, C.isPure]

/-- The objects of a search. -/
abbrev wayObs (s : Flow.St) : List (Nat × Ob) := [(2001, cellOb (.own 2003 1 0 s.cost.length)), (2002, cellOb (.own 2004 3 0 s.by_.length)), (2003, excOb s.cost), (2004, byOb s.by_), (2005, cellOb (.bool s.ch))]

theorem rowsOk_cell {m : List (Nat × Nat)} {a b : C} (h1 : mtc m a b) (c1 : b.cell = true) : RowsOk m [[a]] [[b]] := by
  refine .cons ?_ ?_ .nil
  · simp [mtl, h1]
  · simp only [List.all_cons, c1, List.all_nil]; rfl

theorem try94 (s : Flow.St) (i d : Int) (u v : Nat) (price : Int) (hb : s.by_.length = s.cost.length) (hu : u < s.cost.length) (hv : v < s.cost.length) (hbd : ∀ a ∈ s.cost, -2000 ≤ a ∧ a ≤ 1073741824) (hp : -1 ≤ price ∧ price ≤ 1) :
    Eff Try.prog 94 (wayObs s) [.agg (cStp ⟨i, d, u⟩), encI v, encI price, .ptr 2001 1 0 0, .ptr 2002 1 0 0, .ptr 2005 1 0 0] (.tup []) (wayObs (Flow.tryS s ⟨i, d, u⟩ u v price)) := by
  have hub := hbd _ (List.getElem_mem hu)
  have w1 : IntKind.i64.wrap (s.cost[u] + price) = s.cost[u] + price := wrap_id (by omega) (by omega)
  refine eff_of_body (fn := Try.f94) [] ⟨Try.func94, rfl, by kernel_rfl⟩ (by kernel_rfl) (by kernel_rfl) (by kernel_rfl) ?_ ?_ fun x hx hσ => ?_
  · simp [wil, C.wi, keysO]
  · simp [wil, C.wi, keysO]
  repeat refine awp_seq ?_
  refine awp_reg1 (by rw [hx]; kernel_rfl) fun K hK => ?_
  simp (config := { maxSteps := 1000000 }) []
  refine hK _ ?_
  clear hK K
  first | show AWP _ _ _ _ _ | show ∃ _, _ | skip
  by_cases h1 : s.cost[u] < 1073741824
  · repeat refine awp_seq ?_
    refine awp_drw3 [] [0, 1, 2, 3, 4, 5, 6, 7, 8, 9, 10, 11, 12, 13, 14, 15, 16, 17, 18, 19] (by rw [hx]; kernel_rfl) (by kernel_rfl) (by kernel_rfl) (by kernel_rfl) fun K hK => ?_
    simp (config := { maxSteps := 1000000 }) [ty23, ty3, ty109, hu, hv, h1, w1]
    refine hK _ ?_
    clear hK K
    first | show AWP _ _ _ _ _ | show ∃ _, _ | skip
    repeat refine awp_seq ?_
    refine awp_cond (by simp; rfl) (by rw [hx]; simp) (fun h2 => ?_) (fun h2 => ?_)
    · simp at h2
      have hvb : v < s.by_.length := by omega
      repeat refine awp_seq ?_
      refine awp_drw3 [1002, 1011, 2013, 12003] [0, 1, 2, 3, 4, 5, 6, 7, 8, 9, 10, 11, 12, 13, 14, 15, 16] (by rw [hx]; kernel_rfl) (by kernel_rfl) (by kernel_rfl) (by kernel_rfl) fun K hK => ?_
      simp (config := { maxSteps := 1000000 }) [ty23, ty3, ty109, ty105, ty4, hu, hv, w1, hvb]
      refine hK _ ?_
      clear hK K
      first | show AWP _ _ _ _ _ | show ∃ _, _ | skip
      have e : Flow.tryS s ⟨i, d, u⟩ u v price = ⟨s.cost.set v (s.cost[u] + price), s.by_.set v ⟨i, d, u⟩, true⟩ := by
        unfold Flow.tryS
        simp only [Flow.gi, List.getElem?_eq_getElem hu, List.getElem?_eq_getElem hv, Option.getD_some, Flow.far]
        rw [if_pos ⟨h1, h2⟩]
      rw [e]
      refine ⟨.inl rfl, .tup [], [(2001, 2001, .live (cellOb (.own 2003 1 0 s.cost.length))), (2002, 2002, .live (cellOb (.own 2004 3 0 s.by_.length))), (2003, 2003, .live (excOb (s.cost.set v (s.cost[u] + price)))), (2004, 2004, .live (byOb (s.by_.set v ⟨i, d, u⟩))), (2005, 2005, .live (cellOb (.bool true)))], by simp [retC, resC], shpX hσ (by simp [keysO, mT]) (by simp) (by simp) ?_, by simp [mtc, mtl, C.isPure], ?_⟩
      · simp [SlotOk]
        refine ⟨rowsOk_cell (by simp [mtc, mT]) rfl, rowsOk_cell (by simp [mtc, mT]) rfl, .same ?_, .same ?_, .same rfl⟩
        · have e1 : (s.cost.map cI).set v [.int .i64 (s.cost[u] + price)] = (s.cost.set v (s.cost[u] + price)).map cI := by simp
          rw [e1]; exact ints_pure _
        · have e1 : (s.by_.map cStp).set v (cStp ⟨i, d, u⟩) = (s.by_.set v ⟨i, d, u⟩).map cStp := by simp
          simp only [cStp] at e1
          rw [e1]; exact stps_pure _
      · simp [stoT, wayObs, updO]
    · simp at h2
      refine awp_skip ?_
      first | show AWP _ _ _ _ _ | show ∃ _, _ | skip
      have e : Flow.tryS s ⟨i, d, u⟩ u v price = s := by
        unfold Flow.tryS
        simp only [Flow.gi, List.getElem?_eq_getElem hu, List.getElem?_eq_getElem hv, Option.getD_some, Flow.far]
        rw [if_neg (by omega)]
      rw [e]
      refine ⟨.inl rfl, .tup [], [(2001, 2001, .live (cellOb (.own 2003 1 0 s.cost.length))), (2002, 2002, .live (cellOb (.own 2004 3 0 s.by_.length))), (2003, 2003, .live (excOb s.cost)), (2004, 2004, .live (byOb s.by_)), (2005, 2005, .live (cellOb (.bool s.ch)))], by simp [retC, resC], shpX hσ (by simp [keysO, mT]) (by simp) (by simp) ?_, by simp [mtc, mtl, C.isPure], rfl⟩
      simp [SlotOk]
      exact ⟨rowsOk_cell (by simp [mtc, mT]) rfl, rowsOk_cell (by simp [mtc, mT]) rfl, .same (ints_pure _), .same (stps_pure _), .same rfl⟩
  · repeat refine awp_seq ?_
    refine awp_drw3 [] [0, 1, 2, 3, 4, 5, 6, 7, 8, 9, 10, 11, 12, 13, 14, 15, 16, 17, 18, 19] (by rw [hx]; kernel_rfl) (by kernel_rfl) (by kernel_rfl) (by kernel_rfl) fun K hK => ?_
    simp (config := { maxSteps := 1000000 }) [ty23, ty3, ty109, hu, hv, h1, w1]
    refine hK _ ?_
    clear hK K
    first | show AWP _ _ _ _ _ | show ∃ _, _ | skip
    repeat refine awp_seq ?_
    refine awp_cond (by simp; rfl) (by rw [hx]; simp) (fun h2 => ?_) (fun h2 => ?_)
    · simp at h2
    · refine awp_skip ?_
      first | show AWP _ _ _ _ _ | show ∃ _, _ | skip
      have e : Flow.tryS s ⟨i, d, u⟩ u v price = s := by
        unfold Flow.tryS
        simp only [Flow.gi, List.getElem?_eq_getElem hu, List.getElem?_eq_getElem hv, Option.getD_some, Flow.far]
        rw [if_neg (by omega)]
      rw [e]
      refine ⟨.inl rfl, .tup [], [(2001, 2001, .live (cellOb (.own 2003 1 0 s.cost.length))), (2002, 2002, .live (cellOb (.own 2004 3 0 s.by_.length))), (2003, 2003, .live (excOb s.cost)), (2004, 2004, .live (byOb s.by_)), (2005, 2005, .live (cellOb (.bool s.ch)))], by simp [retC, resC], shpX hσ (by simp [keysO, mT]) (by simp) (by simp) ?_, by simp [mtc, mtl, C.isPure], rfl⟩
      simp [SlotOk]
      exact ⟨rowsOk_cell (by simp [mtc, mT]) rfl, rowsOk_cell (by simp [mtc, mT]) rfl, .same (ints_pure _), .same (stps_pure _), .same rfl⟩

end Go.Proofs.Ytgcmjidphcafnaa

namespace Go.Proofs.Ytgcmjidphcafnaa
open Go Go.Abs

set_option maxHeartbeats 2000000

theorem fill_set {α : Type} (l : List α) (z : α) (v : Nat) (h : v < l.length) : (l.take v ++ List.replicate (l.length - v) z).set v l[v] = l.take (v + 1) ++ List.replicate (l.length - (v + 1)) z := by
  apply List.ext_getElem
  · simp; omega
  · intro i h1 h2
    simp only [List.getElem_set, List.getElem_append, List.getElem_take, List.getElem_replicate, List.length_take]
    by_cases e : v = i
    · subst e
      rw [if_pos rfl, dif_pos (by omega)]
    · rw [if_neg e]
      by_cases e2 : i < v
      · rw [dif_pos (by omega), dif_pos (by omega)]
      · rw [dif_neg (by omega), dif_neg (by omega)]

theorem fill_same {α : Type} (l : List α) (z : α) (v : Nat) (h : v < l.length) (hz : l[v] = z) : l.take v ++ List.replicate (l.length - v) z = l.take (v + 1) ++ List.replicate (l.length - (v + 1)) z := by
  rw [← fill_set l z v h, hz]
  apply List.ext_getElem
  · simp
  · intro i h1 h2
    rw [List.getElem_set]
    split
    · rename_i e
      subst e
      rw [List.getElem_append_right (by simp; omega)]
      simp
    · rfl

theorem way_bd {g : Flow.Gr} (hN : (g.N : Int) < 1000) {now exc : List Int} {s : Flow.St} {t : Nat → Nat} {T : Nat} (h : Flow.BI g now exc s t T) {π : Nat → Int} (hp : Flow.Pot g now π) : ∀ a ∈ s.cost, -2000 ≤ a ∧ a ≤ 1073741824 := by
  intro a ha
  obtain ⟨i, hi, rfl⟩ := List.getElem_of_mem ha
  have h1 := h.lc
  have e : Flow.gi s.cost i = s.cost[i] := by simp [Flow.gi, hi]
  have h2 := h.low' hp (v := i) (by omega)
  have h3 := h.far i (by omega)
  unfold Flow.far at h3
  rw [e] at h2 h3
  omega

/-- A net's objects. -/
abbrev netObs (p : Plat) (now exc : List Int) : List (Nat × Ob) := [(1000, netOb p (.own 1001 1 0 now.length) (.own 1002 1 0 exc.length)), (1001, listOb now), (1002, excOb exc)]

def byA (n v : Nat) : List Flow.Stp := List.replicate v ⟨0, 0, -1⟩ ++ List.replicate (n - v) ⟨0, 0, 0⟩

theorem byA_len {n v : Nat} (h : v ≤ n) : (byA n v).length = n := by simp [byA]; omega
theorem byA_set {n v : Nat} (h : v < n) : (byA n v).set v ⟨0, 0, -1⟩ = byA n (v + 1) := by
  have := fill_set (List.replicate n (⟨0, 0, -1⟩ : Flow.Stp)) ⟨0, 0, 0⟩ v (by simp; exact h)
  simp only [List.length_replicate, List.getElem_replicate, List.take_replicate] at this
  unfold byA
  rw [show min v n = v by omega, show min (v + 1) n = v + 1 by omega] at this
  exact this
theorem byA_get {n v : Nat} (h : v < n) : (byA n v)[v]? = some ⟨0, 0, 0⟩ := by
  unfold byA
  rw [List.getElem?_append_right (by simp), List.getElem?_replicate]
  rw [if_pos (by simp; omega)]

def costA (exc : List Int) (v : Nat) : List Int := (Flow.cost0 exc).take v ++ List.replicate ((Flow.cost0 exc).length - v) 0
theorem cost0_len (exc : List Int) : (Flow.cost0 exc).length = exc.length := by simp [Flow.cost0]
theorem costA_len {exc : List Int} {v : Nat} (h : v ≤ exc.length) : (costA exc v).length = exc.length := by simp [costA, cost0_len]; omega

@[simp] abbrev netT (p : Plat) (now exc : List Int) : List (Nat × Nat × Slot) := [(1000, 1000, .live (netOb p (.own 1001 1 0 now.length) (.own 1002 1 0 exc.length))), (1001, 1001, .live (listOb now)), (1002, 1002, .live (excOb exc))]
@[simp] abbrev wayT (s : Flow.St) (k5 : Nat) : List (Nat × Nat × Slot) := [(2001, 2001, .live (cellOb (.own 2003 1 0 s.cost.length))), (2002, 2002, .live (cellOb (.own 2004 3 0 s.by_.length))), (2003, 2003, .live (excOb s.cost)), (2004, 2004, .live (byOb s.by_)), (2005, k5, .live (cellOb (.bool s.ch)))]


@[simp] abbrev obEnds (q : Pc) : Ob := ⟨false, false, 2, [[.int .i64 (lowI q), .int .i64 (highI q)]]⟩




theorem ways91 (p : Plat) (hp : PlatW p) (now exc : List Int) (hg : Flow.Good (grOf p) (sup0 p) now exc) (n : Nat) (ch : (Flow.rn (grOf p) now exc (n + 1)).ch = false) (chs : ∀ j, j ≤ n → (Flow.rn (grOf p) now exc j).ch = true) :
    Eff Try.prog 91 (netObs p now exc) [.ptr 1000 5 0 0] (.tup [.own 2003 1 0 (lastN p + 1), .own 2004 3 0 (lastN p + 1)])
      (netObs p now exc ++ [(2003, excOb (Flow.rn (grOf p) now exc (n + 1)).cost), (2004, byOb (Flow.rn (grOf p) now exc (n + 1)).by_)]) := by
  have hle : exc.length = lastN p + 1 := hg.le
  have hln : now.length = p.ps.length := hg.ln
  have hlast : lastN p ≤ 8 := by have := hp.r4; have := hp.c4; unfold lastN; omega
  obtain ⟨π, hπ⟩ := hg.pot
  refine eff_of_body (fn := Try.f91) [.cell 2 23, .cell 3 105] ⟨Try.func91, rfl, by kernel_rfl⟩ (by kernel_rfl) (by kernel_rfl) (by kernel_rfl) ?_ ?_ fun x hx hσ => ?_
  · simp [wil, C.wi, keysO]
  · simp [wil, C.wi, keysO, purel, C.isPure]
  repeat refine awp_seq ?_
  refine awp_reg1 (by rw [hx]; kernel_rfl) fun K hK => ?_
  simp (config := { maxSteps := 1000000 }) [ty23, ty105]
  refine hK _ ?_
  clear hK K
  first | show AWP _ _ _ _ _ | show ∃ _, _ | skip
  repeat refine awp_seq ?_
  refine awp_drw3 [1009, 1003, 2012, 10002] [0, 1, 2, 3, 4, 6, 7, 8, 9, 5, 12, 10, 11, 13] (by rw [hx]; kernel_rfl) (by kernel_rfl) (by kernel_rfl) (by kernel_rfl) fun K hK => ?_
  simp (config := { maxSteps := 1000000 }) [ty92, ty23, ty105, ty3, ty109]
  refine ⟨by omega, by omega, ?_⟩
  refine hK _ ?_
  clear hK K
  first | show AWP _ _ _ _ _ | show ∃ _, _ | skip
  repeat refine awp_seq ?_
  refine awp_reg1 (by rw [hx]; kernel_rfl) fun K hK => ?_
  simp (config := { maxSteps := 1000000 }) [ty92, ty23]
  refine hK _ ?_
  clear hK K
  first | show AWP _ _ _ _ _ | show ∃ _, _ | skip
  repeat refine awp_seq ?_
  refine awp_block ?_
  refine awp_loop (fun v : Nat => ⟨ofL [(0, .ptr 1000 5 0 0), (2, .ptr 2001 1 0 0), (3, .ptr 2002 1 0 0), (29, .own 1002 1 0 exc.length), (30, encI exc.length), (31, encI v)],
      stoT [(1000, 1000, .live (netOb p (.own 1001 1 0 now.length) (.own 1002 1 0 exc.length))), (1001, 1001, .live (listOb now)), (1002, 1002, .live (excOb exc)),
        (2001, 2001, .live (cellOb (.own 2003 1 0 exc.length))), (2002, 2002, .live (cellOb (.own 2004 3 0 exc.length))), (2003, 2003, .live (excOb (costA exc v))), (2004, 2004, .live (byOb (byA exc.length v)))]⟩)
    (fun v => v ≤ exc.length) (fun v => exc.length - v) 0 (by simp) ?_ ?_
  · refine wk_shape (T := [(1000, 1000, .live (netOb p (.own 1001 1 0 now.length) (.own 1002 1 0 exc.length))), (1001, 1001, .live (listOb now)), (1002, 1002, .live (excOb exc)),
        (2001, 2, .live (cellOb (.own 2003 1 0 exc.length))), (2002, 3, .live (cellOb (.own 2004 3 0 exc.length))), (2003, 19, .live (excOb (costA exc 0))), (2004, 25, .live (byOb (byA exc.length 0)))]) (shpX hσ (by simp [keysO, mT]) (by simp) (by simp) ?_) ?_
    · simp [SlotOk]
      refine ⟨rowsOk_net (by simp [mtc, mT]) (by simp [mtc, mT]) rfl rfl, .same (ints_pure _), .same (ints_pure _), rowsOk_cell (by simp [mtc, mT]) rfl, rowsOk_cell (by simp [mtc, mT]) rfl, rowsOk_of ?_ (ints_pure _), rowsOk_of ?_ (stps_pure _)⟩
      · simp [costA, cost0_len]
      · simp [byA]
    · simp [mtc, mtl, mT, C.isPure, purel]
  · intro v hv
    repeat refine awp_seq ?_
    refine awp_reg1 (by rw [hx]; kernel_rfl) fun K hK => ?_
    simp (config := { maxSteps := 1000000 }) [ty3]
    refine hK _ ?_
    clear hK K
    first | show AWP _ _ _ _ _ | show ∃ _, _ | skip
    repeat refine awp_seq ?_
    refine awp_cond (by simp; rfl) (by rw [hx]; simp) (fun hc => ?_) (fun hc => ?_)
    · simp at hc
      refine awp_skip ?_
      first | show AWP _ _ _ _ _ | show ∃ _, _ | skip
      repeat refine awp_seq ?_
      refine awp_block ?_
      have hcl : v < (costA exc v).length := by rw [costA_len hv]; exact hc
      have hbl : v < (byA exc.length v).length := by rw [byA_len hv]; exact hc
      repeat refine awp_seq ?_
      refine awp_reg1 (by rw [hx]; kernel_rfl) fun K hK => ?_
      simp (config := { maxSteps := 1000000 }) [ty23, ty3, hc]
      refine hK _ ?_
      clear hK K
      first | show AWP _ _ _ _ _ | show ∃ _, _ | skip
      have eb : ((byA exc.length v).map cStp).set v [.int .i64 0, .int .i64 0, .int .i64 (-1)] = (byA exc.length (v + 1)).map cStp := by rw [← byA_set hc]; simp
      have ec0 : v < (Flow.cost0 exc).length := by rw [cost0_len]; exact hc
      have eg : (Flow.cost0 exc)[v] = if exc[v] ≤ 0 then Flow.far else 0 := by simp [Flow.cost0]
      repeat refine awp_seq ?_
      refine awp_reg1 (by rw [hx]; kernel_rfl) fun K hK => ?_
      simp (config := { maxSteps := 1000000 }) [ty105, ty109, ty3, hc, byA_get hc, eb]
      refine hK _ ?_
      clear hK K
      first | show AWP _ _ _ _ _ | show ∃ _, _ | skip
      repeat refine awp_seq ?_
      refine awp_reg1 (by rw [hx]; kernel_rfl) fun K hK => ?_
      simp (config := { maxSteps := 1000000 }) [ty3]
      refine hK _ ?_
      clear hK K
      first | show AWP _ _ _ _ _ | show ∃ _, _ | skip
      repeat refine awp_seq ?_
      refine awp_cond (by simp; rfl) (by rw [hx]; simp) (fun h1 => ?_) (fun h1 => ?_)
      · simp at h1
        have ec : ((costA exc v).map cI).set v [.int .i64 1073741824] = (costA exc (v + 1)).map cI := by
          have := fill_set (Flow.cost0 exc) 0 v ec0
          rw [eg, if_pos h1] at this
          unfold costA
          rw [← this]; simp [Flow.far]
        repeat refine awp_seq ?_
        refine awp_reg1 (by rw [hx]; kernel_rfl) fun K hK => ?_
        simp (config := { maxSteps := 1000000 }) [ty23, ty3, hc, hcl, ec]
        refine hK _ ?_
        clear hK K
        first | show AWP _ _ _ _ _ | show ∃ _, _ | skip
        repeat refine awp_seq ?_
        refine awp_reg1 (by rw [hx]; kernel_rfl) fun K hK => ?_
        simp (config := { maxSteps := 1000000 }) [ty3]
        refine hK _ ?_
        clear hK K
        first | show AWP _ _ _ _ _ | show ∃ _, _ | skip
        refine ⟨v + 1, by omega, by omega, ?_⟩
        refine wk_shape (T := [(1000, 1000, .live (netOb p (.own 1001 1 0 now.length) (.own 1002 1 0 exc.length))), (1001, 1001, .live (listOb now)), (1002, 1002, .live (excOb exc)),
            (2001, 2001, .live (cellOb (.own 2003 1 0 exc.length))), (2002, 2002, .live (cellOb (.own 2004 3 0 exc.length))), (2003, 2003, .live (excOb (costA exc (v + 1)))), (2004, 2004, .live (byOb (byA exc.length (v + 1))))]) (shpX hσ (by simp [keysO, mT]) (by simp) (by simp) ?_) ?_
        · simp [SlotOk]
          exact ⟨rowsOk_net (by simp [mtc, mT]) (by simp [mtc, mT]) rfl rfl, .same (ints_pure _), .same (ints_pure _), rowsOk_cell (by simp [mtc, mT]) rfl, rowsOk_cell (by simp [mtc, mT]) rfl, .same (ints_pure _), .same (stps_pure _)⟩
        · simp [mtc, mtl, mT, C.isPure, purel]
          rw [wrap_id (by omega) (by omega)]
      · simp at h1
        refine awp_skip ?_
        first | show AWP _ _ _ _ _ | show ∃ _, _ | skip
        have ec : costA exc v = costA exc (v + 1) := fill_same (Flow.cost0 exc) 0 v ec0 (by rw [eg, if_neg (by omega)])
        repeat refine awp_seq ?_
        refine awp_reg1 (by rw [hx]; kernel_rfl) fun K hK => ?_
        simp (config := { maxSteps := 1000000 }) [ty3]
        refine hK _ ?_
        clear hK K
        first | show AWP _ _ _ _ _ | show ∃ _, _ | skip
        refine ⟨v + 1, by omega, by omega, ?_⟩
        rw [ec]
        refine wk_shape (T := [(1000, 1000, .live (netOb p (.own 1001 1 0 now.length) (.own 1002 1 0 exc.length))), (1001, 1001, .live (listOb now)), (1002, 1002, .live (excOb exc)),
            (2001, 2001, .live (cellOb (.own 2003 1 0 exc.length))), (2002, 2002, .live (cellOb (.own 2004 3 0 exc.length))), (2003, 2003, .live (excOb (costA exc (v + 1)))), (2004, 2004, .live (byOb (byA exc.length (v + 1))))]) (shpX hσ (by simp [keysO, mT]) (by simp) (by simp) ?_) ?_
        · simp [SlotOk]
          exact ⟨rowsOk_net (by simp [mtc, mT]) (by simp [mtc, mT]) rfl rfl, .same (ints_pure _), .same (ints_pure _), rowsOk_cell (by simp [mtc, mT]) rfl, rowsOk_cell (by simp [mtc, mT]) rfl, .same (ints_pure _), .same (stps_pure _)⟩
        · simp [mtc, mtl, mT, C.isPure, purel]
          rw [wrap_id (by omega) (by omega)]
    · simp at hc
      repeat refine awp_seq ?_
      refine awp_exit ?_
      first | show AWP _ _ _ _ _ | show ∃ _, _ | skip
      have : v = exc.length := by omega
      subst this
      have eC : costA exc exc.length = Flow.cost0 exc := by
        unfold costA
        rw [List.take_of_length_le (by rw [cost0_len]; exact Nat.le_refl _), cost0_len]; simp
      have eB : byA exc.length exc.length = Flow.by0 exc.length := by simp [byA, Flow.by0]
      rw [eC, eB]
      repeat refine awp_seq ?_
      refine awp_reg1 (by rw [hx]; kernel_rfl) fun K hK => ?_
      simp (config := { maxSteps := 1000000 }) [ty4]
      refine hK _ ?_
      clear hK K
      first | show AWP _ _ _ _ _ | show ∃ _, _ | skip
      repeat refine awp_seq ?_
      refine awp_block ?_
      have BI := fun k => Flow.BI.rn (g := grOf p) (now := now) (exc := exc) (grOk hp) hle k
      have lenK : ∀ k, (Flow.rn (grOf p) now exc k).cost.length = exc.length ∧ (Flow.rn (grOf p) now exc k).by_.length = exc.length := fun k => by
        obtain ⟨t, T, hB⟩ := BI k
        exact ⟨by rw [hB.lc]; exact hle.symm, by rw [hB.lb]; exact hle.symm⟩
      refine awp_loop (fun k : Nat => ⟨ofL [(0, .ptr 1000 5 0 0), (2, .ptr 2001 1 0 0), (3, .ptr 2002 1 0 0), (6, .ptr 2005 1 0 0)], stoT (netT p now exc ++ wayT (Flow.rn (grOf p) now exc k) 2005)⟩)
        (fun k => k ≤ n + 1) (fun k => n + 1 - k) 0 (by simp) ?_ ?_
      · refine wk_shape (T := netT p now exc ++ wayT (Flow.rn (grOf p) now exc 0) 6) (shpX hσ (by simp [keysO, mT]) (by simp) (by simp) ?_) ?_
        · simp [SlotOk]
          refine ⟨rowsOk_net (by simp [mtc, mT]) (by simp [mtc, mT]) rfl rfl, .same (ints_pure _), .same (ints_pure _), rowsOk_cell (by simp [mtc, mT, (lenK 0).1]) rfl, rowsOk_cell (by simp [mtc, mT, (lenK 0).2]) rfl, .same (ints_pure _), .same (stps_pure _), .same rfl⟩
        · simp [mtc, mtl, mT, C.isPure, purel]
      · intro k hk
        repeat refine awp_seq ?_
        refine awp_reg1 (by rw [hx]; kernel_rfl) fun K hK => ?_
        simp (config := { maxSteps := 1000000 }) [ty4]
        refine hK _ ?_
        clear hK K
        first | show AWP _ _ _ _ _ | show ∃ _, _ | skip
        repeat refine awp_seq ?_
        refine awp_cond (by simp; rfl) (by rw [hx]; simp) (fun hc => ?_) (fun hc => ?_)
        · refine awp_skip ?_
          first | show AWP _ _ _ _ _ | show ∃ _, _ | skip
          have hkn : k ≤ n := by
            apply Classical.byContradiction
            intro hh
            have : k = n + 1 := by omega
            subst this
            rw [ch] at hc; simp at hc
          repeat refine awp_seq ?_
          refine awp_block ?_
          repeat refine awp_seq ?_
          refine awp_reg1 (by rw [hx]; kernel_rfl) fun K hK => ?_
          simp (config := { maxSteps := 1000000 }) [ty4]
          refine hK _ ?_
          clear hK K
          first | show AWP _ _ _ _ _ | show ∃ _, _ | skip
          repeat refine awp_seq ?_
          refine awp_reg1 (by rw [hx]; kernel_rfl) fun K hK => ?_
          simp (config := { maxSteps := 1000000 }) []
          refine hK _ ?_
          clear hK K
          first | show AWP _ _ _ _ _ | show ∃ _, _ | skip
          repeat refine awp_seq ?_
          refine awp_reg1 (by rw [hx]; kernel_rfl) fun K hK => ?_
          simp (config := { maxSteps := 1000000 }) [ty92, ty25, ty22]
          refine hK _ ?_
          clear hK K
          first | show AWP _ _ _ _ _ | show ∃ _, _ | skip
          repeat refine awp_seq ?_
          refine awp_block ?_
          refine awp_loop (fun i : Nat => ⟨ofL [(0, .ptr 1000 5 0 0), (2, .ptr 2001 1 0 0), (3, .ptr 2002 1 0 0), (6, .ptr 2005 1 0 0), (7, .fn (.func 94) [] [.ptr 2001 1 0 0, .ptr 2002 1 0 0, .ptr 2005 1 0 0]), (52, .sl p.pn false (p.ps.map cP)), (53, encI p.ps.length), (54, encI i)],
              stoT (netT p now exc ++ wayT (Flow.rnd (grOf p) now i { Flow.rn (grOf p) now exc k with ch := false }) 2005)⟩)
            (fun i => i ≤ p.ps.length) (fun i => p.ps.length - i) 0 (by simp) ?_ ?_
          · refine wk_shape (T := netT p now exc ++ wayT (Flow.rnd (grOf p) now 0 { Flow.rn (grOf p) now exc k with ch := false }) 2005) (shpX hσ (by simp [keysO, mT]) (by simp) (by simp) ?_) ?_
            · simp [SlotOk, Flow.rnd]
              exact ⟨rowsOk_net (by simp [mtc, mT]) (by simp [mtc, mT]) rfl rfl, .same (ints_pure _), .same (ints_pure _), rowsOk_cell (by simp [mtc, mT]) rfl, rowsOk_cell (by simp [mtc, mT]) rfl, .same (ints_pure _), .same (stps_pure _), .same rfl⟩
            · simp [mtc, mtl, mT, C.isPure, purel]
          · intro i hi
            repeat refine awp_seq ?_
            refine awp_reg1 (by rw [hx]; kernel_rfl) fun K hK => ?_
            simp (config := { maxSteps := 1000000 }) [ty3]
            refine hK _ ?_
            clear hK K
            first | show AWP _ _ _ _ _ | show ∃ _, _ | skip
            repeat refine awp_seq ?_
            refine awp_cond (by simp; rfl) (by rw [hx]; simp) (fun h2 => ?_) (fun h2 => ?_)
            · simp at h2
              refine awp_skip ?_
              first | show AWP _ _ _ _ _ | show ∃ _, _ | skip
              obtain ⟨s, hs⟩ : ∃ s, s = Flow.rnd (grOf p) now i { Flow.rn (grOf p) now exc k with ch := false } := ⟨_, rfl⟩
              rw [← hs]
              obtain ⟨t0, T0, hB0⟩ := BI k
              obtain ⟨t1, T1, hB1⟩ := (hB0.ch false).rnd (grOk hp) i hi
              rw [← hs] at hB1
              have hcl : s.cost.length = lastN p + 1 := hB1.lc
              have hbl : s.by_.length = lastN p + 1 := hB1.lb
              have hbd := way_bd (grN hp) hB1 hπ
              have hq := hp.ps _ (List.getElem_mem h2)
              have hqo := hq
              unfold PcW at hqo
              have hfit : PcRC p p.ps[i] := hp.fit (List.getElem_mem h2)
              have egd : pcA p i = p.ps[i] := by simp [pcA, h2]
              have hfr := (grOk hp).fr i h2
              have hto := (grOk hp).to i h2
              have efr : (grOf p).fr i = fromN p p.ps[i] := by show fromN p (pcA p i) = _; rw [egd]
              have eto : (grOf p).to i = toN p p.ps[i] := by show toN p (pcA p i) = _; rw [egd]
              have h8 := hp.n8
              have hr4 := hp.r4
              have hc4 := hp.c4
              repeat refine awp_seq ?_
              refine awp_block ?_
              repeat refine awp_seq ?_
              refine awp_reg1 (by rw [hx]; kernel_rfl) fun K hK => ?_
              simp (config := { maxSteps := 1000000 }) [ty22, ty45, h2]
              refine hK _ ?_
              clear hK K
              first | show AWP _ _ _ _ _ | show ∃ _, _ | skip
              repeat refine awp_seq ?_
              refine awp_reg1 (by rw [hx]; kernel_rfl) fun K hK => ?_
              simp (config := { maxSteps := 1000000 }) [ty45]
              refine callL (nodes90 p (.sl now.isEmpty false (now.map cI)) (.sl false false (exc.map cI)) p.ps[i] (by omega) (by omega) hfit) ?_ (.inr rfl) ?_
              · simp only [viewL, mapO]
                rw [viewC_net (p := p) (k1 := 1001) (k2 := 1002) (n1 := now.length) (n2 := exc.length) (o1 := listOb now) (o2 := excOb exc) (by simp) (by simp) (by simp) rfl rfl (by simp) (by simp) (ints_pure _) (ints_pure _),
                  viewC_self (by simp [C.isPure, purel])]
                simp
              simp
              refine hK _ ?_
              clear hK K
              first | show AWP _ _ _ _ _ | show ∃ _, _ | skip
              repeat refine awp_seq ?_
              refine awp_reg1 (by rw [hx]; kernel_rfl) fun K hK => ?_
              simp (config := { maxSteps := 1000000 }) [ty3]
              refine hK _ ?_
              clear hK K
              first | show AWP _ _ _ _ _ | show ∃ _, _ | skip
              have hnl : i < now.length := by omega
              have hne : now ≠ [] := by intro e; rw [e] at hnl; simp at hnl
              have egn : Flow.gi now i = now[i] := by simp [Flow.gi, hnl]
              have hnb := hg.bd i h2
              have elo : (grOf p).lo i = lowI p.ps[i] := by show lowI (pcA p i) = _; rw [egd]
              have ehi : (grOf p).hi i = highI p.ps[i] := by show highI (pcA p i) = _; rw [egd]
              have ear : (grOf p).ar i = p.ps[i].area := by show (pcA p i).area = _; rw [egd]
              rw [elo, ehi, egn] at hnb
              have hlow : 0 ≤ lowI p.ps[i] := by unfold lowI; omega
              have hhigh : highI p.ps[i] ≤ 1098 := by unfold highI; omega
              have w20 : IntKind.i64.wrap (now[i] + 1) = now[i] + 1 := wrap_id (by omega) (by omega)
              have w22 : IntKind.i64.wrap (now[i] - 1) = now[i] - 1 := wrap_id (by omega) (by omega)
              repeat refine awp_seq ?_
              refine awp_cond (by simp; rfl) (by rw [hx]; simp) (fun h3 => ?_) (fun h3 => ?_)
              · simp at h3
                have h3 : fromN p p.ps[i] = toN p p.ps[i] := by omega
                repeat refine awp_seq ?_
                refine awp_exit ?_
                first | show AWP _ _ _ _ _ | show ∃ _, _ | skip
                repeat refine awp_seq ?_
                refine awp_reg1 (by rw [hx]; kernel_rfl) fun K hK => ?_
                simp (config := { maxSteps := 1000000 }) [ty3]
                refine hK _ ?_
                clear hK K
                first | show AWP _ _ _ _ _ | show ∃ _, _ | skip
                refine ⟨i + 1, by omega, by omega, ?_⟩
                have eN : Flow.rnd (grOf p) now (i + 1) { Flow.rn (grOf p) now exc k with ch := false } = s := by
                  simp only [Flow.rnd]
                  rw [← hs]
                  unfold Flow.stp; rw [efr, eto, if_pos h3]
                rw [eN]
                refine wk_shape (T := netT p now exc ++ wayT s 2005) (shpX hσ (by simp [keysO, mT]) (by simp) (by simp) ?_) ?_
                · simp [SlotOk]
                  exact ⟨rowsOk_net (by simp [mtc, mT]) (by simp [mtc, mT]) rfl rfl, .same (ints_pure _), .same (ints_pure _), rowsOk_cell (by simp [mtc, mT]) rfl, rowsOk_cell (by simp [mtc, mT]) rfl, .same (ints_pure _), .same (stps_pure _), .same rfl⟩
                · simp [mtc, mtl, mT, C.isPure, purel]
                  rw [wrap_id (by omega) (by omega)]
              · simp at h3
                have h3 : ¬ fromN p p.ps[i] = toN p p.ps[i] := by omega
                have hneg : ¬ (grOf p).fr i = (grOf p).to i := by rw [efr, eto]; exact h3
                rw [efr] at hfr
                rw [eto] at hto
                have hfr' : fromN p p.ps[i] < lastN p + 1 := hfr
                have hto' : toN p p.ps[i] < lastN p + 1 := hto
                refine awp_skip ?_
                first | show AWP _ _ _ _ _ | show ∃ _, _ | skip
                repeat refine awp_seq ?_
                refine awp_drw3 [1005, 1008, 2010, 10012] [0, 1, 2, 3, 4, 5, 6, 7, 8, 9, 10, 11] (by rw [hx]; kernel_rfl) (by kernel_rfl) (by kernel_rfl) (by kernel_rfl) fun K hK => ?_
                simp (config := { maxSteps := 1000000 }) [ty45, ty92, ty23, ty3, ty41, hnl]
                refine callPD (ends_w p.ps[i] hq) (by first | (simp; done) | (simp [*]; done)) (by simp) ?_
                simp (config := { maxSteps := 1000000 }) [ty45, ty92, ty23, ty3, ty41, hnl, hne]
                refine hK _ ?_
                clear hK K
                first | show AWP _ _ _ _ _ | show ∃ _, _ | skip
                repeat refine awp_seq ?_
                refine awp_reg1 (by rw [hx]; kernel_rfl) fun K hK => ?_
                simp (config := { maxSteps := 1000000 }) [ty41, ty3]
                refine hK _ ?_
                clear hK K
                first | show AWP _ _ _ _ _ | show ∃ _, _ | skip
                repeat refine awp_seq ?_
                refine awp_cond (by simp; rfl) (by rw [hx]; simp) (fun h4 => ?_) (fun h4 => ?_)
                · simp at h4
                  repeat refine awp_seq ?_
                  refine awp_reg1 (by rw [hx]; kernel_rfl) fun K hK => ?_
                  simp (config := { maxSteps := 1000000 }) [ty109, ty3, ty45, w20]
                  refine callP (price_c now[i] (now[i] + 1) p.ps[i].area (by omega) (by omega) (by omega) (by omega) (by omega) (by omega)) (by first | (simp; done) | (simp [*]; done)) ?_
                  simp (config := { maxSteps := 1000000 }) [ty109]
                  refine doesL ((try94 s i 1 (fromN p p.ps[i]) (toN p p.ps[i]) _ (by omega) (by omega) (by omega) hbd (by omega)).does ?_ ?_) ?_
                  · simp [wayObs, keysO]
                  · simp [wayObs, keysO]
                  simp
                  refine hK _ ?_
                  clear hK K
                  first | show AWP _ _ _ _ _ | show ∃ _, _ | skip
                  have e1 : Flow.tryS s ⟨i, 1, fromN p p.ps[i]⟩ (fromN p p.ps[i]) (toN p p.ps[i]) (max (now[i] + 1 - p.ps[i].area) (p.ps[i].area - (now[i] + 1)) - max (now[i] - p.ps[i].area) (p.ps[i].area - now[i])) = Flow.stp1 (grOf p) now i s := by
                    unfold Flow.stp1
                    rw [efr, eto, ehi, egn, if_pos h4]
                    simp only [Flow.pr, Flow.prI, egn, ear]
                  rw [e1]
                  refine AWP.weak (t := ⟨ofL [(0, .ptr 1000 5 0 0), (2, .ptr 2001 1 0 0), (3, .ptr 2002 1 0 0), (6, .ptr 2005 1 0 0), (7, .fn (.func 94) [] [.ptr 2001 1 0 0, .ptr 2002 1 0 0, .ptr 2005 1 0 0]), (52, .sl p.pn false (p.ps.map cP)), (53, encI p.ps.length), (54, encI i),
                      (8, encI i), (9, .ptr 9 4 0 0), (10, encI (fromN p p.ps[i])), (11, encI (toN p p.ps[i])), (12, .ptr 12 2 0 0), (13, encI now[i])],
                      stoT (netT p now exc ++ wayT (Flow.stp1 (grOf p) now i s) 2005 ++ [(9, 9, .live (obPc p.ps[i])), (12, 12, .live (obEnds p.ps[i]))])⟩) ?_ ?_
                  rotate_left
                  · refine wk_shape (T := netT p now exc ++ wayT (Flow.stp1 (grOf p) now i s) 2005 ++ [(9, 9, .live (obPc p.ps[i])), (12, 12, .live (obEnds p.ps[i]))]) (shpX hσ (by simp [keysO, mT]) (by simp) (by simp) ?_) ?_
                    · simp [SlotOk]
                      exact ⟨rowsOk_net (by simp [mtc, mT]) (by simp [mtc, mT]) rfl rfl, .same (ints_pure _), .same (ints_pure _), rowsOk_cell (by simp [mtc, mT]) rfl, rowsOk_cell (by simp [mtc, mT]) rfl, .same (ints_pure _), .same (stps_pure _), .same rfl, .same (by simp [purel, C.isPure]), .same (by simp [purel, C.isPure])⟩
                    · simp [mtc, mtl, mT, C.isPure, purel]
                  obtain ⟨t2, T2, hB2⟩ := hB1.stp1 (grOk hp) h2 hneg
                  have hbd2 := way_bd (grN hp) hB2 hπ
                  have hcl2 : (Flow.stp1 (grOf p) now i s).cost.length = lastN p + 1 := hB2.lc
                  have hbl2 : (Flow.stp1 (grOf p) now i s).by_.length = lastN p + 1 := hB2.lb
                  repeat refine awp_seq ?_
                  refine awp_reg1 (by rw [hx]; kernel_rfl) fun K hK => ?_
                  simp (config := { maxSteps := 1000000 }) [ty41, ty3]
                  refine hK _ ?_
                  clear hK K
                  first | show AWP _ _ _ _ _ | show ∃ _, _ | skip
                  repeat refine awp_seq ?_
                  refine awp_cond (by simp; rfl) (by rw [hx]; simp) (fun h5 => ?_) (fun h5 => ?_)
                  · simp at h5
                    repeat refine awp_seq ?_
                    refine awp_reg1 (by rw [hx]; kernel_rfl) fun K hK => ?_
                    simp (config := { maxSteps := 1000000 }) [ty109, ty3, ty45, w22]
                    refine callP (price_c now[i] (now[i] - 1) p.ps[i].area (by omega) (by omega) (by omega) (by omega) (by omega) (by omega)) (by first | (simp; done) | (simp [*]; done)) ?_
                    simp (config := { maxSteps := 1000000 }) [ty109]
                    refine doesL ((try94 (Flow.stp1 (grOf p) now i s) i (-1) (toN p p.ps[i]) (fromN p p.ps[i]) _ (by omega) (by omega) (by omega) hbd2 (by omega)).does ?_ ?_) ?_
                    · simp [wayObs, keysO]
                    · simp [wayObs, keysO]
                    simp
                    refine hK _ ?_
                    clear hK K
                    first | show AWP _ _ _ _ _ | show ∃ _, _ | skip
                    repeat refine awp_seq ?_
                    refine awp_reg1 (by rw [hx]; kernel_rfl) fun K hK => ?_
                    simp (config := { maxSteps := 1000000 }) [ty3]
                    refine hK _ ?_
                    clear hK K
                    first | show AWP _ _ _ _ _ | show ∃ _, _ | skip
                    have e2 : Flow.tryS (Flow.stp1 (grOf p) now i s) ⟨i, -1, toN p p.ps[i]⟩ (toN p p.ps[i]) (fromN p p.ps[i]) (max (now[i] - 1 - p.ps[i].area) (p.ps[i].area - (now[i] - 1)) - max (now[i] - p.ps[i].area) (p.ps[i].area - now[i])) = Flow.stp2 (grOf p) now i (Flow.stp1 (grOf p) now i s) := by
                      unfold Flow.stp2
                      rw [efr, eto, elo, egn, if_pos h5]
                      simp only [Flow.pr, Flow.prI, egn, ear, Int.add_neg_eq_sub]
                    rw [e2]
                    refine ⟨i + 1, by omega, by omega, ?_⟩
                    have eN : Flow.rnd (grOf p) now (i + 1) { Flow.rn (grOf p) now exc k with ch := false } = (Flow.stp2 (grOf p) now i (Flow.stp1 (grOf p) now i s)) := by
                      simp only [Flow.rnd]
                      rw [← hs]
                      unfold Flow.stp; rw [if_neg hneg]
                    rw [eN]
                    refine wk_shape (T := netT p now exc ++ wayT (Flow.stp2 (grOf p) now i (Flow.stp1 (grOf p) now i s)) 2005) (shpX hσ (by simp [keysO, mT]) (by simp) (by simp) ?_) ?_
                    · simp [SlotOk]
                      exact ⟨rowsOk_net (by simp [mtc, mT]) (by simp [mtc, mT]) rfl rfl, .same (ints_pure _), .same (ints_pure _), rowsOk_cell (by simp [mtc, mT]) rfl, rowsOk_cell (by simp [mtc, mT]) rfl, .same (ints_pure _), .same (stps_pure _), .same rfl⟩
                    · simp [mtc, mtl, mT, C.isPure, purel]
                      rw [wrap_id (by omega) (by omega)]
                  · simp at h5
                    refine awp_skip ?_
                    first | show AWP _ _ _ _ _ | show ∃ _, _ | skip
                    repeat refine awp_seq ?_
                    refine awp_reg1 (by rw [hx]; kernel_rfl) fun K hK => ?_
                    simp (config := { maxSteps := 1000000 }) [ty3]
                    refine hK _ ?_
                    clear hK K
                    first | show AWP _ _ _ _ _ | show ∃ _, _ | skip
                    have e2 : Flow.stp1 (grOf p) now i s = Flow.stp2 (grOf p) now i (Flow.stp1 (grOf p) now i s) := by
                      unfold Flow.stp2
                      rw [elo, egn, if_neg (by omega)]
                    refine ⟨i + 1, by omega, by omega, ?_⟩
                    have eN : Flow.rnd (grOf p) now (i + 1) { Flow.rn (grOf p) now exc k with ch := false } = (Flow.stp1 (grOf p) now i s) := by
                      simp only [Flow.rnd]
                      rw [← hs]
                      unfold Flow.stp; rw [if_neg hneg, ← e2]
                    rw [eN]
                    refine wk_shape (T := netT p now exc ++ wayT (Flow.stp1 (grOf p) now i s) 2005) (shpX hσ (by simp [keysO, mT]) (by simp) (by simp) ?_) ?_
                    · simp [SlotOk]
                      exact ⟨rowsOk_net (by simp [mtc, mT]) (by simp [mtc, mT]) rfl rfl, .same (ints_pure _), .same (ints_pure _), rowsOk_cell (by simp [mtc, mT]) rfl, rowsOk_cell (by simp [mtc, mT]) rfl, .same (ints_pure _), .same (stps_pure _), .same rfl⟩
                    · simp [mtc, mtl, mT, C.isPure, purel]
                      rw [wrap_id (by omega) (by omega)]
                · simp at h4
                  refine awp_skip ?_
                  first | show AWP _ _ _ _ _ | show ∃ _, _ | skip
                  have e1 : s = Flow.stp1 (grOf p) now i s := by
                    unfold Flow.stp1
                    rw [ehi, egn, if_neg (by omega)]
                  refine AWP.weak (t := ⟨ofL [(0, .ptr 1000 5 0 0), (2, .ptr 2001 1 0 0), (3, .ptr 2002 1 0 0), (6, .ptr 2005 1 0 0), (7, .fn (.func 94) [] [.ptr 2001 1 0 0, .ptr 2002 1 0 0, .ptr 2005 1 0 0]), (52, .sl p.pn false (p.ps.map cP)), (53, encI p.ps.length), (54, encI i),
                      (8, encI i), (9, .ptr 9 4 0 0), (10, encI (fromN p p.ps[i])), (11, encI (toN p p.ps[i])), (12, .ptr 12 2 0 0), (13, encI now[i])],
                      stoT (netT p now exc ++ wayT s 2005 ++ [(9, 9, .live (obPc p.ps[i])), (12, 12, .live (obEnds p.ps[i]))])⟩) ?_ ?_
                  rotate_left
                  · refine wk_shape (T := netT p now exc ++ wayT s 2005 ++ [(9, 9, .live (obPc p.ps[i])), (12, 12, .live (obEnds p.ps[i]))]) (shpX hσ (by simp [keysO, mT]) (by simp) (by simp) ?_) ?_
                    · simp [SlotOk]
                      exact ⟨rowsOk_net (by simp [mtc, mT]) (by simp [mtc, mT]) rfl rfl, .same (ints_pure _), .same (ints_pure _), rowsOk_cell (by simp [mtc, mT]) rfl, rowsOk_cell (by simp [mtc, mT]) rfl, .same (ints_pure _), .same (stps_pure _), .same rfl, .same (by simp [purel, C.isPure]), .same (by simp [purel, C.isPure])⟩
                    · simp [mtc, mtl, mT, C.isPure, purel]
                  rw [e1]
                  obtain ⟨t2, T2, hB2⟩ := hB1.stp1 (grOk hp) h2 hneg
                  have hbd2 := way_bd (grN hp) hB2 hπ
                  have hcl2 : (Flow.stp1 (grOf p) now i s).cost.length = lastN p + 1 := hB2.lc
                  have hbl2 : (Flow.stp1 (grOf p) now i s).by_.length = lastN p + 1 := hB2.lb
                  repeat refine awp_seq ?_
                  refine awp_reg1 (by rw [hx]; kernel_rfl) fun K hK => ?_
                  simp (config := { maxSteps := 1000000 }) [ty41, ty3]
                  refine hK _ ?_
                  clear hK K
                  first | show AWP _ _ _ _ _ | show ∃ _, _ | skip
                  repeat refine awp_seq ?_
                  refine awp_cond (by simp; rfl) (by rw [hx]; simp) (fun h5 => ?_) (fun h5 => ?_)
                  · simp at h5
                    repeat refine awp_seq ?_
                    refine awp_reg1 (by rw [hx]; kernel_rfl) fun K hK => ?_
                    simp (config := { maxSteps := 1000000 }) [ty109, ty3, ty45, w22]
                    refine callP (price_c now[i] (now[i] - 1) p.ps[i].area (by omega) (by omega) (by omega) (by omega) (by omega) (by omega)) (by first | (simp; done) | (simp [*]; done)) ?_
                    simp (config := { maxSteps := 1000000 }) [ty109]
                    refine doesL ((try94 (Flow.stp1 (grOf p) now i s) i (-1) (toN p p.ps[i]) (fromN p p.ps[i]) _ (by omega) (by omega) (by omega) hbd2 (by omega)).does ?_ ?_) ?_
                    · simp [wayObs, keysO]
                    · simp [wayObs, keysO]
                    simp
                    refine hK _ ?_
                    clear hK K
                    first | show AWP _ _ _ _ _ | show ∃ _, _ | skip
                    repeat refine awp_seq ?_
                    refine awp_reg1 (by rw [hx]; kernel_rfl) fun K hK => ?_
                    simp (config := { maxSteps := 1000000 }) [ty3]
                    refine hK _ ?_
                    clear hK K
                    first | show AWP _ _ _ _ _ | show ∃ _, _ | skip
                    have e2 : Flow.tryS (Flow.stp1 (grOf p) now i s) ⟨i, -1, toN p p.ps[i]⟩ (toN p p.ps[i]) (fromN p p.ps[i]) (max (now[i] - 1 - p.ps[i].area) (p.ps[i].area - (now[i] - 1)) - max (now[i] - p.ps[i].area) (p.ps[i].area - now[i])) = Flow.stp2 (grOf p) now i (Flow.stp1 (grOf p) now i s) := by
                      unfold Flow.stp2
                      rw [efr, eto, elo, egn, if_pos h5]
                      simp only [Flow.pr, Flow.prI, egn, ear, Int.add_neg_eq_sub]
                    rw [e2]
                    refine ⟨i + 1, by omega, by omega, ?_⟩
                    have eN : Flow.rnd (grOf p) now (i + 1) { Flow.rn (grOf p) now exc k with ch := false } = (Flow.stp2 (grOf p) now i (Flow.stp1 (grOf p) now i s)) := by
                      simp only [Flow.rnd]
                      rw [← hs]
                      unfold Flow.stp; rw [if_neg hneg]
                    rw [eN]
                    refine wk_shape (T := netT p now exc ++ wayT (Flow.stp2 (grOf p) now i (Flow.stp1 (grOf p) now i s)) 2005) (shpX hσ (by simp [keysO, mT]) (by simp) (by simp) ?_) ?_
                    · simp [SlotOk]
                      exact ⟨rowsOk_net (by simp [mtc, mT]) (by simp [mtc, mT]) rfl rfl, .same (ints_pure _), .same (ints_pure _), rowsOk_cell (by simp [mtc, mT]) rfl, rowsOk_cell (by simp [mtc, mT]) rfl, .same (ints_pure _), .same (stps_pure _), .same rfl⟩
                    · simp [mtc, mtl, mT, C.isPure, purel]
                      rw [wrap_id (by omega) (by omega)]
                  · simp at h5
                    refine awp_skip ?_
                    first | show AWP _ _ _ _ _ | show ∃ _, _ | skip
                    repeat refine awp_seq ?_
                    refine awp_reg1 (by rw [hx]; kernel_rfl) fun K hK => ?_
                    simp (config := { maxSteps := 1000000 }) [ty3]
                    refine hK _ ?_
                    clear hK K
                    first | show AWP _ _ _ _ _ | show ∃ _, _ | skip
                    have e2 : Flow.stp1 (grOf p) now i s = Flow.stp2 (grOf p) now i (Flow.stp1 (grOf p) now i s) := by
                      unfold Flow.stp2
                      rw [elo, egn, if_neg (by omega)]
                    refine ⟨i + 1, by omega, by omega, ?_⟩
                    have eN : Flow.rnd (grOf p) now (i + 1) { Flow.rn (grOf p) now exc k with ch := false } = (Flow.stp1 (grOf p) now i s) := by
                      simp only [Flow.rnd]
                      rw [← hs]
                      unfold Flow.stp; rw [if_neg hneg, ← e2]
                    rw [eN]
                    refine wk_shape (T := netT p now exc ++ wayT (Flow.stp1 (grOf p) now i s) 2005) (shpX hσ (by simp [keysO, mT]) (by simp) (by simp) ?_) ?_
                    · simp [SlotOk]
                      exact ⟨rowsOk_net (by simp [mtc, mT]) (by simp [mtc, mT]) rfl rfl, .same (ints_pure _), .same (ints_pure _), rowsOk_cell (by simp [mtc, mT]) rfl, rowsOk_cell (by simp [mtc, mT]) rfl, .same (ints_pure _), .same (stps_pure _), .same rfl⟩
                    · simp [mtc, mtl, mT, C.isPure, purel]
                      rw [wrap_id (by omega) (by omega)]
            · simp at h2
              repeat refine awp_seq ?_
              refine awp_exit ?_
              first | show AWP _ _ _ _ _ | show ∃ _, _ | skip
              have : i = p.ps.length := by omega
              subst this
              have eN : Flow.rnd (grOf p) now p.ps.length { Flow.rn (grOf p) now exc k with ch := false } = Flow.rn (grOf p) now exc (k + 1) := rfl
              rw [eN]
              repeat refine awp_seq ?_
              refine awp_reg1 (by rw [hx]; kernel_rfl) fun K hK => ?_
              simp (config := { maxSteps := 1000000 }) [ty4]
              refine hK _ ?_
              clear hK K
              first | show AWP _ _ _ _ _ | show ∃ _, _ | skip
              repeat refine awp_seq ?_
              refine awp_reg1 (by rw [hx]; kernel_rfl) fun K hK => ?_
              simp (config := { maxSteps := 1000000 }) [ty4]
              refine hK _ ?_
              clear hK K
              first | show AWP _ _ _ _ _ | show ∃ _, _ | skip
              refine ⟨k + 1, by omega, by omega, ?_⟩
              refine wk_shape (T := netT p now exc ++ wayT (Flow.rn (grOf p) now exc (k + 1)) 6) (shpX hσ (by simp [keysO, mT]) (by simp) (by simp) ?_) ?_
              · simp [SlotOk]
                exact ⟨rowsOk_net (by simp [mtc, mT]) (by simp [mtc, mT]) rfl rfl, .same (ints_pure _), .same (ints_pure _), rowsOk_cell (by simp [mtc, mT]) rfl, rowsOk_cell (by simp [mtc, mT]) rfl, .same (ints_pure _), .same (stps_pure _), .same rfl⟩
              · simp [mtc, mtl, mT, C.isPure, purel]
        · repeat refine awp_seq ?_
          refine awp_exit ?_
          first | show AWP _ _ _ _ _ | show ∃ _, _ | skip
          have hkn : k = n + 1 := by
            apply Classical.byContradiction
            intro hh
            rw [chs k (by omega)] at hc; simp at hc
          subst hkn
          repeat refine awp_seq ?_
          refine awp_drw3 [1001, 2002, 12001] [0, 1, 2, 3] (by rw [hx]; kernel_rfl) (by kernel_rfl) (by kernel_rfl) (by kernel_rfl) fun K hK => ?_
          simp (config := { maxSteps := 1000000 }) [ty23, ty105]
          refine hK _ ?_
          clear hK K
          first | show AWP _ _ _ _ _ | show ∃ _, _ | skip
          repeat refine awp_seq ?_
          refine awp_ret ?_
          refine And.intro (Or.inr rfl) ?_
          refine ⟨_, netT p now exc ++ [(2003, 2003, .live (excOb (Flow.rn (grOf p) now exc (n + 1)).cost)), (2004, 2004, .live (byOb (Flow.rn (grOf p) now exc (n + 1)).by_))], by simp [retC, resC, ty23, ty105]; rfl, shpX hσ (by simp [keysO, mT]) (by simp) (by simp) ?_, ?_, rfl⟩
          · simp [SlotOk]
            exact ⟨rowsOk_net (by simp [mtc, mT]) (by simp [mtc, mT]) rfl rfl, .same (ints_pure _), .same (ints_pure _), .same (ints_pure _), .same (stps_pure _)⟩
          · simp [mtc, mtl, mT, (lenK (n + 1)).1, (lenK (n + 1)).2, hle]

end Go.Proofs.Ytgcmjidphcafnaa

namespace Go.Proofs.Ytgcmjidphcafnaa
open Go Go.Abs

set_option maxHeartbeats 2000000

attribute [simp] Flow.nowN_len


theorem bestN_bd (exc cost : List Int) (v : Nat) : -1 ≤ Flow.bestN exc cost v ∧ Flow.bestN exc cost v < v + 1 := by
  rcases Flow.bestN_cases exc cost v with ⟨h, _⟩ | ⟨b, h, h2, _⟩
  · rw [h]; omega
  · rw [h]; omega


/-- What a push does: cases of what is best. -/
theorem push76 (p : Plat) (hp : PlatW p) (now exc : List Int) (hg : Flow.Good (grOf p) (sup0 p) now exc) (n : Nat) (ch : (Flow.rn (grOf p) now exc (n + 1)).ch = false) (chs : ∀ j, j ≤ n → (Flow.rn (grOf p) now exc j).ch = true)
    (r : Bool) (now' exc' : List Int)
    (hr : (Flow.bestN exc (Flow.rn (grOf p) now exc (n + 1)).cost (grOf p).N = -1 ∧ r = false ∧ now' = now ∧ exc' = exc) ∨
      (∃ b k : Nat, Flow.bestN exc (Flow.rn (grOf p) now exc (n + 1)).cost (grOf p).N = b ∧ Flow.Way (grOf p) now (Flow.rn (grOf p) now exc (n + 1)) b k ∧ r = true ∧ now' = Flow.nowN (Flow.rn (grOf p) now exc (n + 1)).by_ now b k ∧
        exc' = Flow.addA (Flow.addA exc b 1) (Flow.backN (Flow.rn (grOf p) now exc (n + 1)).by_ b k) (-1))) (hbd : ∀ v, v < exc.length → -100000 ≤ Flow.gi exc v ∧ Flow.gi exc v ≤ 100000) :
    Eff Try.prog 76 (netObs p now exc) [.ptr 1000 5 0 0] (.bool r) (netObs p now' exc') := by
  have hle : exc.length = lastN p + 1 := hg.le
  have hln : now.length = p.ps.length := hg.ln
  have hlast : lastN p ≤ 8 := by have := hp.r4; have := hp.c4; unfold lastN; omega
  have hways := ways91 p hp now exc hg n ch chs
  obtain ⟨s, hs⟩ : ∃ s, s = Flow.rn (grOf p) now exc (n + 1) := ⟨_, rfl⟩
  rw [← hs] at hr hways
  obtain ⟨t, T, hB⟩ := Flow.BI.rn (g := grOf p) (now := now) (exc := exc) (grOk hp) hle (n + 1)
  rw [← hs] at hB
  have hcl : s.cost.length = lastN p + 1 := hB.lc
  have hbl : s.by_.length = lastN p + 1 := hB.lb
  have hN : (grOf p).N = lastN p + 1 := rfl
  refine eff_of_body (fn := Try.f76) [.tmp 2] ⟨Try.func76, rfl, by kernel_rfl⟩ (by kernel_rfl) (by kernel_rfl) (by kernel_rfl) ?_ ?_ fun x hx hσ => ?_
  · simp [wil, C.wi, keysO]
  · simp [wil, C.wi, keysO, purel, C.isPure]
  repeat refine awp_seq ?_
  refine awp_reg1 (by rw [hx]; kernel_rfl) fun K hK => ?_
  simp (config := { maxSteps := 1000000 }) []
  refine hK _ ?_
  clear hK K
  first | show AWP _ _ _ _ _ | show ∃ _, _ | skip
  repeat refine awp_seq ?_
  refine awp_reg1 (by rw [hx]; kernel_rfl) fun K hK => ?_
  simp (config := { maxSteps := 1000000 }) []
  refine doesL (hways.does ?_ ?_) ?_
  · simp [keysO]
  · simp [keysO]
  simp
  refine hK _ ?_
  clear hK K
  first | show AWP _ _ _ _ _ | show ∃ _, _ | skip
  repeat refine awp_seq ?_
  refine awp_reg1 (by rw [hx]; kernel_rfl) fun K hK => ?_
  simp (config := { maxSteps := 1000000 }) []
  refine hK _ ?_
  clear hK K
  first | show AWP _ _ _ _ _ | show ∃ _, _ | skip
  repeat refine awp_seq ?_
  refine awp_reg1 (by rw [hx]; kernel_rfl) fun K hK => ?_
  simp (config := { maxSteps := 1000000 }) [ty92, ty23]
  refine hK _ ?_
  clear hK K
  first | show AWP _ _ _ _ _ | show ∃ _, _ | skip
  repeat refine awp_seq ?_
  refine awp_block ?_
  refine awp_loop (fun v : Nat => ⟨ofL [(0, .ptr 1000 5 0 0), (3, .own 2003 1 0 (lastN p + 1)), (4, .own 2004 3 0 (lastN p + 1)), (5, encI (Flow.bestN exc s.cost v)), (17, .own 1002 1 0 exc.length), (18, encI exc.length), (19, encI v)],
      stoT (netT p now exc ++ [(2003, 2003, .live (excOb s.cost)), (2004, 2004, .live (byOb s.by_))])⟩)
    (fun v => v ≤ exc.length) (fun v => exc.length - v) 0 (by simp) ?_ ?_
  · refine wk_shape (T := netT p now exc ++ [(2003, 2003, .live (excOb s.cost)), (2004, 2004, .live (byOb s.by_))]) (shpX hσ (by simp [keysO, mT]) (by simp) (by simp) ?_) ?_
    · simp [SlotOk]
      exact ⟨rowsOk_net (by simp [mtc, mT]) (by simp [mtc, mT]) rfl rfl, .same (ints_pure _), .same (ints_pure _), .same (ints_pure _), .same (stps_pure _)⟩
    · simp [mtc, mtl, mT, C.isPure, purel, Flow.bestN]
  · intro v hv
    repeat refine awp_seq ?_
    refine awp_reg1 (by rw [hx]; kernel_rfl) fun K hK => ?_
    simp (config := { maxSteps := 1000000 }) [ty3]
    refine hK _ ?_
    clear hK K
    first | show AWP _ _ _ _ _ | show ∃ _, _ | skip
    repeat refine awp_seq ?_
    refine awp_cond (by simp; rfl) (by rw [hx]; simp) (fun hc => ?_) (fun hc => ?_)
    · simp at hc
      refine awp_skip ?_
      first | show AWP _ _ _ _ _ | show ∃ _, _ | skip
      repeat refine awp_seq ?_
      refine awp_block ?_
      have hcv : v < s.cost.length := by omega
      have hcv1 : v < lastN p + 1 := by omega
      have eg1 : Flow.gi exc v = exc[v] := by simp [Flow.gi, hc]
      have eg2 : Flow.gi s.cost v = s.cost[v] := by simp [Flow.gi, hcv]
      obtain ⟨hb1, hb2⟩ := bestN_bd exc s.cost v
      repeat refine awp_seq ?_
      refine awp_reg1 (by rw [hx]; kernel_rfl) fun K hK => ?_
      simp (config := { maxSteps := 1000000 }) [ty23, ty3, hc]
      refine hK _ ?_
      clear hK K
      first | show AWP _ _ _ _ _ | show ∃ _, _ | skip
      have eB : Flow.bestN exc s.cost (v + 1) = if exc[v] < 0 ∧ s.cost[v] < 1073741824 ∧ (Flow.bestN exc s.cost v < 0 ∨ s.cost[v] < Flow.gi s.cost (Flow.bestN exc s.cost v).toNat) then (v : Int) else Flow.bestN exc s.cost v := by
        simp only [Flow.bestN, eg1, eg2, Flow.far]
      by_cases h1 : exc[v] < 0
      · by_cases h2 : s.cost[v] < 1073741824
        · by_cases h3 : Flow.bestN exc s.cost v < 0
          · repeat refine awp_seq ?_
            refine awp_drw3 [] [0, 1, 2, 3, 4, 5, 6, 7, 8, 9, 10, 11, 12, 13, 14, 15, 16, 17, 18, 19, 20, 21, 22, 23] (by rw [hx]; kernel_rfl) (by kernel_rfl) (by kernel_rfl) (by kernel_rfl) fun K hK => ?_
            simp (config := { maxSteps := 1000000 }) [ty23, ty3, hcv, hcv1, h1, h2, h3]
            refine hK _ ?_
            clear hK K
            first | show AWP _ _ _ _ _ | show ∃ _, _ | skip
            repeat refine awp_seq ?_
            refine awp_cond (by simp; rfl) (by rw [hx]; simp) (fun h4 => ?_) (fun h4 => ?_)
            · repeat refine awp_seq ?_
              refine awp_reg1 (by rw [hx]; kernel_rfl) fun K hK => ?_
              simp (config := { maxSteps := 1000000 }) []
              refine hK _ ?_
              clear hK K
              first | show AWP _ _ _ _ _ | show ∃ _, _ | skip
              repeat refine awp_seq ?_
              refine awp_reg1 (by rw [hx]; kernel_rfl) fun K hK => ?_
              simp (config := { maxSteps := 1000000 }) [ty3]
              refine hK _ ?_
              clear hK K
              first | show AWP _ _ _ _ _ | show ∃ _, _ | skip
              refine ⟨v + 1, by omega, by omega, ?_⟩
              rw [eB, if_pos ⟨h1, h2, .inl h3⟩]
              refine wk_shape (T := netT p now exc ++ [(2003, 2003, .live (excOb s.cost)), (2004, 2004, .live (byOb s.by_))]) (shpX hσ (by simp [keysO, mT]) (by simp) (by simp) ?_) ?_
              · simp [SlotOk]
                exact ⟨rowsOk_net (by simp [mtc, mT]) (by simp [mtc, mT]) rfl rfl, .same (ints_pure _), .same (ints_pure _), .same (ints_pure _), .same (stps_pure _)⟩
              · simp [mtc, mtl, mT, C.isPure, purel]
                rw [wrap_id (by omega) (by omega)]
                try omega
            · simp at h4
          · obtain ⟨b, hb⟩ : ∃ b : Nat, Flow.bestN exc s.cost v = b := ⟨(Flow.bestN exc s.cost v).toNat, by omega⟩
            have hbv : b < s.cost.length := by omega
            have hbv1 : b < lastN p + 1 := by omega
            have h3' : ¬ ((b : Int) < 0) := by omega
            have eg3 : Flow.gi s.cost (Flow.bestN exc s.cost v).toNat = s.cost[b] := by rw [hb]; simp [Flow.gi, hbv]
            repeat refine awp_seq ?_
            refine awp_drw3 [] [0, 1, 2, 3, 4, 5, 6, 7, 8, 9, 10, 11, 12, 13, 14, 15, 16, 17, 18, 19, 20, 21, 22, 23] (by rw [hx]; kernel_rfl) (by kernel_rfl) (by kernel_rfl) (by kernel_rfl) fun K hK => ?_
            simp (config := { maxSteps := 1000000 }) [ty23, ty3, hcv, hcv1, h1, h2, hb, h3', hbv, hbv1]
            refine hK _ ?_
            clear hK K
            first | show AWP _ _ _ _ _ | show ∃ _, _ | skip
            repeat refine awp_seq ?_
            refine awp_cond (by simp; rfl) (by rw [hx]; simp) (fun h4 => ?_) (fun h4 => ?_)
            · simp at h4
              repeat refine awp_seq ?_
              refine awp_reg1 (by rw [hx]; kernel_rfl) fun K hK => ?_
              simp (config := { maxSteps := 1000000 }) []
              refine hK _ ?_
              clear hK K
              first | show AWP _ _ _ _ _ | show ∃ _, _ | skip
              repeat refine awp_seq ?_
              refine awp_reg1 (by rw [hx]; kernel_rfl) fun K hK => ?_
              simp (config := { maxSteps := 1000000 }) [ty3]
              refine hK _ ?_
              clear hK K
              first | show AWP _ _ _ _ _ | show ∃ _, _ | skip
              refine ⟨v + 1, by omega, by omega, ?_⟩
              rw [eB, if_pos ⟨h1, h2, .inr (by rw [eg3]; exact h4)⟩]
              refine wk_shape (T := netT p now exc ++ [(2003, 2003, .live (excOb s.cost)), (2004, 2004, .live (byOb s.by_))]) (shpX hσ (by simp [keysO, mT]) (by simp) (by simp) ?_) ?_
              · simp [SlotOk]
                exact ⟨rowsOk_net (by simp [mtc, mT]) (by simp [mtc, mT]) rfl rfl, .same (ints_pure _), .same (ints_pure _), .same (ints_pure _), .same (stps_pure _)⟩
              · simp [mtc, mtl, mT, C.isPure, purel]
                rw [wrap_id (by omega) (by omega)]
                try omega
            · simp at h4
              refine awp_skip ?_
              first | show AWP _ _ _ _ _ | show ∃ _, _ | skip
              repeat refine awp_seq ?_
              refine awp_reg1 (by rw [hx]; kernel_rfl) fun K hK => ?_
              simp (config := { maxSteps := 1000000 }) [ty3]
              refine hK _ ?_
              clear hK K
              first | show AWP _ _ _ _ _ | show ∃ _, _ | skip
              refine ⟨v + 1, by omega, by omega, ?_⟩
              rw [eB, if_neg (by rw [eg3]; omega)]
              refine wk_shape (T := netT p now exc ++ [(2003, 2003, .live (excOb s.cost)), (2004, 2004, .live (byOb s.by_))]) (shpX hσ (by simp [keysO, mT]) (by simp) (by simp) ?_) ?_
              · simp [SlotOk]
                exact ⟨rowsOk_net (by simp [mtc, mT]) (by simp [mtc, mT]) rfl rfl, .same (ints_pure _), .same (ints_pure _), .same (ints_pure _), .same (stps_pure _)⟩
              · simp [mtc, mtl, mT, C.isPure, purel]
                rw [wrap_id (by omega) (by omega)]
                try omega
        · repeat refine awp_seq ?_
          refine awp_drw3 [] [0, 1, 2, 3, 4, 5, 6, 7, 8, 9, 10, 11, 12, 13, 14, 15, 16, 17, 18, 19, 20, 21, 22, 23] (by rw [hx]; kernel_rfl) (by kernel_rfl) (by kernel_rfl) (by kernel_rfl) fun K hK => ?_
          simp (config := { maxSteps := 1000000 }) [ty23, ty3, hcv, hcv1, h1, h2]
          refine hK _ ?_
          clear hK K
          first | show AWP _ _ _ _ _ | show ∃ _, _ | skip
          repeat refine awp_seq ?_
          refine awp_cond (by simp; rfl) (by rw [hx]; simp) (fun h4 => ?_) (fun h4 => ?_)
          · simp at h4
          · refine awp_skip ?_
            first | show AWP _ _ _ _ _ | show ∃ _, _ | skip
            repeat refine awp_seq ?_
            refine awp_reg1 (by rw [hx]; kernel_rfl) fun K hK => ?_
            simp (config := { maxSteps := 1000000 }) [ty3]
            refine hK _ ?_
            clear hK K
            first | show AWP _ _ _ _ _ | show ∃ _, _ | skip
            refine ⟨v + 1, by omega, by omega, ?_⟩
            rw [eB, if_neg (by omega)]
            refine wk_shape (T := netT p now exc ++ [(2003, 2003, .live (excOb s.cost)), (2004, 2004, .live (byOb s.by_))]) (shpX hσ (by simp [keysO, mT]) (by simp) (by simp) ?_) ?_
            · simp [SlotOk]
              exact ⟨rowsOk_net (by simp [mtc, mT]) (by simp [mtc, mT]) rfl rfl, .same (ints_pure _), .same (ints_pure _), .same (ints_pure _), .same (stps_pure _)⟩
            · simp [mtc, mtl, mT, C.isPure, purel]
              rw [wrap_id (by omega) (by omega)]
              try omega
      · repeat refine awp_seq ?_
        refine awp_drw3 [] [0, 1, 2, 3, 4, 5, 6, 7, 8, 9, 10, 11, 12, 13, 14, 15, 16, 17, 18, 19, 20, 21, 22, 23] (by rw [hx]; kernel_rfl) (by kernel_rfl) (by kernel_rfl) (by kernel_rfl) fun K hK => ?_
        simp (config := { maxSteps := 1000000 }) [ty23, ty3, hcv, h1]
        refine hK _ ?_
        clear hK K
        first | show AWP _ _ _ _ _ | show ∃ _, _ | skip
        repeat refine awp_seq ?_
        refine awp_cond (by simp; rfl) (by rw [hx]; simp) (fun h4 => ?_) (fun h4 => ?_)
        · simp at h4
        · refine awp_skip ?_
          first | show AWP _ _ _ _ _ | show ∃ _, _ | skip
          repeat refine awp_seq ?_
          refine awp_reg1 (by rw [hx]; kernel_rfl) fun K hK => ?_
          simp (config := { maxSteps := 1000000 }) [ty3]
          refine hK _ ?_
          clear hK K
          first | show AWP _ _ _ _ _ | show ∃ _, _ | skip
          refine ⟨v + 1, by omega, by omega, ?_⟩
          rw [eB, if_neg (by omega)]
          refine wk_shape (T := netT p now exc ++ [(2003, 2003, .live (excOb s.cost)), (2004, 2004, .live (byOb s.by_))]) (shpX hσ (by simp [keysO, mT]) (by simp) (by simp) ?_) ?_
          · simp [SlotOk]
            exact ⟨rowsOk_net (by simp [mtc, mT]) (by simp [mtc, mT]) rfl rfl, .same (ints_pure _), .same (ints_pure _), .same (ints_pure _), .same (stps_pure _)⟩
          · simp [mtc, mtl, mT, C.isPure, purel]
            rw [wrap_id (by omega) (by omega)]
            try omega
    · simp at hc
      repeat refine awp_seq ?_
      refine awp_exit ?_
      first | show AWP _ _ _ _ _ | show ∃ _, _ | skip
      have : v = exc.length := by omega
      subst this
      rw [hN, ← hle] at hr
      rcases hr with ⟨r1, r2, r3, r4⟩ | ⟨b, k, r1, r2, r3, r4, r5⟩
      · rw [r2, r3, r4, r1]
        repeat refine awp_seq ?_
        refine awp_reg1 (by rw [hx]; kernel_rfl) fun K hK => ?_
        simp (config := { maxSteps := 1000000 }) [ty3]
        refine hK _ ?_
        clear hK K
        first | show AWP _ _ _ _ _ | show ∃ _, _ | skip
        repeat refine awp_seq ?_
        refine awp_cond (by simp; rfl) (by rw [hx]; simp) (fun h1 => ?_) (fun h1 => ?_)
        · repeat refine awp_seq ?_
          refine awp_reg1 (by rw [hx]; kernel_rfl) fun K hK => ?_
          simp (config := { maxSteps := 1000000 }) []
          refine hK _ ?_
          clear hK K
          first | show AWP _ _ _ _ _ | show ∃ _, _ | skip
          repeat refine awp_seq ?_
          refine awp_ret ?_
          refine And.intro (Or.inr rfl) ?_
          refine ⟨_, netT p now exc, by simp [retC, resC]; rfl, shpX hσ (by simp [keysO, mT]) (by simp) (by simp) ?_, by simp [mtc, C.isPure], rfl⟩
          simp [SlotOk]
          exact ⟨rowsOk_net (by simp [mtc, mT]) (by simp [mtc, mT]) rfl rfl, .same (ints_pure _), .same (ints_pure _)⟩
        · simp at h1
      · rw [r3, r4, r5, r1]
        have hbN : b < lastN p + 1 := (r2.nodes 0 (by omega)).1
        have hbe : b < exc.length := by omega
        have hb0 : ¬ ((b : Int) < 0) := by omega
        repeat refine awp_seq ?_
        refine awp_reg1 (by rw [hx]; kernel_rfl) fun K hK => ?_
        simp (config := { maxSteps := 1000000 }) [ty3, hb0]
        refine hK _ ?_
        clear hK K
        first | show AWP _ _ _ _ _ | show ∃ _, _ | skip
        repeat refine awp_seq ?_
        refine awp_cond (by simp; rfl) (by rw [hx]; simp) (fun h1 => ?_) (fun h1 => ?_)
        · simp at h1
        · refine awp_skip ?_
          first | show AWP _ _ _ _ _ | show ∃ _, _ | skip
          have hbb := hbd b hbe
          have egb : Flow.gi exc b = exc[b] := by simp [Flow.gi, hbe]
          rw [egb] at hbb
          have w11 : IntKind.i64.wrap (exc[b] + 1) = exc[b] + 1 := wrap_id (by omega) (by omega)
          obtain ⟨E, hE⟩ : ∃ E, E = Flow.addA exc b 1 := ⟨_, rfl⟩
          have hEl : E.length = exc.length := by rw [hE]; simp
          have eE : (exc.map cI).set b [.int .i64 (exc[b] + 1)] = E.map cI := by rw [hE]; simp [Flow.addA, Flow.gi, hbe]
          rw [← hE]
          repeat refine awp_seq ?_
          refine awp_reg1 (by rw [hx]; kernel_rfl) fun K hK => ?_
          simp (config := { maxSteps := 1000000 }) [ty92, ty23, ty3, hbe, w11, eE]
          refine hK _ ?_
          clear hK K
          first | show AWP _ _ _ _ _ | show ∃ _, _ | skip
          repeat refine awp_seq ?_
          refine awp_block ?_
          refine awp_loop (fun j : Nat => ⟨ofL [(0, .ptr 1000 5 0 0), (4, .own 2004 3 0 (lastN p + 1)), (5, encI (Flow.backN s.by_ b j))],
              stoT (netT p (Flow.nowN s.by_ now b j) E ++ [(2003, 2003, .live (excOb s.cost)), (2004, 2004, .live (byOb s.by_))])⟩)
            (fun j => j ≤ k) (fun j => k - j) 0 (by simp) ?_ ?_
          · refine wk_shape (T := netT p (Flow.nowN s.by_ now b 0) E ++ [(2003, 2003, .live (excOb s.cost)), (2004, 2004, .live (byOb s.by_))]) (shpX hσ (by simp [keysO, mT]) (by simp) (by simp) ?_) ?_
            · simp [SlotOk, Flow.nowN]
              exact ⟨rowsOk_net (by simp [mtc, mT]) (by simp [mtc, mT, hEl]) rfl rfl, .same (ints_pure _), .same (ints_pure _), .same (ints_pure _), .same (stps_pure _)⟩
            · simp [mtc, mtl, mT, C.isPure, purel, Flow.backN]
          · intro j hj
            obtain ⟨hv1, hv2⟩ := r2.nodes j hj
            have hv1' : Flow.backN s.by_ b j < lastN p + 1 := hv1
            have hvb : Flow.backN s.by_ b j < s.by_.length := by omega
            have egs : Flow.gs s.by_ (Flow.backN s.by_ b j) = s.by_[Flow.backN s.by_ b j] := by simp [Flow.gs, hvb]
            repeat refine awp_seq ?_
            refine awp_reg1 (by rw [hx]; kernel_rfl) fun K hK => ?_
            simp (config := { maxSteps := 1000000 }) [ty105, ty109, ty3, hv1', hvb]
            refine hK _ ?_
            clear hK K
            first | show AWP _ _ _ _ _ | show ∃ _, _ | skip
            repeat refine awp_seq ?_
            refine awp_cond (by simp; rfl) (by rw [hx]; simp) (fun h2 => ?_) (fun h2 => ?_)
            · simp at h2
              have hjk : j < k := by
                apply Classical.byContradiction
                intro hh
                have : j = k := by omega
                subst this
                have := r2.root
                rw [egs] at this
                exact h2 this
              obtain ⟨i, a1, a2, a3, _⟩ := r2.links j hjk
              rw [egs] at a1 a2 a3
              have hi : i < p.ps.length := a3.1
              have hin : i < (Flow.nowN s.by_ now b j).length := by simp; omega
              have hin' : i < now.length := by omega
              have hne : now ≠ [] := by intro e; rw [e] at hin'; simp at hin'
              refine awp_skip ?_
              first | show AWP _ _ _ _ _ | show ∃ _, _ | skip
              repeat refine awp_seq ?_
              refine awp_block ?_
              have hne' : Flow.nowN s.by_ now b j ≠ [] := by intro e; rw [e] at hin; simp at hin
              have hnb := hg.bd i hi
              have hpo := (pc_in hp i hi).1
              have elo : (grOf p).lo i = lowI (pcA p i) := rfl
              have ehi : (grOf p).hi i = highI (pcA p i) := rfl
              have hb0 : 0 ≤ lowI (pcA p i) ∧ highI (pcA p i) ≤ 1098 := by unfold PcW at hpo; unfold lowI highI; omega
              have hd : (s.by_[Flow.backN s.by_ b j]).by_ = 1 ∨ (s.by_[Flow.backN s.by_ b j]).by_ = -1 := by
                obtain ⟨_, _, c⟩ := a3
                rcases c with ⟨c, _⟩ | ⟨c, _⟩
                · exact .inl c
                · exact .inr c
              have hnj : -1 ≤ Flow.gi (Flow.nowN s.by_ now b j) i ∧ Flow.gi (Flow.nowN s.by_ now b j) i ≤ 1099 := by
                rcases r2.nowC hg.ln j (by omega) i hi with ⟨c, _⟩ | ⟨j', c1, c2, c3⟩
                · rw [c]; omega
                · obtain ⟨i', d1, d2, d3, _⟩ := r2.links j' (by omega)
                  obtain ⟨_, _, d⟩ := d3
                  rw [c3]
                  rcases d with ⟨d, _⟩ | ⟨d, _⟩ <;> rw [d] <;> omega
              have egn : Flow.gi (Flow.nowN s.by_ now b j) i = (Flow.nowN s.by_ now b j)[i] := by simp only [Flow.gi, List.getElem?_eq_getElem hin, Option.getD_some]
              rw [egn] at hnj
              have w14 : IntKind.i64.wrap ((Flow.nowN s.by_ now b j)[i] + (s.by_[Flow.backN s.by_ b j]).by_) = (Flow.nowN s.by_ now b j)[i] + (s.by_[Flow.backN s.by_ b j]).by_ := wrap_id (by omega) (by omega)
              have eN : ((Flow.nowN s.by_ now b j).map cI).set i [.int .i64 ((Flow.nowN s.by_ now b j)[i] + (s.by_[Flow.backN s.by_ b j]).by_)] = (Flow.nowN s.by_ now b (j + 1)).map cI := by
                simp only [Flow.nowN, egs, a1, Int.toNat_natCast, Flow.addA, egn]
                simp
              repeat refine awp_seq ?_
              refine awp_reg1 (by rw [hx]; kernel_rfl) fun K hK => ?_
              simp (config := { maxSteps := 1000000 }) [ty105, ty109, ty3, hv1', hvb]
              refine hK _ ?_
              clear hK K
              first | show AWP _ _ _ _ _ | show ∃ _, _ | skip
              repeat refine awp_seq ?_
              refine awp_drw3 [] [0, 1, 2, 3, 4, 5, 6, 7, 8, 9, 10, 11, 12] (by rw [hx]; kernel_rfl) (by kernel_rfl) (by kernel_rfl) (by kernel_rfl) fun K hK => ?_
              simp (config := { maxSteps := 1000000 }) [ty92, ty109, ty23, ty3, a1, hin', hin, hne', w14, eN]
              refine hK _ ?_
              clear hK K
              first | show AWP _ _ _ _ _ | show ∃ _, _ | skip
              repeat refine awp_seq ?_
              refine awp_reg1 (by rw [hx]; kernel_rfl) fun K hK => ?_
              simp (config := { maxSteps := 1000000 }) [ty109, ty3, a2]
              refine hK _ ?_
              clear hK K
              first | show AWP _ _ _ _ _ | show ∃ _, _ | skip
              refine ⟨j + 1, by omega, by omega, ?_⟩
              refine wk_shape (T := netT p (Flow.nowN s.by_ now b (j + 1)) E ++ [(2003, 2003, .live (excOb s.cost)), (2004, 2004, .live (byOb s.by_))]) (shpX hσ (by simp [keysO, mT]) (by simp) (by simp) ?_) ?_
              · have em : (Flow.nowN s.by_ now b (j + 1)).isEmpty = (Flow.nowN s.by_ now b j).isEmpty := by
                  rw [List.isEmpty_eq_false_iff.2 hne', List.isEmpty_eq_false_iff]
                  intro e
                  have := congrArg List.length e
                  simp at this
                  exact hne this
                simp [SlotOk]
                exact ⟨rowsOk_net (by simp [mtc, mT]) (by simp [mtc, mT]) rfl rfl, ⟨by simpa using em, .same (ints_pure _)⟩, .same (ints_pure _), .same (ints_pure _), .same (stps_pure _)⟩
              · simp [mtc, mtl, mT, C.isPure, purel]
            · simp at h2
              repeat refine awp_seq ?_
              refine awp_exit ?_
              first | show AWP _ _ _ _ _ | show ∃ _, _ | skip
              have hjk : j = k := by
                apply Classical.byContradiction
                intro hh
                obtain ⟨i, a1, a2, _⟩ := r2.links j (by omega)
                rw [egs] at a2
                rw [h2] at a2
                omega
              subst hjk
              have hrE : Flow.backN s.by_ b j < E.length := by omega
              have hre : Flow.backN s.by_ b j < exc.length := by omega
              have egr : Flow.gi E (Flow.backN s.by_ b j) = E[Flow.backN s.by_ b j] := by simp [Flow.gi, hrE]
              have hrb : -100000 ≤ Flow.gi E (Flow.backN s.by_ b j) ∧ Flow.gi E (Flow.backN s.by_ b j) ≤ 100001 := by
                rw [hE, Flow.gi_addA hbe]
                have := hbd _ hre
                split <;> omega
              rw [egr] at hrb
              have w16 : IntKind.i64.wrap (E[Flow.backN s.by_ b j] - 1) = E[Flow.backN s.by_ b j] - 1 := wrap_id (by omega) (by omega)
              have e16 : (E.map cI).set (Flow.backN s.by_ b j) [.int .i64 (E[Flow.backN s.by_ b j] - 1)] = (Flow.addA E (Flow.backN s.by_ b j) (-1)).map cI := by
                simp only [Flow.addA, egr, Int.add_neg_eq_sub]
                simp
              repeat refine awp_seq ?_
              refine awp_reg1 (by rw [hx]; kernel_rfl) fun K hK => ?_
              simp (config := { maxSteps := 1000000 }) [ty92, ty23, ty3, hrE, w16, e16]
              refine hK _ ?_
              clear hK K
              first | show AWP _ _ _ _ _ | show ∃ _, _ | skip
              repeat refine awp_seq ?_
              refine awp_reg1 (by rw [hx]; kernel_rfl) fun K hK => ?_
              simp (config := { maxSteps := 1000000 }) []
              refine hK _ ?_
              clear hK K
              first | show AWP _ _ _ _ _ | show ∃ _, _ | skip
              repeat refine awp_seq ?_
              refine awp_ret ?_
              refine And.intro (Or.inr rfl) ?_
              refine ⟨_, netT p (Flow.nowN s.by_ now b j) (Flow.addA E (Flow.backN s.by_ b j) (-1)), by simp [retC, resC]; rfl, shpX hσ (by simp [keysO, mT]) (by simp) (by simp) ?_, by simp [mtc, C.isPure], rfl⟩
              simp [SlotOk]
              exact ⟨rowsOk_net (by simp [mtc, mT]) (by simp [mtc, mT]) rfl rfl, .same (ints_pure _), .same (ints_pure _)⟩

end Go.Proofs.Ytgcmjidphcafnaa

namespace Go.Proofs.Ytgcmjidphcafnaa
open Go Go.Abs

set_option maxHeartbeats 2000000

theorem sup_bd {p : Plat} (hp : PlatW p) {v : Nat} (hv : v < lastN p) : -9999 ≤ sup0 p v ∧ sup0 p v ≤ 9999 := by
  rw [sup_in hp hv]
  split
  · rename_i h
    simp only [List.getElem?_eq_getElem h, Option.getD_some]
    have := hp.rows _ (List.getElem_mem h); omega
  · by_cases h : v - p.rows.length < p.cols.length
    · simp only [List.getElem?_eq_getElem h, Option.getD_some]
      have := hp.cols _ (List.getElem_mem h); omega
    · simp [List.getElem?_eq_none (Nat.le_of_not_lt h)]

theorem sumN_bd {f : Nat → Int} {b : Int} : ∀ {n : Nat}, (∀ i, i < n → -b ≤ f i ∧ f i ≤ b) → -(n * b) ≤ Flow.sumN f n ∧ Flow.sumN f n ≤ n * b
  | 0, _ => by simp [Flow.sumN]
  | n + 1, h => by
    have h1 := sumN_bd (n := n) fun i hi => h i (by omega)
    have h2 := h n (by omega)
    simp only [Flow.sumN]
    have : ((n + 1 : Nat) : Int) * b = n * b + b := by rw [Int.natCast_add, Int.add_mul]; simp
    omega

theorem good_bd {p : Plat} (hp : PlatW p) {now exc : List Int} (h : Flow.Good (grOf p) (sup0 p) now exc) (v : Nat) (hv : v < exc.length) : -100000 ≤ Flow.gi exc v ∧ Flow.gi exc v ≤ 100000 := by
  have hle : exc.length = lastN p + 1 := h.le
  have h8 := hp.n8
  have hlast : lastN p ≤ 8 := by have := hp.r4; have := hp.c4; unfold lastN; omega
  rw [h.ex v (by show v < lastN p + 1; omega)]
  have h1 : -(p.ps.length * 1098) ≤ Flow.bal (grOf p) now v ∧ Flow.bal (grOf p) now v ≤ p.ps.length * 1098 := by
    refine sumN_bd (n := p.ps.length) fun i hi => ?_
    have hb := h.bd i hi
    have hpo := (pc_in hp i hi).1
    have elo : (grOf p).lo i = lowI (pcA p i) := rfl
    have ehi : (grOf p).hi i = highI (pcA p i) := rfl
    have hb0 : 0 ≤ lowI (pcA p i) ∧ highI (pcA p i) ≤ 1098 := by unfold PcW at hpo; unfold lowI highI; omega
    unfold Flow.balF
    split <;> split <;> omega
  have h2 : -80000 ≤ sup0 p v ∧ sup0 p v ≤ 80000 := by
    by_cases hl : v < lastN p
    · have := sup_bd hp hl; omega
    · have e : v = lastN p := by omega
      subst e
      have t := sup_total hp
      have s := sumN_bd (f := sup0 p) (b := 9999) (n := lastN p) fun i hi => sup_bd hp hi
      simp only [Flow.sumN] at t
      omega
  omega

theorem ne75 (e : Int) : Pure Try.prog 75 ([encI e] ++ []) (.bool (e != 0)) := by
  refine pure_of (fn := Try.f75) [.tmp 2] ⟨Try.func75, rfl, by kernel_rfl⟩ (by kernel_rfl) (by kernel_rfl) (by kernel_rfl) fun x hx hσ => ?_
  repeat refine awp_seq ?_
  refine awp_reg1 (by rw [hx]; kernel_rfl) fun K hK => ?_
  simp (config := { maxSteps := 1000000 }) []
  refine hK _ ?_
  clear hK K
  first | show AWP _ _ _ _ _ | show ∃ _, _ | skip
  repeat refine awp_seq ?_
  refine awp_reg1 (by rw [hx]; kernel_rfl) fun K hK => ?_
  simp (config := { maxSteps := 1000000 }) [ty3]
  refine hK _ ?_
  clear hK K
  first | show AWP _ _ _ _ _ | show ∃ _, _ | skip
  repeat refine awp_seq ?_
  refine awp_ret ?_
  refine And.intro (Or.inr rfl) ?_
  simp [retC, resC, viewC, mapO]

def encSet51 (r : Option (List Int)) : C :=
  match r with
  | some l => .tup [.sl l.isEmpty false (l.map cI), .bool true]
  | none => .tup [.sl true true [], .bool false]


theorem any_ne {l : List Int} : (l.any fun e => e != 0) = true ↔ ∃ y, y < l.length ∧ Flow.gi l y ≠ 0 := by
  rw [List.any_eq_true]
  constructor
  · rintro ⟨a, ha, hne⟩
    obtain ⟨i, hi, rfl⟩ := List.getElem_of_mem ha
    refine ⟨i, hi, ?_⟩
    simp only [Flow.gi, List.getElem?_eq_getElem hi, Option.getD_some]
    simpa using hne
  · rintro ⟨y, hy, hne⟩
    simp only [Flow.gi, List.getElem?_eq_getElem hy, Option.getD_some] at hne
    exact ⟨l[y], List.getElem_mem hy, by simpa using hne⟩

theorem settle51 (p : Plat) (hp : PlatW p) (r : Option (List Int)) (hr : Flow.Run (grOf p) (areas p) (excD p (lastN p)) r) : Pure Try.prog 51 [encPlat p] (encSet51 r) := by
  refine pure_of (fn := Try.f51) [.tmp 2, .tmp 3] ⟨Try.func51, rfl, by kernel_rfl⟩ (by kernel_rfl) (by kernel_rfl) (by kernel_rfl) fun x hx hσ => ?_
  repeat refine awp_seq ?_
  refine awp_reg1 (by rw [hx]; kernel_rfl) fun K hK => ?_
  simp (config := { maxSteps := 1000000 }) [ty25]
  refine hK _ ?_
  clear hK K
  first | show AWP _ _ _ _ _ | show ∃ _, _ | skip
  repeat refine awp_seq ?_
  refine awp_reg1 (by rw [hx]; kernel_rfl) fun K hK => ?_
  simp (config := { maxSteps := 1000000 }) [ty25]
  refine doesL ((begin74 p hp).does ?_ ?_) ?_
  · simp [keysO]
  · simp [keysO]
  simp
  refine hK _ ?_
  clear hK K
  first | show AWP _ _ _ _ _ | show ∃ _, _ | skip
  repeat refine awp_seq ?_
  refine awp_block ?_
  refine awp_loop (fun st : List Int × List Int => ⟨ofL [(4, .ptr 1000 5 0 0)], stoT (netT p st.1 st.2)⟩)
    (fun st => Flow.Good (grOf p) (sup0 p) st.1 st.2 ∧ Flow.Run (grOf p) st.1 st.2 r) (fun st => (Flow.posS st.2 (grOf p).N).toNat) (areas p, excD p (lastN p)) ⟨good0 hp, hr⟩ ?_ ?_
  · refine wk_shape (T := netT p (areas p) (excD p (lastN p))) (shp0 hσ (by simp) (by simp) ?_) ?_
    · simp [SlotOk]
      exact ⟨rowsOk_net (by simp [mtc, mT]) (by simp [mtc, mT]) rfl rfl, .same (by simp [purel, C.isPure]), .same (ints_pure _)⟩
    · simp [mtc, mtl, mT, C.isPure, purel]
  · rintro ⟨now, exc⟩ ⟨hg, hrun⟩
    simp only at hg hrun
    have hle : exc.length = lastN p + 1 := hg.le
    have hlast : lastN p ≤ 8 := by have := hp.r4; have := hp.c4; unfold lastN; omega
    have hN : (grOf p).N = exc.length := hle.symm
    repeat refine awp_seq ?_
    refine awp_reg1 (by rw [hx]; kernel_rfl) fun K hK => ?_
    simp (config := { maxSteps := 1000000 }) [ty92, ty23]
    refine callL (contains64 false false exc 75 [] (fun e => e != 0) (fun a _ => ne75 a) rfl (by omega)) ?_ (.inr rfl) ?_
    · simp only [viewL, mapO]
      rw [viewC_own (o := excOb exc) (by simp) rfl (by simp) (ints_pure _)]
      simp
    simp
    refine hK _ ?_
    clear hK K
    first | show AWP _ _ _ _ _ | show ∃ _, _ | skip
    cases hrun with
    | done h =>
      have ha : (exc.any fun e => e != 0) = false := by
        apply Classical.byContradiction
        intro hc
        obtain ⟨y, hy, hne⟩ := any_ne.1 (by simpa using hc)
        exact hne (h y (by omega))
      rw [ha]
      repeat refine awp_seq ?_
      refine awp_cond (by simp; rfl) (by rw [hx]; simp) (fun hc => ?_) (fun hc => ?_)
      · simp at hc
      · repeat refine awp_seq ?_
        refine awp_exit ?_
        first | show AWP _ _ _ _ _ | show ∃ _, _ | skip
        repeat refine awp_seq ?_
        refine awp_reg1 (by rw [hx]; kernel_rfl) fun K hK => ?_
        simp (config := { maxSteps := 1000000 }) [ty92, ty23]
        refine hK _ ?_
        clear hK K
        first | show AWP _ _ _ _ _ | show ∃ _, _ | skip
        repeat refine awp_seq ?_
        refine awp_ret ?_
        refine And.intro (Or.inr rfl) ?_
        refine ⟨_, by simp [retC, resC]; rfl, ?_⟩
        unfold viewC
        rw [if_neg (by simp [C.isPure, purel])]
        simp only [mapO]
        rw [viewC_own (o := listOb now) (by simp) rfl (by simp) (ints_pure _), viewC_self rfl]
        simp [encSet51]
    | stuck hy hne ch chs best =>
      rename_i y n
      have ha : (exc.any fun e => e != 0) = true := any_ne.2 ⟨y, by omega, hne⟩
      rw [ha]
      repeat refine awp_seq ?_
      refine awp_cond (by simp; rfl) (by rw [hx]; simp) (fun hc => ?_) (fun hc => ?_)
      · refine awp_skip ?_
        first | show AWP _ _ _ _ _ | show ∃ _, _ | skip
        repeat refine awp_seq ?_
        refine awp_block ?_
        repeat refine awp_seq ?_
        refine awp_reg1 (by rw [hx]; kernel_rfl) fun K hK => ?_
        simp (config := { maxSteps := 1000000 }) [ty92, ty23]
        refine doesL ((push76 p hp now exc hg n ch chs false now exc (.inl ⟨best, rfl, rfl, rfl⟩) (good_bd hp hg)).does ?_ ?_) ?_
        · simp [keysO]
        · simp [keysO]
        simp
        refine hK _ ?_
        clear hK K
        first | show AWP _ _ _ _ _ | show ∃ _, _ | skip
        repeat refine awp_seq ?_
        refine awp_cond (by simp; rfl) (by rw [hx]; simp) (fun hd => ?_) (fun hd => ?_)
        · repeat refine awp_seq ?_
          refine awp_reg1 (by rw [hx]; kernel_rfl) fun K hK => ?_
          simp (config := { maxSteps := 1000000 }) []
          refine hK _ ?_
          clear hK K
          first | show AWP _ _ _ _ _ | show ∃ _, _ | skip
          repeat refine awp_seq ?_
          refine awp_ret ?_
          refine And.intro (Or.inr rfl) ?_
          refine ⟨_, by simp [retC, resC]; rfl, ?_⟩
          simp [encSet51]
        · simp at hd
      · simp at hc
    | step hy hne d h =>
      rename_i y n b k
      have ha : (exc.any fun e => e != 0) = true := any_ne.2 ⟨y, by omega, hne⟩
      rw [ha]
      obtain ⟨hgood, hless⟩ := d.good (grOk hp) (grN hp) hg
      have hnn := Flow.posS_nonneg (Flow.addA (Flow.addA exc b 1) (Flow.backN (Flow.rn (grOf p) now exc (n + 1)).by_ b k) (-1)) (grOf p).N
      repeat refine awp_seq ?_
      refine awp_cond (by simp; rfl) (by rw [hx]; simp) (fun hc => ?_) (fun hc => ?_)
      · refine awp_skip ?_
        first | show AWP _ _ _ _ _ | show ∃ _, _ | skip
        repeat refine awp_seq ?_
        refine awp_block ?_
        repeat refine awp_seq ?_
        refine awp_reg1 (by rw [hx]; kernel_rfl) fun K hK => ?_
        simp (config := { maxSteps := 1000000 }) [ty92, ty23]
        refine doesL ((push76 p hp now exc hg n d.ch d.chs true _ _ (.inr ⟨b, k, d.best, d.way, rfl, rfl, rfl⟩) (good_bd hp hg)).does ?_ ?_) ?_
        · simp [keysO]
        · simp [keysO]
        simp
        refine hK _ ?_
        clear hK K
        first | show AWP _ _ _ _ _ | show ∃ _, _ | skip
        repeat refine awp_seq ?_
        refine awp_cond (by simp; rfl) (by rw [hx]; simp) (fun hd => ?_) (fun hd => ?_)
        · simp at hd
        · refine awp_skip ?_
          first | show AWP _ _ _ _ _ | show ∃ _, _ | skip
          refine ⟨(Flow.nowN (Flow.rn (grOf p) now exc (n + 1)).by_ now b k, Flow.addA (Flow.addA exc b 1) (Flow.backN (Flow.rn (grOf p) now exc (n + 1)).by_ b k) (-1)), ⟨hgood, h⟩, by simp only; omega, ?_⟩
          refine wk_shape (T := netT p (Flow.nowN (Flow.rn (grOf p) now exc (n + 1)).by_ now b k) (Flow.addA (Flow.addA exc b 1) (Flow.backN (Flow.rn (grOf p) now exc (n + 1)).by_ b k) (-1))) (shp0 hσ (by simp) (by simp) ?_) ?_
          · simp [SlotOk]
            exact ⟨rowsOk_net (by simp [mtc, mT]) (by simp [mtc, mT]) rfl rfl, .same (ints_pure _), .same (ints_pure _)⟩
          · simp [mtc, mtl, mT, C.isPure, purel]
      · simp at hc

end Go.Proofs.Ytgcmjidphcafnaa

namespace Go.Proofs.Ytgcmjidphcafnaa
open Go Go.Abs

set_option maxHeartbeats 2000000

@[simp] abbrev pcsOb (em : Bool) (l : List Pc) : Ob := ⟨l.isEmpty, em, 4, l.map cP⟩

def fEven (n : Int) (_ : Nat) (q : Pc) : Pc := ⟨q.row, q.col, q.area, min q.off n⟩
def fFew (s : Nat) (i : Nat) (q : Pc) : Pc := ⟨q.row, q.col, q.area, if Nat.testBit s i then q.off else 0⟩
def fSpan (k n : Int) (i : Nat) (q : Pc) : Pc := if (i : Int) = k then ⟨q.row, q.col, n, 0⟩ else q

theorem isEmpty_setP (l : List Pc) (i : Nat) (a : Pc) : (l.set i a).isEmpty = l.isEmpty := by cases l <;> cases i <;> rfl


theorem cap85 (em : Bool) (l : List Pc) (i : Nat) (n : Int) (hi : i < l.length) :
    Eff Try.prog 85 [(3001, pcsOb em l)] ([encI i, .ptr 3001 4 i 0] ++ [.ip [encI n] 0]) (.tup []) [(3001, pcsOb em (l.set i (fEven n i l[i])))] := by
  have hne : l ≠ [] := by intro e; subst e; simp at hi
  have e1 : (if n < l[i].off then n else l[i].off) = min l[i].off n := by omega
  have ee : (l.map cP).set i [.int .i64 l[i].row, .int .i64 l[i].col, .int .i64 l[i].area, .int .i64 (min l[i].off n)] = (l.set i (fEven n i l[i])).map cP := by rw [List.map_set]; rfl
  refine eff_of_body (fn := Try.f85) [] ⟨Try.func85, rfl, by kernel_rfl⟩ (by kernel_rfl) (by kernel_rfl) (by kernel_rfl) ?_ ?_ fun x hx hσ => ?_
  · simp [wil, C.wi, keysO]
  · simp [wil, C.wi, keysO, purel, C.isPure]
  repeat refine awp_seq ?_
  refine awp_drw3 [] [0, 1, 2, 3, 4, 5, 6, 7, 8, 9] (by rw [hx]; kernel_rfl) (by kernel_rfl) (by kernel_rfl) (by kernel_rfl) fun K hK => ?_
  simp (config := { maxSteps := 1000000 }) [ty45, ty3, hi, hne, e1, ee]
  refine hK _ ?_
  clear hK K
  first | show AWP _ _ _ _ _ | show ∃ _, _ | skip
  refine ⟨.inl rfl, .tup [], [(3001, 3001, .live (pcsOb em (l.set i (fEven n i l[i]))))], by simp [retC, resC], shpX hσ (by simp [keysO, mT]) (by simp) (by simp) ?_, by simp [mtc, mtl, C.isPure], rfl⟩
  simp [SlotOk, hne, -List.map_set]
  exact ⟨isEmpty_setP _ _ _, rowsOk_of (by first | rfl | exact ee | (simp; done)) (pcs_pure _)⟩

theorem few_fact : ∀ s : Fin 256, ∀ i : Fin 8, IntKind.i64.wrap (IntKind.u64.wrap ((((s.val : Int).fdiv (2 ^ min i.val IntKind.u64.bits) % 2 ^ IntKind.u64.bits).toNat &&& 1 % 2 ^ IntKind.u64.bits : Nat) : Int)) = if Nat.testBit s.val i.val then 1 else 0 := by decide +kernel

theorem cap70 (em : Bool) (l : List Pc) (i s : Nat) (hi : i < l.length) (hi8 : i < 8) (hs : s < 256) (hq : 0 ≤ l[i].off ∧ l[i].off ≤ 999) :
    Eff Try.prog 70 [(3001, pcsOb em l)] ([encI i, .ptr 3001 4 i 0] ++ [.ip [.int .u64 s] 0]) (.tup []) [(3001, pcsOb em (l.set i (fFew s i l[i])))] := by
  have hne : l ≠ [] := by intro e; subst e; simp at hi
  have e1 := few_fact ⟨s, hs⟩ ⟨i, hi8⟩
  simp only at e1
  have hn : ¬ ((i : Int) < 0) := by omega
  refine eff_of_body (fn := Try.f70) [] ⟨Try.func70, rfl, by kernel_rfl⟩ (by kernel_rfl) (by kernel_rfl) (by kernel_rfl) ?_ ?_ fun x hx hσ => ?_
  · simp [wil, C.wi, keysO]
  · simp [wil, C.wi, keysO, purel, C.isPure]
  have e2 : IntKind.i64.wrap (l[i].off * if Nat.testBit s i = true then 1 else 0) = if Nat.testBit s i then l[i].off else 0 := by
    rw [wrap_id] <;> (split <;> omega)
  have ee : (l.map cP).set i [.int .i64 l[i].row, .int .i64 l[i].col, .int .i64 l[i].area, .int .i64 (if Nat.testBit s i then l[i].off else 0)] = (l.set i (fFew s i l[i])).map cP := by rw [List.map_set]; rfl
  repeat refine awp_seq ?_
  refine awp_drw3 [] [0, 1, 2, 3, 4, 5, 6, 7, 8, 9, 10, 11, 12] (by rw [hx]; kernel_rfl) (by kernel_rfl) (by kernel_rfl) (by kernel_rfl) fun K hK => ?_
  simp (config := { maxSteps := 1000000 }) [ty45, ty3, ty64, hi, hne, hn, e1, e2, ee]
  refine hK _ ?_
  clear hK K
  first | show AWP _ _ _ _ _ | show ∃ _, _ | skip
  refine ⟨.inl rfl, .tup [], [(3001, 3001, .live (pcsOb em (l.set i (fFew s i l[i]))))], by simp [retC, resC], shpX hσ (by simp [keysO, mT]) (by simp) (by simp) ?_, by simp [mtc, mtl, C.isPure], rfl⟩
  simp [SlotOk, hne, -List.map_set]
  exact ⟨isEmpty_setP _ _ _, rowsOk_of (by first | rfl | exact ee | (simp; done)) (pcs_pure _)⟩

theorem cap79 (em : Bool) (l : List Pc) (i : Nat) (k n : Int) (hi : i < l.length) :
    Eff Try.prog 79 [(3001, pcsOb em l)] ([encI i, .ptr 3001 4 i 0] ++ [.ip [encI k] 0, .ip [encI n] 0]) (.tup []) [(3001, pcsOb em (l.set i (fSpan k n i l[i])))] := by
  have hne : l ≠ [] := by intro e; subst e; simp at hi
  refine eff_of_body (fn := Try.f79) [] ⟨Try.func79, rfl, by kernel_rfl⟩ (by kernel_rfl) (by kernel_rfl) (by kernel_rfl) ?_ ?_ fun x hx hσ => ?_
  · simp [wil, C.wi, keysO]
  · simp [wil, C.wi, keysO, purel, C.isPure]
  repeat refine awp_seq ?_
  refine awp_reg1 (by rw [hx]; kernel_rfl) fun K hK => ?_
  simp (config := { maxSteps := 1000000 }) [ty3]
  refine hK _ ?_
  clear hK K
  first | show AWP _ _ _ _ _ | show ∃ _, _ | skip
  repeat refine awp_seq ?_
  refine awp_cond (by simp; rfl) (by rw [hx]; simp) (fun h1 => ?_) (fun h1 => ?_)
  · simp at h1
    have ee : (l.map cP).set i [.int .i64 l[i].row, .int .i64 l[i].col, .int .i64 n, .int .i64 0] = (l.set i (fSpan k n i l[i])).map cP := by rw [List.map_set, fSpan, if_pos h1]
    repeat refine awp_seq ?_
    refine awp_reg1 (by rw [hx]; kernel_rfl) fun K hK => ?_
    simp (config := { maxSteps := 1000000 }) [ty45, ty3, hi, hne, ee]
    refine hK _ ?_
    clear hK K
    first | show AWP _ _ _ _ _ | show ∃ _, _ | skip
    refine ⟨.inl rfl, .tup [], [(3001, 3001, .live (pcsOb em (l.set i (fSpan k n i l[i]))))], by simp [retC, resC], shpX hσ (by simp [keysO, mT]) (by simp) (by simp) ?_, by simp [mtc, mtl, C.isPure], rfl⟩
    simp [SlotOk, hne, -List.map_set]
    exact ⟨isEmpty_setP _ _ _, rowsOk_of (by first | rfl | exact ee | (simp; done)) (pcs_pure _)⟩
  · simp at h1
    refine awp_skip ?_
    first | show AWP _ _ _ _ _ | show ∃ _, _ | skip
    have ee : l.set i (fSpan k n i l[i]) = l := by rw [fSpan, if_neg h1]; simp
    rw [ee]
    refine ⟨.inl rfl, .tup [], [(3001, 3001, .live (pcsOb em l))], by simp [retC, resC], shpX hσ (by simp [keysO, mT]) (by simp) (by simp) ?_, by simp [mtc, mtl, C.isPure], rfl⟩
    simp [SlotOk, hne]
    exact .same (pcs_pure _)

end Go.Proofs.Ytgcmjidphcafnaa

namespace Go.Proofs.Ytgcmjidphcafnaa
open Go Go.Abs

set_option maxHeartbeats 2000000

/-- Parcels of which the first ones are changed. -/
def mapTo (f : Nat → Pc → Pc) (ps : List Pc) : Nat → List Pc
  | 0 => ps
  | i + 1 => (mapTo f ps i).set i (f i (ps[i]?.getD p0))

@[simp] theorem mapTo_len (f : Nat → Pc → Pc) (ps : List Pc) : ∀ i, (mapTo f ps i).length = ps.length
  | 0 => rfl
  | i + 1 => by simp [mapTo, mapTo_len f ps i]

theorem mapTo_get (f : Nat → Pc → Pc) (ps : List Pc) (j : Nat) (hj : j < ps.length) : ∀ i, (mapTo f ps i)[j]? = some (if j < i then f j (ps[j]?.getD p0) else ps[j]?.getD p0)
  | 0 => by simp [mapTo, hj]
  | i + 1 => by
    simp only [mapTo]
    by_cases e : i = j
    · subst e
      rw [List.getElem?_set_self (by simpa using hj), if_pos (by omega)]
    · rw [List.getElem?_set_ne e, mapTo_get f ps j hj i]
      by_cases h : j < i
      · rw [if_pos h, if_pos (by omega)]
      · rw [if_neg h, if_neg (by omega)]

@[simp] abbrev withP (p : Plat) (f : Nat → Pc → Pc) : Plat := { p with ps := mapTo f p.ps p.ps.length }

theorem with69 (p : Plat) (hpn : p.pn = true → p.ps = []) (hl : p.ps.length ≤ 1000) (g : FuncId) (caps : List C) (f : Nat → Pc → Pc) (hcp : purel caps = true)
    (hg : ∀ (em : Bool) (l : List Pc) (i : Nat), l.length = p.ps.length → ∀ hi : i < l.length, l[i] = p.ps[i]?.getD p0 → Eff Try.prog g [(3001, pcsOb em l)] ([encI i, .ptr 3001 4 i 0] ++ caps) (.tup []) [(3001, pcsOb em (l.set i (f i l[i])))]) :
    Pure Try.prog 69 [encPlat p, .fn (.func g) [] caps] (encPlat (withP p f)) := by
  refine pure_of (fn := Try.f69) [.cell 4 25] ⟨Try.func69, rfl, by kernel_rfl⟩ (by kernel_rfl) (by kernel_rfl) (by kernel_rfl) fun x hx hσ => ?_
  repeat refine awp_seq ?_
  refine awp_reg1 (by rw [hx]; kernel_rfl) fun K hK => ?_
  simp (config := { maxSteps := 1000000 }) [ty25]
  refine hK _ ?_
  clear hK K
  first | show AWP _ _ _ _ _ | show ∃ _, _ | skip
  repeat refine awp_seq ?_
  refine awp_reg1 (by rw [hx]; kernel_rfl) fun K hK => ?_
  simp (config := { maxSteps := 1000000 }) [ty25, ty22]
  refine freshL (clone88 p.pn false p.ps hl hpn) (by simp) (by simp) ?_
  simp [ty25, ty22]
  refine hK _ ?_
  clear hK K
  first | show AWP _ _ _ _ _ | show ∃ _, _ | skip
  repeat refine awp_seq ?_
  refine awp_reg1 (by rw [hx]; kernel_rfl) fun K hK => ?_
  simp (config := { maxSteps := 1000000 }) [ty25, ty22]
  refine hK _ ?_
  clear hK K
  first | show AWP _ _ _ _ _ | show ∃ _, _ | skip
  repeat refine awp_seq ?_
  refine awp_block ?_
  refine awp_loop (fun i : Nat => ⟨ofL [(1, .fn (.func g) [] caps), (2, .ptr 2 3 0 0), (4, .ptr 4 3 0 0), (12, encI p.ps.length), (13, encI i)],
      stoT [(2, 2, .live ⟨false, false, 3, [[.own 3001 4 0 p.ps.length, .sl p.rn false (p.rows.map cI), .sl p.cn false (p.cols.map cI)]]⟩), (4, 4, .live ⟨false, false, 3, [[.sl true true [], .sl true true [], .sl true true []]]⟩),
        (3001, 3001, .live (pcsOb (!p.pn) (mapTo f p.ps i)))]⟩)
    (fun i => i ≤ p.ps.length) (fun i => p.ps.length - i) 0 (by simp) ?_ ?_
  · refine wk_shape (T := [(2, 2, .live ⟨false, false, 3, [[.own 3001 4 0 p.ps.length, .sl p.rn false (p.rows.map cI), .sl p.cn false (p.cols.map cI)]]⟩), (4, 4, .live ⟨false, false, 3, [[.sl true true [], .sl true true [], .sl true true []]]⟩),
        (3001, 8, .live (pcsOb (!p.pn) (mapTo f p.ps 0)))]) (shp0 hσ (by simp) (by simp) ?_) ?_
    · simp [SlotOk, mapTo]
      refine ⟨.cons (by simp [mtl, mtc, mT, C.isPure]) rfl .nil, .same rfl, .same (pcs_pure _)⟩
    · simp [mtc, mtl, mT, C.isPure, purel, hcp]
      exact mtl_pure _ _ hcp
  · intro i hi
    repeat refine awp_seq ?_
    refine awp_reg1 (by rw [hx]; kernel_rfl) fun K hK => ?_
    simp (config := { maxSteps := 1000000 }) [ty3]
    refine hK _ ?_
    clear hK K
    first | show AWP _ _ _ _ _ | show ∃ _, _ | skip
    repeat refine awp_seq ?_
    refine awp_cond (by simp; rfl) (by rw [hx]; simp) (fun hc => ?_) (fun hc => ?_)
    · simp at hc
      refine awp_skip ?_
      first | show AWP _ _ _ _ _ | show ∃ _, _ | skip
      repeat refine awp_seq ?_
      refine awp_block ?_
      repeat refine awp_seq ?_
      refine awp_reg1 (by rw [hx]; kernel_rfl) fun K hK => ?_
      simp (config := { maxSteps := 1000000 }) []
      refine hK _ ?_
      clear hK K
      first | show AWP _ _ _ _ _ | show ∃ _, _ | skip
      have hlt : i < (mapTo f p.ps i).length := by simpa using hc
      have hget : (mapTo f p.ps i)[i] = p.ps[i]?.getD p0 := by
        have := mapTo_get f p.ps i hc i
        rw [List.getElem?_eq_getElem hlt] at this
        simpa using this
      have hgi := hg (!p.pn) (mapTo f p.ps i) i (by simp) hlt hget
      have enext : (mapTo f p.ps i).set i (f i (mapTo f p.ps i)[i]) = mapTo f p.ps (i + 1) := by rw [hget]; rfl
      rw [enext] at hgi
      repeat refine awp_seq ?_
      refine awp_reg1 (by rw [hx]; kernel_rfl) fun K hK => ?_
      simp (config := { maxSteps := 1000000 }) [ty25, ty22, ty3, ty45, hc]
      refine doesL (hgi.does ?_ ?_) ?_
      · simp [keysO]
      · simp [keysO]
      simp
      refine hK _ ?_
      clear hK K
      first | show AWP _ _ _ _ _ | show ∃ _, _ | skip
      repeat refine awp_seq ?_
      refine awp_reg1 (by rw [hx]; kernel_rfl) fun K hK => ?_
      simp (config := { maxSteps := 1000000 }) [ty3]
      refine hK _ ?_
      clear hK K
      first | show AWP _ _ _ _ _ | show ∃ _, _ | skip
      refine ⟨i + 1, by omega, by omega, ?_⟩
      refine wk_shape (T := [(2, 2, .live ⟨false, false, 3, [[.own 3001 4 0 p.ps.length, .sl p.rn false (p.rows.map cI), .sl p.cn false (p.cols.map cI)]]⟩), (4, 4, .live ⟨false, false, 3, [[.sl true true [], .sl true true [], .sl true true []]]⟩),
          (3001, 3001, .live (pcsOb (!p.pn) (mapTo f p.ps (i + 1))))]) (shp0 hσ (by simp) (by simp) ?_) ?_
      · simp [SlotOk]
        refine ⟨.cons (by simp [mtl, mtc, mT, C.isPure]) rfl .nil, .same rfl, .same (pcs_pure _)⟩
      · simp [mtc, mtl, mT, C.isPure, purel, hcp]
        rw [wrap_id (by omega) (by omega)]
        exact ⟨mtl_pure _ _ hcp, rfl⟩
    · simp at hc
      repeat refine awp_seq ?_
      refine awp_exit ?_
      first | show AWP _ _ _ _ _ | show ∃ _, _ | skip
      have : i = p.ps.length := by omega
      subst this
      have hb : (((mapTo f p.ps p.ps.length).isEmpty && !(!p.pn)) : Bool) = p.pn := by
        cases hpn' : p.pn
        · simp
        · have e := hpn hpn'
          have : (mapTo f p.ps p.ps.length) = [] := by apply List.eq_nil_of_length_eq_zero; simp [e]
          rw [this]; rfl
      refine AWP.weak ?_ (wk_frzCell 3001 2 0 0 (o := pcsOb (!p.pn) (mapTo f p.ps p.ps.length)) (oq := ⟨false, false, 3, [[.own 3001 4 0 p.ps.length, .sl p.rn false (p.rows.map cI), .sl p.cn false (p.cols.map cI)]]⟩) (row := [.own 3001 4 0 p.ps.length, .sl p.rn false (p.rows.map cI), .sl p.cn false (p.cols.map cI)]) (c := .own 3001 4 0 p.ps.length) (c' := .sl p.pn false ((mapTo f p.ps p.ps.length).map cP)) (by simp) (pcs_pure _) (by simp) (by omega) rfl rfl rfl (fz_own rfl (by simp) hb.symm) rfl)
      repeat refine awp_seq ?_
      refine awp_reg1 (by rw [hx]; kernel_rfl) fun K hK => ?_
      simp (config := { maxSteps := 1000000 }) [ty25]
      refine hK _ ?_
      clear hK K
      first | show AWP _ _ _ _ _ | show ∃ _, _ | skip
      repeat refine awp_seq ?_
      refine awp_ret ?_
      refine And.intro (Or.inr rfl) ?_
      refine ⟨_, by simp [retC, resC, ty25]; rfl, ?_⟩
      rw [viewC_self (by simp [C.isPure, purel])]

end Go.Proofs.Ytgcmjidphcafnaa

