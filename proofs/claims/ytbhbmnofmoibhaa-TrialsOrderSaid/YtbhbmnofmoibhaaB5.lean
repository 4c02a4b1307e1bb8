/- The machine of abstract values and the contracts of the functions of the program, which the statements of this seat share. No condition. -/
import Derived.Test.YtbhbmnofmoibhaaB4
import Derived.Test.YtbhbmnofmoibhaaRows
import Derived.WalkKit
import Derived.ProofKit
import Derived.OpenShut

set_option linter.unusedSimpArgs false
set_option linter.unusedVariables false
set_option linter.constructorNameAsVariable false

namespace Go.Proofs.Ytbhbmnofmoibhaa
open Go Go.Abs

set_option maxHeartbeats 2000000
set_option maxRecDepth 100000

-- what comes in

abbrev i64s (n : Nat) : List Sh := List.replicate n (.int .i64)

theorem rows_map {α : Type} {f : α → List C} : ∀ {rows : List (List C)}, (∀ row ∈ rows, ∃ a, row = f a) → ∃ l : List α, rows = l.map f
  | [], _ => ⟨[], rfl⟩
  | r :: rows, h => by
    obtain ⟨a, rfl⟩ := h r (by simp)
    obtain ⟨l, rfl⟩ := rows_map (rows := rows) fun x hx => h x (by simp [hx])
    exact ⟨a :: l, rfl⟩

theorem fit_app {l : List Sh} : ∀ {n : Nat} {m : List C}, FitL (i64s n ++ l) m → ∃ (zs : List Int) (r : List C), zs.length = n ∧ m = zs.map encI ++ r ∧ FitL l r
  | 0, m, h => ⟨[], m, rfl, rfl, by simpa using h⟩
  | n + 1, m, h => by
    simp only [i64s, List.replicate_succ, List.cons_append, FitL, Fit] at h
    obtain ⟨c, r, rfl, ⟨z, rfl, _⟩, h2⟩ := h
    obtain ⟨zs, r', h3, rfl, h4⟩ := fit_app h2
    exact ⟨z :: zs, r', by simp [h3], rfl, h4⟩

theorem fit_flat {n : Nat} {m : List C} (h : FitL (i64s n) m) : ∃ zs : List Int, zs.length = n ∧ m = zs.map encI := by
  have h' : FitL (i64s n ++ []) m := by simpa using h
  obtain ⟨zs, r, h1, h2, h3⟩ := fit_app h'
  simp only [FitL] at h3
  subst h3
  exact ⟨zs, h1, by simpa using h2⟩

theorem fit_sl {s l : List Sh} {m : List C} (h : FitL (.sl s :: l) m) : ∃ (nl : Bool) (rows r : List (List C)) (m' : List C), m = .sl nl false rows :: m' ∧ (∀ row ∈ rows, FitL s row) ∧ FitL l m' := by
  simp only [FitL, Fit] at h
  obtain ⟨c, r, rfl, ⟨nl, rows, rfl, _, _, h5⟩, h6⟩ := h
  exact ⟨nl, rows, [], r, rfl, h5, h6⟩

theorem arg_agg {t : TypeId} {s : List Sh} (hs : shT Try.prog 6 t = some s) (ha : isAggT Try.prog t = true) {cs : List C} {ts : List TypeId} (h : ArgsFit Try.prog (t :: ts) cs) : ∃ (m r : List C), cs = .agg m :: r ∧ FitL s m ∧ ArgsFit Try.prog ts r := by
  simp only [ArgsFit] at h
  obtain ⟨shs, m, c, r, rfl, h1, h2, h3, h4⟩ := h
  rw [hs] at h1
  cases h1
  rw [ha, if_pos rfl] at h3
  subst h3
  exact ⟨m, r, rfl, h2, h4⟩

theorem arg_one {t : TypeId} {s : List Sh} (hs : shT Try.prog 6 t = some s) (ha : isAggT Try.prog t = false) {cs : List C} {ts : List TypeId} (h : ArgsFit Try.prog (t :: ts) cs) : ∃ (c : C) (r : List C), cs = c :: r ∧ FitL s [c] ∧ ArgsFit Try.prog ts r := by
  simp only [ArgsFit] at h
  obtain ⟨shs, m, c, r, rfl, h1, h2, h3, h4⟩ := h
  rw [hs] at h1
  cases h1
  rw [ha] at h3
  simp only [Bool.false_eq_true, if_false] at h3
  subst h3
  exact ⟨c, r, rfl, h2, h4⟩

theorem sh28 : shT Try.prog 6 28 = some (i64s 9 ++ [.sl [.int .i64, .sl (i64s 5)]]) := by kernel_rfl
theorem ag28 : isAggT Try.prog 28 = true := by kernel_rfl
theorem sh3 : shT Try.prog 6 3 = some (i64s 1) := by kernel_rfl
theorem ag3 : isAggT Try.prog 3 = false := by kernel_rfl

theorem fit_walks {rows : List (List C)} (h : ∀ row ∈ rows, FitL (i64s 5) row) : ∃ l : List Wl, rows = l.map cWl := by
  refine rows_map fun row hr => ?_
  obtain ⟨zs, e1, rfl⟩ := fit_flat (h row hr)
  match zs, e1 with
  | [a, b, c, d, e], _ => exact ⟨⟨a, b, c, d, e⟩, rfl⟩

theorem fit_test {l : List Sh} {m : List C} (h : FitL (.int .i64 :: .sl (i64s 5) :: l) m) : ∃ (y : Ts) (m' : List C), m = cTs y ++ m' ∧ FitL l m' := by
  have h' : FitL (i64s 1 ++ (.sl (i64s 5) :: l)) m := h
  obtain ⟨zs, r, e1, rfl, h2⟩ := fit_app h'
  obtain ⟨nl, rows, _, m', rfl, h3, h4⟩ := fit_sl h2
  obtain ⟨wl, rfl⟩ := fit_walks h3
  match zs, e1 with
  | [a], _ => exact ⟨⟨a, nl, false, wl⟩, m', rfl, h4⟩

theorem arg28 {cs : List C} {ts : List TypeId} (h : ArgsFit Try.prog (28 :: ts) cs) : ∃ (t : Ti) (r : List C), cs = encTi t :: r ∧ ArgsFit Try.prog ts r := by
  obtain ⟨m, r, rfl, h1, h2⟩ := arg_agg sh28 ag28 h
  obtain ⟨zs, r', e1, rfl, h3⟩ := fit_app h1
  obtain ⟨nl, rows, _, m', rfl, h4, h5⟩ := fit_sl h3
  simp only [FitL] at h5
  subst h5
  obtain ⟨l, rfl⟩ := rows_map (f := cTs) (rows := rows) fun row hr => by
    obtain ⟨y, m', rfl, h6⟩ := fit_test (h4 row hr)
    simp only [FitL] at h6
    subst h6
    exact ⟨y, by simp⟩
  match zs, e1 with
  | [a, b, c, d, e, f, g, i, j], _ => exact ⟨⟨⟨a, b, c, d, e, f, g, i⟩, j, nl, false, l⟩, r, rfl, h2⟩

theorem arg3 {cs : List C} {ts : List TypeId} (h : ArgsFit Try.prog (3 :: ts) cs) : ∃ n r, cs = encI n :: r ∧ ArgsFit Try.prog ts r := by
  obtain ⟨c, r, rfl, h1, h2⟩ := arg_one sh3 ag3 h
  obtain ⟨zs, e1, e2⟩ := fit_flat h1
  match zs, e1 with
  | [a], _ => simp at e2; subst e2; exact ⟨a, r, rfl, h2⟩

theorem sh30 : shT Try.prog 6 30 = some (i64s 2) := by kernel_rfl
theorem ag30 : isAggT Try.prog 30 = true := by kernel_rfl
theorem arg30 {cs : List C} {ts : List TypeId} (h : ArgsFit Try.prog (30 :: ts) cs) : ∃ (c : Cl) (r : List C), cs = encCl c :: r ∧ ArgsFit Try.prog ts r := by
  obtain ⟨m, r, rfl, h1, h2⟩ := arg_agg sh30 ag30 h
  obtain ⟨zs, e1, rfl⟩ := fit_flat h1
  match zs, e1 with
  | [a, b], _ => exact ⟨⟨a, b⟩, r, rfl, h2⟩
theorem arg_end {cs : List C} (h : ArgsFit Try.prog [] cs) : cs = [] := h

end Go.Proofs.Ytbhbmnofmoibhaa

/- The facts of the program that every statement's join asks. No condition. -/
namespace Go.Proofs.Ytbhbmnofmoibhaa
open Go Go.Abs
open Go.ChangeShapes Go.WideShapes Go.ChangeAt Go.RowKit

theorem J.own : ownKnob Try.prog.godebug = none := by kernel_rfl
theorem J.laid : laidOutB Try.prog = true := by kernel_rfl
theorem J.maps : mapsRowed Try.prog = true := by kernel_rfl
theorem J.sized : noEmptyB Try.prog = true := by kernel_rfl
theorem J.ub : Try.prog.underlying 4 = some .bool := by kernel_rfl
end Go.Proofs.Ytbhbmnofmoibhaa

