/- The machine of abstract values and the contracts of the functions of the program, which the statements of this seat share. No condition. -/
import Derived.Test.YtbelmomdndjjkaaGreatB4
import Derived.ProofKit
import Derived.OpenShut
import Derived.ChangeStays
import Derived.Test.YtbelmomdndjjkaaGreatRows
import Derived.WalkKit

set_option linter.unusedSimpArgs false
set_option linter.unusedVariables false
set_option linter.constructorNameAsVariable false

namespace Go.Proofs.YtbelmomdndjjkaaGreat
open Go Go.Abs

set_option maxHeartbeats 8000000

theorem least_ex {p : Nat → Prop} (h : ∃ n, p n) : ∃ n, p n ∧ ∀ m, m < n → ¬ p m := by
 obtain ⟨n, hn⟩ := h
 induction n using Nat.strongRecOn with
 | ind n ih =>
  by_cases g : ∃ m, m < n ∧ p m
  ·obtain ⟨m, hm, hp⟩ := g
   exact ih m hm hp
  ·exact ⟨n, hn, fun m hm hp => g ⟨m, hm, hp⟩⟩

def mxTo (l : List Ts) : Nat → Int
 | 0 => 0
 | i + 1 => let m := mxTo l i; let n : Int := match l[i]? with | some y => y.l.length | none => 0; if m < n then n else m

theorem mxTo_step {l : List Ts} {i : Nat} (hi : i < l.length) : mxTo l (i + 1) = if mxTo l i < (l[i].l.length : Int) then (l[i].l.length : Int) else mxTo l i := by
 simp only [mxTo, List.getElem?_eq_getElem hi]
theorem mxTo_bd {l : List Ts} (h : ∀ j (hj : j < l.length), l[j].l.length ≤ 20) : ∀ i, 0 ≤ mxTo l i ∧ mxTo l i ≤ 20
 | 0 => by simp [mxTo]
 | i + 1 => by
  have ih := mxTo_bd h i
  by_cases hi : i < l.length
  ·have := h i hi
   rw [mxTo_step hi]
   split <;> omega
  ·simp only [mxTo, List.getElem?_eq_none (by omega : l.length ≤ i)]
   split <;> omega


/-- What is far enough. -/
def NearT (t : Ti) : Prop := t.ts.length ≤ 20 ∧ ∀ y ∈ t.ts, y.l.length ≤ 20

theorem far8 (t : Ti) : ∃ b, Pure Tryz.prog 4 [encTi t] (.bool b) ∧ (b = false → NearT t) := by
 by_cases h20 : (20 : Int) < t.ts.length
 ·refine ⟨true, ?_, by simp⟩
  refine ZF (fn := Tryz.f4) [.tmp 2] ⟨Tryz.func4, rfl, by kernel_rfl⟩ fun x hx hσ => ?_
  (repeat refine ZQ ?_); refine ZR fun K hK => ?_; simp (maxSteps := 1000000) [ty28]; refine hK _ ?_; clear hK K
  (repeat refine ZQ ?_); refine ZR fun K hK => ?_; simp (maxSteps := 1000000) [ty28, ty26, ty3, h20]; refine hK _ ?_; clear hK K
  (repeat refine ZQ ?_); refine ZC (hc := by simp [h20]; rfl) (fun hd => ?_) (fun hd => ?_)
  ·clear hd
   (repeat refine ZQ ?_); refine ZR fun K hK => ?_; simp (maxSteps := 1000000); refine hK _ ?_; clear hK K
   (repeat refine ZQ ?_); refine awp_ret ?_; refine And.intro (Or.inr rfl) ?_
   simp [retC, resC, viewC, mapO]
  ·simp at hd
 ·by_cases hall : ∀ j (hj : j < t.ts.length), t.ts[j].l.length ≤ 20
  ·have hl : TiLen t := ⟨by omega, fun y hy => by
    obtain ⟨j, hj, rfl⟩ := List.getElem_of_mem hy
    have := hall j hj; omega⟩
   have hnear : NearT t := ⟨by omega, fun y hy => by
    obtain ⟨j, hj, rfl⟩ := List.getElem_of_mem hy
    exact hall j hj⟩
   have hmb := mxTo_bd hall
   obtain ⟨M, hM⟩ : ∃ M, (if (if t.w.read < t.w.slip then t.w.slip else t.w.read) < t.w.skew then t.w.skew else if t.w.read < t.w.slip then t.w.slip else t.w.read) = M := ⟨_, rfl⟩
   by_cases hz : checkT t = 0
   ·refine ⟨decide (2 < M) || decide (120 < t.w.full) || decide (6 < t.gain) || decide (4 < (t.ts.length : Int)) || decide (2 < mxTo t.ts t.ts.length), ?_, fun _ => hnear⟩
    refine ZF (fn := Tryz.f4) [.tmp 2] ⟨Tryz.func4, rfl, by kernel_rfl⟩ fun x hx hσ => ?_
    (repeat refine ZQ ?_); refine ZR fun K hK => ?_; simp (maxSteps := 1000000) [ty28]; refine hK _ ?_; clear hK K
    (repeat refine ZQ ?_); refine ZR fun K hK => ?_; simp (maxSteps := 1000000) [ty28, ty26, ty3, h20]; refine hK _ ?_; clear hK K
    (repeat refine ZQ ?_); refine ZC (hc := by simp [h20]; rfl) (fun hd => ?_) (fun hd => ?_)
    ·simp at hd
    ·clear hd
     refine awp_skip ?_
     (repeat refine ZQ ?_); refine ZR fun K hK => ?_; simp (maxSteps := 1000000); refine hK _ ?_; clear hK K
     (repeat refine ZQ ?_); refine ZR fun K hK => ?_; simp (maxSteps := 1000000); refine hK _ ?_; clear hK K
     (repeat refine ZQ ?_); refine awp_block ?_
     refine awp_loop (fun i : Nat => ⟨ofL [(1, .ptr 1 10 0 0), (3, encI (mxTo t.ts i)), (4, encI i)], stoT [(1, 1, .live (obTi t))]⟩)
      (fun i => i ≤ t.ts.length) (fun i => t.ts.length - i) 0 (Nat.zero_le _) ?_ ?_
     ·refine wk_shape (shp0 hσ (by simp) (by simp) ?_) ?_
      ·simp [SlotOk, mxTo] <;> (repeat' (first | (refine RowsOk.same ?_; simp [purel, C.isPure]; done) | (refine rowsCons ?_; simp [mtl, mtc, mT, mH, C.isPure, purel]; done) | (refine rowsCons ?_; simp [mtl, mtc, mT, mH, C.isPure, purel]) | refine And.intro ?_ ?_))
      ·simp [mtc, mtl, mT, C.isPure, purel, mxTo] <;> (try simp (disch := omega) [wrap_id]) <;> (try omega)
     ·intro i hi
      (repeat refine ZQ ?_); refine ZR fun K hK => ?_; simp (maxSteps := 1000000) [ty28, ty26, ty3]; refine hK _ ?_; clear hK K
      (repeat refine ZQ ?_); refine ZC (fun hc => ?_) (fun hc => ?_)
      ·simp at hc
       refine awp_skip ?_
       (repeat refine ZQ ?_); refine awp_block ?_
       have hst := mxTo_step hc
       have hx20 : ¬ (20 : Int) < (t.ts[i].l.length : Int) := by have := hall i hc; omega
       have hwi : IntKind.i64.wrap ((i : Int) + 1) = ((i + 1 : Nat) : Int) := by rw [wrap_id (by omega) (by omega)]; rfl
       (repeat refine ZQ ?_); refine ZR fun K hK => ?_; simp (maxSteps := 1000000) [ty28, ty26, ty55, ty53, ty3, hc, hx20]; refine hK _ ?_; clear hK K
       (repeat refine ZQ ?_); refine ZC (hc := by simp [hx20]; rfl) (fun hd => ?_) (fun hd => ?_)
       ·simp [hx20] at hd
       ·clear hd
        refine awp_skip ?_
        (repeat refine ZQ ?_); refine ZR fun K hK => ?_; simp (maxSteps := 1000000) [ty28, ty26, ty55, ty53, ty3, hc]; refine hK _ ?_; clear hK K
        (repeat refine ZQ ?_); refine ZR fun K hK => ?_; simp (maxSteps := 1000000) [ty3]; refine hK _ ?_; clear hK K; (first | show AWP _ _ _ _ _ | show ∃ _, _ | skip)
        refine ⟨i + 1, by omega, by omega, ?_⟩
        rw [hst, hwi]
        exact ZW
      ·simp at hc
       (repeat refine ZQ ?_); refine awp_exit ?_; (first | show AWP _ _ _ _ _ | show ∃ _, _ | skip)
       have hin : i = t.ts.length := by omega
       rw [hin]
       generalize mxTo t.ts t.ts.length = X at *
       by_cases h1 : 2 < M
       ·(repeat refine ZQ ?_); refine ZR fun K hK => ?_; simp (maxSteps := 1000000) [ty28]
        refine ZP (q_check30 t hl) ?_; simp (maxSteps := 1000000) [ty34, hz, ty3, ty28, ty25, ty26, hM, h1]
        refine hK _ ?_; clear hK K
        (repeat refine ZQ ?_); refine awp_ret ?_; refine And.intro (Or.inr rfl) ?_
        simp [retC, resC, viewC, mapO, h1]
       ·by_cases h2 : 120 < t.w.full
        ·(repeat refine ZQ ?_); refine ZR fun K hK => ?_; simp (maxSteps := 1000000) [ty28]
         refine ZP (q_check30 t hl) ?_; simp (maxSteps := 1000000) [ty34, hz, ty3, ty28, ty25, ty26, hM, h1, h2]
         refine hK _ ?_; clear hK K
         (repeat refine ZQ ?_); refine awp_ret ?_; refine And.intro (Or.inr rfl) ?_
         simp [retC, resC, viewC, mapO, h1, h2]
        ·by_cases h3 : 6 < t.gain
         ·(repeat refine ZQ ?_); refine ZR fun K hK => ?_; simp (maxSteps := 1000000) [ty28]
          refine ZP (q_check30 t hl) ?_; simp (maxSteps := 1000000) [ty34, hz, ty3, ty28, ty25, ty26, hM, h1, h2, h3]
          refine hK _ ?_; clear hK K
          (repeat refine ZQ ?_); refine awp_ret ?_; refine And.intro (Or.inr rfl) ?_
          simp [retC, resC, viewC, mapO, h1, h2, h3]
         ·by_cases h4 : (4 : Int) < (t.ts.length : Int)
          ·(repeat refine ZQ ?_); refine ZR fun K hK => ?_; simp (maxSteps := 1000000) [ty28]
           refine ZP (q_check30 t hl) ?_; simp (maxSteps := 1000000) [ty34, hz, ty3, ty28, ty25, ty26, hM, h1, h2, h3, h4]
           refine hK _ ?_; clear hK K
           (repeat refine ZQ ?_); refine awp_ret ?_; refine And.intro (Or.inr rfl) ?_
           simp [retC, resC, viewC, mapO, h1, h2, h3, h4]
          ·by_cases h5 : 2 < X
           ·(repeat refine ZQ ?_); refine ZR fun K hK => ?_; simp (maxSteps := 1000000) [ty28]
            refine ZP (q_check30 t hl) ?_; simp (maxSteps := 1000000) [ty34, hz, ty3, ty28, ty25, ty26, hM, h1, h2, h3, h4, h5]
            refine hK _ ?_; clear hK K
            (repeat refine ZQ ?_); refine awp_ret ?_; refine And.intro (Or.inr rfl) ?_
            simp [retC, resC, viewC, mapO, h1, h2, h3, h4, h5]
           ·(repeat refine ZQ ?_); refine ZR fun K hK => ?_; simp (maxSteps := 1000000) [ty28]
            refine ZP (q_check30 t hl) ?_; simp (maxSteps := 1000000) [ty34, hz, ty3, ty28, ty25, ty26, hM, h1, h2, h3, h4, h5]
            refine hK _ ?_; clear hK K
            (repeat refine ZQ ?_); refine awp_ret ?_; refine And.intro (Or.inr rfl) ?_
            simp [retC, resC, viewC, mapO, h1, h2, h3, h4, h5]
   ·refine ⟨false, ?_, fun _ => hnear⟩
    have hz' : (checkT t == 0) = false := by simpa using hz
    refine ZF (fn := Tryz.f4) [.tmp 2] ⟨Tryz.func4, rfl, by kernel_rfl⟩ fun x hx hσ => ?_
    (repeat refine ZQ ?_); refine ZR fun K hK => ?_; simp (maxSteps := 1000000) [ty28]; refine hK _ ?_; clear hK K
    (repeat refine ZQ ?_); refine ZR fun K hK => ?_; simp (maxSteps := 1000000) [ty28, ty26, ty3, h20]; refine hK _ ?_; clear hK K
    (repeat refine ZQ ?_); refine ZC (hc := by simp [h20]; rfl) (fun hd => ?_) (fun hd => ?_)
    ·simp at hd
    ·clear hd
     refine awp_skip ?_
     (repeat refine ZQ ?_); refine ZR fun K hK => ?_; simp (maxSteps := 1000000); refine hK _ ?_; clear hK K
     (repeat refine ZQ ?_); refine ZR fun K hK => ?_; simp (maxSteps := 1000000); refine hK _ ?_; clear hK K
     (repeat refine ZQ ?_); refine awp_block ?_
     refine awp_loop (fun i : Nat => ⟨ofL [(1, .ptr 1 10 0 0), (3, encI (mxTo t.ts i)), (4, encI i)], stoT [(1, 1, .live (obTi t))]⟩)
      (fun i => i ≤ t.ts.length) (fun i => t.ts.length - i) 0 (Nat.zero_le _) ?_ ?_
     ·refine wk_shape (shp0 hσ (by simp) (by simp) ?_) ?_
      ·simp [SlotOk, mxTo] <;> (repeat' (first | (refine RowsOk.same ?_; simp [purel, C.isPure]; done) | (refine rowsCons ?_; simp [mtl, mtc, mT, mH, C.isPure, purel]; done) | (refine rowsCons ?_; simp [mtl, mtc, mT, mH, C.isPure, purel]) | refine And.intro ?_ ?_))
      ·simp [mtc, mtl, mT, C.isPure, purel, mxTo] <;> (try simp (disch := omega) [wrap_id]) <;> (try omega)
     ·intro i hi
      (repeat refine ZQ ?_); refine ZR fun K hK => ?_; simp (maxSteps := 1000000) [ty28, ty26, ty3]; refine hK _ ?_; clear hK K
      (repeat refine ZQ ?_); refine ZC (fun hc => ?_) (fun hc => ?_)
      ·simp at hc
       refine awp_skip ?_
       (repeat refine ZQ ?_); refine awp_block ?_
       have hst := mxTo_step hc
       have hx20 : ¬ (20 : Int) < (t.ts[i].l.length : Int) := by have := hall i hc; omega
       have hwi : IntKind.i64.wrap ((i : Int) + 1) = ((i + 1 : Nat) : Int) := by rw [wrap_id (by omega) (by omega)]; rfl
       (repeat refine ZQ ?_); refine ZR fun K hK => ?_; simp (maxSteps := 1000000) [ty28, ty26, ty55, ty53, ty3, hc, hx20]; refine hK _ ?_; clear hK K
       (repeat refine ZQ ?_); refine ZC (hc := by simp [hx20]; rfl) (fun hd => ?_) (fun hd => ?_)
       ·simp [hx20] at hd
       ·clear hd
        refine awp_skip ?_
        (repeat refine ZQ ?_); refine ZR fun K hK => ?_; simp (maxSteps := 1000000) [ty28, ty26, ty55, ty53, ty3, hc]; refine hK _ ?_; clear hK K
        (repeat refine ZQ ?_); refine ZR fun K hK => ?_; simp (maxSteps := 1000000) [ty3]; refine hK _ ?_; clear hK K; (first | show AWP _ _ _ _ _ | show ∃ _, _ | skip)
        refine ⟨i + 1, by omega, by omega, ?_⟩
        rw [hst, hwi]
        exact ZW
      ·simp at hc
       (repeat refine ZQ ?_); refine awp_exit ?_
       (repeat refine ZQ ?_); refine ZR fun K hK => ?_; simp (maxSteps := 1000000) [ty28]
       refine ZP (q_check30 t hl) ?_; simp (maxSteps := 1000000) [ty34, hz', ty3, ty28]
       refine hK _ ?_; clear hK K
       (repeat refine ZQ ?_); refine awp_ret ?_; refine And.intro (Or.inr rfl) ?_
       simp [retC, resC, viewC, mapO]
  ·refine ⟨true, ?_, by simp⟩
   obtain ⟨J, hJ, hJl, hJm⟩ : ∃ J, ∃ hJ : J < t.ts.length, 20 < t.ts[J].l.length ∧ ∀ j (hj : j < t.ts.length), j < J → t.ts[j].l.length ≤ 20 := by
    have hex : ∃ J, ∃ hJ : J < t.ts.length, 20 < t.ts[J].l.length := by
     refine Classical.byContradiction fun h => hall fun j hj => ?_
     exact Classical.byContradiction fun g => h ⟨j, hj, by omega⟩
    obtain ⟨J, ⟨hJ, hJ20⟩, hmin⟩ := least_ex hex
    refine ⟨J, hJ, hJ20, fun j hj hlt => ?_⟩
    exact Classical.byContradiction fun g => hmin j hlt ⟨hj, by omega⟩
   refine ZF (fn := Tryz.f4) [.tmp 2] ⟨Tryz.func4, rfl, by kernel_rfl⟩ fun x hx hσ => ?_
   (repeat refine ZQ ?_); refine ZR fun K hK => ?_; simp (maxSteps := 1000000) [ty28]; refine hK _ ?_; clear hK K
   (repeat refine ZQ ?_); refine ZR fun K hK => ?_; simp (maxSteps := 1000000) [ty28, ty26, ty3, h20]; refine hK _ ?_; clear hK K
   (repeat refine ZQ ?_); refine ZC (hc := by simp [h20]; rfl) (fun hd => ?_) (fun hd => ?_)
   ·simp at hd
   ·clear hd
    refine awp_skip ?_
    (repeat refine ZQ ?_); refine ZR fun K hK => ?_; simp (maxSteps := 1000000); refine hK _ ?_; clear hK K
    (repeat refine ZQ ?_); refine ZR fun K hK => ?_; simp (maxSteps := 1000000); refine hK _ ?_; clear hK K
    (repeat refine ZQ ?_); refine awp_block ?_
    refine awp_loop (fun i : Nat => ⟨ofL [(1, .ptr 1 10 0 0), (3, encI (mxTo t.ts i)), (4, encI i)], stoT [(1, 1, .live (obTi t))]⟩)
     (fun i => i ≤ J) (fun i => J - i) 0 (Nat.zero_le _) ?_ ?_
    ·refine wk_shape (shp0 hσ (by simp) (by simp) ?_) ?_
     ·simp [SlotOk, mxTo] <;> (repeat' (first | (refine RowsOk.same ?_; simp [purel, C.isPure]; done) | (refine rowsCons ?_; simp [mtl, mtc, mT, mH, C.isPure, purel]; done) | (refine rowsCons ?_; simp [mtl, mtc, mT, mH, C.isPure, purel]) | refine And.intro ?_ ?_))
     ·simp [mtc, mtl, mT, C.isPure, purel, mxTo] <;> (try simp (disch := omega) [wrap_id]) <;> (try omega)
    ·intro i hi
     have hc : i < t.ts.length := by omega
     (repeat refine ZQ ?_); refine ZR fun K hK => ?_; simp (maxSteps := 1000000) [ty28, ty26, ty3, hc]; refine hK _ ?_; clear hK K
     (repeat refine ZQ ?_); refine ZC (fun hd => ?_) (fun hd => ?_)
     ·refine awp_skip ?_
      (repeat refine ZQ ?_); refine awp_block ?_
      by_cases hiJ : i = J
      ·have hx20 : (20 : Int) < (t.ts[i].l.length : Int) := by subst hiJ; omega
       (repeat refine ZQ ?_); refine ZR fun K hK => ?_; simp (maxSteps := 1000000) [ty28, ty26, ty55, ty53, ty3, hc, hx20]; refine hK _ ?_; clear hK K
       (repeat refine ZQ ?_); refine ZC (hc := by simp [hx20]; rfl) (fun hd => ?_) (fun hd => ?_)
       ·clear hd
        (repeat refine ZQ ?_); refine ZR fun K hK => ?_; simp (maxSteps := 1000000); refine hK _ ?_; clear hK K
        (repeat refine ZQ ?_); refine awp_ret ?_; refine And.intro (Or.inr rfl) ?_
        simp [retC, resC, viewC, mapO]
       ·simp [hx20] at hd
      ·have hst := mxTo_step hc
       have hx20 : ¬ (20 : Int) < (t.ts[i].l.length : Int) := by have := hJm i hc (by omega); omega
       have hwi : IntKind.i64.wrap ((i : Int) + 1) = ((i + 1 : Nat) : Int) := by rw [wrap_id (by omega) (by omega)]; rfl
       (repeat refine ZQ ?_); refine ZR fun K hK => ?_; simp (maxSteps := 1000000) [ty28, ty26, ty55, ty53, ty3, hc, hx20]; refine hK _ ?_; clear hK K
       (repeat refine ZQ ?_); refine ZC (hc := by simp [hx20]; rfl) (fun hd => ?_) (fun hd => ?_)
       ·simp [hx20] at hd
       ·clear hd
        refine awp_skip ?_
        (repeat refine ZQ ?_); refine ZR fun K hK => ?_; simp (maxSteps := 1000000) [ty28, ty26, ty55, ty53, ty3, hc]; refine hK _ ?_; clear hK K
        (repeat refine ZQ ?_); refine ZR fun K hK => ?_; simp (maxSteps := 1000000) [ty3]; refine hK _ ?_; clear hK K; (first | show AWP _ _ _ _ _ | show ∃ _, _ | skip)
        refine ⟨i + 1, by omega, by omega, ?_⟩
        rw [hst, hwi]
        exact ZW
     ·exact absurd hd (by simp [hc])

theorem NearT.len {t : Ti} (h : NearT t) : TiLen t := ⟨by have := h.1; omega, fun y hy => by have := h.2 y hy; omega⟩

set_option maxHeartbeats 2000000

-- the plain law: lists of gains, as the reference has them

set_option maxHeartbeats 8000000

-- the reference of wear: the small functions, and whether an instrument is valid

set_option maxHeartbeats 8000000

-- the reference of wear: gains of visits, and whether gains are a truth

@[simp] abbrev rowN (L : List Int) : List C := [.sl L.isEmpty false (L.map cI)]
def gsN (w : Ws) : List (List C) := w.vs.map fun v => rowN (numsT Tr.area (tiV w v) true)
@[simp] theorem gsN_len (w : Ws) : (gsN w).length = w.vs.length := by simp [gsN]
@[simp] theorem gsN_pure (w : Ws) : (gsN w).all purel = true := all_purel_map fun _ => rfl
set_option maxHeartbeats 8000000

-- the examples of wear

def tsE (s a b : Int) : Ts := ⟨1000, false, true, [⟨1, s, 0, a, b⟩]⟩
def wE : Ws := ⟨wX, 6, 6, 1, false, true, [⟨0, false, true, [tsE 1 10 12]⟩, ⟨4, false, true, [tsE 1 10 10]⟩], 0⟩
def zE : Ws := ⟨wX, 6, 6, 1, false, true, [⟨0, false, true, [tsE 1 10 10, tsE (-1) 0 0]⟩], 0⟩
theorem test97 (s a b : Int) : Pure Tryz.prog 37 [encI s, encI a, encI b] (encTs (tsE s a b)) := by
 refine ZF (fn := Tryz.f37) [.cell 6 55] ⟨Tryz.func37, rfl, by kernel_rfl⟩ fun x hx hσ => ?_
 (repeat refine ZQ ?_); refine ZR fun K hK => ?_; simp (maxSteps := 1000000) [ty55]; refine hK _ ?_; clear hK K
 (repeat refine ZQ ?_); refine ZR fun K hK => ?_; simp (maxSteps := 1000000) [ty55, ty82, ty53, ty3]; refine hK _ ?_; clear hK K
 (repeat refine ZQ ?_); refine awp_ret ?_; refine And.intro (Or.inr rfl) ?_
 simp [retC, resC, viewC, mapO, ty55, tsE]

theorem example56 : Pure Tryz.prog 16 [] (.tup [encWs wE, encWs zE]) := by
 have h := example48
 simp only [encWh, cWh, sWl, cWl, wX, yA, yB, List.map_cons, List.map_nil] at h
 have t1 := test97 1 10 12
 have t2 := test97 1 10 10
 have t3 := test97 (-1) 0 0
 simp only [encTs, cTs, tsE, sWl, cWl, List.map_cons, List.map_nil] at t1 t2 t3
 refine ZF (fn := Tryz.f16) [.cell 0 42, .cell 1 42] ⟨Tryz.func16, rfl, by kernel_rfl⟩ fun x hx hσ => ?_
 (repeat refine ZQ ?_); refine ZR fun K hK => ?_; simp (maxSteps := 1000000) [ty42]; refine hK _ ?_; clear hK K
 (repeat refine ZQ ?_); refine ZR fun K hK => ?_; simp (maxSteps := 1000000) [ty25]
 refine ZP (h) ?_; simp (maxSteps := 1000000) [ty25]
 refine hK _ ?_; clear hK K
 (repeat refine ZQ ?_); refine ZR fun K hK => ?_; simp (maxSteps := 1000000) [ty25, ty42]; refine hK _ ?_; clear hK K
 (repeat refine ZQ ?_); refine ZR fun K hK => ?_; simp (maxSteps := 1000000) [ty42]; refine hK _ ?_; clear hK K
 (repeat refine ZQ ?_); refine ZR fun K hK => ?_; simp (maxSteps := 1000000) [ty42, ty39, ty26, ty55, ty40]
 refine ZP (t1) ?_; simp (maxSteps := 1000000) [ty42, ty39, ty26, ty55, ty40]
 refine ZP (t2) ?_; simp (maxSteps := 1000000) [ty42, ty39, ty26, ty55, ty40]
 refine hK _ ?_; clear hK K
 (repeat refine ZQ ?_); refine ZR fun K hK => ?_; simp (maxSteps := 1000000) [ty42, ty39, ty26, ty55, ty40]
 refine ZP (t2) ?_; simp (maxSteps := 1000000) [ty42, ty39, ty26, ty55, ty40]
 refine ZP (t3) ?_; simp (maxSteps := 1000000) [ty42, ty39, ty26, ty55, ty40]
 refine hK _ ?_; clear hK K
 (repeat refine ZQ ?_); refine ZD [1001, 2002, 10000] [0, 1, 2, 3] fun K hK => ?_; simp (maxSteps := 1000000) [ty42]; refine hK _ ?_; clear hK K
 (repeat refine ZQ ?_); refine awp_ret ?_; refine And.intro (Or.inr rfl) ?_
 simp [retC, resC, viewC, mapO, ty42, wE, zE, tsE, wX]

theorem wE_len : WsLen wE := ⟨by decide, fun v hv => by
 simp only [wE, List.mem_cons, List.not_mem_nil, or_false] at hv
 rcases hv with rfl | rfl <;> exact ⟨by decide, by decide⟩⟩
theorem gl_areas (w : Ws) : gl w = w.vs.map fun v => (v.day, areasR (knownT (tiV w v) true)) := by
 unfold gl
 refine List.map_congr_left fun v _ => ?_
 unfold glV
 rw [gains_nums]
theorem wE_gl : gl wE = [(0, [0, 1, 2, 3, 4]), (4, [-2, -1, 0, 1, 2])] := by rw [gl_areas]; decide +kernel
theorem wE_check : checkW wE = 0 := by decide +kernel
theorem openW_true {w : Ws} {is : Bool} (h1 : checkW w = 0) (h2 : is = true) (h3 : canC (co w (gl w)) [] = true) : openW w is = 0 := by
 unfold openW; rw [if_neg (by simpa using h1), if_neg (by rw [h2]; simp), if_neg (by rw [h3]; simp)]
theorem wE_can : canC (co wE (gl wE)) [] = true := by rw [wE_gl]; decide +kernel
theorem wE_open {is : Bool} (h : is = true) : openW wE is = 0 := openW_true wE_check h wE_can
theorem wE_on : onW wE 4 = [-2, -1, 0, 1, 2] := by
 unfold onW; rw [if_pos (wE_open (by decide)), wE_gl]; decide +kernel
set_option maxHeartbeats 8000000

-- what is far, what is ready, and the laws' small functions

/-- What is near enough. -/
structure NearW (w : Ws) : Prop where
  vs : w.vs.length ≤ 20
  l : ∀ v ∈ w.vs, NearT (tiV w v)
  small : checkW w = 0 → w.gain ≤ 3 ∧ w.last ≤ 5 ∧ w.vs.length ≤ 3

theorem NearW.len {w : Ws} (h : NearW w) : WsLen w := ⟨by have := h.vs; omega, fun v hv => (h.l v hv).len⟩




/-- The question of the laws: two days, an area, and a seen area. -/
structure As where
  a : Int
  b : Int
  area : Int
  seen : Int
end Go.Proofs.YtbelmomdndjjkaaGreat

/- What comes in, as data; and how a law's statement follows from a contract of data. No condition. -/
namespace Go.Abs
open Go.ChangeShapes Go.WideShapes Go.ChangeAt Go.RowKit

/-- The make of a cell. -/
inductive Sh where
  | int (k : IntKind)
  | bool
  | str
  | sl (l : List Sh)

mutual
/-- A value of a make. -/
def Fit : Sh → C → Prop
  | .int k, c => ∃ n, c = .int k n ∧ (Lit.int k n).wf = true
  | .bool, c => ∃ b, c = .bool b
  | .str, c => ∃ s : ByteArray, c = .str s ∧ s.size ≤ maxLen
  | .sl l, c => ∃ nl rows, c = .sl nl false rows ∧ (nl = true → rows = []) ∧ rows.length ≤ maxLen ∧ ∀ row ∈ rows, FitL l row
def FitL : List Sh → List C → Prop
  | [], m => m = []
  | s :: l, m => ∃ c r, m = c :: r ∧ Fit s c ∧ FitL l r
end

def shFs (P : Program) (g : TypeId → Option (List Sh)) : Nat → List Field → Option (List Sh)
 | _, [] => some []
 | o, f :: fs => match g f.type, shFs P g (o + P.cellsOf f.type) fs with
  | some l, some m => if f.offset = o ∧ l.length = P.cellsOf f.type then some (l ++ m) else none
  | _, _ => none

/-- The makes of a type's cells. -/
def shT (P : Program) : Nat → TypeId → Option (List Sh)
  | 0, _ => none
  | n + 1, t => match P.underlying t with
    | some (.int k) => some [.int k]
    | some .bool => some [.bool]
    | some .string => some [.str]
    | some (.slice e) => match shT P n e with
      | some l => if l.length = P.cellsOf e ∧ 0 < l.length then some [.sl l] else none
      | none => none
    | some (.struct fs) => match shFs P (shT P n) 0 fs.toList with
      | some l => if l.length = P.cellsOf t then some l else none
      | none => none
    | _ => none

theorem FitL.len : ∀ {l : List Sh} {m : List C}, FitL l m → m.length = l.length
 | [], m, h => by simp only [FitL] at h; subst h; rfl
 | s :: l, m, h => by
  simp only [FitL] at h
  obtain ⟨c, r, rfl, _, h⟩ := h
  simp [FitL.len h]

theorem FitL.append : ∀ {l l' : List Sh} {m m' : List C}, FitL l m → FitL l' m' → FitL (l ++ l') (m ++ m')
 | [], l', m, m', h, h' => by simp only [FitL] at h; subst h; exact h'
 | s :: l, l', m, m', h, h' => by
  simp only [FitL] at h
  obtain ⟨c, r, rfl, h1, h2⟩ := h
  simp only [List.cons_append, FitL]
  exact ⟨c, r ++ m', rfl, h1, h2.append h'⟩

def anyG : Nat → Prop := fun _ => True

/-- Cells that stand for values. -/
def OpL (W : World) (m : List C) (cs : List Value) : Prop := m.length = cs.length ∧ ∀ (i : Nat) (c : C), m[i]? = some c → PR anyG W c (cs[i]?.getD undef) ∧ c.cell = true

theorem exists_list {α : Type} {Q : Nat → α → Prop} : ∀ {n : Nat}, (∀ i, i < n → ∃ x, Q i x) → ∃ l : List α, l.length = n ∧ ∀ i x, l[i]? = some x → Q i x
 | 0, _ => ⟨[], rfl, by simp⟩
 | n + 1, h => by
  obtain ⟨l, h1, h2⟩ := exists_list (n := n) fun i hi => h i (by omega)
  obtain ⟨x, hx⟩ := h n (by omega)
  refine ⟨l ++ [x], by simp [h1], fun i y hy => ?_⟩
  rcases Nat.lt_or_ge i l.length with hlt | hge
  ·rw [List.getElem?_append_left hlt] at hy
   exact h2 i y hy
  ·rw [List.getElem?_append_right hge] at hy
   have : i = n := by
    have := (List.getElem?_eq_some_iff.1 hy).1
    simp at this; omega
   subst this
   rw [h1, Nat.sub_self] at hy
   simp at hy
   subst hy; exact hx

section
variable {H : Type} {enc : TypeId × Value → H} {P : Program} {W : World}

theorem spot_of {a : Addr} {q n : Nat} {v : Value} (h : W.cell? ((a.add q).add n) = some v) (h0 : q = 0 ∧ n = 0) : a.spot = none := by
 obtain ⟨rfl, rfl⟩ := h0
 simp only [Addr.add, if_true] at h
 unfold World.cell? at h
 split at h
 ·split at h
  ·simp at h
  ·rename_i hs
   cases hsp : a.spot with
   | none => rfl
   | some z => simp [hsp] at hs
 ·simp at h

theorem addr_full {a : Addr} (h : a.spot = none) (q n : Nat) : (a.add q).add n = ⟨a.block, a.off + (q + n), none⟩ := by
 obtain ⟨b, o, s⟩ := a
 simp only at h
 subst h
 rw [addr_add, addr_add, Nat.add_assoc]

theorem cells_at {a : Addr} {n : Nat} {cs : List Value} (h : W.cells? 0 a n = some cs) : cs.length = n ∧ ∀ i, i < n → W.cell? (a.add i) = cs[i]? := by
 unfold World.cells? at h
 rw [if_pos (Nat.zero_le _)] at h
 refine ⟨by simpa using mapM_some_length h, fun i hi => ?_⟩
 exact mapM_some_get h i i (by rw [List.getElem?_range hi])

theorem block_lt {a : Addr} {v : Value} (h : W.cell? a = some v) : a.block < W.heap.size := by
 unfold World.cell? at h
 split at h
 ·rename_i hh; exact (Array.getElem?_eq_some_iff.1 hh).1
 ·simp at h

/-- WHAT IS READ IS DATA. -/
theorem open_sound : ∀ (n : Nat) {fuel : Nat} {t : TypeId} {cs : List Value} {x : DataW H × List MemPlace} {shs : List Sh}, shT P n t = some shs → DataW.trod enc P W 0 (fun _ => true) true fuel t cs = some x →
    ∃ m, FitL shs m ∧ OpL W m cs
  | 0, _, _, _, _, _, h, _ => by simp [shT] at h
  | n + 1, fuel, t, cs, x, shs, h, ht => by
    unfold shT at h
    split at h
    · rename_i k hk
      simp only [Option.some.injEq] at h
      subst h
      obtain ⟨z, rfl, _, hw⟩ := DataW.trod_int hk ht
      refine ⟨[.int k z], ⟨_, _, rfl, ⟨z, rfl, hw⟩, rfl⟩, rfl, fun i c hi => ?_⟩
      cases i with
      | zero => simp at hi; subst hi; exact ⟨.int _ _, rfl⟩
      | succ i => simp at hi
    · rename_i hk
      simp only [Option.some.injEq] at h
      subst h
      obtain ⟨z, rfl, _⟩ := DataW.trod_bool hk ht
      refine ⟨[.bool z], ⟨_, _, rfl, ⟨z, rfl⟩, rfl⟩, rfl, fun i c hi => ?_⟩
      cases i with
      | zero => simp at hi; subst hi; exact ⟨.bool _, rfl⟩
      | succ i => simp at hi
    · rename_i hk
      simp only [Option.some.injEq] at h
      subst h
      obtain ⟨z, rfl, _, hz⟩ := DataW.trod_string hk ht
      refine ⟨[.str z], ⟨_, _, rfl, ⟨z, rfl, hz⟩, rfl⟩, rfl, fun i c hi => ?_⟩
      cases i with
      | zero => simp at hi; subst hi; exact ⟨.str _, rfl⟩
      | succ i => simp at hi
    · rename_i e hk
      split at h
      · rename_i l hl
        split at h
        · rename_i hc
          obtain ⟨hc1, hc2⟩ := hc
          simp only [Option.some.injEq] at h
          subst h
          have one : ∀ {nl : Bool} {rows : List (List C)} {v : Value}, cs = [v] → (nl = true → rows = []) → rows.length ≤ maxLen → (∀ row ∈ rows, FitL l row) → PR anyG W (.sl nl false rows) v → ∃ m, FitL [.sl l] m ∧ OpL W m cs := by
            intro nl rows v hcs h1 h2 h3 h4
            subst hcs
            refine ⟨[.sl nl false rows], ⟨_, _, rfl, ⟨nl, rows, rfl, h1, h2, h3⟩, rfl⟩, rfl, fun i c hi => ?_⟩
            cases i with
            | zero => simp at hi; subst hi; exact ⟨h4, rfl⟩
            | succ i => simp at hi
          rcases DataW.trod_slice hk ht with ⟨rfl, _⟩ | ⟨a, len, cap, elems, rest, q, _, rfl, _, hb, hlc, hcm, hel, hat, hsp, _⟩
          · exact one rfl (fun _ => rfl) (by simp) (by simp) (.slnil _)
          · obtain ⟨hrl, hrat⟩ := hsp rfl
            by_cases hcap : cap = 0
            · have : len = 0 := by omega
              subst this
              subst hcap
              exact one (nl := false) (rows := []) rfl (by simp) (by simp) (by simp) (.slemp _ _)
            · have hspot : a.spot = none ∧ a.block < W.heap.size := by
                by_cases h0 : len = 0
                · have := hrat 0 (by omega)
                  rw [List.getElem?_eq_getElem (by omega), Option.bind_eq_some_iff] at this
                  obtain ⟨cs0, g1, _⟩ := this
                  obtain ⟨g2, g3⟩ := cells_at g1
                  have g4 := g3 0 (by omega)
                  rw [List.getElem?_eq_getElem (by omega), h0] at g4
                  have hs := spot_of g4 ⟨by simp, rfl⟩
                  refine ⟨hs, ?_⟩
                  have := block_lt g4
                  rw [addr_full hs] at this
                  exact this
                · have := hat 0 (by omega)
                  rw [List.getElem?_eq_getElem (by omega), Option.bind_eq_some_iff] at this
                  obtain ⟨cs0, g1, _⟩ := this
                  obtain ⟨g2, g3⟩ := cells_at g1
                  have g4 := g3 0 (by omega)
                  rw [List.getElem?_eq_getElem (by omega)] at g4
                  have hs := spot_of g4 ⟨by simp, rfl⟩
                  refine ⟨hs, ?_⟩
                  have := block_lt g4
                  rw [addr_full hs] at this
                  exact this
              obtain ⟨hs, hlt⟩ := hspot
              have hrow : ∀ i, i < len → ∃ row, FitL l row ∧ ∀ (j : Nat) (c : C), row[j]? = some c → ∃ v, W.cell? ⟨a.block, a.off + (i * P.cellsOf e + j), none⟩ = some v ∧ PR anyG W c v ∧ c.cell = true := by
                intro i hi
                have h1 := hat i hi
                rw [List.getElem?_eq_getElem (by omega), Option.bind_eq_some_iff] at h1
                obtain ⟨cs0, g1, g2⟩ := h1
                obtain ⟨g3, g4⟩ := cells_at g1
                obtain ⟨row, r1, r2, r3⟩ := open_sound n hl g2
                refine ⟨row, r1, fun j c hj => ?_⟩
                have hjl : j < row.length := (List.getElem?_eq_some_iff.1 hj).1
                have g5 := g4 j (by omega)
                rw [addr_full hs] at g5
                obtain ⟨r4, r5⟩ := r3 j c hj
                rw [List.getElem?_eq_getElem (by omega)] at g5 r4
                exact ⟨_, g5, r4, r5⟩
              obtain ⟨rows, w1, w2⟩ := exists_list hrow
              refine one (nl := false) (rows := rows) rfl (by simp) (by omega) (fun row hr => ?_) ?_
              · obtain ⟨i, hi, rfl⟩ := List.getElem_of_mem hr
                exact (w2 i _ (List.getElem?_eq_getElem hi)).1
              · obtain ⟨b, o, s⟩ := a
                simp only at hs hlt
                subst hs
                refine .sl (sz := P.cellsOf e) (fun i j => (W.cell? ⟨b, o + (i * P.cellsOf e + j), none⟩).getD undef) trivial hlt w1.symm (by simp) (by omega) ?_ ?_ ?_ ?_
                · intro i row hi
                  rw [(w2 i row hi).1.len, hc1]
                · intro i row hi j c hj
                  obtain ⟨v, q1, q2, q3⟩ := (w2 i row hi).2 j c hj
                  simp only at q1
                  rw [q1]; rfl
                · intro i row hi j c hj
                  obtain ⟨v, q1, q2, q3⟩ := (w2 i row hi).2 j c hj
                  exact q3
                · intro i row hi j c hj
                  obtain ⟨v, q1, q2, q3⟩ := (w2 i row hi).2 j c hj
                  simp only at q1
                  rw [q1]; exact q2
        · simp at h
      · simp at h
    · rename_i fs hk
      split at h
      · rename_i l hl
        split at h
        · rename_i hc
          simp only [Option.some.injEq] at h
          subst h
          obtain ⟨xs, q, _, _, hlen, hxl, hf⟩ := DataW.trod_struct hk ht
          have go : ∀ (fl : List Field) (o : Nat) (shs : List Sh), shFs P (shT P n) o fl = some shs → (∀ f ∈ fl, ∃ y, DataW.trod enc P W 0 (fun _ => true) true q f.type ((cs.drop f.offset).take (P.cellsOf f.type)) = some y) → o + shs.length ≤ cs.length →
              ∃ m, FitL shs m ∧ ∀ (i : Nat) (c : C), m[i]? = some c → PR anyG W c (cs[o + i]?.getD undef) ∧ c.cell = true := by
            intro fl
            induction fl with
            | nil =>
              intro o shs h1 _ _
              simp only [shFs, Option.some.injEq] at h1
              subst h1
              exact ⟨[], rfl, by simp⟩
            | cons f fl ih =>
              intro o shs h1 h2 h3
              unfold shFs at h1
              split at h1
              · rename_i l1 l2 e1 e2
                split at h1
                · rename_i hc2
                  obtain ⟨ho, hl1⟩ := hc2
                  simp only [Option.some.injEq] at h1
                  subst h1
                  simp only [List.length_append] at h3
                  obtain ⟨y, hy⟩ := h2 f (by simp)
                  obtain ⟨m1, p1, p2, p3⟩ := open_sound n e1 hy
                  obtain ⟨m2, p4, p5⟩ := ih (o + P.cellsOf f.type) l2 e2 (fun g hg => h2 g (by simp [hg])) (by omega)
                  have hm1 := p1.len
                  refine ⟨m1 ++ m2, p1.append p4, fun i c hi => ?_⟩
                  rcases Nat.lt_or_ge i m1.length with hlt | hge
                  · rw [List.getElem?_append_left hlt] at hi
                    have := p3 i c hi
                    rw [List.getElem?_take_of_lt (by omega), List.getElem?_drop, ho] at this
                    exact this
                  · rw [List.getElem?_append_right hge] at hi
                    have := p5 _ c hi
                    rw [show o + P.cellsOf f.type + (i - m1.length) = o + i by omega] at this
                    exact this
                · simp at h1
              · simp at h1
          obtain ⟨m, m1, m2⟩ := go fs.toList 0 l hl (fun f hfm => by
            obtain ⟨i, hi, rfl⟩ := List.getElem_of_mem hfm
            have := hf i fs.toList[i] (by simp)
            rw [List.getElem?_eq_getElem (by simp at hi; omega)] at this
            exact ⟨_, this⟩) (by omega)
          exact ⟨m, m1, by rw [m1.len]; omega, fun i c hi => by have := m2 i c hi; rwa [Nat.zero_add] at this⟩
        · simp at h
      · simp at h
    · simp at h

def isAggT (P : Program) (t : TypeId) : Bool :=
 match P.underlying t with
 | some (.struct _) => true
 | _ => false

/-- What the parameters stand for. -/
def ArgsFit (P : Program) : List TypeId → List C → Prop
  | [], cs => cs = []
  | t :: ts, cs => ∃ shs m c r, cs = c :: r ∧ shT P 9 t = some shs ∧ FitL shs m ∧ (if isAggT P t then c = .agg m else m = [c]) ∧ ArgsFit P ts r

theorem open_args : ∀ {ts : List TypeId} {vs : List Value} {ds : List (DataW H)} {ps : List MemPlace}, DataW.TrodAll enc P W 0 (fun _ => true) true ts vs ds ps →
  (∀ (j : Nat) t v, ts[j]? = some t → vs[j]? = some v → ∃ base, Value.okWide P W .any base t v) → (ts.all fun t => (shT P 9 t).isSome) = true →
  ∃ cargs, ArgsFit P ts cargs ∧ cargs.length = vs.length ∧ ∀ (i : Nat) (c : C), cargs[i]? = some c → PR anyG W c (vs[i]?.getD undef)
 | [], [], [], _, _, _, _ => ⟨[], rfl, rfl, by simp⟩
 | t :: ts, v :: vs, d :: ds, ps, h, hv, hs => by
  obtain ⟨p, q, ⟨fuel, h1⟩, h2, _⟩ := h
  simp only [List.all_cons, Bool.and_eq_true] at hs
  obtain ⟨hs1, hs2⟩ := hs
  rw [Option.isSome_iff_exists] at hs1
  obtain ⟨shs, hs1⟩ := hs1
  obtain ⟨m, m1, m2, m3⟩ := open_sound 9 hs1 h1
  obtain ⟨cargs, a1, a2, a3⟩ := open_args h2 (fun j t' v' e1 e2 => hv (j + 1) t' v' (by simpa using e1) (by simpa using e2)) hs2
  obtain ⟨base, hok⟩ := hv 0 t v rfl rfl
  have fin : ∀ c, (if isAggT P t then c = .agg m else m = [c]) → PR anyG W c v → ∃ cargs, ArgsFit P (t :: ts) cargs ∧ cargs.length = (v :: vs).length ∧ ∀ (i : Nat) (c : C), cargs[i]? = some c → PR anyG W c ((v :: vs)[i]?.getD undef) := by
   intro c hc hp
   refine ⟨c :: cargs, ⟨shs, m, c, cargs, rfl, hs1, m1, hc, a1⟩, by simp [a2], fun i c' hi => ?_⟩
   cases i with
   | zero => simp at hi; subst hi; simpa using hp
   | succ i => simp at hi ⊢; exact a3 i c' hi
  by_cases hag : isAggT P t = true
  ·have hag0 := hag
   unfold isAggT at hag
   split at hag
   ·rename_i fs hfs
    obtain ⟨cs, rfl, hcs⟩ := okWide_struct hfs hok
    refine fin (.agg m) (by rw [if_pos hag0]) (.agg (by rw [m2]; simp [Value.cells]) fun i c hi => ?_)
    have := (m3 i c hi).1
    simpa [Value.cells] using this
   ·simp at hag
  ·have hag0 := hag
   have hone : ∃ sh, shs = [sh] ∧ oneCell v = true := by
    unfold isAggT at hag
    unfold shT at hs1
    split at hs1
    ·rename_i k hk
     obtain ⟨n, rfl⟩ := okWide_int hk hok
     exact ⟨_, (by simpa using hs1.symm), rfl⟩
    ·rename_i hk
     obtain ⟨n, rfl⟩ := okWide_bool hk hok
     exact ⟨_, (by simpa using hs1.symm), rfl⟩
    ·rename_i hk
     obtain ⟨n, rfl⟩ := okWide_string hk hok
     exact ⟨_, (by simpa using hs1.symm), rfl⟩
    ·rename_i e hk
     obtain ⟨a, l, cp, rfl⟩ := okWide_slice hk hok
     split at hs1
     ·split at hs1
      ·exact ⟨_, (by simpa using hs1.symm), rfl⟩
      ·simp at hs1
     ·simp at hs1
    ·rename_i fs hk
     rw [hk] at hag; simp at hag
    ·simp at hs1
   obtain ⟨sh, rfl, hov⟩ := hone
   have hm := m1.len
   have hm1 : m.length = 1 := hm
   obtain ⟨c, rfl⟩ := List.length_eq_one_iff.1 hm1
   refine fin c (by rw [if_neg hag0]) ?_
   have := (m3 0 c rfl).1
   rw [cells_one hov] at this
   simpa using this
 | [], _ :: _, _, _, h, _, _ => h.elim
 | [], [], _ :: _, _, h, _, _ => h.elim
 | _ :: _, [], _, _, h, _, _ => h.elim
 | _ :: _, _ :: _, [], _, h, _, _ => h.elim

/-- No slice of things without size. -/
def noEmptyB (P : Program) : Bool := (List.range P.types.size).all fun t => match P.underlying t with
  | some (.slice e) => decide (0 < P.cellsOf e)
  | _ => true

theorem same_of {W' : World} (g : Grew W W') {p : MemPlace} (h : p.block < W.heap.size) : W.sameAt W' p := by
 cases p with
 | cell b off =>
  show W'.cell? _ = W.cell? _
  unfold World.cell?
  rw [g.heap b h]
 | map b => exact g.heap b h

theorem shut_args {W' : World} (hl : laidOutB P = true) (hm : mapsRowed P = true) (hz : noEmptyB P = true) (g : Grew W W') {sp : Nat → Bool} : ∀ {ts : List TypeId} {vs : List Value} {ds : List (DataW H)} {ps : List MemPlace},
  (ts.all fun t => decide (t < P.types.size)) = true → DataW.TrodAll enc P W 0 (fun _ => true) true ts vs ds ps → (∀ p ∈ ps, p.block < W.heap.size) → (∀ p ∈ ps, sp p.block = true) → DataW.TrodAll enc P W' 0 sp true ts vs ds ps
 | [], [], [], _, _, h, _, _ => h
 | t :: ts, v :: vs, d :: ds, ps, ht, h, hb, hs => by
  obtain ⟨p, q, ⟨fuel, h1⟩, h2, rfl⟩ := h
  simp only [List.all_cons, Bool.and_eq_true, decide_eq_true_eq] at ht
  refine ⟨p, q, ⟨fuel, ?_⟩, shut_args hl hm hz g ht.2 h2 (fun r hr => hb r (by simp [hr])) (fun r hr => hs r (by simp [hr])), rfl⟩
  refine DataW.trod_stays (T := (· < P.types.size)) (kids_rows hl hm) (fun {t e} h3 h4 => ?_) (fun h => by simp at h) ht.1 h1 (fun r hr => same_of g (hb r (by simp; exact .inl hr))) (fun r hr => hs r (by simp; exact .inl hr))
  unfold noEmptyB at hz
  rw [List.all_eq_true] at hz
  have := hz t (by simpa using h3)
  rw [h4] at this
  simpa using this
 | [], _ :: _, _, _, _, h, _, _ => h.elim
 | [], [], _ :: _, _, _, h, _, _ => h.elim
 | _ :: _, [], _, _, _, h, _, _ => h.elim
 | _ :: _, _ :: _, [], _, _, h, _, _ => h.elim

theorem kept_of {W' : World} (g : Grew W W') (may : MemPlace → Prop) : W.keptBut W' may := by
 refine ⟨g.os, g.output, fun i hi => ?_⟩
 rw [g.heap i hi]
 cases h : W.heap[i]? with
 | none => trivial
 | some o => cases o <;> simp

/-- A LAW's STATEMENT, from a contract of data. -/
theorem law_contract {f : FuncId} {fn : Func} {s : ChangeSpec} {tb : TypeId} (hrt : fn.resultTypes = #[tb]) (htb : P.underlying tb = some .bool) (hvars : s.vars = [])
    (hspec : ∀ (ds : List (DataW H)), ds.length = fn.params.toList.length → s.fn H ds = { results := [.lit (.bool true)], args := ds })
    (hl : laidOutB P = true) (hm : mapsRowed P = true) (hz : noEmptyB P = true) (ht : (fn.params.toList.all fun t => decide (t < P.types.size)) = true) (hsh : (fn.params.toList.all fun t => (shT P 9 t).isSome) = true)
    (hcall : ∀ cargs, ArgsFit P fn.params.toList cargs → Pure P f cargs (.bool true))
    (W : World) (base : Nat) (args : Array Value) (ds gs : List (DataW H)) (before : List MemPlace) (hval : ∀ (j : Nat) t v, fn.params[j]? = some t → args[j]? = some v → Value.okWide P W .any base t v)
    (hW : DataW.Whole enc P fn.params.toList s.vars false W args.toList ds gs before) :
    Calls P f args W fun e W' => ∃ v, e = .returned v ∧ s.post enc P fn false true false false W args v W' := by
  have hW' := hW
  obtain ⟨p, q, hA, hV, rfl, hfz, hnd⟩ := hW
  rw [hvars] at hV
  obtain ⟨rfl, rfl⟩ := trodVars_none hV
  obtain ⟨cargs, c1, c2, c3⟩ := open_args hA (fun j t v e1 e2 => ⟨base, hval j t v (by simpa using e1) (by simpa using e2)⟩) hsh
  have hlen : ds.length = fn.params.toList.length := by
    have : ∀ {ts : List TypeId} {vs : List Value} {ds : List (DataW H)} {ps : List MemPlace}, DataW.TrodAll enc P W 0 (fun _ => true) true ts vs ds ps → ds.length = ts.length := by
      intro ts
      induction ts with
      | nil => intro vs ds ps h; cases vs <;> cases ds <;> first | rfl | exact h.elim
      | cons t ts ih =>
        intro vs ds ps h
        cases vs with
        | nil => exact h.elim
        | cons v vs =>
          cases ds with
          | nil => exact h.elim
          | cons d ds =>
            obtain ⟨_, _, _, h2, _⟩ := h
            simp [ih h2]
    exact this hA
  refine ((hcall cargs c1).calls anyG W args ⟨by simpa using c2.symm, fun i c hi => by have := c3 i c hi; simpa using this⟩).mono ?_
  rintro e W' ⟨v, rfl, hr, g⟩
  cases hr
  refine ⟨_, rfl, ds, [], p, [], p, [], ?_, ?_, ?_, ?_, kept_of g _, by simp⟩
  · simpa using hW'
  · rw [hspec (ds ++ []) (by simpa using hlen), hrt]
    refine ⟨[], [], ⟨1, ?_⟩, rfl, rfl⟩
    simp [DataW.trod, htb, Value.cells]
  · rw [hspec (ds ++ []) (by simpa using hlen)]
    simp only [List.append_nil]
    have hlt := hW'.lt
    exact shut_args hl hm hz g ht hA (fun r hr => hlt r (by simpa using hr)) (fun r hr => by simpa using hlt r (by simpa using hr))
  · rw [hvars, hspec (ds ++ []) (by simpa using hlen)]
    rfl
end
end Go.Abs

namespace Go.Proofs.YtbelmomdndjjkaaGreat
open Go Go.Abs

set_option maxHeartbeats 2000000
set_option maxRecDepth 100000

-- what comes in

abbrev i64s (n : Nat) : List Sh := List.replicate n (.int .i64)

theorem rows_map {α : Type} {f : α → List C} : ∀ {rows : List (List C)}, (∀ row ∈ rows, ∃ a, row = f a) → ∃ l : List α, rows = l.map f
 | [], _ => ⟨[], rfl⟩
 | r :: rows, h => by
  obtain ⟨a, rfl⟩ := h r (by simp)
  obtain ⟨l, rfl⟩ := rows_map (rows := rows) fun x hx => h x (by simp [hx])
  exact ⟨a :: l, rfl⟩

theorem fit_app {l : List Sh} : ∀ {n : Nat} {m : List C}, FitL (i64s n ++ l) m → ∃ (zs : List Int) (r : List C), zs.length = n ∧ m = zs.map encI ++ r ∧ FitL l r
 | 0, m, h => ⟨[], m, rfl, rfl, by simpa using h⟩
 | n + 1, m, h => by
  simp only [i64s, List.replicate_succ, List.cons_append, FitL, Fit] at h
  obtain ⟨c, r, rfl, ⟨z, rfl, _⟩, h2⟩ := h
  obtain ⟨zs, r', h3, rfl, h4⟩ := fit_app h2
  exact ⟨z :: zs, r', by simp [h3], rfl, h4⟩

theorem fit_flat {n : Nat} {m : List C} (h : FitL (i64s n) m) : ∃ zs : List Int, zs.length = n ∧ m = zs.map encI := by
 have h' : FitL (i64s n ++ []) m := by simpa using h
 obtain ⟨zs, r, h1, h2, h3⟩ := fit_app h'
 simp only [FitL] at h3
 subst h3
 exact ⟨zs, h1, by simpa using h2⟩

theorem fit_sl {s l : List Sh} {m : List C} (h : FitL (.sl s :: l) m) : ∃ (nl : Bool) (rows r : List (List C)) (m' : List C), m = .sl nl false rows :: m' ∧ (∀ row ∈ rows, FitL s row) ∧ FitL l m' := by
 simp only [FitL, Fit] at h
 obtain ⟨c, r, rfl, ⟨nl, rows, rfl, _, _, h5⟩, h6⟩ := h
 exact ⟨nl, rows, [], r, rfl, h5, h6⟩

theorem arg_agg {t : TypeId} {s : List Sh} (hs : shT Tryz.prog 9 t = some s) (ha : isAggT Tryz.prog t = true) {cs : List C} {ts : List TypeId} (h : ArgsFit Tryz.prog (t :: ts) cs) : ∃ (m r : List C), cs = .agg m :: r ∧ FitL s m ∧ ArgsFit Tryz.prog ts r := by
 simp only [ArgsFit] at h
 obtain ⟨shs, m, c, r, rfl, h1, h2, h3, h4⟩ := h
 rw [hs] at h1
 cases h1
 rw [ha, if_pos rfl] at h3
 subst h3
 exact ⟨m, r, rfl, h2, h4⟩

theorem fit_walks {rows : List (List C)} (h : ∀ row ∈ rows, FitL (i64s 5) row) : ∃ l : List Wl, rows = l.map cWl := by
 refine rows_map fun row hr => ?_
 obtain ⟨zs, e1, rfl⟩ := fit_flat (h row hr)
 match zs, e1 with
 | [a, b, c, d, e], _ => exact ⟨⟨a, b, c, d, e⟩, rfl⟩

theorem fit_test {l : List Sh} {m : List C} (h : FitL (.int .i64 :: .sl (i64s 5) :: l) m) : ∃ (y : Ts) (m' : List C), m = cTs y ++ m' ∧ FitL l m' := by
 have h' : FitL (i64s 1 ++ (.sl (i64s 5) :: l)) m := h
 obtain ⟨zs, r, e1, rfl, h2⟩ := fit_app h'
 obtain ⟨nl, rows, _, m', rfl, h3, h4⟩ := fit_sl h2
 obtain ⟨wl, rfl⟩ := fit_walks h3
 match zs, e1 with
 | [a], _ => exact ⟨⟨a, nl, false, wl⟩, m', rfl, h4⟩

theorem arg_end {cs : List C} (h : ArgsFit Tryz.prog [] cs) : cs = [] := h

end Go.Proofs.YtbelmomdndjjkaaGreat

/- The facts of the program that every statement's join asks. No condition. -/
namespace Go.Proofs.YtbelmomdndjjkaaGreat
open Go Go.Abs
open Go.ChangeShapes Go.WideShapes Go.ChangeAt Go.RowKit

theorem J.own : ownKnob Tryz.prog.godebug = none := by kernel_rfl
theorem J.laid : laidOutB Tryz.prog = true := by kernel_rfl
theorem J.maps : mapsRowed Tryz.prog = true := by kernel_rfl
theorem J.sized : noEmptyB Tryz.prog = true := by kernel_rfl
theorem J.ub : Tryz.prog.underlying 4 = some .bool := by kernel_rfl
end Go.Proofs.YtbelmomdndjjkaaGreat

namespace Go.Proofs.YtbelmomdndjjkaaGreat
open Go Go.Abs

set_option maxHeartbeats 2000000
set_option maxRecDepth 100000

theorem shTr : shT Tryz.prog 9 28 = some (i64s 9 ++ [.sl [.int .i64, .sl (i64s 5)]]) := by kernel_rfl
theorem agTr : isAggT Tryz.prog 28 = true := by kernel_rfl
theorem shDy : shT Tryz.prog 9 32 = some (i64s 6) := by kernel_rfl
theorem agDy : isAggT Tryz.prog 32 = true := by kernel_rfl

theorem argTrial {cs : List C} {ts : List TypeId} (h : ArgsFit Tryz.prog (28 :: ts) cs) : ∃ (t : Ti) (r : List C), cs = encTi t :: r ∧ ArgsFit Tryz.prog ts r := by
 obtain ⟨m, r, rfl, h1, h2⟩ := arg_agg shTr agTr h
 obtain ⟨zs, r', e1, rfl, h3⟩ := fit_app h1
 obtain ⟨nl, rows, _, m', rfl, h4, h5⟩ := fit_sl h3
 simp only [FitL] at h5
 subst h5
 obtain ⟨l, rfl⟩ := rows_map (f := cTs) (rows := rows) fun row hr => by
  obtain ⟨y, m', rfl, h6⟩ := fit_test (l := []) (h4 row hr)
  simp only [FitL] at h6
  subst h6
  exact ⟨y, by simp⟩
 match zs, e1 with
 | [a, b, c, d, e, f, g, i, j], _ => exact ⟨⟨⟨a, b, c, d, e, f, g, i⟩, j, nl, false, l⟩, r, rfl, h2⟩

theorem argDays {cs : List C} {ts : List TypeId} (h : ArgsFit Tryz.prog (32 :: ts) cs) : ∃ (a b c d : Int) (k : Cl) (r : List C), cs = .agg [encI a, encI b, encI c, encI d, encI k.size, encI k.most] :: r ∧ ArgsFit Tryz.prog ts r := by
 obtain ⟨m, r, rfl, h1, h2⟩ := arg_agg shDy agDy h
 obtain ⟨zs, e1, rfl⟩ := fit_flat h1
 match zs, e1 with
 | [a, b, c, d, e, f], _ => exact ⟨a, b, c, d, ⟨e, f⟩, r, rfl, h2⟩

set_option maxHeartbeats 4000000

-- arms

structure Arm where
 un : Int
 ud : Int
 rn : Int
 rd : Int
 low : Int
 high : Int
@[simp] abbrev cArm (a : Arm) : List C := [encI a.un, encI a.ud, encI a.rn, encI a.rd, encI a.low, encI a.high]
@[simp] abbrev encArm (a : Arm) : C := .agg (cArm a)
@[simp] abbrev encR (r : Int × Int) : C := .agg [encI r.1, encI r.2]
@[simp] abbrev obR (r : Int × Int) : Ob := ⟨false, false, 2, [[encI r.1, encI r.2]]⟩
@[simp] abbrev obArm (a : Arm) : Ob := ⟨false, false, 6, [cArm a]⟩

def ratioB (r : Int × Int) : Bool := withinB r.2 1 1000000 && withinB r.1 (-1000000) 1000000
def gI (n d : Int) : Int := (Int.gcd n d : Nat)
def redI (n d : Int) : Int × Int := (n.tdiv (gI n d), d.tdiv (gI n d))
def toldI (n d : Int) : (Int × Int) × Int := if ratioB (redI n d) then (redI n d, 0) else ((0, 0), 2)
def armB (a : Arm) : Bool := withinB a.un 1 100 && withinB a.ud 1 100 && withinB a.rn 1 100 && withinB a.rd 1 100 && withinB a.low 1 a.high && decide (a.high ≤ 10000)
def valI (a : Arm) (s : Int) : (Int × Int) × Int := if armB a = false then ((0, 0), 11) else if withinB s a.low a.high = false then ((0, 0), 1) else toldI (s * a.un * a.rn) (a.ud * a.rd)
theorem gI_pos {n d : Int} (h : 0 < d) : 0 < gI n d := by
 unfold gI
 have : 0 < Int.gcd n d := Int.gcd_pos_of_ne_zero_right _ (by omega)
 omega

theorem tdiv_bd {a g B : Int} (h : -B ≤ a ∧ a ≤ B) : -B ≤ a.tdiv g ∧ a.tdiv g ≤ B := by
 have h1 : (a.tdiv g).natAbs = a.natAbs / g.natAbs := Int.natAbs_tdiv _ _
 have h2 : a.natAbs / g.natAbs ≤ a.natAbs := Nat.div_le_self _ _
 omega

theorem gcd_step (a b : Int) : Int.gcd b (a.tmod b) = Int.gcd a b := by
 unfold Int.gcd
 rw [Int.natAbs_tmod, Nat.gcd_comm, ← Nat.gcd_rec, Nat.gcd_comm]

theorem gcd_z (a : Int) : (Int.gcd a 0 : Int) = a.natAbs := by simp

theorem tmod_lt {a b : Int} (h : b ≠ 0) : (a.tmod b).natAbs < b.natAbs := by
 rw [Int.natAbs_tmod]
 exact Nat.mod_lt _ (by omega)

theorem absM (n : Int) : (if n < -n then -n else n) = (n.natAbs : Int) := by split <;> omega

theorem abs104 (n : Int) (h : -1000000000000000 ≤ n ∧ n ≤ 1000000000000000) : Pure Tryz.prog 121 [encI n] (encI n.natAbs) := by
 have hw := wrap_id (z := -n) (by omega) (by omega)
 have ha := absM n
 refine ZF (fn := Tryz.f121) [.tmp 2] ⟨Tryz.func121, rfl, by kernel_rfl⟩ fun x hx hσ => ?_
 (repeat refine ZQ ?_); refine ZR fun K hK => ?_; simp (maxSteps := 1000000); refine hK _ ?_; clear hK K
 (repeat refine ZQ ?_); refine ZR fun K hK => ?_; simp (maxSteps := 1000000) [ty3, hw, ha]; refine hK _ ?_; clear hK K
 (repeat refine ZQ ?_); refine awp_ret ?_; refine And.intro (Or.inr rfl) ?_
 simp [retC, resC, viewC, mapO]

theorem within96 (n lo hi : Int) : Pure Tryz.prog 92 [encI n, encI lo, encI hi] (.bool (withinB n lo hi)) := by
 refine ZF (fn := Tryz.f92) [.tmp 6] ⟨Tryz.func92, rfl, by kernel_rfl⟩ fun x hx hσ => ?_
 (repeat refine ZQ ?_); refine ZR fun K hK => ?_; simp (maxSteps := 1000000); refine hK _ ?_; clear hK K; (first | show AWP _ _ _ _ _ | show ∃ _, _ | skip)
 by_cases h : lo ≤ n
 ·(repeat refine ZQ ?_); refine ZR fun K hK => ?_; simp (maxSteps := 1000000) [ty3, h]; refine hK _ ?_; clear hK K
  (repeat refine ZQ ?_); refine awp_ret ?_; refine And.intro (Or.inr rfl) ?_
  simp [retC, resC, viewC, mapO, withinB, h]
 ·(repeat refine ZQ ?_); refine ZR fun K hK => ?_; simp (maxSteps := 1000000) [ty3, h]; refine hK _ ?_; clear hK K
  (repeat refine ZQ ?_); refine awp_ret ?_; refine And.intro (Or.inr rfl) ?_
  simp [retC, resC, viewC, mapO, withinB, h]

theorem ratio98 (r : Int × Int) : Pure Tryz.prog 94 [encR r] (.bool (ratioB r)) := by
 have h1 := within96 r.2 1 1000000
 have h2 := within96 r.1 (-1000000) 1000000
 refine ZF (fn := Tryz.f94) [.tmp 2] ⟨Tryz.func94, rfl, by kernel_rfl⟩ fun x hx hσ => ?_
 (repeat refine ZQ ?_); refine ZR fun K hK => ?_; simp (maxSteps := 1000000) [ty106]; refine hK _ ?_; clear hK K; (first | show AWP _ _ _ _ _ | show ∃ _, _ | skip)
 cases hb : withinB r.2 1 1000000
 ·rw [hb] at h1
  (repeat refine ZQ ?_); refine ZR fun K hK => ?_; simp (maxSteps := 1000000) [ty106, ty3]
  refine ZP (h1) ?_; simp (maxSteps := 1000000) [ty4]
  refine hK _ ?_; clear hK K
  (repeat refine ZQ ?_); refine awp_ret ?_; refine And.intro (Or.inr rfl) ?_
  simp [retC, resC, viewC, mapO, ratioB, hb]
 ·rw [hb] at h1
  (repeat refine ZQ ?_); refine ZR fun K hK => ?_; simp (maxSteps := 1000000) [ty106, ty3]
  refine ZP (h1) ?_; simp (maxSteps := 1000000) [ty4, ty106, ty3]
  refine ZP (h2) ?_; simp (maxSteps := 1000000) [ty4]
  refine hK _ ?_; clear hK K
  (repeat refine ZQ ?_); refine awp_ret ?_; refine And.intro (Or.inr rfl) ?_
  simp [retC, resC, viewC, mapO, ratioB, hb]

theorem reduced97 (n d : Int) (hn : -1000000000000 ≤ n ∧ n ≤ 1000000000000) (hd : 0 < d ∧ d ≤ 1000000000000) : Pure Tryz.prog 93 [encI n, encI d] (encR (redI n d)) := by
 have hg := gI_pos (n := n) hd.1
 have b1 := tdiv_bd (g := gI n d) hn
 have b2 := tdiv_bd (g := gI n d) (a := d) (B := 1000000000000) (by omega)
 have w1 := wrap_id (z := n.tdiv (gI n d)) (by omega) (by omega)
 have w2 := wrap_id (z := d.tdiv (gI n d)) (by omega) (by omega)
 have hg0 : gI n d ≠ 0 := by omega
 refine ZF (fn := Tryz.f93) [.cell 4 106] ⟨Tryz.func93, rfl, by kernel_rfl⟩ fun x hx hσ => ?_
 (repeat refine ZQ ?_); refine ZR fun K hK => ?_; simp (maxSteps := 1000000) [ty106]; refine hK _ ?_; clear hK K
 (repeat refine ZQ ?_); refine ZR fun K hK => ?_; simp (maxSteps := 1000000)
 refine ZP (abs104 n (by omega)) ?_; simp (maxSteps := 1000000)
 refine hK _ ?_; clear hK K
 (repeat refine ZQ ?_); refine awp_block ?_
 refine awp_loop (fun p : Int × Int => ⟨ofL [(0, encI n), (1, encI d), (4, .ptr 4 2 0 0), (5, encI p.1), (6, encI p.2)], stoT [(4, 4, .live (obR (0, 0)))]⟩)
  (fun p => (0 ≤ p.1 ∧ p.1 ≤ 1000000000000) ∧ (0 ≤ p.2 ∧ p.2 ≤ 1000000000000) ∧ (Int.gcd p.1 p.2 : Int) = gI n d) (fun p => p.2.natAbs) ((n.natAbs : Int), d) ⟨by simp only; omega, by simp only; omega, by unfold gI Int.gcd; rw [Int.natAbs_natCast]⟩ ?_ ?_
 ·exact Zw
 ·rintro ⟨a, b⟩ ⟨ha, hb, hgc⟩
  simp only at ha hb hgc
  by_cases hz : b = 0
  ·(repeat refine ZQ ?_); refine ZR fun K hK => ?_; simp (maxSteps := 1000000) [ty3, hz]; refine hK _ ?_; clear hK K
   (repeat refine ZQ ?_); refine ZC (hc := by simp [hz]; rfl) (fun hd0 => ?_) (fun hd0 => ?_)
   ·simp [hz] at hd0
   ·clear hd0
    (repeat refine ZQ ?_); refine awp_exit ?_; (first | show AWP _ _ _ _ _ | show ∃ _, _ | skip)
    have hag : a = gI n d := by
     rw [hz, gcd_z] at hgc
     omega
    rw [hag]
    (repeat refine ZQ ?_); refine ZD [] [0, 1, 2, 3, 4, 5, 6, 7] fun K hK => ?_; simp (maxSteps := 1000000) [ty3, ty106, hg0, w1, w2]; refine hK _ ?_; clear hK K
    (repeat refine ZQ ?_); refine awp_ret ?_; refine And.intro (Or.inr rfl) ?_
    simp [retC, resC, viewC, mapO, ty106, redI]
  ·(repeat refine ZQ ?_); refine ZR fun K hK => ?_; simp (maxSteps := 1000000) [ty3, hz]; refine hK _ ?_; clear hK K
   (repeat refine ZQ ?_); refine ZC (hc := by simp [hz]; rfl) (fun hd0 => ?_) (fun hd0 => ?_)
   ·clear hd0
    refine awp_skip ?_
    (repeat refine ZQ ?_); refine awp_block ?_
    have hlt := tmod_lt (a := a) hz
    have hnn : 0 ≤ a.tmod b := Int.tmod_nonneg _ ha.1
    have w3 := wrap_id (z := a.tmod b) (by omega) (by omega)
    (repeat refine ZQ ?_); refine ZD [] [0, 1, 2, 3, 4, 5] fun K hK => ?_; simp (maxSteps := 1000000) [ty3, hz, w3]; refine hK _ ?_; clear hK K; (first | show AWP _ _ _ _ _ | show ∃ _, _ | skip)
    refine ⟨(b, a.tmod b), ⟨hb, ⟨hnn, by simp only; omega⟩, ?_⟩, hlt, ?_⟩
    ·simp only
     rw [gcd_step]
     exact hgc
    ·exact Zw
   ·simp [hz] at hd0

theorem told85 (n d : Int) (hn : -1000000000000 ≤ n ∧ n ≤ 1000000000000) (hd : 0 < d ∧ d ≤ 1000000000000) : Pure Tryz.prog 75 [encI n, encI d] (.tup [encR (toldI n d).1, encI (toldI n d).2]) := by
 have hr := ratio98 (redI n d)
 refine ZF (fn := Tryz.f75) [.cell 4 106, .tmp 5] ⟨Tryz.func75, rfl, by kernel_rfl⟩ fun x hx hσ => ?_
 (repeat refine ZQ ?_); refine ZR fun K hK => ?_; simp (maxSteps := 1000000) [ty106]; refine hK _ ?_; clear hK K
 (repeat refine ZQ ?_); refine ZR fun K hK => ?_; simp (maxSteps := 1000000) [ty106]
 refine ZP (reduced97 n d hn hd) ?_; simp (maxSteps := 1000000) [ty106]
 refine hK _ ?_; clear hK K
 (repeat refine ZQ ?_); refine ZR fun K hK => ?_; simp (maxSteps := 1000000) [ty106]
 refine ZP (hr) ?_; simp (maxSteps := 1000000) [ty4]
 refine hK _ ?_; clear hK K; (first | show AWP _ _ _ _ _ | show ∃ _, _ | skip)
 cases hb : ratioB (redI n d)
 ·have ht : toldI n d = ((0, 0), 2) := by unfold toldI; rw [hb]; rfl
  (repeat refine ZQ ?_); refine ZC (hc := by simp [hb]; rfl) (fun hd0 => ?_) (fun hd0 => ?_)
  ·clear hd0
   (repeat refine ZQ ?_); refine ZR fun K hK => ?_; simp (maxSteps := 1000000) [ty106]; refine hK _ ?_; clear hK K
   (repeat refine ZQ ?_); refine awp_ret ?_; refine And.intro (Or.inr rfl) ?_
   simp [retC, resC, viewC, mapO, ty106, ht]
  ·simp at hd0
 ·have ht : toldI n d = (redI n d, 0) := by unfold toldI; rw [hb]; rfl
  (repeat refine ZQ ?_); refine ZC (hc := by simp [hb]; rfl) (fun hd0 => ?_) (fun hd0 => ?_)
  ·simp at hd0
  ·clear hd0
   refine awp_skip ?_
   (repeat refine ZQ ?_); refine ZR fun K hK => ?_; simp (maxSteps := 1000000) [ty106]; refine hK _ ?_; clear hK K
   (repeat refine ZQ ?_); refine awp_ret ?_; refine And.intro (Or.inr rfl) ?_
   simp [retC, resC, viewC, mapO, ty106, ht]

set_option maxHeartbeats 4000000

def partL (a : Arm) : List Int := [a.un, a.ud, a.rn, a.rd]


theorem isArm83 (a : Arm) : Pure Tryz.prog 73 [encArm a] (.bool (armB a)) := by
 refine ZF (fn := Tryz.f73) [.tmp 2] ⟨Tryz.func73, rfl, by kernel_rfl⟩ fun x hx hσ => ?_
 (repeat refine ZQ ?_); refine ZR fun K hK => ?_; simp (maxSteps := 1000000) [ty108]; refine hK _ ?_; clear hK K
 (repeat refine ZQ ?_); refine ZR fun K hK => ?_; simp (maxSteps := 1000000) [ty108, ty106, ty3, ty158]; refine hK _ ?_; clear hK K
 (repeat refine ZQ ?_); refine awp_block ?_
 refine awp_loop (fun i : Nat => ⟨ofL [(1, .ptr 1 6 0 0), (17, .agg [encI a.un, encI a.ud, encI a.rn, encI a.rd]), (18, encI i)], stoT [(1, 1, .live (obArm a))]⟩)
  (fun i => i ≤ 4 ∧ ∀ j, j < i → withinB ((partL a).getD j 0) 1 100 = true) (fun i => 4 - i) 0 ⟨Nat.zero_le _, fun j h => by omega⟩ ?_ ?_
 ·exact Zw
 ·rintro i ⟨hi, hq⟩
  (repeat refine ZQ ?_); refine ZR fun K hK => ?_; simp (maxSteps := 1000000) [ty3]; refine hK _ ?_; clear hK K
  (repeat refine ZQ ?_); refine ZC (fun hc => ?_) (fun hc => ?_)
  ·simp at hc
   refine awp_skip ?_
   (repeat refine ZQ ?_); refine awp_block ?_
   have hi4 : i = 0 ∨ i = 1 ∨ i = 2 ∨ i = 3 := by omega
   rcases hi4 with rfl | rfl | rfl | rfl
   ·have hw := within96 a.un 1 100
    (repeat refine ZQ ?_); refine ZR fun K hK => ?_; simp (maxSteps := 1000000) [ty158, ty3]; refine hK _ ?_; clear hK K
    (repeat refine ZQ ?_); refine ZR fun K hK => ?_; simp (maxSteps := 1000000) [ty3]
    refine ZP (hw) ?_; simp (maxSteps := 1000000) [ty4]
    refine hK _ ?_; clear hK K; (first | show AWP _ _ _ _ _ | show ∃ _, _ | skip)
    cases hb : withinB a.un 1 100
    ·(repeat refine ZQ ?_); refine ZC (hc := by simp [hb]; rfl) (fun hd => ?_) (fun hd => ?_)
     ·clear hd
      (repeat refine ZQ ?_); refine ZR fun K hK => ?_; simp (maxSteps := 1000000); refine hK _ ?_; clear hK K
      (repeat refine ZQ ?_); refine awp_ret ?_; refine And.intro (Or.inr rfl) ?_
      simp [retC, resC, viewC, mapO, armB, hb]
     ·simp at hd
    ·(repeat refine ZQ ?_); refine ZC (hc := by simp [hb]; rfl) (fun hd => ?_) (fun hd => ?_)
     ·simp at hd
     ·clear hd
      refine awp_skip ?_
      (repeat refine ZQ ?_); refine ZR fun K hK => ?_; simp (maxSteps := 1000000) [ty3]; refine hK _ ?_; clear hK K; (first | show AWP _ _ _ _ _ | show ∃ _, _ | skip)
      refine ⟨0 + 1, ⟨by omega, fun j hj => ?_⟩, by omega, ?_⟩
      ·have hj4 : j = 0 ∨ j < 0 := by omega
       rcases hj4 with rfl | hj4
       ·exact hb
       ·exact hq j hj4
      ·exact Zw
   ·have p0 : withinB a.un 1 100 = true := hq 0 (by omega)
    have hw := within96 a.ud 1 100
    (repeat refine ZQ ?_); refine ZR fun K hK => ?_; simp (maxSteps := 1000000) [ty158, ty3]; refine hK _ ?_; clear hK K
    (repeat refine ZQ ?_); refine ZR fun K hK => ?_; simp (maxSteps := 1000000) [ty3]
    refine ZP (hw) ?_; simp (maxSteps := 1000000) [ty4]
    refine hK _ ?_; clear hK K; (first | show AWP _ _ _ _ _ | show ∃ _, _ | skip)
    cases hb : withinB a.ud 1 100
    ·(repeat refine ZQ ?_); refine ZC (hc := by simp [hb]; rfl) (fun hd => ?_) (fun hd => ?_)
     ·clear hd
      (repeat refine ZQ ?_); refine ZR fun K hK => ?_; simp (maxSteps := 1000000); refine hK _ ?_; clear hK K
      (repeat refine ZQ ?_); refine awp_ret ?_; refine And.intro (Or.inr rfl) ?_
      simp [retC, resC, viewC, mapO, armB, hb]
     ·simp at hd
    ·(repeat refine ZQ ?_); refine ZC (hc := by simp [hb]; rfl) (fun hd => ?_) (fun hd => ?_)
     ·simp at hd
     ·clear hd
      refine awp_skip ?_
      (repeat refine ZQ ?_); refine ZR fun K hK => ?_; simp (maxSteps := 1000000) [ty3]; refine hK _ ?_; clear hK K; (first | show AWP _ _ _ _ _ | show ∃ _, _ | skip)
      refine ⟨1 + 1, ⟨by omega, fun j hj => ?_⟩, by omega, ?_⟩
      ·have hj4 : j = 1 ∨ j < 1 := by omega
       rcases hj4 with rfl | hj4
       ·exact hb
       ·exact hq j hj4
      ·exact Zw
   ·have p0 : withinB a.un 1 100 = true := hq 0 (by omega)
    have p1 : withinB a.ud 1 100 = true := hq 1 (by omega)
    have hw := within96 a.rn 1 100
    (repeat refine ZQ ?_); refine ZR fun K hK => ?_; simp (maxSteps := 1000000) [ty158, ty3]; refine hK _ ?_; clear hK K
    (repeat refine ZQ ?_); refine ZR fun K hK => ?_; simp (maxSteps := 1000000) [ty3]
    refine ZP (hw) ?_; simp (maxSteps := 1000000) [ty4]
    refine hK _ ?_; clear hK K; (first | show AWP _ _ _ _ _ | show ∃ _, _ | skip)
    cases hb : withinB a.rn 1 100
    ·(repeat refine ZQ ?_); refine ZC (hc := by simp [hb]; rfl) (fun hd => ?_) (fun hd => ?_)
     ·clear hd
      (repeat refine ZQ ?_); refine ZR fun K hK => ?_; simp (maxSteps := 1000000); refine hK _ ?_; clear hK K
      (repeat refine ZQ ?_); refine awp_ret ?_; refine And.intro (Or.inr rfl) ?_
      simp [retC, resC, viewC, mapO, armB, hb]
     ·simp at hd
    ·(repeat refine ZQ ?_); refine ZC (hc := by simp [hb]; rfl) (fun hd => ?_) (fun hd => ?_)
     ·simp at hd
     ·clear hd
      refine awp_skip ?_
      (repeat refine ZQ ?_); refine ZR fun K hK => ?_; simp (maxSteps := 1000000) [ty3]; refine hK _ ?_; clear hK K; (first | show AWP _ _ _ _ _ | show ∃ _, _ | skip)
      refine ⟨2 + 1, ⟨by omega, fun j hj => ?_⟩, by omega, ?_⟩
      ·have hj4 : j = 2 ∨ j < 2 := by omega
       rcases hj4 with rfl | hj4
       ·exact hb
       ·exact hq j hj4
      ·exact Zw
   ·have p0 : withinB a.un 1 100 = true := hq 0 (by omega)
    have p1 : withinB a.ud 1 100 = true := hq 1 (by omega)
    have p2 : withinB a.rn 1 100 = true := hq 2 (by omega)
    have hw := within96 a.rd 1 100
    (repeat refine ZQ ?_); refine ZR fun K hK => ?_; simp (maxSteps := 1000000) [ty158, ty3]; refine hK _ ?_; clear hK K
    (repeat refine ZQ ?_); refine ZR fun K hK => ?_; simp (maxSteps := 1000000) [ty3]
    refine ZP (hw) ?_; simp (maxSteps := 1000000) [ty4]
    refine hK _ ?_; clear hK K; (first | show AWP _ _ _ _ _ | show ∃ _, _ | skip)
    cases hb : withinB a.rd 1 100
    ·(repeat refine ZQ ?_); refine ZC (hc := by simp [hb]; rfl) (fun hd => ?_) (fun hd => ?_)
     ·clear hd
      (repeat refine ZQ ?_); refine ZR fun K hK => ?_; simp (maxSteps := 1000000); refine hK _ ?_; clear hK K
      (repeat refine ZQ ?_); refine awp_ret ?_; refine And.intro (Or.inr rfl) ?_
      simp [retC, resC, viewC, mapO, armB, hb]
     ·simp at hd
    ·(repeat refine ZQ ?_); refine ZC (hc := by simp [hb]; rfl) (fun hd => ?_) (fun hd => ?_)
     ·simp at hd
     ·clear hd
      refine awp_skip ?_
      (repeat refine ZQ ?_); refine ZR fun K hK => ?_; simp (maxSteps := 1000000) [ty3]; refine hK _ ?_; clear hK K; (first | show AWP _ _ _ _ _ | show ∃ _, _ | skip)
      refine ⟨3 + 1, ⟨by omega, fun j hj => ?_⟩, by omega, ?_⟩
      ·have hj4 : j = 3 ∨ j < 3 := by omega
       rcases hj4 with rfl | hj4
       ·exact hb
       ·exact hq j hj4
      ·exact Zw
  ·simp at hc
   (repeat refine ZQ ?_); refine awp_exit ?_; (first | show AWP _ _ _ _ _ | show ∃ _, _ | skip)
   have h4 : i = 4 := by omega
   have p0 : withinB a.un 1 100 = true := hq 0 (by omega)
   have p1 : withinB a.ud 1 100 = true := hq 1 (by omega)
   have p2 : withinB a.rn 1 100 = true := hq 2 (by omega)
   have p3 : withinB a.rd 1 100 = true := hq 3 (by omega)
   have hw := within96 a.low 1 a.high
   cases hb : withinB a.low 1 a.high
   ·rw [hb] at hw
    (repeat refine ZQ ?_); refine ZR fun K hK => ?_; simp (maxSteps := 1000000) [ty108, ty3]
    refine ZP (hw) ?_; simp (maxSteps := 1000000) [ty4]
    refine hK _ ?_; clear hK K
    (repeat refine ZQ ?_); refine awp_ret ?_; refine And.intro (Or.inr rfl) ?_
    simp [retC, resC, viewC, mapO, armB, hb]
   ·rw [hb] at hw
    (repeat refine ZQ ?_); refine ZR fun K hK => ?_; simp (maxSteps := 1000000) [ty108, ty3]
    refine ZP (hw) ?_; simp (maxSteps := 1000000) [ty4, ty108, ty3]
    refine hK _ ?_; clear hK K
    (repeat refine ZQ ?_); refine awp_ret ?_; refine And.intro (Or.inr rfl) ?_
    simp [retC, resC, viewC, mapO, armB, hb, p0, p1, p2, p3]


structure ArmOk (a : Arm) : Prop where
 un : 1 ≤ a.un ∧ a.un ≤ 100
 ud : 1 ≤ a.ud ∧ a.ud ≤ 100
 rn : 1 ≤ a.rn ∧ a.rn ≤ 100
 rd : 1 ≤ a.rd ∧ a.rd ≤ 100
 low : 1 ≤ a.low ∧ a.low ≤ a.high ∧ a.high ≤ 10000

theorem armB_ok {a : Arm} (h : armB a = true) : ArmOk a := by
 simp [armB, withinB] at h
 constructor <;> omega

theorem mul_in {a b A B : Int} (ha : 0 ≤ a ∧ a ≤ A) (hb : 0 ≤ b ∧ b ≤ B) : 0 ≤ a * b ∧ a * b ≤ A * B :=
 ⟨Int.mul_nonneg ha.1 hb.1, Int.mul_le_mul ha.2 hb.2 hb.1 (by omega)⟩

theorem val_bd {a : Arm} (h : ArmOk a) {s : Int} (hs : a.low ≤ s ∧ s ≤ a.high) : (0 ≤ s * a.un ∧ s * a.un ≤ 1000000) ∧ (0 ≤ s * a.un * a.rn ∧ s * a.un * a.rn ≤ 100000000) ∧ (0 < a.ud * a.rd ∧ a.ud * a.rd ≤ 10000) := by
 have h1 := h.un
 have h2 := h.ud
 have h3 := h.rn
 have h4 := h.rd
 have h5 := h.low
 have m1 := mul_in (a := s) (b := a.un) (A := 10000) (B := 100) (by omega) (by omega)
 have m2 := mul_in (a := s * a.un) (b := a.rn) (A := 1000000) (B := 100) (by omega) (by omega)
 have m3 := mul_in (a := a.ud) (b := a.rd) (A := 100) (B := 100) (by omega) (by omega)
 have m4 : 0 < a.ud * a.rd := Int.mul_pos (by omega) (by omega)
 omega

theorem setting84 (a : Arm) (s : Int) : Pure Tryz.prog 74 [encArm a, encI s] (.bool (withinB s a.low a.high)) := by
 refine ZF (fn := Tryz.f74) [.tmp 4] ⟨Tryz.func74, rfl, by kernel_rfl⟩ fun x hx hσ => ?_
 (repeat refine ZQ ?_); refine ZR fun K hK => ?_; simp (maxSteps := 1000000) [ty108]; refine hK _ ?_; clear hK K
 (repeat refine ZQ ?_); refine ZR fun K hK => ?_; simp (maxSteps := 1000000) [ty108, ty3]
 refine ZP (within96 s a.low a.high) ?_; simp (maxSteps := 1000000)
 refine hK _ ?_; clear hK K
 (repeat refine ZQ ?_); refine awp_ret ?_; refine And.intro (Or.inr rfl) ?_
 simp [retC, resC, viewC, mapO]

theorem value86 (a : Arm) (s : Int) (h : ArmOk a) (hs : a.low ≤ s ∧ s ≤ a.high) : Pure Tryz.prog 76 [encArm a, encI s] (.tup [encI (s * a.un * a.rn), encI (a.ud * a.rd)]) := by
 obtain ⟨m1, m2, m3⟩ := val_bd h hs
 have w1 := wrap_id (z := s * a.un) (by omega) (by omega)
 have w2 := wrap_id (z := s * a.un * a.rn) (by omega) (by omega)
 have w3 := wrap_id (z := a.ud * a.rd) (by omega) (by omega)
 refine ZF (fn := Tryz.f76) [.tmp 4, .tmp 5] ⟨Tryz.func76, rfl, by kernel_rfl⟩ fun x hx hσ => ?_
 (repeat refine ZQ ?_); refine ZR fun K hK => ?_; simp (maxSteps := 1000000) [ty108]; refine hK _ ?_; clear hK K
 (repeat refine ZQ ?_); refine ZD [] [0, 1, 2, 3, 4, 5, 6, 7, 8, 9, 10, 11, 12, 13, 14, 15, 16, 17] fun K hK => ?_; simp (maxSteps := 1000000) [ty108, ty106, ty3, w1, w2, w3]; refine hK _ ?_; clear hK K
 (repeat refine ZQ ?_); refine awp_ret ?_; refine And.intro (Or.inr rfl) ?_
 simp [retC, resC, viewC, mapO]

set_option maxHeartbeats 4000000

structure Near (w : Wh) (l : List Wl) : Prop where
 read : w.read ≤ 2
 slip : w.slip ≤ 2
 skew : w.skew ≤ 2
 wide : w.ghigh - w.glow ≤ 25
 full : w.full ≤ 120
 len : l.length ≤ 4


set_option maxHeartbeats 4000000

set_option maxHeartbeats 4000000

theorem within_iff {s lo hi : Int} (h : withinB s lo hi = true) : lo ≤ s ∧ s ≤ hi := by simpa [withinB] using h

theorem valA73 (a : Arm) (s : Int) : Pure Tryz.prog 58 [encArm a, encI s] (.tup [encR (valI a s).1, encI (valI a s).2]) := by
 refine ZF (fn := Tryz.f58) [.cell 4 106, .tmp 5] ⟨Tryz.func58, rfl, by kernel_rfl⟩ fun x hx hσ => ?_
 (repeat refine ZQ ?_); refine ZR fun K hK => ?_; simp (maxSteps := 1000000) [ty108, ty106]; refine hK _ ?_; clear hK K
 (repeat refine ZQ ?_); refine ZR fun K hK => ?_; simp (maxSteps := 1000000) [ty108]
 refine ZP (isArm83 a) ?_; simp (maxSteps := 1000000) [ty4]
 refine hK _ ?_; clear hK K; (first | show AWP _ _ _ _ _ | show ∃ _, _ | skip)
 cases hb : armB a
 ·have hv : valI a s = ((0, 0), 11) := by unfold valI; rw [if_pos hb]
  (repeat refine ZQ ?_); refine ZC (hc := by simp [hb]; rfl) (fun hd => ?_) (fun hd => ?_)
  ·clear hd
   (repeat refine ZQ ?_); refine ZR fun K hK => ?_; simp (maxSteps := 1000000) [ty106]; refine hK _ ?_; clear hK K
   (repeat refine ZQ ?_); refine awp_ret ?_; refine And.intro (Or.inr rfl) ?_
   simp [retC, resC, viewC, mapO, ty106, hv]
  ·simp at hd
 ·have hok := armB_ok hb
  (repeat refine ZQ ?_); refine ZC (hc := by simp [hb]; rfl) (fun hd => ?_) (fun hd => ?_)
  ·simp at hd
  ·clear hd
   refine awp_skip ?_
   (repeat refine ZQ ?_); refine ZR fun K hK => ?_; simp (maxSteps := 1000000) [ty108]
   refine ZP (setting84 a s) ?_; simp (maxSteps := 1000000) [ty4]
   refine hK _ ?_; clear hK K; (first | show AWP _ _ _ _ _ | show ∃ _, _ | skip)
   cases hc : withinB s a.low a.high
   ·have hv : valI a s = ((0, 0), 1) := by unfold valI; rw [if_neg (by rw [hb]; simp), if_pos hc]
    (repeat refine ZQ ?_); refine ZC (hc := by simp [hc]; rfl) (fun hd => ?_) (fun hd => ?_)
    ·clear hd
     (repeat refine ZQ ?_); refine ZR fun K hK => ?_; simp (maxSteps := 1000000) [ty106]; refine hK _ ?_; clear hK K
     (repeat refine ZQ ?_); refine awp_ret ?_; refine And.intro (Or.inr rfl) ?_
     simp [retC, resC, viewC, mapO, ty106, hv]
    ·simp at hd
   ·have hv : valI a s = toldI (s * a.un * a.rn) (a.ud * a.rd) := by unfold valI; rw [if_neg (by rw [hb]; simp), if_neg (by rw [hc]; simp)]
    have hs := within_iff hc
    obtain ⟨m1, m2, m3⟩ := val_bd hok hs
    (repeat refine ZQ ?_); refine ZC (hc := by simp [hc]; rfl) (fun hd => ?_) (fun hd => ?_)
    ·simp at hd
    ·clear hd
     refine awp_skip ?_
     (repeat refine ZQ ?_); refine ZR fun K hK => ?_; simp (maxSteps := 1000000) [ty108]
     refine ZP (value86 a s hok hs) ?_; simp (maxSteps := 1000000) [ty3]
     refine ZP (told85 (s * a.un * a.rn) (a.ud * a.rd) (by omega) (by omega)) ?_; simp (maxSteps := 1000000) [ty106, ty34]
     refine hK _ ?_; clear hK K
     (repeat refine ZQ ?_); refine awp_ret ?_; refine And.intro (Or.inr rfl) ?_
     simp [retC, resC, viewC, mapO, ty106, hv]

theorem mul_bdN {a b A B : Int} (ha : -A ≤ a ∧ a ≤ A) (hb : -B ≤ b ∧ b ≤ B) (hA : 0 ≤ A) (hB : 0 ≤ B) : -(A * B) ≤ a * b ∧ a * b ≤ A * B := by
 have h : (a * b).natAbs ≤ (A * B).natAbs := by
  rw [Int.natAbs_mul, Int.natAbs_mul]
  exact Nat.mul_le_mul (by omega) (by omega)
 have := Int.mul_nonneg hA hB
 omega

set_option maxHeartbeats 4000000

-- corners: points, turns, sides

structure Pt where
 x : Int
 y : Int
structure PtOk (p : Pt) : Prop where
 x : -200 ≤ p.x ∧ p.x ≤ 200
 y : -200 ≤ p.y ∧ p.y ≤ 200
@[simp] abbrev cPt (p : Pt) : List C := [encI p.x, encI p.y]
@[simp] abbrev encPt (p : Pt) : C := .agg (cPt p)
@[simp] abbrev cSd (a b : Pt) : List C := [encI a.x, encI a.y, encI b.x, encI b.y]
@[simp] abbrev encSd (a b : Pt) : C := .agg (cSd a b)

def inB (n a b : Int) : Bool := decide (a ≤ n) && decide (n ≤ b)

theorem k_within85 (n a b : Int) : Pure Tryz.prog 85 [encI n, encI a, encI b] (.bool (inB n a b)) := by
 refine ZF (fn := Tryz.f85) [.tmp 6] ⟨Tryz.func85, rfl, by kernel_rfl⟩ fun x hx hσ => ?_
 (repeat refine ZQ ?_); refine ZR fun K hK => ?_; simp (maxSteps := 1000000) [ty4]; refine hK _ ?_; clear hK K; (first | show AWP _ _ _ _ _ | show ∃ _, _ | skip)
 by_cases h : a ≤ n
 ·(repeat refine ZQ ?_); refine ZR fun K hK => ?_; simp (maxSteps := 1000000) [ty3, ty4, h]; refine hK _ ?_; clear hK K
  (repeat refine ZQ ?_); refine awp_ret ?_; refine And.intro (Or.inr rfl) ?_
  simp [retC, resC, viewC, mapO, inB, h]
 ·(repeat refine ZQ ?_); refine ZR fun K hK => ?_; simp (maxSteps := 1000000) [ty3, ty4, h]; refine hK _ ?_; clear hK K
  (repeat refine ZQ ?_); refine awp_ret ?_; refine And.intro (Or.inr rfl) ?_
  simp [retC, resC, viewC, mapO, inB, h]

theorem k_isPoint88 (p : Pt) (h : PtOk p) : Pure Tryz.prog 88 [encPt p] (.bool true) := by
 have h1 : inB p.x (-200) 200 = true := by simp [inB, h.x]
 have h2 : inB p.y (-200) 200 = true := by simp [inB, h.y]
 have c1 := k_within85 p.x (-200) 200
 have c2 := k_within85 p.y (-200) 200
 rw [h1] at c1
 rw [h2] at c2
 refine ZF (fn := Tryz.f88) [.tmp 2] ⟨Tryz.func88, rfl, by kernel_rfl⟩ fun x hx hσ => ?_
 (repeat refine ZQ ?_); refine ZR fun K hK => ?_; simp (maxSteps := 1000000) [ty137, ty4]; refine hK _ ?_; clear hK K
 (repeat refine ZQ ?_); refine ZR fun K hK => ?_; simp (maxSteps := 1000000) [ty137, ty3, ty4]
 refine ZP (c1) ?_; simp (maxSteps := 1000000) [ty137, ty3, ty4]
 refine ZP (c2) ?_; simp (maxSteps := 1000000) [ty4]
 refine hK _ ?_; clear hK K
 (repeat refine ZQ ?_); refine awp_ret ?_; refine And.intro (Or.inr rfl) ?_
 simp [retC, resC, viewC, mapO]

theorem k_check87 (p : Pt) (h : PtOk p) : Pure Tryz.prog 87 [encPt p] (.bool false) := by
 refine ZF (fn := Tryz.f87) [.tmp 2] ⟨Tryz.func87, rfl, by kernel_rfl⟩ fun x hx hσ => ?_
 (repeat refine ZQ ?_); refine ZR fun K hK => ?_; simp (maxSteps := 1000000) [ty137, ty4]; refine hK _ ?_; clear hK K
 (repeat refine ZQ ?_); refine ZR fun K hK => ?_; simp (maxSteps := 1000000) [ty137, ty4]
 refine ZP (k_isPoint88 p h) ?_; simp (maxSteps := 1000000) [ty4]
 refine hK _ ?_; clear hK K
 (repeat refine ZQ ?_); refine awp_ret ?_; refine And.intro (Or.inr rfl) ?_
 simp [retC, resC, viewC, mapO]

theorem k_index117 (nl fu : Bool) (l : List Pt) (hn : l.length ≤ 1000) (hp : ∀ p ∈ l, PtOk p) : Pure Tryz.prog 117 [.sl nl fu (l.map cPt), .fn (.func 87) [] []] (encI (-1)) := by
 refine ZF (fn := Tryz.f117) [.tmp 4] ⟨Tryz.func117, rfl, by kernel_rfl⟩ fun x hx hσ => ?_
 (repeat refine ZQ ?_); refine ZR fun K hK => ?_; simp (maxSteps := 1000000); refine hK _ ?_; clear hK K
 (repeat refine ZQ ?_); refine ZR fun K hK => ?_; simp (maxSteps := 1000000) [ty103]; refine hK _ ?_; clear hK K
 (repeat refine ZQ ?_); refine awp_block ?_
 refine awp_loop (fun i : Nat => ⟨ofL [(0, .sl nl fu (l.map cPt)), (1, .fn (.func 87) [] []), (7, encI l.length), (8, encI i)], stoT []⟩)
  (fun i => i ≤ l.length) (fun i => l.length - i) 0 (by simp) ?_ ?_
 ·exact Zw
 ·intro i hi
  (repeat refine ZQ ?_); refine ZR fun K hK => ?_; simp (maxSteps := 1000000) [ty3]; refine hK _ ?_; clear hK K
  (repeat refine ZQ ?_); refine ZC (fun hc => ?_) (fun hc => ?_)
  ·simp at hc
   refine awp_skip ?_
   (repeat refine ZQ ?_); refine awp_block ?_
   (repeat refine ZQ ?_); refine ZR fun K hK => ?_; simp (maxSteps := 1000000); refine hK _ ?_; clear hK K
   (repeat refine ZQ ?_); refine ZR fun K hK => ?_; simp (maxSteps := 1000000) [ty103, ty137, hc]
   refine ZP (k_check87 l[i] (hp _ (List.getElem_mem hc))) ?_; simp (maxSteps := 1000000)
   refine hK _ ?_; clear hK K
   (repeat refine ZQ ?_); refine ZC (fun hd => ?_) (fun hd => ?_)
   ·simp at hd
   ·clear hd
    refine awp_skip ?_
    (repeat refine ZQ ?_); refine ZR fun K hK => ?_; simp (maxSteps := 1000000) [ty3]; refine hK _ ?_; clear hK K; (first | show AWP _ _ _ _ _ | show ∃ _, _ | skip)
    refine ⟨i + 1, by omega, by omega, ?_⟩
    exact Zw
  ·simp at hc
   (repeat refine ZQ ?_); refine awp_exit ?_
   (repeat refine ZQ ?_); refine ZR fun K hK => ?_; simp (maxSteps := 1000000); refine hK _ ?_; clear hK K
   (repeat refine ZQ ?_); refine awp_ret ?_; refine And.intro (Or.inr rfl) ?_
   simp [retC, resC, viewC, mapO]

theorem k_contains86 (nl fu : Bool) (l : List Pt) (hn : l.length ≤ 1000) (hp : ∀ p ∈ l, PtOk p) : Pure Tryz.prog 86 [.sl nl fu (l.map cPt), .fn (.func 87) [] []] (.bool false) := by
 refine ZF (fn := Tryz.f86) [.tmp 4] ⟨Tryz.func86, rfl, by kernel_rfl⟩ fun x hx hσ => ?_
 (repeat refine ZQ ?_); refine ZR fun K hK => ?_; simp (maxSteps := 1000000) [ty4]; refine hK _ ?_; clear hK K
 (repeat refine ZQ ?_); refine ZR fun K hK => ?_; simp (maxSteps := 1000000) [ty103, ty3]
 refine ZP (k_index117 nl fu l hn hp) ?_; simp (maxSteps := 1000000) [ty3]
 refine hK _ ?_; clear hK K
 (repeat refine ZQ ?_); refine awp_ret ?_; refine And.intro (Or.inr rfl) ?_
 simp [retC, resC, viewC, mapO]

def turnI (a b c : Pt) : Int := (b.x - a.x) * (c.y - a.y) - (b.y - a.y) * (c.x - a.x)

theorem k_turn133 (a b c : Pt) (ha : PtOk a) (hb : PtOk b) (hc : PtOk c) : Pure Tryz.prog 133 [encPt a, encPt b, encPt c] (encI (turnI a b c)) := by
 obtain ⟨a1, a2⟩ := ha
 obtain ⟨b1, b2⟩ := hb
 obtain ⟨c1, c2⟩ := hc
 have w1 : IntKind.i64.wrap (b.x - a.x) = b.x - a.x := wrap_id (by omega) (by omega)
 have w2 : IntKind.i64.wrap (c.y - a.y) = c.y - a.y := wrap_id (by omega) (by omega)
 have w3 : IntKind.i64.wrap (b.y - a.y) = b.y - a.y := wrap_id (by omega) (by omega)
 have w4 : IntKind.i64.wrap (c.x - a.x) = c.x - a.x := wrap_id (by omega) (by omega)
 have m1 := mul_bdN (a := b.x - a.x) (b := c.y - a.y) (A := 400) (B := 400) (by omega) (by omega) (by decide) (by decide)
 have m2 := mul_bdN (a := b.y - a.y) (b := c.x - a.x) (A := 400) (B := 400) (by omega) (by omega) (by decide) (by decide)
 have w5 : IntKind.i64.wrap ((b.x - a.x) * (c.y - a.y)) = (b.x - a.x) * (c.y - a.y) := wrap_id (by omega) (by omega)
 have w6 : IntKind.i64.wrap ((b.y - a.y) * (c.x - a.x)) = (b.y - a.y) * (c.x - a.x) := wrap_id (by omega) (by omega)
 have w7 : IntKind.i64.wrap ((b.x - a.x) * (c.y - a.y) - (b.y - a.y) * (c.x - a.x)) = (b.x - a.x) * (c.y - a.y) - (b.y - a.y) * (c.x - a.x) := wrap_id (by omega) (by omega)
 refine ZF (fn := Tryz.f133) [.tmp 6] ⟨Tryz.func133, rfl, by kernel_rfl⟩ fun x hx hσ => ?_
 (repeat refine ZQ ?_); refine ZR fun K hK => ?_; simp (maxSteps := 1000000) [ty137, ty3]; refine hK _ ?_; clear hK K
 (repeat refine ZQ ?_); refine ZR fun K hK => ?_; simp (maxSteps := 1000000) [ty137, ty3, w1, w2, w3, w4, w5, w6, w7]; refine hK _ ?_; clear hK K
 (repeat refine ZQ ?_); refine awp_ret ?_; refine And.intro (Or.inr rfl) ?_
 simp [retC, resC, viewC, mapO, turnI]

def mnI2 (a b : Int) : Int := if b < a then b else a
def mxI2 (a b : Int) : Int := if b > a then b else a
def hasB (a b p : Pt) : Bool := (turnI a b p == 0) && inB p.x (mnI2 a.x b.x) (mxI2 a.x b.x) && inB p.y (mnI2 a.y b.y) (mxI2 a.y b.y)

theorem k_has119 (a b p : Pt) (ha : PtOk a) (hb : PtOk b) (hp : PtOk p) : Pure Tryz.prog 119 [encSd a b, encPt p] (.bool (hasB a b p)) := by
 have ht := k_turn133 a b p ha hb hp
 have c1 := k_within85 p.x (mnI2 a.x b.x) (mxI2 a.x b.x)
 have c2 := k_within85 p.y (mnI2 a.y b.y) (mxI2 a.y b.y)
 simp only [mnI2, mxI2] at c1 c2
 have hV : hasB a b p = ((turnI a b p == 0) && inB p.x (if b.x < a.x then b.x else a.x) (if b.x > a.x then b.x else a.x) && inB p.y (if b.y < a.y then b.y else a.y) (if b.y > a.y then b.y else a.y)) := rfl
 rw [hV]
 clear hV
 generalize turnI a b p = t at *
 generalize inB p.x (if b.x < a.x then b.x else a.x) (if b.x > a.x then b.x else a.x) = r1 at *
 generalize inB p.y (if b.y < a.y then b.y else a.y) (if b.y > a.y then b.y else a.y) = r2 at *
 cases h1 : t == 0
 ·refine ZF (fn := Tryz.f119) [.tmp 4] ⟨Tryz.func119, rfl, by kernel_rfl⟩ fun x hx hσ => ?_
  (repeat refine ZQ ?_); refine ZR fun K hK => ?_; simp (maxSteps := 1000000) [ty183, ty137, ty4]; refine hK _ ?_; clear hK K
  (repeat refine ZQ ?_); refine ZR fun K hK => ?_; simp (maxSteps := 1000000) [ty183, ty137, ty3, ty4]
  refine ZP (ht) ?_; simp (maxSteps := 1000000) [ty183, ty137, ty3, ty4, h1]
  refine hK _ ?_; clear hK K
  (repeat refine ZQ ?_); refine awp_ret ?_; refine And.intro (Or.inr rfl) ?_
  simp [retC, resC, viewC, mapO]
 ·cases r1
  ·refine ZF (fn := Tryz.f119) [.tmp 4] ⟨Tryz.func119, rfl, by kernel_rfl⟩ fun x hx hσ => ?_
   (repeat refine ZQ ?_); refine ZR fun K hK => ?_; simp (maxSteps := 1000000) [ty183, ty137, ty4]; refine hK _ ?_; clear hK K
   (repeat refine ZQ ?_); refine ZR fun K hK => ?_; simp (maxSteps := 1000000) [ty183, ty137, ty3, ty4]
   refine ZP (ht) ?_; simp (maxSteps := 1000000) [ty183, ty137, ty3, ty4, h1]
   refine ZP (c1) ?_; simp (maxSteps := 1000000) [ty183, ty137, ty3, ty4]
   refine hK _ ?_; clear hK K
   (repeat refine ZQ ?_); refine awp_ret ?_; refine And.intro (Or.inr rfl) ?_
   simp [retC, resC, viewC, mapO]
  ·refine ZF (fn := Tryz.f119) [.tmp 4] ⟨Tryz.func119, rfl, by kernel_rfl⟩ fun x hx hσ => ?_
   (repeat refine ZQ ?_); refine ZR fun K hK => ?_; simp (maxSteps := 1000000) [ty183, ty137, ty4]; refine hK _ ?_; clear hK K
   (repeat refine ZQ ?_); refine ZR fun K hK => ?_; simp (maxSteps := 1000000) [ty183, ty137, ty3, ty4]
   refine ZP (ht) ?_; simp (maxSteps := 1000000) [ty183, ty137, ty3, ty4, h1]
   refine ZP (c1) ?_; simp (maxSteps := 1000000) [ty183, ty137, ty3, ty4]
   refine ZP (c2) ?_; simp (maxSteps := 1000000) [ty183, ty137, ty3, ty4]
   refine hK _ ?_; clear hK K
   (repeat refine ZQ ?_); refine awp_ret ?_; refine And.intro (Or.inr rfl) ?_
   simp [retC, resC, viewC, mapO]

def apartB (a b p q : Pt) : Bool := (decide (turnI a b p < 0) && decide (turnI a b q > 0)) || (decide (turnI a b p > 0) && decide (turnI a b q < 0))

theorem k_apart134 (a b p q : Pt) (ha : PtOk a) (hb : PtOk b) (hp : PtOk p) (hq : PtOk q) : Pure Tryz.prog 134 [encSd a b, encPt p, encPt q] (.bool (apartB a b p q)) := by
 have c1 := k_turn133 a b p ha hb hp
 have c2 := k_turn133 a b q ha hb hq
 unfold apartB
 generalize turnI a b p = m at *
 generalize turnI a b q = n at *
 refine ZF (fn := Tryz.f134) [.tmp 6] ⟨Tryz.func134, rfl, by kernel_rfl⟩ fun x hx hσ => ?_
 (repeat refine ZQ ?_); refine ZR fun K hK => ?_; simp (maxSteps := 1000000) [ty183, ty137, ty4]; refine hK _ ?_; clear hK K
 (repeat refine ZQ ?_); refine ZD [] [0, 1, 2, 3, 4, 5, 6, 7, 8, 9, 10, 11, 12, 13] fun K hK => ?_; simp (maxSteps := 1000000) [ty183, ty137, ty3]
 refine ZE (c1) ?_; simp (maxSteps := 1000000) [ty183, ty137, ty3]
 refine ZE (c2) ?_; simp (maxSteps := 1000000) [ty183, ty137, ty3]
 refine hK _ ?_; clear hK K; (first | show AWP _ _ _ _ _ | show ∃ _, _ | skip)
 by_cases h1 : m < 0
 ·have h3 : ¬ 0 < m := by omega
  by_cases h2 : 0 < n
  ·(repeat refine ZQ ?_); refine ZR fun K hK => ?_; simp (maxSteps := 1000000) [ty3, ty4, h1, h2, h3]; refine hK _ ?_; clear hK K
   (repeat refine ZQ ?_); refine awp_ret ?_; refine And.intro (Or.inr rfl) ?_
   simp [retC, resC, viewC, mapO, h1, h2, h3]
  ·(repeat refine ZQ ?_); refine ZR fun K hK => ?_; simp (maxSteps := 1000000) [ty3, ty4, h1, h2, h3]; refine hK _ ?_; clear hK K
   (repeat refine ZQ ?_); refine awp_ret ?_; refine And.intro (Or.inr rfl) ?_
   simp [retC, resC, viewC, mapO, h1, h2, h3]
 ·by_cases h3 : 0 < m
  ·by_cases h4 : n < 0
   ·(repeat refine ZQ ?_); refine ZR fun K hK => ?_; simp (maxSteps := 1000000) [ty3, ty4, h1, h3, h4]; refine hK _ ?_; clear hK K
    (repeat refine ZQ ?_); refine awp_ret ?_; refine And.intro (Or.inr rfl) ?_
    simp [retC, resC, viewC, mapO, h1, h3, h4]
   ·(repeat refine ZQ ?_); refine ZR fun K hK => ?_; simp (maxSteps := 1000000) [ty3, ty4, h1, h3, h4]; refine hK _ ?_; clear hK K
    (repeat refine ZQ ?_); refine awp_ret ?_; refine And.intro (Or.inr rfl) ?_
    simp [retC, resC, viewC, mapO, h1, h3, h4]
  ·(repeat refine ZQ ?_); refine ZR fun K hK => ?_; simp (maxSteps := 1000000) [ty3, ty4, h1, h3]; refine hK _ ?_; clear hK K
   (repeat refine ZQ ?_); refine awp_ret ?_; refine And.intro (Or.inr rfl) ?_
   simp [retC, resC, viewC, mapO, h1, h3]

def meetsB (a b c d : Pt) : Bool := hasB a b c || hasB a b d || hasB c d a || hasB c d b || (apartB a b c d && apartB c d a b)


theorem k_meets120 (a b c d : Pt) (ha : PtOk a) (hb : PtOk b) (hc : PtOk c) (hd : PtOk d) : Pure Tryz.prog 120 [encSd a b, encSd c d] (.bool (meetsB a b c d)) := by
 have c1 := k_has119 a b c ha hb hc
 have c2 := k_has119 a b d ha hb hd
 have c3 := k_has119 c d a hc hd ha
 have c4 := k_has119 c d b hc hd hb
 have c5 := k_apart134 a b c d ha hb hc hd
 have c6 := k_apart134 c d a b hc hd ha hb
 unfold meetsB
 generalize hasB a b c = h1 at *
 generalize hasB a b d = h2 at *
 generalize hasB c d a = h3 at *
 generalize hasB c d b = h4 at *
 generalize apartB a b c d = h5 at *
 generalize apartB c d a b = h6 at *
 cases h1
 ·cases h2
  ·cases h3
   ·cases h4
    ·cases h5
     ·refine ZF (fn := Tryz.f120) [.tmp 4] ⟨Tryz.func120, rfl, by kernel_rfl⟩ fun x hx hσ => ?_
      (repeat refine ZQ ?_); refine ZR fun K hK => ?_; simp (maxSteps := 1000000) [ty183, ty137, ty4]; refine hK _ ?_; clear hK K
      (repeat refine ZQ ?_); refine ZR fun K hK => ?_; simp (maxSteps := 1000000) [ty183, ty137, ty3, ty4]
      refine ZP (c1) ?_; simp (maxSteps := 1000000) [ty183, ty137, ty3, ty4]
      refine ZP (c2) ?_; simp (maxSteps := 1000000) [ty183, ty137, ty3, ty4]
      refine ZP (c3) ?_; simp (maxSteps := 1000000) [ty183, ty137, ty3, ty4]
      refine ZP (c4) ?_; simp (maxSteps := 1000000) [ty183, ty137, ty3, ty4]
      refine ZP (c5) ?_; simp (maxSteps := 1000000) [ty183, ty137, ty3, ty4]
      refine hK _ ?_; clear hK K
      (repeat refine ZQ ?_); refine awp_ret ?_; refine And.intro (Or.inr rfl) ?_
      simp [retC, resC, viewC, mapO]
     ·refine ZF (fn := Tryz.f120) [.tmp 4] ⟨Tryz.func120, rfl, by kernel_rfl⟩ fun x hx hσ => ?_
      (repeat refine ZQ ?_); refine ZR fun K hK => ?_; simp (maxSteps := 1000000) [ty183, ty137, ty4]; refine hK _ ?_; clear hK K
      (repeat refine ZQ ?_); refine ZR fun K hK => ?_; simp (maxSteps := 1000000) [ty183, ty137, ty3, ty4]
      refine ZP (c1) ?_; simp (maxSteps := 1000000) [ty183, ty137, ty3, ty4]
      refine ZP (c2) ?_; simp (maxSteps := 1000000) [ty183, ty137, ty3, ty4]
      refine ZP (c3) ?_; simp (maxSteps := 1000000) [ty183, ty137, ty3, ty4]
      refine ZP (c4) ?_; simp (maxSteps := 1000000) [ty183, ty137, ty3, ty4]
      refine ZP (c5) ?_; simp (maxSteps := 1000000) [ty183, ty137, ty3, ty4]
      refine ZP (c6) ?_; simp (maxSteps := 1000000) [ty183, ty137, ty3, ty4]
      refine hK _ ?_; clear hK K
      (repeat refine ZQ ?_); refine awp_ret ?_; refine And.intro (Or.inr rfl) ?_
      simp [retC, resC, viewC, mapO]
    ·refine ZF (fn := Tryz.f120) [.tmp 4] ⟨Tryz.func120, rfl, by kernel_rfl⟩ fun x hx hσ => ?_
     (repeat refine ZQ ?_); refine ZR fun K hK => ?_; simp (maxSteps := 1000000) [ty183, ty137, ty4]; refine hK _ ?_; clear hK K
     (repeat refine ZQ ?_); refine ZR fun K hK => ?_; simp (maxSteps := 1000000) [ty183, ty137, ty3, ty4]
     refine ZP (c1) ?_; simp (maxSteps := 1000000) [ty183, ty137, ty3, ty4]
     refine ZP (c2) ?_; simp (maxSteps := 1000000) [ty183, ty137, ty3, ty4]
     refine ZP (c3) ?_; simp (maxSteps := 1000000) [ty183, ty137, ty3, ty4]
     refine ZP (c4) ?_; simp (maxSteps := 1000000) [ty183, ty137, ty3, ty4]
     refine hK _ ?_; clear hK K
     (repeat refine ZQ ?_); refine awp_ret ?_; refine And.intro (Or.inr rfl) ?_
     simp [retC, resC, viewC, mapO]
   ·refine ZF (fn := Tryz.f120) [.tmp 4] ⟨Tryz.func120, rfl, by kernel_rfl⟩ fun x hx hσ => ?_
    (repeat refine ZQ ?_); refine ZR fun K hK => ?_; simp (maxSteps := 1000000) [ty183, ty137, ty4]; refine hK _ ?_; clear hK K
    (repeat refine ZQ ?_); refine ZR fun K hK => ?_; simp (maxSteps := 1000000) [ty183, ty137, ty3, ty4]
    refine ZP (c1) ?_; simp (maxSteps := 1000000) [ty183, ty137, ty3, ty4]
    refine ZP (c2) ?_; simp (maxSteps := 1000000) [ty183, ty137, ty3, ty4]
    refine ZP (c3) ?_; simp (maxSteps := 1000000) [ty183, ty137, ty3, ty4]
    refine hK _ ?_; clear hK K
    (repeat refine ZQ ?_); refine awp_ret ?_; refine And.intro (Or.inr rfl) ?_
    simp [retC, resC, viewC, mapO]
  ·refine ZF (fn := Tryz.f120) [.tmp 4] ⟨Tryz.func120, rfl, by kernel_rfl⟩ fun x hx hσ => ?_
   (repeat refine ZQ ?_); refine ZR fun K hK => ?_; simp (maxSteps := 1000000) [ty183, ty137, ty4]; refine hK _ ?_; clear hK K
   (repeat refine ZQ ?_); refine ZR fun K hK => ?_; simp (maxSteps := 1000000) [ty183, ty137, ty3, ty4]
   refine ZP (c1) ?_; simp (maxSteps := 1000000) [ty183, ty137, ty3, ty4]
   refine ZP (c2) ?_; simp (maxSteps := 1000000) [ty183, ty137, ty3, ty4]
   refine hK _ ?_; clear hK K
   (repeat refine ZQ ?_); refine awp_ret ?_; refine And.intro (Or.inr rfl) ?_
   simp [retC, resC, viewC, mapO]
 ·refine ZF (fn := Tryz.f120) [.tmp 4] ⟨Tryz.func120, rfl, by kernel_rfl⟩ fun x hx hσ => ?_
  (repeat refine ZQ ?_); refine ZR fun K hK => ?_; simp (maxSteps := 1000000) [ty183, ty137, ty4]; refine hK _ ?_; clear hK K
  (repeat refine ZQ ?_); refine ZR fun K hK => ?_; simp (maxSteps := 1000000) [ty183, ty137, ty3, ty4]
  refine ZP (c1) ?_; simp (maxSteps := 1000000) [ty183, ty137, ty3, ty4]
  refine hK _ ?_; clear hK K
  (repeat refine ZQ ?_); refine awp_ret ?_; refine And.intro (Or.inr rfl) ?_
  simp [retC, resC, viewC, mapO]

set_option maxHeartbeats 8000000
set_option maxRecDepth 20000

-- corners: all sides of a polygon, one after the other; sums over them

@[simp] abbrev sPt (nl fu : Bool) (L : List Pt) : C := .sl nl fu (L.map cPt)
def nxt (L : List Pt) (i : Nat) : Pt := L.getD ((i + 1) % L.length) ⟨0, 0⟩
def itS (L : List Pt) : List (List C) := (List.range L.length).map fun i => [encI (i : Nat), encSd (L.getD i ⟨0, 0⟩) (nxt L i)]

theorem itS_len (L : List Pt) : (itS L).length = L.length := by simp [itS]
theorem itS_at {L : List Pt} {i : Nat} (h : i < L.length) : (itS L)[i]? = some [encI (i : Nat), encSd L[i] (nxt L i)] := by
 unfold itS
 rw [List.getElem?_map, List.getElem?_range h]
 simp [List.getD_eq_getElem?_getD, List.getElem?_eq_getElem h]
theorem itS_get {L : List Pt} {i : Nat} {args : List C} (h : (itS L)[i]? = some args) : ∃ hi : i < L.length, args = [encI (i : Nat), encSd L[i] (nxt L i)] := by
 have hi : i < L.length := by
  have := (List.getElem?_eq_some_iff.1 h).1
  rw [itS_len] at this; exact this
 rw [itS_at hi] at h
 exact ⟨hi, (Option.some.inj h).symm⟩
theorem nxt_ok {L : List Pt} (hp : ∀ p ∈ L, PtOk p) (i : Nat) : PtOk (nxt L i) := by
 unfold nxt
 by_cases h : (i + 1) % L.length < L.length
 ·rw [List.getD_eq_getElem?_getD, List.getElem?_eq_getElem h]
  exact hp _ (List.getElem_mem h)
 ·rw [List.getD_eq_getElem?_getD, List.getElem?_eq_none (by omega)]
  exact ⟨by decide, by decide⟩

theorem k_sides118 (nl fu : Bool) (L : List Pt) : Pure Tryz.prog 118 [sPt nl fu L] (.fn (.func 132) [] [.ip [sPt nl fu L] 0]) := by
 refine ZF (fn := Tryz.f118) [.tmp 2] ⟨Tryz.func118, rfl, by kernel_rfl⟩ fun x hx hσ => ?_
 (repeat refine ZQ ?_); refine ZR fun K hK => ?_; simp (maxSteps := 1000000) [ty103]; refine hK _ ?_; clear hK K
 (repeat refine ZQ ?_); refine ZR fun K hK => ?_; simp (maxSteps := 1000000) [ty180]; refine hK _ ?_; clear hK K
 (repeat refine ZQ ?_); refine awp_ret ?_; refine And.intro (Or.inr rfl) ?_
 simp [retC, resC, viewC, mapO]


theorem it_sides (nl fu : Bool) (L : List Pt) (hn : L.length ≤ 1000) : ItC Tryz.prog 1000000 132 [] [.ip [sPt nl fu L] 0] (itS L) := by
 have hlen := itS_len L
 have hgt := fun i (h : i < L.length) => itS_at h
 refine it_of (fn := Tryz.f132) [] ⟨Tryz.func132, rfl, by kernel_rfl⟩ (by kernel_rfl) (by kernel_rfl) (by kernel_rfl) fun x hx q ks fam stop hrnd hstop hfam hσ hY => ?_; rw [stg_hiS hfam]
 rw [hlen] at hstop ⊢
 (repeat refine ZQ ?_); refine ZR fun K hK => ?_; simp (maxSteps := 1000000) [ty103, ty3]; refine hK _ ?_; clear hK K
 (repeat refine ZQ ?_); refine awp_block ?_
 refine awp_loop (fun i : Nat => ⟨ofL [(0, .fn (.yield q) [] []), (1, .ip [sPt nl fu L] 0), (5, encI L.length), (6, encI i)], hiS 1000000 (stoT []) (stg 1000000 fam stop i)⟩)
  (fun i => i ≤ L.length ∧ i ≤ stop) (fun i => L.length - i) 0 ⟨Nat.zero_le _, Nat.zero_le _⟩ ?_ ?_
 ·refine wk_shapeH hfam ?_ (by simp) (by simp) (by simp) ?_ (hx_stg hfam hσ) ?_
  ·intro k hk
   have hne : ∀ n : Nat, n < 1000 → k ≠ n := fun n hn => by omega
   simp [upd, hk, hne]
  ·simp [SlotOk] <;> (repeat' (first | exact .same (by simp [purel, C.isPure]) | exact .cons (by simp [mtl, mtc, mT, mH, C.isPure, purel]) (by simp) .nil | refine And.intro ?_ ?_))
  ·simp [mtc, mtl, mH, mT, C.isPure, purel] <;> (try simp (disch := omega) [wrap_id]) <;> (try omega)
 ·intro i ⟨hi, hst⟩
  (repeat refine ZQ ?_); refine ZR fun K hK => ?_; simp (maxSteps := 1000000) [ty3]; refine hK _ ?_; clear hK K
  (repeat refine ZQ ?_); refine ZC (fun hc => ?_) (fun hc => ?_)
  ·simp at hc
   have hpos : 0 < L.length := by omega
   have hm : (i + 1) % L.length < L.length := Nat.mod_lt _ hpos
   have w1 : IntKind.i64.wrap ((i : Int) + 1) = ((i + 1 : Nat) : Int) := by rw [wrap_id (by omega) (by omega)]; rfl
   have w2 : Int.tmod ((i : Int) + 1) (L.length : Int) = (((i + 1) % L.length : Nat) : Int) := rfl
   have hnil : ¬ L = [] := by rintro rfl; simp at hpos
   have hne : ¬ (L.length : Int) = 0 := by omega
   have hne2 : ((L.length : Int) == 0) = false := by rw [beq_eq_false_iff_ne]; omega
   have w3 : IntKind.i64.wrap (((i + 1) % L.length : Nat) : Int) = (((i + 1) % L.length : Nat) : Int) := wrap_id (by omega) (by omega)
   have hit := hgt i hc
   have hnx : nxt L i = L[(i + 1) % L.length] := by unfold nxt; rw [List.getD_eq_getElem?_getD, List.getElem?_eq_getElem hm]; rfl
   rw [hnx] at hit
   obtain ⟨j, hj⟩ : ∃ j, (i + 1) % L.length = j := ⟨_, rfl⟩
   simp only [hj] at hm w2 w3 hit
   refine awp_skip ?_
   (repeat refine ZQ ?_); refine awp_block ?_
   (repeat refine ZQ ?_); refine ZR fun K hK => ?_; simp (maxSteps := 1000000); refine hK _ ?_; clear hK K
   (repeat refine ZQ ?_); refine ZD [4015] [0, 1, 2, 3, 4, 5, 6, 7, 8, 9, 10, 11, 12, 13, 14, 15, 16] fun K hK => ?_; simp (maxSteps := 1000000) [ty103, ty137, ty183, ty3, hc, w1, w2, w3, hm, hne, hne2, hnil]
   refine yieldD (by decide) hY hst hit (by intro k hk; simp [hk]) ?_
   simp [ty4]
   refine hK _ ?_; clear hK K
   (repeat refine ZQ ?_); refine ZC (fun hd => ?_) (fun hd => ?_)
   ·simp at hd
    (repeat refine ZQ ?_); refine awp_ret ?_; refine And.intro (Or.inr rfl) ?_
    refine ⟨⟨_, rfl⟩, ?_⟩
    have : finI stop L.length = i + 1 := by
     unfold finI; rw [if_pos (by omega)]; omega
    rw [this]
    exact wk_endH hfam hσ (fun k hk => by show (if 1000000 ≤ k then _ else _) = _; rw [if_pos hk])
   ·simp at hd
    refine awp_skip ?_
    (repeat refine ZQ ?_); refine ZR fun K hK => ?_; simp (maxSteps := 1000000) [ty3, w1]; refine hK _ ?_; clear hK K; (first | show AWP _ _ _ _ _ | show ∃ _, _ | skip)
    refine ⟨i + 1, ⟨by omega, by omega⟩, by omega, ?_⟩
    refine wk_shapeH hfam ?_ (by simp) (by simp) (by simp) ?_ (hx_stg hfam hσ) ?_
    ·intro k hk
     have hne : ∀ n : Nat, n < 1000 → k ≠ n := fun n hn => by omega
     simp [upd, hk, hne]
    ·simp [SlotOk] <;> (repeat' (first | exact .same (by simp [purel, C.isPure]) | exact .cons (by simp [mtl, mtc, mT, mH, C.isPure, purel]) (by simp) .nil | refine And.intro ?_ ?_))
    ·simp [mtc, mtl, mH, mT, C.isPure, purel] <;> (try simp (disch := omega) [wrap_id]) <;> (try omega)
  ·simp at hc
   (repeat refine ZQ ?_); refine awp_exit ?_; (first | show AWP _ _ _ _ _ | show ∃ _, _ | skip)
   have hin : i = L.length := by omega
   refine ⟨by simp, ⟨_, rfl⟩, ?_⟩
   have : finI stop L.length = i := by
    unfold finI; rw [if_neg (by omega)]; omega
   rw [this]
   exact wk_endH hfam hσ (fun k hk => by show (if 1000000 ≤ k then _ else _) = _; rw [if_pos hk])
theorem it_sides2 (nl fu : Bool) (L : List Pt) (hn : L.length ≤ 1000) : ItC Tryz.prog 2000000 132 [] [.ip [sPt nl fu L] 0] (itS L) := by
 have hlen := itS_len L
 have hgt := fun i (h : i < L.length) => itS_at h
 refine it_of (fn := Tryz.f132) [] ⟨Tryz.func132, rfl, by kernel_rfl⟩ (by kernel_rfl) (by kernel_rfl) (by kernel_rfl) fun x hx q ks fam stop hrnd hstop hfam hσ hY => ?_; rw [stg_hiS hfam]
 rw [hlen] at hstop ⊢
 (repeat refine ZQ ?_); refine ZR fun K hK => ?_; simp (maxSteps := 1000000) [ty103, ty3]; refine hK _ ?_; clear hK K
 (repeat refine ZQ ?_); refine awp_block ?_
 refine awp_loop (fun i : Nat => ⟨ofL [(0, .fn (.yield q) [] []), (1, .ip [sPt nl fu L] 0), (5, encI L.length), (6, encI i)], hiS 2000000 (stoT []) (stg 2000000 fam stop i)⟩)
  (fun i => i ≤ L.length ∧ i ≤ stop) (fun i => L.length - i) 0 ⟨Nat.zero_le _, Nat.zero_le _⟩ ?_ ?_
 ·refine wk_shapeH hfam ?_ (by simp) (by simp) (by simp) ?_ (hx_stg hfam hσ) ?_
  ·intro k hk
   have hne : ∀ n : Nat, n < 1000 → k ≠ n := fun n hn => by omega
   simp [upd, hk, hne]
  ·simp [SlotOk] <;> (repeat' (first | exact .same (by simp [purel, C.isPure]) | exact .cons (by simp [mtl, mtc, mT, mH, C.isPure, purel]) (by simp) .nil | refine And.intro ?_ ?_))
  ·simp [mtc, mtl, mH, mT, C.isPure, purel] <;> (try simp (disch := omega) [wrap_id]) <;> (try omega)
 ·intro i ⟨hi, hst⟩
  (repeat refine ZQ ?_); refine ZR fun K hK => ?_; simp (maxSteps := 1000000) [ty3]; refine hK _ ?_; clear hK K
  (repeat refine ZQ ?_); refine ZC (fun hc => ?_) (fun hc => ?_)
  ·simp at hc
   have hpos : 0 < L.length := by omega
   have hm : (i + 1) % L.length < L.length := Nat.mod_lt _ hpos
   have w1 : IntKind.i64.wrap ((i : Int) + 1) = ((i + 1 : Nat) : Int) := by rw [wrap_id (by omega) (by omega)]; rfl
   have w2 : Int.tmod ((i : Int) + 1) (L.length : Int) = (((i + 1) % L.length : Nat) : Int) := rfl
   have hnil : ¬ L = [] := by rintro rfl; simp at hpos
   have hne : ¬ (L.length : Int) = 0 := by omega
   have hne2 : ((L.length : Int) == 0) = false := by rw [beq_eq_false_iff_ne]; omega
   have w3 : IntKind.i64.wrap (((i + 1) % L.length : Nat) : Int) = (((i + 1) % L.length : Nat) : Int) := wrap_id (by omega) (by omega)
   have hit := hgt i hc
   have hnx : nxt L i = L[(i + 1) % L.length] := by unfold nxt; rw [List.getD_eq_getElem?_getD, List.getElem?_eq_getElem hm]; rfl
   rw [hnx] at hit
   obtain ⟨j, hj⟩ : ∃ j, (i + 1) % L.length = j := ⟨_, rfl⟩
   simp only [hj] at hm w2 w3 hit
   refine awp_skip ?_
   (repeat refine ZQ ?_); refine awp_block ?_
   (repeat refine ZQ ?_); refine ZR fun K hK => ?_; simp (maxSteps := 1000000); refine hK _ ?_; clear hK K
   (repeat refine ZQ ?_); refine ZD [4015] [0, 1, 2, 3, 4, 5, 6, 7, 8, 9, 10, 11, 12, 13, 14, 15, 16] fun K hK => ?_; simp (maxSteps := 1000000) [ty103, ty137, ty183, ty3, hc, w1, w2, w3, hm, hne, hne2, hnil]
   refine yieldD (by decide) hY hst hit (by intro k hk; simp [hk]) ?_
   simp [ty4]
   refine hK _ ?_; clear hK K
   (repeat refine ZQ ?_); refine ZC (fun hd => ?_) (fun hd => ?_)
   ·simp at hd
    (repeat refine ZQ ?_); refine awp_ret ?_; refine And.intro (Or.inr rfl) ?_
    refine ⟨⟨_, rfl⟩, ?_⟩
    have : finI stop L.length = i + 1 := by
     unfold finI; rw [if_pos (by omega)]; omega
    rw [this]
    exact wk_endH hfam hσ (fun k hk => by show (if 2000000 ≤ k then _ else _) = _; rw [if_pos hk])
   ·simp at hd
    refine awp_skip ?_
    (repeat refine ZQ ?_); refine ZR fun K hK => ?_; simp (maxSteps := 1000000) [ty3, w1]; refine hK _ ?_; clear hK K; (first | show AWP _ _ _ _ _ | show ∃ _, _ | skip)
    refine ⟨i + 1, ⟨by omega, by omega⟩, by omega, ?_⟩
    refine wk_shapeH hfam ?_ (by simp) (by simp) (by simp) ?_ (hx_stg hfam hσ) ?_
    ·intro k hk
     have hne : ∀ n : Nat, n < 1000 → k ≠ n := fun n hn => by omega
     simp [upd, hk, hne]
    ·simp [SlotOk] <;> (repeat' (first | exact .same (by simp [purel, C.isPure]) | exact .cons (by simp [mtl, mtc, mT, mH, C.isPure, purel]) (by simp) .nil | refine And.intro ?_ ?_))
    ·simp [mtc, mtl, mH, mT, C.isPure, purel] <;> (try simp (disch := omega) [wrap_id]) <;> (try omega)
  ·simp at hc
   (repeat refine ZQ ?_); refine awp_exit ?_; (first | show AWP _ _ _ _ _ | show ∃ _, _ | skip)
   have hin : i = L.length := by omega
   refine ⟨by simp, ⟨_, rfl⟩, ?_⟩
   have : finI stop L.length = i := by
    unfold finI; rw [if_neg (by omega)]; omega
   rw [this]
   exact wk_endH hfam hσ (fun k hk => by show (if 2000000 ≤ k then _ else _) = _; rw [if_pos hk])

set_option maxHeartbeats 8000000
set_option maxRecDepth 20000

-- corners: sums over the sides

@[simp] abbrev obJ (z : Int) : Ob := ⟨false, false, 1, [[encI z]]⟩

theorem k_twice91 (a b : Pt) : Pure Tryz.prog 91 [encPt a, encPt b] (encI 1) := by
 refine ZF (fn := Tryz.f91) [.tmp 4] ⟨Tryz.func91, rfl, by kernel_rfl⟩ fun x hx hσ => ?_
 (repeat refine ZQ ?_); refine ZR fun K hK => ?_; simp (maxSteps := 1000000) [ty137, ty3]; refine hK _ ?_; clear hK K
 (repeat refine ZQ ?_); refine ZR fun K hK => ?_; simp (maxSteps := 1000000) [ty3]; refine hK _ ?_; clear hK K
 (repeat refine ZQ ?_); refine awp_ret ?_; refine And.intro (Or.inr rfl) ?_
 simp [retC, resC, viewC, mapO]

def crI (a b : Pt) : Int := a.x * b.y - a.y * b.x
def sumTo (L : List Pt) : Nat → Int
 | 0 => 0
 | i + 1 => sumTo L i + crI (L.getD i ⟨0, 0⟩) (nxt L i)

theorem getD_at {L : List Pt} {i : Nat} (h : i < L.length) : L.getD i ⟨0, 0⟩ = L[i] := by
 rw [List.getD_eq_getElem?_getD, List.getElem?_eq_getElem h]; rfl

theorem cr_bd {a b : Pt} (ha : PtOk a) (hb : PtOk b) : (-40000 ≤ a.x * b.y ∧ a.x * b.y ≤ 40000) ∧ (-40000 ≤ a.y * b.x ∧ a.y * b.x ≤ 40000) := by
 obtain ⟨a1, a2⟩ := ha
 obtain ⟨b1, b2⟩ := hb
 have m1 := mul_bdN (a := a.x) (b := b.y) (A := 200) (B := 200) (by omega) (by omega) (by decide) (by decide)
 have m2 := mul_bdN (a := a.y) (b := b.x) (A := 200) (B := 200) (by omega) (by omega) (by decide) (by decide)
 omega

theorem sum_bd {L : List Pt} (hp : ∀ p ∈ L, PtOk p) : ∀ i, i ≤ L.length → -(80000 * i : Int) ≤ sumTo L i ∧ sumTo L i ≤ 80000 * i
 | 0, _ => by simp [sumTo]
 | i + 1, h => by
  have ih := sum_bd hp i (by omega)
  have hi : i < L.length := by omega
  have hc := cr_bd (hp _ (List.getElem_mem hi)) (nxt_ok hp i)
  simp only [sumTo, getD_at hi, crI]
  omega

@[simp] abbrev Fs (z : Int) : List (Nat × Nat × Slot) := [(1000003, 1000003, .live ⟨false, false, 1, [[.fn (.func 91) [] []]]⟩), (1000005, 1000005, .live (obJ z))]

theorem k_sum90 (nl fu : Bool) (L : List Pt) (hn : L.length ≤ 1000) (hp : ∀ p ∈ L, PtOk p) : Pure Tryz.prog 90 [sPt nl fu L, .fn (.func 91) [] []] (encI (sumTo L L.length)) := by
 have hit := it_sides nl fu L hn
 have hsd := k_sides118 nl fu L
 have hbd := sum_bd hp
 have hstp : ∀ i, sumTo L (i + 1) = sumTo L i + crI (L.getD i ⟨0, 0⟩) (nxt L i) := fun i => rfl
 have hS0 : sumTo L 0 = 0 := rfl
 generalize sumTo L = R at *
 refine ZF (fn := Tryz.f90) [.tmp 4] ⟨Tryz.func90, rfl, by kernel_rfl⟩ fun x hx hσ => ?_
 (repeat refine ZQ ?_); refine ZR fun K hK => ?_; simp (maxSteps := 1000000) [ty157, ty3]; refine hK _ ?_; clear hK K
 (repeat refine ZQ ?_); refine ZR fun K hK => ?_; simp (maxSteps := 1000000) [ty3]; refine hK _ ?_; clear hK K
 (repeat refine ZQ ?_); refine ZR fun K hK => ?_; simp (maxSteps := 1000000) [ty103, ty180]
 refine ZP (hsd) ?_; simp (maxSteps := 1000000) [ty180]
 refine hK _ ?_; clear hK K
 (repeat refine ZQ ?_); refine awp_block ?_
 refine awp_range0 1000000 [1000003, 1000005] (fun i => Fs (R i)) (itS L) L.length .ret
  [(3, .ptr 1000003 1 0 0), (5, .ptr 1000005 1 0 0), (9, .fn (.func 132) [] [.ip [sPt nl fu L] 0])] [(3, .ptr 1000003 1 0 0), (5, .ptr 1000005 1 0 0)]
  (first := []) (caps := [.ip [sPt nl fu L] 0]) ?_ hσ (by simp) (by rw [hx]; decide) ⟨rfl, by simp [purel, C.isPure]⟩ hit (by rw [itS_len]; simp) (by simp) (by simp) (fun i => by simp) (fun i => by simp [wil, C.wi]) (by simp [C.wi, wil]) (by simp [C.wi, wil]) ?_ ?_ ?_ ?_
 ·rw [hS0]
  refine wk_shape2 [(1000003, 3, .live ⟨false, false, 1, [[.fn (.func 91) [] []]]⟩), (1000005, 5, .live (obJ 0))] (by first | rfl | (simp only [if_pos, if_true]; rfl)) (shp0 hσ (by simp) (by simp) ?_) ?_
  ·simp [SlotOk] <;> (repeat' (first | (refine RowsOk.same ?_; simp [purel, C.isPure]; done) | (refine rowsCons ?_; simp [mtl, mtc, mT, mH, C.isPure, purel]; done) | (refine rowsCons ?_; simp [mtl, mtc, mT, mH, C.isPure, purel]) | refine And.intro ?_ ?_))
  ·simp [mtc, mtl, mT, C.isPure, purel] <;> (try simp (disch := omega) [wrap_id]) <;> (try omega)
 ·intro args ha
  obtain ⟨j, _, rfl⟩ := List.mem_map.1 ha
  simp [purel, C.isPure]
 ·intro i args hit hi y y2 hy1 hy2 hyσ hy
  obtain ⟨hi', rfl⟩ := itS_get hit
  have hst := hstp i
  rw [getD_at hi'] at hst
  have hb1 := hbd i (by omega)
  have ha := hp _ (List.getElem_mem hi')
  have hb := nxt_ok hp i
  have hcr := cr_bd ha hb
  have htw := k_twice91 L[i] (nxt L i)
  have hne : i ≠ L.length := by omega
  generalize L[i] = a at *
  generalize nxt L i = b at *
  unfold crI at hst
  have w1 : IntKind.i64.wrap (a.x * b.y) = a.x * b.y := wrap_id (by omega) (by omega)
  have w2 : IntKind.i64.wrap (a.y * b.x) = a.y * b.x := wrap_id (by omega) (by omega)
  have w3 : IntKind.i64.wrap (a.x * b.y - a.y * b.x) = a.x * b.y - a.y * b.x := wrap_id (by omega) (by omega)
  have w4 : IntKind.i64.wrap (R i + (a.x * b.y - a.y * b.x)) = R i + (a.x * b.y - a.y * b.x) := wrap_id (by omega) (by omega)
  have w5 : ∀ z : Int, 1 * z = z := fun z => Int.one_mul z
  rw [hst]
  generalize R i = r at *
  have hx0 := hx
  have hx := hy1.trans hx0
  (repeat refine ZQ ?_); refine ZR fun K hK => ?_; simp (maxSteps := 1000000) [ty183, putPs]; refine hK _ ?_; clear hK K; (first | show AWP _ _ _ _ _ | show ∃ _, _ | skip)
  refine ⟨by simp, ?_⟩
  have hx := hy2.trans hx0
  (repeat refine ZQ ?_); refine awp_block ?_
  (repeat refine ZQ ?_); refine ZD [] [0, 1, 2, 3, 4, 5, 6, 7, 8, 9, 10, 11, 12, 13, 14, 15, 16, 17, 18, 19, 20, 21, 22, 23, 24] fun K hK => ?_; simp (maxSteps := 1000000) [ty183, ty137, ty3, ty157]
  refine ZE (htw) ?_; simp (maxSteps := 1000000) [ty183, ty137, ty3, w1, w2, w3, w4, w5]
  refine hK _ ?_; clear hK K; (first | show AWP _ _ _ _ _ | show ∃ _, _ | skip)
  refine ⟨by rw [if_neg hne], ?_⟩
  refine wk_round (E := []) ((1000000, 1000000, .gh) :: Fs (r + (a.x * b.y - a.y * b.x))) (by first | rfl | (simp <;> rfl)) hy (by simp [mT]) (by simp) (by simp) ?_ (by simp)
  ·simp [SlotOk] <;> (repeat' (first | (refine RowsOk.same ?_; simp [purel, C.isPure]; done) | (refine rowsCons ?_; simp [mtl, mtc, mT, mH, C.isPure, purel]; done) | (refine rowsCons ?_; simp [mtl, mtc, mT, mH, C.isPure, purel]) | refine And.intro ?_ ?_)) <;> (try simp (disch := omega) [wrap_id]) <;> (try omega)
 ·intro he s' hs'
  refine AWP.weak ?_ hs'
  rw [itS_len]
  (repeat refine ZQ ?_); refine ZR fun K hK => ?_; simp (maxSteps := 1000000) [ty3]; refine hK _ ?_; clear hK K
  (repeat refine ZQ ?_); refine awp_ret ?_; refine And.intro (Or.inr rfl) ?_
  simp [retC, resC, viewC, mapO]
 ·intro hlt
  rw [itS_len] at hlt
  simp at hlt

theorem k_twice72 (nl fu : Bool) (L : List Pt) (hn : L.length ≤ 1000) (hp : ∀ p ∈ L, PtOk p) : Pure Tryz.prog 72 [sPt nl fu L] (encI (sumTo L L.length)) := by
 refine ZF (fn := Tryz.f72) [.tmp 2] ⟨Tryz.func72, rfl, by kernel_rfl⟩ fun x hx hσ => ?_
 (repeat refine ZQ ?_); refine ZR fun K hK => ?_; simp (maxSteps := 1000000) [ty3]; refine hK _ ?_; clear hK K
 (repeat refine ZQ ?_); refine ZR fun K hK => ?_; simp (maxSteps := 1000000) [ty103, ty157]
 refine ZP (k_sum90 nl fu L hn hp) ?_; simp (maxSteps := 1000000)
 refine hK _ ?_; clear hK K
 (repeat refine ZQ ?_); refine awp_ret ?_; refine And.intro (Or.inr rfl) ?_
 simp [retC, resC, viewC, mapO]

set_option maxHeartbeats 16000000
set_option maxRecDepth 20000

-- corners: a polygon without crossings is simple

/-- Two sides of a polygon do not meet but where they may. -/
def okPair (L : List Pt) (i k : Nat) : Bool :=
  if i = k then true
  else if k = (i + 1) % L.length then !hasB (L.getD i ⟨0, 0⟩) (nxt L i) (nxt L k) && !hasB (L.getD k ⟨0, 0⟩) (nxt L k) (L.getD i ⟨0, 0⟩)
  else if i = (k + 1) % L.length then true
  else !meetsB (L.getD i ⟨0, 0⟩) (nxt L i) (L.getD k ⟨0, 0⟩) (nxt L k)

@[simp] abbrev Gs (nl fu : Bool) (L : List Pt) : List (Nat × Nat × Slot) := [(2000001, 2000001, .live ⟨false, false, 1, [[sPt nl fu L]]⟩), (2000002, 2000002, .live ⟨false, false, 1, [[.bool false]]⟩), (2000003, 2000003, .live (obJ L.length))]
@[simp] abbrev Hs (nl fu : Bool) (L : List Pt) (i : Nat) (a b : Pt) : List (Nat × Nat × Slot) := (1000004, 1000004, .live (obJ i)) :: (1000005, 1000005, .live ⟨false, false, 4, [cSd a b]⟩) :: (2000000, 2000000, .gh) :: Gs nl fu L


theorem k_isSimple89 (nl fu : Bool) (L : List Pt) (hn : L.length ≤ 1000) (hp : ∀ p ∈ L, PtOk p) (hok : ∀ i, i < L.length → ∀ k, k < L.length → okPair L i k = true) : Pure Tryz.prog 89 [sPt nl fu L] (.bool true) := by
 have hit1 := it_sides2 nl fu L hn
 have hit2 := it_sides nl fu L hn
 have hsd := k_sides118 nl fu L
 refine ZF (fn := Tryz.f89) [.cell 2 4] ⟨Tryz.func89, rfl, by kernel_rfl⟩ fun x hx hσ => ?_
 (repeat refine ZQ ?_); refine ZR fun K hK => ?_; simp (maxSteps := 1000000) [ty103, ty4]; refine hK _ ?_; clear hK K
 (repeat refine ZQ ?_); refine ZR fun K hK => ?_; simp (maxSteps := 1000000) [ty103, ty3]; refine hK _ ?_; clear hK K
 (repeat refine ZQ ?_); refine ZR fun K hK => ?_; simp (maxSteps := 1000000) [ty103, ty180]
 refine ZP (hsd) ?_; simp (maxSteps := 1000000) [ty180]
 refine hK _ ?_; clear hK K
 (repeat refine ZQ ?_); refine awp_block ?_
 refine awp_range0 2000000 [2000001, 2000002, 2000003] (fun _ => Gs nl fu L) (itS L) L.length .ret
  [(1, .ptr 2000001 1 0 0), (2, .ptr 2000002 1 0 0), (3, .ptr 2000003 1 0 0), (11, .fn (.func 132) [] [.ip [sPt nl fu L] 0])] [(1, .ptr 2000001 1 0 0), (2, .ptr 2000002 1 0 0), (3, .ptr 2000003 1 0 0)]
  (first := []) (caps := [.ip [sPt nl fu L] 0]) ?_ hσ (by simp) (by rw [hx]; decide) ⟨rfl, by simp [purel, C.isPure]⟩ hit1 (by rw [itS_len]; simp) (by simp) (by simp) (fun i => by simp) (fun i => by simp [wil, C.wi]) (by simp [C.wi, wil]) (by simp [C.wi, wil]) ?_ ?_ ?_ ?_
 ·refine wk_shape2 [(2000001, 1, .live ⟨false, false, 1, [[sPt nl fu L]]⟩), (2000002, 2, .live ⟨false, false, 1, [[.bool false]]⟩), (2000003, 3, .live (obJ L.length))] (by first | rfl | (simp only [if_pos, if_true]; rfl)) (shp0 hσ (by simp) (by simp) ?_) ?_
  ·simp [SlotOk] <;> (repeat' (first | (refine RowsOk.same ?_; simp [purel, C.isPure]; done) | (refine rowsCons ?_; simp [mtl, mtc, mT, mH, C.isPure, purel]; done) | (refine rowsCons ?_; simp [mtl, mtc, mT, mH, C.isPure, purel]) | refine And.intro ?_ ?_))
  ·simp [mtc, mtl, mT, C.isPure, purel] <;> (try simp (disch := omega) [wrap_id]) <;> (try omega)
 ·intro args ha
  obtain ⟨j, _, rfl⟩ := List.mem_map.1 ha
  simp [purel, C.isPure]
 ·intro i args hit hi y y2 hy1 hy2 hyσ hy
  obtain ⟨hi', rfl⟩ := itS_get hit
  have hoki := hok i hi'
  have hpa := hp _ (List.getElem_mem hi')
  have hpb := nxt_ok hp i
  have hne : i ≠ L.length := by omega
  have hga := getD_at hi'
  have hx0 := hx
  have hx := hy1.trans hx0
  (repeat refine ZQ ?_); refine ZR fun K hK => ?_; simp (maxSteps := 1000000) [ty3, putPs]; refine hK _ ?_; clear hK K
  (repeat refine ZQ ?_); refine ZR fun K hK => ?_; simp (maxSteps := 1000000) [ty183, putPs]; refine hK _ ?_; clear hK K; (first | show AWP _ _ _ _ _ | show ∃ _, _ | skip)
  refine ⟨by simp, ?_⟩
  have hx := hy2.trans hx0
  (repeat refine ZQ ?_); refine awp_block ?_
  (repeat refine ZQ ?_); refine ZR fun K hK => ?_; simp (maxSteps := 1000000) [ty103, ty180]
  refine ZP (hsd) ?_; simp (maxSteps := 1000000) [ty180]
  refine hK _ ?_; clear hK K
  (repeat refine ZQ ?_); refine awp_block ?_
  refine awp_rangeIn 1000000 [1000004, 1000005, 2000000, 2000001, 2000002, 2000003] (fun _ => Hs nl fu L i L[i] (nxt L i)) (itS L) L.length .ret
   [(2, .ptr 2000002 1 0 0), (3, .ptr 2000003 1 0 0), (4, .ptr 1000004 1 0 0), (5, .ptr 1000005 4 0 0), (15, .fn (.func 132) [] [.ip [sPt nl fu L] 0])] [(2, .ptr 2000002 1 0 0), (3, .ptr 2000003 1 0 0), (4, .ptr 1000004 1 0 0), (5, .ptr 1000005 4 0 0)]
   (first := []) (caps := [.ip [sPt nl fu L] 0]) ?_ (fun k hk => List.mem_cons_of_mem _ (List.mem_cons_of_mem _ (hy k hk))) (by simp) (by rw [hx]; decide) ⟨rfl, by simp [purel, C.isPure]⟩ hit2 (by rw [itS_len]; simp) (by simp) (by simp) (fun i => by simp) (fun i => by simp [wil, C.wi]) (by simp [C.wi, wil]) (by simp [C.wi, wil]) ?_ ?_ ?_ ?_
  ·refine wk_round [(1000004, 4, .live (obJ i)), (1000005, 5, .live ⟨false, false, 4, [cSd L[i] (nxt L i)]⟩), (2000000, 2000000, .gh), (2000001, 2000001, .live ⟨false, false, 1, [[sPt nl fu L]]⟩), (2000002, 2000002, .live ⟨false, false, 1, [[.bool false]]⟩), (2000003, 2000003, .live (obJ L.length))] rfl hy (by simp [mT]) (by simp) (by simp) ?_ ?_
   ·simp [SlotOk] <;> (repeat' (first | (refine RowsOk.same ?_; simp [purel, C.isPure]; done) | refine And.intro ?_ ?_))
   ·simp [mtc, mtl, mT, C.isPure, purel]
  ·intro args ha
   obtain ⟨j, _, rfl⟩ := List.mem_map.1 ha
   simp [purel, C.isPure]
  ·intro m args hit hm y3 y4 hz1 hz2 hzσ hz
   have hy := hz
   obtain ⟨hm', rfl⟩ := itS_get hit
   have hokm := hoki m hm'
   have hpc := hp _ (List.getElem_mem hm')
   have hpd := nxt_ok hp m
   have hmn : m ≠ L.length := by omega
   have hgc := getD_at hm'
   unfold okPair at hokm
   rw [hga, hgc] at hokm
   have t1 := k_has119 L[i] (nxt L i) (nxt L m) hpa hpb hpd
   have t2 := k_has119 L[m] (nxt L m) L[i] hpc hpd hpa
   have t3 := k_meets120 L[i] (nxt L i) L[m] (nxt L m) hpa hpb hpc hpd
   have w1 : IntKind.i64.wrap ((i : Int) + 1) = (i : Int) + 1 := wrap_id (by omega) (by omega)
   have w2 : Int.tmod ((i : Int) + 1) (L.length : Int) = (((i + 1) % L.length : Nat) : Int) := rfl
   have w3 : IntKind.i64.wrap ((m : Int) + 1) = (m : Int) + 1 := wrap_id (by omega) (by omega)
   have w4 : Int.tmod ((m : Int) + 1) (L.length : Int) = (((m + 1) % L.length : Nat) : Int) := rfl
   have hnil : ¬ L = [] := by rintro rfl; simp at hi'
   obtain ⟨i1, hi1⟩ : ∃ i1, (i + 1) % L.length = i1 := ⟨_, rfl⟩
   obtain ⟨m1, hm1⟩ : ∃ m1, (m + 1) % L.length = m1 := ⟨_, rfl⟩
   simp only [hi1, hm1] at w2 w4 hokm
   generalize L[i] = a at *
   generalize nxt L i = b at *
   generalize L[m] = c at *
   generalize nxt L m = d at *
   have hx1 := hx
   have hx := hz1.trans hx1
   (repeat refine ZQ ?_); refine ZR fun K hK => ?_; simp (maxSteps := 1000000) [ty3, putPs]; refine hK _ ?_; clear hK K
   (repeat refine ZQ ?_); refine ZR fun K hK => ?_; simp (maxSteps := 1000000) [ty183, putPs]; refine hK _ ?_; clear hK K; (first | show AWP _ _ _ _ _ | show ∃ _, _ | skip)
   refine ⟨by simp, ?_⟩
   have hx := hz2.trans hx1
   (repeat refine ZQ ?_); refine awp_block ?_
   (repeat refine ZQ ?_); refine awp_block ?_
   by_cases q1 : i = m
   ·have q1b : ((i : Int) == m) = true := by rw [q1]; simp
    (repeat refine ZQ ?_); refine ZR fun K hK => ?_; simp (maxSteps := 1000000) [ty3, ty4, q1b]; refine hK _ ?_; clear hK K
    (repeat refine ZQ ?_); refine ZC (hc := by simp [q1]; rfl) (fun hd => ?_) (fun hd => ?_)
    ·clear hd
     refine awp_skip ?_; (first | show AWP _ _ _ _ _ | show ∃ _, _ | skip)
     refine ⟨by rw [if_neg hmn], ?_⟩
     refine wk_round (E := []) ((1000000, 1000000, .gh) :: Hs nl fu L i a b) (by first | rfl | (simp <;> rfl)) hy (by simp [mT]) (by simp) (by simp) ?_ (by simp)
     ·simp [SlotOk] <;> (repeat' (first | (refine RowsOk.same ?_; simp [purel, C.isPure]; done) | (refine rowsCons ?_; simp [mtl, mtc, mT, mH, C.isPure, purel]; done) | (refine rowsCons ?_; simp [mtl, mtc, mT, mH, C.isPure, purel]) | refine And.intro ?_ ?_)) <;> (try simp (disch := omega) [wrap_id]) <;> (try omega)
    ·simp [q1] at hd
   ·have q1b : ((i : Int) == m) = false := by rw [beq_eq_false_iff_ne]; omega
    have q1c : (i = m) = False := eq_false q1
    rw [if_neg q1] at hokm
    (repeat refine ZQ ?_); refine ZR fun K hK => ?_; simp (maxSteps := 1000000) [ty3, ty4, q1b, q1c]; refine hK _ ?_; clear hK K
    (repeat refine ZQ ?_); refine ZC (hc := by simp [q1]; rfl) (fun hd => ?_) (fun hd => ?_)
    ·simp [q1] at hd
    ·clear hd
     by_cases q2 : m = i1
     ·have q2b : ((m : Int) == i1) = true := by rw [q2]; simp
      rw [if_pos q2, Bool.and_eq_true] at hokm
      obtain ⟨o1, o2⟩ := hokm
      have o1 : hasB a b d = false := by simpa using o1
      have o2 : hasB c d a = false := by simpa using o2
      rw [o1] at t1
      rw [o2] at t2
      (repeat refine ZQ ?_); refine ZR fun K hK => ?_; simp (maxSteps := 1000000) [ty3, ty4, w1, w2, q2b, hnil]; refine hK _ ?_; clear hK K
      (repeat refine ZQ ?_); refine ZC (hc := by simp [q2]; rfl) (fun hd => ?_) (fun hd => ?_)
      ·clear hd
       (repeat refine ZQ ?_); refine ZR fun K hK => ?_; simp (maxSteps := 1000000) [ty183, ty137, ty4]
       refine ZP (t1) ?_; simp (maxSteps := 1000000) [ty183, ty137, ty4]
       refine ZP (t2) ?_; simp (maxSteps := 1000000) [ty183, ty137, ty4]
       refine hK _ ?_; clear hK K
       (repeat refine ZQ ?_); refine ZC (fun hd => ?_) (fun hd => ?_)
       ·simp at hd
       ·clear hd
        refine awp_skip ?_; (first | show AWP _ _ _ _ _ | show ∃ _, _ | skip)
        refine ⟨by rw [if_neg hmn], ?_⟩
        refine wk_round (E := []) ((1000000, 1000000, .gh) :: Hs nl fu L i a b) (by first | rfl | (simp <;> rfl)) hy (by simp [mT]) (by simp) (by simp) ?_ (by simp)
        ·simp [SlotOk] <;> (repeat' (first | (refine RowsOk.same ?_; simp [purel, C.isPure]; done) | (refine rowsCons ?_; simp [mtl, mtc, mT, mH, C.isPure, purel]; done) | (refine rowsCons ?_; simp [mtl, mtc, mT, mH, C.isPure, purel]) | refine And.intro ?_ ?_)) <;> (try simp (disch := omega) [wrap_id]) <;> (try omega)
      ·simp [q2] at hd
     ·have q2b : ((m : Int) == i1) = false := by rw [beq_eq_false_iff_ne]; omega
      have q2c : (m = i1) = False := eq_false q2
      rw [if_neg q2] at hokm
      (repeat refine ZQ ?_); refine ZR fun K hK => ?_; simp (maxSteps := 1000000) [ty3, ty4, w1, w2, q2b, q2c, hnil]; refine hK _ ?_; clear hK K
      (repeat refine ZQ ?_); refine ZC (hc := by simp [q2]; rfl) (fun hd => ?_) (fun hd => ?_)
      ·simp [q2] at hd
      ·clear hd
       by_cases q3 : i = m1
       ·have q3b : ((i : Int) == m1) = true := by rw [q3]; simp
        (repeat refine ZQ ?_); refine ZD [] [0, 1, 2, 3, 4, 5, 6] fun K hK => ?_; simp (maxSteps := 1000000) [ty3, ty4, w3, w4, q3b, hnil]; refine hK _ ?_; clear hK K
        (repeat refine ZQ ?_); refine ZC (hc := by simp [q3]; rfl) (fun hd => ?_) (fun hd => ?_)
        ·clear hd
         refine awp_skip ?_; (first | show AWP _ _ _ _ _ | show ∃ _, _ | skip)
         refine ⟨by rw [if_neg hmn], ?_⟩
         refine wk_round (E := []) ((1000000, 1000000, .gh) :: Hs nl fu L i a b) (by first | rfl | (simp <;> rfl)) hy (by simp [mT]) (by simp) (by simp) ?_ (by simp)
         ·simp [SlotOk] <;> (repeat' (first | (refine RowsOk.same ?_; simp [purel, C.isPure]; done) | (refine rowsCons ?_; simp [mtl, mtc, mT, mH, C.isPure, purel]; done) | (refine rowsCons ?_; simp [mtl, mtc, mT, mH, C.isPure, purel]) | refine And.intro ?_ ?_)) <;> (try simp (disch := omega) [wrap_id]) <;> (try omega)
        ·simp [q3] at hd
       ·have q3b : ((i : Int) == m1) = false := by rw [beq_eq_false_iff_ne]; omega
        have q3c : (i = m1) = False := eq_false q3
        rw [if_neg q3] at hokm
        have o3 : meetsB a b c d = false := by simpa using hokm
        rw [o3] at t3
        (repeat refine ZQ ?_); refine ZD [] [0, 1, 2, 3, 4, 5, 6] fun K hK => ?_; simp (maxSteps := 1000000) [ty3, ty4, w3, w4, q3b, q3c, hnil]; refine hK _ ?_; clear hK K
        (repeat refine ZQ ?_); refine ZC (hc := by simp [q3]; rfl) (fun hd => ?_) (fun hd => ?_)
        ·simp [q3] at hd
        ·clear hd
         (repeat refine ZQ ?_); refine ZR fun K hK => ?_; simp (maxSteps := 1000000) [ty183, ty4]
         refine ZP (t3) ?_; simp (maxSteps := 1000000) [ty4]
         refine hK _ ?_; clear hK K
         (repeat refine ZQ ?_); refine ZC (fun hd => ?_) (fun hd => ?_)
         ·simp at hd
         ·clear hd
          refine awp_skip ?_; (first | show AWP _ _ _ _ _ | show ∃ _, _ | skip)
          refine ⟨by rw [if_neg hmn], ?_⟩
          refine wk_round (E := []) ((1000000, 1000000, .gh) :: Hs nl fu L i a b) (by first | rfl | (simp <;> rfl)) hy (by simp [mT]) (by simp) (by simp) ?_ (by simp)
          ·simp [SlotOk] <;> (repeat' (first | (refine RowsOk.same ?_; simp [purel, C.isPure]; done) | (refine rowsCons ?_; simp [mtl, mtc, mT, mH, C.isPure, purel]; done) | (refine rowsCons ?_; simp [mtl, mtc, mT, mH, C.isPure, purel]) | refine And.intro ?_ ?_)) <;> (try simp (disch := omega) [wrap_id]) <;> (try omega)
  ·intro he s' hs'
   refine ⟨by rw [if_neg hne], ?_⟩
   refine hs'.trans ?_
   refine wk_round (E := []) ((2000000, 2000000, .gh) :: Gs nl fu L) (by first | rfl | (simp <;> rfl)) hy (by simp [mT]) (by simp) (by simp) ?_ (by simp)
   ·simp [SlotOk] <;> (repeat' (first | (refine RowsOk.same ?_; simp [purel, C.isPure]; done) | (refine rowsCons ?_; simp [mtl, mtc, mT, mH, C.isPure, purel]; done) | (refine rowsCons ?_; simp [mtl, mtc, mT, mH, C.isPure, purel]) | refine And.intro ?_ ?_)) <;> (try simp (disch := omega) [wrap_id]) <;> (try omega)
  ·intro hlt
   rw [itS_len] at hlt
   simp at hlt
 ·intro he s' hs'
  refine AWP.weak ?_ hs'
  (repeat refine ZQ ?_); refine ZR fun K hK => ?_; simp (maxSteps := 1000000) [ty4]; refine hK _ ?_; clear hK K
  (repeat refine ZQ ?_); refine awp_ret ?_; refine And.intro (Or.inr rfl) ?_
  simp [retC, resC, viewC, mapO, ty4]
 ·intro hlt
  rw [itS_len] at hlt
  simp at hlt

set_option maxHeartbeats 8000000
set_option maxRecDepth 20000

-- corners: Check and Twice of a polygon that is simple

theorem fe137 : flatEq Tryz.prog 137 = some [.i64, .i64] := by kernel_rfl

def rowPt (p : Pt) : List C := [encPt p, encI 1]

theorem same_pt {p q : Pt} (h : p ≠ q) : sameC (.flat [.i64, .i64]) (encPt p) (encPt q) = some false := by
 have : ¬ (p.x = q.x ∧ p.y = q.y) := fun e => h (by cases p; cases q; simp at e; simp [e])
 simp [sameC, eqInts]
 by_cases h1 : p.x = q.x
 ·have h2 : ¬ p.y = q.y := fun e => this ⟨h1, e⟩
  simp [h1, h2]
 ·simp [h1]
theorem same_pt' (p : Pt) : sameC (.flat [.i64, .i64]) (encPt p) (encPt p) = some true := by simp [sameC, eqInts]

theorem find_pt {q : Pt} : ∀ (l : List Pt) (i : Nat), q ∉ l → findC (.flat [.i64, .i64]) (encPt q) (l.map rowPt) i = some none
 | [], _, _ => rfl
 | p :: l, i, h => by
  have h1 : q ≠ p := fun e => h (by simp [e])
  have h2 : q ∉ l := fun e => h (by simp [e])
  show (match sameC (.flat [.i64, .i64]) (encPt q) (encPt p) with | some true => some (some (i, encI 1)) | some false => findC (.flat [.i64, .i64]) (encPt q) (l.map rowPt) (i + 1) | none => none) = _
  rw [same_pt h1]
  exact find_pt l (i + 1) h2
theorem find_pt2 {q : Pt} : ∀ (l : List Pt) (i : Nat), q ∉ l → findC (.flat [.i64, .i64]) (encPt q) (l.map rowPt ++ [rowPt q]) i = some (some (i + l.length, encI 1))
 | [], i, _ => by
  show (match sameC (.flat [.i64, .i64]) (encPt q) (encPt q) with | some true => some (some (i, encI 1)) | some false => _ | none => none) = _
  rw [same_pt']; rfl
 | p :: l, i, h => by
  have h1 : q ≠ p := fun e => h (by simp [e])
  have h2 : q ∉ l := fun e => h (by simp [e])
  show (match sameC (.flat [.i64, .i64]) (encPt q) (encPt p) with | some true => some (some (i, encI 1)) | some false => findC (.flat [.i64, .i64]) (encPt q) (l.map rowPt ++ [rowPt q]) (i + 1) | none => none) = _
  rw [same_pt h1]
  simp only
  rw [find_pt2 l (i + 1) h2, List.length_cons]
  congr 3; omega

theorem k_check71 (nl fu : Bool) (L : List Pt) (hn : 3 ≤ L.length ∧ L.length ≤ 10) (hd : L.Nodup) (hp : ∀ p ∈ L, PtOk p) (hok : ∀ i, i < L.length → ∀ k, k < L.length → okPair L i k = true) : Pure Tryz.prog 71 [sPt nl fu L] (encI 0) := by
 have c1 := k_within85 (L.length : Int) 3 10
 have hin : inB (L.length : Int) 3 10 = true := by simp [inB]; omega
 rw [hin] at c1
 have c2 := k_contains86 nl fu L (by omega) hp
 have c3 := k_isSimple89 nl fu L (by omega) hp hok
 have hf1 : ∀ i (hi : i < L.length), L[i] ∉ L.take i := fun i hi hm => by
  obtain ⟨j, hj, e⟩ := List.getElem_of_mem hm
  rw [List.length_take] at hj
  rw [List.getElem_take] at e
  exact (List.pairwise_iff_getElem.1 hd) j i (by omega) hi (by omega) e
 obtain ⟨F, hF⟩ : ∃ F : Nat → List (List C), ∀ i, (L.take i).map rowPt = F i := ⟨_, fun _ => rfl⟩
 have hF0 : F 0 = [] := by rw [← hF]; rfl
 have hFs : ∀ i (hi : i < L.length), F (i + 1) = F i ++ [rowPt L[i]] := fun i hi => by
  rw [← hF, ← hF, List.take_succ_eq_append_getElem hi, List.map_append]; rfl
 have hq1 : ∀ i (hi : i < L.length), findC (.flat [.i64, .i64]) (encPt L[i]) (F i) 0 = some none := fun i hi => by rw [← hF]; exact find_pt _ _ (hf1 i hi)
 have hq2 : ∀ i (hi : i < L.length), ∃ j, findC (.flat [.i64, .i64]) (encPt L[i]) (F i ++ [rowPt L[i]]) 0 = some (some (j, encI 1)) := fun i hi => ⟨_, by rw [← hF]; exact find_pt2 _ _ (hf1 i hi)⟩
 have hFl : ∀ i, (F i).all purel = true := fun i => by rw [← hF]; exact all_purel_map fun _ => rfl
 clear hF hf1
 refine ZF (fn := Tryz.f71) [.tmp 2] ⟨Tryz.func71, rfl, by kernel_rfl⟩ fun x hx hσ => ?_
 (repeat refine ZQ ?_); refine ZR fun K hK => ?_; simp (maxSteps := 1000000) [ty34]; refine hK _ ?_; clear hK K
 (repeat refine ZQ ?_); refine ZR fun K hK => ?_; simp (maxSteps := 1000000) [ty103, ty3, ty4]
 refine ZP (c1) ?_; simp (maxSteps := 1000000) [ty103, ty3, ty4]
 refine ZP (c2) ?_; simp (maxSteps := 1000000) [ty4]
 refine hK _ ?_; clear hK K
 (repeat refine ZQ ?_); refine ZC (fun hd => ?_) (fun hd => ?_)
 ·simp at hd
 ·clear hd
  refine awp_skip ?_
  (repeat refine ZQ ?_); refine ZR fun K hK => ?_; simp (maxSteps := 1000000) [ty154]; refine hK _ ?_; clear hK K
  (repeat refine ZQ ?_); refine ZR fun K hK => ?_; simp (maxSteps := 1000000) [ty103, ty3]; refine hK _ ?_; clear hK K
  (repeat refine ZQ ?_); refine awp_block ?_
  refine awp_loop (fun i : Nat => ⟨ofL [(0, sPt nl fu L), (3, .mp 14), (15, sPt nl fu L), (16, encI L.length), (17, encI i)], stoT [(14, 14, .live ⟨false, false, 0, F i⟩)]⟩)
   (fun i => i ≤ L.length) (fun i => L.length - i) 0 (by simp) ?_ ?_
  ·rw [hF0]
   exact ZW
  ·intro i hi
   (repeat refine ZQ ?_); refine ZR fun K hK => ?_; simp (maxSteps := 1000000) [ty3]; refine hK _ ?_; clear hK K; (first | show AWP _ _ _ _ _ | show ∃ _, _ | skip)
   by_cases hc : i < L.length
   ·have hst := hFs i hc
    have h1 := hq1 i hc
    obtain ⟨j, h2⟩ := hq2 i hc
    have hFi := hFl i
    have w1 : IntKind.i64.wrap ((i : Int) + 1) = ((i + 1 : Nat) : Int) := by rw [wrap_id (by omega) (by omega)]; rfl
    generalize F i = R at *
    simp only [rowPt, encPt, cPt, encI] at h1 h2 hst
    have hw1 : IntKind.i64.wrap 1 = 1 := by decide
    have hRa : ∀ row ∈ R, purel row = true := fun row hr => List.all_eq_true.1 hFi row hr
    (repeat refine ZQ ?_); refine ZC (hc := by simp [hc]; rfl) (fun hd => ?_) (fun hd => ?_)
    ·clear hd
     refine awp_skip ?_
     (repeat refine ZQ ?_); refine awp_block ?_
     (repeat refine ZQ ?_); refine ZR fun K hK => ?_; simp (maxSteps := 1000000) [ty103, ty137, hc]; refine hK _ ?_; clear hK K
     (repeat refine ZQ ?_); refine ZD [7002] [0, 1, 2, 3, 4, 5, 6] fun K hK => ?_; simp (maxSteps := 1000000) [ty154, ty137, fe137, ty3, eqInts, keyQ, h1, hw1]; refine hK _ ?_; clear hK K
     (repeat refine ZQ ?_); refine ZR fun K hK => ?_; simp (maxSteps := 1000000) [ty154, ty137, fe137, ty3, ty4, eqInts, keyQ, h2]; refine hK _ ?_; clear hK K
     (repeat refine ZQ ?_); refine ZC (fun hd => ?_) (fun hd => ?_)
     ·simp at hd
     ·clear hd
      refine awp_skip ?_
      (repeat refine ZQ ?_); refine ZR fun K hK => ?_; simp (maxSteps := 1000000) [ty3, w1]; refine hK _ ?_; clear hK K; (first | show AWP _ _ _ _ _ | show ∃ _, _ | skip)
      refine ⟨i + 1, by omega, by omega, ?_⟩
      rw [hst]
      refine wk_shape (shp0 hσ (by simp) (by simp) ?_) ?_
      ·simp [SlotOk]
       refine RowsOk.same ?_
       rw [List.all_append, hFi]
       simp [purel, C.isPure]
      ·simp [mtc, mtl, mT, C.isPure, purel]
    ·simp [hc] at hd
   ·(repeat refine ZQ ?_); refine ZC (hc := by simp [hc]; rfl) (fun hd => ?_) (fun hd => ?_)
    ·simp [hc] at hd
    ·clear hd
     (repeat refine ZQ ?_); refine awp_exit ?_
     (repeat refine ZQ ?_); refine ZR fun K hK => ?_; simp (maxSteps := 1000000) [ty103, ty4]
     refine ZP (c3) ?_; simp (maxSteps := 1000000) [ty4]
     refine hK _ ?_; clear hK K
     (repeat refine ZQ ?_); refine ZC (fun hd => ?_) (fun hd => ?_)
     ·simp at hd
     ·clear hd
      refine awp_skip ?_
      (repeat refine ZQ ?_); refine ZR fun K hK => ?_; simp (maxSteps := 1000000) [ty34]; refine hK _ ?_; clear hK K
      (repeat refine ZQ ?_); refine awp_ret ?_; refine And.intro (Or.inr rfl) ?_
      simp [retC, resC, viewC, mapO]

theorem k_twice55 (nl fu : Bool) (L : List Pt) (hn : 3 ≤ L.length ∧ L.length ≤ 10) (hd : L.Nodup) (hp : ∀ p ∈ L, PtOk p) (hok : ∀ i, i < L.length → ∀ k, k < L.length → okPair L i k = true) : Pure Tryz.prog 55 [sPt nl fu L] (.tup [encI (sumTo L L.length), encI 0]) := by
 have c1 := k_check71 nl fu L hn hd hp hok
 have c2 := k_twice72 nl fu L (by omega) hp
 refine ZF (fn := Tryz.f55) [.tmp 2, .tmp 3] ⟨Tryz.func55, rfl, by kernel_rfl⟩ fun x hx hσ => ?_
 (repeat refine ZQ ?_); refine ZR fun K hK => ?_; simp (maxSteps := 1000000) [ty3, ty34]; refine hK _ ?_; clear hK K
 (repeat refine ZQ ?_); refine ZR fun K hK => ?_; simp (maxSteps := 1000000) [ty103]
 refine ZP (c1) ?_; simp (maxSteps := 1000000) [ty34]
 refine hK _ ?_; clear hK K
 (repeat refine ZQ ?_); refine ZR fun K hK => ?_; simp (maxSteps := 1000000) [ty34]; refine hK _ ?_; clear hK K
 (repeat refine ZQ ?_); refine ZC (fun hd => ?_) (fun hd => ?_)
 ·simp at hd
 ·clear hd
  refine awp_skip ?_
  (repeat refine ZQ ?_); refine ZR fun K hK => ?_; simp (maxSteps := 1000000) [ty103]
  refine ZP (c2) ?_; simp (maxSteps := 1000000) [ty34, ty3]
  refine hK _ ?_; clear hK K
  (repeat refine ZQ ?_); refine awp_ret ?_; refine And.intro (Or.inr rfl) ?_
  simp [retC, resC, viewC, mapO]

set_option maxHeartbeats 8000000
set_option maxRecDepth 20000

-- the examples

def pE : List Pt := [⟨0, 0⟩, ⟨4, 0⟩, ⟨4, 3⟩, ⟨2, 1⟩, ⟨0, 3⟩]
def aX : Arm := ⟨1, 2, 3, 10, 10, 200⟩

theorem fe106 : flatEq Tryz.prog 106 = some [.i64, .i64] := by kernel_rfl

theorem k_example56 : Pure Tryz.prog 56 [] (sPt false true pE) := by
 refine ZF (fn := Tryz.f56) [.tmp 0] ⟨Tryz.func56, rfl, by kernel_rfl⟩ fun x hx hσ => ?_
 (repeat refine ZQ ?_); refine ZR fun K hK => ?_; simp (maxSteps := 1000000) [ty103]; refine hK _ ?_; clear hK K
 (repeat refine ZQ ?_); refine ZR fun K hK => ?_; simp (maxSteps := 1000000) [ty137, ty103]; refine hK _ ?_; clear hK K
 (repeat refine ZQ ?_); refine awp_ret ?_; refine And.intro (Or.inr rfl) ?_
 simp [retC, resC, viewC, mapO, pE]

theorem k_example57 : Pure Tryz.prog 57 [] (.tup [encArm aX, .agg [encI 10, encI 1]]) := by
 refine ZF (fn := Tryz.f57) [.cell 0 108, .cell 1 110] ⟨Tryz.func57, rfl, by kernel_rfl⟩ fun x hx hσ => ?_
 (repeat refine ZQ ?_); refine ZR fun K hK => ?_; simp (maxSteps := 1000000) [ty108, ty110]; refine hK _ ?_; clear hK K
 (repeat refine ZQ ?_); refine ZR fun K hK => ?_; simp (maxSteps := 1000000) [ty106, ty108, ty110]; refine hK _ ?_; clear hK K
 (repeat refine ZQ ?_); refine awp_ret ?_; refine And.intro (Or.inr rfl) ?_
 simp [retC, resC, viewC, mapO, ty108, ty110, aX]

theorem pE_ok : ∀ p ∈ pE, PtOk p := fun p hp => by
 simp only [pE, List.mem_cons, List.not_mem_nil, or_false] at hp
 rcases hp with rfl | rfl | rfl | rfl | rfl <;> exact ⟨by decide, by decide⟩

theorem pE_nodup : pE.Nodup := by simp [pE, List.nodup_cons]

theorem pE_pairs : ∀ i, i < pE.length → ∀ k, k < pE.length → okPair pE i k = true := by decide +kernel

theorem aX_val : valI aX 40 = ((6, 1), 0) := by decide +kernel

theorem k_dialled39 : Pure Tryz.prog 39 [] (.bool true) := by
 have h48 := example48
 have hA := areas22 wX false true [yA, yB] (by decide)
 rw [wk_open2, wk_areas] at hA
 have h56 := k_example56
 have h55 := k_twice55 false true pE (by decide) pE_nodup pE_ok pE_pairs
 have hs : sumTo pE pE.length = 16 := by decide +kernel
 rw [hs] at h55
 have h57 := k_example57
 have hV := valA73 aX 40
 rw [aX_val] at hV
 simp only [encWh, cWh, sWl, cWl, wX, yA, yB, slI, List.map_cons, List.map_nil, List.isEmpty_cons] at h48 hA
 simp only [aX, encArm] at h57 hV
 generalize pE = pl at *
 refine ZF (fn := Tryz.f39) [.tmp 0] ⟨Tryz.func39, rfl, by kernel_rfl⟩ fun x hx hσ => ?_
 (repeat refine ZQ ?_); refine ZR fun K hK => ?_; simp (maxSteps := 1000000) [ty4]; refine hK _ ?_; clear hK K
 (repeat refine ZQ ?_); refine ZR fun K hK => ?_; simp (maxSteps := 1000000) [ty25]
 refine ZP (h48) ?_; simp (maxSteps := 1000000) [ty25]
 refine hK _ ?_; clear hK K
 (repeat refine ZQ ?_); refine ZR fun K hK => ?_; simp (maxSteps := 1000000) [ty25]
 refine ZP (hA) ?_; simp (maxSteps := 1000000) [ty25, ty43]
 refine hK _ ?_; clear hK K
 (repeat refine ZQ ?_); refine ZR fun K hK => ?_; simp (maxSteps := 1000000) [ty103]
 refine ZP (h56) ?_; simp (maxSteps := 1000000) [ty103]
 refine ZP (h55) ?_; simp (maxSteps := 1000000) [ty103, ty3]
 refine hK _ ?_; clear hK K
 (repeat refine ZQ ?_); refine ZR fun K hK => ?_; simp (maxSteps := 1000000) [ty108, ty110]
 refine ZP (h57) ?_; simp (maxSteps := 1000000) [ty108, ty110]
 refine hK _ ?_; clear hK K
 (repeat refine ZQ ?_); refine ZR fun K hK => ?_; simp (maxSteps := 1000000) [ty108, ty106]
 refine ZP (hV) ?_; simp (maxSteps := 1000000) [ty106]
 refine hK _ ?_; clear hK K
 (repeat refine ZQ ?_); refine ZR fun K hK => ?_; simp (maxSteps := 1000000) [ty34, ty4, ty3, ty43, ty106, fe106, eqInts]; refine hK _ ?_; clear hK K
 (repeat refine ZQ ?_); refine awp_ret ?_; refine And.intro (Or.inr rfl) ?_
 simp [retC, resC, viewC, mapO]

theorem k_tested17 : Pure Tryz.prog 17 [] (.bool true) := by
 have h1 := example45
 have h2 := gains22 tX tX_len
 rw [tX_gains, tX_open] at h2
 simp only [slI, List.map_cons, List.map_nil, List.isEmpty_cons] at h2
 generalize tX = t at *
 refine ZF (fn := Tryz.f17) [.tmp 0] ⟨Tryz.func17, rfl, by kernel_rfl⟩ fun x hx hσ => ?_
 (repeat refine ZQ ?_); refine ZR fun K hK => ?_; simp (maxSteps := 1000000) [ty4]; refine hK _ ?_; clear hK K
 (repeat refine ZQ ?_); refine ZR fun K hK => ?_; simp (maxSteps := 1000000) [ty28]
 refine ZP (h1) ?_; simp (maxSteps := 1000000) [ty28]
 refine ZP (h2) ?_; simp (maxSteps := 1000000) [ty43]
 refine hK _ ?_; clear hK K
 (repeat refine ZQ ?_); refine ZR fun K hK => ?_; simp (maxSteps := 1000000) [ty34, ty4, ty3, ty43]
 refine ZP (k_dialled39) ?_; simp (maxSteps := 1000000) [ty4]
 refine hK _ ?_; clear hK K
 (repeat refine ZQ ?_); refine awp_ret ?_; refine And.intro (Or.inr rfl) ?_
 simp [retC, resC, viewC, mapO]

theorem k_worn7 : Pure Tryz.prog 7 [] (.bool true) := by
 have h1 := example56
 have h2 := w_on18 wE 4 wE_len
 rw [wE_on, wE_open (by decide)] at h2
 simp only [slI, List.map_cons, List.map_nil, List.isEmpty_cons, cI] at h2
 generalize wE = w at *
 generalize zE = z at *
 refine ZF (fn := Tryz.f7) [.tmp 0] ⟨Tryz.func7, rfl, by kernel_rfl⟩ fun x hx hσ => ?_
 (repeat refine ZQ ?_); refine ZR fun K hK => ?_; simp (maxSteps := 1000000) [ty4]; refine hK _ ?_; clear hK K
 (repeat refine ZQ ?_); refine ZR fun K hK => ?_; simp (maxSteps := 1000000) [ty42]
 refine ZP (h1) ?_; simp (maxSteps := 1000000) [ty42]
 refine hK _ ?_; clear hK K
 (repeat refine ZQ ?_); refine ZR fun K hK => ?_; simp (maxSteps := 1000000) [ty42, ty3]
 refine ZP (h2) ?_; simp (maxSteps := 1000000) [ty43]
 refine hK _ ?_; clear hK K
 (repeat refine ZQ ?_); refine ZR fun K hK => ?_; simp (maxSteps := 1000000) [ty34, ty4, ty3, ty43]
 refine ZP (k_tested17) ?_; simp (maxSteps := 1000000) [ty4]
 refine hK _ ?_; clear hK K
 (repeat refine ZQ ?_); refine awp_ret ?_; refine And.intro (Or.inr rfl) ?_
 simp [retC, resC, viewC, mapO]

set_option maxHeartbeats 4000000

-- plain laws of the day to come back; Beyond

theorem openW_true' {w : Ws} (h1 : checkW w = 0) (h3 : canC (co w (gl w)) [] = true) : openW w true = 0 := by
 unfold openW; rw [if_neg (by simpa using h1), if_neg (by simp), if_neg (by rw [h3]; simp)]

set_option maxHeartbeats 16000000

-- THE THEOREM THAT IT ONLY WEARS


theorem seqN_sorted (a : Int) (n : Nat) : (seqN a n).Pairwise (· < ·) := by
 unfold seqN
 rw [List.pairwise_map]
 exact List.pairwise_lt_range.imp fun h => by omega

theorem onC_sorted (c : Co) (day : Int) (M : List (Int × Int)) : (onC c day M).Pairwise (· < ·) := (seqN_sorted _ _).filter _

set_option maxHeartbeats 8000000

-- Errs

def mnI (L : List Int) : Int := L.foldl (fun m x => if x < m then x else m) (L.headD 0)
def mxI (L : List Int) : Int := L.foldl (fun m x => if m < x then x else m) (L.headD 0)


theorem min91 (nl fu : Bool) (L : List Int) (hne : L ≠ []) (hn : L.length ≤ 1000000) : Pure Tryz.prog 30 [.sl nl fu (L.map cI)] (encI (mnI L)) := by
 have hpos : 0 < L.length := List.length_pos_iff.2 hne
 obtain ⟨R, hR⟩ : ∃ R : Nat → Int, ∀ m, (L.take m).foldl (fun m x => if x < m then x else m) (L.headD 0) = R m := ⟨_, fun _ => rfl⟩
 have hRN : mnI L = R L.length := by rw [← hR, List.take_length]; rfl
 have hh : L.headD 0 = L[0] := (ends_at hpos).2.symm
 have hR1 : R 1 = L[0] := by
  rw [← hR]
  cases L with
  | nil => simp at hpos
  | cons a l => simp
 have hRs : ∀ m (hm : m < L.length), R (m + 1) = (fun m x => if x < m then x else m) (R m) L[m] := fun m hm => by
  rw [← hR, ← hR, List.take_succ_eq_append_getElem hm, List.foldl_append]; rfl
 rw [hRN]
 have h1 : ¬ ((L.length : Int) < 1) := by omega
 refine ZF (fn := Tryz.f30) [.tmp 2] ⟨Tryz.func30, rfl, by kernel_rfl⟩ fun x hx hσ => ?_
 (repeat refine ZQ ?_); refine ZR fun K hK => ?_; simp (maxSteps := 1000000) [ty43, ty3]; refine hK _ ?_; clear hK K
 (repeat refine ZQ ?_); refine ZR fun K hK => ?_; simp (maxSteps := 1000000) [ty43, ty3, h1]; refine hK _ ?_; clear hK K
 (repeat refine ZQ ?_); refine ZC (hc := by simp [h1]; rfl) (fun hd => ?_) (fun hd => ?_)
 ·simp [h1] at hd
 ·clear hd
  refine awp_skip ?_
  (repeat refine ZQ ?_); refine ZR fun K hK => ?_; simp (maxSteps := 1000000) [ty43, ty3, hpos]; refine hK _ ?_; clear hK K
  (repeat refine ZQ ?_); refine ZR fun K hK => ?_; simp (maxSteps := 1000000) [ty3]; refine hK _ ?_; clear hK K
  (repeat refine ZQ ?_); refine awp_block ?_
  refine awp_loop (fun i : Nat => ⟨ofL [(0, .sl nl fu (L.map cI)), (3, encI (R (i + 1))), (4, encI ((i + 1 : Nat) : Int))], stoT []⟩)
   (fun i => i + 1 ≤ L.length) (fun i => L.length - i) 0 (by omega) ?_ ?_
  ·rw [hR1]
   exact Zw
  ·intro i hi
   (repeat refine ZQ ?_); refine ZR fun K hK => ?_; simp (maxSteps := 1000000) [ty43, ty3]; refine hK _ ?_; clear hK K
   (repeat refine ZQ ?_); refine ZC (fun hc => ?_) (fun hc => ?_)
   ·simp at hc
    have hil : i + 1 < L.length := by omega
    have hst := hRs (i + 1) hil
    simp only at hst
    have h01 : (0 : Int) ≤ (i : Int) + 1 := by omega
    have hwi : IntKind.i64.wrap ((i : Int) + 1 + 1) = (i : Int) + 1 + 1 := wrap_id (by omega) (by omega)
    refine awp_skip ?_
    (repeat refine ZQ ?_); refine awp_block ?_
    by_cases hq : L[i + 1] < R (i + 1)
    ·rw [if_pos hq] at hst
     (repeat refine ZQ ?_); refine ZR fun K hK => ?_; simp (maxSteps := 1000000) [ty43, ty3, hil, hq, h01]; refine hK _ ?_; clear hK K
     (repeat refine ZQ ?_); refine ZR fun K hK => ?_; simp (maxSteps := 1000000) [ty3, hwi]; refine hK _ ?_; clear hK K; (first | show AWP _ _ _ _ _ | show ∃ _, _ | skip)
     refine ⟨i + 1, by omega, by omega, ?_⟩
     rw [hst]
     exact Zw
    ·rw [if_neg hq] at hst
     (repeat refine ZQ ?_); refine ZR fun K hK => ?_; simp (maxSteps := 1000000) [ty43, ty3, hil, hq, h01]; refine hK _ ?_; clear hK K
     (repeat refine ZQ ?_); refine ZR fun K hK => ?_; simp (maxSteps := 1000000) [ty3, hwi]; refine hK _ ?_; clear hK K; (first | show AWP _ _ _ _ _ | show ∃ _, _ | skip)
     refine ⟨i + 1, by omega, by omega, ?_⟩
     rw [hst]
     exact Zw
   ·simp at hc
    (repeat refine ZQ ?_); refine awp_exit ?_; (first | show AWP _ _ _ _ _ | show ∃ _, _ | skip)
    have hiN : i + 1 = L.length := by omega
    rw [hiN]
    (repeat refine ZQ ?_); refine ZR fun K hK => ?_; simp (maxSteps := 1000000) [ty3]; refine hK _ ?_; clear hK K
    (repeat refine ZQ ?_); refine awp_ret ?_; refine And.intro (Or.inr rfl) ?_
    simp [retC, resC, viewC, mapO]

theorem max92 (nl fu : Bool) (L : List Int) (hne : L ≠ []) (hn : L.length ≤ 1000000) : Pure Tryz.prog 31 [.sl nl fu (L.map cI)] (encI (mxI L)) := by
 have hpos : 0 < L.length := List.length_pos_iff.2 hne
 obtain ⟨R, hR⟩ : ∃ R : Nat → Int, ∀ m, (L.take m).foldl (fun m x => if m < x then x else m) (L.headD 0) = R m := ⟨_, fun _ => rfl⟩
 have hRN : mxI L = R L.length := by rw [← hR, List.take_length]; rfl
 have hh : L.headD 0 = L[0] := (ends_at hpos).2.symm
 have hR1 : R 1 = L[0] := by
  rw [← hR]
  cases L with
  | nil => simp at hpos
  | cons a l => simp
 have hRs : ∀ m (hm : m < L.length), R (m + 1) = (fun m x => if m < x then x else m) (R m) L[m] := fun m hm => by
  rw [← hR, ← hR, List.take_succ_eq_append_getElem hm, List.foldl_append]; rfl
 rw [hRN]
 have h1 : ¬ ((L.length : Int) < 1) := by omega
 refine ZF (fn := Tryz.f31) [.tmp 2] ⟨Tryz.func31, rfl, by kernel_rfl⟩ fun x hx hσ => ?_
 (repeat refine ZQ ?_); refine ZR fun K hK => ?_; simp (maxSteps := 1000000) [ty43, ty3]; refine hK _ ?_; clear hK K
 (repeat refine ZQ ?_); refine ZR fun K hK => ?_; simp (maxSteps := 1000000) [ty43, ty3, h1]; refine hK _ ?_; clear hK K
 (repeat refine ZQ ?_); refine ZC (hc := by simp [h1]; rfl) (fun hd => ?_) (fun hd => ?_)
 ·simp [h1] at hd
 ·clear hd
  refine awp_skip ?_
  (repeat refine ZQ ?_); refine ZR fun K hK => ?_; simp (maxSteps := 1000000) [ty43, ty3, hpos]; refine hK _ ?_; clear hK K
  (repeat refine ZQ ?_); refine ZR fun K hK => ?_; simp (maxSteps := 1000000) [ty3]; refine hK _ ?_; clear hK K
  (repeat refine ZQ ?_); refine awp_block ?_
  refine awp_loop (fun i : Nat => ⟨ofL [(0, .sl nl fu (L.map cI)), (3, encI (R (i + 1))), (4, encI ((i + 1 : Nat) : Int))], stoT []⟩)
   (fun i => i + 1 ≤ L.length) (fun i => L.length - i) 0 (by omega) ?_ ?_
  ·rw [hR1]
   exact Zw
  ·intro i hi
   (repeat refine ZQ ?_); refine ZR fun K hK => ?_; simp (maxSteps := 1000000) [ty43, ty3]; refine hK _ ?_; clear hK K
   (repeat refine ZQ ?_); refine ZC (fun hc => ?_) (fun hc => ?_)
   ·simp at hc
    have hil : i + 1 < L.length := by omega
    have hst := hRs (i + 1) hil
    simp only at hst
    have h01 : (0 : Int) ≤ (i : Int) + 1 := by omega
    have hwi : IntKind.i64.wrap ((i : Int) + 1 + 1) = (i : Int) + 1 + 1 := wrap_id (by omega) (by omega)
    refine awp_skip ?_
    (repeat refine ZQ ?_); refine awp_block ?_
    by_cases hq : R (i + 1) < L[i + 1]
    ·rw [if_pos hq] at hst
     (repeat refine ZQ ?_); refine ZR fun K hK => ?_; simp (maxSteps := 1000000) [ty43, ty3, hil, hq, h01]; refine hK _ ?_; clear hK K
     (repeat refine ZQ ?_); refine ZR fun K hK => ?_; simp (maxSteps := 1000000) [ty3, hwi]; refine hK _ ?_; clear hK K; (first | show AWP _ _ _ _ _ | show ∃ _, _ | skip)
     refine ⟨i + 1, by omega, by omega, ?_⟩
     rw [hst]
     exact Zw
    ·rw [if_neg hq] at hst
     (repeat refine ZQ ?_); refine ZR fun K hK => ?_; simp (maxSteps := 1000000) [ty43, ty3, hil, hq, h01]; refine hK _ ?_; clear hK K
     (repeat refine ZQ ?_); refine ZR fun K hK => ?_; simp (maxSteps := 1000000) [ty3, hwi]; refine hK _ ?_; clear hK K; (first | show AWP _ _ _ _ _ | show ∃ _, _ | skip)
     refine ⟨i + 1, by omega, by omega, ?_⟩
     rw [hst]
     exact Zw
   ·simp at hc
    (repeat refine ZQ ?_); refine awp_exit ?_; (first | show AWP _ _ _ _ _ | show ∃ _, _ | skip)
    have hiN : i + 1 = L.length := by omega
    rw [hiN]
    (repeat refine ZQ ?_); refine ZR fun K hK => ?_; simp (maxSteps := 1000000) [ty3]; refine hK _ ?_; clear hK K
    (repeat refine ZQ ?_); refine awp_ret ?_; refine And.intro (Or.inr rfl) ?_
    simp [retC, resC, viewC, mapO]

theorem on_ne_nil' {c : Co} (h : canC c [] = true) {d : Nat} (hd : d ≤ c.last.toNat) : onC c d [] ≠ [] := by
 obtain ⟨p, hp⟩ := (can_nil c).1 h
 exact List.ne_nil_of_mem ((on_nil c d hd (p d)).2 ⟨p, hp, rfl⟩)

def errL (c : Co) (day a : Int) : List Int := (onC c day []).map fun g => seenA a g - a
def errW (w : Ws) (day a : Int) : Int × Int := if openW w (dayB w day && areaB a) = 0 then (mnI (errL (co w (gl w)) day a), mxI (errL (co w (gl w)) day a)) else (0, 0)

@[simp] noncomputable abbrev Te (a : Int) (N i : Nat) : List (Nat × Nat × Slot) := [(1000005, 1000005, .live (o1 (encI a))), (1000006, 1000006, .live ⟨false, false, 2, [[encI 0, encI 0]]⟩), (1000010, 1000010, .live (o1 (apC N i)))]


theorem w_errs46 (w : Ws) (day a : Int) (hn : WsLen w) : Pure Tryz.prog 11 [encWs w, encI day, encI a] (.tup [.agg [encI (errW w day a).1, encI (errW w day a).2], encI (openW w (dayB w day && areaB a))]) := by
 by_cases hz : openW w (dayB w day && areaB a) = 0
 ·obtain ⟨hok, his, hcan⟩ := openW_ok hz
  have hop := open_yes hn hz
  have hnum := hok.num
  have hit := on98 w (gl w) true true [] [] day hnum (by simp)
  simp only [rowsK_nil] at hit
  have hV : errW w day a = (mnI (errL (co w (gl w)) day a), mxI (errL (co w (gl w)) day a)) := if_pos hz
  rw [hV, hz]
  have hmem : ∀ z ∈ onC (co w (gl w)) day [], -50 ≤ z ∧ z ≤ 50 := fun z hz' => by
   have h1 := onC_bd hz'
   have h2 := hnum.gain
   simp only at h1
   omega
  have hln := onC_len (co w (gl w)) day [] hnum.gain
  simp only [Bool.and_eq_true] at his
  obtain ⟨h1, h2⟩ := his
  have hne : onC (co w (gl w)) day [] ≠ [] := by
   have hdd : 0 ≤ day ∧ day ≤ w.last := by simpa [dayB] using h1
   have := on_ne_nil' hcan (d := day.toNat) (by simp only; omega)
   rw [show ((day.toNat : Nat) : Int) = day by omega] at this
   exact this
  unfold errL
  generalize onC (co w (gl w)) day [] = L at *
  have ha := areaB_iff.1 h2
  rw [h1, h2] at hop
  simp only [Bool.and_self] at hop
  obtain ⟨V, hVe⟩ : ∃ V, (L.map fun g => seenA a g - a) = V := ⟨_, rfl⟩
  obtain ⟨N, hN⟩ : ∃ N, L.length = N := ⟨_, rfl⟩
  have hVl : V.length = N := by rw [← hVe]; simp [hN]
  have hVg : ∀ i (h : i < L.length), V[i]'(by omega) = seenA a L[i] - a := fun i h => by subst hVe; simp
  have hVn : V ≠ [] := by rw [← hVe]; simpa using hne
  have hN0 : 0 < N := by rw [← hN]; exact List.length_pos_iff.2 hne
  rw [hVe]
  clear hVe hV
  have hil : (itI L).length = N := by simp [hN]
  refine ZF (fn := Tryz.f11) [.cell 6 23, .tmp 7] ⟨Tryz.func11, rfl, by kernel_rfl⟩ fun x hx hσ => ?_
  (repeat refine ZQ ?_); refine ZR fun K hK => ?_; simp (maxSteps := 1000000) [ty42, ty34, ty3, ty23]; refine hK _ ?_; clear hK K
  (repeat refine ZQ ?_); refine ZD [] [0, 1, 2, 3, 4, 5, 6, 7, 8, 9, 10, 11, 12, 13, 14] fun K hK => ?_; simp (maxSteps := 1000000) [ty42, ty3, ty4]
  refine ZE (isDay62 w day) ?_; simp (maxSteps := 1000000) [ty42, ty3, ty4, h1]
  refine ZE (isArea58 a) ?_; simp (maxSteps := 1000000) [ty42, ty3, ty4, h2]
  refine ZE (hop) ?_; simp (maxSteps := 1000000) [ty69]
  refine hK _ ?_; clear hK K
  (repeat refine ZQ ?_); refine ZR fun K hK => ?_; simp (maxSteps := 1000000) [ty34]; refine hK _ ?_; clear hK K
  (repeat refine ZQ ?_); refine ZC (fun hd => ?_) (fun hd => ?_)
  ·simp at hd
  ·clear hd
   refine awp_skip ?_
   (repeat refine ZQ ?_); refine ZR fun K hK => ?_; simp (maxSteps := 1000000) [ty43]; refine hK _ ?_; clear hK K
   (repeat refine ZQ ?_); refine ZR fun K hK => ?_; simp (maxSteps := 1000000) [ty69, ty3, ty67]
   refine ZP (on60 w (gl w) true true [] [] day) ?_; simp (maxSteps := 1000000) [ty74]
   refine hK _ ?_; clear hK K
   (repeat refine ZQ ?_); refine awp_block ?_
   have hfam := famOkS (L := 1000000) (K := [1000005, 1000006, 1000010]) (N := N) (T := fun i => Te a N i) (M := fun i e => apSl V i e) (by decide) (by simp) (by simp) (fun i => by simp)
    (fun i p hp => by
     simp only [Te, List.mem_cons, List.not_mem_nil, or_false] at hp
     rcases hp with rfl | rfl | rfl
     ·exact ⟨_, rfl, by simp [wil, C.wi], by simp⟩
     ·exact ⟨_, rfl, by simp [wil, C.wi], by simp⟩
     ·refine ⟨_, rfl, ?_, ?_⟩
      ·unfold apC
       split
       ·simp [wil, C.wi]
       ·have : i - 1 < N := by omega
        simp [wil, C.wi, this]
      ·simp only [List.all_cons, List.all_nil, apC_cell]; rfl)
    (fun i e he => apSl_ok V i e)
   refine awp_rangeG 1000000 _ _ (itI L) N .ret [(5, .ptr 1000005 1 0 0), (6, .ptr 1000006 2 0 0), (10, .ptr 1000010 1 0 0), (30, .fn (.func 50) [] [.ip (cCd w (gl w) true []) 0, .ip [encI day] 0, .ip [.md true []] 0])] [(5, .ptr 1000005 1 0 0), (10, .ptr 1000010 1 0 0)] (first := []) (caps := [.ip (cCd w (gl w) true []) 0, .ip [encI day] 0, .ip [.md true []] 0]) ?_ hσ hfam (by simp) (by rw [hx]; decide) ⟨rfl, by simp [purel, C.isPure]⟩ hit (by omega)
    (by simp [C.wi, wil]) (by simp [C.wi, wil]) ?_ ?_ ?_ ?_
   ·refine Wk.trans (wk_shape (E := [(5, .ptr 1000005 1 0 0), (6, .ptr 1000006 2 0 0), (10, .ptr 1000010 1 0 0), (30, .fn (.func 50) [] [.ip (cCd w (gl w) true []) 0, .ip [encI day] 0, .ip [.md true []] 0])]) (T := [(1000005, 5, .live (o1 (encI a))), (1000006, 6, .live ⟨false, false, 2, [[encI 0, encI 0]]⟩), (1000010, 10, .live (o1 (.sl true true [])))]) (shp0 hσ (by simp) (by simp) ?_) ?_) ?_
    ·simp [SlotOk]
     exact ⟨.same (by simp [purel, C.isPure]), .same (by simp [purel, C.isPure]), .same (by simp [purel, C.isPure])⟩
    ·simp [mtc, mtl, mT, C.isPure, purel]
    ·have e1 : (fun e => apSl V 0 e) = fun _ => Slot.gh := by
      funext e; unfold apSl; rw [if_neg (by omega), if_neg (by omega)]
     simp only [Te, e1, apC_zero]
     exact wk_famGh (by simp) N
   ·intro args ha
    obtain ⟨t, ht, rfl⟩ := List.mem_map.1 ha
    simp [purel, C.isPure]
   ·intro i args hit hi y y2 hy1 hy2 hyS hy2S
    obtain ⟨g, ht, rfl⟩ := itI_get hit
    have hi' : i < L.length := (List.getElem?_eq_some_iff.1 ht).1
    have hti : L[i] = g := (List.getElem?_eq_some_iff.1 ht).2
    have hgb := hmem g (List.mem_of_getElem? ht)
    have hsb := seenA_bd ha hgb
    have hw1 : IntKind.i64.wrap (seenA a g - a) = seenA a g - a := wrap_id (by omega) (by omega)
    have hvi := hVg i hi'
    rw [hti] at hvi
    have hr0 := fun i => famS_rfam (L := 1000000) (by decide) (Te a N i) N (fun e => apSl V i e) i (fun i => famS (Te a N i) N fun e => apSl V i e) rfl
    rw [hr0 i, hr0 (i + 1)]
    have hx0 := hx
    have hx := hy1.trans hx0
    (repeat refine ZQ ?_); refine ZR fun K hK => ?_; simp (maxSteps := 1000000) [ty3, putPs]; refine hK _ ?_; clear hK K; (first | show AWP _ _ _ _ _ | show ∃ _, _ | skip)
    refine ⟨by simp, ?_⟩
    have hx := hy2.trans hx0
    (repeat refine ZQ ?_); refine awp_block ?_
    have hsN := apC_succ (N := N) (i := i) (by omega)
    have hrow := take_ints V (show i < V.length by omega)
    rw [hvi] at hrow
    by_cases h0 : i = 0
    ·subst h0
     rw [apC_zero]
     have e0 : (V.take 0).map cI = [] := rfl
     rw [e0] at hrow
     refine AWP.weak ?_ (wk_nilCell 1000010 0 0 1000 1 (o := o1 (.sl true true [])) (row := [.sl true true []]) (fu := true) (by simp) rfl rfl rfl (by simp [stoT]) (by decide))
     (repeat refine ZQ ?_); refine ZD [] [0, 1, 2, 3, 4, 5, 6, 7, 8] fun K hK => ?_; simp (maxSteps := 1000000) [ty43, ty3]
     refine ZE (seen61 a g ha hgb) ?_; simp (maxSteps := 1000000) [ty43, ty3, hw1]
     refine hK _ ?_; clear hK K; (first | show AWP _ _ _ _ _ | show ∃ _, _ | skip)
     refine ⟨by rw [if_neg (by omega)], ?_⟩
     have hsl1 : apSl V 1 0 = .live ⟨false, false, 1, (V.take 1).map cI⟩ := if_pos rfl
     have hsN1 : apC N 1 = .own (fk 0) 1 0 1 := apC_succ (by omega)
     refine wk_famR (E := []) (T := (1000000, 1000000, .gh) :: Te a N 1) (fun e => if e = 0 then 39 else fk e) hy2S (hr0 0) (by simp [mT]) (by simp) ?_ (by simp) (by simp) (by simp) ?_ ?_ ?_ (by simp)
     ·intro e he hne
      exact absurd (by unfold apSl; rw [if_neg (by omega), if_neg (by omega)]) hne
     ·intro e he
      by_cases hej : e = 0
      ·subst hej
       refine .inr ⟨by simp, by simp, fun e' _ h => ?_⟩
       simp only [if_true] at h
       split at h
       ·assumption
       ·simp at h
      ·simp [hej]
     ·intro e he
      by_cases hej : e = 0
      ·subst hej
       rw [hsl1, hrow]
       simp
       exact ⟨rfl, rfl, rfl, .same (by simp [purel, C.isPure])⟩
      ·simp [hej, he]
       exact apSl_next V hej
     ·simp [SlotOk, hsN1]
      exact ⟨.same (by simp [purel, C.isPure]), .same (by simp [purel, C.isPure]), .cons (by simp [mtl, mtc, mT, mF]; omega) (by simp) .nil⟩
    ·obtain ⟨n, rfl⟩ : ∃ n, i = n + 1 := ⟨i - 1, by omega⟩
     have hsn := apC_succ (N := N) (i := n) (by omega)
     rw [hsn]
     have hnN : n < N := by omega
     have hsl : apSl V (n + 1) n = .live ⟨false, false, 1, (V.take (n + 1)).map cI⟩ := if_pos rfl
     have hAl : ((V.take (n + 1)).map cI).length = n + 1 := by simp; omega
     have hAp := ints_pure (V.take (n + 1))
     generalize hA : (V.take (n + 1)).map cI = A at *
     have hA2 : (V.take (n + 1 + 1)).map cI = A ++ [[encI (seenA a g - a)]] := hrow
     (repeat refine ZQ ?_); refine ZD [] [0, 1, 2, 3, 4, 5, 6, 7, 8] fun K hK => ?_; simp (maxSteps := 1000000) [ty43, ty3, hnN, hsl, hAl]
     refine ZE (seen61 a g ha hgb) ?_; simp (maxSteps := 1000000) [ty43, ty3, hw1, hnN, hsl, hAl]
     refine ⟨by omega, ?_⟩
     refine hK _ ?_; clear hK K; (first | show AWP _ _ _ _ _ | show ∃ _, _ | skip)
     refine ⟨by rw [if_neg (by omega)], ?_⟩
     have hsl1 : apSl V (n + 1 + 1) (n + 1) = .live ⟨false, false, 1, A ++ [[encI (seenA a g - a)]]⟩ := by rw [← hA2]; exact if_pos rfl
     have hsn2 := apC_succ (N := N) (i := n + 1) (by omega)
     refine wk_famR (E := []) (T := (1000000, 1000000, .gh) :: Te a N (n + 1 + 1)) (fun e => if e = n + 1 then 39 else fk e) hy2S (hr0 (n + 1)) (by simp [mT]) (by simp) ?_ (by simp) (by simp) (by simp) ?_ ?_ ?_ (by simp)
     ·intro e he hne
      by_cases hej : e = n + 1
      ·subst hej
       exact absurd (by unfold apSl; rw [if_neg (by omega), if_neg (by omega)]) hne
      ·simp [hej]
     ·intro e he
      by_cases hej : e = n + 1
      ·subst hej
       refine .inr ⟨by simp, by simp, fun e' _ h => ?_⟩
       simp only [if_true] at h
       split at h
       ·assumption
       ·simp at h
      ·simp [hej]
     ·intro e he
      by_cases hej : e = n + 1
      ·subst hej
       rw [hsl1]
       simp
       exact ⟨rfl, rfl, rfl, .same (by simp [purel, C.isPure]; exact fun x h => List.all_eq_true.1 hAp x h)⟩
      ·by_cases hen : e = n
       ·subst hen
        have hd : apSl V (e + 1 + 1) e = .dead := by unfold apSl; rw [if_neg (by omega), if_pos (by omega)]
        rw [hd]
        simp [hej]
        trivial
       ·simp [hej, hen, he]
        exact apSl_next V hej
     ·simp [SlotOk, hsn2]
      exact ⟨.same (by simp [purel, C.isPure]), .same (by simp [purel, C.isPure]), .cons (by simp [mtl, mtc, mT, mF]; omega) (by simp) .nil⟩
   ·intro he s' hs'
    refine AWP.weak ?_ hs'
    rw [hil]
    obtain ⟨n, hn1⟩ : ∃ n, N = n + 1 := ⟨N - 1, by omega⟩
    have hsn := apC_succ (N := N) (i := n) (by omega)
    have hsl : apSl V (n + 1) n = .live ⟨false, false, 1, V.map cI⟩ := by
     unfold apSl; rw [if_pos rfl, List.take_of_length_le (by omega)]
    subst hn1
    simp only [Te, hsn]
    refine AWP.weak ?_ (wk_frzCell (fk n) 1000010 0 0 (o := ⟨false, false, 1, V.map cI⟩) (oq := o1 (.own (fk n) 1 0 (n + 1))) (row := [.own (fk n) 1 0 (n + 1)]) (c := .own (fk n) 1 0 (n + 1)) (c' := .sl false false (V.map cI)) (by simp [hsl]) (ints_pure V) (by simp) (by simp) rfl rfl rfl (fz_own rfl (by simp [hVl]) (by simp)) rfl)
    have hmn := min91 false false V hVn (by omega)
    have hmx := max92 false false V hVn (by omega)
    (repeat refine ZQ ?_); refine ZD [] [0, 1, 2, 3, 4, 5, 6] fun K hK => ?_; simp (maxSteps := 1000000) [ty43, ty23]
    refine ZE (hmn) ?_; simp (maxSteps := 1000000) [ty43, ty23]
    refine ZE (hmx) ?_; simp (maxSteps := 1000000) [ty43, ty23]
    refine hK _ ?_; clear hK K
    (repeat refine ZQ ?_); refine awp_ret ?_; refine And.intro (Or.inr rfl) ?_
    simp [retC, resC, viewC, mapO, ty23]
   ·intro hlt
    rw [hil] at hlt
    omega
 ·have hop := open_no hn hz
  have hV : errW w day a = (0, 0) := if_neg hz
  rw [hV]
  cases h1 : dayB w day
  ·rw [h1] at hop hz
   simp only [Bool.false_and] at hop hz ⊢
   refine ZF (fn := Tryz.f11) [.cell 6 23, .tmp 7] ⟨Tryz.func11, rfl, by kernel_rfl⟩ fun x hx hσ => ?_
   (repeat refine ZQ ?_); refine ZR fun K hK => ?_; simp (maxSteps := 1000000) [ty42, ty34, ty3, ty23]; refine hK _ ?_; clear hK K
   (repeat refine ZQ ?_); refine ZD [] [0, 1, 2, 3, 4, 5, 6, 7, 8, 9, 10, 11, 12, 13, 14] fun K hK => ?_; simp (maxSteps := 1000000) [ty42, ty3, ty4]
   refine ZE (isDay62 w day) ?_; simp (maxSteps := 1000000) [ty42, ty3, ty4, h1]
   refine ZE (hop) ?_; simp (maxSteps := 1000000) [ty69]
   refine hK _ ?_; clear hK K
   (repeat refine ZQ ?_); refine ZR fun K hK => ?_; simp (maxSteps := 1000000) [ty34]; refine hK _ ?_; clear hK K
   (repeat refine ZQ ?_); refine ZC (hc := by simp [hz]; rfl) (fun hd => ?_) (fun hd => ?_)
   ·clear hd
    (repeat refine ZQ ?_); refine ZR fun K hK => ?_; simp (maxSteps := 1000000) [ty34, ty23]; refine hK _ ?_; clear hK K
    (repeat refine ZQ ?_); refine awp_ret ?_; refine And.intro (Or.inr rfl) ?_
    simp [retC, resC, viewC, mapO, hz, ty23]
   ·simp [hz] at hd
  ·rw [h1] at hop hz
   simp only [Bool.true_and] at hop hz ⊢
   refine ZF (fn := Tryz.f11) [.cell 6 23, .tmp 7] ⟨Tryz.func11, rfl, by kernel_rfl⟩ fun x hx hσ => ?_
   (repeat refine ZQ ?_); refine ZR fun K hK => ?_; simp (maxSteps := 1000000) [ty42, ty34, ty3, ty23]; refine hK _ ?_; clear hK K
   (repeat refine ZQ ?_); refine ZD [] [0, 1, 2, 3, 4, 5, 6, 7, 8, 9, 10, 11, 12, 13, 14] fun K hK => ?_; simp (maxSteps := 1000000) [ty42, ty3, ty4]
   refine ZE (isDay62 w day) ?_; simp (maxSteps := 1000000) [ty42, ty3, ty4, h1]
   refine ZE (isArea58 a) ?_; simp (maxSteps := 1000000) [ty42, ty3, ty4]
   refine ZE (hop) ?_; simp (maxSteps := 1000000) [ty69]
   refine hK _ ?_; clear hK K
   (repeat refine ZQ ?_); refine ZR fun K hK => ?_; simp (maxSteps := 1000000) [ty34]; refine hK _ ?_; clear hK K
   (repeat refine ZQ ?_); refine ZC (hc := by simp [hz]; rfl) (fun hd => ?_) (fun hd => ?_)
   ·clear hd
    (repeat refine ZQ ?_); refine ZR fun K hK => ?_; simp (maxSteps := 1000000) [ty34, ty23]; refine hK _ ?_; clear hK K
    (repeat refine ZQ ?_); refine awp_ret ?_; refine And.intro (Or.inr rfl) ?_
    simp [retC, resC, viewC, mapO, hz, ty23]
   ·simp [hz] at hd

set_option maxHeartbeats 8000000

-- Real

set_option maxHeartbeats 16000000
set_option maxRecDepth 20000

-- THE THEOREM OF THE BLAME


theorem fold_mn : ∀ (L : List Int) (a : Int), (L.foldl (fun m x => if x < m then x else m) a ≤ a) ∧ ∀ z ∈ L, L.foldl (fun m x => if x < m then x else m) a ≤ z
 | [], a => ⟨Int.le_refl _, by simp⟩
 | b :: L, a => by
  simp only [List.foldl_cons]
  have h := fold_mn L (if b < a then b else a)
  refine ⟨?_, fun z hz => ?_⟩
  ·have h1 := h.1; split at h1 <;> omega
  ·rcases List.mem_cons.1 hz with rfl | hz
   ·have h1 := h.1; split at h1 <;> omega
   ·exact h.2 z hz
theorem fold_mx : ∀ (L : List Int) (a : Int), (a ≤ L.foldl (fun m x => if m < x then x else m) a) ∧ ∀ z ∈ L, z ≤ L.foldl (fun m x => if m < x then x else m) a
 | [], a => ⟨Int.le_refl _, by simp⟩
 | b :: L, a => by
  simp only [List.foldl_cons]
  have h := fold_mx L (if a < b then b else a)
  refine ⟨?_, fun z hz => ?_⟩
  ·have h1 := h.1; split at h1 <;> omega
  ·rcases List.mem_cons.1 hz with rfl | hz
   ·have h1 := h.1; split at h1 <;> omega
   ·exact h.2 z hz
theorem mnx_bd {L : List Int} {z : Int} (h : z ∈ L) : mnI L ≤ z ∧ z ≤ mxI L := ⟨(fold_mn L _).2 z h, (fold_mx L _).2 z h⟩

set_option maxHeartbeats 8000000

-- the reference's search over all gains

set_option maxHeartbeats 8000000

-- all truths, as the reference has them

/-- Small enough for the reference. -/
structure SmallW (w : Ws) : Prop where
  gain : w.gain ≤ 3
  last : w.last ≤ 5
  vs : w.vs.length ≤ 3

set_option maxHeartbeats 8000000

-- Strange and Real

set_option maxHeartbeats 16000000
set_option maxRecDepth 20000

-- THE THEOREM OF EACH TRUTH


set_option maxHeartbeats 8000000

set_option maxHeartbeats 8000000

-- a copy of an instrument

set_option maxHeartbeats 8000000

theorem kindsL_lt (f : Tr → Int) (L : List Tr) : (kindsL f L).Pairwise (· < ·) := by
 have h1 := kindsL_sorted f L
 have h2 := kindsL_nodup f L
 refine (h1.and h2).imp ?_
 rintro a b ⟨h3, h4⟩
 have : a ≠ b := h4
 omega

theorem ends_mem {f : Tr → Int} {t : Ti} {is : Bool} (h : openT t is = 0) {k : Tr} (hk : k ∈ truthsS t (allS t)) : (endsT f t is).1 ≤ f k ∧ f k ≤ (endsT f t is).2 := by
 have h0 : 0 < (truthsS t (allS t)).length := List.length_pos_of_mem hk
 rw [ends_mnmx h h0]
 exact ⟨(mnT_spec f _ _).2.1 k hk, (mxT_spec f _ _).2.1 k hk⟩

theorem isTrB_mem {t : Ti} {k : Tr} (h : isTrB t k = true) : k ∈ truthsS t (allS t) := by
 have hk : k ∈ allT (gwT t) := by
  unfold isTrB at h
  simp only [Bool.and_eq_true] at h
  have h1 : -t.gain ≤ k.area ∧ k.area ≤ t.gain := by simpa [withinB] using h.1.1
  have h2 : -t.w.skew ≤ k.skew ∧ k.skew ≤ t.w.skew := by simpa [withinB] using h.1.2
  exact allT_mem.2 ⟨h1, h2⟩
 rw [← truths_filter]
 exact List.mem_filter.2 ⟨hk, h⟩

set_option maxHeartbeats 8000000

theorem sub_len {α : Type} : ∀ (A B : List α), A.Nodup → (∀ a ∈ A, a ∈ B) → A.length ≤ B.length
 | [], _, _, _ => Nat.zero_le _
 | a :: A, B, hn, hs => by
  have h1 := List.nodup_cons.1 hn
  obtain ⟨P, Q, rfl⟩ := List.append_of_mem (hs a (by simp))
  have ih := sub_len A (P ++ Q) h1.2 fun b hb => by
   have hne : b ≠ a := fun e => h1.1 (e ▸ hb)
   have := hs b (by simp [hb])
   simp [hne] at this
   simp [this]
  simp only [List.length_append, List.length_cons] at ih ⊢
  omega

/-- All truths of a trial. -/
abbrev trL (t : Ti) : List Tr := truthsS t (allS t)

theorem trL_mem {t : Ti} {k : Tr} : k ∈ trL t ↔ isTrB t k = true := by
 refine ⟨fun h => ?_, isTrB_mem⟩
 have h' : k ∈ (allT (gwT t)).filter (isTrB t) := by rw [truths_filter]; exact h
 exact (List.mem_filter.1 h').2
theorem openT_true {t : Ti} (h : checkT t = 0) : openT t true = if trL t = [] then 3 else 0 := by
 unfold openT
 rw [if_neg (by simpa using h), if_neg (by decide)]

theorem ends_some {f : Tr → Int} {t : Ti} {is : Bool} (h : openT t is = 0) : (∃ k ∈ trL t, f k = (endsT f t is).1) ∧ ∃ k ∈ trL t, f k = (endsT f t is).2 := by
 have hne := (numsT_ok (f := f) h).2.2
 unfold endsT
 cases hl : numsT f t is with
 | nil => exact absurd hl hne
 | cons a l =>
  have h1 : a ∈ numsT f t is := by rw [hl]; simp
  have h2 : (a :: l).getLastD 0 ∈ numsT f t is := by
   rw [hl, List.getLastD_eq_getLast?, List.getLast?_eq_some_getLast (by simp), Option.getD_some]
   exact List.getLast_mem _
  exact ⟨(numsT_mem h1).2, (numsT_mem h2).2⟩

set_option maxHeartbeats 16000000
set_option maxRecDepth 20000

-- THE THEOREM OF WHAT A VISIT TELLS


theorem nums_len {w : Ws} {v : Vs} (h : checkT (tiV w v) = 0) : (numsT Tr.area (tiV w v) true).length ≤ 101 := by
 have hok := checkT_ok.1 h
 have hs : (seqI (-50) 50).length = 101 := by decide
 rw [← hs]
 refine sub_len _ _ ?_ fun z hz => ?_
 ·unfold numsT
  split
  ·exact kindsL_nodup _ _
  ·exact List.nodup_nil
 ·obtain ⟨_, k, hk, rfl⟩ := numsT_mem hz
  exact mem_seqI.2 (every_k hok (List.mem_filter.1 hk).1).1

theorem openT_known {t : Ti} (h : checkT t = 0) : openT t true = 0 ∨ openT t true = 3 := by
 unfold openT
 rw [if_neg (by simpa using h), if_neg (by simp)]
 split
 ·exact .inr rfl
 ·exact .inl rfl

set_option maxHeartbeats 8000000

-- gains of a day in some truths, and their doubt, as the reference has them

set_option maxHeartbeats 8000000

set_option maxHeartbeats 8000000

-- Left, Doubt and Due of the reference

set_option maxHeartbeats 8000000
set_option maxRecDepth 20000

-- Due of the reference

set_option maxHeartbeats 8000000
set_option maxRecDepth 20000

-- Errs, Real and Blame of the reference

theorem mnI_sorted {V : List Int} (hs : V.Pairwise (· ≤ ·)) : mnI V = V.headD 0 := by
 cases V with
 | nil => rfl
 | cons a l =>
  have h : ∀ (l : List Int), (∀ x ∈ l, a ≤ x) → l.foldl (fun m x => if x < m then x else m) a = a := by
   intro l
   induction l with
   | nil => intro _; rfl
   | cons b l ih =>
    intro h
    have hb := h b (by simp)
    simp only [List.foldl_cons, if_neg (show ¬ b < a by omega)]
    exact ih fun x hx => h x (by simp [hx])
  exact h _ fun x hx => by
   rcases List.mem_cons.1 hx with rfl | hx
   ·exact Int.le_refl _
   ·exact List.rel_of_pairwise_cons hs hx

theorem mxI_sorted {V : List Int} (hs : V.Pairwise (· ≤ ·)) : mxI V = V.getLastD 0 := by
 have h : ∀ (l : List Int) (m : Int), (m :: l).Pairwise (· ≤ ·) → l.foldl (fun m x => if m < x then x else m) m = l.getLastD m := by
  intro l
  induction l with
  | nil => intro m _; rfl
  | cons b l ih =>
   intro m h
   have hb : m ≤ b := List.rel_of_pairwise_cons h (by simp)
   have e : (if m < b then b else m) = b := by split <;> omega
   rw [List.foldl_cons, e, ih b (List.pairwise_cons.1 h).2, List.getLastD_cons]
 cases V with
 | nil => rfl
 | cons a l =>
  unfold mxI
  rw [List.getLastD_cons]
  simp only [List.headD_cons, List.foldl_cons, Int.lt_irrefl, if_false]
  exact h l a hs

set_option maxHeartbeats 4000000

-- plain laws: an instrument that does not wear, with one visit

/-- The instrument of a trial, that does not wear, with one visit. -/
def wornW (t : Ti) (last visit : Int) : Ws := ⟨t.w, t.gain, last, 0, false, true, [⟨visit, t.nl, t.fu, t.ts⟩], 0⟩

theorem worn_check {t : Ti} {last visit : Int} (h : checkT t = 0) (hl : 1 ≤ last ∧ last ≤ 5) (hv : 0 ≤ visit ∧ visit ≤ last) : checkW (wornW t last visit) = 0 := by
 have ho := checkT_ok.1 h
 refine checkW_ok.2 ⟨by show 1 ≤ last ∧ last ≤ 30; omega, by show (0 : Int) ≤ 0 ∧ (0 : Int) ≤ 10; omega, by show (0 : Int) ≤ 0 ∧ (0 : Int) ≤ 6; omega, by simp [wornW], fun i hi => ?_, fun i hi => ?_, fun v hv' => ?_, ?_⟩
 ·simp only [wornW, List.length_cons, List.length_nil] at hi
  obtain rfl : i = 0 := by omega
  exact hv
 ·simp only [wornW, List.length_cons, List.length_nil] at hi
  omega
 ·simp only [wornW, List.mem_singleton] at hv'
  rw [hv']
  exact h
 ·exact checkT_ok.2 ⟨ho.gain, by simp, by simp, ho.wh, by simp⟩

theorem worn_gl (t : Ti) (last visit : Int) : gl (wornW t last visit) = [(visit, numsT Tr.area t true)] := rfl

theorem wrs_ge (G : List (Int × List Int)) (p : Nat → Int) : ∀ (d i : Nat), i ≤ d → wrG G (i : Int) (p i) ≤ wrs G p d
 | 0, i, h => by
  obtain rfl : i = 0 := by omega
  exact Int.le_refl _
 | d + 1, i, h => by
  have h1 := wrs_bd G p d
  have h2 := wrG_bd G ((d + 1 : Nat) : Int) (p (d + 1))
  simp only [wrs]
  by_cases e : i = d + 1
  ·subst e; omega
  ·have := wrs_ge G p d i (by omega); omega
theorem wrs_zero {G : List (Int × List Int)} {p : Nat → Int} : ∀ {d : Nat}, (∀ i : Nat, i ≤ d → wrG G (i : Int) (p i) = 0) → wrs G p d = 0
 | 0, h => h 0 (Nat.le_refl _)
 | d + 1, h => by
  simp only [wrs]
  rw [wrs_zero (d := d) fun i hi => h i (by omega), h (d + 1) (Nat.le_refl _)]; rfl

theorem wrG_one (v : Int) (N : List Int) (d g : Int) : wrG [(v, N)] d g = if v = d ∧ g ∉ N then 1 else 0 := by
 unfold wrG
 by_cases h : v = d
 ·rw [List.find?_cons_of_pos (by simpa using h)]
  simp only [h, true_and]
  by_cases hg : g ∈ N <;> simp [hg]
 ·rw [List.find?_cons_of_neg (by simpa using h), List.find?_nil, if_neg (fun e => h e.1)]

theorem nums_bd {t : Ti} {g : Int} (h : g ∈ numsT Tr.area t true) : -t.gain ≤ g ∧ g ≤ t.gain := by
 obtain ⟨_, k, hk, rfl⟩ := numsT_mem h
 have := trL_mem.1 hk
 simp only [isTrB, Bool.and_eq_true, withinB, decide_eq_true_eq] at this
 exact this.1.1

theorem worn_tru {t : Ti} {last visit : Int} (hl : 1 ≤ last ∧ last ≤ 5) (hv : 0 ≤ visit ∧ visit ≤ last) (p : Nat → Int) :
  Tru (co (wornW t last visit) (gl (wornW t last visit))) p ↔ (∀ i, i ≤ last.toNat → p i = p 0) ∧ p 0 ∈ numsT Tr.area t true := by
 rw [worn_gl]
 show (Good ⟨t.gain, last, 0, 0, [(visit, numsT Tr.area t true)]⟩ [] p last.toNat ∧ wrs [(visit, numsT Tr.area t true)] p last.toNat ≤ 0) ↔ _
 generalize hN : numsT Tr.area t true = N
 constructor
 ·rintro ⟨⟨_, h2⟩, h3⟩
  have hc : ∀ i, i ≤ last.toNat → p i = p 0 := fun i => by
   induction i with
   | zero => intro _; rfl
   | succ i ih =>
    intro hi
    have := h2 i (by omega)
    have := ih (by omega)
    simp only at *
    omega
  refine ⟨hc, ?_⟩
  have := wrs_ge [(visit, N)] p last.toNat visit.toNat (by omega)
  rw [wrG_one, hc _ (by omega : visit.toNat ≤ last.toNat)] at this
  refine Classical.byContradiction fun e => ?_
  rw [if_pos ⟨by omega, e⟩] at this
  omega
 ·rintro ⟨hc, hm⟩
  refine ⟨⟨fun i hi => ?_, fun i hi => ?_⟩, ?_⟩
  ·rw [hc i hi]
   have := nums_bd (t := t) (by rw [hN]; exact hm)
   simp only [alC, knB, List.find?_nil, Bool.and_true, Bool.and_eq_true, decide_eq_true_eq]
   exact this
  ·rw [hc i (by omega), hc (i + 1) (by omega)]
   simp
  ·rw [wrs_zero fun i hi => by rw [wrG_one, hc i hi, if_neg (fun e => e.2 hm)]]
   exact Int.le_refl _

theorem worn_can {t : Ti} {last visit : Int} (hl : 1 ≤ last ∧ last ≤ 5) (hv : 0 ≤ visit ∧ visit ≤ last) :
  canC (co (wornW t last visit) (gl (wornW t last visit))) [] = true ↔ numsT Tr.area t true ≠ [] := by
 rw [can_nil]
 constructor
 ·rintro ⟨p, hp⟩
  exact List.ne_nil_of_mem ((worn_tru hl hv p).1 hp).2
 ·intro h
  obtain ⟨g, hg⟩ := List.exists_mem_of_ne_nil _ h
  exact ⟨fun _ => g, (worn_tru hl hv _).2 ⟨fun _ _ => rfl, hg⟩⟩

theorem worn_open {t : Ti} {last visit : Int} (h : checkT t = 0) (hl : 1 ≤ last ∧ last ≤ 5) (hv : 0 ≤ visit ∧ visit ≤ last) : openW (wornW t last visit) true = openT t true := by
 have hck := worn_check h hl hv
 have hcan := worn_can (t := t) hl hv
 have ho := openT_true h
 by_cases hz : openT t true = 0
 ·rw [hz]
  exact openW_true' hck (hcan.2 (numsT_ok hz).2.2)
 ·have h3 : openT t true = 3 := by
   rw [ho] at hz ⊢
   split
   ·rfl
   ·rename_i e; rw [if_neg e] at hz; exact absurd rfl hz
  have hn : canC (co (wornW t last visit) (gl (wornW t last visit))) [] = false := by
   rw [Bool.eq_false_iff]
   exact fun e => hcan.1 e (numsT_zero hz)
  rw [h3]
  unfold openW
  rw [if_neg (by simpa using hck), if_neg (by simp), if_pos hn]

theorem asc_ext : ∀ {A B : List Int}, A.Pairwise (· < ·) → B.Pairwise (· < ·) → (∀ z, z ∈ A ↔ z ∈ B) → A = B
 | [], [], _, _, _ => rfl
 | [], b :: B, _, _, h => absurd ((h b).2 (by simp)) (by simp)
 | a :: A, [], _, _, h => absurd ((h a).1 (by simp)) (by simp)
 | a :: A, b :: B, h1, h2, h => by
  rw [List.pairwise_cons] at h1 h2
  have e : a = b := by
   have ha := (h a).1 (by simp)
   have hb := (h b).2 (by simp)
   rcases List.mem_cons.1 ha with e | e
   ·exact e
   ·rcases List.mem_cons.1 hb with e2 | e2
    ·exact e2.symm
    ·have := h2.1 a e; have := h1.1 b e2; omega
  subst e
  rw [asc_ext h1.2 h2.2 fun z => ?_]
  constructor
  ·intro hz
   rcases List.mem_cons.1 ((h z).1 (by simp [hz])) with e | e
   ·have := h1.1 z hz; omega
   ·exact e
  ·intro hz
   rcases List.mem_cons.1 ((h z).2 (by simp [hz])) with e | e
   ·have := h2.1 z hz; omega
   ·exact e

theorem nums_asc (t : Ti) : (numsT Tr.area t true).Pairwise (· < ·) := by
 unfold numsT
 split
 ·exact kindsL_lt _ _
 ·exact .nil

theorem worn_onC {t : Ti} {last visit : Int} (hl : 1 ≤ last ∧ last ≤ 5) (hv : 0 ≤ visit ∧ visit ≤ last) {d : Nat} (hd : (d : Int) ≤ last) :
  onC (co (wornW t last visit) (gl (wornW t last visit))) (d : Nat) [] = numsT Tr.area t true := by
 refine asc_ext (onC_sorted _ _ _) (nums_asc t) fun z => ?_
 rw [on_nil _ d (by show d ≤ last.toNat; omega)]
 constructor
 ·rintro ⟨p, hp, rfl⟩
  obtain ⟨h1, h2⟩ := (worn_tru hl hv p).1 hp
  rw [h1 d (by omega)]; exact h2
 ·exact fun hz => ⟨fun _ => z, (worn_tru hl hv _).2 ⟨fun _ _ => rfl, hz⟩, rfl⟩

theorem worn_day {t : Ti} {last visit : Int} {d : Nat} (hd : (d : Int) ≤ last) : dayB (wornW t last visit) d = true := by
 have h0 : (0 : Int) ≤ d := by omega
 have h1 : (d : Int) ≤ (wornW t last visit).last := hd
 simp only [dayB, withinB, decide_eq_true h0, decide_eq_true h1, Bool.and_self]

theorem worn_on {t : Ti} {last visit : Int} (h : checkT t = 0) (hl : 1 ≤ last ∧ last ≤ 5) (hv : 0 ≤ visit ∧ visit ≤ last) {d : Nat} (hd : (d : Int) ≤ last) : onW (wornW t last visit) d = numsT Tr.area t true := by
 unfold onW
 rw [worn_day hd, worn_open h hl hv, worn_onC hl hv hd]
 split
 ·rfl
 ·rename_i hz; rw [numsT_zero hz]

theorem mono_seen {a g h : Int} (ha : 0 ≤ a) (hg : g ≤ h) : seenA a g ≤ seenA a h := by
 unfold seenA
 have h1 : a * g ≤ a * h := Int.mul_le_mul_of_nonneg_left hg ha
 have h2 : a * g / 1000 ≤ a * h / 1000 := Int.ediv_le_ediv (by decide) h1
 omega

theorem worn_errs {t : Ti} {last visit : Int} (h : checkT t = 0) (hl : 1 ≤ last ∧ last ≤ 5) (hv : 0 ≤ visit ∧ visit ≤ last) {d : Nat} (hd : (d : Int) ≤ last) {a : Int} (ha : areaB a = true) (hz : openT t true = 0) :
  errW (wornW t last visit) d a = ((endsT (fun k => seenA a k.area) t true).1 - a, (endsT (fun k => seenA a k.area) t true).2 - a) := by
 have ha0 := (areaB_iff.1 ha).1
 have hV : errW (wornW t last visit) d a = (mnI ((numsT Tr.area t true).map fun g => seenA a g - a), mxI ((numsT Tr.area t true).map fun g => seenA a g - a)) := by
  unfold errW
  rw [worn_day hd, ha, Bool.and_true, worn_open h hl hv, if_pos hz]
  unfold errL
  rw [worn_onC hl hv hd]
 have hok := numsT_ok (f := Tr.area) hz
 have hmem : ∀ k ∈ truthsS t (allS t), k.area ∈ numsT Tr.area t true := fun k hk => by
  rw [hok.1, kindsL_mem]; exact ⟨k, hk, rfl⟩
 have hback : ∀ g ∈ numsT Tr.area t true, ∃ k ∈ truthsS t (allS t), k.area = g := fun g hg => (numsT_mem hg).2
 obtain ⟨⟨k1, m1, e1⟩, k2, m2, e2⟩ := ends_some (f := fun k => seenA a k.area) hz
 have hb := fun k hk => ends_mem (f := fun k => seenA a k.area) hz (k := k) hk
 have hasc := nums_asc t
 have hne := hok.2.2
 generalize endsT (fun k => seenA a k.area) t true = s at *
 generalize numsT Tr.area t true = L at *
 rw [hV]
 have hs : (L.map fun g => seenA a g - a).Pairwise (· ≤ ·) := by
  rw [List.pairwise_map]
  exact hasc.imp fun hg => by have := mono_seen ha0 (Int.le_of_lt hg); omega
 have hpos : 0 < (L.map fun g => seenA a g - a).length := by rw [List.length_map]; exact List.length_pos_iff.2 hne
 have hmn : mnI (L.map fun g => seenA a g - a) ∈ L.map fun g => seenA a g - a := by
  rw [mnI_sorted hs]
  generalize (L.map fun g => seenA a g - a) = V at *
  cases V with
  | nil => simp at hpos
  | cons x V => simp
 have hmx : mxI (L.map fun g => seenA a g - a) ∈ L.map fun g => seenA a g - a := by
  rw [mxI_sorted hs]
  generalize (L.map fun g => seenA a g - a) = V at *
  cases V with
  | nil => simp at hpos
  | cons x V =>
   rw [List.getLastD_eq_getLast?, List.getLast?_eq_some_getLast (by simp), Option.getD_some]
   exact List.getLast_mem _
 have b1 := mnx_bd (List.mem_map.2 ⟨k1.area, hmem k1 m1, rfl⟩ : seenA a k1.area - a ∈ L.map fun g => seenA a g - a)
 have b2 := mnx_bd (List.mem_map.2 ⟨k2.area, hmem k2 m2, rfl⟩ : seenA a k2.area - a ∈ L.map fun g => seenA a g - a)
 obtain ⟨g1, n1, f1⟩ := List.mem_map.1 hmn
 obtain ⟨g2, n2, f2⟩ := List.mem_map.1 hmx
 obtain ⟨q1, r1, rfl⟩ := hback g1 n1
 obtain ⟨q2, r2, rfl⟩ := hback g2 n2
 have c1 := hb q1 r1
 have c2 := hb q2 r2
 have e1 : seenA a k1.area = s.1 := e1
 have e2 : seenA a k2.area = s.2 := e2
 have c1 : s.1 ≤ seenA a q1.area ∧ seenA a q1.area ≤ s.2 := c1
 have c2 : s.1 ≤ seenA a q2.area ∧ seenA a q2.area ≤ s.2 := c2
 refine Prod.ext ?_ ?_
 ·show mnI _ = s.1 - a; omega
 ·show mxI _ = s.2 - a; omega

theorem worn_due {t : Ti} {last visit : Int} (h : checkT t = 0) (hl : 1 ≤ last ∧ last ≤ 5) (hv : 0 ≤ visit ∧ visit ≤ last) {k : Cl} (hk : classB k = true) :
  (openT t true ≠ 0 → dueE (wornW t last visit) k = openT t true) ∧ (openT t true = 0 → (dueE (wornW t last visit) k = 0 ∨ dueE (wornW t last visit) k = 3) ∧ dueV (wornW t last visit) k = 0) := by
 have ho := worn_open h hl hv
 constructor
 ·intro hz
  unfold dueE
  rw [hk, ho, if_neg hz]
 ·intro hz
  have hdu : dueO (co (wornW t last visit) (gl (wornW t last visit))) k = if (numsT Tr.area t true).any (byC k) then some 0 else none := by
   have hlen : ∀ d, d < ((wornW t last visit).last + 1).toNat → onC (co (wornW t last visit) (gl (wornW t last visit))) (d : Nat) [] = numsT Tr.area t true := fun d hd =>
    worn_onC hl hv (by have e : (wornW t last visit).last = last := rfl; rw [e] at hd; omega)
   split
   ·rename_i ha
    exact dueO_some (N := ((wornW t last visit).last + 1).toNat) rfl (by show 0 < (last + 1).toNat; omega) (fun d hd => absurd hd (by omega)) (by rw [hlen 0 (by show 0 < (last + 1).toNat; omega)]; exact ha)
   ·rename_i ha
    exact dueO_none (N := ((wornW t last visit).last + 1).toNat) rfl fun d hd => by rw [hlen d hd]; simpa using ha
  unfold dueE dueV
  rw [hk, ho, if_pos hz, if_pos hz, hdu]
  by_cases ha : (numsT Tr.area t true).any (byC k) = true
  ·rw [if_pos ha]; exact ⟨.inl rfl, rfl⟩
  ·rw [if_neg ha]; exact ⟨.inr rfl, rfl⟩

set_option maxHeartbeats 16000000
set_option maxRecDepth 20000

-- THE THEOREM OF WHAT DOES NOT WEAR

theorem awp_midT {P : Program} {x : Ctx} {a b : Code} {s : AS} {Q : Exit → AS → Prop} (m : AS) (h1 : AWP P x a s (nextQ (fun s' => Wk x s' m) Q)) (h2 : AWP P x b m Q) : AWP P x (.seq a b) s Q := by
 refine awp_seq (AWP.mono h1 ?_)
 intro e s' h
 cases e with
 | normal => exact AWP.weak h2 h
 | _ => exact h

@[simp] abbrev cDy (last visit day area : Int) (k : Cl) : List C := [encI last, encI visit, encI day, encI area, encI k.size, encI k.most]



theorem law3 (t : Ti) (last visit day area : Int) (k : Cl) : Pure Tryz.prog 3 [encTi t, .agg (cDy last visit day area k)] (.bool true) := by
 obtain ⟨f, hF, hf⟩ := far8 t
 cases f
 ·have hnear := hf rfl
  have hlen := hnear.len
  have hck := q_check30 t hlen
  by_cases h0 : checkT t = 0
  ·rw [h0] at hck
   have hcl := q_isClass20 k
   by_cases g1 : 3 < t.gain
   ·refine ZF (fn := Tryz.f3) [.tmp 4] ⟨Tryz.func3, rfl, by kernel_rfl⟩ fun x hx hσ => ?_
    (repeat refine ZQ ?_); refine ZR fun K hK => ?_; simp (maxSteps := 1000000) [ty28, ty32, ty4]; refine hK _ ?_; clear hK K
    (repeat refine ZQ ?_); refine ZR fun K hK => ?_; simp (maxSteps := 1000000) [ty28, ty32, ty3, ty4, ty34, ty30]
    refine ZP (hF) ?_; simp (maxSteps := 1000000) [ty4, ty28, ty34, ty32, ty3]
    refine ZP (hck) ?_; simp (maxSteps := 1000000) [ty4, ty28, ty34, ty32, ty3, g1]
    refine hK _ ?_; clear hK K
    (repeat refine ZQ ?_); refine ZC (hc := by simp [g1]; rfl) (fun hd => ?_) (fun hd => ?_)
    ·clear hd
     (repeat refine ZQ ?_); refine ZR fun K hK => ?_; simp (maxSteps := 1000000)
     refine ZP (k_worn7) ?_; simp (maxSteps := 1000000)
     refine hK _ ?_; clear hK K
     (repeat refine ZQ ?_); refine awp_ret ?_; refine And.intro (Or.inr rfl) ?_
     simp [retC, resC, viewC, mapO]
    ·simp [g1] at hd
   by_cases g2 : last < 1
   ·refine ZF (fn := Tryz.f3) [.tmp 4] ⟨Tryz.func3, rfl, by kernel_rfl⟩ fun x hx hσ => ?_
    (repeat refine ZQ ?_); refine ZR fun K hK => ?_; simp (maxSteps := 1000000) [ty28, ty32, ty4]; refine hK _ ?_; clear hK K
    (repeat refine ZQ ?_); refine ZR fun K hK => ?_; simp (maxSteps := 1000000) [ty28, ty32, ty3, ty4, ty34, ty30]
    refine ZP (hF) ?_; simp (maxSteps := 1000000) [ty4, ty28, ty34, ty32, ty3]
    refine ZP (hck) ?_; simp (maxSteps := 1000000) [ty4, ty28, ty34, ty32, ty3, g1, g2]
    refine hK _ ?_; clear hK K
    (repeat refine ZQ ?_); refine ZC (hc := by simp [g2]; rfl) (fun hd => ?_) (fun hd => ?_)
    ·clear hd
     (repeat refine ZQ ?_); refine ZR fun K hK => ?_; simp (maxSteps := 1000000)
     refine ZP (k_worn7) ?_; simp (maxSteps := 1000000)
     refine hK _ ?_; clear hK K
     (repeat refine ZQ ?_); refine awp_ret ?_; refine And.intro (Or.inr rfl) ?_
     simp [retC, resC, viewC, mapO]
    ·simp [g2] at hd
   by_cases g3 : 5 < last
   ·refine ZF (fn := Tryz.f3) [.tmp 4] ⟨Tryz.func3, rfl, by kernel_rfl⟩ fun x hx hσ => ?_
    (repeat refine ZQ ?_); refine ZR fun K hK => ?_; simp (maxSteps := 1000000) [ty28, ty32, ty4]; refine hK _ ?_; clear hK K
    (repeat refine ZQ ?_); refine ZR fun K hK => ?_; simp (maxSteps := 1000000) [ty28, ty32, ty3, ty4, ty34, ty30]
    refine ZP (hF) ?_; simp (maxSteps := 1000000) [ty4, ty28, ty34, ty32, ty3]
    refine ZP (hck) ?_; simp (maxSteps := 1000000) [ty4, ty28, ty34, ty32, ty3, g1, g2, g3]
    refine hK _ ?_; clear hK K
    (repeat refine ZQ ?_); refine ZC (hc := by simp [g3]; rfl) (fun hd => ?_) (fun hd => ?_)
    ·clear hd
     (repeat refine ZQ ?_); refine ZR fun K hK => ?_; simp (maxSteps := 1000000)
     refine ZP (k_worn7) ?_; simp (maxSteps := 1000000)
     refine hK _ ?_; clear hK K
     (repeat refine ZQ ?_); refine awp_ret ?_; refine And.intro (Or.inr rfl) ?_
     simp [retC, resC, viewC, mapO]
    ·simp [g3] at hd
   by_cases g4 : visit < 0
   ·refine ZF (fn := Tryz.f3) [.tmp 4] ⟨Tryz.func3, rfl, by kernel_rfl⟩ fun x hx hσ => ?_
    (repeat refine ZQ ?_); refine ZR fun K hK => ?_; simp (maxSteps := 1000000) [ty28, ty32, ty4]; refine hK _ ?_; clear hK K
    (repeat refine ZQ ?_); refine ZR fun K hK => ?_; simp (maxSteps := 1000000) [ty28, ty32, ty3, ty4, ty34, ty30]
    refine ZP (hF) ?_; simp (maxSteps := 1000000) [ty4, ty28, ty34, ty32, ty3]
    refine ZP (hck) ?_; simp (maxSteps := 1000000) [ty4, ty28, ty34, ty32, ty3, g1, g2, g3, g4]
    refine hK _ ?_; clear hK K
    (repeat refine ZQ ?_); refine ZC (hc := by simp [g4]; rfl) (fun hd => ?_) (fun hd => ?_)
    ·clear hd
     (repeat refine ZQ ?_); refine ZR fun K hK => ?_; simp (maxSteps := 1000000)
     refine ZP (k_worn7) ?_; simp (maxSteps := 1000000)
     refine hK _ ?_; clear hK K
     (repeat refine ZQ ?_); refine awp_ret ?_; refine And.intro (Or.inr rfl) ?_
     simp [retC, resC, viewC, mapO]
    ·simp [g4] at hd
   by_cases g5 : last < visit
   ·refine ZF (fn := Tryz.f3) [.tmp 4] ⟨Tryz.func3, rfl, by kernel_rfl⟩ fun x hx hσ => ?_
    (repeat refine ZQ ?_); refine ZR fun K hK => ?_; simp (maxSteps := 1000000) [ty28, ty32, ty4]; refine hK _ ?_; clear hK K
    (repeat refine ZQ ?_); refine ZR fun K hK => ?_; simp (maxSteps := 1000000) [ty28, ty32, ty3, ty4, ty34, ty30]
    refine ZP (hF) ?_; simp (maxSteps := 1000000) [ty4, ty28, ty34, ty32, ty3]
    refine ZP (hck) ?_; simp (maxSteps := 1000000) [ty4, ty28, ty34, ty32, ty3, g1, g2, g3, g4, g5]
    refine hK _ ?_; clear hK K
    (repeat refine ZQ ?_); refine ZC (hc := by simp [g5]; rfl) (fun hd => ?_) (fun hd => ?_)
    ·clear hd
     (repeat refine ZQ ?_); refine ZR fun K hK => ?_; simp (maxSteps := 1000000)
     refine ZP (k_worn7) ?_; simp (maxSteps := 1000000)
     refine hK _ ?_; clear hK K
     (repeat refine ZQ ?_); refine awp_ret ?_; refine And.intro (Or.inr rfl) ?_
     simp [retC, resC, viewC, mapO]
    ·simp [g5] at hd
   by_cases g6 : day < 0
   ·refine ZF (fn := Tryz.f3) [.tmp 4] ⟨Tryz.func3, rfl, by kernel_rfl⟩ fun x hx hσ => ?_
    (repeat refine ZQ ?_); refine ZR fun K hK => ?_; simp (maxSteps := 1000000) [ty28, ty32, ty4]; refine hK _ ?_; clear hK K
    (repeat refine ZQ ?_); refine ZR fun K hK => ?_; simp (maxSteps := 1000000) [ty28, ty32, ty3, ty4, ty34, ty30]
    refine ZP (hF) ?_; simp (maxSteps := 1000000) [ty4, ty28, ty34, ty32, ty3]
    refine ZP (hck) ?_; simp (maxSteps := 1000000) [ty4, ty28, ty34, ty32, ty3, g1, g2, g3, g4, g5, g6]
    refine hK _ ?_; clear hK K
    (repeat refine ZQ ?_); refine ZC (hc := by simp [g6]; rfl) (fun hd => ?_) (fun hd => ?_)
    ·clear hd
     (repeat refine ZQ ?_); refine ZR fun K hK => ?_; simp (maxSteps := 1000000)
     refine ZP (k_worn7) ?_; simp (maxSteps := 1000000)
     refine hK _ ?_; clear hK K
     (repeat refine ZQ ?_); refine awp_ret ?_; refine And.intro (Or.inr rfl) ?_
     simp [retC, resC, viewC, mapO]
    ·simp [g6] at hd
   by_cases g7 : last < day
   ·refine ZF (fn := Tryz.f3) [.tmp 4] ⟨Tryz.func3, rfl, by kernel_rfl⟩ fun x hx hσ => ?_
    (repeat refine ZQ ?_); refine ZR fun K hK => ?_; simp (maxSteps := 1000000) [ty28, ty32, ty4]; refine hK _ ?_; clear hK K
    (repeat refine ZQ ?_); refine ZR fun K hK => ?_; simp (maxSteps := 1000000) [ty28, ty32, ty3, ty4, ty34, ty30]
    refine ZP (hF) ?_; simp (maxSteps := 1000000) [ty4, ty28, ty34, ty32, ty3]
    refine ZP (hck) ?_; simp (maxSteps := 1000000) [ty4, ty28, ty34, ty32, ty3, g1, g2, g3, g4, g5, g6, g7]
    refine hK _ ?_; clear hK K
    (repeat refine ZQ ?_); refine ZC (hc := by simp [g7]; rfl) (fun hd => ?_) (fun hd => ?_)
    ·clear hd
     (repeat refine ZQ ?_); refine ZR fun K hK => ?_; simp (maxSteps := 1000000)
     refine ZP (k_worn7) ?_; simp (maxSteps := 1000000)
     refine hK _ ?_; clear hK K
     (repeat refine ZQ ?_); refine awp_ret ?_; refine And.intro (Or.inr rfl) ?_
     simp [retC, resC, viewC, mapO]
    ·simp [g7] at hd
   by_cases g8 : area < 0
   ·refine ZF (fn := Tryz.f3) [.tmp 4] ⟨Tryz.func3, rfl, by kernel_rfl⟩ fun x hx hσ => ?_
    (repeat refine ZQ ?_); refine ZR fun K hK => ?_; simp (maxSteps := 1000000) [ty28, ty32, ty4]; refine hK _ ?_; clear hK K
    (repeat refine ZQ ?_); refine ZR fun K hK => ?_; simp (maxSteps := 1000000) [ty28, ty32, ty3, ty4, ty34, ty30]
    refine ZP (hF) ?_; simp (maxSteps := 1000000) [ty4, ty28, ty34, ty32, ty3]
    refine ZP (hck) ?_; simp (maxSteps := 1000000) [ty4, ty28, ty34, ty32, ty3, g1, g2, g3, g4, g5, g6, g7, g8]
    refine hK _ ?_; clear hK K
    (repeat refine ZQ ?_); refine ZC (hc := by simp [g8]; rfl) (fun hd => ?_) (fun hd => ?_)
    ·clear hd
     (repeat refine ZQ ?_); refine ZR fun K hK => ?_; simp (maxSteps := 1000000)
     refine ZP (k_worn7) ?_; simp (maxSteps := 1000000)
     refine hK _ ?_; clear hK K
     (repeat refine ZQ ?_); refine awp_ret ?_; refine And.intro (Or.inr rfl) ?_
     simp [retC, resC, viewC, mapO]
    ·simp [g8] at hd
   by_cases g9 : 9000 < area
   ·refine ZF (fn := Tryz.f3) [.tmp 4] ⟨Tryz.func3, rfl, by kernel_rfl⟩ fun x hx hσ => ?_
    (repeat refine ZQ ?_); refine ZR fun K hK => ?_; simp (maxSteps := 1000000) [ty28, ty32, ty4]; refine hK _ ?_; clear hK K
    (repeat refine ZQ ?_); refine ZR fun K hK => ?_; simp (maxSteps := 1000000) [ty28, ty32, ty3, ty4, ty34, ty30]
    refine ZP (hF) ?_; simp (maxSteps := 1000000) [ty4, ty28, ty34, ty32, ty3]
    refine ZP (hck) ?_; simp (maxSteps := 1000000) [ty4, ty28, ty34, ty32, ty3, g1, g2, g3, g4, g5, g6, g7, g8, g9]
    refine hK _ ?_; clear hK K
    (repeat refine ZQ ?_); refine ZC (hc := by simp [g9]; rfl) (fun hd => ?_) (fun hd => ?_)
    ·clear hd
     (repeat refine ZQ ?_); refine ZR fun K hK => ?_; simp (maxSteps := 1000000)
     refine ZP (k_worn7) ?_; simp (maxSteps := 1000000)
     refine hK _ ?_; clear hK K
     (repeat refine ZQ ?_); refine awp_ret ?_; refine And.intro (Or.inr rfl) ?_
     simp [retC, resC, viewC, mapO]
    ·simp [g9] at hd
   cases hk : classB k
   ·rw [hk] at hcl
    refine ZF (fn := Tryz.f3) [.tmp 4] ⟨Tryz.func3, rfl, by kernel_rfl⟩ fun x hx hσ => ?_
    (repeat refine ZQ ?_); refine ZR fun K hK => ?_; simp (maxSteps := 1000000) [ty28, ty32, ty4]; refine hK _ ?_; clear hK K
    (repeat refine ZQ ?_); refine ZR fun K hK => ?_; simp (maxSteps := 1000000) [ty28, ty32, ty3, ty4, ty34, ty30]
    refine ZP (hF) ?_; simp (maxSteps := 1000000) [ty4, ty28, ty34, ty32, ty3]
    refine ZP (hck) ?_; simp (maxSteps := 1000000) [ty4, ty28, ty34, ty32, ty3, ty30, g1, g2, g3, g4, g5, g6, g7, g8, g9]
    refine ZP (hcl) ?_; simp (maxSteps := 1000000) [ty4]
    refine hK _ ?_; clear hK K
    (repeat refine ZQ ?_); refine ZC (hc := by simp [hk]; rfl) (fun hd => ?_) (fun hd => ?_)
    ·clear hd
     (repeat refine ZQ ?_); refine ZR fun K hK => ?_; simp (maxSteps := 1000000)
     refine ZP (k_worn7) ?_; simp (maxSteps := 1000000)
     refine hK _ ?_; clear hK K
     (repeat refine ZQ ?_); refine awp_ret ?_; refine And.intro (Or.inr rfl) ?_
     simp [retC, resC, viewC, mapO]
    ·simp [hk] at hd
   ·rw [hk] at hcl
    have hl : 1 ≤ last ∧ last ≤ 5 := by omega
    have hv : 0 ≤ visit ∧ visit ≤ last := by omega
    obtain ⟨d, rfl⟩ : ∃ d : Nat, day = d := ⟨day.toNat, by omega⟩
    have hd : (d : Int) ≤ last := by omega
    have har : areaB area = true := by simp [areaB]; omega
    have hW := worn_check h0 hl hv
    have hnl : (numsT Tr.area t true).length ≤ 101 := nums_len (w := wornW t last visit) (v := ⟨visit, t.nl, t.fu, t.ts⟩) h0
    have hlenW : WsLen (wornW t last visit) := ⟨by simp [wornW], fun v hv => by
     simp only [wornW, List.mem_singleton] at hv
     rw [hv]
     exact hlen⟩
    have e1 := gains22 t hlen
    have e2 := w_on18 (wornW t last visit) d hlenW
    have e3 := seen13 t area hlen
    have e4 := w_errs46 (wornW t last visit) d area hlenW
    have e5 := w_due16 (wornW t last visit) k hlenW
    have hdd := worn_day (t := t) (visit := visit) hd
    have hop := worn_open h0 hl hv
    rw [worn_on h0 hl hv hd, hdd, hop] at e2
    rw [har] at e3
    rw [hdd, har, Bool.and_true, hop] at e4
    have hdue := worn_due h0 hl hv hk
    have herr := fun hz => worn_errs h0 hl hv hd har hz
    have hkn := openT_known h0
    have hsb : openT t true = 0 → (-1000000 ≤ (endsT (fun k => seenA area k.area) t true).1 ∧ (endsT (fun k => seenA area k.area) t true).1 ≤ 1000000) ∧ -1000000 ≤ (endsT (fun k => seenA area k.area) t true).2 ∧ (endsT (fun k => seenA area k.area) t true).2 ≤ 1000000 := fun hz => by
     obtain ⟨⟨k1, m1, f1⟩, k2, m2, f2⟩ := ends_some (f := fun k => seenA area k.area) hz
     have hT := checkT_ok.1 h0
     have b1 := nums_bd (t := t) (g := k1.area) (by rw [(numsT_ok (f := Tr.area) hz).1, kindsL_mem]; exact ⟨k1, m1, rfl⟩)
     have b2 := nums_bd (t := t) (g := k2.area) (by rw [(numsT_ok (f := Tr.area) hz).1, kindsL_mem]; exact ⟨k2, m2, rfl⟩)
     have s1 := seenA_bd (a := area) (g := k1.area) (by omega) (by omega)
     have s2 := seenA_bd (a := area) (g := k2.area) (by omega) (by omega)
     have f1 : seenA area k1.area = (endsT (fun k => seenA area k.area) t true).1 := f1
     have f2 : seenA area k2.area = (endsT (fun k => seenA area k.area) t true).2 := f2
     omega
    obtain ⟨W, hWe⟩ : ∃ W, W = wornW t last visit := ⟨_, rfl⟩
    have hrow : cWs W = [encI t.w.full, encI t.w.read, encI t.w.slip, encI t.w.skew, encI t.w.circle, encI t.w.glow, encI t.w.ghigh, encI t.w.wrong, encI t.gain, encI last, encI 0, .sl false true [[encI visit, sTs t.nl t.fu t.ts]], encI 0] := by rw [hWe]; rfl
    rw [← hWe] at e2 e4 e5 hdue herr
    simp only [encWs, hrow] at e2 e4 e5
    clear hrow hWe hW hlenW hdd hop
    generalize numsT Tr.area t true = N at *
    generalize endsT (fun k => seenA area k.area) t true = s at *
    generalize errW W d area = u at *
    generalize dueE W k = de at *
    generalize dueV W k = dv at *
    generalize openT t true = e at *
    refine ZF (fn := Tryz.f3) [.tmp 4] ⟨Tryz.func3, rfl, by kernel_rfl⟩ fun x hx hσ => ?_
    (repeat refine ZQ ?_); refine ZR fun K hK => ?_; simp (maxSteps := 1000000) [ty28, ty32, ty4]; refine hK _ ?_; clear hK K
    (repeat refine ZQ ?_); refine ZR fun K hK => ?_; simp (maxSteps := 1000000) [ty28, ty32, ty3, ty4, ty34, ty30]
    refine ZP (hF) ?_; simp (maxSteps := 1000000) [ty4, ty28, ty34, ty32, ty3]
    refine ZP (hck) ?_; simp (maxSteps := 1000000) [ty4, ty28, ty34, ty32, ty3, ty30, g1, g2, g3, g4, g5, g6, g7, g8, g9]
    refine ZP (hcl) ?_; simp (maxSteps := 1000000) [ty4]
    refine hK _ ?_; clear hK K
    (repeat refine ZQ ?_); refine ZC (fun hd => ?_) (fun hd => ?_)
    ·simp at hd
    ·clear hd
     refine awp_skip ?_
     (repeat refine ZQ ?_); refine ZR fun K hK => ?_; simp (maxSteps := 1000000) [ty28, ty32, ty25, ty3, ty26, ty39, ty40, ty42]; refine hK _ ?_; clear hK K
     (repeat refine ZQ ?_); refine ZR fun K hK => ?_; simp (maxSteps := 1000000) [ty28]
     refine ZP (e1) ?_; simp (maxSteps := 1000000) [ty43, ty34]
     refine hK _ ?_; clear hK K
     (repeat refine ZQ ?_); refine ZR fun K hK => ?_; simp (maxSteps := 1000000) [ty42, ty32, ty3]
     refine ZP (e2) ?_; simp (maxSteps := 1000000) [ty43, ty34]
     refine hK _ ?_; clear hK K
     (repeat refine ZQ ?_); refine ZR fun K hK => ?_; simp (maxSteps := 1000000) [ty28, ty32, ty3, ty23]
     refine ZP (e3) ?_; simp (maxSteps := 1000000) [ty23, ty34]
     refine hK _ ?_; clear hK K
     (repeat refine ZQ ?_); refine ZR fun K hK => ?_; simp (maxSteps := 1000000) [ty42, ty32, ty3, ty23]
     refine ZP (e4) ?_; simp (maxSteps := 1000000) [ty23, ty34]
     refine hK _ ?_; clear hK K
     (repeat refine ZQ ?_); refine ZR fun K hK => ?_; simp (maxSteps := 1000000) [ty42, ty32, ty30, ty3]
     refine ZP (e5) ?_; simp (maxSteps := 1000000) [ty3, ty34]
     refine hK _ ?_; clear hK K; (first | show AWP _ _ _ _ _ | show ∃ _, _ | skip)
     rcases hkn with rfl | rfl
     ·obtain ⟨hde, rfl⟩ := hdue.2 rfl
      have hu := herr rfl
      obtain ⟨⟨b1, b2⟩, b3, b4⟩ := hsb rfl
      have w1 : IntKind.i64.wrap (s.1 - area) = s.1 - area := wrap_id (by omega) (by omega)
      have w2 : IntKind.i64.wrap (s.2 - area) = s.2 - area := wrap_id (by omega) (by omega)
      have u1 : u.1 = s.1 - area := by rw [hu]
      have u2 : u.2 = s.2 - area := by rw [hu]
      (repeat refine ZQ ?_); refine ZR fun K hK => ?_; simp (maxSteps := 1000000) [ty34, ty4, ty43, ty3]; refine hK _ ?_; clear hK K
      (repeat refine ZQ ?_); refine ZC (fun hd => ?_) (fun hd => ?_)
      ·simp at hd
      ·clear hd
       refine awp_skip ?_
       refine awp_midT ⟨ofL [(3, .ptr 3 6 0 0), (7, encI 0), (10, .ptr 10 2 0 0), (12, .ptr 12 2 0 0), (14, encI 0), (15, encI de)], stoT [(3, 3, .live ⟨false, false, 6, [cDy last visit d area k]⟩), (10, 10, .live ⟨false, false, 2, [[encI s.1, encI s.2]]⟩), (12, 12, .live ⟨false, false, 2, [[encI u.1, encI u.2]]⟩)]⟩ ?_ ?_
       ·(repeat refine ZQ ?_); refine ZR fun K hK => ?_; simp (maxSteps := 1000000) [ty3]; refine hK _ ?_; clear hK K
        (repeat refine ZQ ?_); refine awp_block ?_
        refine awp_loop (fun i : Nat => ⟨ofL [(3, .ptr 3 6 0 0), (6, slI N), (7, encI 0), (8, slI N), (10, .ptr 10 2 0 0), (12, .ptr 12 2 0 0), (14, encI 0), (15, encI de), (16, encI i)], stoT [(3, 3, .live ⟨false, false, 6, [cDy last visit d area k]⟩), (10, 10, .live ⟨false, false, 2, [[encI s.1, encI s.2]]⟩), (12, 12, .live ⟨false, false, 2, [[encI u.1, encI u.2]]⟩)]⟩)
         (fun i => i ≤ N.length) (fun i => N.length - i) 0 (Nat.zero_le _) ?_ ?_
        ·exact ZW
        ·intro i hi
         (repeat refine ZQ ?_); refine ZR fun K hK => ?_; simp (maxSteps := 1000000) [ty43, ty3]; refine hK _ ?_; clear hK K
         (repeat refine ZQ ?_); refine ZC (fun hc => ?_) (fun hc => ?_)
         ·simp at hc
          have hwi : IntKind.i64.wrap ((i : Int) + 1) = ((i + 1 : Nat) : Int) := by rw [wrap_id (by omega) (by omega)]; rfl
          refine awp_skip ?_
          (repeat refine ZQ ?_); refine awp_block ?_
          (repeat refine ZQ ?_); refine ZD [] [0, 1, 2, 3, 4, 5, 6, 7, 8] fun K hK => ?_; simp (maxSteps := 1000000) [ty43, ty3, hc]; refine hK _ ?_; clear hK K
          (repeat refine ZQ ?_); refine ZC (fun hd => ?_) (fun hd => ?_)
          ·simp at hd
          ·clear hd
           refine awp_skip ?_
           (repeat refine ZQ ?_); refine ZR fun K hK => ?_; simp (maxSteps := 1000000) [ty3]; refine hK _ ?_; clear hK K; (first | show AWP _ _ _ _ _ | show ∃ _, _ | skip)
           refine ⟨i + 1, by omega, by omega, ?_⟩
           rw [hwi]
           exact ZW
         ·simp at hc
          (repeat refine ZQ ?_); refine awp_exit ?_; (first | show AWP _ _ _ _ _ | show ∃ _, _ | skip)
          exact ZW
       have hee : eqInts [.i64, .i64] [.int .i64 (s.1 - area), .int .i64 (s.2 - area)] [.int .i64 (s.1 - area), .int .i64 (s.2 - area)] = some true := by simp [eqInts]
       (repeat refine ZQ ?_); refine ZR fun K hK => ?_; simp (maxSteps := 1000000) [ty34]; refine hK _ ?_; clear hK K
       (repeat refine ZQ ?_); refine ZC (fun hd => ?_) (fun hd => ?_)
       ·simp at hd
       ·clear hd
        refine awp_skip ?_; (first | show AWP _ _ _ _ _ | show ∃ _, _ | skip)
        rcases hde with rfl | rfl
        ·(repeat refine ZQ ?_); refine ZR fun K hK => ?_; simp (maxSteps := 1000000) [ty34, ty4, ty3]; refine hK _ ?_; clear hK K
         (repeat refine ZQ ?_); refine ZC (fun hd => ?_) (fun hd => ?_)
         ·simp at hd
         ·clear hd
          refine awp_skip ?_
          (repeat refine ZQ ?_); refine ZR fun K hK => ?_; simp (maxSteps := 1000000) [ty23, ty32, ty3, ty4, w1, w2, u1, u2, fe23, hee]
          refine ZP (k_worn7) ?_; simp (maxSteps := 1000000) [ty4]
          refine hK _ ?_; clear hK K
          (repeat refine ZQ ?_); refine awp_ret ?_; refine And.intro (Or.inr rfl) ?_
          simp [retC, resC, viewC, mapO]
        ·(repeat refine ZQ ?_); refine ZR fun K hK => ?_; simp (maxSteps := 1000000) [ty34, ty4, ty3]; refine hK _ ?_; clear hK K
         (repeat refine ZQ ?_); refine ZC (fun hd => ?_) (fun hd => ?_)
         ·simp at hd
         ·clear hd
          refine awp_skip ?_
          (repeat refine ZQ ?_); refine ZR fun K hK => ?_; simp (maxSteps := 1000000) [ty23, ty32, ty3, ty4, w1, w2, u1, u2, fe23, hee]
          refine ZP (k_worn7) ?_; simp (maxSteps := 1000000) [ty4]
          refine hK _ ?_; clear hK K
          (repeat refine ZQ ?_); refine awp_ret ?_; refine And.intro (Or.inr rfl) ?_
          simp [retC, resC, viewC, mapO]
     ·have hde := hdue.1 (by decide)
      subst hde
      (repeat refine ZQ ?_); refine ZR fun K hK => ?_; simp (maxSteps := 1000000) [ty34, ty4, ty43, ty3]; refine hK _ ?_; clear hK K
      (repeat refine ZQ ?_); refine ZC (fun hd => ?_) (fun hd => ?_)
      ·simp at hd
      ·clear hd
       refine awp_skip ?_
       refine awp_midT ⟨ofL [(3, .ptr 3 6 0 0), (7, encI 3), (10, .ptr 10 2 0 0), (12, .ptr 12 2 0 0), (14, encI dv), (15, encI 3)], stoT [(3, 3, .live ⟨false, false, 6, [cDy last visit d area k]⟩), (10, 10, .live ⟨false, false, 2, [[encI s.1, encI s.2]]⟩), (12, 12, .live ⟨false, false, 2, [[encI u.1, encI u.2]]⟩)]⟩ ?_ ?_
       ·(repeat refine ZQ ?_); refine ZR fun K hK => ?_; simp (maxSteps := 1000000) [ty3]; refine hK _ ?_; clear hK K
        (repeat refine ZQ ?_); refine awp_block ?_
        refine awp_loop (fun i : Nat => ⟨ofL [(3, .ptr 3 6 0 0), (6, slI N), (7, encI 3), (8, slI N), (10, .ptr 10 2 0 0), (12, .ptr 12 2 0 0), (14, encI dv), (15, encI 3), (16, encI i)], stoT [(3, 3, .live ⟨false, false, 6, [cDy last visit d area k]⟩), (10, 10, .live ⟨false, false, 2, [[encI s.1, encI s.2]]⟩), (12, 12, .live ⟨false, false, 2, [[encI u.1, encI u.2]]⟩)]⟩)
         (fun i => i ≤ N.length) (fun i => N.length - i) 0 (Nat.zero_le _) ?_ ?_
        ·exact ZW
        ·intro i hi
         (repeat refine ZQ ?_); refine ZR fun K hK => ?_; simp (maxSteps := 1000000) [ty43, ty3]; refine hK _ ?_; clear hK K
         (repeat refine ZQ ?_); refine ZC (fun hc => ?_) (fun hc => ?_)
         ·simp at hc
          have hwi : IntKind.i64.wrap ((i : Int) + 1) = ((i + 1 : Nat) : Int) := by rw [wrap_id (by omega) (by omega)]; rfl
          refine awp_skip ?_
          (repeat refine ZQ ?_); refine awp_block ?_
          (repeat refine ZQ ?_); refine ZD [] [0, 1, 2, 3, 4, 5, 6, 7, 8] fun K hK => ?_; simp (maxSteps := 1000000) [ty43, ty3, hc]; refine hK _ ?_; clear hK K
          (repeat refine ZQ ?_); refine ZC (fun hd => ?_) (fun hd => ?_)
          ·simp at hd
          ·clear hd
           refine awp_skip ?_
           (repeat refine ZQ ?_); refine ZR fun K hK => ?_; simp (maxSteps := 1000000) [ty3]; refine hK _ ?_; clear hK K; (first | show AWP _ _ _ _ _ | show ∃ _, _ | skip)
           refine ⟨i + 1, by omega, by omega, ?_⟩
           rw [hwi]
           exact ZW
         ·simp at hc
          (repeat refine ZQ ?_); refine awp_exit ?_; (first | show AWP _ _ _ _ _ | show ∃ _, _ | skip)
          exact ZW
       (repeat refine ZQ ?_); refine ZR fun K hK => ?_; simp (maxSteps := 1000000) [ty34]; refine hK _ ?_; clear hK K
       (repeat refine ZQ ?_); refine ZC (fun hd => ?_) (fun hd => ?_)
       ·clear hd
        (repeat refine ZQ ?_); refine ZR fun K hK => ?_; simp (maxSteps := 1000000) [ty34, ty4]
        refine ZP (k_worn7) ?_; simp (maxSteps := 1000000) [ty4]
        refine hK _ ?_; clear hK K
        (repeat refine ZQ ?_); refine awp_ret ?_; refine And.intro (Or.inr rfl) ?_
        simp [retC, resC, viewC, mapO]
       ·simp at hd
  ·have h1 : (checkT t != 0) = true := by simpa using h0
   refine ZF (fn := Tryz.f3) [.tmp 4] ⟨Tryz.func3, rfl, by kernel_rfl⟩ fun x hx hσ => ?_
   (repeat refine ZQ ?_); refine ZR fun K hK => ?_; simp (maxSteps := 1000000) [ty28, ty32, ty4]; refine hK _ ?_; clear hK K
   (repeat refine ZQ ?_); refine ZR fun K hK => ?_; simp (maxSteps := 1000000) [ty28, ty32, ty3, ty4, ty34, ty30]
   refine ZP (hF) ?_; simp (maxSteps := 1000000) [ty4, ty28, ty34, ty32, ty3]
   refine ZP (hck) ?_; simp (maxSteps := 1000000) [ty4, ty28, ty34, h1]
   refine hK _ ?_; clear hK K
   (repeat refine ZQ ?_); refine ZC (hc := by simp [h1]; rfl) (fun hd => ?_) (fun hd => ?_)
   ·clear hd
    (repeat refine ZQ ?_); refine ZR fun K hK => ?_; simp (maxSteps := 1000000)
    refine ZP (k_worn7) ?_; simp (maxSteps := 1000000)
    refine hK _ ?_; clear hK K
    (repeat refine ZQ ?_); refine awp_ret ?_; refine And.intro (Or.inr rfl) ?_
    simp [retC, resC, viewC, mapO]
   ·simp [h1] at hd
 ·refine ZF (fn := Tryz.f3) [.tmp 4] ⟨Tryz.func3, rfl, by kernel_rfl⟩ fun x hx hσ => ?_
  (repeat refine ZQ ?_); refine ZR fun K hK => ?_; simp (maxSteps := 1000000) [ty28, ty32, ty4]; refine hK _ ?_; clear hK K
  (repeat refine ZQ ?_); refine ZR fun K hK => ?_; simp (maxSteps := 1000000) [ty28, ty32, ty3, ty4, ty34, ty30]
  refine ZP (hF) ?_; simp (maxSteps := 1000000) [ty4, ty28, ty34, ty32, ty3]
  refine hK _ ?_; clear hK K
  (repeat refine ZQ ?_); refine ZC (fun hd => ?_) (fun hd => ?_)
  ·clear hd
   (repeat refine ZQ ?_); refine ZR fun K hK => ?_; simp (maxSteps := 1000000)
   refine ZP (k_worn7) ?_; simp (maxSteps := 1000000)
   refine hK _ ?_; clear hK K
   (repeat refine ZQ ?_); refine awp_ret ?_; refine And.intro (Or.inr rfl) ?_
   simp [retC, resC, viewC, mapO]
  ·simp at hd

end Go.Proofs.YtbelmomdndjjkaaGreat

