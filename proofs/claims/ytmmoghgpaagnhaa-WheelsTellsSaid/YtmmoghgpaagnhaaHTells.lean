/- For every input the law WheelsTells returns true, and each argument reads afterwards as it read before. No condition. -/
import Derived.Test.YtmmoghgpaagnhaaB5

set_option linter.unusedSimpArgs false
set_option linter.unusedVariables false
set_option linter.constructorNameAsVariable false

namespace Go.Proofs.Ytmmoghgpaagnhaa
open Go Go.Abs

set_option maxHeartbeats 4000000

-- arms

structure Arm where
  un : Int
  ud : Int
  rn : Int
  rd : Int
  low : Int
  high : Int
@[simp] abbrev cArm (a : Arm) : List C := [encI a.un, encI a.ud, encI a.rn, encI a.rd, encI a.low, encI a.high]
@[simp] abbrev encArm (a : Arm) : C := .agg (cArm a)
@[simp] abbrev encR (r : Int × Int) : C := .agg [encI r.1, encI r.2]
@[simp] abbrev obR (r : Int × Int) : Ob := ⟨false, false, 2, [[encI r.1, encI r.2]]⟩
@[simp] abbrev obArm (a : Arm) : Ob := ⟨false, false, 6, [cArm a]⟩

def ratioB (r : Int × Int) : Bool := withinB r.2 1 1000000 && withinB r.1 (-1000000) 1000000
def gI (n d : Int) : Int := (Int.gcd n d : Nat)
def redI (n d : Int) : Int × Int := (n.tdiv (gI n d), d.tdiv (gI n d))
def toldI (n d : Int) : (Int × Int) × Int := if ratioB (redI n d) then (redI n d, 0) else ((0, 0), 2)
def armB (a : Arm) : Bool := withinB a.un 1 100 && withinB a.ud 1 100 && withinB a.rn 1 100 && withinB a.rd 1 100 && withinB a.low 1 a.high && decide (a.high ≤ 10000)
def valI (a : Arm) (s : Int) : (Int × Int) × Int := if armB a = false then ((0, 0), 11) else if withinB s a.low a.high = false then ((0, 0), 1) else toldI (s * a.un * a.rn) (a.ud * a.rd)
def mulI (r s : Int × Int) : (Int × Int) × Int := if (ratioB r && ratioB s) = false then ((0, 0), 10) else toldI (r.1 * s.1) (r.2 * s.2)

theorem gI_pos {n d : Int} (h : 0 < d) : 0 < gI n d := by
  unfold gI
  have : 0 < Int.gcd n d := Int.gcd_pos_of_ne_zero_right _ (by omega)
  omega

theorem tdiv_bd {a g B : Int} (h : -B ≤ a ∧ a ≤ B) : -B ≤ a.tdiv g ∧ a.tdiv g ≤ B := by
  have h1 : (a.tdiv g).natAbs = a.natAbs / g.natAbs := Int.natAbs_tdiv _ _
  have h2 : a.natAbs / g.natAbs ≤ a.natAbs := Nat.div_le_self _ _
  omega

theorem gcd_step (a b : Int) : Int.gcd b (a.tmod b) = Int.gcd a b := by
  unfold Int.gcd
  rw [Int.natAbs_tmod, Nat.gcd_comm, ← Nat.gcd_rec, Nat.gcd_comm]

theorem gcd_z (a : Int) : (Int.gcd a 0 : Int) = a.natAbs := by simp

theorem tmod_lt {a b : Int} (h : b ≠ 0) : (a.tmod b).natAbs < b.natAbs := by
  rw [Int.natAbs_tmod]
  exact Nat.mod_lt _ (by omega)

theorem absM (n : Int) : (if n < -n then -n else n) = (n.natAbs : Int) := by split <;> omega

theorem abs104 (n : Int) (h : -1000000000000000 ≤ n ∧ n ≤ 1000000000000000) : Pure Try.prog 104 [encI n] (encI n.natAbs) := by
  have hw := wrap_id (z := -n) (by omega) (by omega)
  have ha := absM n
  refine pure_of (fn := Try.f104) [.tmp 2] ⟨Try.func104, rfl, by kernel_rfl⟩ (by kernel_rfl) (by kernel_rfl) (by kernel_rfl) fun x hx hσ => ?_
  repeat refine awp_seq ?_
  refine awp_reg1 (by rw [hx]; kernel_rfl) fun K hK => ?_
  simp (config := { maxSteps := 1000000 }) []
  refine hK _ ?_
  clear hK K
  first | show AWP _ _ _ _ _ | show ∃ _, _ | skip
  repeat refine awp_seq ?_
  refine awp_reg1 (by rw [hx]; kernel_rfl) fun K hK => ?_
  simp (config := { maxSteps := 1000000 }) [ty3, hw, ha]
  refine hK _ ?_
  clear hK K
  first | show AWP _ _ _ _ _ | show ∃ _, _ | skip
  repeat refine awp_seq ?_
  refine awp_ret ?_
  refine And.intro (Or.inr rfl) ?_
  simp [retC, resC, viewC, mapO]

theorem size117 (n : Int) (h : -1000000000000000 ≤ n ∧ n ≤ 1000000000000000) : Pure Try.prog 117 [encI n] (encI n.natAbs) := by
  have hw := wrap_id (z := -n) (by omega) (by omega)
  have ha := absM n
  refine pure_of (fn := Try.f117) [.tmp 2] ⟨Try.func117, rfl, by kernel_rfl⟩ (by kernel_rfl) (by kernel_rfl) (by kernel_rfl) fun x hx hσ => ?_
  repeat refine awp_seq ?_
  refine awp_reg1 (by rw [hx]; kernel_rfl) fun K hK => ?_
  simp (config := { maxSteps := 1000000 }) []
  refine hK _ ?_
  clear hK K
  first | show AWP _ _ _ _ _ | show ∃ _, _ | skip
  repeat refine awp_seq ?_
  refine awp_reg1 (by rw [hx]; kernel_rfl) fun K hK => ?_
  simp (config := { maxSteps := 1000000 }) [ty3, hw, ha]
  refine hK _ ?_
  clear hK K
  first | show AWP _ _ _ _ _ | show ∃ _, _ | skip
  repeat refine awp_seq ?_
  refine awp_ret ?_
  refine And.intro (Or.inr rfl) ?_
  simp [retC, resC, viewC, mapO]

theorem within96 (n lo hi : Int) : Pure Try.prog 96 [encI n, encI lo, encI hi] (.bool (withinB n lo hi)) := by
  refine pure_of (fn := Try.f96) [.tmp 6] ⟨Try.func96, rfl, by kernel_rfl⟩ (by kernel_rfl) (by kernel_rfl) (by kernel_rfl) fun x hx hσ => ?_
  repeat refine awp_seq ?_
  refine awp_reg1 (by rw [hx]; kernel_rfl) fun K hK => ?_
  simp (config := { maxSteps := 1000000 }) []
  refine hK _ ?_
  clear hK K
  first | show AWP _ _ _ _ _ | show ∃ _, _ | skip
  by_cases h : lo ≤ n
  · repeat refine awp_seq ?_
    refine awp_reg1 (by rw [hx]; kernel_rfl) fun K hK => ?_
    simp (config := { maxSteps := 1000000 }) [ty3, h]
    refine hK _ ?_
    clear hK K
    first | show AWP _ _ _ _ _ | show ∃ _, _ | skip
    repeat refine awp_seq ?_
    refine awp_ret ?_
    refine And.intro (Or.inr rfl) ?_
    simp [retC, resC, viewC, mapO, withinB, h]
  · repeat refine awp_seq ?_
    refine awp_reg1 (by rw [hx]; kernel_rfl) fun K hK => ?_
    simp (config := { maxSteps := 1000000 }) [ty3, h]
    refine hK _ ?_
    clear hK K
    first | show AWP _ _ _ _ _ | show ∃ _, _ | skip
    repeat refine awp_seq ?_
    refine awp_ret ?_
    refine And.intro (Or.inr rfl) ?_
    simp [retC, resC, viewC, mapO, withinB, h]

theorem ratio98 (r : Int × Int) : Pure Try.prog 98 [encR r] (.bool (ratioB r)) := by
  have h1 := within96 r.2 1 1000000
  have h2 := within96 r.1 (-1000000) 1000000
  refine pure_of (fn := Try.f98) [.tmp 2] ⟨Try.func98, rfl, by kernel_rfl⟩ (by kernel_rfl) (by kernel_rfl) (by kernel_rfl) fun x hx hσ => ?_
  repeat refine awp_seq ?_
  refine awp_reg1 (by rw [hx]; kernel_rfl) fun K hK => ?_
  simp (config := { maxSteps := 1000000 }) [ty67]
  refine hK _ ?_
  clear hK K
  first | show AWP _ _ _ _ _ | show ∃ _, _ | skip
  cases hb : withinB r.2 1 1000000
  · rw [hb] at h1
    repeat refine awp_seq ?_
    refine awp_reg1 (by rw [hx]; kernel_rfl) fun K hK => ?_
    simp (config := { maxSteps := 1000000 }) [ty67, ty3]
    refine callP (h1) (by first | (simp; done) | (simp [*]; done)) ?_
    simp (config := { maxSteps := 1000000 }) [ty4]
    refine hK _ ?_
    clear hK K
    first | show AWP _ _ _ _ _ | show ∃ _, _ | skip
    repeat refine awp_seq ?_
    refine awp_ret ?_
    refine And.intro (Or.inr rfl) ?_
    simp [retC, resC, viewC, mapO, ratioB, hb]
  · rw [hb] at h1
    repeat refine awp_seq ?_
    refine awp_reg1 (by rw [hx]; kernel_rfl) fun K hK => ?_
    simp (config := { maxSteps := 1000000 }) [ty67, ty3]
    refine callP (h1) (by first | (simp; done) | (simp [*]; done)) ?_
    simp (config := { maxSteps := 1000000 }) [ty4, ty67, ty3]
    refine callP (h2) (by first | (simp; done) | (simp [*]; done)) ?_
    simp (config := { maxSteps := 1000000 }) [ty4]
    refine hK _ ?_
    clear hK K
    first | show AWP _ _ _ _ _ | show ∃ _, _ | skip
    repeat refine awp_seq ?_
    refine awp_ret ?_
    refine And.intro (Or.inr rfl) ?_
    simp [retC, resC, viewC, mapO, ratioB, hb]

theorem ratio92 (r : Int × Int) : Pure Try.prog 92 [encR r] (.bool (ratioB r)) := by
  have h1 := within79 r.2 1 1000000
  have h2 := within79 r.1 (-1000000) 1000000
  refine pure_of (fn := Try.f92) [.tmp 2] ⟨Try.func92, rfl, by kernel_rfl⟩ (by kernel_rfl) (by kernel_rfl) (by kernel_rfl) fun x hx hσ => ?_
  repeat refine awp_seq ?_
  refine awp_reg1 (by rw [hx]; kernel_rfl) fun K hK => ?_
  simp (config := { maxSteps := 1000000 }) [ty67]
  refine hK _ ?_
  clear hK K
  first | show AWP _ _ _ _ _ | show ∃ _, _ | skip
  cases hb : withinB r.2 1 1000000
  · rw [hb] at h1
    repeat refine awp_seq ?_
    refine awp_reg1 (by rw [hx]; kernel_rfl) fun K hK => ?_
    simp (config := { maxSteps := 1000000 }) [ty67, ty3]
    refine callP (h1) (by first | (simp; done) | (simp [*]; done)) ?_
    simp (config := { maxSteps := 1000000 }) [ty4]
    refine hK _ ?_
    clear hK K
    first | show AWP _ _ _ _ _ | show ∃ _, _ | skip
    repeat refine awp_seq ?_
    refine awp_ret ?_
    refine And.intro (Or.inr rfl) ?_
    simp [retC, resC, viewC, mapO, ratioB, hb]
  · rw [hb] at h1
    repeat refine awp_seq ?_
    refine awp_reg1 (by rw [hx]; kernel_rfl) fun K hK => ?_
    simp (config := { maxSteps := 1000000 }) [ty67, ty3]
    refine callP (h1) (by first | (simp; done) | (simp [*]; done)) ?_
    simp (config := { maxSteps := 1000000 }) [ty4, ty67, ty3]
    refine callP (h2) (by first | (simp; done) | (simp [*]; done)) ?_
    simp (config := { maxSteps := 1000000 }) [ty4]
    refine hK _ ?_
    clear hK K
    first | show AWP _ _ _ _ _ | show ∃ _, _ | skip
    repeat refine awp_seq ?_
    refine awp_ret ?_
    refine And.intro (Or.inr rfl) ?_
    simp [retC, resC, viewC, mapO, ratioB, hb]

theorem reduced97 (n d : Int) (hn : -1000000000000 ≤ n ∧ n ≤ 1000000000000) (hd : 0 < d ∧ d ≤ 1000000000000) : Pure Try.prog 97 [encI n, encI d] (encR (redI n d)) := by
  have hg := gI_pos (n := n) hd.1
  have b1 := tdiv_bd (g := gI n d) hn
  have b2 := tdiv_bd (g := gI n d) (a := d) (B := 1000000000000) (by omega)
  have w1 := wrap_id (z := n.tdiv (gI n d)) (by omega) (by omega)
  have w2 := wrap_id (z := d.tdiv (gI n d)) (by omega) (by omega)
  have hg0 : gI n d ≠ 0 := by omega
  refine pure_of (fn := Try.f97) [.cell 4 67] ⟨Try.func97, rfl, by kernel_rfl⟩ (by kernel_rfl) (by kernel_rfl) (by kernel_rfl) fun x hx hσ => ?_
  repeat refine awp_seq ?_
  refine awp_reg1 (by rw [hx]; kernel_rfl) fun K hK => ?_
  simp (config := { maxSteps := 1000000 }) [ty67]
  refine hK _ ?_
  clear hK K
  first | show AWP _ _ _ _ _ | show ∃ _, _ | skip
  repeat refine awp_seq ?_
  refine awp_reg1 (by rw [hx]; kernel_rfl) fun K hK => ?_
  simp (config := { maxSteps := 1000000 }) []
  refine callP (abs104 n (by omega)) (by first | (simp; done) | (simp [*]; done)) ?_
  simp (config := { maxSteps := 1000000 }) []
  refine hK _ ?_
  clear hK K
  first | show AWP _ _ _ _ _ | show ∃ _, _ | skip
  repeat refine awp_seq ?_
  refine awp_block ?_
  refine awp_loop (fun p : Int × Int => ⟨ofL [(0, encI n), (1, encI d), (4, .ptr 4 2 0 0), (5, encI p.1), (6, encI p.2)], stoT [(4, 4, .live (obR (0, 0)))]⟩)
    (fun p => (0 ≤ p.1 ∧ p.1 ≤ 1000000000000) ∧ (0 ≤ p.2 ∧ p.2 ≤ 1000000000000) ∧ (Int.gcd p.1 p.2 : Int) = gI n d) (fun p => p.2.natAbs) ((n.natAbs : Int), d) ⟨by simp only; omega, by simp only; omega, by unfold gI Int.gcd; rw [Int.natAbs_natCast]⟩ ?_ ?_
  · refine wk_shape (shp0 hσ (by simp) (by simp) ?_) ?_
    · simp [SlotOk] <;> (repeat' (first | exact .same (by simp [purel, C.isPure]) | exact .cons (by simp [mtl, mtc, mT, mH, C.isPure, purel]) (by simp) .nil | refine And.intro ?_ ?_))
    · simp [mtc, mtl, mT, C.isPure, purel] <;> (try simp (disch := omega) [wrap_id]) <;> (try omega)
  · rintro ⟨a, b⟩ ⟨ha, hb, hgc⟩
    simp only at ha hb hgc
    by_cases hz : b = 0
    · repeat refine awp_seq ?_
      refine awp_reg1 (by rw [hx]; kernel_rfl) fun K hK => ?_
      simp (config := { maxSteps := 1000000 }) [ty3, hz]
      refine hK _ ?_
      clear hK K
      first | show AWP _ _ _ _ _ | show ∃ _, _ | skip
      repeat refine awp_seq ?_
      refine awp_cond (by simp [hz]; rfl) (by rw [hx]; simp) (fun hd0 => ?_) (fun hd0 => ?_)
      · simp [hz] at hd0
      · clear hd0
        repeat refine awp_seq ?_
        refine awp_exit ?_
        first | show AWP _ _ _ _ _ | show ∃ _, _ | skip
        have hag : a = gI n d := by
          rw [hz, gcd_z] at hgc
          omega
        rw [hag]
        repeat refine awp_seq ?_
        refine awp_drw3 [] [0, 1, 2, 3, 4, 5, 6, 7] (by rw [hx]; kernel_rfl) (by kernel_rfl) (by kernel_rfl) (by kernel_rfl) fun K hK => ?_
        simp (config := { maxSteps := 1000000 }) [ty3, ty67, hg0, w1, w2]
        refine hK _ ?_
        clear hK K
        first | show AWP _ _ _ _ _ | show ∃ _, _ | skip
        repeat refine awp_seq ?_
        refine awp_ret ?_
        refine And.intro (Or.inr rfl) ?_
        simp [retC, resC, viewC, mapO, ty67, redI]
    · repeat refine awp_seq ?_
      refine awp_reg1 (by rw [hx]; kernel_rfl) fun K hK => ?_
      simp (config := { maxSteps := 1000000 }) [ty3, hz]
      refine hK _ ?_
      clear hK K
      first | show AWP _ _ _ _ _ | show ∃ _, _ | skip
      repeat refine awp_seq ?_
      refine awp_cond (by simp [hz]; rfl) (by rw [hx]; simp) (fun hd0 => ?_) (fun hd0 => ?_)
      · clear hd0
        refine awp_skip ?_
        first | show AWP _ _ _ _ _ | show ∃ _, _ | skip
        repeat refine awp_seq ?_
        refine awp_block ?_
        have hlt := tmod_lt (a := a) hz
        have hnn : 0 ≤ a.tmod b := Int.tmod_nonneg _ ha.1
        have w3 := wrap_id (z := a.tmod b) (by omega) (by omega)
        repeat refine awp_seq ?_
        refine awp_drw3 [] [0, 1, 2, 3, 4, 5] (by rw [hx]; kernel_rfl) (by kernel_rfl) (by kernel_rfl) (by kernel_rfl) fun K hK => ?_
        simp (config := { maxSteps := 1000000 }) [ty3, hz, w3]
        refine hK _ ?_
        clear hK K
        first | show AWP _ _ _ _ _ | show ∃ _, _ | skip
        refine ⟨(b, a.tmod b), ⟨hb, ⟨hnn, by simp only; omega⟩, ?_⟩, hlt, ?_⟩
        · simp only
          rw [gcd_step]
          exact hgc
        · refine wk_shape (shp0 hσ (by simp) (by simp) ?_) ?_
          · simp [SlotOk] <;> (repeat' (first | exact .same (by simp [purel, C.isPure]) | exact .cons (by simp [mtl, mtc, mT, mH, C.isPure, purel]) (by simp) .nil | refine And.intro ?_ ?_))
          · simp [mtc, mtl, mT, C.isPure, purel] <;> (try simp (disch := omega) [wrap_id]) <;> (try omega)
      · simp [hz] at hd0

theorem divisor105 (n d : Int) (hn : -1000000000000 ≤ n ∧ n ≤ 1000000000000) (hd : 0 < d ∧ d ≤ 1000000000000) : Pure Try.prog 105 [encI n, encI d] (encI (gI n d)) := by
  refine pure_of (fn := Try.f105) [.tmp 4] ⟨Try.func105, rfl, by kernel_rfl⟩ (by kernel_rfl) (by kernel_rfl) (by kernel_rfl) fun x hx hσ => ?_
  repeat refine awp_seq ?_
  refine awp_reg1 (by rw [hx]; kernel_rfl) fun K hK => ?_
  simp (config := { maxSteps := 1000000 }) []
  refine hK _ ?_
  clear hK K
  first | show AWP _ _ _ _ _ | show ∃ _, _ | skip
  repeat refine awp_seq ?_
  refine awp_block ?_
  refine awp_loop (fun p : Int × Int => ⟨ofL [(0, encI p.1), (1, encI p.2)], stoT []⟩)
    (fun p => (-1000000000000 ≤ p.1 ∧ p.1 ≤ 1000000000000) ∧ (-1000000000000 ≤ p.2 ∧ p.2 ≤ 1000000000000) ∧ (Int.gcd p.1 p.2 : Int) = gI n d) (fun p => p.2.natAbs) (n, d) ⟨by simp only; omega, by simp only; omega, rfl⟩ ?_ ?_
  · refine wk_shape (shp0 hσ (by simp) (by simp) ?_) ?_
    · simp [SlotOk] <;> (repeat' (first | exact .same (by simp [purel, C.isPure]) | exact .cons (by simp [mtl, mtc, mT, mH, C.isPure, purel]) (by simp) .nil | refine And.intro ?_ ?_))
    · simp [mtc, mtl, mT, C.isPure, purel] <;> (try simp (disch := omega) [wrap_id]) <;> (try omega)
  · rintro ⟨a, b⟩ ⟨ha, hb, hgc⟩
    simp only at ha hb hgc
    by_cases hz : b = 0
    · repeat refine awp_seq ?_
      refine awp_reg1 (by rw [hx]; kernel_rfl) fun K hK => ?_
      simp (config := { maxSteps := 1000000 }) [ty3, hz]
      refine hK _ ?_
      clear hK K
      first | show AWP _ _ _ _ _ | show ∃ _, _ | skip
      repeat refine awp_seq ?_
      refine awp_cond (by simp [hz]; rfl) (by rw [hx]; simp) (fun hd0 => ?_) (fun hd0 => ?_)
      · simp [hz] at hd0
      · clear hd0
        repeat refine awp_seq ?_
        refine awp_exit ?_
        first | show AWP _ _ _ _ _ | show ∃ _, _ | skip
        have hag : (a.natAbs : Int) = gI n d := by
          rw [hz, gcd_z] at hgc
          exact hgc
        repeat refine awp_seq ?_
        refine awp_reg1 (by rw [hx]; kernel_rfl) fun K hK => ?_
        simp (config := { maxSteps := 1000000 }) []
        refine callP (size117 a (by omega)) (by first | (simp; done) | (simp [*]; done)) ?_
        simp (config := { maxSteps := 1000000 }) []
        refine hK _ ?_
        clear hK K
        first | show AWP _ _ _ _ _ | show ∃ _, _ | skip
        repeat refine awp_seq ?_
        refine awp_ret ?_
        refine And.intro (Or.inr rfl) ?_
        simp [retC, resC, viewC, mapO, hag]
    · repeat refine awp_seq ?_
      refine awp_reg1 (by rw [hx]; kernel_rfl) fun K hK => ?_
      simp (config := { maxSteps := 1000000 }) [ty3, hz]
      refine hK _ ?_
      clear hK K
      first | show AWP _ _ _ _ _ | show ∃ _, _ | skip
      repeat refine awp_seq ?_
      refine awp_cond (by simp [hz]; rfl) (by rw [hx]; simp) (fun hd0 => ?_) (fun hd0 => ?_)
      · clear hd0
        refine awp_skip ?_
        first | show AWP _ _ _ _ _ | show ∃ _, _ | skip
        repeat refine awp_seq ?_
        refine awp_block ?_
        have hlt := tmod_lt (a := a) hz
        have w3 := wrap_id (z := a.tmod b) (by omega) (by omega)
        repeat refine awp_seq ?_
        refine awp_drw3 [] [0, 1, 2, 3, 4, 5] (by rw [hx]; kernel_rfl) (by kernel_rfl) (by kernel_rfl) (by kernel_rfl) fun K hK => ?_
        simp (config := { maxSteps := 1000000 }) [ty3, hz, w3]
        refine hK _ ?_
        clear hK K
        first | show AWP _ _ _ _ _ | show ∃ _, _ | skip
        refine ⟨(b, a.tmod b), ⟨hb, ⟨by simp only; omega, by simp only; omega⟩, ?_⟩, hlt, ?_⟩
        · simp only
          rw [gcd_step]
          exact hgc
        · refine wk_shape (shp0 hσ (by simp) (by simp) ?_) ?_
          · simp [SlotOk] <;> (repeat' (first | exact .same (by simp [purel, C.isPure]) | exact .cons (by simp [mtl, mtc, mT, mH, C.isPure, purel]) (by simp) .nil | refine And.intro ?_ ?_))
          · simp [mtc, mtl, mT, C.isPure, purel] <;> (try simp (disch := omega) [wrap_id]) <;> (try omega)
      · simp [hz] at hd0

theorem reduced100 (n d : Int) (hn : -1000000000000 ≤ n ∧ n ≤ 1000000000000) (hd : 0 < d ∧ d ≤ 1000000000000) : Pure Try.prog 100 [encR (n, d)] (encR (redI n d)) := by
  have hg := gI_pos (n := n) hd.1
  have b1 := tdiv_bd (g := gI n d) hn
  have b2 := tdiv_bd (g := gI n d) (a := d) (B := 1000000000000) (by omega)
  have w1 := wrap_id (z := n.tdiv (gI n d)) (by omega) (by omega)
  have w2 := wrap_id (z := d.tdiv (gI n d)) (by omega) (by omega)
  have hg0 : gI n d ≠ 0 := by omega
  refine pure_of (fn := Try.f100) [.cell 2 67] ⟨Try.func100, rfl, by kernel_rfl⟩ (by kernel_rfl) (by kernel_rfl) (by kernel_rfl) fun x hx hσ => ?_
  repeat refine awp_seq ?_
  refine awp_reg1 (by rw [hx]; kernel_rfl) fun K hK => ?_
  simp (config := { maxSteps := 1000000 }) [ty67]
  refine hK _ ?_
  clear hK K
  first | show AWP _ _ _ _ _ | show ∃ _, _ | skip
  repeat refine awp_seq ?_
  refine awp_reg1 (by rw [hx]; kernel_rfl) fun K hK => ?_
  simp (config := { maxSteps := 1000000 }) [ty67, ty3]
  refine callP (divisor105 n d hn hd) (by first | (simp; done) | (simp [*]; done)) ?_
  simp (config := { maxSteps := 1000000 }) []
  refine hK _ ?_
  clear hK K
  first | show AWP _ _ _ _ _ | show ∃ _, _ | skip
  repeat refine awp_seq ?_
  refine awp_drw3 [] [0, 1, 2, 3, 4, 5, 6, 7, 8, 9] (by rw [hx]; kernel_rfl) (by kernel_rfl) (by kernel_rfl) (by kernel_rfl) fun K hK => ?_
  simp (config := { maxSteps := 1000000 }) [ty67, ty3, hg0, w1, w2]
  refine hK _ ?_
  clear hK K
  first | show AWP _ _ _ _ _ | show ∃ _, _ | skip
  repeat refine awp_seq ?_
  refine awp_ret ?_
  refine And.intro (Or.inr rfl) ?_
  simp [retC, resC, viewC, mapO, ty67, redI]

theorem told85 (n d : Int) (hn : -1000000000000 ≤ n ∧ n ≤ 1000000000000) (hd : 0 < d ∧ d ≤ 1000000000000) : Pure Try.prog 85 [encI n, encI d] (.tup [encR (toldI n d).1, encI (toldI n d).2]) := by
  have hr := ratio98 (redI n d)
  refine pure_of (fn := Try.f85) [.cell 4 67, .tmp 5] ⟨Try.func85, rfl, by kernel_rfl⟩ (by kernel_rfl) (by kernel_rfl) (by kernel_rfl) fun x hx hσ => ?_
  repeat refine awp_seq ?_
  refine awp_reg1 (by rw [hx]; kernel_rfl) fun K hK => ?_
  simp (config := { maxSteps := 1000000 }) [ty67]
  refine hK _ ?_
  clear hK K
  first | show AWP _ _ _ _ _ | show ∃ _, _ | skip
  repeat refine awp_seq ?_
  refine awp_reg1 (by rw [hx]; kernel_rfl) fun K hK => ?_
  simp (config := { maxSteps := 1000000 }) [ty67]
  refine callP (reduced97 n d hn hd) (by first | (simp; done) | (simp [*]; done)) ?_
  simp (config := { maxSteps := 1000000 }) [ty67]
  refine hK _ ?_
  clear hK K
  first | show AWP _ _ _ _ _ | show ∃ _, _ | skip
  repeat refine awp_seq ?_
  refine awp_reg1 (by rw [hx]; kernel_rfl) fun K hK => ?_
  simp (config := { maxSteps := 1000000 }) [ty67]
  refine callP (hr) (by first | (simp; done) | (simp [*]; done)) ?_
  simp (config := { maxSteps := 1000000 }) [ty4]
  refine hK _ ?_
  clear hK K
  first | show AWP _ _ _ _ _ | show ∃ _, _ | skip
  cases hb : ratioB (redI n d)
  · have ht : toldI n d = ((0, 0), 2) := by unfold toldI; rw [hb]; rfl
    repeat refine awp_seq ?_
    refine awp_cond (by simp [hb]; rfl) (by rw [hx]; simp) (fun hd0 => ?_) (fun hd0 => ?_)
    · clear hd0
      repeat refine awp_seq ?_
      refine awp_reg1 (by rw [hx]; kernel_rfl) fun K hK => ?_
      simp (config := { maxSteps := 1000000 }) [ty67]
      refine hK _ ?_
      clear hK K
      first | show AWP _ _ _ _ _ | show ∃ _, _ | skip
      repeat refine awp_seq ?_
      refine awp_ret ?_
      refine And.intro (Or.inr rfl) ?_
      simp [retC, resC, viewC, mapO, ty67, ht]
    · simp at hd0
  · have ht : toldI n d = (redI n d, 0) := by unfold toldI; rw [hb]; rfl
    repeat refine awp_seq ?_
    refine awp_cond (by simp [hb]; rfl) (by rw [hx]; simp) (fun hd0 => ?_) (fun hd0 => ?_)
    · simp at hd0
    · clear hd0
      refine awp_skip ?_
      first | show AWP _ _ _ _ _ | show ∃ _, _ | skip
      repeat refine awp_seq ?_
      refine awp_reg1 (by rw [hx]; kernel_rfl) fun K hK => ?_
      simp (config := { maxSteps := 1000000 }) [ty67]
      refine hK _ ?_
      clear hK K
      first | show AWP _ _ _ _ _ | show ∃ _, _ | skip
      repeat refine awp_seq ?_
      refine awp_ret ?_
      refine And.intro (Or.inr rfl) ?_
      simp [retC, resC, viewC, mapO, ty67, ht]

theorem result90 (n d : Int) (hn : -1000000000000 ≤ n ∧ n ≤ 1000000000000) (hd : 0 < d ∧ d ≤ 1000000000000) : Pure Try.prog 90 [encR (n, d)] (.tup [encR (toldI n d).1, encI (toldI n d).2]) := by
  have hr := ratio92 (redI n d)
  refine pure_of (fn := Try.f90) [.cell 2 67, .tmp 3] ⟨Try.func90, rfl, by kernel_rfl⟩ (by kernel_rfl) (by kernel_rfl) (by kernel_rfl) fun x hx hσ => ?_
  repeat refine awp_seq ?_
  refine awp_reg1 (by rw [hx]; kernel_rfl) fun K hK => ?_
  simp (config := { maxSteps := 1000000 }) [ty67]
  refine hK _ ?_
  clear hK K
  first | show AWP _ _ _ _ _ | show ∃ _, _ | skip
  repeat refine awp_seq ?_
  refine awp_reg1 (by rw [hx]; kernel_rfl) fun K hK => ?_
  simp (config := { maxSteps := 1000000 }) [ty67]
  refine callP (reduced100 n d hn hd) (by first | (simp; done) | (simp [*]; done)) ?_
  simp (config := { maxSteps := 1000000 }) [ty67]
  refine hK _ ?_
  clear hK K
  first | show AWP _ _ _ _ _ | show ∃ _, _ | skip
  repeat refine awp_seq ?_
  refine awp_reg1 (by rw [hx]; kernel_rfl) fun K hK => ?_
  simp (config := { maxSteps := 1000000 }) [ty67]
  refine callP (hr) (by first | (simp; done) | (simp [*]; done)) ?_
  simp (config := { maxSteps := 1000000 }) [ty4]
  refine hK _ ?_
  clear hK K
  first | show AWP _ _ _ _ _ | show ∃ _, _ | skip
  cases hb : ratioB (redI n d)
  · have ht : toldI n d = ((0, 0), 2) := by unfold toldI; rw [hb]; rfl
    repeat refine awp_seq ?_
    refine awp_cond (by simp [hb]; rfl) (by rw [hx]; simp) (fun hd0 => ?_) (fun hd0 => ?_)
    · clear hd0
      repeat refine awp_seq ?_
      refine awp_reg1 (by rw [hx]; kernel_rfl) fun K hK => ?_
      simp (config := { maxSteps := 1000000 }) [ty67]
      refine hK _ ?_
      clear hK K
      first | show AWP _ _ _ _ _ | show ∃ _, _ | skip
      repeat refine awp_seq ?_
      refine awp_ret ?_
      refine And.intro (Or.inr rfl) ?_
      simp [retC, resC, viewC, mapO, ty67, ht]
    · simp at hd0
  · have ht : toldI n d = (redI n d, 0) := by unfold toldI; rw [hb]; rfl
    repeat refine awp_seq ?_
    refine awp_cond (by simp [hb]; rfl) (by rw [hx]; simp) (fun hd0 => ?_) (fun hd0 => ?_)
    · simp at hd0
    · clear hd0
      refine awp_skip ?_
      first | show AWP _ _ _ _ _ | show ∃ _, _ | skip
      repeat refine awp_seq ?_
      refine awp_reg1 (by rw [hx]; kernel_rfl) fun K hK => ?_
      simp (config := { maxSteps := 1000000 }) [ty67]
      refine hK _ ?_
      clear hK K
      first | show AWP _ _ _ _ _ | show ∃ _, _ | skip
      repeat refine awp_seq ?_
      refine awp_ret ?_
      refine And.intro (Or.inr rfl) ?_
      simp [retC, resC, viewC, mapO, ty67, ht]

end Go.Proofs.Ytmmoghgpaagnhaa

namespace Go.Proofs.Ytmmoghgpaagnhaa
open Go Go.Abs

set_option maxHeartbeats 4000000

def partL (a : Arm) : List Int := [a.un, a.ud, a.rn, a.rd]


theorem isArm83 (a : Arm) : Pure Try.prog 83 [encArm a] (.bool (armB a)) := by
  refine pure_of (fn := Try.f83) [.tmp 2] ⟨Try.func83, rfl, by kernel_rfl⟩ (by kernel_rfl) (by kernel_rfl) (by kernel_rfl) fun x hx hσ => ?_
  repeat refine awp_seq ?_
  refine awp_reg1 (by rw [hx]; kernel_rfl) fun K hK => ?_
  simp (config := { maxSteps := 1000000 }) [ty69]
  refine hK _ ?_
  clear hK K
  first | show AWP _ _ _ _ _ | show ∃ _, _ | skip
  repeat refine awp_seq ?_
  refine awp_reg1 (by rw [hx]; kernel_rfl) fun K hK => ?_
  simp (config := { maxSteps := 1000000 }) [ty69, ty67, ty3, ty129]
  refine hK _ ?_
  clear hK K
  first | show AWP _ _ _ _ _ | show ∃ _, _ | skip
  repeat refine awp_seq ?_
  refine awp_block ?_
  refine awp_loop (fun i : Nat => ⟨ofL [(1, .ptr 1 6 0 0), (17, .agg [encI a.un, encI a.ud, encI a.rn, encI a.rd]), (18, encI i)], stoT [(1, 1, .live (obArm a))]⟩)
    (fun i => i ≤ 4 ∧ ∀ j, j < i → withinB ((partL a).getD j 0) 1 100 = true) (fun i => 4 - i) 0 ⟨Nat.zero_le _, fun j h => by omega⟩ ?_ ?_
  · refine wk_shape (shp0 hσ (by simp) (by simp) ?_) ?_
    · simp [SlotOk] <;> (repeat' (first | exact .same (by simp [purel, C.isPure]) | exact .cons (by simp [mtl, mtc, mT, mH, C.isPure, purel]) (by simp) .nil | refine And.intro ?_ ?_))
    · simp [mtc, mtl, mT, C.isPure, purel] <;> (try simp (disch := omega) [wrap_id]) <;> (try omega)
  · rintro i ⟨hi, hq⟩
    repeat refine awp_seq ?_
    refine awp_reg1 (by rw [hx]; kernel_rfl) fun K hK => ?_
    simp (config := { maxSteps := 1000000 }) [ty3]
    refine hK _ ?_
    clear hK K
    first | show AWP _ _ _ _ _ | show ∃ _, _ | skip
    repeat refine awp_seq ?_
    refine awp_cond (by simp; rfl) (by rw [hx]; simp) (fun hc => ?_) (fun hc => ?_)
    · simp at hc
      refine awp_skip ?_
      first | show AWP _ _ _ _ _ | show ∃ _, _ | skip
      repeat refine awp_seq ?_
      refine awp_block ?_
      have hi4 : i = 0 ∨ i = 1 ∨ i = 2 ∨ i = 3 := by omega
      rcases hi4 with rfl | rfl | rfl | rfl
      · have hw := within96 a.un 1 100
        repeat refine awp_seq ?_
        refine awp_reg1 (by rw [hx]; kernel_rfl) fun K hK => ?_
        simp (config := { maxSteps := 1000000 }) [ty129, ty3]
        refine hK _ ?_
        clear hK K
        first | show AWP _ _ _ _ _ | show ∃ _, _ | skip
        repeat refine awp_seq ?_
        refine awp_reg1 (by rw [hx]; kernel_rfl) fun K hK => ?_
        simp (config := { maxSteps := 1000000 }) [ty3]
        refine callP (hw) (by first | (simp; done) | (simp [*]; done)) ?_
        simp (config := { maxSteps := 1000000 }) [ty4]
        refine hK _ ?_
        clear hK K
        first | show AWP _ _ _ _ _ | show ∃ _, _ | skip
        cases hb : withinB a.un 1 100
        · repeat refine awp_seq ?_
          refine awp_cond (by simp [hb]; rfl) (by rw [hx]; simp) (fun hd => ?_) (fun hd => ?_)
          · clear hd
            repeat refine awp_seq ?_
            refine awp_reg1 (by rw [hx]; kernel_rfl) fun K hK => ?_
            simp (config := { maxSteps := 1000000 }) []
            refine hK _ ?_
            clear hK K
            first | show AWP _ _ _ _ _ | show ∃ _, _ | skip
            repeat refine awp_seq ?_
            refine awp_ret ?_
            refine And.intro (Or.inr rfl) ?_
            simp [retC, resC, viewC, mapO, armB, hb]
          · simp at hd
        · repeat refine awp_seq ?_
          refine awp_cond (by simp [hb]; rfl) (by rw [hx]; simp) (fun hd => ?_) (fun hd => ?_)
          · simp at hd
          · clear hd
            refine awp_skip ?_
            first | show AWP _ _ _ _ _ | show ∃ _, _ | skip
            repeat refine awp_seq ?_
            refine awp_reg1 (by rw [hx]; kernel_rfl) fun K hK => ?_
            simp (config := { maxSteps := 1000000 }) [ty3]
            refine hK _ ?_
            clear hK K
            first | show AWP _ _ _ _ _ | show ∃ _, _ | skip
            refine ⟨0 + 1, ⟨by omega, fun j hj => ?_⟩, by omega, ?_⟩
            · have hj4 : j = 0 ∨ j < 0 := by omega
              rcases hj4 with rfl | hj4
              · exact hb
              · exact hq j hj4
            · refine wk_shape (shp0 hσ (by simp) (by simp) ?_) ?_
              · simp [SlotOk] <;> (repeat' (first | exact .same (by simp [purel, C.isPure]) | exact .cons (by simp [mtl, mtc, mT, mH, C.isPure, purel]) (by simp) .nil | refine And.intro ?_ ?_))
              · simp [mtc, mtl, mT, C.isPure, purel] <;> (try simp (disch := omega) [wrap_id]) <;> (try omega)
      · have p0 : withinB a.un 1 100 = true := hq 0 (by omega)
        have hw := within96 a.ud 1 100
        repeat refine awp_seq ?_
        refine awp_reg1 (by rw [hx]; kernel_rfl) fun K hK => ?_
        simp (config := { maxSteps := 1000000 }) [ty129, ty3]
        refine hK _ ?_
        clear hK K
        first | show AWP _ _ _ _ _ | show ∃ _, _ | skip
        repeat refine awp_seq ?_
        refine awp_reg1 (by rw [hx]; kernel_rfl) fun K hK => ?_
        simp (config := { maxSteps := 1000000 }) [ty3]
        refine callP (hw) (by first | (simp; done) | (simp [*]; done)) ?_
        simp (config := { maxSteps := 1000000 }) [ty4]
        refine hK _ ?_
        clear hK K
        first | show AWP _ _ _ _ _ | show ∃ _, _ | skip
        cases hb : withinB a.ud 1 100
        · repeat refine awp_seq ?_
          refine awp_cond (by simp [hb]; rfl) (by rw [hx]; simp) (fun hd => ?_) (fun hd => ?_)
          · clear hd
            repeat refine awp_seq ?_
            refine awp_reg1 (by rw [hx]; kernel_rfl) fun K hK => ?_
            simp (config := { maxSteps := 1000000 }) []
            refine hK _ ?_
            clear hK K
            first | show AWP _ _ _ _ _ | show ∃ _, _ | skip
            repeat refine awp_seq ?_
            refine awp_ret ?_
            refine And.intro (Or.inr rfl) ?_
            simp [retC, resC, viewC, mapO, armB, hb]
          · simp at hd
        · repeat refine awp_seq ?_
          refine awp_cond (by simp [hb]; rfl) (by rw [hx]; simp) (fun hd => ?_) (fun hd => ?_)
          · simp at hd
          · clear hd
            refine awp_skip ?_
            first | show AWP _ _ _ _ _ | show ∃ _, _ | skip
            repeat refine awp_seq ?_
            refine awp_reg1 (by rw [hx]; kernel_rfl) fun K hK => ?_
            simp (config := { maxSteps := 1000000 }) [ty3]
            refine hK _ ?_
            clear hK K
            first | show AWP _ _ _ _ _ | show ∃ _, _ | skip
            refine ⟨1 + 1, ⟨by omega, fun j hj => ?_⟩, by omega, ?_⟩
            · have hj4 : j = 1 ∨ j < 1 := by omega
              rcases hj4 with rfl | hj4
              · exact hb
              · exact hq j hj4
            · refine wk_shape (shp0 hσ (by simp) (by simp) ?_) ?_
              · simp [SlotOk] <;> (repeat' (first | exact .same (by simp [purel, C.isPure]) | exact .cons (by simp [mtl, mtc, mT, mH, C.isPure, purel]) (by simp) .nil | refine And.intro ?_ ?_))
              · simp [mtc, mtl, mT, C.isPure, purel] <;> (try simp (disch := omega) [wrap_id]) <;> (try omega)
      · have p0 : withinB a.un 1 100 = true := hq 0 (by omega)
        have p1 : withinB a.ud 1 100 = true := hq 1 (by omega)
        have hw := within96 a.rn 1 100
        repeat refine awp_seq ?_
        refine awp_reg1 (by rw [hx]; kernel_rfl) fun K hK => ?_
        simp (config := { maxSteps := 1000000 }) [ty129, ty3]
        refine hK _ ?_
        clear hK K
        first | show AWP _ _ _ _ _ | show ∃ _, _ | skip
        repeat refine awp_seq ?_
        refine awp_reg1 (by rw [hx]; kernel_rfl) fun K hK => ?_
        simp (config := { maxSteps := 1000000 }) [ty3]
        refine callP (hw) (by first | (simp; done) | (simp [*]; done)) ?_
        simp (config := { maxSteps := 1000000 }) [ty4]
        refine hK _ ?_
        clear hK K
        first | show AWP _ _ _ _ _ | show ∃ _, _ | skip
        cases hb : withinB a.rn 1 100
        · repeat refine awp_seq ?_
          refine awp_cond (by simp [hb]; rfl) (by rw [hx]; simp) (fun hd => ?_) (fun hd => ?_)
          · clear hd
            repeat refine awp_seq ?_
            refine awp_reg1 (by rw [hx]; kernel_rfl) fun K hK => ?_
            simp (config := { maxSteps := 1000000 }) []
            refine hK _ ?_
            clear hK K
            first | show AWP _ _ _ _ _ | show ∃ _, _ | skip
            repeat refine awp_seq ?_
            refine awp_ret ?_
            refine And.intro (Or.inr rfl) ?_
            simp [retC, resC, viewC, mapO, armB, hb]
          · simp at hd
        · repeat refine awp_seq ?_
          refine awp_cond (by simp [hb]; rfl) (by rw [hx]; simp) (fun hd => ?_) (fun hd => ?_)
          · simp at hd
          · clear hd
            refine awp_skip ?_
            first | show AWP _ _ _ _ _ | show ∃ _, _ | skip
            repeat refine awp_seq ?_
            refine awp_reg1 (by rw [hx]; kernel_rfl) fun K hK => ?_
            simp (config := { maxSteps := 1000000 }) [ty3]
            refine hK _ ?_
            clear hK K
            first | show AWP _ _ _ _ _ | show ∃ _, _ | skip
            refine ⟨2 + 1, ⟨by omega, fun j hj => ?_⟩, by omega, ?_⟩
            · have hj4 : j = 2 ∨ j < 2 := by omega
              rcases hj4 with rfl | hj4
              · exact hb
              · exact hq j hj4
            · refine wk_shape (shp0 hσ (by simp) (by simp) ?_) ?_
              · simp [SlotOk] <;> (repeat' (first | exact .same (by simp [purel, C.isPure]) | exact .cons (by simp [mtl, mtc, mT, mH, C.isPure, purel]) (by simp) .nil | refine And.intro ?_ ?_))
              · simp [mtc, mtl, mT, C.isPure, purel] <;> (try simp (disch := omega) [wrap_id]) <;> (try omega)
      · have p0 : withinB a.un 1 100 = true := hq 0 (by omega)
        have p1 : withinB a.ud 1 100 = true := hq 1 (by omega)
        have p2 : withinB a.rn 1 100 = true := hq 2 (by omega)
        have hw := within96 a.rd 1 100
        repeat refine awp_seq ?_
        refine awp_reg1 (by rw [hx]; kernel_rfl) fun K hK => ?_
        simp (config := { maxSteps := 1000000 }) [ty129, ty3]
        refine hK _ ?_
        clear hK K
        first | show AWP _ _ _ _ _ | show ∃ _, _ | skip
        repeat refine awp_seq ?_
        refine awp_reg1 (by rw [hx]; kernel_rfl) fun K hK => ?_
        simp (config := { maxSteps := 1000000 }) [ty3]
        refine callP (hw) (by first | (simp; done) | (simp [*]; done)) ?_
        simp (config := { maxSteps := 1000000 }) [ty4]
        refine hK _ ?_
        clear hK K
        first | show AWP _ _ _ _ _ | show ∃ _, _ | skip
        cases hb : withinB a.rd 1 100
        · repeat refine awp_seq ?_
          refine awp_cond (by simp [hb]; rfl) (by rw [hx]; simp) (fun hd => ?_) (fun hd => ?_)
          · clear hd
            repeat refine awp_seq ?_
            refine awp_reg1 (by rw [hx]; kernel_rfl) fun K hK => ?_
            simp (config := { maxSteps := 1000000 }) []
            refine hK _ ?_
            clear hK K
            first | show AWP _ _ _ _ _ | show ∃ _, _ | skip
            repeat refine awp_seq ?_
            refine awp_ret ?_
            refine And.intro (Or.inr rfl) ?_
            simp [retC, resC, viewC, mapO, armB, hb]
          · simp at hd
        · repeat refine awp_seq ?_
          refine awp_cond (by simp [hb]; rfl) (by rw [hx]; simp) (fun hd => ?_) (fun hd => ?_)
          · simp at hd
          · clear hd
            refine awp_skip ?_
            first | show AWP _ _ _ _ _ | show ∃ _, _ | skip
            repeat refine awp_seq ?_
            refine awp_reg1 (by rw [hx]; kernel_rfl) fun K hK => ?_
            simp (config := { maxSteps := 1000000 }) [ty3]
            refine hK _ ?_
            clear hK K
            first | show AWP _ _ _ _ _ | show ∃ _, _ | skip
            refine ⟨3 + 1, ⟨by omega, fun j hj => ?_⟩, by omega, ?_⟩
            · have hj4 : j = 3 ∨ j < 3 := by omega
              rcases hj4 with rfl | hj4
              · exact hb
              · exact hq j hj4
            · refine wk_shape (shp0 hσ (by simp) (by simp) ?_) ?_
              · simp [SlotOk] <;> (repeat' (first | exact .same (by simp [purel, C.isPure]) | exact .cons (by simp [mtl, mtc, mT, mH, C.isPure, purel]) (by simp) .nil | refine And.intro ?_ ?_))
              · simp [mtc, mtl, mT, C.isPure, purel] <;> (try simp (disch := omega) [wrap_id]) <;> (try omega)
    · simp at hc
      repeat refine awp_seq ?_
      refine awp_exit ?_
      first | show AWP _ _ _ _ _ | show ∃ _, _ | skip
      have h4 : i = 4 := by omega
      have p0 : withinB a.un 1 100 = true := hq 0 (by omega)
      have p1 : withinB a.ud 1 100 = true := hq 1 (by omega)
      have p2 : withinB a.rn 1 100 = true := hq 2 (by omega)
      have p3 : withinB a.rd 1 100 = true := hq 3 (by omega)
      have hw := within96 a.low 1 a.high
      cases hb : withinB a.low 1 a.high
      · rw [hb] at hw
        repeat refine awp_seq ?_
        refine awp_reg1 (by rw [hx]; kernel_rfl) fun K hK => ?_
        simp (config := { maxSteps := 1000000 }) [ty69, ty3]
        refine callP (hw) (by first | (simp; done) | (simp [*]; done)) ?_
        simp (config := { maxSteps := 1000000 }) [ty4]
        refine hK _ ?_
        clear hK K
        first | show AWP _ _ _ _ _ | show ∃ _, _ | skip
        repeat refine awp_seq ?_
        refine awp_ret ?_
        refine And.intro (Or.inr rfl) ?_
        simp [retC, resC, viewC, mapO, armB, hb]
      · rw [hb] at hw
        repeat refine awp_seq ?_
        refine awp_reg1 (by rw [hx]; kernel_rfl) fun K hK => ?_
        simp (config := { maxSteps := 1000000 }) [ty69, ty3]
        refine callP (hw) (by first | (simp; done) | (simp [*]; done)) ?_
        simp (config := { maxSteps := 1000000 }) [ty4, ty69, ty3]
        refine hK _ ?_
        clear hK K
        first | show AWP _ _ _ _ _ | show ∃ _, _ | skip
        repeat refine awp_seq ?_
        refine awp_ret ?_
        refine And.intro (Or.inr rfl) ?_
        simp [retC, resC, viewC, mapO, armB, hb, p0, p1, p2, p3]


theorem isArm72 (a : Arm) : Pure Try.prog 72 [encArm a] (.bool (armB a)) := by
  have h1 := within79 a.un 1 100
  have h2 := within79 a.ud 1 100
  have h3 := within79 a.rn 1 100
  have h4 := within79 a.rd 1 100
  have h5 := within79 a.low 1 a.high
  refine pure_of (fn := Try.f72) [.tmp 2] ⟨Try.func72, rfl, by kernel_rfl⟩ (by kernel_rfl) (by kernel_rfl) (by kernel_rfl) fun x hx hσ => ?_
  repeat refine awp_seq ?_
  refine awp_reg1 (by rw [hx]; kernel_rfl) fun K hK => ?_
  simp (config := { maxSteps := 1000000 }) [ty69]
  refine hK _ ?_
  clear hK K
  first | show AWP _ _ _ _ _ | show ∃ _, _ | skip
  cases b1 : withinB a.un 1 100
  · rw [b1] at h1
    repeat refine awp_seq ?_
    refine awp_reg1 (by rw [hx]; kernel_rfl) fun K hK => ?_
    simp (config := { maxSteps := 1000000 }) [ty69, ty67, ty3]
    refine callP (h1) (by first | (simp; done) | (simp [*]; done)) ?_
    simp (config := { maxSteps := 1000000 }) [ty4]
    refine hK _ ?_
    clear hK K
    first | show AWP _ _ _ _ _ | show ∃ _, _ | skip
    repeat refine awp_seq ?_
    refine awp_ret ?_
    refine And.intro (Or.inr rfl) ?_
    simp [retC, resC, viewC, mapO, armB, b1]
  · rw [b1] at h1
    cases b2 : withinB a.ud 1 100
    · rw [b2] at h2
      repeat refine awp_seq ?_
      refine awp_reg1 (by rw [hx]; kernel_rfl) fun K hK => ?_
      simp (config := { maxSteps := 1000000 }) [ty69, ty67, ty3]
      refine callP (h1) (by first | (simp; done) | (simp [*]; done)) ?_
      simp (config := { maxSteps := 1000000 }) [ty4, ty69, ty67, ty3]
      refine callP (h2) (by first | (simp; done) | (simp [*]; done)) ?_
      simp (config := { maxSteps := 1000000 }) [ty4]
      refine hK _ ?_
      clear hK K
      first | show AWP _ _ _ _ _ | show ∃ _, _ | skip
      repeat refine awp_seq ?_
      refine awp_ret ?_
      refine And.intro (Or.inr rfl) ?_
      simp [retC, resC, viewC, mapO, armB, b1, b2]
    · rw [b2] at h2
      cases b3 : withinB a.rn 1 100
      · rw [b3] at h3
        repeat refine awp_seq ?_
        refine awp_reg1 (by rw [hx]; kernel_rfl) fun K hK => ?_
        simp (config := { maxSteps := 1000000 }) [ty69, ty67, ty3]
        refine callP (h1) (by first | (simp; done) | (simp [*]; done)) ?_
        simp (config := { maxSteps := 1000000 }) [ty4, ty69, ty67, ty3]
        refine callP (h2) (by first | (simp; done) | (simp [*]; done)) ?_
        simp (config := { maxSteps := 1000000 }) [ty4, ty69, ty67, ty3]
        refine callP (h3) (by first | (simp; done) | (simp [*]; done)) ?_
        simp (config := { maxSteps := 1000000 }) [ty4]
        refine hK _ ?_
        clear hK K
        first | show AWP _ _ _ _ _ | show ∃ _, _ | skip
        repeat refine awp_seq ?_
        refine awp_ret ?_
        refine And.intro (Or.inr rfl) ?_
        simp [retC, resC, viewC, mapO, armB, b1, b2, b3]
      · rw [b3] at h3
        cases b4 : withinB a.rd 1 100
        · rw [b4] at h4
          repeat refine awp_seq ?_
          refine awp_reg1 (by rw [hx]; kernel_rfl) fun K hK => ?_
          simp (config := { maxSteps := 1000000 }) [ty69, ty67, ty3]
          refine callP (h1) (by first | (simp; done) | (simp [*]; done)) ?_
          simp (config := { maxSteps := 1000000 }) [ty4, ty69, ty67, ty3]
          refine callP (h2) (by first | (simp; done) | (simp [*]; done)) ?_
          simp (config := { maxSteps := 1000000 }) [ty4, ty69, ty67, ty3]
          refine callP (h3) (by first | (simp; done) | (simp [*]; done)) ?_
          simp (config := { maxSteps := 1000000 }) [ty4, ty69, ty67, ty3]
          refine callP (h4) (by first | (simp; done) | (simp [*]; done)) ?_
          simp (config := { maxSteps := 1000000 }) [ty4]
          refine hK _ ?_
          clear hK K
          first | show AWP _ _ _ _ _ | show ∃ _, _ | skip
          repeat refine awp_seq ?_
          refine awp_ret ?_
          refine And.intro (Or.inr rfl) ?_
          simp [retC, resC, viewC, mapO, armB, b1, b2, b3, b4]
        · rw [b4] at h4
          cases b5 : withinB a.low 1 a.high
          · rw [b5] at h5
            repeat refine awp_seq ?_
            refine awp_reg1 (by rw [hx]; kernel_rfl) fun K hK => ?_
            simp (config := { maxSteps := 1000000 }) [ty69, ty67, ty3]
            refine callP (h1) (by first | (simp; done) | (simp [*]; done)) ?_
            simp (config := { maxSteps := 1000000 }) [ty4, ty69, ty67, ty3]
            refine callP (h2) (by first | (simp; done) | (simp [*]; done)) ?_
            simp (config := { maxSteps := 1000000 }) [ty4, ty69, ty67, ty3]
            refine callP (h3) (by first | (simp; done) | (simp [*]; done)) ?_
            simp (config := { maxSteps := 1000000 }) [ty4, ty69, ty67, ty3]
            refine callP (h4) (by first | (simp; done) | (simp [*]; done)) ?_
            simp (config := { maxSteps := 1000000 }) [ty4, ty69, ty67, ty3]
            refine callP (h5) (by first | (simp; done) | (simp [*]; done)) ?_
            simp (config := { maxSteps := 1000000 }) [ty4]
            refine hK _ ?_
            clear hK K
            first | show AWP _ _ _ _ _ | show ∃ _, _ | skip
            repeat refine awp_seq ?_
            refine awp_ret ?_
            refine And.intro (Or.inr rfl) ?_
            simp [retC, resC, viewC, mapO, armB, b1, b2, b3, b4, b5]
          · rw [b5] at h5
            repeat refine awp_seq ?_
            refine awp_reg1 (by rw [hx]; kernel_rfl) fun K hK => ?_
            simp (config := { maxSteps := 1000000 }) [ty69, ty67, ty3]
            refine callP (h1) (by first | (simp; done) | (simp [*]; done)) ?_
            simp (config := { maxSteps := 1000000 }) [ty4, ty69, ty67, ty3]
            refine callP (h2) (by first | (simp; done) | (simp [*]; done)) ?_
            simp (config := { maxSteps := 1000000 }) [ty4, ty69, ty67, ty3]
            refine callP (h3) (by first | (simp; done) | (simp [*]; done)) ?_
            simp (config := { maxSteps := 1000000 }) [ty4, ty69, ty67, ty3]
            refine callP (h4) (by first | (simp; done) | (simp [*]; done)) ?_
            simp (config := { maxSteps := 1000000 }) [ty4, ty69, ty67, ty3]
            refine callP (h5) (by first | (simp; done) | (simp [*]; done)) ?_
            simp (config := { maxSteps := 1000000 }) [ty4, ty69, ty3]
            refine hK _ ?_
            clear hK K
            first | show AWP _ _ _ _ _ | show ∃ _, _ | skip
            repeat refine awp_seq ?_
            refine awp_ret ?_
            refine And.intro (Or.inr rfl) ?_
            simp [retC, resC, viewC, mapO, armB, b1, b2, b3, b4, b5]

structure ArmOk (a : Arm) : Prop where
  un : 1 ≤ a.un ∧ a.un ≤ 100
  ud : 1 ≤ a.ud ∧ a.ud ≤ 100
  rn : 1 ≤ a.rn ∧ a.rn ≤ 100
  rd : 1 ≤ a.rd ∧ a.rd ≤ 100
  low : 1 ≤ a.low ∧ a.low ≤ a.high ∧ a.high ≤ 10000

theorem armB_ok {a : Arm} (h : armB a = true) : ArmOk a := by
  simp [armB, withinB] at h
  constructor <;> omega

theorem mul_in {a b A B : Int} (ha : 0 ≤ a ∧ a ≤ A) (hb : 0 ≤ b ∧ b ≤ B) : 0 ≤ a * b ∧ a * b ≤ A * B :=
  ⟨Int.mul_nonneg ha.1 hb.1, Int.mul_le_mul ha.2 hb.2 hb.1 (by omega)⟩

theorem val_bd {a : Arm} (h : ArmOk a) {s : Int} (hs : a.low ≤ s ∧ s ≤ a.high) : (0 ≤ s * a.un ∧ s * a.un ≤ 1000000) ∧ (0 ≤ s * a.un * a.rn ∧ s * a.un * a.rn ≤ 100000000) ∧ (0 < a.ud * a.rd ∧ a.ud * a.rd ≤ 10000) := by
  have h1 := h.un
  have h2 := h.ud
  have h3 := h.rn
  have h4 := h.rd
  have h5 := h.low
  have m1 := mul_in (a := s) (b := a.un) (A := 10000) (B := 100) (by omega) (by omega)
  have m2 := mul_in (a := s * a.un) (b := a.rn) (A := 1000000) (B := 100) (by omega) (by omega)
  have m3 := mul_in (a := a.ud) (b := a.rd) (A := 100) (B := 100) (by omega) (by omega)
  have m4 : 0 < a.ud * a.rd := Int.mul_pos (by omega) (by omega)
  omega

theorem setting84 (a : Arm) (s : Int) : Pure Try.prog 84 [encArm a, encI s] (.bool (withinB s a.low a.high)) := by
  refine pure_of (fn := Try.f84) [.tmp 4] ⟨Try.func84, rfl, by kernel_rfl⟩ (by kernel_rfl) (by kernel_rfl) (by kernel_rfl) fun x hx hσ => ?_
  repeat refine awp_seq ?_
  refine awp_reg1 (by rw [hx]; kernel_rfl) fun K hK => ?_
  simp (config := { maxSteps := 1000000 }) [ty69]
  refine hK _ ?_
  clear hK K
  first | show AWP _ _ _ _ _ | show ∃ _, _ | skip
  repeat refine awp_seq ?_
  refine awp_reg1 (by rw [hx]; kernel_rfl) fun K hK => ?_
  simp (config := { maxSteps := 1000000 }) [ty69, ty3]
  refine callP (within96 s a.low a.high) (by first | (simp; done) | (simp [*]; done)) ?_
  simp (config := { maxSteps := 1000000 }) []
  refine hK _ ?_
  clear hK K
  first | show AWP _ _ _ _ _ | show ∃ _, _ | skip
  repeat refine awp_seq ?_
  refine awp_ret ?_
  refine And.intro (Or.inr rfl) ?_
  simp [retC, resC, viewC, mapO]

theorem value86 (a : Arm) (s : Int) (h : ArmOk a) (hs : a.low ≤ s ∧ s ≤ a.high) : Pure Try.prog 86 [encArm a, encI s] (.tup [encI (s * a.un * a.rn), encI (a.ud * a.rd)]) := by
  obtain ⟨m1, m2, m3⟩ := val_bd h hs
  have w1 := wrap_id (z := s * a.un) (by omega) (by omega)
  have w2 := wrap_id (z := s * a.un * a.rn) (by omega) (by omega)
  have w3 := wrap_id (z := a.ud * a.rd) (by omega) (by omega)
  refine pure_of (fn := Try.f86) [.tmp 4, .tmp 5] ⟨Try.func86, rfl, by kernel_rfl⟩ (by kernel_rfl) (by kernel_rfl) (by kernel_rfl) fun x hx hσ => ?_
  repeat refine awp_seq ?_
  refine awp_reg1 (by rw [hx]; kernel_rfl) fun K hK => ?_
  simp (config := { maxSteps := 1000000 }) [ty69]
  refine hK _ ?_
  clear hK K
  first | show AWP _ _ _ _ _ | show ∃ _, _ | skip
  repeat refine awp_seq ?_
  refine awp_drw3 [] [0, 1, 2, 3, 4, 5, 6, 7, 8, 9, 10, 11, 12, 13, 14, 15, 16, 17] (by rw [hx]; kernel_rfl) (by kernel_rfl) (by kernel_rfl) (by kernel_rfl) fun K hK => ?_
  simp (config := { maxSteps := 1000000 }) [ty69, ty67, ty3, w1, w2, w3]
  refine hK _ ?_
  clear hK K
  first | show AWP _ _ _ _ _ | show ∃ _, _ | skip
  repeat refine awp_seq ?_
  refine awp_ret ?_
  refine And.intro (Or.inr rfl) ?_
  simp [retC, resC, viewC, mapO]

theorem valueOf91 (a : Arm) (s : Int) (h : ArmOk a) (hs : a.low ≤ s ∧ s ≤ a.high) : Pure Try.prog 91 [encArm a, encI s] (encR (s * a.un * a.rn, a.ud * a.rd)) := by
  obtain ⟨m1, m2, m3⟩ := val_bd h hs
  have w1 := wrap_id (z := s * a.un) (by omega) (by omega)
  have w2 := wrap_id (z := s * a.un * a.rn) (by omega) (by omega)
  have w3 := wrap_id (z := a.ud * a.rd) (by omega) (by omega)
  refine pure_of (fn := Try.f91) [.cell 4 67] ⟨Try.func91, rfl, by kernel_rfl⟩ (by kernel_rfl) (by kernel_rfl) (by kernel_rfl) fun x hx hσ => ?_
  repeat refine awp_seq ?_
  refine awp_reg1 (by rw [hx]; kernel_rfl) fun K hK => ?_
  simp (config := { maxSteps := 1000000 }) [ty69, ty67]
  refine hK _ ?_
  clear hK K
  first | show AWP _ _ _ _ _ | show ∃ _, _ | skip
  repeat refine awp_seq ?_
  refine awp_reg1 (by rw [hx]; kernel_rfl) fun K hK => ?_
  simp (config := { maxSteps := 1000000 }) [ty69, ty67, ty3, w1, w2, w3]
  refine hK _ ?_
  clear hK K
  first | show AWP _ _ _ _ _ | show ∃ _, _ | skip
  repeat refine awp_seq ?_
  refine awp_ret ?_
  refine And.intro (Or.inr rfl) ?_
  simp [retC, resC, viewC, mapO, ty67]

end Go.Proofs.Ytmmoghgpaagnhaa

namespace Go.Proofs.Ytmmoghgpaagnhaa
open Go Go.Abs

set_option maxHeartbeats 4000000

theorem ready19 (w : Wh) (nl fu : Bool) (l : List Wl) : ∃ b, Pure Try.prog 19 [encWh w, sWl nl fu l] (.bool b) ∧ (b = true → checkI w l = 0 ∧ Near w l) := by
  obtain ⟨f, hF, hf⟩ := far12 w nl fu l
  cases f
  · obtain ⟨h40, hnear⟩ := hf rfl
    by_cases hz : checkI w l = 0
    · refine ⟨true, ?_, fun _ => ⟨hz, hnear hz⟩⟩
      refine pure_of (fn := Try.f19) [.tmp 4] ⟨Try.func19, rfl, by kernel_rfl⟩ (by kernel_rfl) (by kernel_rfl) (by kernel_rfl) fun x hx hσ => ?_
      repeat refine awp_seq ?_
      refine awp_reg1 (by rw [hx]; kernel_rfl) fun K hK => ?_
      simp (config := { maxSteps := 1000000 }) [ty25]
      refine hK _ ?_
      clear hK K
      first | show AWP _ _ _ _ _ | show ∃ _, _ | skip
      repeat refine awp_seq ?_
      refine awp_reg1 (by rw [hx]; kernel_rfl) fun K hK => ?_
      simp (config := { maxSteps := 1000000 }) [ty25]
      refine callP (hF) (by first | (simp; done) | (simp [*]; done)) ?_
      simp (config := { maxSteps := 1000000 }) [ty4, ty25]
      refine callP (ref31 w nl fu l (by omega)) (by first | (simp; done) | (simp [*]; done)) ?_
      simp (config := { maxSteps := 1000000 }) [ty31, hz, ty4]
      refine hK _ ?_
      clear hK K
      first | show AWP _ _ _ _ _ | show ∃ _, _ | skip
      repeat refine awp_seq ?_
      refine awp_ret ?_
      refine And.intro (Or.inr rfl) ?_
      simp [retC, resC, viewC, mapO]
    · refine ⟨false, ?_, by simp⟩
      have hz' : (checkI w l == 0) = false := by simp [hz]
      refine pure_of (fn := Try.f19) [.tmp 4] ⟨Try.func19, rfl, by kernel_rfl⟩ (by kernel_rfl) (by kernel_rfl) (by kernel_rfl) fun x hx hσ => ?_
      repeat refine awp_seq ?_
      refine awp_reg1 (by rw [hx]; kernel_rfl) fun K hK => ?_
      simp (config := { maxSteps := 1000000 }) [ty25]
      refine hK _ ?_
      clear hK K
      first | show AWP _ _ _ _ _ | show ∃ _, _ | skip
      repeat refine awp_seq ?_
      refine awp_reg1 (by rw [hx]; kernel_rfl) fun K hK => ?_
      simp (config := { maxSteps := 1000000 }) [ty25]
      refine callP (hF) (by first | (simp; done) | (simp [*]; done)) ?_
      simp (config := { maxSteps := 1000000 }) [ty4, ty25]
      refine callP (ref31 w nl fu l (by omega)) (by first | (simp; done) | (simp [*]; done)) ?_
      simp (config := { maxSteps := 1000000 }) [ty31, ty4]
      refine hK _ ?_
      clear hK K
      first | show AWP _ _ _ _ _ | show ∃ _, _ | skip
      repeat refine awp_seq ?_
      refine awp_ret ?_
      refine And.intro (Or.inr rfl) ?_
      simp [retC, resC, viewC, mapO, hz']
  · refine ⟨false, ?_, by simp⟩
    refine pure_of (fn := Try.f19) [.tmp 4] ⟨Try.func19, rfl, by kernel_rfl⟩ (by kernel_rfl) (by kernel_rfl) (by kernel_rfl) fun x hx hσ => ?_
    repeat refine awp_seq ?_
    refine awp_reg1 (by rw [hx]; kernel_rfl) fun K hK => ?_
    simp (config := { maxSteps := 1000000 }) [ty25]
    refine hK _ ?_
    clear hK K
    first | show AWP _ _ _ _ _ | show ∃ _, _ | skip
    repeat refine awp_seq ?_
    refine awp_reg1 (by rw [hx]; kernel_rfl) fun K hK => ?_
    simp (config := { maxSteps := 1000000 }) [ty25]
    refine callP (hF) (by first | (simp; done) | (simp [*]; done)) ?_
    simp (config := { maxSteps := 1000000 }) [ty4, ty25]
    refine hK _ ?_
    clear hK K
    first | show AWP _ _ _ _ _ | show ∃ _, _ | skip
    repeat refine awp_seq ?_
    refine awp_ret ?_
    refine And.intro (Or.inr rfl) ?_
    simp [retC, resC, viewC, mapO]

theorem law3 (w : Wh) (nl fu : Bool) (l : List Wl) (a b : Int) : Pure Try.prog 3 [encWh w, sWl nl fu l, .agg [encI a, encI b]] (.bool true) := by
  obtain ⟨f, hF, hf⟩ := far12 w nl fu l
  refine pure_of (fn := Try.f3) [.tmp 6] ⟨Try.func3, rfl, by kernel_rfl⟩ (by kernel_rfl) (by kernel_rfl) (by kernel_rfl) fun x hx hσ => ?_
  repeat refine awp_seq ?_
  refine awp_reg1 (by rw [hx]; kernel_rfl) fun K hK => ?_
  simp (config := { maxSteps := 1000000 }) [ty25, ty28]
  refine hK _ ?_
  clear hK K
  first | show AWP _ _ _ _ _ | show ∃ _, _ | skip
  repeat refine awp_seq ?_
  refine awp_reg1 (by rw [hx]; kernel_rfl) fun K hK => ?_
  simp (config := { maxSteps := 1000000 }) [ty25]
  refine callP (hF) (by first | (simp; done) | (simp [*]; done)) ?_
  simp (config := { maxSteps := 1000000 }) [ty4]
  refine hK _ ?_
  clear hK K
  first | show AWP _ _ _ _ _ | show ∃ _, _ | skip
  cases f
  · repeat refine awp_seq ?_
    refine awp_cond (by simp; rfl) (by rw [hx]; simp) (fun hd => ?_) (fun hd => ?_)
    · simp at hd
    · clear hd
      obtain ⟨h40, _⟩ := hf rfl
      refine awp_skip ?_
      first | show AWP _ _ _ _ _ | show ∃ _, _ | skip
      repeat refine awp_seq ?_
      refine awp_reg1 (by rw [hx]; kernel_rfl) fun K hK => ?_
      simp (config := { maxSteps := 1000000 }) [ty26, ty39]
      refine ⟨by omega, ?_⟩
      refine hK _ ?_
      clear hK K
      first | show AWP _ _ _ _ _ | show ∃ _, _ | skip
      refine AWP.weak ?_ (wk_frz 7 24 (c := sWl false false l) (o := ⟨l.isEmpty, true, 5, l.map cWl⟩) (by simp) (by simp [purel, C.isPure]) (by
        have := fz_own (k := 24) (sz := 5) (n := l.length) (b := false) (o := ⟨l.isEmpty, true, 5, l.map cWl⟩) rfl (by simp) (by simp)
        simpa using this))
      repeat refine awp_seq ?_
      refine awp_reg1 (by rw [hx]; kernel_rfl) fun K hK => ?_
      simp (config := { maxSteps := 1000000 }) [ty25, ty28, ty3]
      refine callP (worst14 w false false l a b (by omega)) (by first | (simp; done) | (simp [*]; done)) ?_
      simp (config := { maxSteps := 1000000 }) [ty3, ty31]
      refine hK _ ?_
      clear hK K
      first | show AWP _ _ _ _ _ | show ∃ _, _ | skip
      repeat refine awp_seq ?_
      refine awp_reg1 (by rw [hx]; kernel_rfl) fun K hK => ?_
      simp (config := { maxSteps := 1000000 }) [ty25, ty28, ty3]
      refine callP (ref15 w nl fu l a b (by omega)) (by first | (simp; done) | (simp [*]; done)) ?_
      simp (config := { maxSteps := 1000000 }) [ty3, ty31]
      refine hK _ ?_
      clear hK K
      first | show AWP _ _ _ _ _ | show ∃ _, _ | skip
      repeat refine awp_seq ?_
      refine awp_reg1 (by rw [hx]; kernel_rfl) fun K hK => ?_
      simp (config := { maxSteps := 1000000 }) [ty25]
      refine callP (next16 w false false l (by omega)) (by first | (simp; done) | (simp [*]; done)) ?_
      simp (config := { maxSteps := 1000000 }) [ty3, ty31]
      refine hK _ ?_
      clear hK K
      first | show AWP _ _ _ _ _ | show ∃ _, _ | skip
      repeat refine awp_seq ?_
      refine awp_reg1 (by rw [hx]; kernel_rfl) fun K hK => ?_
      simp (config := { maxSteps := 1000000 }) [ty25]
      refine callP (ref17 w nl fu l (by omega)) (by first | (simp; done) | (simp [*]; done)) ?_
      simp (config := { maxSteps := 1000000 }) [ty3, ty31]
      refine hK _ ?_
      clear hK K
      first | show AWP _ _ _ _ _ | show ∃ _, _ | skip
      repeat refine awp_seq ?_
      refine awp_reg1 (by rw [hx]; kernel_rfl) fun K hK => ?_
      simp (config := { maxSteps := 1000000 }) [ty3, ty31, ty4]
      refine callP (walks18 false false nl fu l (by omega)) (by first | (simp; done) | (simp [*]; done)) ?_
      simp (config := { maxSteps := 1000000 }) [ty4]
      refine callP (works13) (by first | (simp; done) | (simp [*]; done)) ?_
      simp (config := { maxSteps := 1000000 }) [ty4]
      refine hK _ ?_
      clear hK K
      first | show AWP _ _ _ _ _ | show ∃ _, _ | skip
      repeat refine awp_seq ?_
      refine awp_ret ?_
      refine And.intro (Or.inr rfl) ?_
      simp [retC, resC, viewC, mapO]
  · repeat refine awp_seq ?_
    refine awp_cond (by simp; rfl) (by rw [hx]; simp) (fun hd => ?_) (fun hd => ?_)
    · clear hd
      repeat refine awp_seq ?_
      refine awp_reg1 (by rw [hx]; kernel_rfl) fun K hK => ?_
      simp (config := { maxSteps := 1000000 }) []
      refine callP (works13) (by first | (simp; done) | (simp [*]; done)) ?_
      simp (config := { maxSteps := 1000000 }) []
      refine hK _ ?_
      clear hK K
      first | show AWP _ _ _ _ _ | show ∃ _, _ | skip
      repeat refine awp_seq ?_
      refine awp_ret ?_
      refine And.intro (Or.inr rfl) ?_
      simp [retC, resC, viewC, mapO]
    · simp at hd

end Go.Proofs.Ytmmoghgpaagnhaa

namespace Go.Proofs.Ytmmoghgpaagnhaa
open Go Go.Abs

set_option maxHeartbeats 4000000

theorem within_iff {s lo hi : Int} (h : withinB s lo hi = true) : lo ≤ s ∧ s ≤ hi := by simpa [withinB] using h

theorem valA73 (a : Arm) (s : Int) : Pure Try.prog 73 [encArm a, encI s] (.tup [encR (valI a s).1, encI (valI a s).2]) := by
  refine pure_of (fn := Try.f73) [.cell 4 67, .tmp 5] ⟨Try.func73, rfl, by kernel_rfl⟩ (by kernel_rfl) (by kernel_rfl) (by kernel_rfl) fun x hx hσ => ?_
  repeat refine awp_seq ?_
  refine awp_reg1 (by rw [hx]; kernel_rfl) fun K hK => ?_
  simp (config := { maxSteps := 1000000 }) [ty69, ty67]
  refine hK _ ?_
  clear hK K
  first | show AWP _ _ _ _ _ | show ∃ _, _ | skip
  repeat refine awp_seq ?_
  refine awp_reg1 (by rw [hx]; kernel_rfl) fun K hK => ?_
  simp (config := { maxSteps := 1000000 }) [ty69]
  refine callP (isArm83 a) (by first | (simp; done) | (simp [*]; done)) ?_
  simp (config := { maxSteps := 1000000 }) [ty4]
  refine hK _ ?_
  clear hK K
  first | show AWP _ _ _ _ _ | show ∃ _, _ | skip
  cases hb : armB a
  · have hv : valI a s = ((0, 0), 11) := by unfold valI; rw [if_pos hb]
    repeat refine awp_seq ?_
    refine awp_cond (by simp [hb]; rfl) (by rw [hx]; simp) (fun hd => ?_) (fun hd => ?_)
    · clear hd
      repeat refine awp_seq ?_
      refine awp_reg1 (by rw [hx]; kernel_rfl) fun K hK => ?_
      simp (config := { maxSteps := 1000000 }) [ty67]
      refine hK _ ?_
      clear hK K
      first | show AWP _ _ _ _ _ | show ∃ _, _ | skip
      repeat refine awp_seq ?_
      refine awp_ret ?_
      refine And.intro (Or.inr rfl) ?_
      simp [retC, resC, viewC, mapO, ty67, hv]
    · simp at hd
  · have hok := armB_ok hb
    repeat refine awp_seq ?_
    refine awp_cond (by simp [hb]; rfl) (by rw [hx]; simp) (fun hd => ?_) (fun hd => ?_)
    · simp at hd
    · clear hd
      refine awp_skip ?_
      first | show AWP _ _ _ _ _ | show ∃ _, _ | skip
      repeat refine awp_seq ?_
      refine awp_reg1 (by rw [hx]; kernel_rfl) fun K hK => ?_
      simp (config := { maxSteps := 1000000 }) [ty69]
      refine callP (setting84 a s) (by first | (simp; done) | (simp [*]; done)) ?_
      simp (config := { maxSteps := 1000000 }) [ty4]
      refine hK _ ?_
      clear hK K
      first | show AWP _ _ _ _ _ | show ∃ _, _ | skip
      cases hc : withinB s a.low a.high
      · have hv : valI a s = ((0, 0), 1) := by unfold valI; rw [if_neg (by rw [hb]; simp), if_pos hc]
        repeat refine awp_seq ?_
        refine awp_cond (by simp [hc]; rfl) (by rw [hx]; simp) (fun hd => ?_) (fun hd => ?_)
        · clear hd
          repeat refine awp_seq ?_
          refine awp_reg1 (by rw [hx]; kernel_rfl) fun K hK => ?_
          simp (config := { maxSteps := 1000000 }) [ty67]
          refine hK _ ?_
          clear hK K
          first | show AWP _ _ _ _ _ | show ∃ _, _ | skip
          repeat refine awp_seq ?_
          refine awp_ret ?_
          refine And.intro (Or.inr rfl) ?_
          simp [retC, resC, viewC, mapO, ty67, hv]
        · simp at hd
      · have hv : valI a s = toldI (s * a.un * a.rn) (a.ud * a.rd) := by unfold valI; rw [if_neg (by rw [hb]; simp), if_neg (by rw [hc]; simp)]
        have hs := within_iff hc
        obtain ⟨m1, m2, m3⟩ := val_bd hok hs
        repeat refine awp_seq ?_
        refine awp_cond (by simp [hc]; rfl) (by rw [hx]; simp) (fun hd => ?_) (fun hd => ?_)
        · simp at hd
        · clear hd
          refine awp_skip ?_
          first | show AWP _ _ _ _ _ | show ∃ _, _ | skip
          repeat refine awp_seq ?_
          refine awp_reg1 (by rw [hx]; kernel_rfl) fun K hK => ?_
          simp (config := { maxSteps := 1000000 }) [ty69]
          refine callP (value86 a s hok hs) (by first | (simp; done) | (simp [*]; done)) ?_
          simp (config := { maxSteps := 1000000 }) [ty3]
          refine callP (told85 (s * a.un * a.rn) (a.ud * a.rd) (by omega) (by omega)) (by first | (simp; done) | (simp [*]; done)) ?_
          simp (config := { maxSteps := 1000000 }) [ty67, ty31]
          refine hK _ ?_
          clear hK K
          first | show AWP _ _ _ _ _ | show ∃ _, _ | skip
          repeat refine awp_seq ?_
          refine awp_ret ?_
          refine And.intro (Or.inr rfl) ?_
          simp [retC, resC, viewC, mapO, ty67, hv]

theorem check89 (a : Arm) (b : Bool) : Pure Try.prog 89 [encArm a, encR (1, 1), .bool b] (encI (if armB a = false then 11 else if b = false then 1 else 0)) := by
  have hr := ratio92 (1, 1)
  rw [show ratioB (1, 1) = true by decide] at hr
  refine pure_of (fn := Try.f89) [.tmp 6] ⟨Try.func89, rfl, by kernel_rfl⟩ (by kernel_rfl) (by kernel_rfl) (by kernel_rfl) fun x hx hσ => ?_
  repeat refine awp_seq ?_
  refine awp_reg1 (by rw [hx]; kernel_rfl) fun K hK => ?_
  simp (config := { maxSteps := 1000000 }) [ty69, ty67]
  refine hK _ ?_
  clear hK K
  first | show AWP _ _ _ _ _ | show ∃ _, _ | skip
  repeat refine awp_seq ?_
  refine awp_block ?_
  repeat refine awp_seq ?_
  refine awp_reg1 (by rw [hx]; kernel_rfl) fun K hK => ?_
  simp (config := { maxSteps := 1000000 }) [ty69]
  refine callP (isArm72 a) (by first | (simp; done) | (simp [*]; done)) ?_
  simp (config := { maxSteps := 1000000 }) [ty4]
  refine hK _ ?_
  clear hK K
  first | show AWP _ _ _ _ _ | show ∃ _, _ | skip
  cases hb : armB a
  · repeat refine awp_seq ?_
    refine awp_cond (by simp [hb]; rfl) (by rw [hx]; simp) (fun hd => ?_) (fun hd => ?_)
    · clear hd
      repeat refine awp_seq ?_
      refine awp_reg1 (by rw [hx]; kernel_rfl) fun K hK => ?_
      simp (config := { maxSteps := 1000000 }) []
      refine hK _ ?_
      clear hK K
      first | show AWP _ _ _ _ _ | show ∃ _, _ | skip
      repeat refine awp_seq ?_
      refine awp_ret ?_
      refine And.intro (Or.inr rfl) ?_
      simp [retC, resC, viewC, mapO]
    · simp at hd
  · repeat refine awp_seq ?_
    refine awp_cond (by simp [hb]; rfl) (by rw [hx]; simp) (fun hd => ?_) (fun hd => ?_)
    · simp at hd
    · clear hd
      repeat refine awp_seq ?_
      refine awp_reg1 (by rw [hx]; kernel_rfl) fun K hK => ?_
      simp (config := { maxSteps := 1000000 }) [ty67]
      refine callP (hr) (by first | (simp; done) | (simp [*]; done)) ?_
      simp (config := { maxSteps := 1000000 }) [ty4]
      refine hK _ ?_
      clear hK K
      first | show AWP _ _ _ _ _ | show ∃ _, _ | skip
      repeat refine awp_seq ?_
      refine awp_cond (by simp; rfl) (by rw [hx]; simp) (fun hd => ?_) (fun hd => ?_)
      · simp at hd
      · clear hd
        cases b
        · repeat refine awp_seq ?_
          refine awp_reg1 (by rw [hx]; kernel_rfl) fun K hK => ?_
          simp (config := { maxSteps := 1000000 }) [ty4]
          refine hK _ ?_
          clear hK K
          first | show AWP _ _ _ _ _ | show ∃ _, _ | skip
          repeat refine awp_seq ?_
          refine awp_cond (by simp; rfl) (by rw [hx]; simp) (fun hd => ?_) (fun hd => ?_)
          · clear hd
            repeat refine awp_seq ?_
            refine awp_reg1 (by rw [hx]; kernel_rfl) fun K hK => ?_
            simp (config := { maxSteps := 1000000 }) []
            refine hK _ ?_
            clear hK K
            first | show AWP _ _ _ _ _ | show ∃ _, _ | skip
            repeat refine awp_seq ?_
            refine awp_ret ?_
            refine And.intro (Or.inr rfl) ?_
            simp [retC, resC, viewC, mapO]
          · simp at hd
        · repeat refine awp_seq ?_
          refine awp_reg1 (by rw [hx]; kernel_rfl) fun K hK => ?_
          simp (config := { maxSteps := 1000000 }) [ty4, ty67, ty3]
          refine hK _ ?_
          clear hK K
          first | show AWP _ _ _ _ _ | show ∃ _, _ | skip
          repeat refine awp_seq ?_
          refine awp_cond (by simp; rfl) (by rw [hx]; simp) (fun hd => ?_) (fun hd => ?_)
          · simp at hd
          · clear hd
            refine awp_skip ?_
            first | show AWP _ _ _ _ _ | show ∃ _, _ | skip
            repeat refine awp_seq ?_
            refine awp_reg1 (by rw [hx]; kernel_rfl) fun K hK => ?_
            simp (config := { maxSteps := 1000000 }) []
            refine hK _ ?_
            clear hK K
            first | show AWP _ _ _ _ _ | show ∃ _, _ | skip
            repeat refine awp_seq ?_
            refine awp_ret ?_
            refine And.intro (Or.inr rfl) ?_
            simp [retC, resC, viewC, mapO]

theorem valA75 (a : Arm) (s : Int) : Pure Try.prog 75 [encArm a, encI s] (.tup [encR (valI a s).1, encI (valI a s).2]) := by
  have hc9 := check89 a (withinB s a.low a.high)
  refine pure_of (fn := Try.f75) [.cell 4 67, .tmp 5] ⟨Try.func75, rfl, by kernel_rfl⟩ (by kernel_rfl) (by kernel_rfl) (by kernel_rfl) fun x hx hσ => ?_
  repeat refine awp_seq ?_
  refine awp_reg1 (by rw [hx]; kernel_rfl) fun K hK => ?_
  simp (config := { maxSteps := 1000000 }) [ty69, ty67]
  refine hK _ ?_
  clear hK K
  first | show AWP _ _ _ _ _ | show ∃ _, _ | skip
  repeat refine awp_seq ?_
  refine awp_drw3 [] [0, 1, 2, 3, 4, 5, 6, 7, 8, 9] (by rw [hx]; kernel_rfl) (by kernel_rfl) (by kernel_rfl) (by kernel_rfl) fun K hK => ?_
  simp (config := { maxSteps := 1000000 }) [ty69, ty67, ty3]
  refine callPD (within79 s a.low a.high) (by first | (simp; done) | (simp [*]; done)) (by simp) ?_
  simp (config := { maxSteps := 1000000 }) [ty4, ty31]
  refine callPD (hc9) (by first | (simp; done) | (simp [*]; done)) (by simp) ?_
  simp (config := { maxSteps := 1000000 }) [ty31]
  refine hK _ ?_
  clear hK K
  first | show AWP _ _ _ _ _ | show ∃ _, _ | skip
  repeat refine awp_seq ?_
  refine awp_reg1 (by rw [hx]; kernel_rfl) fun K hK => ?_
  simp (config := { maxSteps := 1000000 }) [ty31]
  refine hK _ ?_
  clear hK K
  first | show AWP _ _ _ _ _ | show ∃ _, _ | skip
  cases hb : armB a
  · have hv : valI a s = ((0, 0), 11) := by unfold valI; rw [if_pos hb]
    repeat refine awp_seq ?_
    refine awp_cond (by simp [hb]; rfl) (by rw [hx]; simp) (fun hd => ?_) (fun hd => ?_)
    · clear hd
      repeat refine awp_seq ?_
      refine awp_reg1 (by rw [hx]; kernel_rfl) fun K hK => ?_
      simp (config := { maxSteps := 1000000 }) [ty67]
      refine hK _ ?_
      clear hK K
      first | show AWP _ _ _ _ _ | show ∃ _, _ | skip
      repeat refine awp_seq ?_
      refine awp_ret ?_
      refine And.intro (Or.inr rfl) ?_
      simp [retC, resC, viewC, mapO, ty67, hv, hb]
    · simp [hb] at hd
  · have hok := armB_ok hb
    cases hc : withinB s a.low a.high
    · have hv : valI a s = ((0, 0), 1) := by unfold valI; rw [if_neg (by rw [hb]; simp), if_pos hc]
      repeat refine awp_seq ?_
      refine awp_cond (by simp [hb, hc]; rfl) (by rw [hx]; simp) (fun hd => ?_) (fun hd => ?_)
      · clear hd
        repeat refine awp_seq ?_
        refine awp_reg1 (by rw [hx]; kernel_rfl) fun K hK => ?_
        simp (config := { maxSteps := 1000000 }) [ty67]
        refine hK _ ?_
        clear hK K
        first | show AWP _ _ _ _ _ | show ∃ _, _ | skip
        repeat refine awp_seq ?_
        refine awp_ret ?_
        refine And.intro (Or.inr rfl) ?_
        simp [retC, resC, viewC, mapO, ty67, hv, hb, hc]
      · simp [hb, hc] at hd
    · have hv : valI a s = toldI (s * a.un * a.rn) (a.ud * a.rd) := by unfold valI; rw [if_neg (by rw [hb]; simp), if_neg (by rw [hc]; simp)]
      have hs := within_iff hc
      obtain ⟨m1, m2, m3⟩ := val_bd hok hs
      repeat refine awp_seq ?_
      refine awp_cond (by simp [hb, hc]; rfl) (by rw [hx]; simp) (fun hd => ?_) (fun hd => ?_)
      · simp [hb, hc] at hd
      · clear hd
        refine awp_skip ?_
        first | show AWP _ _ _ _ _ | show ∃ _, _ | skip
        repeat refine awp_seq ?_
        refine awp_reg1 (by rw [hx]; kernel_rfl) fun K hK => ?_
        simp (config := { maxSteps := 1000000 }) [ty69]
        refine callP (valueOf91 a s hok hs) (by first | (simp; done) | (simp [*]; done)) ?_
        simp (config := { maxSteps := 1000000 }) [ty67]
        refine callP (result90 (s * a.un * a.rn) (a.ud * a.rd) (by omega) (by omega)) (by first | (simp; done) | (simp [*]; done)) ?_
        simp (config := { maxSteps := 1000000 }) [ty67, ty31]
        refine hK _ ?_
        clear hK K
        first | show AWP _ _ _ _ _ | show ∃ _, _ | skip
        repeat refine awp_seq ?_
        refine awp_ret ?_
        refine And.intro (Or.inr rfl) ?_
        simp [retC, resC, viewC, mapO, ty67, hv]

theorem ratios99 (nl fu : Bool) (r s : Int × Int) : Pure Try.prog 99 [.sl nl fu [[encI r.1, encI r.2], [encI s.1, encI s.2]]] (.bool (ratioB r && ratioB s)) := by
  have h1 := ratio98 r
  have h2 := ratio98 s
  refine pure_of (fn := Try.f99) [.tmp 2] ⟨Try.func99, rfl, by kernel_rfl⟩ (by kernel_rfl) (by kernel_rfl) (by kernel_rfl) fun x hx hσ => ?_
  repeat refine awp_seq ?_
  refine awp_reg1 (by rw [hx]; kernel_rfl) fun K hK => ?_
  simp (config := { maxSteps := 1000000 }) []
  refine hK _ ?_
  clear hK K
  first | show AWP _ _ _ _ _ | show ∃ _, _ | skip
  repeat refine awp_seq ?_
  refine awp_reg1 (by rw [hx]; kernel_rfl) fun K hK => ?_
  simp (config := { maxSteps := 1000000 }) [ty138]
  refine hK _ ?_
  clear hK K
  first | show AWP _ _ _ _ _ | show ∃ _, _ | skip
  repeat refine awp_seq ?_
  refine awp_block ?_
  refine awp_loop (fun i : Nat => ⟨ofL [(5, .sl nl fu [[encI r.1, encI r.2], [encI s.1, encI s.2]]), (6, encI 2), (7, encI i)], stoT []⟩)
    (fun i => i ≤ 2 ∧ (1 ≤ i → ratioB r = true) ∧ (2 ≤ i → ratioB s = true)) (fun i => 2 - i) 0 ⟨Nat.zero_le _, by omega, by omega⟩ ?_ ?_
  · refine wk_shape (shp0 hσ (by simp) (by simp) ?_) ?_
    · simp [SlotOk] <;> (repeat' (first | exact .same (by simp [purel, C.isPure]) | exact .cons (by simp [mtl, mtc, mT, mH, C.isPure, purel]) (by simp) .nil | refine And.intro ?_ ?_))
    · simp [mtc, mtl, mT, C.isPure, purel] <;> (try simp (disch := omega) [wrap_id]) <;> (try omega)
  · rintro i ⟨hi, q1, q2⟩
    repeat refine awp_seq ?_
    refine awp_reg1 (by rw [hx]; kernel_rfl) fun K hK => ?_
    simp (config := { maxSteps := 1000000 }) [ty3]
    refine hK _ ?_
    clear hK K
    first | show AWP _ _ _ _ _ | show ∃ _, _ | skip
    repeat refine awp_seq ?_
    refine awp_cond (by simp; rfl) (by rw [hx]; simp) (fun hc => ?_) (fun hc => ?_)
    · simp at hc
      refine awp_skip ?_
      first | show AWP _ _ _ _ _ | show ∃ _, _ | skip
      repeat refine awp_seq ?_
      refine awp_block ?_
      have hi2 : i = 0 ∨ i = 1 := by omega
      rcases hi2 with rfl | rfl
      · repeat refine awp_seq ?_
        refine awp_reg1 (by rw [hx]; kernel_rfl) fun K hK => ?_
        simp (config := { maxSteps := 1000000 }) [ty138, ty67]
        refine hK _ ?_
        clear hK K
        first | show AWP _ _ _ _ _ | show ∃ _, _ | skip
        repeat refine awp_seq ?_
        refine awp_reg1 (by rw [hx]; kernel_rfl) fun K hK => ?_
        simp (config := { maxSteps := 1000000 }) [ty67]
        refine callP (h1) (by first | (simp; done) | (simp [*]; done)) ?_
        simp (config := { maxSteps := 1000000 }) [ty4]
        refine hK _ ?_
        clear hK K
        first | show AWP _ _ _ _ _ | show ∃ _, _ | skip
        cases hb : ratioB r
        · repeat refine awp_seq ?_
          refine awp_cond (by simp [hb]; rfl) (by rw [hx]; simp) (fun hd => ?_) (fun hd => ?_)
          · clear hd
            repeat refine awp_seq ?_
            refine awp_reg1 (by rw [hx]; kernel_rfl) fun K hK => ?_
            simp (config := { maxSteps := 1000000 }) []
            refine hK _ ?_
            clear hK K
            first | show AWP _ _ _ _ _ | show ∃ _, _ | skip
            repeat refine awp_seq ?_
            refine awp_ret ?_
            refine And.intro (Or.inr rfl) ?_
            simp [retC, resC, viewC, mapO]
          · simp at hd
        · repeat refine awp_seq ?_
          refine awp_cond (by simp [hb]; rfl) (by rw [hx]; simp) (fun hd => ?_) (fun hd => ?_)
          · simp at hd
          · clear hd
            refine awp_skip ?_
            first | show AWP _ _ _ _ _ | show ∃ _, _ | skip
            repeat refine awp_seq ?_
            refine awp_reg1 (by rw [hx]; kernel_rfl) fun K hK => ?_
            simp (config := { maxSteps := 1000000 }) [ty3]
            refine hK _ ?_
            clear hK K
            first | show AWP _ _ _ _ _ | show ∃ _, _ | skip
            refine ⟨1, ⟨by omega, fun _ => by first | exact hb | rfl, by omega⟩, by omega, ?_⟩
            refine wk_shape (shp0 hσ (by simp) (by simp) ?_) ?_
            · simp [SlotOk] <;> (repeat' (first | exact .same (by simp [purel, C.isPure]) | exact .cons (by simp [mtl, mtc, mT, mH, C.isPure, purel]) (by simp) .nil | refine And.intro ?_ ?_))
            · simp [mtc, mtl, mT, C.isPure, purel] <;> (try simp (disch := omega) [wrap_id]) <;> (try omega)
      · have q1' := q1 (by omega)
        repeat refine awp_seq ?_
        refine awp_reg1 (by rw [hx]; kernel_rfl) fun K hK => ?_
        simp (config := { maxSteps := 1000000 }) [ty138, ty67]
        refine hK _ ?_
        clear hK K
        first | show AWP _ _ _ _ _ | show ∃ _, _ | skip
        repeat refine awp_seq ?_
        refine awp_reg1 (by rw [hx]; kernel_rfl) fun K hK => ?_
        simp (config := { maxSteps := 1000000 }) [ty67]
        refine callP (h2) (by first | (simp; done) | (simp [*]; done)) ?_
        simp (config := { maxSteps := 1000000 }) [ty4]
        refine hK _ ?_
        clear hK K
        first | show AWP _ _ _ _ _ | show ∃ _, _ | skip
        cases hb : ratioB s
        · repeat refine awp_seq ?_
          refine awp_cond (by simp [hb]; rfl) (by rw [hx]; simp) (fun hd => ?_) (fun hd => ?_)
          · clear hd
            repeat refine awp_seq ?_
            refine awp_reg1 (by rw [hx]; kernel_rfl) fun K hK => ?_
            simp (config := { maxSteps := 1000000 }) []
            refine hK _ ?_
            clear hK K
            first | show AWP _ _ _ _ _ | show ∃ _, _ | skip
            repeat refine awp_seq ?_
            refine awp_ret ?_
            refine And.intro (Or.inr rfl) ?_
            simp [retC, resC, viewC, mapO]
          · simp at hd
        · repeat refine awp_seq ?_
          refine awp_cond (by simp [hb]; rfl) (by rw [hx]; simp) (fun hd => ?_) (fun hd => ?_)
          · simp at hd
          · clear hd
            refine awp_skip ?_
            first | show AWP _ _ _ _ _ | show ∃ _, _ | skip
            repeat refine awp_seq ?_
            refine awp_reg1 (by rw [hx]; kernel_rfl) fun K hK => ?_
            simp (config := { maxSteps := 1000000 }) [ty3]
            refine hK _ ?_
            clear hK K
            first | show AWP _ _ _ _ _ | show ∃ _, _ | skip
            refine ⟨2, ⟨by omega, fun _ => q1', fun _ => by first | exact hb | rfl⟩, by omega, ?_⟩
            refine wk_shape (shp0 hσ (by simp) (by simp) ?_) ?_
            · simp [SlotOk] <;> (repeat' (first | exact .same (by simp [purel, C.isPure]) | exact .cons (by simp [mtl, mtc, mT, mH, C.isPure, purel]) (by simp) .nil | refine And.intro ?_ ?_))
            · simp [mtc, mtl, mT, C.isPure, purel] <;> (try simp (disch := omega) [wrap_id]) <;> (try omega)
    · simp at hc
      repeat refine awp_seq ?_
      refine awp_exit ?_
      first | show AWP _ _ _ _ _ | show ∃ _, _ | skip
      have e1 := q1 (by omega)
      have e2 := q2 (by omega)
      repeat refine awp_seq ?_
      refine awp_reg1 (by rw [hx]; kernel_rfl) fun K hK => ?_
      simp (config := { maxSteps := 1000000 }) []
      refine hK _ ?_
      clear hK K
      first | show AWP _ _ _ _ _ | show ∃ _, _ | skip
      repeat refine awp_seq ?_
      refine awp_ret ?_
      refine And.intro (Or.inr rfl) ?_
      simp [retC, resC, viewC, mapO, e1, e2]

theorem ratio_bd {r : Int × Int} (h : ratioB r = true) : (-1000000 ≤ r.1 ∧ r.1 ≤ 1000000) ∧ (0 < r.2 ∧ r.2 ≤ 1000000) := by
  simp [ratioB, withinB] at h
  omega

theorem mul_bd {a b A B : Int} (ha : -A ≤ a ∧ a ≤ A) (hb : -B ≤ b ∧ b ≤ B) (hA : 0 ≤ A) (hB : 0 ≤ B) : -(A * B) ≤ a * b ∧ a * b ≤ A * B := by
  have h : (a * b).natAbs ≤ (A * B).natAbs := by
    rw [Int.natAbs_mul, Int.natAbs_mul]
    exact Nat.mul_le_mul (by omega) (by omega)
  have := Int.mul_nonneg hA hB
  omega

theorem prod_bd {r s : Int × Int} (hr : ratioB r = true) (hs : ratioB s = true) : (-1000000000000 ≤ r.1 * s.1 ∧ r.1 * s.1 ≤ 1000000000000) ∧ (0 < r.2 * s.2 ∧ r.2 * s.2 ≤ 1000000000000) := by
  obtain ⟨a1, a2⟩ := ratio_bd hr
  obtain ⟨b1, b2⟩ := ratio_bd hs
  have m1 := mul_bd (a := r.1) (b := s.1) (A := 1000000) (B := 1000000) a1 b1 (by decide) (by decide)
  have m2 := mul_in (a := r.2) (b := s.2) (A := 1000000) (B := 1000000) (by omega) (by omega)
  have m3 : 0 < r.2 * s.2 := Int.mul_pos (by omega) (by omega)
  omega

theorem mulC88 (r s : Int × Int) (hr : ratioB r = true) (hs : ratioB s = true) : Pure Try.prog 88 [encR r, encR s] (.tup [encR (toldI (r.1 * s.1) (r.2 * s.2)).1, encI (toldI (r.1 * s.1) (r.2 * s.2)).2]) := by
  obtain ⟨p1, p2⟩ := prod_bd hr hs
  have w1 := wrap_id (z := r.1 * s.1) (by omega) (by omega)
  have w2 := wrap_id (z := r.2 * s.2) (by omega) (by omega)
  refine pure_of (fn := Try.f88) [.cell 4 67, .tmp 5] ⟨Try.func88, rfl, by kernel_rfl⟩ (by kernel_rfl) (by kernel_rfl) (by kernel_rfl) fun x hx hσ => ?_
  repeat refine awp_seq ?_
  refine awp_reg1 (by rw [hx]; kernel_rfl) fun K hK => ?_
  simp (config := { maxSteps := 1000000 }) [ty67]
  refine hK _ ?_
  clear hK K
  first | show AWP _ _ _ _ _ | show ∃ _, _ | skip
  repeat refine awp_seq ?_
  refine awp_reg1 (by rw [hx]; kernel_rfl) fun K hK => ?_
  simp (config := { maxSteps := 1000000 }) [ty67, ty3, w1, w2]
  refine callP (told85 (r.1 * s.1) (r.2 * s.2) p1 p2) (by first | (simp; done) | (simp [*]; done)) ?_
  simp (config := { maxSteps := 1000000 }) [ty67, ty31]
  refine hK _ ?_
  clear hK K
  first | show AWP _ _ _ _ _ | show ∃ _, _ | skip
  repeat refine awp_seq ?_
  refine awp_ret ?_
  refine And.intro (Or.inr rfl) ?_
  simp [retC, resC, viewC, mapO, ty67]

theorem both87 (r s : Int × Int) : Pure Try.prog 87 [encR r, encR s, .fn (.func 88) [] []] (.tup [encR (mulI r s).1, encI (mulI r s).2]) := by
  have h99 := ratios99 false true r s
  refine pure_of (fn := Try.f87) [.cell 6 67, .tmp 7] ⟨Try.func87, rfl, by kernel_rfl⟩ (by kernel_rfl) (by kernel_rfl) (by kernel_rfl) fun x hx hσ => ?_
  repeat refine awp_seq ?_
  refine awp_reg1 (by rw [hx]; kernel_rfl) fun K hK => ?_
  simp (config := { maxSteps := 1000000 }) [ty67]
  refine hK _ ?_
  clear hK K
  first | show AWP _ _ _ _ _ | show ∃ _, _ | skip
  cases hb : (ratioB r && ratioB s)
  · have hm : mulI r s = ((0, 0), 10) := by unfold mulI; rw [if_pos hb]
    rw [hb] at h99
    repeat refine awp_seq ?_
    refine awp_reg1 (by rw [hx]; kernel_rfl) fun K hK => ?_
    simp (config := { maxSteps := 1000000 }) [ty67, ty138]
    refine callP (h99) (by first | (simp; done) | (simp [*]; done)) ?_
    simp (config := { maxSteps := 1000000 }) [ty4]
    refine hK _ ?_
    clear hK K
    first | show AWP _ _ _ _ _ | show ∃ _, _ | skip
    repeat refine awp_seq ?_
    refine awp_cond (by simp; rfl) (by rw [hx]; simp) (fun hd => ?_) (fun hd => ?_)
    · clear hd
      repeat refine awp_seq ?_
      refine awp_reg1 (by rw [hx]; kernel_rfl) fun K hK => ?_
      simp (config := { maxSteps := 1000000 }) [ty67]
      refine hK _ ?_
      clear hK K
      first | show AWP _ _ _ _ _ | show ∃ _, _ | skip
      repeat refine awp_seq ?_
      refine awp_reg1 (by rw [hx]; kernel_rfl) fun K hK => ?_
      simp (config := { maxSteps := 1000000 }) [ty67]
      refine hK _ ?_
      clear hK K
      first | show AWP _ _ _ _ _ | show ∃ _, _ | skip
      repeat refine awp_seq ?_
      refine awp_ret ?_
      refine And.intro (Or.inr rfl) ?_
      simp [retC, resC, viewC, mapO, ty67, hm]
    · simp at hd
  · have hm : mulI r s = toldI (r.1 * s.1) (r.2 * s.2) := by unfold mulI; rw [if_neg (by rw [hb]; simp)]
    have hb2 : ratioB r = true ∧ ratioB s = true := by simpa using hb
    rw [hb] at h99
    repeat refine awp_seq ?_
    refine awp_reg1 (by rw [hx]; kernel_rfl) fun K hK => ?_
    simp (config := { maxSteps := 1000000 }) [ty67, ty138]
    refine callP (h99) (by first | (simp; done) | (simp [*]; done)) ?_
    simp (config := { maxSteps := 1000000 }) [ty4]
    refine hK _ ?_
    clear hK K
    first | show AWP _ _ _ _ _ | show ∃ _, _ | skip
    repeat refine awp_seq ?_
    refine awp_cond (by simp; rfl) (by rw [hx]; simp) (fun hd => ?_) (fun hd => ?_)
    · simp at hd
    · clear hd
      refine awp_skip ?_
      first | show AWP _ _ _ _ _ | show ∃ _, _ | skip
      repeat refine awp_seq ?_
      refine awp_reg1 (by rw [hx]; kernel_rfl) fun K hK => ?_
      simp (config := { maxSteps := 1000000 }) [ty67]
      refine callP (mulC88 r s hb2.1 hb2.2) (by first | (simp; done) | (simp [*]; done)) ?_
      simp (config := { maxSteps := 1000000 }) [ty67, ty31]
      refine hK _ ?_
      clear hK K
      first | show AWP _ _ _ _ _ | show ∃ _, _ | skip
      repeat refine awp_seq ?_
      refine awp_ret ?_
      refine And.intro (Or.inr rfl) ?_
      simp [retC, resC, viewC, mapO, ty67, hm]

theorem mul74 (r s : Int × Int) : Pure Try.prog 74 [encR r, encR s] (.tup [encR (mulI r s).1, encI (mulI r s).2]) := by
  refine pure_of (fn := Try.f74) [.cell 4 67, .tmp 5] ⟨Try.func74, rfl, by kernel_rfl⟩ (by kernel_rfl) (by kernel_rfl) (by kernel_rfl) fun x hx hσ => ?_
  repeat refine awp_seq ?_
  refine awp_reg1 (by rw [hx]; kernel_rfl) fun K hK => ?_
  simp (config := { maxSteps := 1000000 }) [ty67]
  refine hK _ ?_
  clear hK K
  first | show AWP _ _ _ _ _ | show ∃ _, _ | skip
  repeat refine awp_seq ?_
  refine awp_reg1 (by rw [hx]; kernel_rfl) fun K hK => ?_
  simp (config := { maxSteps := 1000000 }) [ty67]
  refine callP (both87 r s) (by first | (simp; done) | (simp [*]; done)) ?_
  simp (config := { maxSteps := 1000000 }) [ty67, ty31]
  refine hK _ ?_
  clear hK K
  first | show AWP _ _ _ _ _ | show ∃ _, _ | skip
  repeat refine awp_seq ?_
  refine awp_ret ?_
  refine And.intro (Or.inr rfl) ?_
  simp [retC, resC, viewC, mapO, ty67]

theorem mul76 (r s : Int × Int) : Pure Try.prog 76 [encR r, encR s] (.tup [encR (mulI r s).1, encI (mulI r s).2]) := by
  have h1 := ratio92 r
  have h2 := ratio92 s
  refine pure_of (fn := Try.f76) [.cell 4 67, .tmp 5] ⟨Try.func76, rfl, by kernel_rfl⟩ (by kernel_rfl) (by kernel_rfl) (by kernel_rfl) fun x hx hσ => ?_
  repeat refine awp_seq ?_
  refine awp_reg1 (by rw [hx]; kernel_rfl) fun K hK => ?_
  simp (config := { maxSteps := 1000000 }) [ty67]
  refine hK _ ?_
  clear hK K
  first | show AWP _ _ _ _ _ | show ∃ _, _ | skip
  cases b1 : ratioB r
  · have hm : mulI r s = ((0, 0), 10) := by unfold mulI; rw [b1]; rfl
    rw [b1] at h1
    repeat refine awp_seq ?_
    refine awp_reg1 (by rw [hx]; kernel_rfl) fun K hK => ?_
    simp (config := { maxSteps := 1000000 }) [ty67]
    refine callP (h1) (by first | (simp; done) | (simp [*]; done)) ?_
    simp (config := { maxSteps := 1000000 }) [ty4]
    refine hK _ ?_
    clear hK K
    first | show AWP _ _ _ _ _ | show ∃ _, _ | skip
    repeat refine awp_seq ?_
    refine awp_cond (by simp; rfl) (by rw [hx]; simp) (fun hd => ?_) (fun hd => ?_)
    · clear hd
      repeat refine awp_seq ?_
      refine awp_reg1 (by rw [hx]; kernel_rfl) fun K hK => ?_
      simp (config := { maxSteps := 1000000 }) [ty67]
      refine hK _ ?_
      clear hK K
      first | show AWP _ _ _ _ _ | show ∃ _, _ | skip
      repeat refine awp_seq ?_
      refine awp_ret ?_
      refine And.intro (Or.inr rfl) ?_
      simp [retC, resC, viewC, mapO, ty67, hm]
    · simp at hd
  · rw [b1] at h1
    cases b2 : ratioB s
    · have hm : mulI r s = ((0, 0), 10) := by unfold mulI; rw [b1, b2]; rfl
      rw [b2] at h2
      repeat refine awp_seq ?_
      refine awp_reg1 (by rw [hx]; kernel_rfl) fun K hK => ?_
      simp (config := { maxSteps := 1000000 }) [ty67]
      refine callP (h1) (by first | (simp; done) | (simp [*]; done)) ?_
      simp (config := { maxSteps := 1000000 }) [ty4, ty67]
      refine callP (h2) (by first | (simp; done) | (simp [*]; done)) ?_
      simp (config := { maxSteps := 1000000 }) [ty4]
      refine hK _ ?_
      clear hK K
      first | show AWP _ _ _ _ _ | show ∃ _, _ | skip
      repeat refine awp_seq ?_
      refine awp_cond (by simp; rfl) (by rw [hx]; simp) (fun hd => ?_) (fun hd => ?_)
      · clear hd
        repeat refine awp_seq ?_
        refine awp_reg1 (by rw [hx]; kernel_rfl) fun K hK => ?_
        simp (config := { maxSteps := 1000000 }) [ty67]
        refine hK _ ?_
        clear hK K
        first | show AWP _ _ _ _ _ | show ∃ _, _ | skip
        repeat refine awp_seq ?_
        refine awp_ret ?_
        refine And.intro (Or.inr rfl) ?_
        simp [retC, resC, viewC, mapO, ty67, hm]
      · simp at hd
    · have hm : mulI r s = toldI (r.1 * s.1) (r.2 * s.2) := by unfold mulI; rw [b1, b2]; rfl
      obtain ⟨p1, p2⟩ := prod_bd b1 b2
      have w1 := wrap_id (z := r.1 * s.1) (by omega) (by omega)
      have w2 := wrap_id (z := r.2 * s.2) (by omega) (by omega)
      rw [b2] at h2
      repeat refine awp_seq ?_
      refine awp_reg1 (by rw [hx]; kernel_rfl) fun K hK => ?_
      simp (config := { maxSteps := 1000000 }) [ty67]
      refine callP (h1) (by first | (simp; done) | (simp [*]; done)) ?_
      simp (config := { maxSteps := 1000000 }) [ty4, ty67]
      refine callP (h2) (by first | (simp; done) | (simp [*]; done)) ?_
      simp (config := { maxSteps := 1000000 }) [ty4]
      refine hK _ ?_
      clear hK K
      first | show AWP _ _ _ _ _ | show ∃ _, _ | skip
      repeat refine awp_seq ?_
      refine awp_cond (by simp; rfl) (by rw [hx]; simp) (fun hd => ?_) (fun hd => ?_)
      · simp at hd
      · clear hd
        refine awp_skip ?_
        first | show AWP _ _ _ _ _ | show ∃ _, _ | skip
        repeat refine awp_seq ?_
        refine awp_reg1 (by rw [hx]; kernel_rfl) fun K hK => ?_
        simp (config := { maxSteps := 1000000 }) [ty67, ty3, w1, w2]
        refine callP (result90 (r.1 * s.1) (r.2 * s.2) p1 p2) (by first | (simp; done) | (simp [*]; done)) ?_
        simp (config := { maxSteps := 1000000 }) [ty67, ty31]
        refine hK _ ?_
        clear hK K
        first | show AWP _ _ _ _ _ | show ∃ _, _ | skip
        repeat refine awp_seq ?_
        refine awp_ret ?_
        refine And.intro (Or.inr rfl) ?_
        simp [retC, resC, viewC, mapO, ty67, hm]

theorem mulI_comm (r s : Int × Int) : mulI r s = mulI s r := by
  unfold mulI
  rw [Bool.and_comm, Int.mul_comm r.1, Int.mul_comm r.2]

end Go.Proofs.Ytmmoghgpaagnhaa

namespace Go.Proofs.Ytmmoghgpaagnhaa
open Go Go.Abs

set_option maxHeartbeats 2000000

-- truths, plainly

theorem open_03 {w : Wh} {l : List Wl} (hz : checkI w l = 0) : openI w l true = 0 ∨ openI w l true = 3 := by
  by_cases h : truthsL w l = []
  · exact .inr (openI_no hz h)
  · exact .inl (openI_yes hz h)

theorem checkI_mk {w : Wh} {l : List Wl} (hw : WhOk w) (hl : ∀ y ∈ l, WlOk w y) (h8 : l.length ≤ 8) : checkI w l = 0 := by
  unfold checkI
  rw [if_neg (by rw [wheelB_iff.2 hw]; simp), if_neg]
  rintro (h | h)
  · omega
  · rw [Bool.eq_false_iff] at h
    exact h (List.all_eq_true.2 fun y hy => walkB_iff.2 (hl y hy))

theorem truth_mem {w : Wh} {l : List Wl} {t : Tr} : t ∈ truthsL w l ↔ t ∈ allT w ∧ (wrongsN w l t : Int) ≤ w.wrong := by
  simp [truthsL, isT]

theorem asc_len : ∀ (l : List Int) (a b : Int), l.Pairwise (· < ·) → (∀ z ∈ l, a ≤ z ∧ z ≤ b) → l.length ≤ (b - a + 1).toNat
  | [], _, _, _, _ => Nat.zero_le _
  | z :: l, a, b, hp, hb => by
    have h1 := List.pairwise_cons.1 hp
    have hz := hb z (by simp)
    have ih := asc_len l (z + 1) b h1.2 fun y hy => by
      have := h1.1 y hy
      have := (hb y (by simp [hy])).2
      omega
    simp only [List.length_cons]
    omega

theorem kinds_lt (f : Tr → Int) (L : List Tr) : (kindsL f L).Pairwise (· < ·) := by
  have h1 := kindsL_sorted f L
  have h2 := kindsL_nodup f L
  exact (h1.and h2).imp fun h => by omega

theorem nums_lt (f : Tr → Int) (w : Wh) (l : List Wl) : (numsI f w l).Pairwise (· < ·) := by
  unfold numsI
  split
  · exact kinds_lt _ _
  · simp

theorem nums_mem {f : Tr → Int} {w : Wh} {l : List Wl} (h : openI w l true = 0) (b : Int) : b ∈ numsI f w l ↔ ∃ t ∈ truthsL w l, f t = b := by
  rw [(numsI_ok h).1]; exact kindsL_mem _ _ _

theorem areas_bd {w : Wh} {l : List Wl} (hn : w.ghigh - w.glow ≤ 25) : (numsI Tr.area w l).length ≤ 26 := by
  by_cases h : openI w l true = 0
  · refine Nat.le_trans (asc_len _ w.glow w.ghigh (nums_lt _ _ _) fun z hz => ?_) (by omega)
    obtain ⟨t, ht, rfl⟩ := (nums_mem h z).1 hz
    exact (allT_mem.1 (truth_mem.1 ht).1).1
  · rw [numsI_zero h]; simp

theorem skews_bd {w : Wh} {l : List Wl} (hn : w.skew ≤ 2) : (numsI Tr.skew w l).length ≤ 5 := by
  by_cases h : openI w l true = 0
  · refine Nat.le_trans (asc_len _ (-w.skew) w.skew (nums_lt _ _ _) fun z hz => ?_) (by omega)
    obtain ⟨t, ht, rfl⟩ := (nums_mem h z).1 hz
    exact (allT_mem.1 (truth_mem.1 ht).1).2
  · rw [numsI_zero h]; simp

theorem nodup_len : ∀ (A B : List Int), A.Nodup → (∀ a ∈ A, a ∈ B) → A.length ≤ B.length
  | [], _, _, _ => Nat.zero_le _
  | a :: A, B, hn, hs => by
    have h1 := List.nodup_cons.1 hn
    have ha := hs a (by simp)
    have ih := nodup_len A (B.erase a) h1.2 fun b hb => by
      have hne : b ≠ a := fun e => h1.1 (e ▸ hb)
      exact (List.mem_erase_of_ne hne).2 (hs b (by simp [hb]))
    rw [List.length_erase_of_mem ha] at ih
    have := List.length_pos_of_mem ha
    simp only [List.length_cons]
    omega

theorem nums_len {f : Tr → Int} {w w' : Wh} {l l' : List Wl} (h : ∀ b ∈ numsI f w l, b ∈ numsI f w' l') : (numsI f w l).length ≤ (numsI f w' l').length :=
  nodup_len _ _ ((nums_lt f w l).imp fun h => Int.ne_of_lt h) h

theorem bound_mem {w : Wh} {l : List Wl} (h : openI w l true = 0) : (∃ t ∈ truthsL w l, t.area = (boundI w l).1) ∧ (∃ t ∈ truthsL w l, t.area = (boundI w l).2) ∧ ∀ t ∈ truthsL w l, (boundI w l).1 ≤ t.area ∧ t.area ≤ (boundI w l).2 := by
  obtain ⟨h0, e1, e2⟩ := bound_known h
  have hs := truthsL_sorted w l
  refine ⟨⟨_, List.getElem_mem h0, e1.symm⟩, ⟨_, List.getElem_mem (show (truthsL w l).length - 1 < (truthsL w l).length by omega), e2.symm⟩, fun t ht => ?_⟩
  obtain ⟨i, hi, rfl⟩ := List.getElem_of_mem ht
  rw [e1, e2]
  constructor
  · by_cases e : i = 0
    · subst e; exact Int.le_refl _
    · exact List.pairwise_iff_getElem.1 hs 0 i h0 hi (by omega)
  · by_cases e : i = (truthsL w l).length - 1
    · subst e; exact Int.le_refl _
    · exact List.pairwise_iff_getElem.1 hs i _ hi (by omega) (by omega)

-- one more walk

theorem wrongs_app (w : Wh) (l : List Wl) (y : Wl) (t : Tr) : wrongsN w (l ++ [y]) t = wrongsN w l t + if rightB w y t then 0 else 1 := by
  unfold wrongsN
  rw [List.countP_append, List.countP_singleton]
  cases rightB w y t <;> simp

theorem truths_app {w : Wh} {l : List Wl} {y : Wl} {t : Tr} (h : t ∈ truthsL w (l ++ [y])) : t ∈ truthsL w l := by
  rw [truth_mem] at *
  refine ⟨h.1, ?_⟩
  have h2 := h.2
  rw [wrongs_app] at h2
  omega

theorem truths_app_len (w : Wh) (l : List Wl) (y : Wl) : (truthsL w (l ++ [y])).length ≤ (truthsL w l).length := by
  unfold truthsL
  rw [← List.countP_eq_length_filter, ← List.countP_eq_length_filter]
  refine List.countP_mono_left fun t _ h => ?_
  simp only [isT, decide_eq_true_eq] at h ⊢
  rw [wrongs_app] at h
  omega

theorem open_app {w : Wh} {l : List Wl} {y : Wl} (hz : checkI w l = 0) (h : openI w (l ++ [y]) true = 0) : openI w l true = 0 := by
  obtain ⟨_, _, hT⟩ := openI_ok h
  obtain ⟨t, ht⟩ := List.exists_mem_of_ne_nil _ hT
  exact openI_yes hz (List.ne_nil_of_mem (truths_app ht))

theorem bound_app {w : Wh} {l : List Wl} {y : Wl} (hz : checkI w l = 0) (h : openI w (l ++ [y]) true = 0) : (boundI w l).1 ≤ (boundI w (l ++ [y])).1 ∧ (boundI w (l ++ [y])).2 ≤ (boundI w l).2 ∧ (boundI w (l ++ [y])).1 ≤ (boundI w (l ++ [y])).2 := by
  have h0 := open_app hz h
  obtain ⟨⟨t1, m1, e1⟩, ⟨t2, m2, e2⟩, h3⟩ := bound_mem h
  obtain ⟨_, _, g3⟩ := bound_mem h0
  have a1 := g3 t1 (truths_app m1)
  have a2 := g3 t2 (truths_app m2)
  have a3 := h3 t1 m1
  omega

theorem many_app {w : Wh} {l : List Wl} {y : Wl} (hz : checkI w l = 0) (h : openI w (l ++ [y]) true = 0) : manyN w (l ++ [y]) ≤ manyN w l := by
  have h0 := open_app hz h
  unfold manyN
  rw [if_pos h, if_pos h0]
  exact truths_app_len _ _ _

-- greater numbers of the wheel

structure Wider (w o : Wh) : Prop where
  full : o.full = w.full
  circle : o.circle = w.circle
  read : w.read ≤ o.read
  slip : w.slip ≤ o.slip
  skew : w.skew ≤ o.skew
  wrong : w.wrong ≤ o.wrong
  low : o.glow ≤ w.glow
  high : w.ghigh ≤ o.ghigh

theorem WlOk.wider {w o : Wh} (h : Wider w o) {y : Wl} (hy : WlOk w y) : WlOk o y := ⟨hy.sense, hy.side, hy.inside, by rw [h.full]; exact hy.start, by rw [h.full]; exact hy.fin⟩

theorem right_wider {w o : Wh} (h : Wider w o) (hw : WhOk w) (ho : WhOk o) {y : Wl} (hy : WlOk w y) {t : Tr} (hr : rightB w y t = true) : rightB o y t = true := by
  obtain ⟨s, f, h1, h2, h3⟩ := (right_iff hw hy).1 hr
  have := h.read
  have := h.slip
  refine (right_iff ho (hy.wider h)).2 ⟨s, f, by omega, by omega, ?_⟩
  rw [h.full, h.circle]
  exact h3

theorem wrongs_wider {w o : Wh} (h : Wider w o) (hw : WhOk w) (ho : WhOk o) {l : List Wl} (hl : ∀ y ∈ l, WlOk w y) (t : Tr) : wrongsN o l t ≤ wrongsN w l t := by
  unfold wrongsN
  refine List.countP_mono_left fun y hy hb => ?_
  simp only [Bool.not_eq_true'] at hb ⊢
  rw [Bool.eq_false_iff] at hb ⊢
  exact fun e => hb (right_wider h hw ho (hl y hy) e)

theorem truth_wider {w o : Wh} (h : Wider w o) (hw : WhOk w) (ho : WhOk o) {l : List Wl} (hl : ∀ y ∈ l, WlOk w y) {t : Tr} (ht : t ∈ truthsL w l) : t ∈ truthsL o l := by
  rw [truth_mem] at *
  have h1 := allT_mem.1 ht.1
  have h2 := wrongs_wider h hw ho hl t
  have := h.low
  have := h.high
  have := h.skew
  have := h.wrong
  refine ⟨allT_mem.2 ⟨⟨by omega, by omega⟩, by omega, by omega⟩, by omega⟩

theorem open_wider {w o : Wh} (h : Wider w o) {l : List Wl} (hz : checkI w l = 0) (hzo : checkI o l = 0) (he : openI w l true = 0) : openI o l true = 0 := by
  obtain ⟨hw, hl, _⟩ := checkI_ok hz
  obtain ⟨ho, _, _⟩ := checkI_ok hzo
  obtain ⟨_, _, hT⟩ := openI_ok he
  obtain ⟨t, ht⟩ := List.exists_mem_of_ne_nil _ hT
  exact openI_yes hzo (List.ne_nil_of_mem (truth_wider h hw ho hl ht))

theorem areas_wider {w o : Wh} (h : Wider w o) {l : List Wl} (hz : checkI w l = 0) (hzo : checkI o l = 0) (he : openI w l true = 0) : ∀ a ∈ numsI Tr.area w l, a ∈ numsI Tr.area o l := by
  obtain ⟨hw, hl, _⟩ := checkI_ok hz
  obtain ⟨ho, _, _⟩ := checkI_ok hzo
  have he' := open_wider h hz hzo he
  intro a ha
  obtain ⟨t, ht, rfl⟩ := (nums_mem he a).1 ha
  exact (nums_mem he' _).2 ⟨t, truth_wider h hw ho hl ht, rfl⟩

-- what cancels

theorem right_all {w : Wh} {l : List Wl} {t : Tr} (h : wrongsN w l t = 0) : ∀ y ∈ l, rightB w y t = true := by
  intro y hy
  unfold wrongsN at h
  rw [List.countP_eq_zero] at h
  have := h y hy
  simpa using this

theorem small_dvd {F z : Int} (hF : 0 < F) (h : F ∣ z) (h1 : -F < z) (h2 : z < F) : z = 0 := by
  obtain ⟨q, rfl⟩ := h
  rcases Int.lt_trichotomy q 0 with hq | hq | hq
  · have : F * q ≤ F * (-1) := Int.mul_le_mul_of_nonneg_left (by omega) (Int.le_of_lt hF)
    omega
  · rw [hq]; simp
  · have : F * 1 ≤ F * q := Int.mul_le_mul_of_nonneg_left (by omega) (Int.le_of_lt hF)
    omega

/-- What two truths and a walk that is right in both say. -/
theorem two_right {w : Wh} (hw : WhOk w) {y : Wl} (hy : WlOk w y) {t u : Tr} (hwide : w.ghigh - w.glow + w.slip + 2 * w.skew + 4 * w.read < w.full)
    (ht : (w.glow ≤ t.area ∧ t.area ≤ w.ghigh) ∧ -w.skew ≤ t.skew ∧ t.skew ≤ w.skew) (hu : (w.glow ≤ u.area ∧ u.area ≤ w.ghigh) ∧ -w.skew ≤ u.skew ∧ u.skew ≤ w.skew) (h1 : rightB w y t = true) (h2 : rightB w y u = true) :
    ∃ e, (t.area - u.area) + (y.sense * y.side) * (t.skew - u.skew) = e ∧ -(w.slip + 4 * w.read) ≤ e ∧ e ≤ w.slip + 4 * w.read := by
  obtain ⟨s1, o1, a1, b1, c1⟩ := (right_iff hw hy).1 h1
  obtain ⟨s2, o2, a2, b2, c2⟩ := (right_iff hw hy).1 h2
  have hd := Int.dvd_sub c1 c2
  have hf := hw.full
  generalize y.inside * w.circle = ci at *
  rcases hy.sense with e | e <;> rcases hy.side with e' | e' <;> rw [e, e'] at hd ⊢
  · have hz := small_dvd (by omega) hd (by omega) (by omega)
    exact ⟨_, rfl, by omega, by omega⟩
  · have hz := small_dvd (by omega) hd (by omega) (by omega)
    exact ⟨_, rfl, by omega, by omega⟩
  · have hz := small_dvd (by omega) hd (by omega) (by omega)
    exact ⟨_, rfl, by omega, by omega⟩
  · have hz := small_dvd (by omega) hd (by omega) (by omega)
    exact ⟨_, rfl, by omega, by omega⟩

theorem cancels {w : Wh} {l : List Wl} (h : openI w l true = 0) (h0 : w.wrong = 0) (hwide : w.ghigh - w.glow + w.slip + 2 * w.skew + 4 * w.read < w.full) {y z : Wl} (hy : y ∈ l) (hz : z ∈ l) (hne : y.sense * y.side ≠ z.sense * z.side) :
    (boundI w l).1 ≤ (boundI w l).2 ∧ (boundI w l).2 - (boundI w l).1 ≤ w.slip + 4 * w.read := by
  obtain ⟨⟨t, m1, e1⟩, ⟨u, m2, e2⟩, h3⟩ := bound_mem h
  obtain ⟨hw, hl, _⟩ := checkI_ok (openI_ok h).1
  have hb := h3 t m1
  have p1 := truth_mem.1 m1
  have p2 := truth_mem.1 m2
  have q1 := right_all (w := w) (l := l) (t := t) (by omega)
  have q2 := right_all (w := w) (l := l) (t := u) (by omega)
  obtain ⟨e, r1, r2, r3⟩ := two_right hw (hl y hy) hwide (allT_mem.1 p2.1) (allT_mem.1 p1.1) (q2 y hy) (q1 y hy)
  obtain ⟨e', r1', r2', r3'⟩ := two_right hw (hl z hz) hwide (allT_mem.1 p2.1) (allT_mem.1 p1.1) (q2 z hz) (q1 z hz)
  rw [← e1, ← e2]
  have hsgn : ∀ x : Wl, WlOk w x → x.sense * x.side = 1 ∨ x.sense * x.side = -1 := by
    intro x hx
    rcases hx.sense with a | a <;> rcases hx.side with b | b <;> rw [a, b] <;> simp
  rcases hsgn y (hl y hy) with a | a <;> rcases hsgn z (hl z hz) with b | b
  · exact absurd (a.trans b.symm) hne
  · rw [a] at r1; rw [b] at r1'
    exact ⟨by omega, by omega⟩
  · rw [a] at r1; rw [b] at r1'
    exact ⟨by omega, by omega⟩
  · exact absurd (a.trans b.symm) hne

end Go.Proofs.Ytmmoghgpaagnhaa

namespace Go.Proofs.Ytmmoghgpaagnhaa
open Go Go.Abs

set_option maxHeartbeats 4000000

/-- What Real answers. -/
def realI (w : Wh) (l : List Wl) (a : Arm) (s : Int) : (Int × Int) × (Int × Int) × Int :=
  if openI w l true ≠ 0 then ((0, 0), (0, 0), openI w l true) else
  if (valI a s).2 ≠ 0 then ((0, 0), (0, 0), (valI a s).2) else
  if (mulI (valI a s).1 ((boundI w l).1, 1)).2 ≠ 0 then ((0, 0), (0, 0), (mulI (valI a s).1 ((boundI w l).1, 1)).2) else
  if (mulI (valI a s).1 ((boundI w l).2, 1)).2 ≠ 0 then ((0, 0), (0, 0), (mulI (valI a s).1 ((boundI w l).2, 1)).2) else
  ((mulI (valI a s).1 ((boundI w l).1, 1)).1, (mulI (valI a s).1 ((boundI w l).2, 1)).1, 0)


theorem real46 (w : Wh) (nl fu : Bool) (l : List Wl) (a : Arm) (s : Int) (hn : l.length ≤ 1000) : Pure Try.prog 46 [encWh w, sWl nl fu l, encArm a, encI s] (.tup [encR (realI w l a s).1, encR (realI w l a s).2.1, encI (realI w l a s).2.2]) := by
  have hB := bound21 w nl fu l hn
  have hV := valA73 a s
  have hM := mul74 (valI a s).1 ((boundI w l).1, 1)
  have hN := mul74 (valI a s).1 ((boundI w l).2, 1)
  obtain ⟨v, hv⟩ : ∃ v, v = valI a s := ⟨_, rfl⟩
  obtain ⟨lo, hlo⟩ : ∃ lo, lo = (boundI w l).1 := ⟨_, rfl⟩
  obtain ⟨hi, hhi⟩ : ∃ hi, hi = (boundI w l).2 := ⟨_, rfl⟩
  obtain ⟨m, hm⟩ : ∃ m, m = mulI v.1 (lo, 1) := ⟨_, rfl⟩
  obtain ⟨n, hn2⟩ : ∃ n, n = mulI v.1 (hi, 1) := ⟨_, rfl⟩
  have hR : realI w l a s = if openI w l true ≠ 0 then ((0, 0), (0, 0), openI w l true) else if v.2 ≠ 0 then ((0, 0), (0, 0), v.2) else if m.2 ≠ 0 then ((0, 0), (0, 0), m.2) else if n.2 ≠ 0 then ((0, 0), (0, 0), n.2) else (m.1, n.1, 0) := by
    unfold realI; rw [hn2, hm, hlo, hhi, hv]
  rw [← hlo, ← hhi] at hB
  rw [← hv] at hV
  rw [← hv, ← hlo, ← hm] at hM
  rw [← hv, ← hhi, ← hn2] at hN
  clear hm hn2 hv hlo hhi
  generalize openI w l true = e at *
  refine pure_of (fn := Try.f46) [.cell 8 67, .cell 9 67, .tmp 10] ⟨Try.func46, rfl, by kernel_rfl⟩ (by kernel_rfl) (by kernel_rfl) (by kernel_rfl) fun x hx hσ => ?_
  repeat refine awp_seq ?_
  refine awp_reg1 (by rw [hx]; kernel_rfl) fun K hK => ?_
  simp (config := { maxSteps := 1000000 }) [ty25, ty69, ty67]
  refine hK _ ?_
  clear hK K
  first | show AWP _ _ _ _ _ | show ∃ _, _ | skip
  repeat refine awp_seq ?_
  refine awp_reg1 (by rw [hx]; kernel_rfl) fun K hK => ?_
  simp (config := { maxSteps := 1000000 }) [ty25, ty23]
  refine callP (hB) (by first | (simp; done) | (simp [*]; done)) ?_
  simp (config := { maxSteps := 1000000 }) [ty23, ty31]
  refine hK _ ?_
  clear hK K
  first | show AWP _ _ _ _ _ | show ∃ _, _ | skip
  repeat refine awp_seq ?_
  refine awp_reg1 (by rw [hx]; kernel_rfl) fun K hK => ?_
  simp (config := { maxSteps := 1000000 }) [ty31]
  refine hK _ ?_
  clear hK K
  first | show AWP _ _ _ _ _ | show ∃ _, _ | skip
  by_cases h1 : e = 0
  · rw [if_neg (by simp [h1])] at hR
    repeat refine awp_seq ?_
    refine awp_cond (by simp [h1]; rfl) (by rw [hx]; simp) (fun hd => ?_) (fun hd => ?_)
    · simp at hd
    · clear hd
      refine awp_skip ?_
      first | show AWP _ _ _ _ _ | show ∃ _, _ | skip
      repeat refine awp_seq ?_
      refine awp_reg1 (by rw [hx]; kernel_rfl) fun K hK => ?_
      simp (config := { maxSteps := 1000000 }) [ty69, ty67]
      refine callP (hV) (by first | (simp; done) | (simp [*]; done)) ?_
      simp (config := { maxSteps := 1000000 }) [ty67, ty31]
      refine hK _ ?_
      clear hK K
      first | show AWP _ _ _ _ _ | show ∃ _, _ | skip
      repeat refine awp_seq ?_
      refine awp_reg1 (by rw [hx]; kernel_rfl) fun K hK => ?_
      simp (config := { maxSteps := 1000000 }) [ty31]
      refine hK _ ?_
      clear hK K
      first | show AWP _ _ _ _ _ | show ∃ _, _ | skip
      by_cases h2 : v.2 = 0
      · rw [if_neg (by simp [h2])] at hR
        repeat refine awp_seq ?_
        refine awp_cond (by simp [h2]; rfl) (by rw [hx]; simp) (fun hd => ?_) (fun hd => ?_)
        · simp [h2] at hd
        · clear hd
          refine awp_skip ?_
          first | show AWP _ _ _ _ _ | show ∃ _, _ | skip
          repeat refine awp_seq ?_
          refine awp_reg1 (by rw [hx]; kernel_rfl) fun K hK => ?_
          simp (config := { maxSteps := 1000000 }) [ty67, ty23, ty3]
          refine callP (hM) (by first | (simp; done) | (simp [*]; done)) ?_
          simp (config := { maxSteps := 1000000 }) [ty67, ty31]
          refine hK _ ?_
          clear hK K
          first | show AWP _ _ _ _ _ | show ∃ _, _ | skip
          repeat refine awp_seq ?_
          refine awp_reg1 (by rw [hx]; kernel_rfl) fun K hK => ?_
          simp (config := { maxSteps := 1000000 }) [ty31]
          refine hK _ ?_
          clear hK K
          first | show AWP _ _ _ _ _ | show ∃ _, _ | skip
          by_cases h3 : m.2 = 0
          · rw [if_neg (by simp [h3])] at hR
            repeat refine awp_seq ?_
            refine awp_cond (by simp [h3]; rfl) (by rw [hx]; simp) (fun hd => ?_) (fun hd => ?_)
            · simp [h3] at hd
            · clear hd
              refine awp_skip ?_
              first | show AWP _ _ _ _ _ | show ∃ _, _ | skip
              repeat refine awp_seq ?_
              refine awp_reg1 (by rw [hx]; kernel_rfl) fun K hK => ?_
              simp (config := { maxSteps := 1000000 }) [ty67, ty23, ty3]
              refine callP (hN) (by first | (simp; done) | (simp [*]; done)) ?_
              simp (config := { maxSteps := 1000000 }) [ty67, ty31]
              refine hK _ ?_
              clear hK K
              first | show AWP _ _ _ _ _ | show ∃ _, _ | skip
              repeat refine awp_seq ?_
              refine awp_reg1 (by rw [hx]; kernel_rfl) fun K hK => ?_
              simp (config := { maxSteps := 1000000 }) [ty31]
              refine hK _ ?_
              clear hK K
              first | show AWP _ _ _ _ _ | show ∃ _, _ | skip
              by_cases h4 : n.2 = 0
              · rw [if_neg (by simp [h4])] at hR
                repeat refine awp_seq ?_
                refine awp_cond (by simp [h4]; rfl) (by rw [hx]; simp) (fun hd => ?_) (fun hd => ?_)
                · simp [h4] at hd
                · clear hd
                  refine awp_skip ?_
                  first | show AWP _ _ _ _ _ | show ∃ _, _ | skip
                  repeat refine awp_seq ?_
                  refine awp_drw3 [1001, 2002, 10008] [0, 1, 2, 3, 4] (by rw [hx]; kernel_rfl) (by kernel_rfl) (by kernel_rfl) (by kernel_rfl) fun K hK => ?_
                  simp (config := { maxSteps := 1000000 }) [ty67]
                  refine hK _ ?_
                  clear hK K
                  first | show AWP _ _ _ _ _ | show ∃ _, _ | skip
                  repeat refine awp_seq ?_
                  refine awp_ret ?_
                  refine And.intro (Or.inr rfl) ?_
                  simp [retC, resC, viewC, mapO, ty67, hR]
              · rw [if_pos h4] at hR
                repeat refine awp_seq ?_
                refine awp_cond (by simp [h4]; rfl) (by rw [hx]; simp) (fun hd => ?_) (fun hd => ?_)
                · clear hd
                  repeat refine awp_seq ?_
                  refine awp_reg1 (by rw [hx]; kernel_rfl) fun K hK => ?_
                  simp (config := { maxSteps := 1000000 }) [ty67]
                  refine hK _ ?_
                  clear hK K
                  first | show AWP _ _ _ _ _ | show ∃ _, _ | skip
                  repeat refine awp_seq ?_
                  refine awp_ret ?_
                  refine And.intro (Or.inr rfl) ?_
                  simp [retC, resC, viewC, mapO, ty67, hR]
                · simp [h4] at hd
          · rw [if_pos h3] at hR
            repeat refine awp_seq ?_
            refine awp_cond (by simp [h3]; rfl) (by rw [hx]; simp) (fun hd => ?_) (fun hd => ?_)
            · clear hd
              repeat refine awp_seq ?_
              refine awp_reg1 (by rw [hx]; kernel_rfl) fun K hK => ?_
              simp (config := { maxSteps := 1000000 }) [ty67]
              refine hK _ ?_
              clear hK K
              first | show AWP _ _ _ _ _ | show ∃ _, _ | skip
              repeat refine awp_seq ?_
              refine awp_ret ?_
              refine And.intro (Or.inr rfl) ?_
              simp [retC, resC, viewC, mapO, ty67, hR]
            · simp [h3] at hd
      · rw [if_pos h2] at hR
        repeat refine awp_seq ?_
        refine awp_cond (by simp [h2]; rfl) (by rw [hx]; simp) (fun hd => ?_) (fun hd => ?_)
        · clear hd
          repeat refine awp_seq ?_
          refine awp_reg1 (by rw [hx]; kernel_rfl) fun K hK => ?_
          simp (config := { maxSteps := 1000000 }) [ty67]
          refine hK _ ?_
          clear hK K
          first | show AWP _ _ _ _ _ | show ∃ _, _ | skip
          repeat refine awp_seq ?_
          refine awp_ret ?_
          refine And.intro (Or.inr rfl) ?_
          simp [retC, resC, viewC, mapO, ty67, hR]
        · simp [h2] at hd
  · rw [if_pos h1] at hR
    repeat refine awp_seq ?_
    refine awp_cond (by simp [h1]; rfl) (by rw [hx]; simp) (fun hd => ?_) (fun hd => ?_)
    · clear hd
      repeat refine awp_seq ?_
      refine awp_reg1 (by rw [hx]; kernel_rfl) fun K hK => ?_
      simp (config := { maxSteps := 1000000 }) [ty67]
      refine hK _ ?_
      clear hK K
      first | show AWP _ _ _ _ _ | show ∃ _, _ | skip
      repeat refine awp_seq ?_
      refine awp_ret ?_
      refine And.intro (Or.inr rfl) ?_
      simp [retC, resC, viewC, mapO, ty67, hR]
    · simp [h1] at hd

theorem real47 (w : Wh) (nl fu : Bool) (l : List Wl) (a : Arm) (s : Int) (hn : l.length ≤ 1000) : Pure Try.prog 47 [encWh w, sWl nl fu l, encArm a, encI s] (.tup [encR (realI w l a s).1, encR (realI w l a s).2.1, encI (realI w l a s).2.2]) := by
  have hB := ref35 w nl fu l hn
  have hV := valA75 a s
  have hM := mul76 ((boundI w l).1, 1) (valI a s).1
  have hN := mul76 ((boundI w l).2, 1) (valI a s).1
  rw [mulI_comm] at hM hN
  obtain ⟨v, hv⟩ : ∃ v, v = valI a s := ⟨_, rfl⟩
  obtain ⟨lo, hlo⟩ : ∃ lo, lo = (boundI w l).1 := ⟨_, rfl⟩
  obtain ⟨hi, hhi⟩ : ∃ hi, hi = (boundI w l).2 := ⟨_, rfl⟩
  obtain ⟨m, hm⟩ : ∃ m, m = mulI v.1 (lo, 1) := ⟨_, rfl⟩
  obtain ⟨n, hn2⟩ : ∃ n, n = mulI v.1 (hi, 1) := ⟨_, rfl⟩
  have hR : realI w l a s = if openI w l true ≠ 0 then ((0, 0), (0, 0), openI w l true) else if v.2 ≠ 0 then ((0, 0), (0, 0), v.2) else if m.2 ≠ 0 then ((0, 0), (0, 0), m.2) else if n.2 ≠ 0 then ((0, 0), (0, 0), n.2) else (m.1, n.1, 0) := by
    unfold realI; rw [hn2, hm, hlo, hhi, hv]
  rw [← hlo, ← hhi] at hB
  rw [← hv] at hV
  rw [← hv, ← hlo, ← hm] at hM
  rw [← hv, ← hhi, ← hn2] at hN
  clear hm hn2 hv hlo hhi
  generalize openI w l true = e at *
  refine pure_of (fn := Try.f47) [.cell 8 67, .cell 9 67, .tmp 10] ⟨Try.func47, rfl, by kernel_rfl⟩ (by kernel_rfl) (by kernel_rfl) (by kernel_rfl) fun x hx hσ => ?_
  repeat refine awp_seq ?_
  refine awp_reg1 (by rw [hx]; kernel_rfl) fun K hK => ?_
  simp (config := { maxSteps := 1000000 }) [ty25, ty69, ty67]
  refine hK _ ?_
  clear hK K
  first | show AWP _ _ _ _ _ | show ∃ _, _ | skip
  repeat refine awp_seq ?_
  refine awp_reg1 (by rw [hx]; kernel_rfl) fun K hK => ?_
  simp (config := { maxSteps := 1000000 }) [ty25, ty23]
  refine callP (hB) (by first | (simp; done) | (simp [*]; done)) ?_
  simp (config := { maxSteps := 1000000 }) [ty23, ty31]
  refine hK _ ?_
  clear hK K
  first | show AWP _ _ _ _ _ | show ∃ _, _ | skip
  repeat refine awp_seq ?_
  refine awp_reg1 (by rw [hx]; kernel_rfl) fun K hK => ?_
  simp (config := { maxSteps := 1000000 }) [ty31]
  refine hK _ ?_
  clear hK K
  first | show AWP _ _ _ _ _ | show ∃ _, _ | skip
  by_cases h1 : e = 0
  · rw [if_neg (by simp [h1])] at hR
    repeat refine awp_seq ?_
    refine awp_cond (by simp [h1]; rfl) (by rw [hx]; simp) (fun hd => ?_) (fun hd => ?_)
    · simp at hd
    · clear hd
      refine awp_skip ?_
      first | show AWP _ _ _ _ _ | show ∃ _, _ | skip
      repeat refine awp_seq ?_
      refine awp_reg1 (by rw [hx]; kernel_rfl) fun K hK => ?_
      simp (config := { maxSteps := 1000000 }) [ty69, ty67]
      refine callP (hV) (by first | (simp; done) | (simp [*]; done)) ?_
      simp (config := { maxSteps := 1000000 }) [ty67, ty31]
      refine hK _ ?_
      clear hK K
      first | show AWP _ _ _ _ _ | show ∃ _, _ | skip
      repeat refine awp_seq ?_
      refine awp_reg1 (by rw [hx]; kernel_rfl) fun K hK => ?_
      simp (config := { maxSteps := 1000000 }) [ty31]
      refine hK _ ?_
      clear hK K
      first | show AWP _ _ _ _ _ | show ∃ _, _ | skip
      by_cases h2 : v.2 = 0
      · rw [if_neg (by simp [h2])] at hR
        repeat refine awp_seq ?_
        refine awp_cond (by simp [h2]; rfl) (by rw [hx]; simp) (fun hd => ?_) (fun hd => ?_)
        · simp [h2] at hd
        · clear hd
          refine awp_skip ?_
          first | show AWP _ _ _ _ _ | show ∃ _, _ | skip
          repeat refine awp_seq ?_
          refine awp_reg1 (by rw [hx]; kernel_rfl) fun K hK => ?_
          simp (config := { maxSteps := 1000000 }) [ty67, ty23, ty3]
          refine callP (hM) (by first | (simp; done) | (simp [*]; done)) ?_
          simp (config := { maxSteps := 1000000 }) [ty67, ty31]
          refine hK _ ?_
          clear hK K
          first | show AWP _ _ _ _ _ | show ∃ _, _ | skip
          repeat refine awp_seq ?_
          refine awp_reg1 (by rw [hx]; kernel_rfl) fun K hK => ?_
          simp (config := { maxSteps := 1000000 }) [ty31]
          refine hK _ ?_
          clear hK K
          first | show AWP _ _ _ _ _ | show ∃ _, _ | skip
          by_cases h3 : m.2 = 0
          · rw [if_neg (by simp [h3])] at hR
            repeat refine awp_seq ?_
            refine awp_cond (by simp [h3]; rfl) (by rw [hx]; simp) (fun hd => ?_) (fun hd => ?_)
            · simp [h3] at hd
            · clear hd
              refine awp_skip ?_
              first | show AWP _ _ _ _ _ | show ∃ _, _ | skip
              repeat refine awp_seq ?_
              refine awp_reg1 (by rw [hx]; kernel_rfl) fun K hK => ?_
              simp (config := { maxSteps := 1000000 }) [ty67, ty23, ty3]
              refine callP (hN) (by first | (simp; done) | (simp [*]; done)) ?_
              simp (config := { maxSteps := 1000000 }) [ty67, ty31]
              refine hK _ ?_
              clear hK K
              first | show AWP _ _ _ _ _ | show ∃ _, _ | skip
              repeat refine awp_seq ?_
              refine awp_reg1 (by rw [hx]; kernel_rfl) fun K hK => ?_
              simp (config := { maxSteps := 1000000 }) [ty31]
              refine hK _ ?_
              clear hK K
              first | show AWP _ _ _ _ _ | show ∃ _, _ | skip
              by_cases h4 : n.2 = 0
              · rw [if_neg (by simp [h4])] at hR
                repeat refine awp_seq ?_
                refine awp_cond (by simp [h4]; rfl) (by rw [hx]; simp) (fun hd => ?_) (fun hd => ?_)
                · simp [h4] at hd
                · clear hd
                  refine awp_skip ?_
                  first | show AWP _ _ _ _ _ | show ∃ _, _ | skip
                  repeat refine awp_seq ?_
                  refine awp_drw3 [1001, 2002, 10008] [0, 1, 2, 3, 4] (by rw [hx]; kernel_rfl) (by kernel_rfl) (by kernel_rfl) (by kernel_rfl) fun K hK => ?_
                  simp (config := { maxSteps := 1000000 }) [ty67]
                  refine hK _ ?_
                  clear hK K
                  first | show AWP _ _ _ _ _ | show ∃ _, _ | skip
                  repeat refine awp_seq ?_
                  refine awp_ret ?_
                  refine And.intro (Or.inr rfl) ?_
                  simp [retC, resC, viewC, mapO, ty67, hR]
              · rw [if_pos h4] at hR
                repeat refine awp_seq ?_
                refine awp_cond (by simp [h4]; rfl) (by rw [hx]; simp) (fun hd => ?_) (fun hd => ?_)
                · clear hd
                  repeat refine awp_seq ?_
                  refine awp_reg1 (by rw [hx]; kernel_rfl) fun K hK => ?_
                  simp (config := { maxSteps := 1000000 }) [ty67]
                  refine hK _ ?_
                  clear hK K
                  first | show AWP _ _ _ _ _ | show ∃ _, _ | skip
                  repeat refine awp_seq ?_
                  refine awp_ret ?_
                  refine And.intro (Or.inr rfl) ?_
                  simp [retC, resC, viewC, mapO, ty67, hR]
                · simp [h4] at hd
          · rw [if_pos h3] at hR
            repeat refine awp_seq ?_
            refine awp_cond (by simp [h3]; rfl) (by rw [hx]; simp) (fun hd => ?_) (fun hd => ?_)
            · clear hd
              repeat refine awp_seq ?_
              refine awp_reg1 (by rw [hx]; kernel_rfl) fun K hK => ?_
              simp (config := { maxSteps := 1000000 }) [ty67]
              refine hK _ ?_
              clear hK K
              first | show AWP _ _ _ _ _ | show ∃ _, _ | skip
              repeat refine awp_seq ?_
              refine awp_ret ?_
              refine And.intro (Or.inr rfl) ?_
              simp [retC, resC, viewC, mapO, ty67, hR]
            · simp [h3] at hd
      · rw [if_pos h2] at hR
        repeat refine awp_seq ?_
        refine awp_cond (by simp [h2]; rfl) (by rw [hx]; simp) (fun hd => ?_) (fun hd => ?_)
        · clear hd
          repeat refine awp_seq ?_
          refine awp_reg1 (by rw [hx]; kernel_rfl) fun K hK => ?_
          simp (config := { maxSteps := 1000000 }) [ty67]
          refine hK _ ?_
          clear hK K
          first | show AWP _ _ _ _ _ | show ∃ _, _ | skip
          repeat refine awp_seq ?_
          refine awp_ret ?_
          refine And.intro (Or.inr rfl) ?_
          simp [retC, resC, viewC, mapO, ty67, hR]
        · simp [h2] at hd
  · rw [if_pos h1] at hR
    repeat refine awp_seq ?_
    refine awp_cond (by simp [h1]; rfl) (by rw [hx]; simp) (fun hd => ?_) (fun hd => ?_)
    · clear hd
      repeat refine awp_seq ?_
      refine awp_reg1 (by rw [hx]; kernel_rfl) fun K hK => ?_
      simp (config := { maxSteps := 1000000 }) [ty67]
      refine hK _ ?_
      clear hK K
      first | show AWP _ _ _ _ _ | show ∃ _, _ | skip
      repeat refine awp_seq ?_
      refine awp_ret ?_
      refine And.intro (Or.inr rfl) ?_
      simp [retC, resC, viewC, mapO, ty67, hR]
    · simp [h1] at hd

theorem far44 (a : Arm) : ∃ b, Pure Try.prog 44 [encArm a] (.bool b) := by
  cases hb : armB a
  · refine ⟨false, ?_⟩
    have h := isArm72 a
    rw [hb] at h
    refine pure_of (fn := Try.f44) [.tmp 2] ⟨Try.func44, rfl, by kernel_rfl⟩ (by kernel_rfl) (by kernel_rfl) (by kernel_rfl) fun x hx hσ => ?_
    repeat refine awp_seq ?_
    refine awp_reg1 (by rw [hx]; kernel_rfl) fun K hK => ?_
    simp (config := { maxSteps := 1000000 }) [ty69]
    refine hK _ ?_
    clear hK K
    first | show AWP _ _ _ _ _ | show ∃ _, _ | skip
    repeat refine awp_seq ?_
    refine awp_reg1 (by rw [hx]; kernel_rfl) fun K hK => ?_
    simp (config := { maxSteps := 1000000 }) [ty69]
    refine callP (h) (by first | (simp; done) | (simp [*]; done)) ?_
    simp (config := { maxSteps := 1000000 }) [ty4]
    refine hK _ ?_
    clear hK K
    first | show AWP _ _ _ _ _ | show ∃ _, _ | skip
    repeat refine awp_seq ?_
    refine awp_ret ?_
    refine And.intro (Or.inr rfl) ?_
    simp [retC, resC, viewC, mapO]
  · have h := isArm72 a
    rw [hb] at h
    have hok := armB_ok hb
    have h5 := hok.low
    have w1 := wrap_id (z := a.high - a.low) (by omega) (by omega)
    refine ⟨decide (400 < a.high - a.low), ?_⟩
    refine pure_of (fn := Try.f44) [.tmp 2] ⟨Try.func44, rfl, by kernel_rfl⟩ (by kernel_rfl) (by kernel_rfl) (by kernel_rfl) fun x hx hσ => ?_
    repeat refine awp_seq ?_
    refine awp_reg1 (by rw [hx]; kernel_rfl) fun K hK => ?_
    simp (config := { maxSteps := 1000000 }) [ty69]
    refine hK _ ?_
    clear hK K
    first | show AWP _ _ _ _ _ | show ∃ _, _ | skip
    repeat refine awp_seq ?_
    refine awp_reg1 (by rw [hx]; kernel_rfl) fun K hK => ?_
    simp (config := { maxSteps := 1000000 }) [ty69]
    refine callP (h) (by first | (simp; done) | (simp [*]; done)) ?_
    simp (config := { maxSteps := 1000000 }) [ty4, ty69, ty3, w1]
    refine hK _ ?_
    clear hK K
    first | show AWP _ _ _ _ _ | show ∃ _, _ | skip
    repeat refine awp_seq ?_
    refine awp_ret ?_
    refine And.intro (Or.inr rfl) ?_
    simp [retC, resC, viewC, mapO]

end Go.Proofs.Ytmmoghgpaagnhaa

namespace Go.Proofs.Ytmmoghgpaagnhaa
open Go Go.Abs

set_option maxHeartbeats 4000000

theorem eqI2 (a b : Int) : eqInts [.i64, .i64] [encI a, encI b] [encI a, encI b] = some true := by simp [eqInts]

theorem strI_len (w : Wh) (l : List Wl) : (strI w l).length ≤ l.length := by
  unfold strI
  split
  · exact fixTo_len _ _
  · simp

theorem law9 (w : Wh) (nl fu : Bool) (l : List Wl) : Pure Try.prog 9 [encWh w, sWl nl fu l] (.bool true) := by
  obtain ⟨f, hF, hf⟩ := far12 w nl fu l
  have l1 := numsI_len Tr.area w l
  have l2 := numsI_len Tr.skew w l
  have l3 := strI_len w l
  have q2 := eqI2 (boundI w l).1 (boundI w l).2
  refine pure_of (fn := Try.f9) [.tmp 4] ⟨Try.func9, rfl, by kernel_rfl⟩ (by kernel_rfl) (by kernel_rfl) (by kernel_rfl) fun x hx hσ => ?_
  repeat refine awp_seq ?_
  refine awp_reg1 (by rw [hx]; kernel_rfl) fun K hK => ?_
  simp (config := { maxSteps := 1000000 }) [ty25]
  refine hK _ ?_
  clear hK K
  first | show AWP _ _ _ _ _ | show ∃ _, _ | skip
  repeat refine awp_seq ?_
  refine awp_reg1 (by rw [hx]; kernel_rfl) fun K hK => ?_
  simp (config := { maxSteps := 1000000 }) [ty25]
  refine callP (hF) (by first | (simp; done) | (simp [*]; done)) ?_
  simp (config := { maxSteps := 1000000 }) [ty4]
  refine hK _ ?_
  clear hK K
  first | show AWP _ _ _ _ _ | show ∃ _, _ | skip
  cases f
  · repeat refine awp_seq ?_
    refine awp_cond (by simp; rfl) (by rw [hx]; simp) (fun hd => ?_) (fun hd => ?_)
    · simp at hd
    · clear hd
      obtain ⟨h40, _⟩ := hf rfl
      have s1 := same29 (numsI Tr.area w l).isEmpty (numsI Tr.area w l).isEmpty (numsI Tr.area w l).isEmpty false (numsI Tr.area w l) (numsI Tr.area w l) (by omega) (by omega)
      have s2 := same29 (numsI Tr.skew w l).isEmpty (numsI Tr.skew w l).isEmpty (numsI Tr.skew w l).isEmpty (openI w l true != 0) (numsI Tr.skew w l) (numsI Tr.skew w l) (by omega) (by omega)
      have s3 := same29 (strI w l).isEmpty (openI w l true != 0) (strI w l).isEmpty (openI w l true != 0) (strI w l) (strI w l) (by omega) (by omega)
      rw [decide_eq_true rfl] at s1 s2 s3
      have a1 := areas22 w false false l (by omega)
      have a2 := ref34 w nl fu l (by omega)
      have a3 := bound21 w false false l (by omega)
      have a4 := ref35 w nl fu l (by omega)
      have a5 := skews36 w false false l (by omega)
      have a6 := ref37 w nl fu l (by omega)
      have a7 := strange38 w false false l (by omega)
      have a8 := ref39 w nl fu l (by omega)
      have a9 := many20 w false false l (by omega)
      have a10 := ref33 w nl fu l (by omega)
      have a11 := fewest28 w false false l (by omega)
      have a12 := ref32 w nl fu l (by omega)
      have a13 := check30 w false false l (by omega)
      have a14 := ref31 w nl fu l (by omega)
      generalize numsI Tr.area w l = A at *
      generalize numsI Tr.skew w l = S at *
      generalize strI w l = G at *
      generalize openI w l true = e at *
      generalize manyN w l = m at *
      generalize fewestN w l = n at *
      generalize checkI w l = c at *
      generalize (boundI w l).1 = b1 at *
      generalize (boundI w l).2 = b2 at *
      refine awp_skip ?_
      first | show AWP _ _ _ _ _ | show ∃ _, _ | skip
      repeat refine awp_seq ?_
      refine awp_reg1 (by rw [hx]; kernel_rfl) fun K hK => ?_
      simp (config := { maxSteps := 1000000 }) [ty26, ty39]
      refine ⟨by omega, ?_⟩
      refine hK _ ?_
      clear hK K
      first | show AWP _ _ _ _ _ | show ∃ _, _ | skip
      refine AWP.weak ?_ (wk_frz 5 30 (c := sWl false false l) (o := ⟨l.isEmpty, true, 5, l.map cWl⟩) (by simp) (by simp [purel, C.isPure]) (by
        have := fz_own (k := 30) (sz := 5) (n := l.length) (b := false) (o := ⟨l.isEmpty, true, 5, l.map cWl⟩) rfl (by simp) (by simp)
        simpa using this))
      repeat refine awp_seq ?_
      refine awp_drw3 [] [0, 1, 2, 3, 4, 5, 6] (by rw [hx]; kernel_rfl) (by kernel_rfl) (by kernel_rfl) (by kernel_rfl) fun K hK => ?_
      simp (config := { maxSteps := 1000000 }) [ty25, ty31]
      refine callPD (a13) (by first | (simp; done) | (simp [*]; done)) (by simp) ?_
      simp (config := { maxSteps := 1000000 }) [ty25, ty31]
      refine callPD (a14) (by first | (simp; done) | (simp [*]; done)) (by simp) ?_
      simp (config := { maxSteps := 1000000 }) [ty25, ty31]
      refine hK _ ?_
      clear hK K
      first | show AWP _ _ _ _ _ | show ∃ _, _ | skip
      repeat refine awp_seq ?_
      refine awp_cond (by simp; rfl) (by rw [hx]; simp) (fun hd => ?_) (fun hd => ?_)
      · simp at hd
      · clear hd
        refine awp_skip ?_
        first | show AWP _ _ _ _ _ | show ∃ _, _ | skip
        repeat refine awp_seq ?_
        refine awp_reg1 (by rw [hx]; kernel_rfl) fun K hK => ?_
        simp (config := { maxSteps := 1000000 }) [ty25]
        refine callP (a11) (by first | (simp; done) | (simp [*]; done)) ?_
        simp (config := { maxSteps := 1000000 }) [ty3, ty31]
        refine hK _ ?_
        clear hK K
        first | show AWP _ _ _ _ _ | show ∃ _, _ | skip
        repeat refine awp_seq ?_
        refine awp_reg1 (by rw [hx]; kernel_rfl) fun K hK => ?_
        simp (config := { maxSteps := 1000000 }) [ty25]
        refine callP (a12) (by first | (simp; done) | (simp [*]; done)) ?_
        simp (config := { maxSteps := 1000000 }) [ty3, ty31]
        refine hK _ ?_
        clear hK K
        first | show AWP _ _ _ _ _ | show ∃ _, _ | skip
        repeat refine awp_seq ?_
        refine awp_reg1 (by rw [hx]; kernel_rfl) fun K hK => ?_
        simp (config := { maxSteps := 1000000 }) [ty25]
        refine callP (a9) (by first | (simp; done) | (simp [*]; done)) ?_
        simp (config := { maxSteps := 1000000 }) [ty3, ty31]
        refine hK _ ?_
        clear hK K
        first | show AWP _ _ _ _ _ | show ∃ _, _ | skip
        repeat refine awp_seq ?_
        refine awp_reg1 (by rw [hx]; kernel_rfl) fun K hK => ?_
        simp (config := { maxSteps := 1000000 }) [ty25]
        refine callP (a10) (by first | (simp; done) | (simp [*]; done)) ?_
        simp (config := { maxSteps := 1000000 }) [ty3, ty31]
        refine hK _ ?_
        clear hK K
        first | show AWP _ _ _ _ _ | show ∃ _, _ | skip
        repeat refine awp_seq ?_
        refine awp_reg1 (by rw [hx]; kernel_rfl) fun K hK => ?_
        simp (config := { maxSteps := 1000000 }) [ty25]
        refine callP (a1) (by first | (simp; done) | (simp [*]; done)) ?_
        simp (config := { maxSteps := 1000000 }) [ty45, ty31]
        refine hK _ ?_
        clear hK K
        first | show AWP _ _ _ _ _ | show ∃ _, _ | skip
        repeat refine awp_seq ?_
        refine awp_reg1 (by rw [hx]; kernel_rfl) fun K hK => ?_
        simp (config := { maxSteps := 1000000 }) [ty25]
        refine callP (a2) (by first | (simp; done) | (simp [*]; done)) ?_
        simp (config := { maxSteps := 1000000 }) [ty45, ty31]
        refine hK _ ?_
        clear hK K
        first | show AWP _ _ _ _ _ | show ∃ _, _ | skip
        repeat refine awp_seq ?_
        refine awp_reg1 (by rw [hx]; kernel_rfl) fun K hK => ?_
        simp (config := { maxSteps := 1000000 }) [ty3, ty31]
        refine callP (s1) (by first | (simp; done) | (simp [*]; done)) ?_
        simp (config := { maxSteps := 1000000 }) [ty4, ty31]
        refine hK _ ?_
        clear hK K
        first | show AWP _ _ _ _ _ | show ∃ _, _ | skip
        repeat refine awp_seq ?_
        refine awp_cond (by simp; rfl) (by rw [hx]; simp) (fun hd => ?_) (fun hd => ?_)
        · simp at hd
        · clear hd
          refine awp_skip ?_
          first | show AWP _ _ _ _ _ | show ∃ _, _ | skip
          repeat refine awp_seq ?_
          refine awp_reg1 (by rw [hx]; kernel_rfl) fun K hK => ?_
          simp (config := { maxSteps := 1000000 }) [ty25, ty23]
          refine callP (a3) (by first | (simp; done) | (simp [*]; done)) ?_
          simp (config := { maxSteps := 1000000 }) [ty23, ty31]
          refine hK _ ?_
          clear hK K
          first | show AWP _ _ _ _ _ | show ∃ _, _ | skip
          repeat refine awp_seq ?_
          refine awp_reg1 (by rw [hx]; kernel_rfl) fun K hK => ?_
          simp (config := { maxSteps := 1000000 }) [ty25, ty23]
          refine callP (a4) (by first | (simp; done) | (simp [*]; done)) ?_
          simp (config := { maxSteps := 1000000 }) [ty23, ty31]
          refine hK _ ?_
          clear hK K
          first | show AWP _ _ _ _ _ | show ∃ _, _ | skip
          repeat refine awp_seq ?_
          refine awp_reg1 (by rw [hx]; kernel_rfl) fun K hK => ?_
          simp (config := { maxSteps := 1000000 }) [ty25]
          refine callP (a5) (by first | (simp; done) | (simp [*]; done)) ?_
          simp (config := { maxSteps := 1000000 }) [ty45, ty31]
          refine hK _ ?_
          clear hK K
          first | show AWP _ _ _ _ _ | show ∃ _, _ | skip
          repeat refine awp_seq ?_
          refine awp_reg1 (by rw [hx]; kernel_rfl) fun K hK => ?_
          simp (config := { maxSteps := 1000000 }) [ty25]
          refine callP (a6) (by first | (simp; done) | (simp [*]; done)) ?_
          simp (config := { maxSteps := 1000000 }) [ty45, ty31]
          refine hK _ ?_
          clear hK K
          first | show AWP _ _ _ _ _ | show ∃ _, _ | skip
          repeat refine awp_seq ?_
          refine awp_reg1 (by rw [hx]; kernel_rfl) fun K hK => ?_
          simp (config := { maxSteps := 1000000 }) [ty25]
          refine callP (a7) (by first | (simp; done) | (simp [*]; done)) ?_
          simp (config := { maxSteps := 1000000 }) [ty45, ty31]
          refine hK _ ?_
          clear hK K
          first | show AWP _ _ _ _ _ | show ∃ _, _ | skip
          repeat refine awp_seq ?_
          refine awp_reg1 (by rw [hx]; kernel_rfl) fun K hK => ?_
          simp (config := { maxSteps := 1000000 }) [ty25]
          refine callP (a8) (by first | (simp; done) | (simp [*]; done)) ?_
          simp (config := { maxSteps := 1000000 }) [ty45, ty31]
          refine hK _ ?_
          clear hK K
          first | show AWP _ _ _ _ _ | show ∃ _, _ | skip
          have q2' := q2
          simp only [encI] at q2'
          repeat refine awp_seq ?_
          refine awp_reg1 (by rw [hx]; kernel_rfl) fun K hK => ?_
          simp (config := { maxSteps := 1000000 }) [ty23, fe23, q2', ty31, ty4]
          refine callP (s2) (by first | (simp; done) | (simp [*]; done)) ?_
          simp (config := { maxSteps := 1000000 }) [ty4, ty31]
          refine callP (s3) (by first | (simp; done) | (simp [*]; done)) ?_
          simp (config := { maxSteps := 1000000 }) [ty4, ty31]
          refine callP (walks18 false false nl fu l (by omega)) (by first | (simp; done) | (simp [*]; done)) ?_
          simp (config := { maxSteps := 1000000 }) [ty4]
          refine callP (works13) (by first | (simp; done) | (simp [*]; done)) ?_
          simp (config := { maxSteps := 1000000 }) [ty4]
          refine hK _ ?_
          clear hK K
          first | show AWP _ _ _ _ _ | show ∃ _, _ | skip
          repeat refine awp_seq ?_
          refine awp_ret ?_
          refine And.intro (Or.inr rfl) ?_
          simp [retC, resC, viewC, mapO]
  · repeat refine awp_seq ?_
    refine awp_cond (by simp; rfl) (by rw [hx]; simp) (fun hd => ?_) (fun hd => ?_)
    · clear hd
      repeat refine awp_seq ?_
      refine awp_reg1 (by rw [hx]; kernel_rfl) fun K hK => ?_
      simp (config := { maxSteps := 1000000 }) []
      refine callP (works13) (by first | (simp; done) | (simp [*]; done)) ?_
      simp (config := { maxSteps := 1000000 }) []
      refine hK _ ?_
      clear hK K
      first | show AWP _ _ _ _ _ | show ∃ _, _ | skip
      repeat refine awp_seq ?_
      refine awp_ret ?_
      refine And.intro (Or.inr rfl) ?_
      simp [retC, resC, viewC, mapO]
    · simp at hd

end Go.Proofs.Ytmmoghgpaagnhaa

namespace Go.Proofs.Ytmmoghgpaagnhaa
open Go Go.Abs

set_option maxHeartbeats 4000000

theorem sh71 : shT Try.prog 6 71 = some (i64s 8) := by kernel_rfl
theorem ag71 : isAggT Try.prog 71 = true := by kernel_rfl
theorem fe67 : flatEq Try.prog 67 = some [.i64, .i64] := by kernel_rfl

@[simp] abbrev encAsk (k : Int) (a : Arm) (s : Int) : C := .agg [encI k, encI a.un, encI a.ud, encI a.rn, encI a.rd, encI a.low, encI a.high, encI s]
theorem arg71 {cs : List C} {ts : List TypeId} (h : ArgsFit Try.prog (71 :: ts) cs) : ∃ (k : Int) (a : Arm) (s : Int) (r : List C), cs = encAsk k a s :: r ∧ ArgsFit Try.prog ts r := by
  obtain ⟨zs, r, e1, rfl, h2⟩ := arg_flat sh71 ag71 h
  match zs, e1 with
  | [k, b, c, d, e, f, g, s], _ => exact ⟨k, ⟨b, c, d, e, f, g⟩, s, r, rfl, h2⟩

theorem tells_len (w : Wh) (l : List Wl) (k : Int) : (tellsI w l k).length ≤ 410000 := by
  unfold tellsI
  split
  · simp
  · split
    · simp
    · exact numsI_len _ _ _

theorem law11 (w : Wh) (nl fu : Bool) (l : List Wl) (k : Int) (a : Arm) (s : Int) : Pure Try.prog 11 [encWh w, sWl nl fu l, encAsk k a s] (.bool true) := by
  obtain ⟨f, hF, hf⟩ := far12 w nl fu l
  obtain ⟨f2, hF2⟩ := far44 a
  refine pure_of (fn := Try.f11) [.tmp 6] ⟨Try.func11, rfl, by kernel_rfl⟩ (by kernel_rfl) (by kernel_rfl) (by kernel_rfl) fun x hx hσ => ?_
  repeat refine awp_seq ?_
  refine awp_reg1 (by rw [hx]; kernel_rfl) fun K hK => ?_
  simp (config := { maxSteps := 1000000 }) [ty25, ty71]
  refine hK _ ?_
  clear hK K
  first | show AWP _ _ _ _ _ | show ∃ _, _ | skip
  cases f
  · obtain ⟨h40, _⟩ := hf rfl
    cases f2
    · have tl := tells_len w l k
      have b1 := tells27 w false false l k (by omega)
      have b2 := ref45 w nl fu l k (by omega)
      have b3 := real46 w false false l a s (by omega)
      have b4 := real47 w nl fu l a s (by omega)
      have s1 := same29 (tellsI w l k).isEmpty (tellsI w l k).isEmpty (tellsI w l k).isEmpty (checkI w l != 0 || !withinB k 0 (l.length - 1)) (tellsI w l k) (tellsI w l k) (by omega) (by omega)
      rw [decide_eq_true rfl] at s1
      generalize (checkI w l != 0 || !withinB k 0 (l.length - 1)) = fl at *
      generalize tellsI w l k = T at *
      generalize tellsE w l k = e at *
      generalize realI w l a s = R at *
      have q1 := eqI2 R.1.1 R.1.2
      have q2 := eqI2 R.2.1.1 R.2.1.2
      simp only [encI] at q1 q2
      repeat refine awp_seq ?_
      refine awp_reg1 (by rw [hx]; kernel_rfl) fun K hK => ?_
      simp (config := { maxSteps := 1000000 }) [ty25]
      refine callP (hF) (by first | (simp; done) | (simp [*]; done)) ?_
      simp (config := { maxSteps := 1000000 }) [ty4, ty71, ty69]
      refine callP (hF2) (by first | (simp; done) | (simp [*]; done)) ?_
      simp (config := { maxSteps := 1000000 }) [ty4]
      refine hK _ ?_
      clear hK K
      first | show AWP _ _ _ _ _ | show ∃ _, _ | skip
      repeat refine awp_seq ?_
      refine awp_cond (by simp; rfl) (by rw [hx]; simp) (fun hd => ?_) (fun hd => ?_)
      · simp at hd
      · clear hd
        refine awp_skip ?_
        first | show AWP _ _ _ _ _ | show ∃ _, _ | skip
        repeat refine awp_seq ?_
        refine awp_reg1 (by rw [hx]; kernel_rfl) fun K hK => ?_
        simp (config := { maxSteps := 1000000 }) [ty26, ty39]
        refine ⟨by omega, ?_⟩
        refine hK _ ?_
        clear hK K
        first | show AWP _ _ _ _ _ | show ∃ _, _ | skip
        refine AWP.weak ?_ (wk_frz 7 29 (c := sWl false false l) (o := ⟨l.isEmpty, true, 5, l.map cWl⟩) (by simp) (by simp [purel, C.isPure]) (by
          have := fz_own (k := 29) (sz := 5) (n := l.length) (b := false) (o := ⟨l.isEmpty, true, 5, l.map cWl⟩) rfl (by simp) (by simp)
          simpa using this))
        repeat refine awp_seq ?_
        refine awp_reg1 (by rw [hx]; kernel_rfl) fun K hK => ?_
        simp (config := { maxSteps := 1000000 }) [ty25, ty71, ty3]
        refine callP (b1) (by first | (simp; done) | (simp [*]; done)) ?_
        simp (config := { maxSteps := 1000000 }) [ty45, ty31]
        refine hK _ ?_
        clear hK K
        first | show AWP _ _ _ _ _ | show ∃ _, _ | skip
        repeat refine awp_seq ?_
        refine awp_reg1 (by rw [hx]; kernel_rfl) fun K hK => ?_
        simp (config := { maxSteps := 1000000 }) [ty25, ty71, ty3]
        refine callP (b2) (by first | (simp; done) | (simp [*]; done)) ?_
        simp (config := { maxSteps := 1000000 }) [ty45, ty31]
        refine hK _ ?_
        clear hK K
        first | show AWP _ _ _ _ _ | show ∃ _, _ | skip
        repeat refine awp_seq ?_
        refine awp_reg1 (by rw [hx]; kernel_rfl) fun K hK => ?_
        simp (config := { maxSteps := 1000000 }) [ty25, ty71, ty69, ty3]
        refine callP (b3) (by first | (simp; done) | (simp [*]; done)) ?_
        simp (config := { maxSteps := 1000000 }) [ty67, ty31]
        refine hK _ ?_
        clear hK K
        first | show AWP _ _ _ _ _ | show ∃ _, _ | skip
        repeat refine awp_seq ?_
        refine awp_reg1 (by rw [hx]; kernel_rfl) fun K hK => ?_
        simp (config := { maxSteps := 1000000 }) [ty25, ty71, ty69, ty3]
        refine callP (b4) (by first | (simp; done) | (simp [*]; done)) ?_
        simp (config := { maxSteps := 1000000 }) [ty67, ty31]
        refine hK _ ?_
        clear hK K
        first | show AWP _ _ _ _ _ | show ∃ _, _ | skip
        repeat refine awp_seq ?_
        refine awp_reg1 (by rw [hx]; kernel_rfl) fun K hK => ?_
        simp (config := { maxSteps := 1000000 }) [ty45]
        refine callP (s1) (by first | (simp; done) | (simp [*]; done)) ?_
        simp (config := { maxSteps := 1000000 }) [ty4, ty31, ty67, fe67, q1, q2]
        refine callP (walks18 false false nl fu l (by omega)) (by first | (simp; done) | (simp [*]; done)) ?_
        simp (config := { maxSteps := 1000000 }) [ty4]
        refine callP (works13) (by first | (simp; done) | (simp [*]; done)) ?_
        simp (config := { maxSteps := 1000000 }) [ty4]
        refine hK _ ?_
        clear hK K
        first | show AWP _ _ _ _ _ | show ∃ _, _ | skip
        repeat refine awp_seq ?_
        refine awp_ret ?_
        refine And.intro (Or.inr rfl) ?_
        simp [retC, resC, viewC, mapO]
    · repeat refine awp_seq ?_
      refine awp_reg1 (by rw [hx]; kernel_rfl) fun K hK => ?_
      simp (config := { maxSteps := 1000000 }) [ty25]
      refine callP (hF) (by first | (simp; done) | (simp [*]; done)) ?_
      simp (config := { maxSteps := 1000000 }) [ty4, ty71, ty69]
      refine callP (hF2) (by first | (simp; done) | (simp [*]; done)) ?_
      simp (config := { maxSteps := 1000000 }) [ty4]
      refine hK _ ?_
      clear hK K
      first | show AWP _ _ _ _ _ | show ∃ _, _ | skip
      repeat refine awp_seq ?_
      refine awp_cond (by simp; rfl) (by rw [hx]; simp) (fun hd => ?_) (fun hd => ?_)
      · clear hd
        repeat refine awp_seq ?_
        refine awp_reg1 (by rw [hx]; kernel_rfl) fun K hK => ?_
        simp (config := { maxSteps := 1000000 }) []
        refine callP (works13) (by first | (simp; done) | (simp [*]; done)) ?_
        simp (config := { maxSteps := 1000000 }) []
        refine hK _ ?_
        clear hK K
        first | show AWP _ _ _ _ _ | show ∃ _, _ | skip
        repeat refine awp_seq ?_
        refine awp_ret ?_
        refine And.intro (Or.inr rfl) ?_
        simp [retC, resC, viewC, mapO]
      · simp at hd
  · repeat refine awp_seq ?_
    refine awp_reg1 (by rw [hx]; kernel_rfl) fun K hK => ?_
    simp (config := { maxSteps := 1000000 }) [ty25]
    refine callP (hF) (by first | (simp; done) | (simp [*]; done)) ?_
    simp (config := { maxSteps := 1000000 }) [ty4]
    refine hK _ ?_
    clear hK K
    first | show AWP _ _ _ _ _ | show ∃ _, _ | skip
    repeat refine awp_seq ?_
    refine awp_cond (by simp; rfl) (by rw [hx]; simp) (fun hd => ?_) (fun hd => ?_)
    · clear hd
      repeat refine awp_seq ?_
      refine awp_reg1 (by rw [hx]; kernel_rfl) fun K hK => ?_
      simp (config := { maxSteps := 1000000 }) []
      refine callP (works13) (by first | (simp; done) | (simp [*]; done)) ?_
      simp (config := { maxSteps := 1000000 }) []
      refine hK _ ?_
      clear hK K
      first | show AWP _ _ _ _ _ | show ∃ _, _ | skip
      repeat refine awp_seq ?_
      refine awp_ret ?_
      refine And.intro (Or.inr rfl) ?_
      simp [retC, resC, viewC, mapO]
    · simp at hd

end Go.Proofs.Ytmmoghgpaagnhaa

namespace Go.Proofs.Ytmmoghgpaagnhaa
open Go Go.Abs
open Go.ChangeShapes Go.WideShapes Go.ChangeAt Go.RowKit

set_option maxRecDepth 100000 in
theorem wheelsTells_lifted (os : Os) (started : os.Started) (H : Type) (enc : TypeId × Value → H) :
    ReturnsInHanded {} Try.checked os 11 .any (Rows.wheelsTellsSpec.pre6 enc Try.prog Try.f11 Rows.wheelsTellsRow.domain false) (Rows.wheelsTellsSpec.post enc Try.prog Try.f11 false true false false) := by
  refine returnsInHanded_of_change (C := Try.checked) J.own started (by kernel_rfl) Try.func11
    (ChangeSpec.witness6 (enc := enc) (C := Try.checked) false ⟨#[], #[.agg #[.int .i64 0, .int .i64 0, .int .i64 0, .int .i64 0, .int .i64 0, .int .i64 0, .int .i64 0, .int .i64 0], .slice none 0 0, .agg #[.int .i64 0, .int .i64 0, .int .i64 0, .int .i64 0, .int .i64 0, .int .i64 0, .int .i64 0, .int .i64 0]], []⟩ 8 (by kernel_rfl) (by kernel_rfl) (by kernel_rfl) (by kernel_rfl)) ?_
  intro W base args ds gs before hval hW _ _
  refine law_contract (P := Try.prog) (tb := 4) (by kernel_rfl) J.ub rfl (fun ds hl => ?_) J.laid J.maps J.sized (by kernel_rfl) (by kernel_rfl) (fun cargs hc => ?_) W base args ds gs before hval hW
  · have h2 : ds.length = 3 := hl
    match ds, h2 with
    | [_, _, _], _ => rfl
  · rw [Try.params11] at hc
    obtain ⟨w, r, rfl, hc1⟩ := arg25 hc
    obtain ⟨nl, l, r', rfl, hc2⟩ := arg26 hc1
    obtain ⟨k, a, s, r'', rfl, hc3⟩ := arg71 hc2
    obtain rfl := arg_end hc3
    exact law11 w nl false l k a s

theorem wheelsTells_holds : Rows.WheelsTellsSaid :=
  OpenClaim.holds_of_wide 11 Try.f11 rfl rfl rfl rfl rfl rfl rfl ⟨rfl, rfl, rfl, rfl, rfl⟩ rfl rfl rfl rfl rfl (by kernel_rfl) Try.func11 (by kernel_rfl)
    (of_decide_eq_true (by kernel_rfl)) (by unfold Func.isWrapper; first | (rw [if_pos (by decide +kernel)]; kernel_rfl) | (rw [if_neg (by decide +kernel)]; exact ⟨rfl, rfl⟩))
    (fun os started H enc _ => wheelsTells_lifted os started H enc)
#print axioms wheelsTells_holds
end Go.Proofs.Ytmmoghgpaagnhaa

