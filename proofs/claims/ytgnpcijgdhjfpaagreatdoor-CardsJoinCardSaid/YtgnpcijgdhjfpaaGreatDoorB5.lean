/- The machine of abstract values and the contracts of the functions of the program, which the statements of this seat share. No condition. -/
import Derived.Test.YtgnpcijgdhjfpaaGreatDoorB4

set_option linter.unusedSimpArgs false
set_option linter.unusedVariables false
set_option linter.constructorNameAsVariable false

namespace Go.Proofs.YtgnpcijgdhjfpaaGreatDoor
open Go Go.Abs

set_option maxHeartbeats 8000000
set_option maxRecDepth 20000


theorem l_sameT18 (n1 f1 n2 f2 : Bool) (A B : List (List UInt8)) (hn : A.length ≤ 100000) : Pure Tryz.prog 18 [sT n1 f1 A, sT n2 f2 B] (.bool (A == B)) := by
 by_cases hlen : A.length = B.length
 ·have hne : ((A.length : Int) != (B.length : Int)) = false := by rw [hlen]; simp
  refine ZF (fn := Tryz.f18) [.tmp 4] ⟨Tryz.func18, rfl, by kernel_rfl⟩ fun x hx hσ => ?_
  (repeat refine ZQ ?_); refine ZR fun K hK => ?_; simp (maxSteps := 1000000) [ty4]; refine hK _ ?_; clear hK K
  (repeat refine ZQ ?_); refine ZR fun K hK => ?_; simp (maxSteps := 1000000) [ty22, ty3, hne]; refine hK _ ?_; clear hK K
  (repeat refine ZQ ?_); refine ZC (fun hd => ?_) (fun hd => ?_)
  ·simp at hd
  ·clear hd
   refine awp_skip ?_
   (repeat refine ZQ ?_); refine ZR fun K hK => ?_; simp (maxSteps := 1000000) [ty3]; refine hK _ ?_; clear hK K
   (repeat refine ZQ ?_); refine awp_block ?_
   refine awp_loop (fun i : Nat => ⟨ofL [(0, sT n1 f1 A), (1, sT n2 f2 B), (5, encI i)], stoT []⟩)
    (fun i => i ≤ A.length ∧ ∀ j (h1 : j < A.length) (h2 : j < B.length), j < i → A[j] = B[j]) (fun i => A.length - i) 0 ⟨Nat.zero_le _, fun j _ _ hj => absurd hj (by omega)⟩ ?_ ?_
   ·exact ZW
   ·intro i ⟨hi, hp⟩
    have w1 : IntKind.i64.wrap ((i : Int) + 1) = ((i + 1 : Nat) : Int) := by rw [wrap_id (by omega) (by omega)]; rfl
    (repeat refine ZQ ?_); refine ZR fun K hK => ?_; simp (maxSteps := 1000000) [ty22, ty3]; refine hK _ ?_; clear hK K
    (repeat refine ZQ ?_); refine ZC (fun hc => ?_) (fun hc => ?_)
    ·simp at hc
     have hc2 : i < B.length := by omega
     have he := str_ne A[i] B[i]
     refine awp_skip ?_
     (repeat refine ZQ ?_); refine awp_block ?_
     cases hb : A[i] == B[i]
     ·rw [hb] at he
      have hV : (A == B) = false := by
       rw [beq_eq_false_iff_ne]
       rintro rfl
       simp at hb
      rw [hV]
      (repeat refine ZQ ?_); refine ZD [] [0, 1, 2, 3, 4, 5, 6, 7, 8] fun K hK => ?_; simp (maxSteps := 1000000) [ty22, ty9, ty3, hc, hc2, he, -strBin]; refine hK _ ?_; clear hK K
      (repeat refine ZQ ?_); refine ZC (fun hd => ?_) (fun hd => ?_)
      ·clear hd
       (repeat refine ZQ ?_); refine ZR fun K hK => ?_; simp (maxSteps := 1000000) [ty4]; refine hK _ ?_; clear hK K
       (repeat refine ZQ ?_); refine awp_ret ?_; refine And.intro (Or.inr rfl) ?_
       simp [retC, resC, viewC, mapO]
      ·simp at hd
     ·rw [hb] at he
      (repeat refine ZQ ?_); refine ZD [] [0, 1, 2, 3, 4, 5, 6, 7, 8] fun K hK => ?_; simp (maxSteps := 1000000) [ty22, ty9, ty3, hc, hc2, he, -strBin]; refine hK _ ?_; clear hK K
      (repeat refine ZQ ?_); refine ZC (fun hd => ?_) (fun hd => ?_)
      ·simp at hd
      ·clear hd
       refine awp_skip ?_
       (repeat refine ZQ ?_); refine ZR fun K hK => ?_; simp (maxSteps := 1000000) [ty3, w1]; refine hK _ ?_; clear hK K; (first | show AWP _ _ _ _ _ | show ∃ _, _ | skip)
       refine ⟨i + 1, ⟨by omega, fun j h1 h2 h3 => ?_⟩, by omega, ?_⟩
       ·by_cases hji : j = i
        ·subst hji; simpa using hb
        ·exact hp j h1 h2 (by omega)
       ·exact ZW
    ·simp at hc
     (repeat refine ZQ ?_); refine awp_exit ?_; (first | show AWP _ _ _ _ _ | show ∃ _, _ | skip)
     have hV : (A == B) = true := by
      rw [beq_iff_eq]
      exact List.ext_getElem hlen fun j h1 h2 => hp j h1 h2 (by omega)
     rw [hV]
     (repeat refine ZQ ?_); refine ZR fun K hK => ?_; simp (maxSteps := 1000000) [ty4]; refine hK _ ?_; clear hK K
     (repeat refine ZQ ?_); refine awp_ret ?_; refine And.intro (Or.inr rfl) ?_
     simp [retC, resC, viewC, mapO]
 ·have hne : ((A.length : Int) != (B.length : Int)) = true := by rw [bne_iff_ne]; omega
  have hV : (A == B) = false := by
   rw [beq_eq_false_iff_ne]
   rintro rfl
   exact hlen rfl
  rw [hV]
  refine ZF (fn := Tryz.f18) [.tmp 4] ⟨Tryz.func18, rfl, by kernel_rfl⟩ fun x hx hσ => ?_
  (repeat refine ZQ ?_); refine ZR fun K hK => ?_; simp (maxSteps := 1000000) [ty4]; refine hK _ ?_; clear hK K
  (repeat refine ZQ ?_); refine ZR fun K hK => ?_; simp (maxSteps := 1000000) [ty22, ty3, hne]; refine hK _ ?_; clear hK K
  (repeat refine ZQ ?_); refine ZC (fun hd => ?_) (fun hd => ?_)
  ·clear hd
   (repeat refine ZQ ?_); refine ZR fun K hK => ?_; simp (maxSteps := 1000000) [ty4]; refine hK _ ?_; clear hK K
   (repeat refine ZQ ?_); refine awp_ret ?_; refine And.intro (Or.inr rfl) ?_
   simp [retC, resC, viewC, mapO]
  ·simp at hd

theorem l_sameI19 (n1 f1 n2 f2 : Bool) (A B : List Int) (hn : A.length ≤ 100000) : Pure Tryz.prog 19 [.sl n1 f1 (A.map cI), .sl n2 f2 (B.map cI)] (.bool (A == B)) := by
 by_cases hlen : A.length = B.length
 ·have hne : ((A.length : Int) != (B.length : Int)) = false := by rw [hlen]; simp
  refine ZF (fn := Tryz.f19) [.tmp 4] ⟨Tryz.func19, rfl, by kernel_rfl⟩ fun x hx hσ => ?_
  (repeat refine ZQ ?_); refine ZR fun K hK => ?_; simp (maxSteps := 1000000) [ty4]; refine hK _ ?_; clear hK K
  (repeat refine ZQ ?_); refine ZR fun K hK => ?_; simp (maxSteps := 1000000) [ty33, ty3, hne]; refine hK _ ?_; clear hK K
  (repeat refine ZQ ?_); refine ZC (fun hd => ?_) (fun hd => ?_)
  ·simp at hd
  ·clear hd
   refine awp_skip ?_
   (repeat refine ZQ ?_); refine ZR fun K hK => ?_; simp (maxSteps := 1000000) [ty3]; refine hK _ ?_; clear hK K
   (repeat refine ZQ ?_); refine awp_block ?_
   refine awp_loop (fun i : Nat => ⟨ofL [(0, .sl n1 f1 (A.map cI)), (1, .sl n2 f2 (B.map cI)), (5, encI i)], stoT []⟩)
    (fun i => i ≤ A.length ∧ ∀ j (h1 : j < A.length) (h2 : j < B.length), j < i → A[j] = B[j]) (fun i => A.length - i) 0 ⟨Nat.zero_le _, fun j _ _ hj => absurd hj (by omega)⟩ ?_ ?_
   ·exact ZW
   ·intro i ⟨hi, hp⟩
    have w1 : IntKind.i64.wrap ((i : Int) + 1) = ((i + 1 : Nat) : Int) := by rw [wrap_id (by omega) (by omega)]; rfl
    (repeat refine ZQ ?_); refine ZR fun K hK => ?_; simp (maxSteps := 1000000) [ty33, ty3]; refine hK _ ?_; clear hK K
    (repeat refine ZQ ?_); refine ZC (fun hc => ?_) (fun hc => ?_)
    ·simp at hc
     have hc2 : i < B.length := by omega
     refine awp_skip ?_
     (repeat refine ZQ ?_); refine awp_block ?_
     cases hb : A[i] != B[i]
     ·(repeat refine ZQ ?_); refine ZD [] [0, 1, 2, 3, 4, 5, 6, 7, 8] fun K hK => ?_; simp (maxSteps := 1000000) [ty33, ty3, hc, hc2, hb]; refine hK _ ?_; clear hK K
      (repeat refine ZQ ?_); refine ZC (fun hd => ?_) (fun hd => ?_)
      ·simp at hd
      ·clear hd
       refine awp_skip ?_
       (repeat refine ZQ ?_); refine ZR fun K hK => ?_; simp (maxSteps := 1000000) [ty3, w1]; refine hK _ ?_; clear hK K; (first | show AWP _ _ _ _ _ | show ∃ _, _ | skip)
       refine ⟨i + 1, ⟨by omega, fun j h1 h2 h3 => ?_⟩, by omega, ?_⟩
       ·by_cases hji : j = i
        ·subst hji; simpa using hb
        ·exact hp j h1 h2 (by omega)
       ·exact ZW
     ·have hV : (A == B) = false := by
       rw [beq_eq_false_iff_ne]
       rintro rfl
       simp at hb
      rw [hV]
      (repeat refine ZQ ?_); refine ZD [] [0, 1, 2, 3, 4, 5, 6, 7, 8] fun K hK => ?_; simp (maxSteps := 1000000) [ty33, ty3, hc, hc2, hb]; refine hK _ ?_; clear hK K
      (repeat refine ZQ ?_); refine ZC (fun hd => ?_) (fun hd => ?_)
      ·clear hd
       (repeat refine ZQ ?_); refine ZR fun K hK => ?_; simp (maxSteps := 1000000) [ty4]; refine hK _ ?_; clear hK K
       (repeat refine ZQ ?_); refine awp_ret ?_; refine And.intro (Or.inr rfl) ?_
       simp [retC, resC, viewC, mapO]
      ·simp at hd
    ·simp at hc
     (repeat refine ZQ ?_); refine awp_exit ?_; (first | show AWP _ _ _ _ _ | show ∃ _, _ | skip)
     have hV : (A == B) = true := by
      rw [beq_iff_eq]
      exact List.ext_getElem hlen fun j h1 h2 => hp j h1 h2 (by omega)
     rw [hV]
     (repeat refine ZQ ?_); refine ZR fun K hK => ?_; simp (maxSteps := 1000000) [ty4]; refine hK _ ?_; clear hK K
     (repeat refine ZQ ?_); refine awp_ret ?_; refine And.intro (Or.inr rfl) ?_
     simp [retC, resC, viewC, mapO]
 ·have hne : ((A.length : Int) != (B.length : Int)) = true := by rw [bne_iff_ne]; omega
  have hV : (A == B) = false := by
   rw [beq_eq_false_iff_ne]
   rintro rfl
   exact hlen rfl
  rw [hV]
  refine ZF (fn := Tryz.f19) [.tmp 4] ⟨Tryz.func19, rfl, by kernel_rfl⟩ fun x hx hσ => ?_
  (repeat refine ZQ ?_); refine ZR fun K hK => ?_; simp (maxSteps := 1000000) [ty4]; refine hK _ ?_; clear hK K
  (repeat refine ZQ ?_); refine ZR fun K hK => ?_; simp (maxSteps := 1000000) [ty33, ty3, hne]; refine hK _ ?_; clear hK K
  (repeat refine ZQ ?_); refine ZC (fun hd => ?_) (fun hd => ?_)
  ·clear hd
   (repeat refine ZQ ?_); refine ZR fun K hK => ?_; simp (maxSteps := 1000000) [ty4]; refine hK _ ?_; clear hK K
   (repeat refine ZQ ?_); refine awp_ret ?_; refine And.intro (Or.inr rfl) ?_
   simp [retC, resC, viewC, mapO]
  ·simp at hd

def farB (L : List (List UInt8)) (f : List UInt8) : Bool := decide (45 < L.length) || decide (9000 < f.length) || L.any fun l => decide (200 < l.length)

theorem l_far25 (nl fu : Bool) (L : List (List UInt8)) (f : List UInt8) (fb : ByteArray) (hf : fb = S f) : Pure Tryz.prog 25 [sT nl fu L, .str fb] (.bool (farB L f)) := by
 subst hf
 have hsz := S_size f
 have hsL := fun l => S_size l
 unfold farB
 by_cases h1 : 45 < L.length
 ·have h1' : (45 : Int) < L.length := by omega
  rw [decide_eq_true h1]
  refine ZF (fn := Tryz.f25) [.tmp 4] ⟨Tryz.func25, rfl, by kernel_rfl⟩ fun x hx hσ => ?_
  (repeat refine ZQ ?_); refine ZR fun K hK => ?_; simp (maxSteps := 1000000) [ty4]; refine hK _ ?_; clear hK K
  (repeat refine ZQ ?_); refine ZR fun K hK => ?_; simp (maxSteps := 1000000) [ty22, ty9, ty3, ty4, h1']; refine hK _ ?_; clear hK K
  (repeat refine ZQ ?_); refine ZC (hc := by simp [h1]; rfl) (fun hd => ?_) (fun hd => ?_)
  ·clear hd
   (repeat refine ZQ ?_); refine ZR fun K hK => ?_; simp (maxSteps := 1000000) [ty4]; refine hK _ ?_; clear hK K
   (repeat refine ZQ ?_); refine awp_ret ?_; refine And.intro (Or.inr rfl) ?_
   simp [retC, resC, viewC, mapO]
  ·simp [h1] at hd
 ·have h1' : ¬ (45 : Int) < L.length := by omega
  rw [decide_eq_false h1]
  by_cases h2 : 9000 < f.length
  ·have h2' : (9000 : Int) < f.length := by omega
   rw [decide_eq_true h2]
   refine ZF (fn := Tryz.f25) [.tmp 4] ⟨Tryz.func25, rfl, by kernel_rfl⟩ fun x hx hσ => ?_
   (repeat refine ZQ ?_); refine ZR fun K hK => ?_; simp (maxSteps := 1000000) [ty4]; refine hK _ ?_; clear hK K
   (repeat refine ZQ ?_); refine ZR fun K hK => ?_; simp (maxSteps := 1000000) [ty22, ty9, ty3, ty4, h1', hsz, h2']; refine hK _ ?_; clear hK K
   (repeat refine ZQ ?_); refine ZC (hc := by simp [h2]; rfl) (fun hd => ?_) (fun hd => ?_)
   ·clear hd
    (repeat refine ZQ ?_); refine ZR fun K hK => ?_; simp (maxSteps := 1000000) [ty4]; refine hK _ ?_; clear hK K
    (repeat refine ZQ ?_); refine awp_ret ?_; refine And.intro (Or.inr rfl) ?_
    simp [retC, resC, viewC, mapO]
   ·simp [h2] at hd
  ·have h2' : ¬ (9000 : Int) < f.length := by omega
   rw [decide_eq_false h2]
   simp only [Bool.false_or]
   refine ZF (fn := Tryz.f25) [.tmp 4] ⟨Tryz.func25, rfl, by kernel_rfl⟩ fun x hx hσ => ?_
   (repeat refine ZQ ?_); refine ZR fun K hK => ?_; simp (maxSteps := 1000000) [ty4]; refine hK _ ?_; clear hK K
   (repeat refine ZQ ?_); refine ZR fun K hK => ?_; simp (maxSteps := 1000000) [ty22, ty9, ty3, ty4, h1', hsz, h2']; refine hK _ ?_; clear hK K
   (repeat refine ZQ ?_); refine ZC (hc := by simp [h2]; rfl) (fun hd => ?_) (fun hd => ?_)
   ·simp [h2] at hd
   ·clear hd
    refine awp_skip ?_
    (repeat refine ZQ ?_); refine ZR fun K hK => ?_; simp (maxSteps := 1000000) [ty3]; refine hK _ ?_; clear hK K
    (repeat refine ZQ ?_); refine awp_block ?_
    refine awp_loop (fun i : Nat => ⟨ofL [(0, sT nl fu L), (5, encI i)], stoT []⟩)
     (fun i => i ≤ L.length ∧ ∀ j (hj : j < L.length), j < i → L[j].length ≤ 200) (fun i => L.length - i) 0 ⟨Nat.zero_le _, fun j _ hj => absurd hj (by omega)⟩ ?_ ?_
    ·exact ZW
    ·intro i ⟨hi, hp⟩
     have w1 : IntKind.i64.wrap ((i : Int) + 1) = ((i + 1 : Nat) : Int) := by rw [wrap_id (by omega) (by omega)]; rfl
     (repeat refine ZQ ?_); refine ZR fun K hK => ?_; simp (maxSteps := 1000000) [ty22, ty3]; refine hK _ ?_; clear hK K
     (repeat refine ZQ ?_); refine ZC (fun hc => ?_) (fun hc => ?_)
     ·simp at hc
      refine awp_skip ?_
      (repeat refine ZQ ?_); refine awp_block ?_
      by_cases hb : 200 < L[i].length
      ·have hb' : (200 : Int) < L[i].length := by omega
       rw [List.any_eq_true.2 ⟨_, List.getElem_mem hc, decide_eq_true hb⟩]
       (repeat refine ZQ ?_); refine ZR fun K hK => ?_; simp (maxSteps := 1000000) [ty22, ty9, ty3, hc, hsL, hb']; refine hK _ ?_; clear hK K
       (repeat refine ZQ ?_); refine ZC (hc := by simp [hb]; rfl) (fun hd => ?_) (fun hd => ?_)
       ·clear hd
        (repeat refine ZQ ?_); refine ZR fun K hK => ?_; simp (maxSteps := 1000000) [ty4]; refine hK _ ?_; clear hK K
        (repeat refine ZQ ?_); refine awp_ret ?_; refine And.intro (Or.inr rfl) ?_
        simp [retC, resC, viewC, mapO]
       ·simp [hb] at hd
      ·have hb' : ¬ (200 : Int) < L[i].length := by omega
       (repeat refine ZQ ?_); refine ZR fun K hK => ?_; simp (maxSteps := 1000000) [ty22, ty9, ty3, hc, hsL, hb']; refine hK _ ?_; clear hK K
       (repeat refine ZQ ?_); refine ZC (hc := by simp [hb]; rfl) (fun hd => ?_) (fun hd => ?_)
       ·simp [hb] at hd
       ·clear hd
        refine awp_skip ?_
        (repeat refine ZQ ?_); refine ZR fun K hK => ?_; simp (maxSteps := 1000000) [ty3, w1]; refine hK _ ?_; clear hK K; (first | show AWP _ _ _ _ _ | show ∃ _, _ | skip)
        refine ⟨i + 1, ⟨by omega, fun j h1 h2 => ?_⟩, by omega, ?_⟩
        ·by_cases hji : j = i
         ·subst hji; omega
         ·exact hp j h1 (by omega)
        ·exact ZW
     ·simp at hc
      (repeat refine ZQ ?_); refine awp_exit ?_; (first | show AWP _ _ _ _ _ | show ∃ _, _ | skip)
      have hV : (L.any fun l => decide (200 < l.length)) = false := by
       rw [Bool.eq_false_iff]
       intro hh
       obtain ⟨l, hl, h3⟩ := List.any_eq_true.1 hh
       obtain ⟨j, hj, rfl⟩ := List.getElem_of_mem hl
       have := hp j hj (by omega)
       have := of_decide_eq_true h3
       omega
      rw [hV]
      (repeat refine ZQ ?_); refine ZR fun K hK => ?_; simp (maxSteps := 1000000) [ty4]; refine hK _ ?_; clear hK K
      (repeat refine ZQ ?_); refine awp_ret ?_; refine And.intro (Or.inr rfl) ?_
      simp [retC, resC, viewC, mapO]

set_option maxHeartbeats 8000000
set_option maxRecDepth 20000


def exF : List UInt8 := [49, 50, 48, 50, 97, 98, 50, 49, 10, 50, 50, 48, 49, 99, 32, 50, 48, 10, 97, 50, 51, 50, 51, 53, 51, 53, 54, 54, 48, 54, 10, 98, 50, 52, 56, 53, 50, 48, 53, 54, 54, 48, 53, 10, 10]
def exT : List (List UInt8) := [[97, 98], [99]]
def exR : List UInt8 := [97, 50, 51, 50, 51, 53, 51, 53, 54, 54, 48, 54, 10, 98, 50, 52, 56, 53, 50, 48, 53, 54, 54, 48, 53, 10, 10]

theorem ex_texts : textsE exT = 0 := by decide
theorem ex_file : fileB exT = exF := by kernel_rfl
def exL1 : List (List UInt8) := [[97, 50, 51, 50, 51, 53, 51, 53, 54, 54, 48, 54], [98, 50, 52, 56, 53, 50, 48, 53, 54, 54, 48, 53]]
def exL2 : List (List UInt8) := [[49, 50, 48, 50, 97, 98, 50, 49], [50, 50, 48, 49, 99, 32, 50, 48], [97, 50, 51, 50, 51, 53, 51, 53, 54, 54, 48, 54], [98, 50, 52, 56, 53, 50, 48, 53, 54, 54, 48, 53]]
theorem split_eq (p l : List UInt8) : splitL p l = Lib.split l p := by
 unfold splitL
 rw [Lib.splitB_data]
 rw [S_list, S_list]
 rfl
theorem ex_cut1 : cutB exR = some [⟨false, true, exL1⟩] := by
 unfold cutB cutP badF
 simp only [split_eq]
 kernel_rfl
theorem ex_cut2 : cutB exF = some [⟨false, true, exL2⟩] := by
 unfold cutB cutP badF
 simp only [split_eq]
 kernel_rfl
theorem ex_read : rE exR = 0 ∧ rTx exR = exT ∧ rLo exR = [0, 1] := by
 have h : rP exR = [⟨false, true, exL1⟩] := by unfold rP; rw [ex_cut1]; rfl
 unfold rE rTx rLo
 rw [h, ex_cut1]
 refine ⟨?_, ?_, ?_⟩ <;> kernel_rfl
theorem ex_bad : (cutB exF).isSome = true ∧ bdL exF = [] := by
 have h : rP exF = [⟨false, true, exL2⟩] := by unfold rP; rw [ex_cut2]; rfl
 unfold bdL
 rw [h, ex_cut2]
 refine ⟨rfl, ?_⟩
 kernel_rfl

theorem l_works11 : Pure Tryz.prog 11 [] (.bool true) := by
 have hW : writeB exT = .tup [encS exF, encI 0] := by unfold writeB; rw [ex_texts, if_pos rfl, ex_file]
 have c12 : Pure Tryz.prog 12 [.sl false true [[.str ⟨#[97, 98]⟩], [.str ⟨#[99]⟩]]] (.tup [encS exF, encI 0]) := hW ▸ write12 false true exT (by decide)
 have c16 := read16 exR (by decide)
 obtain ⟨r1, r2, r3⟩ := ex_read
 rw [r1, r2, r3] at c16
 have c16 : Pure Tryz.prog 16 [encS exR] (.tup [sT false false exT, .sl false false [[encI 0], [encI 1]], encI 0]) := c16
 have c17 := bad17 exF (by decide)
 obtain ⟨b1, b2⟩ := ex_bad
 rw [b1, b2] at c17
 have c17' : Pure Tryz.prog 17 [.str ⟨#[49, 50, 48, 50, 97, 98, 50, 49, 10, 50, 50, 48, 49, 99, 32, 50, 48, 10, 97, 50, 51, 50, 51, 53, 51, 53, 54, 54, 48, 54, 10, 98, 50, 52, 56, 53, 50, 48, 53, 54, 54, 48, 53, 10, 10]⟩] (.tup [.sl true false [], encI 0]) := c17
 have hq := str_eq exF exF
 rw [beq_self_eq_true] at hq
 have hq' : strBin .eql (S exF) ⟨#[49, 50, 48, 50, 97, 98, 50, 49, 10, 50, 50, 48, 49, 99, 32, 50, 48, 10, 97, 50, 51, 50, 51, 53, 51, 53, 54, 54, 48, 54, 10, 98, 50, 52, 56, 53, 50, 48, 53, 54, 54, 48, 53, 10, 10]⟩ = some (.bool true) := hq
 have c18 := l_sameT18 false false false true exT exT (by decide)
 rw [beq_self_eq_true] at c18
 have c18' : Pure Tryz.prog 18 [sT false false exT, .sl false true [[.str ⟨#[97, 98]⟩], [.str ⟨#[99]⟩]]] (.bool true) := c18
 have c19 := l_sameI19 false false false true [0, 1] [0, 1] (by decide)
 rw [show (([0, 1] : List Int) == [0, 1]) = true by decide] at c19
 have c19' : Pure Tryz.prog 19 [.sl false false [[encI 0], [encI 1]], .sl false true [[encI 0], [encI 1]]] (.bool true) := c19
 have hex : ByteArray.extract ⟨#[49, 50, 48, 50, 97, 98, 50, 49, 10, 50, 50, 48, 49, 99, 32, 50, 48, 10, 97, 50, 51, 50, 51, 53, 51, 53, 54, 54, 48, 54, 10, 98, 50, 52, 56, 53, 50, 48, 53, 54, 54, 48, 53, 10, 10]⟩ 18 (ByteArray.size ⟨#[49, 50, 48, 50, 97, 98, 50, 49, 10, 50, 50, 48, 49, 99, 32, 50, 48, 10, 97, 50, 51, 50, 51, 53, 51, 53, 54, 54, 48, 54, 10, 98, 50, 52, 56, 53, 50, 48, 53, 54, 54, 48, 53, 10, 10]⟩) = S exR := (S_ext exF 18 45).trans rfl
 have c16' : Pure Tryz.prog 16 [.str (ByteArray.extract ⟨#[49, 50, 48, 50, 97, 98, 50, 49, 10, 50, 50, 48, 49, 99, 32, 50, 48, 10, 97, 50, 51, 50, 51, 53, 51, 53, 54, 54, 48, 54, 10, 98, 50, 52, 56, 53, 50, 48, 53, 54, 54, 48, 53, 10, 10]⟩ 18 (ByteArray.size ⟨#[49, 50, 48, 50, 97, 98, 50, 49, 10, 50, 50, 48, 49, 99, 32, 50, 48, 10, 97, 50, 51, 50, 51, 53, 51, 53, 54, 54, 48, 54, 10, 98, 50, 52, 56, 53, 50, 48, 53, 54, 54, 48, 53, 10, 10]⟩))] (.tup [sT false false exT, .sl false false [[encI 0], [encI 1]], encI 0]) := by rw [hex]; exact c16
 clear hex c16 c17 hq c18 c19
 generalize exT = T at *
 generalize exR = R at *
 generalize exF = F at *
 refine ZF (fn := Tryz.f11) [.tmp 0] ⟨Tryz.func11, rfl, by kernel_rfl⟩ fun x hx hσ => ?_
 (repeat refine ZQ ?_); refine ZR fun K hK => ?_; simp (maxSteps := 1000000) [ty4]; refine hK _ ?_; clear hK K
 (repeat refine ZQ ?_); refine ZR fun K hK => ?_; simp (maxSteps := 1000000) [ty22, ty9]
 refine ZP (c12) ?_; simp (maxSteps := 1000000) [ty9, ty26]
 refine hK _ ?_; clear hK K
 (repeat refine ZQ ?_); refine ZR fun K hK => ?_; simp (maxSteps := 1000000) [ty9]
 refine ⟨by decide, ?_⟩
 refine ZP (c16') ?_; simp (maxSteps := 1000000) [ty22, ty33, ty26]
 refine hK _ ?_; clear hK K
 (repeat refine ZQ ?_); refine ZR fun K hK => ?_; simp (maxSteps := 1000000) [ty9]
 refine ZP (c17') ?_; simp (maxSteps := 1000000) [ty33, ty26]
 refine hK _ ?_; clear hK K
 (repeat refine ZQ ?_); refine ZR fun K hK => ?_; simp (maxSteps := 1000000) [ty26, ty9, ty22, ty33, ty3, ty4, hq', -strBin]
 refine ZP (c18') ?_; simp (maxSteps := 1000000) [ty26, ty9, ty22, ty33, ty3, ty4]
 refine ZP (c19') ?_; simp (maxSteps := 1000000) [ty26, ty9, ty22, ty33, ty3, ty4]
 refine hK _ ?_; clear hK K
 (repeat refine ZQ ?_); refine awp_ret ?_; refine And.intro (Or.inr rfl) ?_
 simp [retC, resC, viewC, mapO]

set_option maxHeartbeats 8000000
set_option maxRecDepth 20000


theorem far_not {L : List (List UInt8)} {f : List UInt8} (h : farB L f = false) : L.length ≤ 45 ∧ (∀ l ∈ L, l.length ≤ 200) ∧ f.length ≤ 9000 := by
 unfold farB at h
 simp only [Bool.or_eq_false_iff, decide_eq_false_iff_not, List.any_eq_false, decide_eq_true_eq] at h
 exact ⟨by omega, fun l hl => by have := h.2 l hl; omega, by omega⟩

set_option maxHeartbeats 4000000
set_option maxRecDepth 20000


theorem card_head (b : UInt8) (m : Nat) (row : List UInt8) (hm : m ≤ 8) : headC (cardB b m row) = ⟨b, (m : Int), row⟩ ∧ (cardB b m row).take ((cardB b m row).length - 2) = headB b m row ∧ (cardB b m row).drop ((cardB b m row).length - 2) = checkB (headB b m row) := by
 have hlen : (cardB b m row).length - 2 = (headB b m row).length := by rw [card_len]; simp [headB]
 have h1 : (cardB b m row).take ((cardB b m row).length - 2) = headB b m row := by
  rw [hlen]; unfold cardB; exact List.take_left' rfl
 have h2 : (cardB b m row).drop ((cardB b m row).length - 2) = checkB (headB b m row) := by
  rw [hlen]; unfold cardB; exact List.drop_left' rfl
 refine ⟨?_, h1, h2⟩
 unfold headC
 rw [h1]
 have e1 : (cardB b m row).getD 1 0 = UInt8.ofNat (48 + m) := rfl
 have e0 : (cardB b m row).getD 0 0 = b := rfl
 rw [e0, e1]
 have : (UInt8.ofNat (48 + m)).toNat = 48 + m := by simp only [UInt8.toNat_ofNat']; omega
 rw [this]
 have e3 : (headB b m row).drop 2 = row := rfl
 rw [e3]
 congr 1
 omega

theorem dig_plain {l : List UInt8} (h : ∀ x ∈ l, 48 ≤ x.toNat ∧ x.toNat ≤ 57) : plainB l = true ∧ digB l = true := by
 refine ⟨List.all_eq_true.2 fun x hx => ?_, List.all_eq_true.2 fun x hx => ?_⟩
 ·have := h x hx
  simp only [Bool.and_eq_true, decide_eq_true_eq]; omega
 ·have := h x hx
  unfold dig1
  simp only [Bool.and_eq_true, decide_eq_true_eq]; omega

theorem check_pl (l : List UInt8) : ∀ x ∈ checkB l, 48 ≤ x.toNat ∧ x.toNat ≤ 57 := twoB_pl (by omega)

theorem card_ok (b : UInt8) (m : Nat) (row : List UInt8) (h1 : 1 ≤ m) (h8 : m ≤ 8) (hb : 32 ≤ b.toNat ∧ b.toNat ≤ 126) (hp : plainB row = true) (h3 : bad3 ⟨b, m, row⟩ = false)
  (hl : 2 ≤ longN ⟨b, m, row⟩ ∧ longN ⟨b, m, row⟩ ≤ 62) : parseOk (cardB b m row) = true ∧ parseC (cardB b m row) = ⟨b, m, row⟩ := by
 obtain ⟨e1, e2, e3⟩ := card_head b m row h8
 have hlen := card_len b m row
 have hr2 : 2 ≤ row.length := by
  have := hl.1
  unfold longN at this
  split at this <;> simp only at this <;> omega
 have hpl : plainB (cardB b m row) = true := by
  unfold cardB headB plainB
  simp only [List.all_append, List.all_cons, List.all_nil, Bool.and_true, Bool.and_eq_true, decide_eq_true_eq]
  have hc := (dig_plain (check_pl (headB b m row))).1
  have hm : (UInt8.ofNat (48 + m)).toNat = 48 + m := by simp only [UInt8.toNat_ofNat']; omega
  rw [hm]
  exact ⟨⟨⟨hb, by omega, by omega⟩, hp⟩, hc⟩
 have b1 : bad1 (cardB b m row) = false := by
  unfold bad1
  rw [hpl, hlen]
  simp; omega
 have b2 : bad2 (cardB b m row) = false := by
  unfold bad2
  rw [e1, e2, e3]
  simp only [beq_self_eq_true, Bool.not_true, Bool.false_or, Bool.or_eq_false_iff, decide_eq_false_iff_not]
  omega
 have b3 : bad3 (headC (cardB b m row)) = false := by rw [e1]; exact h3
 constructor
 ·unfold parseOk
  rw [b1, b2, b3, e1]
  simp only [Bool.not_false, Bool.true_and, Bool.and_eq_true, decide_eq_true_eq]
  exact hl
 ·unfold parseC
  rw [b1, b2, b3]
  exact e1

def cAt (T : List (List UInt8)) (i : Nat) : Cd := ⟨UInt8.ofNat (49 + i), T.length, rowB (T.getD i []) (longB T)⟩
def sumR (T : List (List UInt8)) (wt : Bool) : List UInt8 := sumsB (rowsB T) wt
def sumC (T : List (List UInt8)) (wt : Bool) : Cd := ⟨if wt then 98 else 97, T.length, sumR T wt⟩
def sumL (T : List (List UInt8)) (wt : Bool) : List UInt8 := cardB (if wt then 98 else 97) T.length (sumR T wt)

theorem mem_cards {T : List (List UInt8)} {c : List UInt8} : c ∈ cardsB T ↔ (∃ i, i < T.length ∧ c = cardAt T i) ∨ c = sumL T false ∨ c = sumL T true := by
 unfold cardsB cardsTo sumL sumR
 simp only [List.mem_append, List.mem_map, List.mem_range, List.mem_cons, List.not_mem_nil, or_false, Bool.false_eq_true, if_false, if_true]
 constructor
 ·rintro (⟨i, h1, h2⟩ | h)
  ·exact .inl ⟨i, h1, h2.symm⟩
  ·exact .inr h
 ·rintro (⟨i, h1, h2⟩ | h)
  ·exact .inl ⟨i, h1, h2.symm⟩
  ·exact .inr h

theorem rows_at {T : List (List UInt8)} {i : Nat} (hi : i < T.length) : (rowsB T).getD i [] = rowB (T.getD i []) (longB T) := by
 unfold rowsB
 simp [List.getD_eq_getElem?_getD, List.getElem?_eq_getElem hi]

theorem row_at_ok {T : List (List UInt8)} (h : PackOk T) {i : Nat} (hi : i < T.length) : (rowB (T.getD i []) (longB T)).length = longB T + 2 ∧ plainB (rowB (T.getD i []) (longB T)) = true := by
 obtain ⟨h1, h2, h3⟩ := h.rows
 have hm : rowB (T.getD i []) (longB T) ∈ rowsB T := by
  unfold rowsB
  refine List.mem_map.2 ⟨T[i], List.getElem_mem hi, ?_⟩
  simp [List.getD_eq_getElem?_getD, List.getElem?_eq_getElem hi]
 exact ⟨h3.len _ hm, h3.val _ hm⟩

theorem sumR_ok {T : List (List UInt8)} (h : PackOk T) (wt : Bool) : (sumR T wt).length = 2 * (longB T + 2) ∧ ∀ x ∈ sumR T wt, 48 ≤ x.toNat ∧ x.toNat ≤ 57 := by
 obtain ⟨h1, h2, h3⟩ := h.rows
 have hh : ((rowsB T).headD []).length = longB T + 2 := by
  have hpos := h3.many.1
  cases hR : rowsB T with
  | nil => rw [hR] at hpos; simp at hpos
  | cons a r => exact h3.len a (by rw [hR]; simp)
 unfold sumR sumsB
 rw [hh]
 exact ⟨sumsTo_len _ _ _, sums_pl _ _⟩

theorem cardAt_ok {T : List (List UInt8)} (h : PackOk T) {i : Nat} (hi : i < T.length) : parseOk (cardAt T i) = true ∧ parseC (cardAt T i) = cAt T i ∧ longN (cAt T i) = longB T + 2 := by
 obtain ⟨r1, r2⟩ := row_at_ok h hi
 have hL := h.rows.1
 have h8 := h.many
 have hn : (UInt8.ofNat (49 + i)).toNat = 49 + i := by simp only [UInt8.toNat_ofNat']; omega
 have hs : sumN (UInt8.ofNat (49 + i)) = false := by
  unfold sumN
  simp only [Bool.or_eq_false_iff, beq_eq_false_iff_ne]
  constructor <;> (intro e; have := congrArg UInt8.toNat e; rw [hn] at this; simp at this; omega)
 have hln : longN ⟨UInt8.ofNat (49 + i), (T.length : Int), rowB (T.getD i []) (longB T)⟩ = longB T + 2 := by
  unfold longN
  simp only [hs, Bool.false_eq_true, if_false]
  exact r1
 obtain ⟨g1, g2⟩ := card_ok (UInt8.ofNat (49 + i)) T.length (rowB (T.getD i []) (longB T)) h8.1 h8.2 (by rw [hn]; omega) r2 (by
  unfold bad3
  simp only [hs, Bool.false_eq_true, if_false, hn, Bool.or_eq_false_iff, decide_eq_false_iff_not]
  omega) (by rw [hln]; omega)
 exact ⟨g1, g2, hln⟩

theorem sumL_ok {T : List (List UInt8)} (h : PackOk T) (wt : Bool) : parseOk (sumL T wt) = true ∧ parseC (sumL T wt) = sumC T wt ∧ longN (sumC T wt) = longB T + 2 := by
 obtain ⟨r1, r2⟩ := sumR_ok h wt
 obtain ⟨p1, p2⟩ := dig_plain r2
 have hL := h.rows.1
 have h8 := h.many
 have hs : sumN (if wt then 98 else 97) = true := by cases wt <;> rfl
 have hln : longN ⟨if wt then 98 else 97, (T.length : Int), sumR T wt⟩ = longB T + 2 := by
  unfold longN
  simp only [hs, if_true]
  omega
 obtain ⟨g1, g2⟩ := card_ok (if wt then 98 else 97) T.length (sumR T wt) h8.1 h8.2 (by cases wt <;> decide) p1 (by
  unfold bad3
  simp only [hs, if_true, p2, Bool.not_true, Bool.or_false, r1, beq_eq_false_iff_ne]
  omega) (by rw [hln]; omega)
 exact ⟨g1, g2, hln⟩

theorem cnum_at {T : List (List UInt8)} (h : PackOk T) {i : Nat} (hi : i < T.length) : (cAt T i).num.toNat = 49 + i := by
 have := h.many
 unfold cAt
 simp only [UInt8.toNat_ofNat']; omega

theorem card_num {T : List (List UInt8)} (h : PackOk T) {c d : List UInt8} (hc : c ∈ cardsB T) (hd : d ∈ cardsB T) (e : (parseC c).num = (parseC d).num) : c = d := by
 have key : ∀ {c : List UInt8}, c ∈ cardsB T → (∃ i, i < T.length ∧ c = cardAt T i ∧ (parseC c).num.toNat = 49 + i) ∨ (∃ wt : Bool, c = sumL T wt ∧ (parseC c).num.toNat = if wt then 98 else 97) := by
  intro c hc
  rcases mem_cards.1 hc with ⟨i, hi, rfl⟩ | rfl | rfl
  ·exact .inl ⟨i, hi, rfl, by rw [(cardAt_ok h hi).2.1]; exact cnum_at h hi⟩
  ·exact .inr ⟨false, rfl, by rw [(sumL_ok h false).2.1]; rfl⟩
  ·exact .inr ⟨true, rfl, by rw [(sumL_ok h true).2.1]; rfl⟩
 have h8 := h.many
 have e' := congrArg UInt8.toNat e
 rcases key hc with ⟨i, hi, e1, e2⟩ | ⟨w, e1, e2⟩ <;> rcases key hd with ⟨j, hj, e3, e4⟩ | ⟨v, e3, e4⟩
 ·have : i = j := by omega
  subst this; rw [e1, e3]
 ·cases v <;> simp at e4 <;> omega
 ·cases w <;> simp at e2 <;> omega
 ·cases v <;> cases w <;> simp at e2 e4 <;> first | omega | (rw [e1, e3])

theorem cards_parse {T : List (List UInt8)} (h : PackOk T) {c : List UInt8} (hc : c ∈ cardsB T) : parseOk c = true ∧ (parseC c).many = T.length ∧ longN (parseC c) = longB T + 2 := by
 rcases mem_cards.1 hc with ⟨i, hi, rfl⟩ | rfl | rfl
 ·obtain ⟨h1, h2, h3⟩ := cardAt_ok h hi
  rw [h2]; exact ⟨h1, rfl, h3⟩
 ·obtain ⟨h1, h2, h3⟩ := sumL_ok h false
  rw [h2]; exact ⟨h1, rfl, h3⟩
 ·obtain ⟨h1, h2, h3⟩ := sumL_ok h true
  rw [h2]; exact ⟨h1, rfl, h3⟩

set_option maxHeartbeats 4000000
set_option maxRecDepth 20000


def rowsP (T pre : List (List UInt8)) : List (List UInt8) := (List.range T.length).map fun i => if cardAt T i ∈ pre then rowB (T.getD i []) (longB T) else []
def sumP (T pre : List (List UInt8)) (wt : Bool) : List UInt8 := if sumL T wt ∈ pre then sumR T wt else []
structure HI (T pre : List (List UInt8)) (s : HS) : Prop where
 rows : s.rows = rowsP T pre
 a : s.a = sumP T pre false
 b : s.b = sumP T pre true
 long : s.long = (longB T + 2 : Nat)
 many : s.many = T.length
 known : ∀ o ∈ s.known, ∃ c ∈ cardsB T, o = parseC c
def HJ (T pre : List (List UInt8)) (s : HS) : Prop := (s = zHS ∧ ∀ c ∈ cardsB T, c ∉ pre) ∨ (HI T pre s ∧ s.known ≠ [])
def Sub (ls T : List (List UInt8)) : Prop := ∀ l ∈ ls, parseOk l = true → l ∈ cardsB T

theorem card_i {T : List (List UInt8)} {i : Nat} (hi : i < T.length) : cardAt T i ∈ cardsB T := mem_cards.2 (.inl ⟨i, hi, rfl⟩)
theorem card_s {T : List (List UInt8)} (wt : Bool) : sumL T wt ∈ cardsB T := by
 cases wt
 ·exact mem_cards.2 (.inr (.inl rfl))
 ·exact mem_cards.2 (.inr (.inr rfl))
theorem card_ij {T : List (List UInt8)} (h : PackOk T) {i j : Nat} (hi : i < T.length) (hj : j < T.length) (e : cardAt T i = cardAt T j) : i = j := by
 have h1 := congrArg (fun c => (parseC c).num.toNat) e
 simp only [(cardAt_ok h hi).2.1, (cardAt_ok h hj).2.1, cnum_at h hi, cnum_at h hj] at h1
 omega
theorem card_is {T : List (List UInt8)} (h : PackOk T) {i : Nat} (hi : i < T.length) (wt : Bool) : cardAt T i ≠ sumL T wt := by
 intro e
 have h8 := h.many
 have h1 := congrArg (fun c => (parseC c).num.toNat) e
 simp only [(cardAt_ok h hi).2.1, (sumL_ok h wt).2.1, cnum_at h hi] at h1
 cases wt <;> simp [sumC] at h1 <;> omega
theorem card_ab {T : List (List UInt8)} (h : PackOk T) {v w : Bool} (e : sumL T v = sumL T w) : v = w := by
 have h1 := congrArg (fun c => (parseC c).num.toNat) e
 simp only [(sumL_ok h v).2.1, (sumL_ok h w).2.1] at h1
 cases v <;> cases w <;> simp [sumC] at h1 <;> rfl

theorem rowsP_len (T pre : List (List UInt8)) : (rowsP T pre).length = T.length := by simp [rowsP]

theorem beg_HI {T pre : List (List UInt8)} {s : HS} (h : PackOk T) (hj : HJ T pre s) {c : List UInt8} (hc : c ∈ cardsB T) : HI T pre (begH s (parseC c)) := by
 obtain ⟨_, c2, c3⟩ := cards_parse h hc
 rcases hj with ⟨rfl, h2⟩ | ⟨h1, h2⟩
 ·unfold begH
  rw [if_pos (show zHS.rows.isEmpty = true from rfl)]
  refine ⟨?_, ?_, ?_, ?_, c2, fun o ho => by simp [zHS] at ho⟩
  ·simp only [c2, Int.toNat_natCast]
   unfold rowsP
   refine List.ext_getElem (by simp) fun i g1 g2 => ?_
   simp only [List.length_replicate] at g1
   simp only [List.getElem_replicate, List.getElem_map, List.getElem_range]
   rw [if_neg (h2 _ (card_i g1))]
  ·unfold sumP; rw [if_neg (h2 _ (card_s false))]; rfl
  ·unfold sumP; rw [if_neg (h2 _ (card_s true))]; rfl
  ·simp only [c3]
 ·have hne : s.rows.isEmpty = false := by
   rw [h1.rows]
   have := rowsP_len T pre
   have h8 := h.many
   cases hq : rowsP T pre with
   | nil => rw [hq] at this; simp at this; omega
   | cons a b => rfl
  unfold begH
  rw [hne, if_neg (by simp)]
  exact h1

theorem no_clash {T pre : List (List UInt8)} {s : HS} (h : PackOk T) (hi : HI T pre s) {c : List UInt8} (hc : c ∈ cardsB T) : clash s (parseC c) = false := by
 obtain ⟨_, c2, c3⟩ := cards_parse h hc
 unfold clash
 rw [hi.many, hi.long, c2, c3]
 simp only [bne_self_eq_false, Bool.or_false]
 cases hq : lookN (parseC c).num s.known with
 | none => rfl
 | some o =>
  simp only
  obtain ⟨d, hd, rfl⟩ := hi.known o (List.mem_of_find?_eq_some hq)
  have hn : (parseC d).num = (parseC c).num := by simpa using List.find?_some hq
  rw [card_num h hd hc hn]
  simp [cdEq]

theorem put_HI {T pre : List (List UInt8)} {s : HS} (h : PackOk T) (hi : HI T pre s) {c : List UInt8} (hc : c ∈ cardsB T) : HI T (pre ++ [c]) (putH s (parseC c)) ∧ (putH s (parseC c)).known ≠ [] := by
 have hkn : ∀ o ∈ (putH s (parseC c)).known, ∃ c ∈ cardsB T, o = parseC c := by
  intro o ho
  unfold putH at ho
  simp only at ho
  split at ho
  ·exact hi.known o ho
  ·rcases List.mem_append.1 ho with ho | ho
   ·exact hi.known o ho
   ·simp at ho; exact ⟨c, hc, ho⟩
 have hk0 : (putH s (parseC c)).known ≠ [] := by
  unfold putH
  simp only
  split
  ·rename_i hq
   intro e
   rw [e] at hq; simp [lookN] at hq
  ·simp
 refine ⟨?_, hk0⟩
 have h8 := h.many
 rcases mem_cards.1 hc with ⟨i, hil, rfl⟩ | hs
 ·obtain ⟨_, p2, _⟩ := cardAt_ok h hil
  have hn := cnum_at h hil
  have hsn : sumN (cAt T i).num = false := by
   unfold sumN
   simp only [Bool.or_eq_false_iff, beq_eq_false_iff_ne]
   constructor <;> (intro e; have := congrArg UInt8.toNat e; rw [hn] at this; simp at this; omega)
  have hna : ((cAt T i).num == 97) = false := by unfold sumN at hsn; simp only [Bool.or_eq_false_iff] at hsn; exact hsn.1
  have hnb : ((cAt T i).num == 98) = false := by unfold sumN at hsn; simp only [Bool.or_eq_false_iff] at hsn; exact hsn.2
  refine ⟨?_, ?_, ?_, hi.long, hi.many, hkn⟩
  ·unfold putH
   simp only [p2, hsn, Bool.false_eq_true, if_false, hn, hi.rows]
   refine List.ext_getElem (by simp [rowsP]) fun j g1 g2 => ?_
   have hjl : j < T.length := by simpa [rowsP] using g2
   simp only [rowsP, List.getElem_set, List.getElem_map, List.getElem_range, List.mem_append, List.mem_singleton]
   by_cases hji : 49 + i - 49 = j
   ·have : i = j := by omega
    subst this
    rw [if_pos hji, if_pos (.inr rfl)]; rfl
   ·rw [if_neg hji]
    have : ¬ cardAt T j = cardAt T i := fun e => hji (by have := card_ij h hjl hil e; omega)
    simp only [this, or_false]
  ·unfold putH sumP
   simp only [p2, hna, Bool.false_eq_true, if_false, hi.a, List.mem_append, List.mem_singleton]
   have : ¬ sumL T false = cardAt T i := fun e => card_is h hil false e.symm
   simp only [this, or_false]; rfl
  ·unfold putH sumP
   simp only [p2, hnb, Bool.false_eq_true, if_false, hi.b, List.mem_append, List.mem_singleton]
   have : ¬ sumL T true = cardAt T i := fun e => card_is h hil true e.symm
   simp only [this, or_false]; rfl
 ·obtain ⟨wt, rfl⟩ : ∃ wt, c = sumL T wt := by rcases hs with h | h <;> exact ⟨_, h⟩
  obtain ⟨_, p2, _⟩ := sumL_ok h wt
  have hsn : sumN (sumC T wt).num = true := by cases wt <;> rfl
  have hR : ∀ i, i < T.length → (cardAt T i ∈ pre ++ [sumL T wt] ↔ cardAt T i ∈ pre) := fun i hil => by
   have := card_is h hil wt
   simp only [List.mem_append, List.mem_singleton, this, or_false]
  refine ⟨?_, ?_, ?_, hi.long, hi.many, hkn⟩
  ·unfold putH
   simp only [p2, hsn, if_true, hi.rows]
   unfold rowsP
   refine List.map_congr_left fun i hil => ?_
   simp only [hR i (List.mem_range.1 hil)]
  ·unfold putH
   simp only [p2, hi.a]
   cases wt
   ·have : (sumC T false).num == 97 := rfl
    rw [if_pos this]; unfold sumP; rw [if_pos (by simp)]; rfl
   ·have : ¬ ((sumC T true).num == 97) = true := by simp [sumC]
    rw [if_neg this]
    have hne : ¬ sumL T false = sumL T true := fun e => by cases card_ab h e
    unfold sumP
    simp only [List.mem_append, List.mem_singleton, hne, or_false]
  ·unfold putH
   simp only [p2, hi.b]
   cases wt
   ·have : ¬ ((sumC T false).num == 98) = true := by simp [sumC]
    rw [if_neg this]
    have hne : ¬ sumL T true = sumL T false := fun e => by cases card_ab h e
    unfold sumP
    simp only [List.mem_append, List.mem_singleton, hne, or_false]
   ·have : (sumC T true).num == 98 := rfl
    rw [if_pos this]; unfold sumP; rw [if_pos (by simp)]; rfl

theorem skip_HJ {T pre : List (List UInt8)} {s : HS} (h : PackOk T) (hj : HJ T pre s) {l : List UInt8} (hl : l ∉ cardsB T) : HJ T (pre ++ [l]) s := by
 have hR : ∀ c ∈ cardsB T, (c ∈ pre ++ [l] ↔ c ∈ pre) := fun c hc => by
  have : ¬ c = l := fun e => hl (e ▸ hc)
  simp only [List.mem_append, List.mem_singleton, this, or_false]
 rcases hj with ⟨h1, h2⟩ | ⟨h1, h2⟩
 ·exact .inl ⟨h1, fun c hc => by rw [hR c hc]; exact h2 c hc⟩
 ·refine .inr ⟨⟨?_, ?_, ?_, h1.long, h1.many, h1.known⟩, h2⟩
  ·rw [h1.rows]; unfold rowsP
   refine List.map_congr_left fun i hil => ?_
   simp only [hR _ (card_i (List.mem_range.1 hil))]
  ·rw [h1.a]; unfold sumP; simp only [hR _ (card_s false)]
  ·rw [h1.b]; unfold sumP; simp only [hR _ (card_s true)]

theorem srt_HJ {T : List (List UInt8)} (h : PackOk T) : ∀ (ls pre : List (List UInt8)) (s : HS), Sub ls T → HJ T pre s → ∃ s', srt ls s = (s', !s'.known.isEmpty) ∧ HJ T (pre ++ ls) s'
 | [], pre, s, _, hj => ⟨s, rfl, by simpa using hj⟩
 | l :: r, pre, s, hs, hj => by
  have e : pre ++ (l :: r) = (pre ++ [l]) ++ r := by simp
  have hs' : Sub r T := fun x hx => hs x (by simp [hx])
  unfold srt
  by_cases hp : parseOk l = true
  ·have hc := hs l (by simp) hp
   have hb := beg_HI h hj hc
   rw [if_pos hp, no_clash h hb hc, if_neg (by simp), e]
   exact srt_HJ h r _ _ hs' (.inr (put_HI h hb hc))
  ·rw [if_neg hp, e]
   refine srt_HJ h r _ _ hs' (skip_HJ h hj fun hc => hp (cards_parse h hc).1)

theorem srt_all {T ls : List (List UInt8)} (h : PackOk T) (hs : Sub ls T) (hg : ∃ l ∈ ls, parseOk l = true) : (srt ls zHS).2 = true ∧ HI T ls (srt ls zHS).1 := by
 obtain ⟨s', e, hj⟩ := srt_HJ h ls [] zHS hs (.inl ⟨rfl, by simp⟩)
 rw [e]
 rw [List.nil_append] at hj
 rcases hj with ⟨_, h2⟩ | ⟨h1, h2⟩
 ·obtain ⟨l, hl, hp⟩ := hg
  exact absurd hl (h2 l (hs l hl hp))
 ·exact ⟨by simpa using h2, h1⟩

set_option maxHeartbeats 4000000
set_option maxRecDepth 20000


def valR (T : List (List UInt8)) (k i : Nat) : Int := valB (atB (rowsB T) i k)

theorem valR_bd {T : List (List UInt8)} (h : PackOk T) {k i : Nat} (hi : i < T.length) (hk : k < longB T + 2) : 0 ≤ valR T k i ∧ valR T k i ≤ 94 := by
 obtain ⟨_, h1, h2⟩ := (at_val h.rows.2.2 (by simpa [rowsB] using hi) hk).2
 exact ⟨h1, h2⟩

theorem sumsTo_take (R : List (List UInt8)) (wt : Bool) : ∀ n k, k ≤ n → (sumsTo R wt n).take (2 * k) = sumsTo R wt k
  | 0, k, h => by obtain rfl : k = 0 := by omega
                  rfl
  | n + 1, k, h => by
    by_cases e : k = n + 1
    · subst e; exact List.take_of_length_le (by rw [sumsTo_len]; omega)
    · simp only [sumsTo]
      rw [List.take_append_of_le_length (by rw [sumsTo_len]; omega)]
      exact sumsTo_take R wt n k (by omega)

theorem numV_two {n : Nat} (h : n < 100) : numV (twoB n) = n := by
 have hp := (dig_plain (twoB_pl h)).2
 unfold numV numOk
 rw [hp]
 have : ((twoB n).length == 2 && true) = true := rfl
 rw [if_pos this]
 unfold numAt twoB
 simp only [List.getD_cons_zero, List.getD_cons_succ, UInt8.toNat_ofNat']
 omega

theorem numV_sum {T : List (List UInt8)} (h : PackOk T) (wt : Bool) {k : Nat} (hk : k < longB T + 2) : (numV (((sumR T wt).take (2 * k + 2)).drop (2 * k)) : Int) = colS (rowsB T) wt k T.length % 97 := by
 have hR := h.rows.2.2
 have hh : ((rowsB T).headD []).length = longB T + 2 := by
  have hpos := hR.many.1
  cases hq : rowsB T with
  | nil => rw [hq] at hpos; simp at hpos
  | cons a r => exact hR.len a (by rw [hq]; simp)
 have hl : (rowsB T).length = T.length := by simp [rowsB]
 unfold sumR sumsB
 rw [hh, show 2 * k + 2 = 2 * (k + 1) by omega, sumsTo_take _ _ _ _ (by omega)]
 simp only [sumsTo]
 rw [List.drop_left' (sumsTo_len _ _ _), numV_two (by omega), hl]
 omega

def gapTo (T ls : List (List UInt8)) (wt : Bool) (k : Nat) : Nat → Int
 | 0 => 0
 | i + 1 => gapTo T ls wt k i + (if cardAt T i ∈ ls then 0 else valR T k i * wgt wt i)

theorem rowsP_at {T ls : List (List UInt8)} {i : Nat} (hi : i < T.length) : (rowsP T ls).getD i [] = if cardAt T i ∈ ls then rowB (T.getD i []) (longB T) else [] := by
 unfold rowsP
 simp [List.getD_eq_getElem?_getD, hi]

theorem row_ne {T : List (List UInt8)} (h : PackOk T) {i : Nat} (hi : i < T.length) : rowB (T.getD i []) (longB T) ≠ [] := fun e => by
 have := (row_at_ok h hi).1
 rw [e] at this; simp at this

theorem rowsP_nil {T ls : List (List UInt8)} (h : PackOk T) {i : Nat} (hi : i < T.length) : (rowsP T ls).getD i [] = [] ↔ cardAt T i ∉ ls := by
 rw [rowsP_at hi]
 split
 ·rename_i hc
  exact ⟨fun e => absurd e (row_ne h hi), fun hn => absurd hc hn⟩
 ·rename_i hc
  exact ⟨fun _ => hc, fun _ => rfl⟩

theorem left_gap {T ls : List (List UInt8)} (h : PackOk T) (wt : Bool) (k : Nat) : ∀ i, i ≤ T.length → leftTo (rowsP T ls) k wt i + gapTo T ls wt k i = colS (rowsB T) wt k i
 | 0, _ => rfl
 | i + 1, hi => by
  have ih := left_gap (ls := ls) h wt k i (by omega)
  have e1 : atB (rowsP T ls) i k = ((rowsP T ls).getD i []).getD k 0 := rfl
  have e2 : atB (rowsB T) i k = ((rowsB T).getD i []).getD k 0 := rfl
  simp only [leftTo, gapTo, colS, valR]
  rw [rows_at (by omega)] at e2
  by_cases hc : cardAt T i ∈ ls
  ·rw [rowsP_at (by omega), if_pos hc] at e1
   rw [if_pos hc, if_neg (fun e => absurd hc ((rowsP_nil h (by omega)).1 e)), e1, e2]
   omega
  ·rw [if_neg hc, if_pos ((rowsP_nil h (by omega)).2 hc)]
   omega

theorem gap_sum {T ls : List (List UInt8)} (h : PackOk T) (wt : Bool) (k : Nat) : ∀ i, i ≤ T.length → gapTo T ls wt k i = ((missTo (rowsP T ls) i).map fun z => valR T k z.toNat * wgt wt z.toNat).sum
 | 0, _ => rfl
 | i + 1, hi => by
  have ih := gap_sum (ls := ls) h wt k i (by omega)
  have hlt : i < (rowsP T ls).length := by rw [rowsP_len]; omega
  have e : (rowsP T ls)[i] = (rowsP T ls).getD i [] := by simp [List.getD_eq_getElem?_getD, List.getElem?_eq_getElem hlt]
  rw [missTo_succ _ hlt, e]
  simp only [gapTo]
  by_cases hc : cardAt T i ∈ ls
  ·rw [if_pos hc, if_neg (fun e => absurd hc ((rowsP_nil h (by omega)).1 e)), ih]; omega
  ·rw [if_neg hc, if_pos ((rowsP_nil h (by omega)).2 hc), ih, List.map_append, List.sum_append]
   simp

theorem left_eq {T ls : List (List UInt8)} (h : PackOk T) (wt : Bool) {k : Nat} (hk : k < longB T + 2) : leftN (rowsP T ls) (sumR T wt) k wt = ((missB (rowsP T ls)).map fun z => valR T k z.toNat * wgt wt z.toNat).sum % 97 := by
 have h1 := left_gap (ls := ls) h wt k T.length (Nat.le_refl _)
 have h2 := gap_sum (ls := ls) h wt k T.length (Nat.le_refl _)
 have h3 := numV_sum h wt hk
 unfold leftN missB
 rw [rowsP_len, h3, ← h2]
 omega

theorem inv_cancel {w v : Int} {d : Nat} (h1 : 1 ≤ d) (h8 : d ≤ 8) (hv : 0 ≤ v ∧ v ≤ 96) (hw : w % 97 = v * d % 97) : w * invN d % 97 = v := by
 obtain ⟨_, _, h3, _⟩ := inv_ok ⟨d, by omega⟩ h1
 simp only at h3
 have h4 : ((invN d : Int) * d) % 97 = 1 := by omega
 have h5 : w * invN d % 97 = (v * d) * invN d % 97 := by rw [Int.mul_emod, hw, ← Int.mul_emod]
 rw [h5, Int.mul_assoc, Int.mul_comm (d : Int), Int.mul_emod, h4]
 omega

theorem found_eq {T ls : List (List UInt8)} {s : HS} (h : PackOk T) (hi : HI T ls s) (hs : (missB s.rows).length ≤ sumsN s) {k : Nat} (hk : k < longB T + 2) :
  foundB s k = (missB s.rows).map fun z => valR T k z.toNat := by
 have hrl : s.rows.length = T.length := by rw [hi.rows, rowsP_len]
 have h8 := h.many
 have hA : ∀ wt, sumR T wt ≠ [] := fun wt e => by have := (sumR_ok h wt).1; rw [e] at this; simp at this
 have ha : s.a ≠ [] → s.a = sumR T false := by
  rw [hi.a]; unfold sumP; split
  ·exact fun _ => rfl
  ·exact fun h => absurd rfl h
 have hb : s.b ≠ [] → s.b = sumR T true := by
  rw [hi.b]; unfold sumP; split
  ·exact fun _ => rfl
  ·exact fun h => absurd rfl h
 have la := left_eq (ls := ls) h false hk
 have lb := left_eq (ls := ls) h true hk
 rw [← hi.rows] at la lb
 have hL : ∀ j (hj : j < (missB s.rows).length), lostAt s j < T.length ∧ (missB s.rows)[j] = (lostAt s j : Int) := fun j hj => by
  obtain ⟨h1, h2⟩ := lost_lt hj
  exact ⟨by omega, h2⟩
 have hasc := lost_asc (s := s)
 have hna : s.a = [] → nzN s.a = 0 := fun e => if_pos e
 have hnb : s.b = [] → nzN s.b = 0 := fun e => if_pos e
 have hu : nzN s.a ≤ 1 ∧ nzN s.b ≤ 1 := by unfold nzN; constructor <;> split <;> omega
 unfold sumsN at hs
 unfold foundB
 generalize hM : missB s.rows = M at *
 match M with
 | [] => simp
 | [z] =>
  obtain ⟨h1, h2⟩ := hL 0 (by simp)
  simp only [List.getElem_cons_zero] at h2
  subst h2
  generalize lostAt s 0 = i at *
  obtain ⟨v1, v2⟩ := valR_bd h h1 hk
  simp only [List.map_cons, List.map_nil, List.sum_cons, List.sum_nil, Int.toNat_natCast, wgt, Bool.false_eq_true, if_false, if_true] at la lb ⊢
  by_cases h0 : s.a = []
  ·have hb0 : s.b ≠ [] := fun e => by have := hna h0; have := hnb e; simp at hs; omega
   rw [if_neg (by simp [h0]), if_pos (by simp), hb hb0, lb]
   congr 1
   refine inv_cancel (by omega) (by omega) ⟨v1, by omega⟩ ?_
   simp
  ·rw [if_pos ⟨by simp, h0⟩, ha h0, la]
   congr 1
   omega
 | [y, z] =>
  have hlt := hasc rfl
  obtain ⟨h1, h2⟩ := hL 0 (by simp)
  obtain ⟨h3, h4⟩ := hL 1 (by simp)
  simp only [List.getElem_cons_zero, List.getElem_cons_succ] at h2 h4
  subst h2; subst h4
  generalize lostAt s 0 = i at *
  generalize lostAt s 1 = j at *
  obtain ⟨v1, v2⟩ := valR_bd h h1 hk
  obtain ⟨w1, w2⟩ := valR_bd h h3 hk
  simp only [List.length_cons, List.length_nil] at hs
  have ha0 : s.a ≠ [] := fun e => by have := hna e; omega
  have hb0 : s.b ≠ [] := fun e => by have := hnb e; omega
  simp only [List.map_cons, List.map_nil, List.sum_cons, List.sum_nil, Int.toNat_natCast, wgt, Bool.false_eq_true, if_false, if_true] at la lb ⊢
  rw [if_neg (by simp), if_neg (by simp), if_pos (by simp), ha ha0, hb hb0, la, lb]
  generalize valR T k i = v at *
  generalize valR T k j = w at *
  have hx : ((v * ((i : Int) + 1) + (w * ((j : Int) + 1) + 0)) % 97 - (v * 1 + (w * 1 + 0)) % 97 * ((i : Int) + 1)) * invN (j - i) % 97 = w := by
   refine inv_cancel (by omega) (by omega) ⟨w1, by omega⟩ ?_
   obtain ⟨d, rfl⟩ : ∃ d, j = i + d := ⟨j - i, by omega⟩
   rw [Int.sub_emod, Int.emod_emod, Int.mul_emod ((v * 1 + (w * 1 + 0)) % 97), Int.emod_emod, ← Int.mul_emod, ← Int.sub_emod]
   have : i + d - i = d := by omega
   rw [this]
   congr 1
   rw [Int.natCast_add]
   simp only [Int.mul_add, Int.add_mul, Int.mul_one, Int.one_mul, Int.add_zero]
   omega
  rw [hx]
  have hy : ((v * 1 + (w * 1 + 0)) % 97 - w) % 97 = v := by omega
  rw [hy]
 | _ :: _ :: _ :: _ => simp at hs; omega

set_option maxHeartbeats 4000000
set_option maxRecDepth 20000


def fam (m : Nat) (g : Nat → List UInt8) : List (List UInt8) := (List.range m).map g

theorem fam_congr {m : Nat} {g h : Nat → List UInt8} (e : ∀ i, i < m → g i = h i) : fam m g = fam m h := List.map_congr_left fun i hi => e i (List.mem_range.1 hi)
theorem fam_at {m : Nat} {g : Nat → List UInt8} {i : Nat} (hi : i < m) : (fam m g).getD i [] = g i := by
 unfold fam
 simp [List.getD_eq_getElem?_getD, hi]

theorem fam_set {m : Nat} {g : Nat → List UInt8} {z : Nat} (v : List UInt8) : (fam m g).set z v = fam m fun i => if i = z then v else g i := by
 unfold fam
 refine List.ext_getElem (by simp) fun i h1 h2 => ?_
 simp only [List.getElem_set, List.getElem_map, List.getElem_range]
 by_cases h : z = i
 ·rw [if_pos h, if_pos h.symm]
 ·rw [if_neg h, if_neg fun e => h e.symm]

theorem rowsP_fam (T ls : List (List UInt8)) : rowsP T ls = fam T.length fun i => if cardAt T i ∈ ls then rowB (T.getD i []) (longB T) else [] := rfl
theorem rowsB_fam (T : List (List UInt8)) : rowsB T = fam T.length fun i => rowB (T.getD i []) (longB T) := by
 unfold rowsB fam
 refine List.ext_getElem (by simp) fun i h1 h2 => ?_
 have : i < T.length := by simpa using h1
 simp [List.getD_eq_getElem?_getD, List.getElem?_eq_getElem this]

theorem val_byte {T : List (List UInt8)} (h : PackOk T) {k i : Nat} (hi : i < T.length) (hk : k < longB T + 2) : (rowB (T.getD i []) (longB T)).take k ++ [UInt8.ofNat (valR T k i + 32).toNat] = (rowB (T.getD i []) (longB T)).take (k + 1) := by
 have hl := (row_at_ok h hi).1
 have hk' : k < (rowB (T.getD i []) (longB T)).length := by omega
 have hv := valR_bd h hi hk
 rw [List.take_succ_eq_append_getElem hk']
 congr 2
 have e : atB (rowsB T) i k = (rowB (T.getD i []) (longB T))[k] := by
  unfold atB
  rw [rows_at hi, List.getD_eq_getElem?_getD, List.getElem?_eq_getElem hk', Option.getD_some]
 have e2 : (valR T k i + 32).toNat = (atB (rowsB T) i k).toNat := by
  unfold valR valB at hv ⊢
  omega
 rw [e2, e]
 simp

theorem add_fam {T ls : List (List UInt8)} {s : HS} (h : PackOk T) (hi : HI T ls s) (hs : (missB s.rows).length ≤ sumsN s) {k : Nat} (hk : k < longB T + 2) : ∀ n, n ≤ (missB s.rows).length →
  addTo s (foundB s k) (fam T.length fun i => if cardAt T i ∈ ls then rowB (T.getD i []) (longB T) else (rowB (T.getD i []) (longB T)).take k) n =
   fam T.length fun i => if cardAt T i ∈ ls then rowB (T.getD i []) (longB T) else if ∃ j, j < n ∧ lostAt s j = i then (rowB (T.getD i []) (longB T)).take (k + 1) else (rowB (T.getD i []) (longB T)).take k
 | 0, _ => by
  simp only [addTo]
  refine fam_congr fun i _ => ?_
  split
  ·rfl
  ·rw [if_neg (by rintro ⟨j, hj, _⟩; omega)]
 | n + 1, hn => by
  have ih := add_fam h hi hs hk n (by omega)
  have hu : sumsN s ≤ 2 := by unfold sumsN nzN; split <;> split <;> omega
  obtain ⟨l1, l2⟩ := lost_lt (s := s) (k := n) (by omega)
  have hlm : lostAt s n < T.length := by rw [hi.rows, rowsP_len] at l1; exact l1
  have hnc : cardAt T (lostAt s n) ∉ ls := by
   have hm : (lostAt s n : Int) ∈ missB s.rows := by rw [← l2]; exact List.getElem_mem _
   unfold missB missTo at hm
   obtain ⟨z, hz, e⟩ := List.mem_map.1 hm
   have e : z = lostAt s n := Int.ofNat.inj e
   subst e
   have := (List.mem_filter.1 hz).2
   rw [hi.rows] at this
   exact (rowsP_nil h hlm).1 (by simpa using this)
  have hv : (foundB s k).getD n 0 = valR T k (lostAt s n) := by
   rw [found_eq h hi hs hk, List.getD_eq_getElem?_getD, List.getElem?_map, List.getElem?_eq_getElem (by omega), l2]
   simp
  simp only [addTo]
  rw [ih]
  unfold setB
  rw [hv, fam_at hlm, fam_set]
  refine fam_congr fun i hil => ?_
  by_cases e : i = lostAt s n
  ·subst e
   have hno : ¬ ∃ j, j < n ∧ lostAt s j = lostAt s n := by
    rintro ⟨j, hj, he⟩
    have h2 : (missB s.rows).length = 2 := by omega
    have := lost_asc h2
    obtain rfl : j = 0 := by omega
    obtain rfl : n = 1 := by omega
    omega
   rw [if_pos rfl, if_neg hnc, if_neg hno, if_neg hnc, if_pos ⟨n, by omega, rfl⟩]
   exact val_byte h hlm hk
  ·rw [if_neg e]
   have : (∃ j, j < n + 1 ∧ lostAt s j = i) ↔ ∃ j, j < n ∧ lostAt s j = i := by
    constructor
    ·rintro ⟨j, hj, he⟩
     by_cases hjn : j = n
     ·subst hjn; exact absurd he.symm e
     ·exact ⟨j, by omega, he⟩
    ·rintro ⟨j, hj, he⟩; exact ⟨j, by omega, he⟩
   simp only [this]

theorem fill_fam {T ls : List (List UInt8)} {s : HS} (h : PackOk T) (hi : HI T ls s) (hs : (missB s.rows).length ≤ sumsN s) : ∀ k, k ≤ longB T + 2 →
  fillTo s k = fam T.length fun i => if cardAt T i ∈ ls then rowB (T.getD i []) (longB T) else (rowB (T.getD i []) (longB T)).take k
 | 0, _ => by
  simp only [fillTo, hi.rows, rowsP_fam, List.take_zero]
 | k + 1, hk => by
  simp only [fillTo]
  rw [fill_fam h hi hs k (by omega), found_len hs, add_fam h hi hs (by omega) _ (Nat.le_refl _)]
  refine fam_congr fun i hil => ?_
  by_cases hc : cardAt T i ∈ ls
  ·rw [if_pos hc, if_pos hc]
  ·rw [if_neg hc, if_neg hc, if_pos]
   exact miss_has (by rw [hi.rows, rowsP_len]; exact hil) (by rw [hi.rows]; exact (rowsP_nil h hil).2 hc)

theorem fill_all {T ls : List (List UInt8)} {s : HS} (h : PackOk T) (hi : HI T ls s) : fillB s = if sumsN s < (missB s.rows).length then none else some (rowsB T) := by
 unfold fillB
 by_cases hs : sumsN s < (missB s.rows).length
 ·rw [if_pos hs, if_pos hs]
 ·rw [if_neg hs, if_neg hs, hi.long]
  have hs' : (missB s.rows).length ≤ sumsN s := by omega
  rw [if_pos]
  ·rw [Int.toNat_natCast, fill_fam h hi hs' _ (Nat.le_refl _), rowsB_fam]
   refine congrArg some (fam_congr fun i hil => ?_)
   split
   ·rfl
   ·exact List.take_of_length_le (by rw [(row_at_ok h hil).1]; omega)
  ·rw [List.all_eq_true]
   intro k hk
   have hk := List.mem_range.1 hk
   rw [Int.toNat_natCast] at hk
   unfold okF
   rw [found_eq h hi hs' hk, List.all_eq_true]
   intro v hv
   obtain ⟨z, hz, rfl⟩ := List.mem_map.1 hv
   obtain ⟨j, hj, rfl⟩ := List.getElem_of_mem hz
   obtain ⟨l1, l2⟩ := lost_lt hj
   rw [hi.rows, rowsP_len] at l1
   rw [l2]
   exact decide_eq_true (valR_bd h l1 hk).2

theorem textOf_row {T : List (List UInt8)} (h : PackOk T) {t : List UInt8} (ht : t ∈ T) : textOfB (rowB t (longB T)) = some t ∧ textB t = true := by
 obtain ⟨h1, h2, _⟩ := h.rows
 have htl := h2 t ht
 have hx := h.text t ht
 refine ⟨?_, hx⟩
 have hr : rowB t (longB T) = twoB t.length ++ (t ++ List.replicate (longB T - t.length) 32) := by simp [rowB]
 have hd := (dig_plain (twoB_pl (by omega : t.length < 100))).2
 have htk : (rowB t (longB T)).take 2 = twoB t.length := by rw [hr]; exact List.take_left' rfl
 have hn : numAt (rowB t (longB T)) = t.length := by
  rw [hr]
  unfold numAt twoB
  simp only [List.cons_append, List.getD_cons_zero, List.getD_cons_succ, UInt8.toNat_ofNat']
  omega
 have hlen : (rowB t (longB T)).length = longB T + 2 := by
  rw [hr]; simp [twoB]; omega
 unfold textOfB
 rw [htk, hd, if_pos rfl, hn, hlen, if_pos (by omega)]
 congr 1
 rw [hr, show 2 + t.length = (twoB t.length).length + t.length by rfl, List.take_length_add_append, List.take_left' rfl]
 exact List.drop_left' rfl

theorem texts_rows {T : List (List UInt8)} (h : PackOk T) : textsOf (rowsB T) = some T := by
 rw [textsOf_ok]
 ·congr 1
  unfold rowsB
  rw [List.map_map]
  conv => rhs; rw [← List.map_id T]
  refine List.map_congr_left fun t ht => ?_
  simp only [Function.comp, (textOf_row h ht).1, Option.getD_some, id]
 ·intro r hr
  unfold rowsB at hr
  obtain ⟨t, ht, rfl⟩ := List.mem_map.1 hr
  exact ⟨t, (textOf_row h ht).1, (textOf_row h ht).2⟩

def missL (T ls : List (List UInt8)) : List Int := ((List.range T.length).filter fun i => decide (cardAt T i ∉ ls)).map Int.ofNat
def knowN (T ls : List (List UInt8)) : Nat := (if sumL T false ∈ ls then 1 else 0) + if sumL T true ∈ ls then 1 else 0

theorem miss_HI {T ls : List (List UInt8)} {s : HS} (h : PackOk T) (hi : HI T ls s) : missB s.rows = missL T ls ∧ sumsN s = knowN T ls := by
 have hA : ∀ wt, sumR T wt ≠ [] := fun wt e => by have := (sumR_ok h wt).1; rw [e] at this; simp at this
 constructor
 ·unfold missB missTo missL
  rw [hi.rows, rowsP_len]
  congr 1
  refine List.filter_congr fun i hil => ?_
  have hil := List.mem_range.1 hil
  rw [Bool.eq_iff_iff, beq_iff_eq, decide_eq_true_eq]
  exact rowsP_nil h hil
 ·unfold sumsN knowN nzN
  rw [hi.a, hi.b]
  unfold sumP
  have e : ∀ wt, (if (if sumL T wt ∈ ls then sumR T wt else []) = [] then 0 else 1) = if sumL T wt ∈ ls then 1 else 0 := by
   intro wt
   by_cases hc : sumL T wt ∈ ls
   ·rw [if_pos hc, if_pos hc, if_neg (hA wt)]
   ·rw [if_neg hc, if_neg hc, if_pos rfl]
  rw [e, e]

theorem strange_Sub {T ls : List (List UInt8)} : strange T ls = false ↔ Sub ls T := by
 unfold strange Sub
 rw [List.any_eq_false]
 constructor
 ·intro h l hl hp
  have := h l hl
  rw [hp] at this
  simp only [Bool.true_and, Bool.not_eq_true, Bool.not_eq_false', List.any_eq_true, beq_iff_eq] at this
  obtain ⟨c, hc, rfl⟩ := this
  exact hc
 ·intro h l hl
  cases hp : parseOk l
  ·simp
  ·have := h l hl hp
   simp only [Bool.true_and, Bool.not_eq_true, Bool.not_eq_false', List.any_eq_true, beq_iff_eq]
   exact ⟨l, this, rfl⟩

theorem unpack_sub {T ls : List (List UInt8)} (h : PackOk T) (hs : Sub ls T) (hg : ∃ l ∈ ls, parseOk l = true) : unpackB ls = if knowN T ls < (missL T ls).length then none else some (T, missL T ls) := by
 obtain ⟨h1, hi⟩ := srt_all h hs hg
 obtain ⟨m1, m2⟩ := miss_HI h hi
 unfold unpackB
 rw [if_pos h1, fill_all h hi, m1, m2]
 split
 ·rename_i R hq
  split at hq
  ·cases hq
  ·rename_i hk
   cases hq
   rw [if_neg hk, texts_rows h]
   simp only
   rw [strange_Sub.2 hs, if_neg (by simp)]
 ·rename_i hq
  split at hq
  ·rename_i hk; rw [if_pos hk]
  ·cases hq

theorem srt_good : ∀ (ls : List (List UInt8)) (s : HS), (srt ls s).2 = true → s.known ≠ [] ∨ ∃ l ∈ ls, parseOk l = true
 | [], s, h => .inl (by simpa [srt] using h)
 | l :: r, s, h => by
  unfold srt at h
  by_cases hp : parseOk l = true
  ·exact .inr ⟨l, by simp, hp⟩
  ·rw [if_neg hp] at h
   rcases srt_good r s h with g | ⟨x, hx, g⟩
   ·exact .inl g
   ·exact .inr ⟨x, by simp [hx], g⟩

theorem texts_len : ∀ {R T : List (List UInt8)}, textsOf R = some T → T.length = R.length ∧ ∀ t ∈ T, textB t = true
 | [], T, h => by simp [textsOf] at h; subst h; simp
 | r :: R, T, h => by
  rw [textsOf] at h
  split at h
  ·split at h
   ·rename_i hx
    obtain ⟨T', h1, rfl⟩ := Option.map_eq_some_iff.1 h
    obtain ⟨g1, g2⟩ := texts_len h1
    refine ⟨by simp [g1], fun t ht => ?_⟩
    rcases List.mem_cons.1 ht with rfl | ht
    ·exact hx
    ·exact g2 t ht
   ·cases h
  ·cases h

theorem unpack_is {T ls : List (List UInt8)} {M : List Int} (h : unpackB ls = some (T, M)) : PackOk T ∧ Sub ls T ∧ (∃ l ∈ ls, parseOk l = true) ∧ M = missL T ls ∧ (missL T ls).length ≤ knowN T ls := by
 have h0 := h
 unfold unpackB at h
 split at h
 ·rename_i hq
  split at h
  ·rename_i R hR
   split at h
   ·rename_i T' hT
    split at h
    ·cases h
    ·rename_i hst
     cases h
     obtain ⟨lg, hf, _⟩ := srt_fok hq
     obtain ⟨g1, g2⟩ := texts_len hT
     have hl := (fill_rows hf hR).1
     have hlo := hf.lo
     have hhi := hf.hi
     have hp : PackOk T := ⟨by omega, g2⟩
     have hs : Sub ls T := strange_Sub.1 (by simpa using hst)
     have hg : ∃ l ∈ ls, parseOk l = true := by
      rcases srt_good ls zHS hq with g | g
      ·exact absurd rfl g
      ·exact g
     rw [unpack_sub hp hs hg] at h0
     split at h0
     ·cases h0
     ·rename_i hk
      simp only [Option.some.injEq, Prod.mk.injEq, true_and] at h0
      exact ⟨hp, hs, hg, h0.symm, by omega⟩
   ·cases h
  ·cases h
 ·cases h

set_option maxHeartbeats 4000000
set_option maxRecDepth 20000


abbrev Ls := List (List UInt8)
def cutS : List UInt8 → List Ls → Ls → List UInt8 → List Ls × Bool
 | [], out, pack, line => (out, decide (pack = [] ∧ line = []))
 | c :: r, out, pack, line =>
  if c = 10 then (if line ≠ [] then cutS r out (pack ++ [line]) [] else if pack = [] then ([], false) else cutS r (out ++ [pack]) [] []) else cutS r out pack (line ++ [c])
def cutV (l : List UInt8) : List Ls × Bool := cutS l [] [] []
def packL (p : Ls) : List UInt8 := p.flatMap lineB ++ [10]
def wrL (P : List Ls) : List UInt8 := P.flatMap packL
def LineOk (l : List UInt8) : Prop := l ≠ [] ∧ (10 : UInt8) ∉ l
def PkOk (p : Ls) : Prop := p ≠ [] ∧ ∀ l ∈ p, LineOk l
def PsOk (P : List Ls) : Prop := ∀ p ∈ P, PkOk p

theorem wrL_app (P Q : List Ls) : wrL (P ++ Q) = wrL P ++ wrL Q := by simp [wrL]

theorem cutS_inv : ∀ (l : List UInt8) (out : List Ls) (pack : Ls) (line : List UInt8) (P : List Ls), PsOk out → (∀ x ∈ pack, LineOk x) → (10 : UInt8) ∉ line → cutS l out pack line = (P, true) →
  PsOk P ∧ wrL P = wrL out ++ pack.flatMap lineB ++ line ++ l
 | [], out, pack, line, P, h1, h2, h3, h => by
  simp only [cutS, Prod.mk.injEq, decide_eq_true_eq] at h
  obtain ⟨rfl, rfl, rfl⟩ := h
  exact ⟨h1, by simp⟩
 | c :: r, out, pack, line, P, h1, h2, h3, h => by
  simp only [cutS] at h
  by_cases hc : c = 10
  ·subst hc
   rw [if_pos rfl] at h
   by_cases hl : line = []
   ·subst hl
    rw [if_neg (by simp)] at h
    by_cases hp : pack = []
    ·rw [if_pos hp] at h; simp at h
    ·rw [if_neg hp] at h
     obtain ⟨g1, g2⟩ := cutS_inv r _ [] [] P (fun p hpm => by
      rcases List.mem_append.1 hpm with hpm | hpm
      ·exact h1 p hpm
      ·simp at hpm; subst hpm; exact ⟨hp, h2⟩) (by simp) (by simp) h
     refine ⟨g1, ?_⟩
     rw [g2, wrL_app]
     simp [wrL, packL]
   ·rw [if_pos hl] at h
    obtain ⟨g1, g2⟩ := cutS_inv r out _ [] P h1 (fun x hx => by
     rcases List.mem_append.1 hx with hx | hx
     ·exact h2 x hx
     ·simp at hx; subst hx; exact ⟨hl, h3⟩) (by simp) h
    refine ⟨g1, ?_⟩
    rw [g2]
    simp [lineB]
  ·rw [if_neg hc] at h
   obtain ⟨g1, g2⟩ := cutS_inv r out pack _ P h1 h2 (by simp [h3, Ne.symm hc]) h
   refine ⟨g1, ?_⟩
   rw [g2]
   simp

theorem cutS_line : ∀ (l : List UInt8) (r : List UInt8) (out : List Ls) (pack : Ls) (line : List UInt8), (10 : UInt8) ∉ l → cutS (l ++ r) out pack line = cutS r out pack (line ++ l)
 | [], r, out, pack, line, _ => by simp
 | c :: l, r, out, pack, line, h => by
  simp only [List.mem_cons, not_or] at h
  rw [List.cons_append]
  simp only [cutS]
  rw [if_neg (Ne.symm h.1), cutS_line l r out pack (line ++ [c]) h.2]
  simp

theorem cutS_lines : ∀ (p : Ls) (r : List UInt8) (out : List Ls) (pack : Ls), (∀ l ∈ p, LineOk l) → cutS (p.flatMap lineB ++ r) out pack [] = cutS r out (pack ++ p) []
 | [], r, out, pack, _ => by simp
 | l :: p, r, out, pack, h => by
  obtain ⟨h1, h2⟩ := h l (by simp)
  have e : (l :: p).flatMap lineB ++ r = l ++ (10 :: (p.flatMap lineB ++ r)) := by simp [lineB]
  rw [e, cutS_line l _ _ _ _ h2]
  simp only [cutS, if_true]
  rw [List.nil_append, if_pos h1, cutS_lines p r out _ (fun x hx => h x (by simp [hx]))]
  simp

theorem cutS_packs : ∀ (P : List Ls) (r : List UInt8) (out : List Ls), PsOk P → cutS (wrL P ++ r) out [] [] = cutS r (out ++ P) [] []
 | [], r, out, _ => by simp [wrL]
 | p :: P, r, out, h => by
  obtain ⟨h1, h2⟩ := h p (by simp)
  have e : wrL (p :: P) ++ r = p.flatMap lineB ++ (10 :: (wrL P ++ r)) := by simp [wrL, packL]
  rw [e, cutS_lines p _ _ _ h2]
  simp only [cutS, if_true]
  rw [if_neg (by simp), List.nil_append, if_neg h1, cutS_packs P r _ (fun x hx => h x (by simp [hx]))]
  simp

theorem cutV_wr {P : List Ls} (h : PsOk P) : cutV (wrL P) = (P, true) := by
 have := cutS_packs P [] [] h
 simp only [List.append_nil, List.nil_append] at this
 unfold cutV
 rw [this]
 simp [cutS]
theorem cutV_inv {l : List UInt8} {P : List Ls} (h : cutV l = (P, true)) : PsOk P ∧ l = wrL P := by
 obtain ⟨h1, h2⟩ := cutS_inv l [] [] [] P (by intro p hp; simp at hp) (by simp) (by simp) h
 refine ⟨h1, ?_⟩
 rw [h2]; simp [wrL]

theorem wrL_end {P : List Ls} (h : PsOk P) (h0 : P ≠ []) : ∃ t, wrL P = t ++ [10, 10] := by
 obtain ⟨Q, p, rfl⟩ : ∃ Q p, P = Q ++ [p] := ⟨P.dropLast, P.getLast h0, (List.dropLast_concat_getLast h0).symm⟩
 obtain ⟨h1, h2⟩ := h p (by simp)
 obtain ⟨q, l, rfl⟩ : ∃ q l, p = q ++ [l] := ⟨p.dropLast, p.getLast h1, (List.dropLast_concat_getLast h1).symm⟩
 refine ⟨wrL Q ++ q.flatMap lineB ++ l, ?_⟩
 rw [wrL_app]
 simp [wrL, packL, lineB]

theorem occ_mid (t : List UInt8) (s r : List UInt8) : Lib.contains (t ++ s ++ r) s = true := by
 unfold Lib.contains
 rw [decide_eq_true_eq]
 refine Classical.byContradiction fun hn => ?_
 rcases Lib.index_spec (t ++ s ++ r) s with ⟨h1, h2⟩ | ⟨i, h1, _⟩
 ·have := h2 t.length (by simp)
  unfold Lib.occAt at this
  rw [List.append_assoc, List.drop_left' rfl] at this
  have h3 : s.isPrefixOf (s ++ r) = true := List.isPrefixOf_iff_prefix.2 (List.prefix_append _ _)
  rw [h3] at this; cases this
 ·omega

theorem cutS_some {L : List UInt8} (hd : L.headD 0 ≠ 10) (hc : Lib.contains L [10, 10, 10] = false) (he : ∃ t, L = t ++ [10, 10]) : ∀ (l : List UInt8) (out : List Ls) (pack : Ls) (line : List UInt8), PsOk out → (∀ x ∈ pack, LineOk x) → (10 : UInt8) ∉ line →
  L = wrL out ++ pack.flatMap lineB ++ line ++ l → (cutS l out pack line).2 = true
 | [], out, pack, line, h1, h2, h3, h => by
  obtain ⟨t, ht⟩ := he
  rw [List.append_nil] at h
  simp only [cutS, decide_eq_true_eq]
  have hL : ∀ (u : List UInt8) (c : UInt8), L = u ++ [c] → c = 10 ∧ u = t ++ [10] := fun u c e => by
   have : u ++ [c] = (t ++ [10]) ++ [10] := by rw [← e, ht]; simp
   have := List.append_inj' this rfl
   exact ⟨by simpa using this.2, this.1⟩
  by_cases hl : line = []
  ·subst hl
   refine ⟨Classical.byContradiction fun hp => ?_, rfl⟩
   obtain ⟨q, x, rfl⟩ : ∃ q x, pack = q ++ [x] := ⟨pack.dropLast, pack.getLast hp, (List.dropLast_concat_getLast hp).symm⟩
   obtain ⟨x0, x1⟩ := h2 x (by simp)
   obtain ⟨y, c, rfl⟩ : ∃ y c, x = y ++ [c] := ⟨x.dropLast, x.getLast x0, (List.dropLast_concat_getLast x0).symm⟩
   have e : L = (wrL out ++ q.flatMap lineB ++ y ++ [c]) ++ [10] := by rw [h]; simp [lineB]
   obtain ⟨_, e2⟩ := hL _ _ e
   have := (List.append_inj' e2 rfl).2
   simp at this
   subst this
   exact x1 (by simp)
  ·obtain ⟨y, c, rfl⟩ : ∃ y c, line = y ++ [c] := ⟨line.dropLast, line.getLast hl, (List.dropLast_concat_getLast hl).symm⟩
   have e : L = (wrL out ++ pack.flatMap lineB ++ y) ++ [c] := by rw [h]; simp
   obtain ⟨e1, _⟩ := hL _ _ e
   subst e1
   exact absurd (by simp) h3
 | c :: r, out, pack, line, h1, h2, h3, h => by
  simp only [cutS]
  by_cases hc10 : c = 10
  ·subst hc10
   rw [if_pos rfl]
   by_cases hl : line = []
   ·subst hl
    rw [if_neg (by simp)]
    by_cases hp : pack = []
    ·subst hp
     exfalso
     by_cases ho : out = []
     ·subst ho
      apply hd
      rw [h]; simp [wrL]
     ·obtain ⟨t, ht⟩ := wrL_end h1 ho
      have := occ_mid t [10, 10, 10] r
      have e : t ++ [10, 10, 10] ++ r = L := by rw [h, ht]; simp
      rw [e, hc] at this; cases this
    ·rw [if_neg hp]
     refine cutS_some hd hc he r _ [] [] (fun p hpm => by
      rcases List.mem_append.1 hpm with hpm | hpm
      ·exact h1 p hpm
      ·simp at hpm; subst hpm; exact ⟨hp, h2⟩) (by simp) (by simp) ?_
     rw [h, wrL_app]; simp [wrL, packL]
   ·rw [if_pos hl]
    refine cutS_some hd hc he r out _ [] h1 (fun x hx => by
     rcases List.mem_append.1 hx with hx | hx
     ·exact h2 x hx
     ·simp at hx; subst hx; exact ⟨hl, h3⟩) (by simp) ?_
    rw [h]; simp [lineB]
  ·rw [if_neg hc10]
   refine cutS_some hd hc he r out pack _ h1 h2 (by simp [h3, Ne.symm hc10]) ?_
   rw [h]; simp

theorem cutV_some {l : List UInt8} (h : badF l = false) : ∃ P, PsOk P ∧ l = wrL P := by
 unfold badF at h
 simp only [Bool.or_eq_false_iff, Bool.not_eq_false', beq_eq_false_iff_ne] at h
 obtain ⟨⟨h1, h2⟩, h3⟩ := h
 have he : ∃ t, l = t ++ [10, 10] := by
  unfold Lib.hasSuffix at h1
  obtain ⟨t, ht⟩ := List.isSuffixOf_iff_suffix.1 h1
  exact ⟨t, ht.symm⟩
 have := cutS_some h2 h3 he l [] [] [] (by intro p hp; simp at hp) (by simp) (by simp) (by simp [wrL])
 exact ⟨(cutV l).1, cutV_inv (by unfold cutV; rw [← this])⟩

set_option maxHeartbeats 4000000
set_option maxRecDepth 20000


theorem split_miss {s p : List UInt8} (h : Lib.index s p = -1) : Lib.split s p = [s] := by
 unfold Lib.split
 rw [Lib.count_miss h]; rfl
theorem split_hit {s p : List UInt8} {i : Nat} (hp : p ≠ []) (h : Lib.index s p = i) : Lib.split s p = s.take i :: Lib.split (s.drop (i + p.length)) p := by
 unfold Lib.split
 rw [Lib.count_hit hp h, Nat.add_comm 1]
 have hm : ¬ (Lib.index s p == -1) = true := fun e => by have := beq_iff_eq.1 e; omega
 have e : (Lib.index s p).toNat = i := by omega
 rw [Lib.splitK, if_neg hm, e]
 rfl
theorem splitL_eq (p l : List UInt8) : splitL p l = Lib.split l p := by
 unfold splitL
 rw [Lib.splitB_data]
 rw [S_list, S_list]
 rfl

def shI (n : Nat) (z : Int) : Int := if z = -1 then -1 else z + n
theorem shI_shI (m n : Nat) (z : Int) (hz : -1 ≤ z) : shI m (shI n z) = shI (m + n) z := by
 unfold shI
 by_cases h : z = -1
 ·rw [if_pos h, if_pos rfl, if_pos h]
 ·rw [if_neg h, if_neg (by omega), if_neg h]; omega

theorem ix_cons {c : UInt8} {X w : List UInt8} (h : w.isPrefixOf (c :: X) = false) : Lib.index (c :: X) w = shI 1 (Lib.index X w) := by
 rw [Lib.index, h]
 unfold shI
 by_cases e : Lib.index X w = -1
 ·rw [e]; rfl
 ·rw [if_neg e]
  have : (Lib.index X w == -1) = false := by simpa using e
  rw [this]; simp
theorem ix_line {w : List UInt8} : ∀ (l X : List UInt8), (10 : UInt8) ∉ l → Lib.index (l ++ X) (10 :: w) = shI l.length (Lib.index X (10 :: w))
 | [], X, _ => by
  have := Lib.index_ge X (10 :: w)
  unfold shI; simp only [List.nil_append, List.length_nil]
  split
  ·assumption
  ·omega
 | c :: l, X, h => by
  simp only [List.mem_cons, not_or] at h
  have hp : (10 :: w).isPrefixOf (c :: (l ++ X)) = false := by simp [List.isPrefixOf, h.1]
  rw [List.cons_append, ix_cons hp, ix_line l X h.2, shI_shI _ _ _ (Lib.index_ge _ _), List.length_cons, Nat.add_comm]

def joinN : Ls → List UInt8
 | [] => []
 | [l] => l
 | l :: m :: p => l ++ 10 :: joinN (m :: p)

theorem joinN_head : ∀ {p : Ls}, PkOk p → ∃ c r, joinN p = c :: r ∧ c ≠ 10
 | [], h => absurd rfl h.1
 | l :: p, h => by
  obtain ⟨h1, h2⟩ := h.2 l (by simp)
  obtain ⟨c, r, rfl⟩ : ∃ c r, l = c :: r := by cases l with | nil => exact absurd rfl h1 | cons c r => exact ⟨c, r, rfl⟩
  have hc : c ≠ 10 := fun e => h2 (by simp [e])
  cases p with
  | nil => exact ⟨c, r, rfl, hc⟩
  | cons m p => exact ⟨c, r ++ 10 :: joinN (m :: p), rfl, hc⟩

theorem joinN_flat : ∀ {p : Ls}, p ≠ [] → p.flatMap lineB = joinN p ++ [10]
 | [], h => absurd rfl h
 | [l], _ => by simp [joinN, lineB]
 | l :: m :: p, _ => by
  have ih := joinN_flat (p := m :: p) (by simp)
  rw [List.flatMap_cons, ih]
  simp [joinN, lineB]

theorem PkOk.tail {l m : List UInt8} {p : Ls} (h : PkOk (l :: m :: p)) : PkOk (m :: p) := ⟨by simp, fun x hx => h.2 x (by simp [List.mem_cons.1 hx])⟩

theorem split_lines : ∀ {p : Ls}, PkOk p → Lib.split (joinN p) [10] = p
 | [], h => absurd rfl h.1
 | [l], h => by
  have hl := (h.2 l (by simp)).2
  have := ix_line (w := []) l [] hl
  rw [List.append_nil] at this
  exact split_miss this
 | l :: m :: p, h => by
  have hl := (h.2 l (by simp)).2
  have hx : Lib.index (l ++ 10 :: joinN (m :: p)) [10] = (l.length : Nat) := by
   rw [ix_line l _ hl]
   have : Lib.index (10 :: joinN (m :: p)) [10] = 0 := by rw [Lib.index]; simp [List.isPrefixOf]
   rw [this]; simp [shI]
  rw [joinN, split_hit (by simp) hx, List.take_left' rfl]
  have hd : (l ++ 10 :: joinN (m :: p)).drop (l.length + [(10 : UInt8)].length) = joinN (m :: p) := by
   rw [← List.drop_drop, List.drop_left' rfl]; rfl
  rw [hd, split_lines h.tail]

theorem ix_join {w : List UInt8} : ∀ {p : Ls}, PkOk p → ∀ X, Lib.index (joinN p ++ X) (10 :: 10 :: w) = shI (joinN p).length (Lib.index X (10 :: 10 :: w))
 | [], h, _ => absurd rfl h.1
 | [l], h, X => ix_line l X (h.2 l (by simp)).2
 | l :: m :: p, h, X => by
  have hl := (h.2 l (by simp)).2
  have hge := Lib.index_ge X (10 :: 10 :: w)
  obtain ⟨c, r, e, hc⟩ := joinN_head h.tail
  have hp : (10 :: 10 :: w).isPrefixOf (10 :: (joinN (m :: p) ++ X)) = false := by
   rw [e]; simp [List.isPrefixOf, Ne.symm hc]
  have e2 : joinN (l :: m :: p) ++ X = l ++ (10 :: (joinN (m :: p) ++ X)) := by simp [joinN]
  rw [e2, ix_line l _ hl, ix_cons hp, ix_join h.tail X]
  have h1 : -1 ≤ shI (joinN (m :: p)).length (Lib.index X (10 :: 10 :: w)) := by unfold shI; split <;> omega
  rw [shI_shI _ _ _ h1, shI_shI _ _ _ hge]
  congr 1
  simp [joinN]; omega

def trimN : List Ls → List UInt8
 | [] => []
 | [p] => joinN p
 | p :: q :: P => joinN p ++ 10 :: 10 :: trimN (q :: P)

theorem PsOk.tail {p : Ls} {P : List Ls} (h : PsOk (p :: P)) : PsOk P := fun x hx => h x (by simp [hx])

theorem trimN_wr : ∀ {P : List Ls}, PsOk P → P ≠ [] → wrL P = trimN P ++ [10, 10]
 | [], _, h => absurd rfl h
 | [p], h, _ => by
  have := joinN_flat (h p (by simp)).1
  simp [wrL, packL, trimN, this]
 | p :: q :: P, h, _ => by
  have := joinN_flat (h p (by simp)).1
  have ih := trimN_wr h.tail (by simp)
  have e : wrL (p :: q :: P) = packL p ++ wrL (q :: P) := by simp [wrL]
  rw [e, ih]
  simp [packL, this, trimN]

theorem trimN_head {p : Ls} {P : List Ls} (h : PsOk (p :: P)) : ∃ c r, trimN (p :: P) = c :: r ∧ c ≠ 10 := by
 obtain ⟨c, r, e, hc⟩ := joinN_head (h p (by simp))
 cases P with
 | nil => exact ⟨c, r, e, hc⟩
 | cons q P => exact ⟨c, r ++ 10 :: 10 :: trimN (q :: P), by simp [trimN, e], hc⟩

theorem split_packs : ∀ {P : List Ls}, PsOk P → P ≠ [] → Lib.split (trimN P) [10, 10] = P.map joinN
 | [], _, h => absurd rfl h
 | [p], h, _ => by
  have := ix_join (w := []) (h p (by simp)) []
  rw [List.append_nil] at this
  exact split_miss this
 | p :: q :: P, h, _ => by
  have hx : Lib.index (joinN p ++ 10 :: 10 :: trimN (q :: P)) [10, 10] = ((joinN p).length : Nat) := by
   rw [ix_join (h p (by simp))]
   have : Lib.index (10 :: 10 :: trimN (q :: P)) [10, 10] = 0 := by rw [Lib.index]; simp [List.isPrefixOf]
   rw [this]; simp [shI]
  rw [trimN, split_hit (by simp) hx, List.take_left' rfl]
  have hd : (joinN p ++ 10 :: 10 :: trimN (q :: P)).drop ((joinN p).length + [(10 : UInt8), 10].length) = trimN (q :: P) := by
   rw [← List.drop_drop, List.drop_left' rfl]; rfl
  rw [hd, split_packs h.tail (by simp)]
  rfl

theorem no_three : ∀ {P : List Ls}, PsOk P → P ≠ [] → Lib.index (trimN P ++ [10, 10]) [10, 10, 10] = -1
 | [], _, h => absurd rfl h
 | [p], h, _ => by
  rw [trimN, ix_join (h p (by simp))]
  have : Lib.index [10, 10] [10, 10, 10] = -1 := by decide
  rw [this]; rfl
 | p :: q :: P, h, _ => by
  obtain ⟨c, r, e, hc⟩ := trimN_head h.tail
  have ih := no_three h.tail (by simp)
  have e2 : trimN (p :: q :: P) ++ [10, 10] = joinN p ++ 10 :: 10 :: (trimN (q :: P) ++ [10, 10]) := by simp [trimN]
  rw [e2, ix_join (h p (by simp)), ix_cons (by rw [e]; simp [List.isPrefixOf, Ne.symm hc]), ix_cons (by rw [e]; simp [List.isPrefixOf, Ne.symm hc]), ih]
  rfl

theorem cutB_wr {P : List Ls} (h : PsOk P) : cutB (wrL P) = some (P.map fun p => ⟨false, true, p⟩) := by
 by_cases h0 : P = []
 ·subst h0; rfl
 ·have hw := trimN_wr h h0
  obtain ⟨p, Q, rfl⟩ : ∃ p Q, P = p :: Q := by cases P with | nil => exact absurd rfl h0 | cons p Q => exact ⟨p, Q, rfl⟩
  obtain ⟨c, r, e, hc⟩ := trimN_head h
  have hne : wrL (p :: Q) ≠ [] := by rw [hw, e]; simp
  have hsf : Lib.hasSuffix (wrL (p :: Q)) [10, 10] = true := by
   unfold Lib.hasSuffix
   exact List.isSuffixOf_iff_suffix.2 ⟨_, hw.symm⟩
  have hb : badF (wrL (p :: Q)) = false := by
   unfold badF
   rw [hsf]
   have h3 : Lib.contains (wrL (p :: Q)) [10, 10, 10] = false := by
    unfold Lib.contains
    rw [hw, no_three h h0]; rfl
   rw [h3, hw, e]
   simp [hc]
  have ht : Lib.trimSuffix (wrL (p :: Q)) [10, 10] = trimN (p :: Q) := by
   unfold Lib.trimSuffix
   rw [if_pos hsf, hw]
   simp
  unfold cutB
  rw [if_neg hne, hb, if_neg (by simp)]
  unfold cutP
  rw [ht, splitL_eq, split_packs h h0, List.map_map]
  refine congrArg some (List.map_congr_left fun x hx => ?_)
  simp only [Function.comp, splitL_eq, split_lines (h x hx)]

theorem cutB_cutV (l : List UInt8) : cutB l = if (cutV l).2 = true then some ((cutV l).1.map fun p => ⟨false, true, p⟩) else none := by
 by_cases h : (cutV l).2 = true
 ·rw [if_pos h]
  obtain ⟨h1, h2⟩ := cutV_inv (l := l) (P := (cutV l).1) (by rw [← h])
  conv => lhs; rw [h2]
  exact cutB_wr h1
 ·rw [if_neg h]
  have key : ∀ P, PsOk P → l ≠ wrL P := fun P h1 h2 => by
   rw [h2, cutV_wr h1] at h; simp at h
  unfold cutB
  by_cases h0 : l = []
  ·exact absurd h0 (key [] (by intro p hp; simp at hp))
  ·rw [if_neg h0]
   cases hb : badF l
   ·obtain ⟨P, h1, h2⟩ := cutV_some hb
    exact absurd h2 (key P h1)
   ·rfl

set_option maxHeartbeats 4000000
set_option maxRecDepth 20000


structure Rd (L : List (List UInt8)) (P : List Pk) (M : Nat → List Int) : Prop where
 len : P.length = (L.length + 7) / 8
 n : L.length ≤ 40
 un : ∀ i (hi : i < P.length), unpackB P[i].l = some (chunkAt L i, M i)

set_option maxHeartbeats 4000000
set_option maxRecDepth 20000


def turnTo (c : Ls) (b i : Nat) : Ls := (List.range i).map fun k => c.getD ((k + b) % c.length) []
def okT (c : Ls) (t : Int) : Bool := decide (0 ≤ t) && decide (t < (c.length : Int))
def twTo (c : Ls) (tw : List Int) (i : Nat) : Ls := ((tw.take i).filter (okT c)).map fun t => c.getD t.toNat []
def strL (st : List UInt8) : Ls := if st = [] then [] else [st]
def mixB (b : Nat) (tw : List Int) (st : List UInt8) (c : Ls) : Ls := turnTo c b c.length ++ twTo c tw tw.length ++ strL st

def mixF (b : Nat) (tw : List Int) (st : List UInt8) (L : Ls) : List Ls := (chunksB L).map fun T => mixB b tw st (cardsB T)

set_option maxHeartbeats 8000000
set_option maxRecDepth 20000


def cutE : List UInt8 → Ls → List UInt8 → Bool
 | [], _, _ => false
 | c :: r, pack, line => if c = 10 then (if line ≠ [] then cutE r (pack ++ [line]) [] else if pack = [] then true else cutE r [] []) else cutE r pack (line ++ [c])

theorem cutE_true : ∀ (l : List UInt8) (out : List Ls) (pack : Ls) (line : List UInt8), cutE l pack line = true → cutS l out pack line = ([], false)
 | [], _, _, _, h => by simp [cutE] at h
 | c :: r, out, pack, line, h => by
  unfold cutE at h
  unfold cutS
  by_cases hc : c = 10
  ·rw [if_pos hc] at h ⊢
   by_cases hl : line ≠ []
   ·rw [if_pos hl] at h ⊢
    exact cutE_true r _ _ _ h
   ·rw [if_neg hl] at h ⊢
    by_cases hp : pack = []
    ·rw [if_pos hp]
    ·rw [if_neg hp] at h ⊢
     exact cutE_true r _ _ _ h
  ·rw [if_neg hc] at h ⊢
   exact cutE_true r _ _ _ h

@[simp] abbrev cPl (p : Ls) : List C := [sT false false p]
@[simp] abbrev sPl (nl fu : Bool) (P : List Ls) : C := .sl nl fu (P.map cPl)
def encCut (l : List UInt8) : C := if cutE l [] [] = true then .tup [.sl true true [], .bool false] else .tup [sPl (cutV l).1.isEmpty false (cutV l).1, .bool (cutV l).2]

structure CutX where
 i : Nat
 out : List Ls
 pack : Ls
 line : List UInt8

theorem q_cut23 (l : List UInt8) (hn : l.length ≤ 1000000) : Pure Tryz.prog 23 [encS l] (encCut l) := by
 have hsz := S_size l
 have hE : cutE l [] [] = cutE (l.drop 0) [] [] := by rw [List.drop_zero]
 have hV : cutV l = cutS (l.drop 0) [] [] [] := by rw [List.drop_zero]; rfl
 unfold encCut
 generalize cutE l [] [] = E at *
 generalize cutV l = V at *
 refine ZF (fn := Tryz.f23) [.tmp 2, .tmp 3] ⟨Tryz.func23, rfl, by kernel_rfl⟩ fun x hx hσ => ?_
 (repeat refine ZQ ?_); refine ZR fun K hK => ?_; simp (maxSteps := 1000000) [ty42, ty4]; refine hK _ ?_; clear hK K
 (repeat refine ZQ ?_); refine ZR fun K hK => ?_; simp (maxSteps := 1000000) [ty42]; refine hK _ ?_; clear hK K
 (repeat refine ZQ ?_); refine ZR fun K hK => ?_; simp (maxSteps := 1000000) [ty22]; refine hK _ ?_; clear hK K
 (repeat refine ZQ ?_); refine ZR fun K hK => ?_; simp (maxSteps := 1000000) [ty9, ty4]; refine hK _ ?_; clear hK K
 (repeat refine ZQ ?_); refine ZR fun K hK => ?_; simp (maxSteps := 1000000) [ty3]; refine hK _ ?_; clear hK K
 (repeat refine ZQ ?_); refine awp_block ?_
 refine AWP.weak ?_ (wk_nil 4 4 1 (fu := true) (by simp) (by simp))
 refine AWP.weak ?_ (wk_nil 5 5 1 (fu := true) (by simp) (by simp))
 refine awp_loop (fun X : CutX => ⟨ofL [(0, encS l), (4, .own 4 1 0 X.out.length), (5, .own 5 1 0 X.pack.length), (6, encS X.line), (7, .bool (!decide (X.pack = [] ∧ X.line = []))), (8, encI X.i)],
  stoT [(4, 4, .live ⟨X.out.isEmpty, false, 1, X.out.map cPl⟩), (5, 5, .live ⟨X.pack.isEmpty, false, 1, X.pack.map cS⟩)]⟩)
  (fun X => X.i ≤ l.length ∧ X.out.length ≤ X.i ∧ X.pack.length ≤ X.i ∧ X.line.length ≤ X.i ∧ E = cutE (l.drop X.i) X.pack X.line ∧ V = cutS (l.drop X.i) X.out X.pack X.line) (fun X => l.length - X.i) ⟨0, [], [], []⟩ ⟨Nat.zero_le _, Nat.le_refl _, Nat.le_refl _, Nat.le_refl _, hE, hV⟩ ?_ ?_
 ·exact ZW
 ·rintro ⟨i, out, pack, line⟩ ⟨hi, ho, hp, hl, gE, gV⟩
  simp only at hi ho hp hl gE gV ⊢
  obtain ⟨i1, hi1⟩ : ∃ i1, i + 1 = i1 := ⟨_, rfl⟩
  have w1 : IntKind.i64.wrap ((i : Int) + 1) = (i1 : Int) := by rw [wrap_id (by omega) (by omega)]; omega
  (repeat refine ZQ ?_); refine ZR fun K hK => ?_; simp (maxSteps := 1000000) [ty9, ty3, hsz]; refine hK _ ?_; clear hK K; (first | show AWP _ _ _ _ _ | show ∃ _, _ | skip)
  by_cases hlt : i < l.length
  ·have hlt' : (i : Int) < l.length := by omega
   (repeat refine ZQ ?_); refine ZC (hc := by simp [hlt]; rfl) (fun hd => ?_) (fun hd => ?_)
   ·clear hd
    have g := S_at hlt
    have hx1 := S_ext l i i1
    have hle1 : i ≤ i1 := by omega
    have hle2 : i1 ≤ l.length := by omega
    have hx2 : (l.take i1).drop i = [l[i]] := by
     rw [← hi1, List.take_succ_eq_append_getElem hlt, List.drop_left' (by simp; omega)]
    rw [hx2] at hx1
    have hdr : l.drop i = l[i] :: l.drop i1 := hi1 ▸ List.drop_eq_getElem_cons hlt
    rw [hdr] at gE gV
    unfold cutE at gE
    unfold cutS at gV
    have hb := (l[i]).toNat_lt
    have ha := str_add (a := line) (b := [l[i]]) (by simp; omega)
    have hne : (((l[i]).toNat : Int) != 10) = !decide (l[i] = 10) := by
     rw [Bool.eq_iff_iff]
     simp only [bne_iff_ne, Bool.not_eq_true', decide_eq_false_iff_not]
     constructor
     ·rintro h rfl'; rw [rfl'] at h; exact h rfl
     ·intro h h2; exact h (UInt8.toNat_inj.1 (by show (l[i]).toNat = 10; omega))
    generalize l[i] = c at *
    generalize hr : l.drop i1 = r at *
    generalize hlc : [c] = lc at hx1 ha gE gV
    refine awp_skip ?_
    (repeat refine ZQ ?_); refine awp_block ?_
    by_cases hc : c = 10
    ·rw [if_pos hc] at gE gV
     rw [decide_eq_true hc] at hne
     (repeat refine ZQ ?_); refine ZR fun K hK => ?_; simp (maxSteps := 1000000) [ty9, ty3, ty5, hne, g]; refine hK _ ?_; clear hK K
     (repeat refine ZQ ?_); refine ZC (fun hd => ?_) (fun hd => ?_)
     ·simp at hd
     ·clear hd
      refine awp_skip ?_; (first | show AWP _ _ _ _ _ | show ∃ _, _ | skip)
      have hs := str_ne line []
      by_cases hl0 : line = []
      ·have hsn : (!(line == [])) = false := by rw [hl0]; rfl
       rw [hsn] at hs
       rw [if_neg (by simp [hl0])] at gE gV
       (repeat refine ZQ ?_); refine ZR fun K hK => ?_; simp (maxSteps := 1000000) [ty9, hs, -strBin]; refine hK _ ?_; clear hK K
       (repeat refine ZQ ?_); refine ZC (fun hd => ?_) (fun hd => ?_)
       ·simp at hd
       ·clear hd
        refine awp_skip ?_; (first | show AWP _ _ _ _ _ | show ∃ _, _ | skip)
        by_cases hp0 : pack = []
        ·rw [if_pos hp0] at gE gV
         rw [gE, if_pos rfl]
         (repeat refine ZQ ?_); refine ZR fun K hK => ?_; simp (maxSteps := 1000000) [ty22, ty3, hp0]; refine hK _ ?_; clear hK K
         (repeat refine ZQ ?_); refine ZC (fun hd => ?_) (fun hd => ?_)
         ·clear hd
          (repeat refine ZQ ?_); refine ZR fun K hK => ?_; simp (maxSteps := 1000000) [ty42, ty4]; refine hK _ ?_; clear hK K
          (repeat refine ZQ ?_); refine awp_ret ?_; refine And.intro (Or.inr rfl) ?_
          simp [retC, resC, viewC, mapO]
         ·simp at hd
        ·rw [if_neg hp0] at gE gV
         have hpl : 0 < pack.length := List.length_pos_iff.2 hp0
         have hpz : ((pack.length : Int) == 0) = false := by rw [beq_eq_false_iff_ne]; omega
         have hpe : pack.isEmpty = false := by simpa using hp0
         (repeat refine ZQ ?_); refine ZR fun K hK => ?_; simp (maxSteps := 1000000) [ty22, ty3, hpz]; refine hK _ ?_; clear hK K
         (repeat refine ZQ ?_); refine ZC (fun hd => ?_) (fun hd => ?_)
         ·simp at hd
         ·clear hd
          refine awp_skip ?_; (first | show AWP _ _ _ _ _ | show ∃ _, _ | skip)
          refine AWP.weak ?_ (wk_frz 5 5 (c := sT false false pack) (o := ⟨pack.isEmpty, false, 1, pack.map cS⟩) (by simp) (by simp [purel, C.isPure]) (by
           have := fz_own (k := 5) (sz := 1) (n := pack.length) (b := false) (o := ⟨pack.isEmpty, false, 1, pack.map cS⟩) rfl (by simp) (by simp [hp0])
           simpa using this))
          (repeat refine ZQ ?_); refine ZR fun K hK => ?_; simp (maxSteps := 1000000) [ty42, ty22, ty4]
          refine ⟨by omega, ?_⟩
          refine hK _ ?_; clear hK K
          (repeat refine ZQ ?_); refine ZR fun K hK => ?_; simp (maxSteps := 1000000) [ty3, w1]; refine hK _ ?_; clear hK K; (first | show AWP _ _ _ _ _ | show ∃ _, _ | skip)
          refine ⟨⟨i1, out ++ [pack], [], []⟩, ⟨by simp; omega, by simp; omega, by simp, by simp, by simp only [hr]; exact gE, by simp only [hr]; exact gV⟩, by simp; omega, ?_⟩
          refine Wk.trans (t := ⟨ofL [(0, encS l), (4, .own 4 1 0 (out ++ [pack]).length), (5, .sl true true []), (6, encS []), (7, .bool false), (8, encI i1)],
           stoT [(4, 4, .live ⟨(out ++ [pack]).isEmpty, false, 1, (out ++ [pack]).map cPl⟩)]⟩) ?_ (Wk.trans (wk_nil 5 5 1 (fu := true) (by simp) (by simp)) ?_)
          ·refine wk_shape2 [(4, 38, .live ⟨(out ++ [pack]).isEmpty, false, 1, (out ++ [pack]).map cPl⟩)] (by first | rfl | (simp only [if_pos, if_true, hl0]; rfl)) (shp0 hσ (by simp) (by simp) ?_) ?_
           ·simp [SlotOk, hl0] <;> (repeat' (first | (refine RowsOk.same ?_; simp [purel, C.isPure]; done) | (refine rowsCons ?_; simp [mtl, mtc, mT, mH, C.isPure, purel]; done) | (refine rowsCons ?_; simp [mtl, mtc, mT, mH, C.isPure, purel]) | refine And.intro ?_ ?_))
           ·simp [mtc, mtl, mT, C.isPure, purel, hl0] <;> (try simp (disch := omega) [wrap_id]) <;> (try omega)
          ·exact ZW
      ·have hsn : (!(line == [])) = true := by simpa using hl0
       rw [hsn] at hs
       rw [if_pos hl0] at gE gV
       (repeat refine ZQ ?_); refine ZR fun K hK => ?_; simp (maxSteps := 1000000) [ty9, hs, -strBin]; refine hK _ ?_; clear hK K
       (repeat refine ZQ ?_); refine ZC (fun hd => ?_) (fun hd => ?_)
       ·clear hd
        (repeat refine ZQ ?_); refine ZR fun K hK => ?_; simp (maxSteps := 1000000) [ty22, ty9]
        refine ⟨by omega, ?_⟩
        refine hK _ ?_; clear hK K
        (repeat refine ZQ ?_); refine awp_exit ?_
        (repeat refine ZQ ?_); refine ZR fun K hK => ?_; simp (maxSteps := 1000000) [ty3, w1]; refine hK _ ?_; clear hK K; (first | show AWP _ _ _ _ _ | show ∃ _, _ | skip)
        refine ⟨⟨i1, out, pack ++ [line], []⟩, ⟨by simp; omega, by simp; omega, by simp; omega, by simp, by simp only [hr]; exact gE, by simp only [hr]; exact gV⟩, by simp; omega, ?_⟩
        refine wk_shape2 [(4, 4, .live ⟨out.isEmpty, false, 1, out.map cPl⟩), (5, 31, .live ⟨(pack ++ [line]).isEmpty, false, 1, (pack ++ [line]).map cS⟩)] (by first | rfl | (simp only [if_pos, if_true, hl0]; rfl)) (shp0 hσ (by simp) (by simp) ?_) ?_
        ·simp [SlotOk, hl0] <;> (repeat' (first | (refine RowsOk.same ?_; simp [purel, C.isPure]; done) | (refine rowsCons ?_; simp [mtl, mtc, mT, mH, C.isPure, purel]; done) | (refine rowsCons ?_; simp [mtl, mtc, mT, mH, C.isPure, purel]) | refine And.intro ?_ ?_))
        ·simp [mtc, mtl, mT, C.isPure, purel, hl0] <;> (try simp (disch := omega) [wrap_id]) <;> (try omega)
       ·simp at hd
    ·rw [if_neg hc] at gE gV
     rw [decide_eq_false hc] at hne
     (repeat refine ZQ ?_); refine ZR fun K hK => ?_; simp (maxSteps := 1000000) [ty9, ty3, ty5, hne, g]; refine hK _ ?_; clear hK K
     (repeat refine ZQ ?_); refine ZC (fun hd => ?_) (fun hd => ?_)
     ·clear hd
      (repeat refine ZQ ?_); refine ZR fun K hK => ?_; simp (maxSteps := 1000000) [ty9, ty3, ty4, w1, hx1, ha, hsz, hle1, hle2, -strBin]; refine hK _ ?_; clear hK K
      (repeat refine ZQ ?_); refine awp_exit ?_
      (repeat refine ZQ ?_); refine ZR fun K hK => ?_; simp (maxSteps := 1000000) [ty3, w1]; refine hK _ ?_; clear hK K; (first | show AWP _ _ _ _ _ | show ∃ _, _ | skip)
      have hlcn : lc ≠ [] := by rw [← hlc]; simp
      refine ⟨⟨i1, out, pack, line ++ lc⟩, ⟨by simp; omega, by simp; omega, by simp; omega, by simp [← hlc]; omega, by simp only [hr]; exact gE, by simp only [hr]; exact gV⟩, by simp; omega, ?_⟩
      refine wk_shape (shp0 hσ (by simp) (by simp) ?_) ?_
      ·simp [SlotOk, hlcn] <;> (repeat' (first | (refine RowsOk.same ?_; simp [purel, C.isPure]; done) | (refine rowsCons ?_; simp [mtl, mtc, mT, mH, C.isPure, purel]; done) | (refine rowsCons ?_; simp [mtl, mtc, mT, mH, C.isPure, purel]) | refine And.intro ?_ ?_))
      ·simp [mtc, mtl, mT, C.isPure, purel, hlcn] <;> (try simp (disch := omega) [wrap_id]) <;> (try omega)
     ·simp at hd
   ·simp [hlt] at hd
  ·have hin : i = l.length := by omega
   subst hin
   rw [List.drop_length] at gE gV
   simp only [cutE] at gE
   simp only [cutS] at gV
   (repeat refine ZQ ?_); refine ZC (fun hd => ?_) (fun hd => ?_)
   ·simp at hd
   ·clear hd
    (repeat refine ZQ ?_); refine awp_exit ?_; (first | show AWP _ _ _ _ _ | show ∃ _, _ | skip)
    rw [gE, if_neg (by simp), gV]
    have hpu : (out.map cPl).all purel = true := all_purel_map fun _ => rfl
    have ht : List.take out.length (out.map cPl) = out.map cPl := List.take_of_length_le (by simp)
    (repeat refine ZQ ?_); refine ZR fun K hK => ?_; simp (maxSteps := 1000000) [ty42, ty4]; refine hK _ ?_; clear hK K
    (repeat refine ZQ ?_); refine awp_ret ?_; refine And.intro (Or.inr rfl) ?_
    simp [retC, resC, viewC, mapO, hpu, ht]

set_option maxHeartbeats 8000000
set_option maxRecDepth 20000


theorem within76 (n a b : Int) : Pure Tryz.prog 76 [encI n, encI a, encI b] (.bool (decide (a ≤ n) && decide (n ≤ b))) := by
 refine ZF (fn := Tryz.f76) [.tmp 6] ⟨Tryz.func76, rfl, by kernel_rfl⟩ fun x hx hσ => ?_
 (repeat refine ZQ ?_); refine ZR fun K hK => ?_; simp (maxSteps := 1000000) [ty4]; refine hK _ ?_; clear hK K; (first | show AWP _ _ _ _ _ | show ∃ _, _ | skip)
 by_cases h1 : a ≤ n
 ·(repeat refine ZQ ?_); refine ZR fun K hK => ?_; simp (maxSteps := 1000000) [ty3, ty4, h1]; refine hK _ ?_; clear hK K
  (repeat refine ZQ ?_); refine awp_ret ?_; refine And.intro (Or.inr rfl) ?_
  simp [retC, resC, viewC, mapO, h1]
 ·(repeat refine ZQ ?_); refine ZR fun K hK => ?_; simp (maxSteps := 1000000) [ty3, ty4, h1]; refine hK _ ?_; clear hK K
  (repeat refine ZQ ?_); refine awp_ret ?_; refine And.intro (Or.inr rfl) ?_
  simp [retC, resC, viewC, mapO, h1]
theorem within45 (n a b : Int) : Pure Tryz.prog 45 [encI n, encI a, encI b] (.bool (decide (a ≤ n) && decide (n ≤ b))) := by
 have c := within76 n a b
 refine ZF (fn := Tryz.f45) [.tmp 6] ⟨Tryz.func45, rfl, by kernel_rfl⟩ fun x hx hσ => ?_
 (repeat refine ZQ ?_); refine ZR fun K hK => ?_; simp (maxSteps := 1000000) [ty4]; refine hK _ ?_; clear hK K
 (repeat refine ZQ ?_); refine ZR fun K hK => ?_; simp (maxSteps := 1000000) [ty3]
 refine ZP (c) ?_; simp (maxSteps := 1000000) [ty4]
 refine hK _ ?_; clear hK K
 (repeat refine ZQ ?_); refine awp_ret ?_; refine And.intro (Or.inr rfl) ?_
 simp [retC, resC, viewC, mapO]

theorem parse_eq {l : List UInt8} (h : bad1 l = false) : parseOk l = ((checkB (l.take (l.length - 2)) == l.drop (l.length - 2)) && !decide ((headC l).many < 1) && !decide (8 < (headC l).many) && !bad3 (headC l) && decide (2 ≤ longN (headC l)) && decide (longN (headC l) ≤ 62)) := by
 unfold parseOk bad2
 rw [h]
 cases (checkB (l.take (l.length - 2)) == l.drop (l.length - 2)) <;> cases decide ((headC l).many < 1) <;> cases decide (8 < (headC l).many) <;> rfl


theorem q_isGood22 (l : List UInt8) (hn : l.length ≤ 100000) : Pure Tryz.prog 22 [encS l] (.bool (parseOk l)) := by
 have hsz := S_size l
 have cpl := q_plain44 l (by omega)
 by_cases h6 : l.length < 6
 ·have hP : parseOk l = false := by unfold parseOk bad1; rw [decide_eq_true h6]; rfl
  have h6' : (l.length : Int) < 6 := by omega
  rw [hP]
  refine ZF (fn := Tryz.f22) [.tmp 2] ⟨Tryz.func22, rfl, by kernel_rfl⟩ fun x hx hσ => ?_
  (repeat refine ZQ ?_); refine ZR fun K hK => ?_; simp (maxSteps := 1000000) [ty4]; refine hK _ ?_; clear hK K
  (repeat refine ZQ ?_); refine ZR fun K hK => ?_; simp (maxSteps := 1000000) [ty9, ty3, ty4, ty5, hsz, h6']; refine hK _ ?_; clear hK K
  (repeat refine ZQ ?_); refine ZC (hc := by simp [h6']; rfl) (fun hd => ?_) (fun hd => ?_)
  ·clear hd
   (repeat refine ZQ ?_); refine ZR fun K hK => ?_; simp (maxSteps := 1000000) [ty4]; refine hK _ ?_; clear hK K
   (repeat refine ZQ ?_); refine awp_ret ?_; refine And.intro (Or.inr rfl) ?_
   simp [retC, resC, viewC, mapO]
  ·simp [h6'] at hd
 ·have h6' : ¬ (l.length : Int) < 6 := by omega
  cases hpl : plainB l with
  | false =>
   have hP : parseOk l = false := by unfold parseOk bad1; rw [hpl, decide_eq_false h6]; rfl
   rw [hpl] at cpl
   rw [hP]
   refine ZF (fn := Tryz.f22) [.tmp 2] ⟨Tryz.func22, rfl, by kernel_rfl⟩ fun x hx hσ => ?_
   (repeat refine ZQ ?_); refine ZR fun K hK => ?_; simp (maxSteps := 1000000) [ty4]; refine hK _ ?_; clear hK K
   (repeat refine ZQ ?_); refine ZR fun K hK => ?_; simp (maxSteps := 1000000) [ty9, ty3, ty4, ty5, hsz, h6']
   refine ZP (cpl) ?_; simp (maxSteps := 1000000) [ty9, ty3, ty4, ty5, hsz, h6']
   refine hK _ ?_; clear hK K
   (repeat refine ZQ ?_); refine ZC (fun hd => ?_) (fun hd => ?_)
   ·clear hd
    (repeat refine ZQ ?_); refine ZR fun K hK => ?_; simp (maxSteps := 1000000) [ty4]; refine hK _ ?_; clear hK K
    (repeat refine ZQ ?_); refine awp_ret ?_; refine And.intro (Or.inr rfl) ?_
    simp [retC, resC, viewC, mapO]
   ·simp at hd
  | true =>
   have hb1 : bad1 l = false := by unfold bad1; rw [hpl, decide_eq_false h6]; rfl
   have f := lnF l hn hb1
   have hP := parse_eq hb1
   have hmb : (headC l).many = ((l.getD 1 0).toNat : Int) - 48 := rfl
   have cck := q_check47 (l.take (l.length - 2)) (by simp; omega) (sumB_nn _ _ fun x hx => plain_ge hpl x (List.mem_of_mem_take hx))
   have he := str_eq (checkB (l.take (l.length - 2))) (l.drop (l.length - 2))
   rw [hpl] at cpl
   generalize l.length - 2 = e at *
   generalize headC l = cd at *
   generalize l.getD 1 0 = b at *
   generalize (checkB (l.take e) == l.drop e) = ck at *
   generalize checkB (l.take e) = chk at *
   obtain ⟨_, _, _, wE, g0, g1, _, _, hx2, e2, eL, hx0, _, hxe, _, mb, rl, nb⟩ := f
   generalize l.take e = tk at *
   generalize l.drop e = dr at *
   by_cases hA : b.toNat < 49
   ·have hA' : (b.toNat : Int) < 49 := by omega
    have hPf : parseOk l = false := by rw [hP, decide_eq_true (by omega : cd.many < 1)]; simp
    rw [hPf]
    refine ZF (fn := Tryz.f22) [.tmp 2] ⟨Tryz.func22, rfl, by kernel_rfl⟩ fun x hx hσ => ?_
    (repeat refine ZQ ?_); refine ZR fun K hK => ?_; simp (maxSteps := 1000000) [ty4]; refine hK _ ?_; clear hK K
    (repeat refine ZQ ?_); refine ZR fun K hK => ?_; simp (maxSteps := 1000000) [ty9, ty3, ty4, ty5, hsz, h6', g1, hA']
    refine ZP (cpl) ?_; simp (maxSteps := 1000000) [ty9, ty3, ty4, ty5, hsz, h6', g1, hA']
    refine hK _ ?_; clear hK K
    (repeat refine ZQ ?_); refine ZC (fun hd => ?_) (fun hd => ?_)
    ·clear hd
     (repeat refine ZQ ?_); refine ZR fun K hK => ?_; simp (maxSteps := 1000000) [ty4]; refine hK _ ?_; clear hK K
     (repeat refine ZQ ?_); refine awp_ret ?_; refine And.intro (Or.inr rfl) ?_
     simp [retC, resC, viewC, mapO]
    ·simp at hd
   ·have hA' : ¬ (b.toNat : Int) < 49 := by omega
    by_cases hB : 56 < b.toNat
    ·have hB' : (56 : Int) < b.toNat := by omega
     have hPf : parseOk l = false := by rw [hP, decide_eq_true (by omega : 8 < cd.many)]; simp
     rw [hPf]
     refine ZF (fn := Tryz.f22) [.tmp 2] ⟨Tryz.func22, rfl, by kernel_rfl⟩ fun x hx hσ => ?_
     (repeat refine ZQ ?_); refine ZR fun K hK => ?_; simp (maxSteps := 1000000) [ty4]; refine hK _ ?_; clear hK K
     (repeat refine ZQ ?_); refine ZR fun K hK => ?_; simp (maxSteps := 1000000) [ty9, ty3, ty4, ty5, hsz, h6', g1, hA', hB']
     refine ZP (cpl) ?_; simp (maxSteps := 1000000) [ty9, ty3, ty4, ty5, hsz, h6', g1, hA', hB']
     refine hK _ ?_; clear hK K
     (repeat refine ZQ ?_); refine ZC (fun hd => ?_) (fun hd => ?_)
     ·clear hd
      (repeat refine ZQ ?_); refine ZR fun K hK => ?_; simp (maxSteps := 1000000) [ty4]; refine hK _ ?_; clear hK K
      (repeat refine ZQ ?_); refine awp_ret ?_; refine And.intro (Or.inr rfl) ?_
      simp [retC, resC, viewC, mapO]
     ·simp at hd
    ·have hB' : ¬ (56 : Int) < b.toNat := by omega
     rw [decide_eq_false (by omega : ¬ cd.many < 1), decide_eq_false (by omega : ¬ 8 < cd.many)] at hP
     have hszr := S_size cd.row
     have ea : ((cd.num.toNat : Int) == 97) = (cd.num == 97) := u8_eq cd.num 97 (by decide)
     have eb : ((cd.num.toNat : Int) == 98) = (cd.num == 98) := u8_eq cd.num 98 (by decide)
     rw [hP]
     clear hP
     refine ZF (fn := Tryz.f22) [.tmp 2] ⟨Tryz.func22, rfl, by kernel_rfl⟩ fun x hx hσ => ?_
     (repeat refine ZQ ?_); refine ZR fun K hK => ?_; simp (maxSteps := 1000000) [ty4]; refine hK _ ?_; clear hK K
     (repeat refine ZQ ?_); refine ZR fun K hK => ?_; simp (maxSteps := 1000000) [ty9, ty3, ty4, ty5, hsz, h6', g1, hA', hB']
     refine ZP (cpl) ?_; simp (maxSteps := 1000000) [ty9, ty3, ty4, ty5, hsz, h6', g1, hA', hB']
     refine hK _ ?_; clear hK K
     (repeat refine ZQ ?_); refine ZC (fun hd => ?_) (fun hd => ?_)
     ·simp at hd
     ·clear hd
      refine awp_skip ?_
      (repeat refine ZQ ?_); refine ZR fun K hK => ?_; simp (maxSteps := 1000000) [ty9, ty3, hsz, wE, hx2, e2, eL]; refine hK _ ?_; clear hK K; (first | show AWP _ _ _ _ _ | show ∃ _, _ | skip)
      cases hs : sumN cd.num
      ·have hs' := hs
       unfold sumN at hs'
       simp only [Bool.or_eq_false_iff] at hs'
       rw [hs'.1] at ea
       rw [hs'.2] at eb
       have hln : longN cd = cd.row.length := by unfold longN; rw [hs]; rfl
       unfold bad3
       rw [hs, if_neg (by simp), hln]
       have hmn : (cd.many < (cd.num.toNat : Int) - 48) = (b.toNat < cd.num.toNat) := propext (by omega)
       (repeat refine ZQ ?_); refine ZR fun K hK => ?_; simp (maxSteps := 1000000) [ty9, ty3, ty4, ty5, g0, ea, eb]; refine hK _ ?_; clear hK K
       (repeat refine ZQ ?_); refine ZC (fun hd => ?_) (fun hd => ?_)
       ·simp at hd
       ·clear hd
        by_cases hN : cd.num.toNat < 49
        ·have hN' : (cd.num.toNat : Int) < 49 := by omega
         (repeat refine ZQ ?_); refine ZD [] [0, 1, 2, 3, 4, 5, 6, 7, 8, 9, 10, 11, 12, 13, 14, 15] fun K hK => ?_; simp (maxSteps := 1000000) [ty9, ty3, ty4, ty5, g0, hN']; refine hK _ ?_; clear hK K; (first | show AWP _ _ _ _ _ | show ∃ _, _ | skip)
         rw [decide_eq_true hN]
         simp only [Bool.true_or, Bool.not_true, Bool.and_false, Bool.false_and]
         (repeat refine ZQ ?_); refine ZC (fun hd => ?_) (fun hd => ?_)
         ·clear hd
          (repeat refine ZQ ?_); refine ZR fun K hK => ?_; simp (maxSteps := 1000000) [ty4]; refine hK _ ?_; clear hK K
          (repeat refine ZQ ?_); refine awp_ret ?_; refine And.intro (Or.inr rfl) ?_
          simp [retC, resC, viewC, mapO]
         ·simp at hd
        ·have hN' : ¬ (cd.num.toNat : Int) < 49 := by omega
         rw [decide_eq_false hN]
         by_cases hM : b.toNat < cd.num.toNat
         ·have hM' : (b.toNat : Int) < cd.num.toNat := by omega
          (repeat refine ZQ ?_); refine ZD [] [0, 1, 2, 3, 4, 5, 6, 7, 8, 9, 10, 11, 12, 13, 14, 15] fun K hK => ?_; simp (maxSteps := 1000000) [ty9, ty3, ty4, ty5, g0, g1, hN', hM']; refine hK _ ?_; clear hK K; (first | show AWP _ _ _ _ _ | show ∃ _, _ | skip)
          rw [decide_eq_true (by omega : cd.many < (cd.num.toNat : Int) - 48)]
          simp only [Bool.or_true, Bool.not_true, Bool.and_false, Bool.false_and]
          (repeat refine ZQ ?_); refine ZC (fun hd => ?_) (fun hd => ?_)
          ·clear hd
           (repeat refine ZQ ?_); refine ZR fun K hK => ?_; simp (maxSteps := 1000000) [ty4]; refine hK _ ?_; clear hK K
           (repeat refine ZQ ?_); refine awp_ret ?_; refine And.intro (Or.inr rfl) ?_
           simp [retC, resC, viewC, mapO]
          ·simp at hd
         ·have hM' : ¬ (b.toNat : Int) < cd.num.toNat := by omega
          rw [decide_eq_false (by omega : ¬ cd.many < (cd.num.toNat : Int) - 48)]
          have cw := within45 cd.row.length 2 62
          have hw : (decide ((2 : Int) ≤ cd.row.length) && decide ((cd.row.length : Int) ≤ 62)) = (decide (2 ≤ cd.row.length) && decide (cd.row.length ≤ 62)) := by
           rw [Bool.eq_iff_iff]; simp only [Bool.and_eq_true, decide_eq_true_eq]; omega
          rw [hw] at cw
          rw [Bool.and_assoc, Bool.and_assoc]
          cases hww : (decide (2 ≤ cd.row.length) && decide (cd.row.length ≤ 62))
          ·rw [hww] at cw
           (repeat refine ZQ ?_); refine ZD [] [0, 1, 2, 3, 4, 5, 6, 7, 8, 9, 10, 11, 12, 13, 14, 15] fun K hK => ?_; simp (maxSteps := 1000000) [ty9, ty3, ty4, ty5, g0, g1, hN', hM', hszr]
           refine ZE (cw) ?_; simp (maxSteps := 1000000) [ty9, ty3, ty4, ty5, g0, g1, hN', hM', hszr]
           refine hK _ ?_; clear hK K; (first | show AWP _ _ _ _ _ | show ∃ _, _ | skip)
           simp only [Bool.and_false]
           (repeat refine ZQ ?_); refine ZC (fun hd => ?_) (fun hd => ?_)
           ·clear hd
            (repeat refine ZQ ?_); refine ZR fun K hK => ?_; simp (maxSteps := 1000000) [ty4]; refine hK _ ?_; clear hK K
            (repeat refine ZQ ?_); refine awp_ret ?_; refine And.intro (Or.inr rfl) ?_
            simp [retC, resC, viewC, mapO]
           ·simp at hd
          ·rw [hww] at cw
           (repeat refine ZQ ?_); refine ZD [] [0, 1, 2, 3, 4, 5, 6, 7, 8, 9, 10, 11, 12, 13, 14, 15] fun K hK => ?_; simp (maxSteps := 1000000) [ty9, ty3, ty4, ty5, g0, g1, hN', hM', hszr]
           refine ZE (cw) ?_; simp (maxSteps := 1000000) [ty9, ty3, ty4, ty5, g0, g1, hN', hM', hszr]
           refine hK _ ?_; clear hK K
           (repeat refine ZQ ?_); refine ZC (fun hd => ?_) (fun hd => ?_)
           ·simp at hd
           ·clear hd
            refine awp_skip ?_; (first | show AWP _ _ _ _ _ | show ∃ _, _ | skip)
            simp only [Bool.or_false, Bool.not_false, Bool.and_true]
            (repeat refine ZQ ?_); refine ZD [] [0, 1, 2, 3, 4, 5, 6, 7, 8, 9, 10, 11, 12] fun K hK => ?_; simp (maxSteps := 1000000) [ty9, ty3, hsz, wE, e2, eL, hx0, hxe]
            refine ZE (cck) ?_; simp (maxSteps := 1000000) [ty9, ty3, ty4, hsz, wE, e2, eL, hxe, he, -strBin]
            refine hK _ ?_; clear hK K
            (repeat refine ZQ ?_); refine awp_ret ?_; refine And.intro (Or.inr rfl) ?_
            simp [retC, resC, viewC, mapO]
      ·have hln : longN cd = cd.row.length / 2 := by unfold longN; rw [hs]; rfl
       unfold bad3
       rw [hs, if_pos rfl, hln]
       have cw := within45 ((cd.row.length / 2 : Nat) : Int) 2 62
       have hw : (decide ((2 : Int) ≤ ((cd.row.length / 2 : Nat) : Int)) && decide (((cd.row.length / 2 : Nat) : Int) ≤ 62)) = (decide (2 ≤ cd.row.length / 2) && decide (cd.row.length / 2 ≤ 62)) := by
        rw [Bool.eq_iff_iff]; simp only [Bool.and_eq_true, decide_eq_true_eq]; omega
       rw [hw] at cw
       have cdg := q_digits46 cd.row (by omega)
       have r1 : Int.tmod (cd.row.length : Int) 2 = ((cd.row.length % 2 : Nat) : Int) := rfl
       have r2 : Int.tdiv (cd.row.length : Int) 2 = ((cd.row.length / 2 : Nat) : Int) := rfl
       obtain ⟨hf, hhf⟩ : ∃ hf, cd.row.length / 2 = hf := ⟨_, rfl⟩
       have wd : IntKind.i64.wrap (hf : Int) = (hf : Int) := wrap_id (by omega) (by omega)
       rw [hhf] at cw hw r2 ⊢
       have hm4 : (cd.num == 97) = false → (cd.num == 98) = true := fun h => by unfold sumN at hs; rw [h] at hs; simpa using hs
       refine awp_seq ?_
       refine awp_mid ⟨ofL [(0, encS l), (3, encS cd.row), (34, .bool true)], stoT []⟩ ?_ ?_
       ·cases ha : cd.num == 97
        ·rw [ha] at ea
         rw [hm4 ha] at eb
         (repeat refine ZQ ?_); refine ZR fun K hK => ?_; simp (maxSteps := 1000000) [ty9, ty3, ty4, ty5, g0, ea, eb]; refine hK _ ?_; clear hK K; (first | show AWP _ _ _ _ _ | show ∃ _, _ | skip)
         exact ZW
        ·rw [ha] at ea
         (repeat refine ZQ ?_); refine ZR fun K hK => ?_; simp (maxSteps := 1000000) [ty9, ty3, ty4, ty5, g0, ea]; refine hK _ ?_; clear hK K; (first | show AWP _ _ _ _ _ | show ∃ _, _ | skip)
         exact ZW
       ·(repeat refine ZQ ?_); refine ZC (fun hd => ?_) (fun hd => ?_)
        ·clear hd
         by_cases hO : cd.row.length % 2 = 0
         ·rw [hO] at r1
          rw [hO]
          cases hww : (decide (2 ≤ hf) && decide (hf ≤ 62))
          ·rw [hww] at cw
           rw [Bool.and_assoc, hww, Bool.and_false]
           (repeat refine ZQ ?_); refine ZR fun K hK => ?_; simp (maxSteps := 1000000) [ty9, ty3, ty4, hszr, r1, r2, wd]
           refine ZP (cw) ?_; simp (maxSteps := 1000000) [ty9, ty3, ty4, hszr, r1, r2, wd]
           refine hK _ ?_; clear hK K
           (repeat refine ZQ ?_); refine ZC (fun hd => ?_) (fun hd => ?_)
           ·clear hd
            (repeat refine ZQ ?_); refine ZR fun K hK => ?_; simp (maxSteps := 1000000) [ty4]; refine hK _ ?_; clear hK K
            (repeat refine ZQ ?_); refine awp_ret ?_; refine And.intro (Or.inr rfl) ?_
            simp [retC, resC, viewC, mapO]
           ·simp at hd
          ·rw [hww] at cw
           rw [Bool.and_assoc, hww]
           cases hdg : digB cd.row
           ·rw [hdg] at cdg
            simp only [Bool.not_false, Bool.or_true, Bool.not_true, Bool.and_false, Bool.false_and]
            (repeat refine ZQ ?_); refine ZR fun K hK => ?_; simp (maxSteps := 1000000) [ty9, ty3, ty4, hszr, r1, r2, wd]
            refine ZP (cw) ?_; simp (maxSteps := 1000000) [ty9, ty3, ty4, hszr, r1, r2, wd]
            refine ZP (cdg) ?_; simp (maxSteps := 1000000) [ty9, ty3, ty4]
            refine hK _ ?_; clear hK K
            (repeat refine ZQ ?_); refine ZC (fun hd => ?_) (fun hd => ?_)
            ·clear hd
             (repeat refine ZQ ?_); refine ZR fun K hK => ?_; simp (maxSteps := 1000000) [ty4]; refine hK _ ?_; clear hK K
             (repeat refine ZQ ?_); refine awp_ret ?_; refine And.intro (Or.inr rfl) ?_
             simp [retC, resC, viewC, mapO]
            ·simp at hd
           ·rw [hdg] at cdg
            (repeat refine ZQ ?_); refine ZR fun K hK => ?_; simp (maxSteps := 1000000) [ty9, ty3, ty4, hszr, r1, r2, wd]
            refine ZP (cw) ?_; simp (maxSteps := 1000000) [ty9, ty3, ty4, hszr, r1, r2, wd]
            refine ZP (cdg) ?_; simp (maxSteps := 1000000) [ty9, ty3, ty4]
            refine hK _ ?_; clear hK K
            (repeat refine ZQ ?_); refine ZC (fun hd => ?_) (fun hd => ?_)
            ·simp at hd
            ·clear hd
             refine awp_skip ?_; (first | show AWP _ _ _ _ _ | show ∃ _, _ | skip)
             simp
             (repeat refine ZQ ?_); refine ZD [] [0, 1, 2, 3, 4, 5, 6, 7, 8, 9, 10, 11, 12] fun K hK => ?_; simp (maxSteps := 1000000) [ty9, ty3, hsz, wE, e2, eL, hx0, hxe]
             refine ZE (cck) ?_; simp (maxSteps := 1000000) [ty9, ty3, ty4, hsz, wE, e2, eL, hxe, he, -strBin]
             refine hK _ ?_; clear hK K
             (repeat refine ZQ ?_); refine awp_ret ?_; refine And.intro (Or.inr rfl) ?_
             simp [retC, resC, viewC, mapO]
         ·have hO1 : cd.row.length % 2 = 1 := by omega
          rw [hO1] at r1
          rw [hO1]
          simp only [beq_self_eq_true, Bool.true_or, Bool.not_true, Bool.and_false, Bool.false_and]
          (repeat refine ZQ ?_); refine ZR fun K hK => ?_; simp (maxSteps := 1000000) [ty9, ty3, ty4, hszr, r1]; refine hK _ ?_; clear hK K
          (repeat refine ZQ ?_); refine ZC (fun hd => ?_) (fun hd => ?_)
          ·clear hd
           (repeat refine ZQ ?_); refine ZR fun K hK => ?_; simp (maxSteps := 1000000) [ty4]; refine hK _ ?_; clear hK K
           (repeat refine ZQ ?_); refine awp_ret ?_; refine And.intro (Or.inr rfl) ?_
           simp [retC, resC, viewC, mapO]
          ·simp at hd
        ·simp at hd

set_option maxHeartbeats 4000000
set_option maxRecDepth 20000


def sumW (vs : List Int) (wt : Bool) : Nat → Int
 | 0 => 0
 | i + 1 => sumW vs wt i + vs.getD i 0 * wgt wt i
def agrB (vs : List Int) (f s : List UInt8) (k : Nat) : Bool :=
 (f == [] || sumW vs false vs.length % 97 == (sumAtB f k : Int)) && (s == [] || sumW vs true vs.length % 97 == (sumAtB s k : Int))
def misN (vs : List Int) (i : Nat) : List Nat := (List.range i).filter fun j => decide (vs.getD j 0 < 0)
def sumK (vs : List Int) : Nat → Int
 | 0 => 0
 | i + 1 => if vs.getD i 0 < 0 then sumK vs i else sumK vs i + vs.getD i 0
def ms0 (vs : List Int) : Nat := (misN vs vs.length).getD 0 0
def ms1 (vs : List Int) : Nat := (misN vs vs.length).getD 1 0
def othV (vs : List Int) (f : List UInt8) (k n : Nat) : Int := ((sumAtB f k : Int) - sumK vs vs.length - n) % 97
def outV (vs : List Int) (f : List UInt8) (k n : Nat) : List Int :=
 if 1 < (misN vs vs.length).length then (vs.set (ms0 vs) n).set (ms1 vs) (othV vs f k n) else vs.set (ms0 vs) n
def lastV (vs : List Int) : Nat := (misN vs vs.length).getD ((misN vs vs.length).length - 1) 0
def hitV (vs : List Int) (f s : List UInt8) (k n : Nat) : Bool := decide ((outV vs f k n).getD (lastV vs) 0 ≤ 94) && agrB (outV vs f k n) f s k
def fillV (vs : List Int) (f s : List UInt8) (k : Nat) : Option (List Int) :=
 if misN vs vs.length = [] then (if agrB vs f s k = true then some vs else none) else ((List.range 95).find? (hitV vs f s k)).map (outV vs f k)

theorem misN_succ (vs : List Int) (i : Nat) : misN vs (i + 1) = if vs.getD i 0 < 0 then misN vs i ++ [i] else misN vs i := by
 unfold misN
 rw [List.range_succ, List.filter_append]
 by_cases h : vs.getD i 0 < 0
 ·rw [if_pos h]; simp only [List.filter_cons, List.filter_nil, decide_eq_true h, if_true]
 ·rw [if_neg h]; simp only [List.filter_cons, List.filter_nil, decide_eq_false h]; simp
theorem misN_lt {vs : List Int} {i j : Nat} (h : j ∈ misN vs i) : j < i ∧ vs.getD j 0 < 0 := by
 obtain ⟨h1, h2⟩ := List.mem_filter.1 h
 exact ⟨List.mem_range.1 h1, of_decide_eq_true h2⟩
theorem misN_len (vs : List Int) (i : Nat) : (misN vs i).length ≤ i := Nat.le_trans (List.length_filter_le _ _) (by simp)

theorem getD_mem {α : Type} {l : List α} {i : Nat} {d : α} (h : i < l.length) : l.getD i d ∈ l := by
 rw [List.getD_eq_getElem?_getD, List.getElem?_eq_getElem h, Option.getD_some]
 exact List.getElem_mem h

theorem ms1_lt {vs : List Int} (h : 1 < (misN vs vs.length).length) : ms1 vs < vs.length := (misN_lt (getD_mem h)).1
theorem outV_len (vs : List Int) (f : List UInt8) (k n : Nat) : (outV vs f k n).length = vs.length := by unfold outV; split <;> simp

def VOk (vs : List Int) : Prop := ∀ v ∈ vs, 0 ≤ v ∧ v ≤ 94

theorem mis_two {vs : List Int} (h : (misN vs vs.length).length ≤ 2) {j : Nat} (hj : j < vs.length) (hv : vs.getD j 0 < 0) : j = ms0 vs ∨ (1 < (misN vs vs.length).length ∧ j = ms1 vs) := by
 have hm : j ∈ misN vs vs.length := List.mem_filter.2 ⟨List.mem_range.2 hj, decide_eq_true hv⟩
 unfold ms0 ms1
 generalize misN vs vs.length = M at *
 match M, h, hm with
 | [a], _, hm => left; simpa using hm
 | [a, b], _, hm => simpa using hm

theorem out_ok {vs : List Int} {f : List UInt8} {k n : Nat} (hv : ∀ v ∈ vs, -1 ≤ v ∧ v ≤ 94) (h2 : (misN vs vs.length).length ≤ 2) (h0 : misN vs vs.length ≠ []) (hn : n ≤ 94) (hit : (outV vs f k n).getD (lastV vs) 0 ≤ 94) : VOk (outV vs f k n) := by
 intro v hm
 obtain ⟨j, hj, rfl⟩ := List.getElem_of_mem hm
 have hjl : j < vs.length := by rwa [outV_len] at hj
 have hvj := hv vs[j] (List.getElem_mem hjl)
 by_cases h1 : 1 < (misN vs vs.length).length
 ·have hl : lastV vs = ms1 vs := by unfold lastV ms1; congr 1; omega
  rw [hl] at hit
  have e : outV vs f k n = (vs.set (ms0 vs) n).set (ms1 vs) (othV vs f k n) := by unfold outV; rw [if_pos h1]
  have hm1 := ms1_lt h1
  have e1 : (outV vs f k n).getD (ms1 vs) 0 = othV vs f k n := by
   rw [e, List.getD_eq_getElem?_getD, List.getElem?_set_self (by simpa using hm1)]; rfl
  rw [e1] at hit
  have ho : 0 ≤ othV vs f k n := by unfold othV; omega
  have e2 : (outV vs f k n)[j] = if ms1 vs = j then othV vs f k n else if ms0 vs = j then (n : Int) else vs[j] := by
   simp only [e, List.getElem_set]
  rw [e2]
  split
  ·exact ⟨ho, hit⟩
  ·split
   ·omega
   ·rename_i q1 q2
    have : ¬ vs[j] < 0 := fun hneg => by
     rcases mis_two h2 hjl (by rw [List.getD_eq_getElem?_getD, List.getElem?_eq_getElem hjl]; exact hneg) with q | ⟨_, q⟩
     ·exact q2 q.symm
     ·exact q1 q.symm
    omega
 ·have e : outV vs f k n = vs.set (ms0 vs) n := by unfold outV; rw [if_neg h1]
  have e2 : (outV vs f k n)[j] = if ms0 vs = j then (n : Int) else vs[j] := by
   simp only [e, List.getElem_set]
  rw [e2]
  split
  ·omega
  ·rename_i q2
   have : ¬ vs[j] < 0 := fun hneg => by
    rcases mis_two h2 hjl (by rw [List.getD_eq_getElem?_getD, List.getElem?_eq_getElem hjl]; exact hneg) with q | ⟨q, _⟩
    ·exact q2 q.symm
    ·exact h1 q
   omega

theorem mis_none {vs : List Int} (h0 : misN vs vs.length = []) {v : Int} (hm : v ∈ vs) : 0 ≤ v := by
 obtain ⟨j, hj, rfl⟩ := List.getElem_of_mem hm
 refine Classical.byContradiction fun hneg => ?_
 have hm : j ∈ misN vs vs.length := List.mem_filter.2 ⟨List.mem_range.2 hj, decide_eq_true (by rw [List.getD_eq_getElem?_getD, List.getElem?_eq_getElem hj]; simp only [Option.getD_some]; omega)⟩
 rw [h0] at hm; simp at hm

theorem fillV_ok {vs out : List Int} {f s : List UInt8} {k : Nat} (hv : ∀ v ∈ vs, -1 ≤ v ∧ v ≤ 94) (h2 : (misN vs vs.length).length ≤ 2) (h : fillV vs f s k = some out) : VOk out ∧ out.length = vs.length := by
 unfold fillV at h
 split at h
 ·rename_i h0
  split at h
  ·cases h
   refine ⟨fun v hm => ?_, rfl⟩
   obtain ⟨j, hj, rfl⟩ := List.getElem_of_mem hm
   have hvj := hv vs[j] (List.getElem_mem hj)
   have : ¬ vs[j] < 0 := fun hneg => by
    have hm : j ∈ misN vs vs.length := List.mem_filter.2 ⟨List.mem_range.2 hj, decide_eq_true (by rw [List.getD_eq_getElem?_getD, List.getElem?_eq_getElem hj]; exact hneg)⟩
    rw [h0] at hm; simp at hm
   omega
  ·cases h
 ·rename_i h0
  obtain ⟨n, h1, rfl⟩ := Option.map_eq_some_iff.1 h
  have hn := List.mem_range.1 (List.mem_of_find?_eq_some h1)
  have hh : hitV vs f s k n = true := by simpa using List.find?_some h1
  exact ⟨out_ok hv h2 h0 (by omega) (of_decide_eq_true (Bool.and_eq_true_iff.1 hh).1), outV_len _ _ _ _⟩


def manyG (l : List UInt8) : Nat := (l.getD 1 0).toNat - 48
def gd (ls : Ls) : Ls := ls.filter parseOk
def fitsG (G : Ls) : Bool := G.all fun l => manyG l == manyG (G.headD []) && rowLenB l == rowLenB (G.headD [])
def rowG (G : Ls) (i : Nat) : Option (List UInt8) := findB G (UInt8.ofNat (49 + i))
def rowsG (G : Ls) (m : Nat) : Ls := (List.range m).map fun i => (rowG G i).getD []
def misG (G : Ls) (m : Nat) : List Int := ((List.range m).filter fun i => (rowG G i).isNone).map Int.ofNat
def knowG (G : Ls) : Nat := (if (findB G 97).isSome = true then 1 else 0) + if (findB G 98).isSome = true then 1 else 0
def valsG (R : Ls) (k : Nat) : List Int := R.map fun r => if r = [] then -1 else valB (r.getD k 0)
def addV (F : Ls) (out : List Int) : Ls := (List.range F.length).map fun i => F.getD i [] ++ [UInt8.ofNat (32 + out.getD i 0).toNat]
def fullTo (R : Ls) (f s : List UInt8) : Nat → Option Ls
 | 0 => some (R.map fun _ => [])
 | k + 1 => match fullTo R f s k with
  | none => none
  | some F => (fillV (valsG R k) f s k).map (addV F)
def textsG : Ls → Option Ls
 | [] => some []
 | r :: R => match textOfB r with
  | some t => (textsG R).map (t :: ·)
  | none => none
def restG (G : Ls) : Option (Ls × List Int) :=
 if G = [] then none else if fitsG G = false then none else
 if knowG G < (misG G (manyG (G.headD []))).length then none else
 match fullTo (rowsG G (manyG (G.headD []))) ((findB G 97).getD []) ((findB G 98).getD []) (rowLenB (G.headD [])) with
 | none => none
 | some F => match textsG F with
  | none => none
  | some T => if (G.all fun l => (cardsB T).any fun c => c == l) = true then some (T, misG G (manyG (G.headD []))) else none
def restoreB (ls : Ls) : Option (Ls × List Int) := restG (gd ls)

theorem good_ok {l : List UInt8} (h : parseOk l = true) : 6 ≤ l.length ∧ l.length ≤ 129 ∧ parseC l = headC l ∧ 1 ≤ manyG l ∧ manyG l ≤ 8 ∧ ((headC l).many = manyG l) ∧ rowLenB l = longN (headC l) ∧ 2 ≤ rowLenB l ∧ rowLenB l ≤ 62 ∧ plainB l = true ∧
  (headC l).num = numB l ∧ (headC l).row = bodyB l ∧ bodyB l ≠ [] ∧ (isSumB l = true → digB (bodyB l) = true ∧ (bodyB l).length = 2 * rowLenB l) ∧ (isSumB l = false → (bodyB l).length = rowLenB l ∧ 49 ≤ (numB l).toNat ∧ (numB l).toNat ≤ 48 + manyG l) := by
 have h0 := h
 unfold parseOk at h
 simp only [Bool.and_eq_true, Bool.not_eq_true', decide_eq_true_eq] at h
 obtain ⟨⟨⟨⟨h1, h2⟩, h3⟩, h4⟩, h5⟩ := h
 have hC : parseC l = headC l := by unfold parseC; rw [h1, h2, h3]; rfl
 unfold bad1 at h1
 simp only [Bool.or_eq_false_iff, decide_eq_false_iff_not, Bool.not_eq_false'] at h1
 obtain ⟨h6, hp⟩ := h1
 have hl : (bodyB l).length = l.length - 4 := by unfold bodyB; simp; omega
 have hn : numB l = l.getD 0 0 := by
  unfold numB
  cases l <;> rfl
 have hs : sumN (headC l).num = isSumB l := by
  unfold isSumB; rw [hn]; rfl
 have hr : (headC l).row = bodyB l := rfl
 have hR : rowLenB l = longN (headC l) := by
  unfold rowLenB longN
  rw [hs, hr, hl]
 unfold bad2 at h2
 simp only [Bool.or_eq_false_iff, decide_eq_false_iff_not] at h2
 have hmm : (headC l).many = ((l.getD 1 0).toNat : Int) - 48 := rfl
 have hm1 : 1 ≤ manyG l ∧ manyG l ≤ 8 ∧ (headC l).many = manyG l := by unfold manyG; omega
 unfold bad3 at h3
 rw [hs, hr] at h3
 rw [← hR] at h4 h5
 have h7 := h5
 unfold rowLenB at h7
 refine ⟨by omega, ?_, hC, hm1.1, hm1.2.1, hm1.2.2, hR, h4, h5, hp, hn.symm, hr, fun e => ?_, fun hS => ?_, fun hS => ?_⟩
 ·split at h7 <;> omega
 ·rw [e] at hl; simp at hl; omega
 ·rw [hS, if_pos rfl] at h3
  simp only [Bool.or_eq_false_iff, Bool.not_eq_false', beq_eq_false_iff_ne] at h3
  refine ⟨h3.2, ?_⟩
  unfold rowLenB
  rw [hS, if_pos rfl]
  omega
 ·rw [hS] at h3
  simp only [Bool.false_eq_true, if_false, Bool.or_eq_false_iff, decide_eq_false_iff_not] at h3
  refine ⟨by unfold rowLenB; rw [hS, hl]; simp, ?_, ?_⟩
  ·have : (headC l).num = numB l := hn.symm
   rw [this] at h3; omega
  ·have : (headC l).num = numB l := hn.symm
   rw [this] at h3; omega

set_option maxHeartbeats 8000000
set_option maxRecDepth 20000


theorem sumW_bd {vs : List Int} (hv : ∀ v ∈ vs, 0 ≤ v ∧ v ≤ 96) (wt : Bool) : ∀ i, i ≤ vs.length → i ≤ 100 → 0 ≤ sumW vs wt i ∧ sumW vs wt i ≤ 10000 * (i : Int)
 | 0, _, _ => by simp [sumW]
 | i + 1, h, h1 => by
  have ih := sumW_bd hv wt i (by omega) (by omega)
  have hb := hv _ (getD_mem (d := 0) (show i < vs.length by omega))
  simp only [sumW]
  generalize vs.getD i 0 = v at *
  have hw : 0 ≤ v * wgt wt i ∧ v * wgt wt i ≤ 10000 := by
   cases wt
   ·simp only [wgt, Bool.false_eq_true, if_false, Int.mul_one]; omega
   ·simp only [wgt, if_true]
    refine ⟨Int.mul_nonneg hb.1 (by omega), ?_⟩
    have := Int.mul_le_mul hb.2 (show (i : Int) + 1 ≤ 101 by omega) (by omega) (by omega)
    omega
  omega

def SwOk (f : List UInt8) (k : Nat) : Prop := f = [] ∨ (digB f = true ∧ 2 * k + 1 < f.length ∧ f.length ≤ 100000)

theorem sumAt_ok {f : List UInt8} {k : Nat} (h : SwOk f k) (h0 : f ≠ []) : Pure Tryz.prog 106 [encS f, encI k] (encI (sumAtB f k)) ∧ sumAtB f k ≤ 99 := by
 rcases h with h | ⟨h1, h2, h3⟩
 ·exact absurd h h0
 ·refine ⟨q_sumAt106 f k h2 h3 h1, ?_⟩
  have hd : ∀ j, j < f.length → (f.getD j 0).toNat ≤ 57 := fun j hj => by
   have := List.all_eq_true.1 h1 _ (getD_mem (d := 0) hj)
   unfold dig1 at this
   simp only [Bool.and_eq_true, decide_eq_true_eq] at this
   omega
  have a := hd (2 * k) (by omega)
  have b := hd (2 * k + 1) h2
  unfold sumAtB
  omega

theorem mod_cmp {s m : Int} {a : Nat} (hs : 0 ≤ s) (hm : s % 97 = m) : Int.tmod s 97 = m ∧ 0 ≤ m ∧ m ≤ 96 ∧ IntKind.i64.wrap m = m := by
 have h1 : Int.tmod s 97 = s % 97 := Int.tmod_eq_emod_of_nonneg hs
 refine ⟨by omega, by omega, by omega, wrap_id (by omega) (by omega)⟩

theorem q_agrees105 (nl fu : Bool) (vs : List Int) (f s : List UInt8) (k : Nat) (hn : vs.length ≤ 100) (hv : ∀ v ∈ vs, 0 ≤ v ∧ v ≤ 96) (hf : SwOk f k) (hs : SwOk s k) : Pure Tryz.prog 105 [.sl nl fu (vs.map cI), encS f, encS s, encI k] (.bool (agrB vs f s k)) := by
 have e1 := str_eq f []
 have e2 := str_eq s []
 have b0 := fun i (h : i ≤ vs.length) => sumW_bd hv false i h (by omega)
 have b1 := fun i (h : i ≤ vs.length) => sumW_bd hv true i h (by omega)
 have s0 : sumW vs false 0 = 0 := rfl
 have s1 : sumW vs true 0 = 0 := rfl
 have t0 : ∀ i (h : i < vs.length), sumW vs false (i + 1) = sumW vs false i + vs[i] := fun i h => by
  simp only [sumW, wgt, Bool.false_eq_true, if_false, Int.mul_one]
  simp [List.getD_eq_getElem?_getD, List.getElem?_eq_getElem h]
 have t1 : ∀ i (h : i < vs.length), sumW vs true (i + 1) = sumW vs true i + vs[i] * ((i + 1 : Nat) : Int) := fun i h => by
  simp only [sumW, wgt, if_true]
  simp [List.getD_eq_getElem?_getD, List.getElem?_eq_getElem h]
 unfold agrB
 generalize sumW vs false = A at *
 generalize sumW vs true = B at *
 refine ZF (fn := Tryz.f105) [.tmp 8] ⟨Tryz.func105, rfl, by kernel_rfl⟩ fun x hx hσ => ?_
 (repeat refine ZQ ?_); refine ZR fun K hK => ?_; simp (maxSteps := 1000000) [ty4]; refine hK _ ?_; clear hK K
 (repeat refine ZQ ?_); refine ZR fun K hK => ?_; simp (maxSteps := 1000000) [ty3]; refine hK _ ?_; clear hK K
 (repeat refine ZQ ?_); refine ZR fun K hK => ?_; simp (maxSteps := 1000000) [ty3]; refine hK _ ?_; clear hK K
 (repeat refine ZQ ?_); refine awp_block ?_
 refine awp_loop (fun i : Nat => ⟨ofL [(0, .sl nl fu (vs.map cI)), (1, encS f), (2, encS s), (3, encI k), (9, encI (A i)), (10, encI (B i)), (11, encI i)], stoT []⟩)
  (fun i => i ≤ vs.length) (fun i => vs.length - i) 0 (Nat.zero_le _) ?_ ?_
 ·refine wk_shape (shp0 hσ (by simp) (by simp) ?_) ?_
  ·simp [SlotOk, s0, s1] <;> (repeat' (first | (refine RowsOk.same ?_; simp [purel, C.isPure]; done) | (refine rowsCons ?_; simp [mtl, mtc, mT, mH, C.isPure, purel]; done) | (refine rowsCons ?_; simp [mtl, mtc, mT, mH, C.isPure, purel]) | refine And.intro ?_ ?_))
  ·simp [mtc, mtl, mT, C.isPure, purel, s0, s1] <;> (try simp (disch := omega) [wrap_id]) <;> (try omega)
 ·intro i hi
  have w1 : IntKind.i64.wrap ((i : Int) + 1) = ((i + 1 : Nat) : Int) := by rw [wrap_id (by omega) (by omega)]; rfl
  (repeat refine ZQ ?_); refine ZR fun K hK => ?_; simp (maxSteps := 1000000) [ty33, ty3]; refine hK _ ?_; clear hK K; (first | show AWP _ _ _ _ _ | show ∃ _, _ | skip)
  by_cases hlt : i < vs.length
  ·have hlt' : (i : Int) < vs.length := by omega
   (repeat refine ZQ ?_); refine ZC (hc := by simp [hlt]; rfl) (fun hd => ?_) (fun hd => ?_)
   ·clear hd
    have a1 := b0 i (by omega)
    have a2 := b0 (i + 1) (by omega)
    have a3 := b1 i (by omega)
    have a4 := b1 (i + 1) (by omega)
    have hvi := hv _ (List.getElem_mem hlt)
    rw [t0 i hlt] at a2
    rw [t1 i hlt] at a4
    have u0 := t0 i hlt
    have u1 := t1 i hlt
    obtain ⟨v, hgv⟩ : ∃ v, vs[i] = v := ⟨_, rfl⟩
    rw [hgv] at a2 a4 u0 u1 hvi
    have w2 : IntKind.i64.wrap (A i + v) = A i + v := wrap_id (by omega) (by omega)
    have w4 : IntKind.i64.wrap (B i + v * ((i + 1 : Nat) : Int)) = B i + v * ((i + 1 : Nat) : Int) := wrap_id (by omega) (by omega)
    have w3 : IntKind.i64.wrap (v * ((i + 1 : Nat) : Int)) = v * ((i + 1 : Nat) : Int) := wrap_id (by omega) (by omega)
    obtain ⟨i1, hi1⟩ : ∃ i1, i + 1 = i1 := ⟨_, rfl⟩
    rw [hi1] at u0 u1 w1 w3 w4
    refine awp_skip ?_
    (repeat refine ZQ ?_); refine awp_block ?_
    (repeat refine ZQ ?_); refine ZR fun K hK => ?_; simp (maxSteps := 1000000) [ty33, ty3, hlt, hgv, w2]; refine hK _ ?_; clear hK K
    (repeat refine ZQ ?_); refine ZR fun K hK => ?_; simp (maxSteps := 1000000) [ty33, ty3, hlt, hgv, w1, w3, w4]; refine hK _ ?_; clear hK K
    (repeat refine ZQ ?_); refine ZR fun K hK => ?_; simp (maxSteps := 1000000) [ty3, w1]; refine hK _ ?_; clear hK K; (first | show AWP _ _ _ _ _ | show ∃ _, _ | skip)
    refine ⟨i1, by omega, by omega, ?_⟩
    rw [u0, u1]
    exact ZW
   ·simp [hlt] at hd
  ·have hin : i = vs.length := by omega
   subst hin
   (repeat refine ZQ ?_); refine ZC (fun hd => ?_) (fun hd => ?_)
   ·simp at hd
   ·clear hd
    (repeat refine ZQ ?_); refine awp_exit ?_; (first | show AWP _ _ _ _ _ | show ∃ _, _ | skip)
    have a1 := (b0 vs.length (Nat.le_refl _)).1
    have a3 := (b1 vs.length (Nat.le_refl _)).1
    generalize A vs.length = x at *
    generalize B vs.length = y at *
    obtain ⟨p, hp⟩ : ∃ p, x % 97 = p := ⟨_, rfl⟩
    obtain ⟨q, hq⟩ : ∃ q, y % 97 = q := ⟨_, rfl⟩
    obtain ⟨p1, p2, p3, p4⟩ := mod_cmp (a := 0) a1 hp
    obtain ⟨q1, q2, q3, q4⟩ := mod_cmp (a := 0) a3 hq
    rw [hp, hq]
    cases hfe : f == []
    ·obtain ⟨c1, _⟩ := sumAt_ok hf (by simpa using hfe)
     rw [hfe] at e1
     cases hv1 : p == (sumAtB f k : Int)
     ·(repeat refine ZQ ?_); refine ZR fun K hK => ?_; simp (maxSteps := 1000000) [ty9, ty3, ty4, e1, e2, p1, p4, -strBin]
      refine ZP (c1) ?_; simp (maxSteps := 1000000) [ty9, ty3, ty4, e1, e2, p1, p4, hv1, -strBin]
      refine hK _ ?_; clear hK K
      (repeat refine ZQ ?_); refine awp_ret ?_; refine And.intro (Or.inr rfl) ?_
      simp [retC, resC, viewC, mapO]
     ·cases hse : s == []
      ·obtain ⟨c2, _⟩ := sumAt_ok hs (by simpa using hse)
       rw [hse] at e2
       cases hv2 : q == (sumAtB s k : Int)
       ·(repeat refine ZQ ?_); refine ZR fun K hK => ?_; simp (maxSteps := 1000000) [ty9, ty3, ty4, e1, e2, p1, p4, q1, q4, -strBin]
        refine ZP (c1) ?_; simp (maxSteps := 1000000) [ty9, ty3, ty4, e1, e2, p1, p4, q1, q4, hv1, -strBin]
        refine ZP (c2) ?_; simp (maxSteps := 1000000) [ty9, ty3, ty4, e1, e2, p1, p4, q1, q4, hv2, -strBin]
        refine hK _ ?_; clear hK K
        (repeat refine ZQ ?_); refine awp_ret ?_; refine And.intro (Or.inr rfl) ?_
        simp [retC, resC, viewC, mapO]
       ·(repeat refine ZQ ?_); refine ZR fun K hK => ?_; simp (maxSteps := 1000000) [ty9, ty3, ty4, e1, e2, p1, p4, q1, q4, -strBin]
        refine ZP (c1) ?_; simp (maxSteps := 1000000) [ty9, ty3, ty4, e1, e2, p1, p4, q1, q4, hv1, -strBin]
        refine ZP (c2) ?_; simp (maxSteps := 1000000) [ty9, ty3, ty4, e1, e2, p1, p4, q1, q4, hv2, -strBin]
        refine hK _ ?_; clear hK K
        (repeat refine ZQ ?_); refine awp_ret ?_; refine And.intro (Or.inr rfl) ?_
        simp [retC, resC, viewC, mapO]
      ·rw [hse] at e2
       (repeat refine ZQ ?_); refine ZR fun K hK => ?_; simp (maxSteps := 1000000) [ty9, ty3, ty4, e1, e2, p1, p4, -strBin]
       refine ZP (c1) ?_; simp (maxSteps := 1000000) [ty9, ty3, ty4, e1, e2, p1, p4, hv1, -strBin]
       refine hK _ ?_; clear hK K
       (repeat refine ZQ ?_); refine awp_ret ?_; refine And.intro (Or.inr rfl) ?_
       simp [retC, resC, viewC, mapO]
    ·rw [hfe] at e1
     cases hse : s == []
     ·obtain ⟨c2, _⟩ := sumAt_ok hs (by simpa using hse)
      rw [hse] at e2
      cases hv2 : q == (sumAtB s k : Int)
      ·(repeat refine ZQ ?_); refine ZR fun K hK => ?_; simp (maxSteps := 1000000) [ty9, ty3, ty4, e1, e2, q1, q4, -strBin]
       refine ZP (c2) ?_; simp (maxSteps := 1000000) [ty9, ty3, ty4, e1, e2, q1, q4, hv2, -strBin]
       refine hK _ ?_; clear hK K
       (repeat refine ZQ ?_); refine awp_ret ?_; refine And.intro (Or.inr rfl) ?_
       simp [retC, resC, viewC, mapO]
      ·(repeat refine ZQ ?_); refine ZR fun K hK => ?_; simp (maxSteps := 1000000) [ty9, ty3, ty4, e1, e2, q1, q4, -strBin]
       refine ZP (c2) ?_; simp (maxSteps := 1000000) [ty9, ty3, ty4, e1, e2, q1, q4, hv2, -strBin]
       refine hK _ ?_; clear hK K
       (repeat refine ZQ ?_); refine awp_ret ?_; refine And.intro (Or.inr rfl) ?_
       simp [retC, resC, viewC, mapO]
     ·rw [hse] at e2
      (repeat refine ZQ ?_); refine ZR fun K hK => ?_; simp (maxSteps := 1000000) [ty9, ty3, ty4, e1, e2, -strBin]; refine hK _ ?_; clear hK K
      (repeat refine ZQ ?_); refine awp_ret ?_; refine And.intro (Or.inr rfl) ?_
      simp [retC, resC, viewC, mapO]

set_option maxHeartbeats 8000000
set_option maxRecDepth 20000


def misI (vs : List Int) (i : Nat) : List Int := (misN vs i).map Int.ofNat
theorem misI_succ (vs : List Int) {i : Nat} (hi : i < vs.length) : misI vs (i + 1) = if vs[i] < 0 then misI vs i ++ [(i : Int)] else misI vs i := by
 have e : vs.getD i 0 = vs[i] := by simp [List.getD_eq_getElem?_getD, List.getElem?_eq_getElem hi]
 unfold misI
 rw [misN_succ, e]
 split
 ·rw [List.map_append]; rfl
 ·rfl
theorem sumK_succ (vs : List Int) {i : Nat} (hi : i < vs.length) : sumK vs (i + 1) = if vs[i] < 0 then sumK vs i else sumK vs i + vs[i] := by
 have e : vs.getD i 0 = vs[i] := by simp [List.getD_eq_getElem?_getD, List.getElem?_eq_getElem hi]
 simp only [sumK]
 rw [e]
theorem sumK_bd {vs : List Int} (hv : ∀ v ∈ vs, -1 ≤ v ∧ v ≤ 94) : ∀ i, i ≤ vs.length → 0 ≤ sumK vs i ∧ sumK vs i ≤ 100 * (i : Int)
 | 0, _ => by simp [sumK]
 | i + 1, h => by
  have ih := sumK_bd hv i (by omega)
  have hb := hv _ (getD_mem (d := 0) (show i < vs.length by omega))
  simp only [sumK]
  split <;> omega

def encFill (nl fu : Bool) (vs : List Int) (f s : List UInt8) (k : Nat) : C :=
 if misN vs vs.length = [] then .tup [.sl nl fu (vs.map cI), .bool (agrB vs f s k)] else
 match (List.range 95).find? (hitV vs f s k) with
 | some n => .tup [.sl false false ((outV vs f k n).map cI), .bool true]
 | none => .tup [.sl true true [], .bool false]

theorem find_next {p : Nat → Bool} {n N : Nat} (hn : n < N) (h0 : ∀ j, j < n → p j = false) (h1 : p n = true) : (List.range N).find? p = some n := by
 rw [List.find?_range_eq_some]
 exact ⟨h1, List.mem_range.2 hn, fun j hj => by rw [h0 j hj]; rfl⟩
theorem find_no {p : Nat → Bool} {N : Nat} (h0 : ∀ j, j < N → p j = false) : (List.range N).find? p = none := by
 rw [List.find?_eq_none]
 intro j hj
 rw [h0 j (List.mem_range.1 hj)]; simp


theorem fill_none (nl fu : Bool) (vs : List Int) (f s : List UInt8) (k : Nat) (hn : vs.length ≤ 100) (hv : ∀ v ∈ vs, -1 ≤ v ∧ v ≤ 94) (hf : SwOk f k) (hs : SwOk s k) (h0 : misN vs vs.length = []) : Pure Tryz.prog 82 [.sl nl fu (vs.map cI), encS f, encS s, encI k] (encFill nl fu vs f s k) := by
 have cA := q_agrees105 nl fu vs f s k hn (fun v hm => ⟨mis_none h0 hm, by have := hv v hm; omega⟩) hf hs
 have hI : misI vs vs.length = [] := by unfold misI; rw [h0]; rfl
 unfold encFill
 rw [if_pos h0]
 generalize agrB vs f s k = r at *
 have hK0 : sumK vs 0 = 0 := rfl
 have hI0 : misI vs 0 = [] := rfl
 have hKs := fun i (hi : i < vs.length) => sumK_succ vs hi
 have hIs := fun i (hi : i < vs.length) => misI_succ vs hi
 have hKb := sumK_bd hv
 have hIl : ∀ i, (misI vs i).length ≤ i := fun i => by unfold misI; rw [List.length_map]; exact misN_len vs i
 generalize misI vs = I at *
 generalize sumK vs = K at *
 refine ZF (fn := Tryz.f82) [.tmp 8, .tmp 9] ⟨Tryz.func82, rfl, by kernel_rfl⟩ fun x hx hσ => ?_
 (repeat refine ZQ ?_); refine ZR fun K hK => ?_; simp (maxSteps := 1000000) [ty33, ty4]; refine hK _ ?_; clear hK K
 (repeat refine ZQ ?_); refine ZR fun K hK => ?_; simp (maxSteps := 1000000) [ty33]; refine hK _ ?_; clear hK K
 (repeat refine ZQ ?_); refine ZR fun K hK => ?_; simp (maxSteps := 1000000) [ty3]; refine hK _ ?_; clear hK K
 (repeat refine ZQ ?_); refine ZR fun K hK => ?_; simp (maxSteps := 1000000) [ty3]; refine hK _ ?_; clear hK K
 (repeat refine ZQ ?_); refine awp_block ?_
 refine AWP.weak ?_ (wk_nil 10 10 1 (fu := true) (by simp) (by simp))
 refine awp_loop (fun i : Nat => ⟨ofL [(0, .sl nl fu (vs.map cI)), (1, encS f), (2, encS s), (3, encI k), (10, .own 10 1 0 (I i).length), (11, encI (K i)), (12, encI i)], stoT [(10, 10, .live ⟨(I i).isEmpty, false, 1, (I i).map cI⟩)]⟩)
  (fun i => i ≤ vs.length) (fun i => vs.length - i) 0 (Nat.zero_le _) ?_ ?_
 ·refine wk_shape (shp0 hσ (by simp) (by simp) ?_) ?_
  ·simp [SlotOk, hI0, hK0] <;> (repeat' (first | (refine RowsOk.same ?_; simp [purel, C.isPure]; done) | (refine rowsCons ?_; simp [mtl, mtc, mT, mH, C.isPure, purel]; done) | (refine rowsCons ?_; simp [mtl, mtc, mT, mH, C.isPure, purel]) | refine And.intro ?_ ?_))
  ·simp [mtc, mtl, mT, C.isPure, purel, hI0, hK0] <;> (try simp (disch := omega) [wrap_id]) <;> (try omega)
 ·intro i hi
  have w1 : IntKind.i64.wrap ((i : Int) + 1) = ((i + 1 : Nat) : Int) := by rw [wrap_id (by omega) (by omega)]; rfl
  (repeat refine ZQ ?_); refine ZR fun K hK => ?_; simp (maxSteps := 1000000) [ty33, ty3]; refine hK _ ?_; clear hK K; (first | show AWP _ _ _ _ _ | show ∃ _, _ | skip)
  by_cases hlt : i < vs.length
  ·have hlt' : (i : Int) < vs.length := by omega
   (repeat refine ZQ ?_); refine ZC (hc := by simp [hlt]; rfl) (fun hd => ?_) (fun hd => ?_)
   ·clear hd
    have hb1 := hKb i (by omega)
    have hb2 := hKb (i + 1) (by omega)
    have u0 := hKs i hlt
    have u1 := hIs i hlt
    have hil := hIl i
    obtain ⟨v, hgv⟩ : ∃ v, vs[i] = v := ⟨_, rfl⟩
    rw [hgv] at u0 u1
    refine awp_skip ?_
    (repeat refine ZQ ?_); refine awp_block ?_
    by_cases hneg : v < 0
    ·rw [if_pos hneg] at u0 u1
     (repeat refine ZQ ?_); refine ZR fun K hK => ?_; simp (maxSteps := 1000000) [ty33, ty3, hlt, hgv, hneg]; refine hK _ ?_; clear hK K
     (repeat refine ZQ ?_); refine ZC (fun hd => ?_) (fun hd => ?_)
     ·clear hd
      (repeat refine ZQ ?_); refine ZR fun K hK => ?_; simp (maxSteps := 1000000) [ty33, ty3]
      refine ⟨by omega, ?_⟩
      refine hK _ ?_; clear hK K
      (repeat refine ZQ ?_); refine ZR fun K hK => ?_; simp (maxSteps := 1000000) [ty3, w1]; refine hK _ ?_; clear hK K; (first | show AWP _ _ _ _ _ | show ∃ _, _ | skip)
      refine ⟨i + 1, by omega, by omega, ?_⟩
      rw [u0, u1]
      refine wk_shape2 [(10, 29, .live ⟨(I i ++ [(i : Int)]).isEmpty, false, 1, (I i ++ [(i : Int)]).map cI⟩)] (by first | rfl | (simp only [if_pos, if_true]; rfl)) (shp0 hσ (by simp) (by simp) ?_) ?_
      ·simp [SlotOk] <;> (repeat' (first | (refine RowsOk.same ?_; simp [purel, C.isPure]; done) | (refine rowsCons ?_; simp [mtl, mtc, mT, mH, C.isPure, purel]; done) | (refine rowsCons ?_; simp [mtl, mtc, mT, mH, C.isPure, purel]) | refine And.intro ?_ ?_))
      ·simp [mtc, mtl, mT, C.isPure, purel] <;> (try simp (disch := omega) [wrap_id]) <;> (try omega)
     ·simp at hd
    ·rw [if_neg hneg] at u0 u1
     rw [u0] at hb2
     have w2 : IntKind.i64.wrap (K i + v) = K i + v := wrap_id (by omega) (by omega)
     (repeat refine ZQ ?_); refine ZR fun K hK => ?_; simp (maxSteps := 1000000) [ty33, ty3, hlt, hgv, hneg]; refine hK _ ?_; clear hK K
     (repeat refine ZQ ?_); refine ZC (fun hd => ?_) (fun hd => ?_)
     ·simp at hd
     ·clear hd
      (repeat refine ZQ ?_); refine ZR fun K hK => ?_; simp (maxSteps := 1000000) [ty33, ty3, hlt, hgv, w2]; refine hK _ ?_; clear hK K
      (repeat refine ZQ ?_); refine ZR fun K hK => ?_; simp (maxSteps := 1000000) [ty3, w1]; refine hK _ ?_; clear hK K; (first | show AWP _ _ _ _ _ | show ∃ _, _ | skip)
      refine ⟨i + 1, by omega, by omega, ?_⟩
      rw [u0, u1]
      exact ZW
   ·simp [hlt] at hd
  ·have hin : i = vs.length := by omega
   subst hin
   (repeat refine ZQ ?_); refine ZC (fun hd => ?_) (fun hd => ?_)
   ·simp at hd
   ·clear hd
    (repeat refine ZQ ?_); refine awp_exit ?_; (first | show AWP _ _ _ _ _ | show ∃ _, _ | skip)
    have hsb := hKb vs.length (Nat.le_refl _)
    generalize K vs.length = sm at *
    rw [hI]
    clear hIs hI0 hIl hKs hK0 hKb hI
    (repeat refine ZQ ?_); refine ZR fun K hK => ?_; simp (maxSteps := 1000000) [ty33, ty3]; refine hK _ ?_; clear hK K
    (repeat refine ZQ ?_); refine ZC (fun hd => ?_) (fun hd => ?_)
    ·clear hd
     (repeat refine ZQ ?_); refine ZR fun K hK => ?_; simp (maxSteps := 1000000) [ty33, ty9, ty3]
     refine ZP (cA) ?_; simp (maxSteps := 1000000) [ty33, ty4]
     refine hK _ ?_; clear hK K
     (repeat refine ZQ ?_); refine awp_ret ?_; refine And.intro (Or.inr rfl) ?_
     simp [retC, resC, viewC, mapO]
    ·simp at hd

theorem set_at {vs : List Int} {a : Nat} {v : Int} (h : a < vs.length) : (vs.set a v)[a]? = some v := by simp [h]

theorem fill_one (nl fu : Bool) (vs : List Int) (f s : List UInt8) (k a : Nat) (hn : vs.length ≤ 100) (hv : ∀ v ∈ vs, -1 ≤ v ∧ v ≤ 94) (hf : SwOk f k) (hs : SwOk s k) (h0 : misN vs vs.length = [a]) : Pure Tryz.prog 82 [.sl nl fu (vs.map cI), encS f, encS s, encI k] (encFill nl fu vs f s k) := by
 have hal : a < vs.length := (misN_lt (i := vs.length) (by rw [h0]; simp)).1
 have hI : misI vs vs.length = [(a : Int)] := by unfold misI; rw [h0]; rfl
 have hout : ∀ n : Nat, outV vs f k n = vs.set a n := fun n => by unfold outV ms0; rw [h0]; rfl
 have hlast : lastV vs = a := by unfold lastV; rw [h0]; rfl
 have cA := fun n (h94 : n ≤ 94) => q_agrees105 false false (outV vs f k n) f s k (by rw [outV_len]; exact hn) (fun v hm => by
  have hok := out_ok (f := f) (k := k) hv (by rw [h0]; simp) (by rw [h0]; simp) h94 (by rw [hout, hlast, List.getD_eq_getElem?_getD, set_at hal]; simp; omega)
  have := hok v hm; omega) hf hs
 have hhit : ∀ n : Nat, n ≤ 94 → hitV vs f s k n = agrB (vs.set a n) f s k := fun n h94 => by
  unfold hitV
  rw [hout, hlast, List.getD_eq_getElem?_getD, set_at hal]
  simp; omega
 have hfs : ∀ n, n < 95 → (∀ j, j < n → hitV vs f s k j = false) → hitV vs f s k n = true → encFill nl fu vs f s k = .tup [.sl false false ((vs.set a n).map cI), .bool true] := fun n h1 h2 h3 => by
  unfold encFill
  rw [h0, if_neg (by simp), find_next h1 h2 h3]
  simp only [hout]
 have hfn : (∀ j, j < 95 → hitV vs f s k j = false) → encFill nl fu vs f s k = .tup [.sl true true [], .bool false] := fun h2 => by
  unfold encFill
  rw [h0, if_neg (by simp), find_no h2]
 have c78 := q_value78 126
 have v126 : valB 126 = 94 := by decide
 have w0 : IntKind.i64.wrap 0 = 0 := wrap_id (by omega) (by omega)
 rw [v126] at c78
 have hve : vs ≠ [] := fun e => by rw [e] at hal; simp at hal
 have hvi : vs.isEmpty = false := by simpa using hve
 simp only [hout] at cA
 generalize encFill nl fu vs f s k = R at *
 generalize hitV vs f s k = H at *
 have hK0 : sumK vs 0 = 0 := rfl
 have hI0 : misI vs 0 = [] := rfl
 have hKs := fun i (hi : i < vs.length) => sumK_succ vs hi
 have hIs := fun i (hi : i < vs.length) => misI_succ vs hi
 have hKb := sumK_bd hv
 have hIl : ∀ i, (misI vs i).length ≤ i := fun i => by unfold misI; rw [List.length_map]; exact misN_len vs i
 generalize misI vs = I at *
 generalize sumK vs = K at *
 refine ZF (fn := Tryz.f82) [.tmp 8, .tmp 9] ⟨Tryz.func82, rfl, by kernel_rfl⟩ fun x hx hσ => ?_
 (repeat refine ZQ ?_); refine ZR fun K hK => ?_; simp (maxSteps := 1000000) [ty33, ty4]; refine hK _ ?_; clear hK K
 (repeat refine ZQ ?_); refine ZR fun K hK => ?_; simp (maxSteps := 1000000) [ty33]; refine hK _ ?_; clear hK K
 (repeat refine ZQ ?_); refine ZR fun K hK => ?_; simp (maxSteps := 1000000) [ty3]; refine hK _ ?_; clear hK K
 (repeat refine ZQ ?_); refine ZR fun K hK => ?_; simp (maxSteps := 1000000) [ty3]; refine hK _ ?_; clear hK K
 (repeat refine ZQ ?_); refine awp_block ?_
 refine AWP.weak ?_ (wk_nil 10 10 1 (fu := true) (by simp) (by simp))
 refine awp_loop (fun i : Nat => ⟨ofL [(0, .sl nl fu (vs.map cI)), (1, encS f), (2, encS s), (3, encI k), (10, .own 10 1 0 (I i).length), (11, encI (K i)), (12, encI i)], stoT [(10, 10, .live ⟨(I i).isEmpty, false, 1, (I i).map cI⟩)]⟩)
  (fun i => i ≤ vs.length) (fun i => vs.length - i) 0 (Nat.zero_le _) ?_ ?_
 ·refine wk_shape (shp0 hσ (by simp) (by simp) ?_) ?_
  ·simp [SlotOk, hI0, hK0] <;> (repeat' (first | (refine RowsOk.same ?_; simp [purel, C.isPure]; done) | (refine rowsCons ?_; simp [mtl, mtc, mT, mH, C.isPure, purel]; done) | (refine rowsCons ?_; simp [mtl, mtc, mT, mH, C.isPure, purel]) | refine And.intro ?_ ?_))
  ·simp [mtc, mtl, mT, C.isPure, purel, hI0, hK0] <;> (try simp (disch := omega) [wrap_id]) <;> (try omega)
 ·intro i hi
  have w1 : IntKind.i64.wrap ((i : Int) + 1) = ((i + 1 : Nat) : Int) := by rw [wrap_id (by omega) (by omega)]; rfl
  (repeat refine ZQ ?_); refine ZR fun K hK => ?_; simp (maxSteps := 1000000) [ty33, ty3]; refine hK _ ?_; clear hK K; (first | show AWP _ _ _ _ _ | show ∃ _, _ | skip)
  by_cases hlt : i < vs.length
  ·have hlt' : (i : Int) < vs.length := by omega
   (repeat refine ZQ ?_); refine ZC (hc := by simp [hlt]; rfl) (fun hd => ?_) (fun hd => ?_)
   ·clear hd
    have hb1 := hKb i (by omega)
    have hb2 := hKb (i + 1) (by omega)
    have u0 := hKs i hlt
    have u1 := hIs i hlt
    have hil := hIl i
    obtain ⟨v, hgv⟩ : ∃ v, vs[i] = v := ⟨_, rfl⟩
    rw [hgv] at u0 u1
    refine awp_skip ?_
    (repeat refine ZQ ?_); refine awp_block ?_
    by_cases hneg : v < 0
    ·rw [if_pos hneg] at u0 u1
     (repeat refine ZQ ?_); refine ZR fun K hK => ?_; simp (maxSteps := 1000000) [ty33, ty3, hlt, hgv, hneg]; refine hK _ ?_; clear hK K
     (repeat refine ZQ ?_); refine ZC (fun hd => ?_) (fun hd => ?_)
     ·clear hd
      (repeat refine ZQ ?_); refine ZR fun K hK => ?_; simp (maxSteps := 1000000) [ty33, ty3]
      refine ⟨by omega, ?_⟩
      refine hK _ ?_; clear hK K
      (repeat refine ZQ ?_); refine ZR fun K hK => ?_; simp (maxSteps := 1000000) [ty3, w1]; refine hK _ ?_; clear hK K; (first | show AWP _ _ _ _ _ | show ∃ _, _ | skip)
      refine ⟨i + 1, by omega, by omega, ?_⟩
      rw [u0, u1]
      refine wk_shape2 [(10, 29, .live ⟨(I i ++ [(i : Int)]).isEmpty, false, 1, (I i ++ [(i : Int)]).map cI⟩)] (by first | rfl | (simp only [if_pos, if_true]; rfl)) (shp0 hσ (by simp) (by simp) ?_) ?_
      ·simp [SlotOk] <;> (repeat' (first | (refine RowsOk.same ?_; simp [purel, C.isPure]; done) | (refine rowsCons ?_; simp [mtl, mtc, mT, mH, C.isPure, purel]; done) | (refine rowsCons ?_; simp [mtl, mtc, mT, mH, C.isPure, purel]) | refine And.intro ?_ ?_))
      ·simp [mtc, mtl, mT, C.isPure, purel] <;> (try simp (disch := omega) [wrap_id]) <;> (try omega)
     ·simp at hd
    ·rw [if_neg hneg] at u0 u1
     rw [u0] at hb2
     have w2 : IntKind.i64.wrap (K i + v) = K i + v := wrap_id (by omega) (by omega)
     (repeat refine ZQ ?_); refine ZR fun K hK => ?_; simp (maxSteps := 1000000) [ty33, ty3, hlt, hgv, hneg]; refine hK _ ?_; clear hK K
     (repeat refine ZQ ?_); refine ZC (fun hd => ?_) (fun hd => ?_)
     ·simp at hd
     ·clear hd
      (repeat refine ZQ ?_); refine ZR fun K hK => ?_; simp (maxSteps := 1000000) [ty33, ty3, hlt, hgv, w2]; refine hK _ ?_; clear hK K
      (repeat refine ZQ ?_); refine ZR fun K hK => ?_; simp (maxSteps := 1000000) [ty3, w1]; refine hK _ ?_; clear hK K; (first | show AWP _ _ _ _ _ | show ∃ _, _ | skip)
      refine ⟨i + 1, by omega, by omega, ?_⟩
      rw [u0, u1]
      exact ZW
   ·simp [hlt] at hd
  ·have hin : i = vs.length := by omega
   subst hin
   (repeat refine ZQ ?_); refine ZC (fun hd => ?_) (fun hd => ?_)
   ·simp at hd
   ·clear hd
    (repeat refine ZQ ?_); refine awp_exit ?_; (first | show AWP _ _ _ _ _ | show ∃ _, _ | skip)
    have hsb := hKb vs.length (Nat.le_refl _)
    generalize K vs.length = sm at *
    rw [hI]
    clear hIs hI0 hIl hKs hK0 hKb hI
    refine AWP.weak ?_ (wk_frz 10 10 (c := .sl false false [[encI a]]) (o := ⟨false, false, 1, [[encI a]]⟩) (by simp) (by simp [purel, C.isPure]) (fz_own rfl (by simp) (by simp)))
    (repeat refine ZQ ?_); refine ZR fun K hK => ?_; simp (maxSteps := 1000000) [ty33, ty3]; refine hK _ ?_; clear hK K
    (repeat refine ZQ ?_); refine ZC (fun hd => ?_) (fun hd => ?_)
    ·simp at hd
    ·clear hd
     refine awp_skip ?_
     (repeat refine ZQ ?_); refine ZR fun K hK => ?_; simp (maxSteps := 1000000) [ty3]; refine hK _ ?_; clear hK K
     (repeat refine ZQ ?_); refine awp_block ?_
     refine awp_loop (fun n : Nat => ⟨ofL [(0, .sl nl fu (vs.map cI)), (1, encS f), (2, encS s), (3, encI k), (10, .sl false false [[encI a]]), (11, encI sm), (13, encI n)], stoT []⟩)
      (fun n => n ≤ 95 ∧ ∀ j, j < n → H j = false) (fun n => 95 - n) 0 ⟨by omega, fun j hj => absurd hj (by omega)⟩ ?_ ?_
     ·exact ZW
     ·intro n ⟨hn95, hno⟩
      have w1 : IntKind.i64.wrap ((n : Int) + 1) = ((n + 1 : Nat) : Int) := by rw [wrap_id (by omega) (by omega)]; rfl
      by_cases hlt : n ≤ 94
      ·have hlt' : (n : Int) ≤ 94 := by omega
       have cAn := cA n hlt
       have hhn := hhit n hlt
       have hal2 : a < (vs.set a (n : Int)).length := by simpa using hal
       have hga : (vs.set a (n : Int))[a] = n := by simp
       have hom : (vs.map cI).set a [encI (n : Int)] = (vs.set a (n : Int)).map cI := by rw [List.map_set]
       have hol : (vs.set a (n : Int)).length = vs.length := by simp
       have hsn := hfs n (by omega) hno
       generalize vs.set a (n : Int) = O at *
       (repeat refine ZQ ?_); refine ZR fun K hK => ?_; simp (maxSteps := 1000000) [ty3]
       refine ZP (c78) ?_; simp (maxSteps := 1000000) [ty3, hlt']
       refine hK _ ?_; clear hK K
       (repeat refine ZQ ?_); refine ZC (fun hd => ?_) (fun hd => ?_)
       ·clear hd
        refine awp_skip ?_
        (repeat refine ZQ ?_); refine awp_block ?_
        (repeat refine ZQ ?_); refine ZR fun K hK => ?_; simp (maxSteps := 1000000) [ty33, ty3]
        refine ⟨by omega, ?_⟩
        refine hK _ ?_; clear hK K
        (repeat refine ZQ ?_); refine ZR fun K hK => ?_; simp (maxSteps := 1000000) [ty33, ty3, hal, hve, hom]; refine hK _ ?_; clear hK K
        refine awp_mid ⟨ofL [(0, .sl nl fu (vs.map cI)), (1, encS f), (2, encS s), (3, encI k), (10, .sl false false [[encI a]]), (11, encI sm), (13, encI n), (14, .own 14 1 0 vs.length)],
         stoT [(14, 14, .live ⟨false, false, 1, O.map cI⟩)]⟩ ?_ ?_
        ·(repeat refine ZQ ?_); refine ZR fun K hK => ?_; simp (maxSteps := 1000000) [ty33, ty3]; refine hK _ ?_; clear hK K
         (repeat refine ZQ ?_); refine ZC (fun hd => ?_) (fun hd => ?_)
         ·simp at hd
         ·clear hd
          refine awp_skip ?_; (first | show AWP _ _ _ _ _ | show ∃ _, _ | skip)
          refine wk_shape2 [(14, 52, .live ⟨false, false, 1, O.map cI⟩)] (by first | rfl | (simp only [if_pos, if_true, hvi, hve, hol]; rfl)) (shp0 hσ (by simp) (by simp) ?_) ?_
          ·simp [SlotOk, hvi, hve, hol] <;> (repeat' (first | (refine RowsOk.same ?_; simp [purel, C.isPure]; done) | (refine rowsCons ?_; simp [mtl, mtc, mT, mH, C.isPure, purel]; done) | (refine rowsCons ?_; simp [mtl, mtc, mT, mH, C.isPure, purel]) | refine And.intro ?_ ?_))
          ·simp [mtc, mtl, mT, C.isPure, purel, hvi, hve, hol] <;> (try simp (disch := omega) [wrap_id]) <;> (try omega)
        ·refine AWP.weak ?_ (wk_frz 14 14 (c := .sl false false (O.map cI)) (o := ⟨false, false, 1, O.map cI⟩) (by simp) (all_purel_map fun _ => rfl) (fz_own rfl (by simp [hol]) (by simp)))
         cases hag : agrB O f s k
         ·rw [hag] at cAn hhn
          (repeat refine ZQ ?_); refine ZD [] [0, 1, 2, 3, 4, 5, 6, 7, 8, 9, 10, 11, 12, 13, 14, 15, 16, 17] fun K hK => ?_; simp (maxSteps := 1000000) [ty33, ty3, ty9, ty4, hal2, hga, w0]
          refine ZE (c78) ?_; simp (maxSteps := 1000000) [ty33, ty3, ty9, ty4, hlt']
          refine ZE (cAn) ?_; simp (maxSteps := 1000000) [ty33, ty3, ty9, ty4]
          refine hK _ ?_; clear hK K
          (repeat refine ZQ ?_); refine ZC (fun hd => ?_) (fun hd => ?_)
          ·simp at hd
          ·clear hd
           refine awp_skip ?_
           (repeat refine ZQ ?_); refine ZR fun K hK => ?_; simp (maxSteps := 1000000) [ty3, w1]; refine hK _ ?_; clear hK K; (first | show AWP _ _ _ _ _ | show ∃ _, _ | skip)
           refine ⟨n + 1, ⟨by omega, fun j hj => ?_⟩, by omega, ?_⟩
           ·by_cases hjn : j = n
            ·subst hjn; exact hhn
            ·exact hno j (by omega)
           ·exact ZW
         ·rw [hag] at cAn hhn
          rw [hsn hhn]
          (repeat refine ZQ ?_); refine ZD [] [0, 1, 2, 3, 4, 5, 6, 7, 8, 9, 10, 11, 12, 13, 14, 15, 16, 17] fun K hK => ?_; simp (maxSteps := 1000000) [ty33, ty3, ty9, ty4, hal2, hga, w0]
          refine ZE (c78) ?_; simp (maxSteps := 1000000) [ty33, ty3, ty9, ty4, hlt']
          refine ZE (cAn) ?_; simp (maxSteps := 1000000) [ty33, ty3, ty9, ty4]
          refine hK _ ?_; clear hK K
          (repeat refine ZQ ?_); refine ZC (fun hd => ?_) (fun hd => ?_)
          ·clear hd
           (repeat refine ZQ ?_); refine ZR fun K hK => ?_; simp (maxSteps := 1000000) [ty33, ty4]; refine hK _ ?_; clear hK K
           (repeat refine ZQ ?_); refine awp_ret ?_; refine And.intro (Or.inr rfl) ?_
           simp [retC, resC, viewC, mapO]
          ·simp at hd
       ·simp [hlt] at hd
      ·have hlt' : ¬ (n : Int) ≤ 94 := by omega
       have hn5 : n = 95 := by omega
       subst hn5
       rw [hfn hno]
       (repeat refine ZQ ?_); refine ZR fun K hK => ?_; simp (maxSteps := 1000000) [ty3]
       refine ZP (c78) ?_; simp (maxSteps := 1000000) [ty3]
       refine hK _ ?_; clear hK K
       (repeat refine ZQ ?_); refine ZC (fun hd => ?_) (fun hd => ?_)
       ·simp at hd
       ·clear hd
        (repeat refine ZQ ?_); refine awp_exit ?_
        (repeat refine ZQ ?_); refine ZR fun K hK => ?_; simp (maxSteps := 1000000) [ty33, ty4]; refine hK _ ?_; clear hK K
        (repeat refine ZQ ?_); refine awp_ret ?_; refine And.intro (Or.inr rfl) ?_
        simp [retC, resC, viewC, mapO]

theorem tm97 (n : Int) (h : -100000 ≤ n ∧ n ≤ 100000) : Int.tmod (n.tmod 97 + 97) 97 = n % 97 ∧ IntKind.i64.wrap (n.tmod 97) = n.tmod 97 ∧ IntKind.i64.wrap (n.tmod 97 + 97) = n.tmod 97 + 97 := by
 have hrl := Int.tmod_lt_of_pos n (show (0 : Int) < 97 by decide)
 have hrg := Int.lt_tmod_of_pos n (show (0 : Int) < 97 by decide)
 have hq := Int.mul_tdiv_add_tmod n 97
 refine ⟨?_, wrap_id (by omega) (by omega), wrap_id (by omega) (by omega)⟩
 rw [Int.tmod_eq_emod_of_nonneg (by omega)]
 omega

theorem fill_two (nl fu : Bool) (vs : List Int) (f s : List UInt8) (k a b : Nat) (hn : vs.length ≤ 100) (hv : ∀ v ∈ vs, -1 ≤ v ∧ v ≤ 94) (hf : SwOk f k) (hf0 : f ≠ []) (hs : SwOk s k) (h0 : misN vs vs.length = [a, b]) : Pure Tryz.prog 82 [.sl nl fu (vs.map cI), encS f, encS s, encI k] (encFill nl fu vs f s k) := by
 have hal : a < vs.length := (misN_lt (i := vs.length) (by rw [h0]; simp)).1
 have hbl : b < vs.length := (misN_lt (i := vs.length) (by rw [h0]; simp)).1
 have hI : misI vs vs.length = [(a : Int), (b : Int)] := by unfold misI; rw [h0]; rfl
 have hout : ∀ n : Nat, outV vs f k n = (vs.set a n).set b (othV vs f k n) := fun n => by unfold outV ms0 ms1; rw [h0]; rfl
 have hlast : lastV vs = b := by unfold lastV; rw [h0]; rfl
 have hsb : ∀ (n : Nat) (v : Int), ((vs.set a (n : Int)).set b v)[b]? = some v := fun n v => set_at (by simpa using hbl)
 have cA := fun n (h94 : n ≤ 94) (ho : othV vs f k n ≤ 94) => q_agrees105 false false (outV vs f k n) f s k (by rw [outV_len]; exact hn) (fun v hm => by
  have hok := out_ok (f := f) (k := k) hv (by rw [h0]; simp) (by rw [h0]; simp) h94 (by rw [hout, hlast, List.getD_eq_getElem?_getD, hsb]; exact ho)
  have := hok v hm; omega) hf hs
 have hhit : ∀ n : Nat, hitV vs f s k n = (decide (othV vs f k n ≤ 94) && agrB ((vs.set a n).set b (othV vs f k n)) f s k) := fun n => by
  unfold hitV
  rw [hout, hlast, List.getD_eq_getElem?_getD, hsb]
  rfl
 have hfs : ∀ n, n < 95 → (∀ j, j < n → hitV vs f s k j = false) → hitV vs f s k n = true → encFill nl fu vs f s k = .tup [.sl false false (((vs.set a n).set b (othV vs f k n)).map cI), .bool true] := fun n h1 h2 h3 => by
  unfold encFill
  rw [h0, if_neg (by simp), find_next h1 h2 h3]
  simp only [hout]
 have hfn : (∀ j, j < 95 → hitV vs f s k j = false) → encFill nl fu vs f s k = .tup [.sl true true [], .bool false] := fun h2 => by
  unfold encFill
  rw [h0, if_neg (by simp), find_no h2]
 have c78 := q_value78 126
 have v126 : valB 126 = 94 := by decide
 have w01 : IntKind.i64.wrap 1 = 1 := wrap_id (by omega) (by omega)
 rw [v126] at c78
 obtain ⟨c106, hsa⟩ := sumAt_ok hf hf0
 have hve : vs ≠ [] := fun e => by rw [e] at hal; simp at hal
 have hvi : vs.isEmpty = false := by simpa using hve
 have hoe : ∀ n : Nat, othV vs f k n = ((sumAtB f k : Int) - sumK vs vs.length - n) % 97 := fun _ => rfl
 simp only [hout] at cA
 generalize encFill nl fu vs f s k = R at *
 generalize hitV vs f s k = H at *
 generalize othV vs f k = oth at *
 generalize sumAtB f k = sa at *
 have hK0 : sumK vs 0 = 0 := rfl
 have hI0 : misI vs 0 = [] := rfl
 have hKs := fun i (hi : i < vs.length) => sumK_succ vs hi
 have hIs := fun i (hi : i < vs.length) => misI_succ vs hi
 have hKb := sumK_bd hv
 have hIl : ∀ i, (misI vs i).length ≤ i := fun i => by unfold misI; rw [List.length_map]; exact misN_len vs i
 generalize misI vs = I at *
 generalize sumK vs = K at *
 refine ZF (fn := Tryz.f82) [.tmp 8, .tmp 9] ⟨Tryz.func82, rfl, by kernel_rfl⟩ fun x hx hσ => ?_
 (repeat refine ZQ ?_); refine ZR fun K hK => ?_; simp (maxSteps := 1000000) [ty33, ty4]; refine hK _ ?_; clear hK K
 (repeat refine ZQ ?_); refine ZR fun K hK => ?_; simp (maxSteps := 1000000) [ty33]; refine hK _ ?_; clear hK K
 (repeat refine ZQ ?_); refine ZR fun K hK => ?_; simp (maxSteps := 1000000) [ty3]; refine hK _ ?_; clear hK K
 (repeat refine ZQ ?_); refine ZR fun K hK => ?_; simp (maxSteps := 1000000) [ty3]; refine hK _ ?_; clear hK K
 (repeat refine ZQ ?_); refine awp_block ?_
 refine AWP.weak ?_ (wk_nil 10 10 1 (fu := true) (by simp) (by simp))
 refine awp_loop (fun i : Nat => ⟨ofL [(0, .sl nl fu (vs.map cI)), (1, encS f), (2, encS s), (3, encI k), (10, .own 10 1 0 (I i).length), (11, encI (K i)), (12, encI i)], stoT [(10, 10, .live ⟨(I i).isEmpty, false, 1, (I i).map cI⟩)]⟩)
  (fun i => i ≤ vs.length) (fun i => vs.length - i) 0 (Nat.zero_le _) ?_ ?_
 ·refine wk_shape (shp0 hσ (by simp) (by simp) ?_) ?_
  ·simp [SlotOk, hI0, hK0] <;> (repeat' (first | (refine RowsOk.same ?_; simp [purel, C.isPure]; done) | (refine rowsCons ?_; simp [mtl, mtc, mT, mH, C.isPure, purel]; done) | (refine rowsCons ?_; simp [mtl, mtc, mT, mH, C.isPure, purel]) | refine And.intro ?_ ?_))
  ·simp [mtc, mtl, mT, C.isPure, purel, hI0, hK0] <;> (try simp (disch := omega) [wrap_id]) <;> (try omega)
 ·intro i hi
  have w1 : IntKind.i64.wrap ((i : Int) + 1) = ((i + 1 : Nat) : Int) := by rw [wrap_id (by omega) (by omega)]; rfl
  (repeat refine ZQ ?_); refine ZR fun K hK => ?_; simp (maxSteps := 1000000) [ty33, ty3]; refine hK _ ?_; clear hK K; (first | show AWP _ _ _ _ _ | show ∃ _, _ | skip)
  by_cases hlt : i < vs.length
  ·have hlt' : (i : Int) < vs.length := by omega
   (repeat refine ZQ ?_); refine ZC (hc := by simp [hlt]; rfl) (fun hd => ?_) (fun hd => ?_)
   ·clear hd
    have hb1 := hKb i (by omega)
    have hb2 := hKb (i + 1) (by omega)
    have u0 := hKs i hlt
    have u1 := hIs i hlt
    have hil := hIl i
    obtain ⟨v, hgv⟩ : ∃ v, vs[i] = v := ⟨_, rfl⟩
    rw [hgv] at u0 u1
    refine awp_skip ?_
    (repeat refine ZQ ?_); refine awp_block ?_
    by_cases hneg : v < 0
    ·rw [if_pos hneg] at u0 u1
     (repeat refine ZQ ?_); refine ZR fun K hK => ?_; simp (maxSteps := 1000000) [ty33, ty3, hlt, hgv, hneg]; refine hK _ ?_; clear hK K
     (repeat refine ZQ ?_); refine ZC (fun hd => ?_) (fun hd => ?_)
     ·clear hd
      (repeat refine ZQ ?_); refine ZR fun K hK => ?_; simp (maxSteps := 1000000) [ty33, ty3]
      refine ⟨by omega, ?_⟩
      refine hK _ ?_; clear hK K
      (repeat refine ZQ ?_); refine ZR fun K hK => ?_; simp (maxSteps := 1000000) [ty3, w1]; refine hK _ ?_; clear hK K; (first | show AWP _ _ _ _ _ | show ∃ _, _ | skip)
      refine ⟨i + 1, by omega, by omega, ?_⟩
      rw [u0, u1]
      refine wk_shape2 [(10, 29, .live ⟨(I i ++ [(i : Int)]).isEmpty, false, 1, (I i ++ [(i : Int)]).map cI⟩)] (by first | rfl | (simp only [if_pos, if_true]; rfl)) (shp0 hσ (by simp) (by simp) ?_) ?_
      ·simp [SlotOk] <;> (repeat' (first | (refine RowsOk.same ?_; simp [purel, C.isPure]; done) | (refine rowsCons ?_; simp [mtl, mtc, mT, mH, C.isPure, purel]; done) | (refine rowsCons ?_; simp [mtl, mtc, mT, mH, C.isPure, purel]) | refine And.intro ?_ ?_))
      ·simp [mtc, mtl, mT, C.isPure, purel] <;> (try simp (disch := omega) [wrap_id]) <;> (try omega)
     ·simp at hd
    ·rw [if_neg hneg] at u0 u1
     rw [u0] at hb2
     have w2 : IntKind.i64.wrap (K i + v) = K i + v := wrap_id (by omega) (by omega)
     (repeat refine ZQ ?_); refine ZR fun K hK => ?_; simp (maxSteps := 1000000) [ty33, ty3, hlt, hgv, hneg]; refine hK _ ?_; clear hK K
     (repeat refine ZQ ?_); refine ZC (fun hd => ?_) (fun hd => ?_)
     ·simp at hd
     ·clear hd
      (repeat refine ZQ ?_); refine ZR fun K hK => ?_; simp (maxSteps := 1000000) [ty33, ty3, hlt, hgv, w2]; refine hK _ ?_; clear hK K
      (repeat refine ZQ ?_); refine ZR fun K hK => ?_; simp (maxSteps := 1000000) [ty3, w1]; refine hK _ ?_; clear hK K; (first | show AWP _ _ _ _ _ | show ∃ _, _ | skip)
      refine ⟨i + 1, by omega, by omega, ?_⟩
      rw [u0, u1]
      exact ZW
   ·simp [hlt] at hd
  ·have hin : i = vs.length := by omega
   subst hin
   (repeat refine ZQ ?_); refine ZC (fun hd => ?_) (fun hd => ?_)
   ·simp at hd
   ·clear hd
    (repeat refine ZQ ?_); refine awp_exit ?_; (first | show AWP _ _ _ _ _ | show ∃ _, _ | skip)
    have hsb := hKb vs.length (Nat.le_refl _)
    generalize K vs.length = sm at *
    rw [hI]
    clear hIs hI0 hIl hKs hK0 hKb hI
    refine AWP.weak ?_ (wk_frz 10 10 (c := .sl false false [[encI a], [encI b]]) (o := ⟨false, false, 1, [[encI a], [encI b]]⟩) (by simp) (by simp [purel, C.isPure]) (fz_own rfl (by simp) (by simp)))
    (repeat refine ZQ ?_); refine ZR fun K hK => ?_; simp (maxSteps := 1000000) [ty33, ty3]; refine hK _ ?_; clear hK K
    (repeat refine ZQ ?_); refine ZC (fun hd => ?_) (fun hd => ?_)
    ·simp at hd
    ·clear hd
     refine awp_skip ?_
     (repeat refine ZQ ?_); refine ZR fun K hK => ?_; simp (maxSteps := 1000000) [ty3]; refine hK _ ?_; clear hK K
     (repeat refine ZQ ?_); refine awp_block ?_
     refine awp_loop (fun n : Nat => ⟨ofL [(0, .sl nl fu (vs.map cI)), (1, encS f), (2, encS s), (3, encI k), (10, .sl false false [[encI a], [encI b]]), (11, encI sm), (13, encI n)], stoT []⟩)
      (fun n => n ≤ 95 ∧ ∀ j, j < n → H j = false) (fun n => 95 - n) 0 ⟨by omega, fun j hj => absurd hj (by omega)⟩ ?_ ?_
     ·exact ZW
     ·intro n ⟨hn95, hno⟩
      have w1 : IntKind.i64.wrap ((n : Int) + 1) = ((n + 1 : Nat) : Int) := by rw [wrap_id (by omega) (by omega)]; rfl
      by_cases hlt : n ≤ 94
      ·have hlt' : (n : Int) ≤ 94 := by omega
       have cAn := cA n hlt
       have hhn := hhit n
       have hon := hoe n
       have hsn := hfs n (by omega) hno
       have w5 : IntKind.i64.wrap ((sa : Int) - sm) = (sa : Int) - sm := wrap_id (by omega) (by omega)
       have w6 : IntKind.i64.wrap ((sa : Int) - sm - n) = (sa : Int) - sm - n := wrap_id (by omega) (by omega)
       obtain ⟨m1, w7, w8⟩ := tm97 ((sa : Int) - sm - n) (by omega)
       rw [← hon] at m1
       generalize hox : oth n = o at *
       have ho0 : 0 ≤ o := by omega
       have ho9 : o < 97 := by omega
       have w9 : IntKind.i64.wrap o = o := wrap_id (by omega) (by omega)
       have hom : (vs.map cI).set a [encI (n : Int)] = (vs.set a (n : Int)).map cI := by rw [List.map_set]
       have hol : (vs.set a (n : Int)).length = vs.length := by simp
       have hbl1 : b < (vs.set a (n : Int)).length := by omega
       generalize vs.set a (n : Int) = O1 at *
       have hom2 : (O1.map cI).set b [encI o] = (O1.set b o).map cI := by rw [List.map_set]
       have hol2 : (O1.set b o).length = vs.length := by simp [hol]
       have hbl2 : b < (O1.set b o).length := by omega
       have hgb : (O1.set b o)[b] = o := by simp
       generalize O1.set b o = O at *
       (repeat refine ZQ ?_); refine ZR fun K hK => ?_; simp (maxSteps := 1000000) [ty3]
       refine ZP (c78) ?_; simp (maxSteps := 1000000) [ty3, hlt']
       refine hK _ ?_; clear hK K
       (repeat refine ZQ ?_); refine ZC (fun hd => ?_) (fun hd => ?_)
       ·clear hd
        refine awp_skip ?_
        (repeat refine ZQ ?_); refine awp_block ?_
        (repeat refine ZQ ?_); refine ZR fun K hK => ?_; simp (maxSteps := 1000000) [ty33, ty3]
        refine ⟨by omega, ?_⟩
        refine hK _ ?_; clear hK K
        (repeat refine ZQ ?_); refine ZR fun K hK => ?_; simp (maxSteps := 1000000) [ty33, ty3, hal, hve, hom]; refine hK _ ?_; clear hK K
        refine awp_mid ⟨ofL [(0, .sl nl fu (vs.map cI)), (1, encS f), (2, encS s), (3, encI k), (10, .sl false false [[encI a], [encI b]]), (11, encI sm), (13, encI n), (14, .own 14 1 0 vs.length)],
         stoT [(14, 14, .live ⟨false, false, 1, O.map cI⟩)]⟩ ?_ ?_
        ·(repeat refine ZQ ?_); refine ZR fun K hK => ?_; simp (maxSteps := 1000000) [ty33, ty3]; refine hK _ ?_; clear hK K
         (repeat refine ZQ ?_); refine ZC (fun hd => ?_) (fun hd => ?_)
         ·clear hd
          (repeat refine ZQ ?_); refine ZD [2015,10052] [0, 1, 2, 3, 4, 5, 6, 7, 8, 9, 10, 11, 12, 13, 14, 15] fun K hK => ?_; simp (maxSteps := 1000000) [ty33, ty3, ty9]
          refine ZE (c106) ?_; simp (maxSteps := 1000000) [ty33, ty3, ty9, w5, w6, w7, w8, m1, w9, hol, hbl, hbl1, hve, hvi, hom2]
          refine hK _ ?_; clear hK K; (first | show AWP _ _ _ _ _ | show ∃ _, _ | skip)
          refine wk_shape2 [(14, 52, .live ⟨false, false, 1, O.map cI⟩)] (by first | rfl | (simp only [if_pos, if_true, hvi, hve, hol2]; rfl)) (shp0 hσ (by simp) (by simp) ?_) ?_
          ·simp [SlotOk, hvi, hve, hol2] <;> (repeat' (first | (refine RowsOk.same ?_; simp [purel, C.isPure]; done) | (refine rowsCons ?_; simp [mtl, mtc, mT, mH, C.isPure, purel]; done) | (refine rowsCons ?_; simp [mtl, mtc, mT, mH, C.isPure, purel]) | refine And.intro ?_ ?_))
          ·simp [mtc, mtl, mT, C.isPure, purel, hvi, hve, hol2] <;> (try simp (disch := omega) [wrap_id]) <;> (try omega)
         ·simp at hd
        ·refine AWP.weak ?_ (wk_frz 14 14 (c := .sl false false (O.map cI)) (o := ⟨false, false, 1, O.map cI⟩) (by simp) (all_purel_map fun _ => rfl) (fz_own rfl (by simp [hol2]) (by simp)))
         by_cases ho94 : o ≤ 94
         ·have cAn := cAn ho94
          rw [decide_eq_true ho94, Bool.true_and] at hhn
          cases hag : agrB O f s k
          ·rw [hag] at cAn hhn
           (repeat refine ZQ ?_); refine ZD [] [0, 1, 2, 3, 4, 5, 6, 7, 8, 9, 10, 11, 12, 13, 14, 15, 16, 17] fun K hK => ?_; simp (maxSteps := 1000000) [ty33, ty3, ty9, ty4, hbl2, hgb, w01]
           refine ZE (c78) ?_; simp (maxSteps := 1000000) [ty33, ty3, ty9, ty4, ho94]
           refine ZE (cAn) ?_; simp (maxSteps := 1000000) [ty33, ty3, ty9, ty4]
           refine hK _ ?_; clear hK K
           (repeat refine ZQ ?_); refine ZC (fun hd => ?_) (fun hd => ?_)
           ·simp at hd
           ·clear hd
            refine awp_skip ?_
            (repeat refine ZQ ?_); refine ZR fun K hK => ?_; simp (maxSteps := 1000000) [ty3, w1]; refine hK _ ?_; clear hK K; (first | show AWP _ _ _ _ _ | show ∃ _, _ | skip)
            refine ⟨n + 1, ⟨by omega, fun j hj => ?_⟩, by omega, ?_⟩
            ·by_cases hjn : j = n
             ·subst hjn; exact hhn
             ·exact hno j (by omega)
            ·exact ZW
          ·rw [hag] at cAn hhn
           rw [hsn hhn]
           (repeat refine ZQ ?_); refine ZD [] [0, 1, 2, 3, 4, 5, 6, 7, 8, 9, 10, 11, 12, 13, 14, 15, 16, 17] fun K hK => ?_; simp (maxSteps := 1000000) [ty33, ty3, ty9, ty4, hbl2, hgb, w01]
           refine ZE (c78) ?_; simp (maxSteps := 1000000) [ty33, ty3, ty9, ty4, ho94]
           refine ZE (cAn) ?_; simp (maxSteps := 1000000) [ty33, ty3, ty9, ty4]
           refine hK _ ?_; clear hK K
           (repeat refine ZQ ?_); refine ZC (fun hd => ?_) (fun hd => ?_)
           ·clear hd
            (repeat refine ZQ ?_); refine ZR fun K hK => ?_; simp (maxSteps := 1000000) [ty33, ty4]; refine hK _ ?_; clear hK K
            (repeat refine ZQ ?_); refine awp_ret ?_; refine And.intro (Or.inr rfl) ?_
            simp [retC, resC, viewC, mapO]
           ·simp at hd
         ·rw [decide_eq_false ho94, Bool.false_and] at hhn
          (repeat refine ZQ ?_); refine ZD [] [0, 1, 2, 3, 4, 5, 6, 7, 8, 9, 10, 11, 12, 13, 14, 15, 16, 17] fun K hK => ?_; simp (maxSteps := 1000000) [ty33, ty3, ty9, ty4, hbl2, hgb, w01]
          refine ZE (c78) ?_; simp (maxSteps := 1000000) [ty33, ty3, ty9, ty4, ho94]
          refine hK _ ?_; clear hK K
          (repeat refine ZQ ?_); refine ZC (fun hd => ?_) (fun hd => ?_)
          ·simp at hd
          ·clear hd
           refine awp_skip ?_
           (repeat refine ZQ ?_); refine ZR fun K hK => ?_; simp (maxSteps := 1000000) [ty3, w1]; refine hK _ ?_; clear hK K; (first | show AWP _ _ _ _ _ | show ∃ _, _ | skip)
           refine ⟨n + 1, ⟨by omega, fun j hj => ?_⟩, by omega, ?_⟩
           ·by_cases hjn : j = n
            ·subst hjn; exact hhn
            ·exact hno j (by omega)
           ·exact ZW
       ·simp [hlt] at hd
      ·have hlt' : ¬ (n : Int) ≤ 94 := by omega
       have hn5 : n = 95 := by omega
       subst hn5
       rw [hfn hno]
       (repeat refine ZQ ?_); refine ZR fun K hK => ?_; simp (maxSteps := 1000000) [ty3]
       refine ZP (c78) ?_; simp (maxSteps := 1000000) [ty3]
       refine hK _ ?_; clear hK K
       (repeat refine ZQ ?_); refine ZC (fun hd => ?_) (fun hd => ?_)
       ·simp at hd
       ·clear hd
        (repeat refine ZQ ?_); refine awp_exit ?_
        (repeat refine ZQ ?_); refine ZR fun K hK => ?_; simp (maxSteps := 1000000) [ty33, ty4]; refine hK _ ?_; clear hK K
        (repeat refine ZQ ?_); refine awp_ret ?_; refine And.intro (Or.inr rfl) ?_
        simp [retC, resC, viewC, mapO]

theorem q_fill82 (nl fu : Bool) (vs : List Int) (f s : List UInt8) (k : Nat) (hn : vs.length ≤ 100) (hv : ∀ v ∈ vs, -1 ≤ v ∧ v ≤ 94) (hf : SwOk f k) (hs : SwOk s k) (h2 : (misN vs vs.length).length ≤ 2) (hf0 : (misN vs vs.length).length = 2 → f ≠ []) : Pure Tryz.prog 82 [.sl nl fu (vs.map cI), encS f, encS s, encI k] (encFill nl fu vs f s k) := by
 match hM : misN vs vs.length with
 | [] => exact fill_none nl fu vs f s k hn hv hf hs hM
 | [a] => exact fill_one nl fu vs f s k a hn hv hf hs hM
 | [a, b] => exact fill_two nl fu vs f s k a b hn hv hf (hf0 (by rw [hM]; rfl)) hs hM
 | a :: b :: c :: r => rw [hM] at h2; simp at h2

set_option maxHeartbeats 4000000
set_option maxRecDepth 20000


theorem num_card (b : UInt8) (m : Nat) (row : List UInt8) : numB (cardB b m row) = b := rfl
theorem body_card (b : UInt8) (m : Nat) (row : List UInt8) (hm : m ≤ 8) : bodyB (cardB b m row) = row := by
 have := (card_head b m row hm).1
 exact congrArg Cd.row this

theorem find_card {T ls : Ls} (h : PackOk T) (hs : Sub ls T) {c : List UInt8} (hc : c ∈ cardsB T) : findB (gd ls) (numB c) = if c ∈ ls then some (bodyB c) else none := by
 unfold findB
 have hp := (cards_parse h hc).1
 have hn : ∀ l ∈ gd ls, (numB l == numB c) = true → l = c := fun l hl he => by
  obtain ⟨h1, h2⟩ := List.mem_filter.1 hl
  have hlc := hs l h1 h2
  obtain ⟨_, _, e1, _, _, _, _, _, _, _, e2, _⟩ := good_ok h2
  obtain ⟨_, _, e3, _, _, _, _, _, _, _, e4, _⟩ := good_ok hp
  exact card_num h hlc hc (by rw [e1, e2, e3, e4]; exact beq_iff_eq.1 he)
 by_cases hm : c ∈ ls
 ·rw [if_pos hm]
  have hg : c ∈ gd ls := List.mem_filter.2 ⟨hm, hp⟩
  cases hf : (gd ls).find? (fun l => numB l == numB c) with
  | none => have := List.find?_eq_none.1 hf c hg; simp at this
  | some l =>
   have h1 := List.find?_some hf
   have := hn l (List.mem_of_find?_eq_some hf) h1
   subst this; rfl
 ·rw [if_neg hm]
  have : (gd ls).find? (fun l => numB l == numB c) = none := List.find?_eq_none.2 fun l hl he => hm (by
   have := hn l hl he
   subst this
   exact (List.mem_filter.1 hl).1)
  rw [this]; rfl

theorem rowG_card {T ls : Ls} (h : PackOk T) (hs : Sub ls T) {i : Nat} (hi : i < T.length) : rowG (gd ls) i = if cardAt T i ∈ ls then some (rowB (T.getD i []) (longB T)) else none := by
 have := find_card h hs (card_i hi)
 unfold cardAt at this ⊢
 rw [num_card, body_card _ _ _ h.many.2] at this
 exact this
theorem sumG_card {T ls : Ls} (h : PackOk T) (hs : Sub ls T) (wt : Bool) : findB (gd ls) (if wt then 98 else 97) = if sumL T wt ∈ ls then some (sumR T wt) else none := by
 have := find_card h hs (card_s wt)
 unfold sumL at this ⊢
 rw [num_card, body_card _ _ _ h.many.2] at this
 exact this
theorem rowsG_P {T ls : Ls} (h : PackOk T) (hs : Sub ls T) : rowsG (gd ls) T.length = rowsP T ls := by
 unfold rowsG rowsP
 refine List.map_congr_left fun i hi => ?_
 rw [rowG_card h hs (List.mem_range.1 hi)]
 split <;> rfl
theorem misG_L {T ls : Ls} (h : PackOk T) (hs : Sub ls T) : misG (gd ls) T.length = missL T ls := by
 unfold misG missL
 congr 1
 refine List.filter_congr fun i hi => ?_
 rw [rowG_card h hs (List.mem_range.1 hi)]
 by_cases hc : cardAt T i ∈ ls
 ·rw [if_pos hc]; simp [hc]
 ·rw [if_neg hc]; simp [hc]
theorem sumG_P {T ls : Ls} (h : PackOk T) (hs : Sub ls T) (wt : Bool) : (findB (gd ls) (if wt then 98 else 97)).getD [] = sumP T ls wt := by
 rw [sumG_card h hs]
 unfold sumP
 split <;> rfl
theorem knowG_N {T ls : Ls} (h : PackOk T) (hs : Sub ls T) : knowG (gd ls) = knowN T ls := by
 have ha := sumG_card h hs false
 have hb := sumG_card h hs true
 simp only [Bool.false_eq_true, if_false, if_true] at ha hb
 unfold knowG knowN
 rw [ha, hb]
 congr 1
 ·by_cases hc : sumL T false ∈ ls
  ·rw [if_pos hc, if_pos hc]; rfl
  ·rw [if_neg hc, if_neg hc]; rfl
 ·by_cases hc : sumL T true ∈ ls
  ·rw [if_pos hc, if_pos hc]; rfl
  ·rw [if_neg hc, if_neg hc]; rfl


def tvL (T : Ls) (k : Nat) : List Int := (List.range T.length).map (valR T k)
theorem tv_len (T : Ls) (k : Nat) : (tvL T k).length = T.length := by simp [tvL]
theorem tv_at {T : Ls} {k i : Nat} (hi : i < T.length) : (tvL T k).getD i 0 = valR T k i := by
 unfold tvL
 simp [List.getD_eq_getElem?_getD, hi]

theorem vals_len (T ls : Ls) (k : Nat) : (valsG (rowsP T ls) k).length = T.length := by simp [valsG, rowsP]
theorem vals_at {T ls : Ls} (h : PackOk T) {k i : Nat} (hi : i < T.length) : (valsG (rowsP T ls) k).getD i 0 = if cardAt T i ∈ ls then valR T k i else -1 := by
 have hl : i < (rowsP T ls).length := by rw [rowsP_len]; exact hi
 have e : (valsG (rowsP T ls) k).getD i 0 = if (rowsP T ls).getD i [] = [] then -1 else valB (((rowsP T ls).getD i []).getD k 0) := by
  unfold valsG
  simp [List.getD_eq_getElem?_getD, List.getElem?_eq_getElem hl]
 rw [e]
 by_cases hc : cardAt T i ∈ ls
 ·rw [if_pos hc, if_neg (fun e => absurd hc ((rowsP_nil h hi).1 e)), rowsP_at hi, if_pos hc]
  unfold valR atB
  rw [rows_at hi]
 ·rw [if_neg hc, if_pos ((rowsP_nil h hi).2 hc)]

theorem mis_eq {T ls : Ls} (h : PackOk T) {k : Nat} (hk : k < longB T + 2) : misN (valsG (rowsP T ls) k) T.length = (List.range T.length).filter fun i => decide (cardAt T i ∉ ls) := by
 unfold misN
 refine List.filter_congr fun i hi => ?_
 have hi := List.mem_range.1 hi
 have hv := valR_bd h hi hk
 rw [vals_at h hi]
 by_cases hc : cardAt T i ∈ ls
 ·rw [if_pos hc]; simp [hc]; omega
 ·rw [if_neg hc]; simp [hc]

theorem sumW_set (vs : List Int) (wt : Bool) {z : Nat} (hz : z < vs.length) (v : Int) : ∀ i, sumW (vs.set z v) wt i = sumW vs wt i + (if z < i then (v - vs.getD z 0) * wgt wt z else 0)
 | 0 => by simp [sumW]
 | i + 1 => by
  have ih := sumW_set vs wt hz v i
  simp only [sumW]
  rw [ih]
  have e : (vs.set z v).getD i 0 = if z = i then v else vs.getD i 0 := by
   simp only [List.getD_eq_getElem?_getD, List.getElem?_set]
   by_cases q : z = i
   ·subst q; simp [hz]
   ·simp [q]
  rw [e]
  by_cases q : z = i
  ·subst q
   rw [if_pos rfl, if_neg (by omega), if_pos (by omega), Int.sub_mul]; omega
  ·rw [if_neg q]
   by_cases q2 : z < i
   ·rw [if_pos q2, if_pos (by omega)]; omega
   ·rw [if_neg q2, if_neg (by omega)]; omega

theorem sumW_tv (T : Ls) (wt : Bool) (k : Nat) : ∀ i, i ≤ T.length → sumW (tvL T k) wt i = colS (rowsB T) wt k i
 | 0, _ => rfl
 | i + 1, hi => by
  simp only [sumW, colS]
  rw [sumW_tv T wt k i (by omega), tv_at (by omega)]
  rfl

theorem sumAt_sum {T : Ls} (h : PackOk T) (wt : Bool) {k : Nat} (hk : k < longB T + 2) : (sumAtB (sumR T wt) k : Int) = colS (rowsB T) wt k T.length % 97 := by
 rw [← numV_sum h wt hk]
 obtain ⟨h1, h2⟩ := sumR_ok h wt
 generalize sumR T wt = r at *
 have e : (r.take (2 * k + 2)).drop (2 * k) = [r.getD (2 * k) 0, r.getD (2 * k + 1) 0] := by
  have hl1 : 2 * k < r.length := by omega
  have hl2 : 2 * k + 1 < r.length := by omega
  rw [List.take_succ_eq_append_getElem hl2, List.take_succ_eq_append_getElem hl1, List.append_assoc, List.drop_left' (by simp; omega)]
  simp [List.getD_eq_getElem?_getD, List.getElem?_eq_getElem hl1, List.getElem?_eq_getElem hl2]
 rw [e]
 have hd : digB [r.getD (2 * k) 0, r.getD (2 * k + 1) 0] = true := (dig_plain fun x hx => by
  simp only [List.mem_cons, List.not_mem_nil, or_false] at hx
  rcases hx with rfl | rfl
  ·exact h2 _ (getD_mem (by omega))
  ·exact h2 _ (getD_mem (by omega))).2
 unfold numV numOk
 rw [hd, if_pos (by rfl)]
 rfl

theorem agr_col {T ls : Ls} (h : PackOk T) {k : Nat} (hk : k < longB T + 2) {vs : List Int} (hl : vs.length = T.length) : agrB vs (sumP T ls false) (sumP T ls true) k = true ↔
  (∀ wt, sumL T wt ∈ ls → sumW vs wt T.length % 97 = colS (rowsB T) wt k T.length % 97) := by
 have hA : ∀ wt, sumR T wt ≠ [] := fun wt e => by have := (sumR_ok h wt).1; rw [e] at this; simp at this
 have key : ∀ wt, (sumP T ls wt == [] || sumW vs wt vs.length % 97 == (sumAtB (sumP T ls wt) k : Int)) = true ↔ (sumL T wt ∈ ls → sumW vs wt T.length % 97 = colS (rowsB T) wt k T.length % 97) := fun wt => by
  unfold sumP
  by_cases hc : sumL T wt ∈ ls
  ·rw [if_pos hc, hl, sumAt_sum h wt hk]
   simp [hA wt, hc]
  ·rw [if_neg hc]; simp [hc]
 unfold agrB
 rw [Bool.and_eq_true, key, key]
 exact ⟨fun ⟨a, b⟩ wt => by cases wt <;> assumption, fun g => ⟨g false, g true⟩⟩

theorem cancel97 {x : Int} {d : Nat} (h1 : 1 ≤ d) (h8 : d ≤ 8) (hx : -96 ≤ x ∧ x ≤ 96) (h : x * d % 97 = 0) : x = 0 := by
 obtain rfl | rfl | rfl | rfl | rfl | rfl | rfl | rfl : d = 1 ∨ d = 2 ∨ d = 3 ∨ d = 4 ∨ d = 5 ∨ d = 6 ∨ d = 7 ∨ d = 8 := by omega
 all_goals simp only [Int.natCast_one, Int.cast_ofNat_Int] at h
 all_goals omega

theorem sumK_gap {T ls : Ls} (h : PackOk T) {k : Nat} (hk : k < longB T + 2) : ∀ i, i ≤ T.length → sumK (valsG (rowsP T ls) k) i + gapTo T ls false k i = colS (rowsB T) false k i
 | 0, _ => rfl
 | i + 1, hi => by
  have ih := sumK_gap (ls := ls) h hk i (by omega)
  have hv := valR_bd h (show i < T.length by omega) hk
  have e : valB (atB (rowsB T) i k) = valR T k i := rfl
  simp only [sumK, gapTo, colS, wgt, Bool.false_eq_true, if_false, Int.mul_one, e]
  rw [vals_at h (by omega)]
  by_cases hc : cardAt T i ∈ ls
  ·simp only [if_pos hc]
   rw [if_neg (by omega)]; omega
  ·simp only [if_neg hc]
   rw [if_pos (by omega)]; omega

theorem mem_miss {T ls : Ls} {i : Nat} {M : List Nat} (hM : ((List.range T.length).filter fun i => decide (cardAt T i ∉ ls)) = M) : i ∈ M ↔ i < T.length ∧ cardAt T i ∉ ls := by
 rw [← hM, List.mem_filter, List.mem_range, decide_eq_true_eq]

theorem gap_two {T ls : Ls} {k y z : Nat} : ∀ i, i ≤ T.length → (∀ j, j < i → (cardAt T j ∉ ls ↔ j = y ∨ j = z)) → y < z → gapTo T ls false k i = (if y < i then valR T k y else 0) + if z < i then valR T k z else 0
 | 0, _, _, _ => by simp [gapTo]
 | i + 1, hi, h, hyz => by
  have ih := gap_two (k := k) i (by omega) (fun j hj => h j (by omega)) hyz
  have hh := h i (by omega)
  simp only [gapTo]
  rw [ih]
  simp only [wgt, Bool.false_eq_true, if_false, Int.mul_one]
  by_cases hc : cardAt T i ∈ ls
  ·have : ¬ (i = y ∨ i = z) := fun e => absurd hc (hh.2 e)
   rw [if_pos hc]
   have e1 : (y < i + 1) = (y < i) := by apply propext; omega
   have e2 : (z < i + 1) = (z < i) := by apply propext; omega
   simp only [e1, e2]; omega
  ·rw [if_neg hc]
   rcases hh.1 hc with rfl | rfl
   ·rw [if_neg (by omega), if_neg (by omega), if_pos (by omega), if_neg (by omega)]; omega
   ·rw [if_pos (by omega), if_neg (by omega), if_pos (by omega), if_pos (by omega)]; omega

theorem asc_filter (p : Nat → Bool) (n : Nat) : ((List.range n).filter p).Pairwise (· < ·) := List.Pairwise.filter _ List.pairwise_lt_range

theorem find_one {p : Nat → Bool} {n v : Nat} (hv : v < n) (h1 : p v = true) (h2 : ∀ m, m < n → p m = true → m = v) : (List.range n).find? p = some v := by
 cases hf : (List.range n).find? p with
 | none => have := List.find?_eq_none.1 hf v (List.mem_range.2 hv); exact absurd h1 this
 | some m =>
  have := h2 m (List.mem_range.1 (List.mem_of_find?_eq_some hf)) (List.find?_some hf)
  rw [this]

theorem fill_true {T ls : Ls} (h : PackOk T) {k : Nat} (hk : k < longB T + 2) (hn : (missL T ls).length ≤ knowN T ls) : fillV (valsG (rowsP T ls) k) (sumP T ls false) (sumP T ls true) k = some (tvL T k) := by
 obtain ⟨M, hM⟩ : ∃ M, ((List.range T.length).filter fun i => decide (cardAt T i ∉ ls)) = M := ⟨_, rfl⟩
 have hmis := mis_eq (ls := ls) h hk
 rw [hM] at hmis
 have hmem := fun i => mem_miss (i := i) hM
 have hasc := asc_filter (fun i => decide (cardAt T i ∉ ls)) T.length
 rw [hM] at hasc
 have hlen : (missL T ls).length = M.length := by unfold missL; rw [hM, List.length_map]
 have hkn : knowN T ls ≤ 2 := by unfold knowN; split <;> split <;> omega
 have h8 := h.many
 have hvl := vals_len T ls k
 have htl := tv_len T k
 have hva := fun {i} (hi : i < T.length) => vals_at (ls := ls) (k := k) h hi
 have hgap := sumK_gap (ls := ls) h hk T.length (Nat.le_refl _)
 have hcol := fun wt => sumW_tv T wt k T.length (Nat.le_refl _)
 have hagr : agrB (tvL T k) (sumP T ls false) (sumP T ls true) k = true := (agr_col h hk htl).2 fun wt _ => by rw [hcol]
 have htv := fun {i} (hi : i < T.length) => tv_at (k := k) hi
 have hbd := fun {i} (hi : i < T.length) => valR_bd h hi hk
 have hsame : ∀ i (h1 : i < (valsG (rowsP T ls) k).length) (h2 : i < (tvL T k).length), i ∉ M → (valsG (rowsP T ls) k)[i] = (tvL T k)[i] := fun i h1 h2 hi => by
  have hiT : i < T.length := by omega
  have hc : cardAt T i ∈ ls := Classical.byContradiction fun hc => hi ((hmem i).2 ⟨hiT, hc⟩)
  have e1 := hva hiT
  rw [if_pos hc, ← htv hiT] at e1
  simpa [List.getD_eq_getElem?_getD, List.getElem?_eq_getElem h1, List.getElem?_eq_getElem h2] using e1
 have hmis2 : misN (valsG (rowsP T ls) k) (valsG (rowsP T ls) k).length = M := by rw [hvl]; exact hmis
 have hs0 : ∀ v : Int, sumAtB (sumP T ls false) k = v → sumL T false ∈ ls → v = colS (rowsB T) false k T.length % 97 := fun v e hc => by
  rw [← e]; unfold sumP; rw [if_pos hc]; exact sumAt_sum h false hk
 generalize valsG (rowsP T ls) k = vs at *
 unfold fillV hitV outV lastV ms0 ms1 othV
 rw [hmis2]
 match M, hlen, hasc, hmem, hsame, hmis2 with
 | [], _, _, _, hsame, _ =>
  have e : vs = tvL T k := List.ext_getElem (by omega) fun i h1 h2 => hsame i h1 h2 (by simp)
  rw [if_pos rfl, e, hagr]; rfl
 | [z], hlen, _, hmem, hsame, _ =>
  obtain ⟨hzT, hzc⟩ := (hmem z).1 (by simp)
  have hset : ∀ v : Int, vs.set z v = (tvL T k).set z v := fun v => by
   refine List.ext_getElem (by simp; omega) fun i h1 h2 => ?_
   simp only [List.getElem_set]
   split
   ·rfl
   ·rename_i q
    exact hsame i (by simpa using h1) (by simpa using h2) (by simp; omega)
  have hset2 : ∀ v : Int, ((tvL T k).set z v).getD z 0 = v := fun v => by
   rw [List.getD_eq_getElem?_getD, List.getElem?_set_self (by omega)]; rfl
  have htz : (tvL T k).set z (valR T k z) = tvL T k := by
   refine List.ext_getElem (by simp) fun i h1 h2 => ?_
   simp only [List.getElem_set]
   split
   ·rename_i q; subst q
    have := htv hzT
    rw [← this]
    simp [List.getD_eq_getElem?_getD, List.getElem?_eq_getElem h2]
   ·rfl
  have hz := hbd hzT
  rw [if_neg (by simp)]
  simp only [List.length_cons, List.length_nil, List.getD_cons_zero, Nat.lt_irrefl, if_false, Nat.zero_add, Nat.sub_self]
  have hw : ∃ wt, sumL T wt ∈ ls := by
   unfold knowN at hn
   by_cases ha : sumL T false ∈ ls
   ·exact ⟨_, ha⟩
   ·by_cases hb : sumL T true ∈ ls
    ·exact ⟨_, hb⟩
    ·rw [if_neg ha, if_neg hb] at hn; simp at hlen; omega
  have hzn : ((valR T k z).toNat : Int) = valR T k z := Int.toNat_of_nonneg hz.1
  rw [find_one (v := (valR T k z).toNat) (by omega) (by rw [hset, hset2, hzn, htz, hagr]; simp; omega) (fun m hm hp => ?_)]
  ·rw [Option.map_some, hset, hzn, htz]
  ·obtain ⟨wt, hwt⟩ := hw
   have hg := (Bool.and_eq_true_iff.1 hp).2
   rw [hset] at hg
   have hg := (agr_col h hk (by simp; omega)).1 hg wt hwt
   rw [sumW_set _ _ (by omega), hcol, if_pos hzT, htv hzT] at hg
   have hc : ((m : Int) - valR T k z) * wgt wt z % 97 = 0 := by omega
   have : (m : Int) - valR T k z = 0 := by
    cases wt
    ·simp only [wgt, Bool.false_eq_true, if_false, Int.mul_one] at hc; omega
    ·simp only [wgt, if_true] at hc
     exact cancel97 (d := z + 1) (by omega) (by omega) (by omega) (by rw [Int.natCast_add]; exact hc)
   omega
 | [y, z], hlen, hasc, hmem, hsame, _ =>
  obtain ⟨hyT, hyc⟩ := (hmem y).1 (by simp)
  obtain ⟨hzT, hzc⟩ := (hmem z).1 (by simp)
  have hyz : y < z := by simpa using hasc
  have hall : ∀ wt, sumL T wt ∈ ls := by
   unfold knowN at hn
   simp at hlen
   intro wt
   by_cases ha : sumL T false ∈ ls
   ·by_cases hb : sumL T true ∈ ls
    ·cases wt <;> assumption
    ·rw [if_pos ha, if_neg hb] at hn; omega
   ·rw [if_neg ha] at hn; split at hn <;> omega
  have hset : ∀ u v : Int, (vs.set y u).set z v = ((tvL T k).set y u).set z v := fun u v => by
   refine List.ext_getElem (by simp; omega) fun i h1 h2 => ?_
   simp only [List.getElem_set]
   split
   ·rfl
   ·split
    ·rfl
    ·rename_i q1 q2
     exact hsame i (by simpa using h1) (by simpa using h2) (by simp; omega)
  have hset2 : ∀ u v : Int, (((tvL T k).set y u).set z v).getD z 0 = v := fun u v => by
   rw [List.getD_eq_getElem?_getD, List.getElem?_set_self (by simp; omega)]; rfl
  have hset3 : ∀ u : Int, ((tvL T k).set y u).getD z 0 = valR T k z := fun u => by
   rw [List.getD_eq_getElem?_getD, List.getElem?_set_ne (by omega), ← List.getD_eq_getElem?_getD, htv hzT]
  have htz : ((tvL T k).set y (valR T k y)).set z (valR T k z) = tvL T k := by
   refine List.ext_getElem (by simp) fun i h1 h2 => ?_
   have hg : ∀ {j : Nat}, j < T.length → j = i → valR T k j = (tvL T k)[i] := fun {j} hj q => by
    subst q
    rw [← htv hj]
    simp [List.getD_eq_getElem?_getD, List.getElem?_eq_getElem h2]
   simp only [List.getElem_set]
   split
   ·rename_i q; exact hg hzT q
   ·split
    ·rename_i q; exact hg hyT q
    ·rfl
  have hz := hbd hzT
  have hy := hbd hyT
  have hg2 := gap_two (ls := ls) (k := k) (y := y) (z := z) T.length (Nat.le_refl _) (fun j hj => by
   have := hmem j
   simp only [List.mem_cons, List.not_mem_nil, or_false] at this
   rw [this]
   exact ⟨fun q => ⟨hj, q⟩, fun q => q.2⟩) hyz
  rw [if_pos hyT, if_pos hzT] at hg2
  rw [hg2] at hgap
  have hsm := hs0 _ rfl (hall false)
  rw [if_neg (by simp)]
  simp only [List.length_cons, List.length_nil, List.getD_cons_zero, List.getD_cons_succ, Nat.zero_add, Nat.add_sub_cancel, show (1 : Nat) < 1 + 1 from by decide, if_true, hvl]
  have hyn : ((valR T k y).toNat : Int) = valR T k y := Int.toNat_of_nonneg hy.1
  have hoth : ((sumAtB (sumP T ls false) k : Int) - sumK vs T.length - ((valR T k y).toNat : Int)) % 97 = valR T k z := by omega
  rw [find_one (v := (valR T k y).toNat) (by omega) (by rw [hset, hset2, hoth, hyn, htz, hagr]; simp; omega) (fun m hm hp => ?_)]
  ·rw [Option.map_some, hset, hoth, hyn, htz]
  ·have hp1 := of_decide_eq_true (Bool.and_eq_true_iff.1 hp).1
   have hg := (Bool.and_eq_true_iff.1 hp).2
   rw [hset, hset2] at hp1
   rw [hset] at hg
   have hb0 : 0 ≤ ((sumAtB (sumP T ls false) k : Int) - sumK vs T.length - (m : Int)) % 97 := by omega
   generalize ((sumAtB (sumP T ls false) k : Int) - sumK vs T.length - (m : Int)) % 97 = w at *
   have g0 := (agr_col h hk (by simp; omega)).1 hg false (hall false)
   have g1 := (agr_col h hk (by simp; omega)).1 hg true (hall true)
   rw [sumW_set _ _ (by simp; omega), sumW_set _ _ (by omega), hset3, hcol, if_pos hzT, if_pos hyT, htv hyT] at g0 g1
   simp only [wgt, Bool.false_eq_true, if_false, if_true, Int.mul_one] at g0 g1
   generalize valR T k z = tz at *
   generalize valR T k y = ty at *
   obtain ⟨p, hp⟩ : ∃ p : Int, (m : Int) - ty = p := ⟨_, rfl⟩
   obtain ⟨q, hq⟩ : ∃ q : Int, w - tz = q := ⟨_, rfl⟩
   rw [hp, hq] at g0 g1
   obtain ⟨t, ht⟩ : ∃ t : Int, p + q = 97 * t := ⟨(p + q) / 97, by omega⟩
   have hpq : p = 97 * t - q := by omega
   rw [hpq] at g1
   have hd : q * ((z - y : Nat) : Int) % 97 = 0 := by
    have e : q * ((z - y : Nat) : Int) = q * (z : Int) - q * (y : Int) := by rw [Int.natCast_sub (by omega), Int.mul_sub]
    rw [e]
    simp only [Int.mul_add, Int.sub_mul, Int.mul_one, Int.mul_assoc] at g1
    omega
   have hq0 := cancel97 (d := z - y) (by omega) (by omega) (by omega) hd
   subst hq0
   have : p = 0 := by omega
   omega
 | a :: b :: c :: r, hlen, _, _, _, _ => simp at hlen; omega

set_option maxHeartbeats 4000000
set_option maxRecDepth 20000


theorem find_ok {G : Ls} {b : UInt8} {r : List UInt8} (h : findB G b = some r) : ∃ l ∈ G, numB l = b ∧ r = bodyB l := by
 unfold findB at h
 obtain ⟨l, h1, rfl⟩ := Option.map_eq_some_iff.1 h
 have h2 := List.find?_some h1
 exact ⟨l, List.mem_of_find?_eq_some h1, by simpa using h2, rfl⟩

theorem fits_at {G : Ls} (hf : fitsG G = true) {l : List UInt8} (hl : l ∈ G) : manyG l = manyG (G.headD []) ∧ rowLenB l = rowLenB (G.headD []) := by
 have := List.all_eq_true.1 hf l hl
 simpa using this

theorem plain_sub {l m : List UInt8} (h : plainB l = true) (hs : ∀ x ∈ m, x ∈ l) : plainB m = true := List.all_eq_true.2 fun x hx => List.all_eq_true.1 h x (hs x hx)
theorem body_sub {l : List UInt8} : ∀ x ∈ bodyB l, x ∈ l := fun x hx => List.mem_of_mem_take (List.mem_of_mem_drop hx)

theorem rowG_ok {G : Ls} (hg : ∀ l ∈ G, parseOk l = true) (hf : fitsG G = true) {i : Nat} (hi : i < 8) {r : List UInt8} (h : rowG G i = some r) : r.length = rowLenB (G.headD []) ∧ plainB r = true ∧ r ≠ [] := by
 obtain ⟨l, h1, h2, rfl⟩ := find_ok h
 obtain ⟨_, _, _, _, _, _, _, _, _, g1, _, _, g2, _, g3⟩ := good_ok (hg l h1)
 have hs : isSumB l = false := by
  unfold isSumB
  rw [h2]
  simp only [Bool.or_eq_false_iff, beq_eq_false_iff_ne]
  constructor <;> (intro e; have := congrArg UInt8.toNat e; simp only [UInt8.toNat_ofNat'] at this; simp at this; omega)
 exact ⟨by rw [(g3 hs).1, (fits_at hf h1).2], plain_sub g1 body_sub, g2⟩
theorem sumG_ok {G : Ls} (hg : ∀ l ∈ G, parseOk l = true) (hf : fitsG G = true) {b : UInt8} (hb : b = 97 ∨ b = 98) : (findB G b).getD [] = [] ∧ findB G b = none ∨ ∃ r, findB G b = some r ∧ r ≠ [] ∧ digB r = true ∧ r.length = 2 * rowLenB (G.headD []) := by
 cases h : findB G b with
 | none => exact .inl ⟨rfl, rfl⟩
 | some r =>
  obtain ⟨l, h1, h2, rfl⟩ := find_ok h
  obtain ⟨_, _, _, _, _, _, _, _, _, g1, _, _, g2, g3, _⟩ := good_ok (hg l h1)
  have hs : isSumB l = true := by
   unfold isSumB
   rw [h2]
   rcases hb with rfl | rfl <;> rfl
  exact .inr ⟨_, rfl, g2, (g3 hs).1, by rw [(g3 hs).2, (fits_at hf h1).2]⟩

def RwOk (R : Ls) (n : Nat) : Prop := ∀ r ∈ R, r = [] ∨ (r.length = n ∧ plainB r = true)
theorem rowsG_ok {G : Ls} (hg : ∀ l ∈ G, parseOk l = true) (hf : fitsG G = true) {m : Nat} (hm : m ≤ 8) : RwOk (rowsG G m) (rowLenB (G.headD [])) := fun r hr => by
 obtain ⟨i, hi, rfl⟩ := List.mem_map.1 hr
 have hi := List.mem_range.1 hi
 cases h : rowG G i with
 | none => exact .inl rfl
 | some r =>
  have := rowG_ok hg hf (by omega) h
  exact .inr ⟨this.1, this.2.1⟩

theorem vals_ok {R : Ls} {n k : Nat} (h : RwOk R n) (hk : k < n) : ∀ v ∈ valsG R k, -1 ≤ v ∧ v ≤ 94 := fun v hv => by
 obtain ⟨r, hr, rfl⟩ := List.mem_map.1 hv
 rcases h r hr with rfl | ⟨h1, h2⟩
 ·simp
 ·split
  ·omega
  ·have := List.all_eq_true.1 h2 _ (getD_mem (d := 0) (show k < r.length by omega))
   simp only [Bool.and_eq_true, decide_eq_true_eq] at this
   unfold valB; omega

theorem vals_neg {R : Ls} {n k : Nat} (h : RwOk R n) (hk : k < n) {i : Nat} (hi : i < R.length) : (valsG R k).getD i 0 < 0 ↔ R.getD i [] = [] := by
 have e : (valsG R k).getD i 0 = if R.getD i [] = [] then -1 else valB ((R.getD i []).getD k 0) := by
  unfold valsG
  simp [List.getD_eq_getElem?_getD, List.getElem?_eq_getElem hi]
 rw [e]
 rcases h _ (getD_mem (d := []) hi) with h0 | ⟨h1, h2⟩
 ·rw [if_pos h0, h0]; simp
 ·have hne : R.getD i [] ≠ [] := fun e => by rw [e] at h1; simp at h1; omega
  rw [if_neg hne]
  have := List.all_eq_true.1 h2 _ (getD_mem (d := 0) (show k < (R.getD i []).length by omega))
  simp only [Bool.and_eq_true, decide_eq_true_eq] at this
  refine ⟨fun hv => ?_, fun hv => absurd hv hne⟩
  unfold valB at hv; omega

theorem mis_len {G : Ls} (hg : ∀ l ∈ G, parseOk l = true) (hf : fitsG G = true) {m k : Nat} (hm : m ≤ 8) (hk : k < rowLenB (G.headD [])) : (misN (valsG (rowsG G m) k) (valsG (rowsG G m) k).length).length = (misG G m).length := by
 have hl : (rowsG G m).length = m := by simp [rowsG]
 have hvl : (valsG (rowsG G m) k).length = m := by simp [valsG, rowsG]
 rw [hvl]
 unfold misN misG
 rw [List.length_map]
 refine congrArg List.length (List.filter_congr fun i hi => ?_)
 have hi := List.mem_range.1 hi
 rw [Bool.eq_iff_iff, decide_eq_true_eq, vals_neg (rowsG_ok hg hf hm) hk (by omega)]
 have e : (rowsG G m).getD i [] = (rowG G i).getD [] := by
  unfold rowsG
  simp [List.getD_eq_getElem?_getD, hi]
 rw [e]
 cases h : rowG G i with
 | none => simp
 | some r => have := rowG_ok hg hf (by omega) h; simp [this.2.2]

theorem know_le (G : Ls) : knowG G ≤ 2 := by unfold knowG; split <;> split <;> omega

theorem add_ok {F : Ls} {out : List Int} {k : Nat} (hF : ∀ r ∈ F, r.length = k ∧ plainB r = true) (ho : VOk out) (hl : out.length = F.length) : (addV F out).length = F.length ∧ ∀ r ∈ addV F out, r.length = k + 1 ∧ plainB r = true := by
 refine ⟨by simp [addV], fun r hr => ?_⟩
 obtain ⟨i, hi, rfl⟩ := List.mem_map.1 hr
 have hi := List.mem_range.1 hi
 obtain ⟨h1, h2⟩ := hF _ (getD_mem (d := []) hi)
 have hv := ho _ (getD_mem (d := 0) (show i < out.length by omega))
 refine ⟨by simp only [List.length_append, h1, List.length_cons, List.length_nil], ?_⟩
 unfold plainB at h2 ⊢
 rw [List.all_append, h2]
 simp only [List.all_cons, List.all_nil, Bool.and_true, Bool.true_and, Bool.and_eq_true, decide_eq_true_eq, UInt8.toNat_ofNat']
 omega

theorem full_ok {R : Ls} {f s : List UInt8} {n : Nat} (hR : RwOk R n) (hm : ∀ k, k < n → (misN (valsG R k) (valsG R k).length).length ≤ 2) : ∀ k, k ≤ n → ∀ F, fullTo R f s k = some F → F.length = R.length ∧ ∀ r ∈ F, r.length = k ∧ plainB r = true
 | 0, _, F, h => by
  simp only [fullTo, Option.some.injEq] at h
  subst h
  refine ⟨by simp, fun r hr => ?_⟩
  obtain ⟨_, _, rfl⟩ := List.mem_map.1 hr
  exact ⟨rfl, rfl⟩
 | k + 1, hk, F, h => by
  simp only [fullTo] at h
  split at h
  ·cases h
  ·rename_i F' h'
   obtain ⟨g1, g2⟩ := full_ok hR hm k (by omega) F' h'
   obtain ⟨out, h1, rfl⟩ := Option.map_eq_some_iff.1 h
   obtain ⟨o1, o2⟩ := fillV_ok (vals_ok hR (by omega)) (hm k (by omega)) h1
   have hl : out.length = F'.length := by rw [o2, g1]; simp [valsG]
   obtain ⟨a1, a2⟩ := add_ok g2 o1 hl
   exact ⟨by rw [a1, g1], a2⟩

theorem full_mono {R : Ls} {f s : List UInt8} {k : Nat} (h : fullTo R f s k = none) : ∀ n, k ≤ n → fullTo R f s n = none
  | 0, hn => by obtain rfl : k = 0 := by omega
                exact h
  | n + 1, hn => by
    by_cases e : k = n + 1
    · subst e; exact h
    · simp only [fullTo, full_mono h n (by omega)]

theorem textOf_ok {r t : List UInt8} (h : textOfB r = some t) (hp : plainB r = true) (hl : r.length ≤ 62) : textB t = true := by
 unfold textOfB at h
 split at h
 ·split at h
  ·cases h
   unfold textB
   rw [Bool.and_eq_true, decide_eq_true_eq]
   refine ⟨by simp; omega, plain_sub hp fun x hx => List.mem_of_mem_take (List.mem_of_mem_drop hx)⟩
  ·cases h
 ·cases h

theorem textsG_len : ∀ {F T : Ls}, textsG F = some T → T.length = F.length ∧ ∀ t ∈ T, ∃ r ∈ F, textOfB r = some t
 | [], T, h => by simp [textsG] at h; subst h; simp
 | r :: F, T, h => by
  rw [textsG] at h
  split at h
  ·rename_i t ht
   obtain ⟨T', h1, rfl⟩ := Option.map_eq_some_iff.1 h
   obtain ⟨g1, g2⟩ := textsG_len h1
   refine ⟨by simp [g1], fun x hx => ?_⟩
   rcases List.mem_cons.1 hx with rfl | hx
   ·exact ⟨r, by simp, ht⟩
   ·obtain ⟨q, hq, e⟩ := g2 x hx
    exact ⟨q, by simp [hq], e⟩
  ·cases h
theorem textsG_map {f : List UInt8 → List UInt8} : ∀ {L : Ls}, (∀ t ∈ L, textOfB (f t) = some t) → textsG (L.map f) = some L
 | [], _ => rfl
 | t :: L, h => by
  rw [List.map_cons, textsG, h t (by simp)]
  simp only
  rw [textsG_map fun x hx => h x (by simp [hx])]; rfl

theorem texts_pack {F T : Ls} {k : Nat} (hF : ∀ r ∈ F, r.length = k ∧ plainB r = true) (hk : k ≤ 62) (h0 : 0 < F.length) (h8 : F.length ≤ 8) (h : textsG F = some T) : PackOk T := by
 obtain ⟨g1, g2⟩ := textsG_len h
 refine ⟨by omega, fun t ht => ?_⟩
 obtain ⟨r, hr, e⟩ := g2 t ht
 exact textOf_ok e (hF r hr).2 (by have := (hF r hr).1; omega)

theorem head_in {G : Ls} (h : G ≠ []) : G.headD [] ∈ G := by
 cases G with
 | nil => exact absurd rfl h
 | cons a b => simp

theorem rest_is {ls T : Ls} {M : List Int} (h : restoreB ls = some (T, M)) : PackOk T ∧ Sub ls T ∧ ∃ l ∈ ls, parseOk l = true := by
 unfold restoreB restG at h
 have hg : ∀ l ∈ gd ls, parseOk l = true := fun l hl => (List.mem_filter.1 hl).2
 split at h
 ·cases h
 ·rename_i h0
  have hh := head_in h0
  obtain ⟨_, _, _, m1, m8, _, _, l2, l62, _⟩ := good_ok (hg _ hh)
  split at h
  ·cases h
  ·rename_i hf
   have hf : fitsG (gd ls) = true := by simpa using hf
   split at h
   ·cases h
   ·rename_i hk
    split at h
    ·cases h
    ·rename_i F hF
     have hfo := full_ok (rowsG_ok hg hf m8) (fun k hk' => by rw [mis_len hg hf m8 hk']; have := know_le (gd ls); omega) _ (Nat.le_refl _) F hF
     have hFl : F.length = manyG ((gd ls).headD []) := by rw [hfo.1]; simp [rowsG]
     split at h
     ·cases h
     ·rename_i T' hT
      split at h
      ·rename_i ha
       cases h
       refine ⟨texts_pack hfo.2 l62 (by omega) (by omega) hT, fun l hl hp => ?_, ?_⟩
       ·have := List.all_eq_true.1 ha l (List.mem_filter.2 ⟨hl, hp⟩)
        obtain ⟨c, hc, e⟩ := List.any_eq_true.1 this
        rw [← beq_iff_eq.1 e]; exact hc
       ·exact ⟨_, (List.mem_filter.1 hh).1, (List.mem_filter.1 hh).2⟩
      ·cases h

theorem full_fam {T ls : Ls} (h : PackOk T) (hn : (missL T ls).length ≤ knowN T ls) : ∀ k, k ≤ longB T + 2 → fullTo (rowsP T ls) (sumP T ls false) (sumP T ls true) k = some (fam T.length fun i => (rowB (T.getD i []) (longB T)).take k)
 | 0, _ => by
  simp only [fullTo, rowsP_fam, fam, List.map_map, List.take_zero]
  rfl
 | k + 1, hk => by
  simp only [fullTo]
  rw [full_fam h hn k (by omega)]
  simp only
  rw [fill_true h (by omega) hn, Option.map_some]
  unfold addV
  have hl : (fam T.length fun i => (rowB (T.getD i []) (longB T)).take k).length = T.length := by simp [fam]
  rw [hl]
  refine congrArg some (List.map_congr_left fun i hi => ?_)
  have hi := List.mem_range.1 hi
  rw [fam_at hi, tv_at hi, Int.add_comm]
  exact val_byte h hi (by omega)

theorem rest_sub {T ls : Ls} (h : PackOk T) (hs : Sub ls T) (hg : ∃ l ∈ ls, parseOk l = true) : restoreB ls = if knowN T ls < (missL T ls).length then none else some (T, missL T ls) := by
 obtain ⟨l, hl, hp⟩ := hg
 have h0 : gd ls ≠ [] := fun e => by
  have : l ∈ gd ls := List.mem_filter.2 ⟨hl, hp⟩
  rw [e] at this; simp at this
 have hgd : ∀ l ∈ gd ls, manyG l = T.length ∧ rowLenB l = longB T + 2 := fun l hl => by
  obtain ⟨h1, h2⟩ := List.mem_filter.1 hl
  obtain ⟨_, c1, c2⟩ := cards_parse h (hs l h1 h2)
  obtain ⟨_, _, e1, _, _, e2, e3, _⟩ := good_ok h2
  rw [e1, e2] at c1
  rw [e1, ← e3] at c2
  exact ⟨by omega, c2⟩
 obtain ⟨hm, hr⟩ := hgd _ (head_in h0)
 have hf : fitsG (gd ls) = true := List.all_eq_true.2 fun l hl => by
  obtain ⟨a, b⟩ := hgd l hl
  rw [a, b, hm, hr]; simp
 unfold restoreB restG
 have ea := sumG_P h hs false
 have eb := sumG_P h hs true
 simp only [Bool.false_eq_true, if_false, if_true] at ea eb
 rw [if_neg h0, hf, if_neg (by simp), hm, hr, knowG_N h hs, misG_L h hs, rowsG_P h hs, ea, eb]
 by_cases hk : knowN T ls < (missL T ls).length
 ·rw [if_pos hk, if_pos hk]
 ·rw [if_neg hk, if_neg hk, full_fam h (by omega) _ (Nat.le_refl _)]
  have e : (fam T.length fun i => (rowB (T.getD i []) (longB T)).take (longB T + 2)) = T.map fun t => rowB t (longB T) := by
   have := rowsB_fam T
   unfold rowsB at this
   rw [this]
   refine fam_congr fun i hi => List.take_of_length_le (by rw [(row_at_ok h hi).1]; omega)
  rw [e]
  simp only
  rw [textsG_map fun t ht => (textOf_row h ht).1]
  simp only
  rw [if_pos]
  rw [List.all_eq_true]
  intro l hl
  obtain ⟨h1, h2⟩ := List.mem_filter.1 hl
  exact List.any_eq_true.2 ⟨l, hs l h1 h2, by simp⟩

theorem rest_eq (ls : Ls) : restoreB ls = unpackB ls := by
 cases hr : restoreB ls with
 | some x =>
  obtain ⟨T, M⟩ := x
  obtain ⟨h1, h2, h3⟩ := rest_is hr
  rw [unpack_sub h1 h2 h3, ← rest_sub h1 h2 h3, hr]
 | none =>
  cases hu : unpackB ls with
  | none => rfl
  | some x =>
   obtain ⟨T, M⟩ := x
   obtain ⟨h1, h2, h3, _⟩ := unpack_is hu
   rw [← hu, unpack_sub h1 h2 h3, ← rest_sub h1 h2 h3, hr]

set_option maxHeartbeats 8000000
set_option maxRecDepth 20000


def noR : C := .tup [.sl true true [], .sl true true [], .bool false]
def encRs : Option (Ls × List Int) → C
 | none => noR
 | some (T, M) => .tup [.sl T.isEmpty false (T.map cS), .sl M.isEmpty false (M.map cI), .bool true]

theorem gd_succ (ls : Ls) {i : Nat} (hi : i < ls.length) : gd (ls.take (i + 1)) = if parseOk ls[i] = true then gd (ls.take i) ++ [ls[i]] else gd (ls.take i) := by
 unfold gd
 rw [List.take_succ_eq_append_getElem hi, List.filter_append]
 by_cases h : parseOk ls[i] = true
 ·rw [if_pos h]; simp [List.filter_cons, h]
 ·rw [if_neg h]; simp [List.filter_cons, h]

theorem rowsG_succ (G : Ls) (i : Nat) : rowsG G (i + 1) = rowsG G i ++ [(rowG G i).getD []] := by
 unfold rowsG
 rw [List.range_succ, List.map_append]; rfl
theorem misG_succ (G : Ls) (i : Nat) : misG G (i + 1) = if (rowG G i).isSome = true then misG G i else misG G i ++ [(i : Int)] := by
 unfold misG
 rw [List.range_succ, List.filter_append, List.map_append]
 cases h : rowG G i with
 | none => simp [List.filter_cons, h]
 | some r => simp [List.filter_cons, h]
theorem valsG_succ (R : Ls) (k : Nat) {i : Nat} (hi : i < R.length) : valsG (R.take (i + 1)) k = valsG (R.take i) k ++ [if R[i] = [] then -1 else valB (R[i].getD k 0)] := by
 unfold valsG
 rw [List.take_succ_eq_append_getElem hi, List.map_append]; rfl

def addTo14 (F : Ls) (out : List Int) (i : Nat) : Ls := (List.range F.length).map fun j => if j < i then F.getD j [] ++ [UInt8.ofNat (32 + out.getD j 0).toNat] else F.getD j []
theorem addTo14_len (F : Ls) (out : List Int) (i : Nat) : (addTo14 F out i).length = F.length := by simp [addTo14]
theorem addTo14_zero (F : Ls) (out : List Int) : addTo14 F out 0 = F := by
 unfold addTo14
 refine List.ext_getElem (by simp) fun j h1 h2 => ?_
 simp [List.getD_eq_getElem?_getD, List.getElem?_eq_getElem h2]
theorem addTo14_full (F : Ls) (out : List Int) : addTo14 F out F.length = addV F out := by
 unfold addTo14 addV
 exact List.map_congr_left fun j hj => by rw [if_pos (List.mem_range.1 hj)]
theorem addTo14_succ (F : Ls) (out : List Int) {i : Nat} (hi : i < F.length) : addTo14 F out (i + 1) = (addTo14 F out i).set i (F[i] ++ [UInt8.ofNat (32 + out.getD i 0).toNat]) := by
 unfold addTo14
 refine List.ext_getElem (by simp) fun j h1 h2 => ?_
 have hj : j < F.length := by simpa using h1
 simp only [List.getElem_map, List.getElem_range, List.getElem_set]
 by_cases e : i = j
 ·subst e
  rw [if_pos (by omega), if_pos rfl]
  simp [List.getD_eq_getElem?_getD, List.getElem?_eq_getElem hi]
 ·rw [if_neg e]
  by_cases h : j < i
  ·rw [if_pos (by omega), if_pos h]
  ·rw [if_neg (by omega), if_neg h]
theorem addTo14_at (F : Ls) (out : List Int) {i : Nat} (hi : i < F.length) (h : i < (addTo14 F out i).length) : (addTo14 F out i)[i] = F[i] := by
 unfold addTo14
 simp [List.getD_eq_getElem?_getD, List.getElem?_eq_getElem hi]

theorem textsG_app {A B T : Ls} (h : textsG A = some T) : textsG (A ++ B) = (textsG B).map (T ++ ·) := by
 induction A generalizing T with
 | nil => simp [textsG] at h; subst h; simp
 | cons a A ih =>
  rw [textsG] at h
  split at h
  ·rename_i t ht
   obtain ⟨T', h1, rfl⟩ := Option.map_eq_some_iff.1 h
   rw [List.cons_append, textsG, ht]
   simp only
   rw [ih h1, Option.map_map]
   rfl
  ·cases h
theorem textsG_none {F : Ls} {i : Nat} (hi : i < F.length) {T : Ls} (h : textsG (F.take i) = some T) (hn : textOfB F[i] = none) : textsG F = none := by
 have e : F = F.take i ++ (F[i] :: F.drop (i + 1)) := by
  rw [← List.drop_eq_getElem_cons hi, List.take_append_drop]
 rw [e, textsG_app h, textsG, hn]; rfl
theorem textsG_step {F : Ls} {i : Nat} (hi : i < F.length) {T : Ls} (h : textsG (F.take i) = some T) {t : List UInt8} (hn : textOfB F[i] = some t) : textsG (F.take (i + 1)) = some (T ++ [t]) := by
 rw [List.take_succ_eq_append_getElem hi, textsG_app h, textsG, hn]; rfl

theorem encFill_some {nl fu : Bool} {vs out : List Int} {f s : List UInt8} {k : Nat} (h : fillV vs f s k = some out) : ∃ a b, encFill nl fu vs f s k = .tup [.sl a b (out.map cI), .bool true] := by
 unfold fillV at h
 unfold encFill
 split at h
 ·rename_i h0
  rw [if_pos h0]
  split at h
  ·rename_i ha
   cases h
   rw [ha]; exact ⟨_, _, rfl⟩
  ·cases h
 ·rename_i h0
  rw [if_neg h0]
  obtain ⟨n, h1, rfl⟩ := Option.map_eq_some_iff.1 h
  rw [h1]; exact ⟨_, _, rfl⟩
theorem encFill_none {nl fu : Bool} {vs : List Int} {f s : List UInt8} {k : Nat} (h : fillV vs f s k = none) : ∃ (a b : Bool) (o : List Int), encFill nl fu vs f s k = .tup [.sl a b (o.map cI), .bool false] := by
 unfold fillV at h
 unfold encFill
 split at h
 ·rename_i h0
  rw [if_pos h0]
  split at h
  ·cases h
  ·rename_i ha
   rw [Bool.eq_false_iff.2 ha]
   exact ⟨nl, fu, vs, rfl⟩
 ·rename_i h0
  rw [if_neg h0, Option.map_eq_none_iff.1 h]
  exact ⟨true, true, [], rfl⟩

structure RsX where
 k : Nat
 F : Ls
structure RtX where
 i : Nat
 T : Ls

theorem many_at {l : List UInt8} (h : parseOk l = true) : ∃ b : UInt8, (S l)[1]? = some b ∧ IntKind.u8.wrap ((b.toNat : Int) - 48) = (manyG l : Int) ∧ IntKind.i64.wrap (manyG l : Int) = (manyG l : Int) := by
 obtain ⟨h6, _, _, m1, m8, _⟩ := good_ok h
 have h1 : 1 < l.length := by omega
 refine ⟨l[1], S_at h1, ?_, wrap_id (by omega) (by omega)⟩
 have e : manyG l = l[1].toNat - 48 := by
  unfold manyG
  simp [List.getD_eq_getElem?_getD, List.getElem?_eq_getElem h1]
 rw [e] at m1 m8 ⊢
 rw [wrap_u8 (by omega) (by omega)]; omega


theorem q_restore49 (nl fu : Bool) (ls : Ls) (hn : ls.length ≤ 100000) (hl : ∀ l ∈ ls, l.length ≤ 100000) : Pure Tryz.prog 49 [sT nl fu ls] (encRs (restoreB ls)) := by
 have hG0 : gd (ls.take 0) = [] := by rw [List.take_zero]; rfl
 have hGs := fun i (hi : i < ls.length) => gd_succ ls hi
 have hGl : ∀ i, (gd (ls.take i)).length ≤ i := fun i => by
  unfold gd
  exact Nat.le_trans (List.length_filter_le _ _) (by simp; omega)
 have hGe : gd (ls.take ls.length) = gd ls := by rw [List.take_length]
 have hgo : ∀ l ∈ gd ls, parseOk l = true := fun l hl => (List.mem_filter.1 hl).2
 have hGn : (gd ls).length ≤ 100000 := by rw [← hGe]; have := hGl ls.length; omega
 unfold restoreB
 generalize gd ls = G at *
 generalize hGi : (fun i => gd (ls.take i)) = Gi at *
 have hGf : ∀ i, gd (ls.take i) = Gi i := fun i => by rw [← hGi]
 simp only [hGf] at *
 clear hGi hGf
 refine ZF (fn := Tryz.f49) [.tmp 2, .tmp 3, .tmp 4] ⟨Tryz.func49, rfl, by kernel_rfl⟩ fun x hx hσ => ?_
 (repeat refine ZQ ?_); refine ZR fun K hK => ?_; simp (maxSteps := 1000000) [ty22, ty33, ty4]; refine hK _ ?_; clear hK K
 (repeat refine ZQ ?_); refine ZR fun K hK => ?_; simp (maxSteps := 1000000) [ty22]; refine hK _ ?_; clear hK K
 (repeat refine ZQ ?_); refine ZR fun K hK => ?_; simp (maxSteps := 1000000) [ty3]; refine hK _ ?_; clear hK K
 (repeat refine ZQ ?_); refine awp_block ?_
 refine AWP.weak ?_ (wk_nil 5 5 1 (fu := true) (by simp) (by simp))
 refine awp_loop (fun i : Nat => ⟨ofL [(0, sT nl fu ls), (2, .sl true true []), (3, .sl true true []), (4, .bool false), (5, .own 5 1 0 (Gi i).length), (6, encI i)], stoT [(5, 5, .live ⟨(Gi i).isEmpty, false, 1, (Gi i).map cS⟩)]⟩)
  (fun i => i ≤ ls.length) (fun i => ls.length - i) 0 (Nat.zero_le _) ?_ ?_
 ·refine wk_shape (shp0 hσ (by simp) (by simp) ?_) ?_
  ·simp [SlotOk, hG0] <;> (repeat' (first | (refine RowsOk.same ?_; simp [purel, C.isPure]; done) | (refine rowsCons ?_; simp [mtl, mtc, mT, mH, C.isPure, purel]; done) | (refine rowsCons ?_; simp [mtl, mtc, mT, mH, C.isPure, purel]) | refine And.intro ?_ ?_))
  ·simp [mtc, mtl, mT, C.isPure, purel, hG0] <;> (try simp (disch := omega) [wrap_id]) <;> (try omega)
 ·intro i hi
  have w1 : IntKind.i64.wrap ((i : Int) + 1) = ((i + 1 : Nat) : Int) := by rw [wrap_id (by omega) (by omega)]; rfl
  (repeat refine ZQ ?_); refine ZR fun K hK => ?_; simp (maxSteps := 1000000) [ty22, ty3]; refine hK _ ?_; clear hK K; (first | show AWP _ _ _ _ _ | show ∃ _, _ | skip)
  by_cases hlt : i < ls.length
  ·have hlt' : (i : Int) < ls.length := by omega
   (repeat refine ZQ ?_); refine ZC (hc := by simp [hlt]; rfl) (fun hd => ?_) (fun hd => ?_)
   ·clear hd
    have c22 := q_isGood22 ls[i] (hl _ (List.getElem_mem hlt))
    have u1 := hGs i hlt
    have hil := hGl i
    obtain ⟨l, hgl⟩ : ∃ l, ls[i] = l := ⟨_, rfl⟩
    rw [hgl] at u1 c22
    refine awp_skip ?_
    (repeat refine ZQ ?_); refine awp_block ?_
    cases hp : parseOk l
    ·rw [hp] at u1 c22
     rw [if_neg (by simp)] at u1
     (repeat refine ZQ ?_); refine ZR fun K hK => ?_; simp (maxSteps := 1000000) [ty22, ty9, hlt, hgl]
     refine ZP (c22) ?_; simp (maxSteps := 1000000) [ty4]
     refine hK _ ?_; clear hK K
     (repeat refine ZQ ?_); refine ZC (fun hd => ?_) (fun hd => ?_)
     ·simp at hd
     ·clear hd
      refine awp_skip ?_
      (repeat refine ZQ ?_); refine ZR fun K hK => ?_; simp (maxSteps := 1000000) [ty3, w1]; refine hK _ ?_; clear hK K; (first | show AWP _ _ _ _ _ | show ∃ _, _ | skip)
      refine ⟨i + 1, by omega, by omega, ?_⟩
      rw [u1]
      exact ZW
    ·rw [hp] at u1 c22
     rw [if_pos rfl] at u1
     (repeat refine ZQ ?_); refine ZR fun K hK => ?_; simp (maxSteps := 1000000) [ty22, ty9, hlt, hgl]
     refine ZP (c22) ?_; simp (maxSteps := 1000000) [ty4]
     refine hK _ ?_; clear hK K
     (repeat refine ZQ ?_); refine ZC (fun hd => ?_) (fun hd => ?_)
     ·clear hd
      (repeat refine ZQ ?_); refine ZR fun K hK => ?_; simp (maxSteps := 1000000) [ty22, ty9, hlt, hgl]
      refine ⟨by omega, ?_⟩
      refine hK _ ?_; clear hK K
      (repeat refine ZQ ?_); refine ZR fun K hK => ?_; simp (maxSteps := 1000000) [ty3, w1]; refine hK _ ?_; clear hK K; (first | show AWP _ _ _ _ _ | show ∃ _, _ | skip)
      refine ⟨i + 1, by omega, by omega, ?_⟩
      rw [u1]
      refine wk_shape2 [(5, 48, .live ⟨(Gi i ++ [l]).isEmpty, false, 1, (Gi i ++ [l]).map cS⟩)] (by first | rfl | (simp only [if_pos, if_true]; rfl)) (shp0 hσ (by simp) (by simp) ?_) ?_
      ·simp [SlotOk] <;> (repeat' (first | (refine RowsOk.same ?_; simp [purel, C.isPure]; done) | (refine rowsCons ?_; simp [mtl, mtc, mT, mH, C.isPure, purel]; done) | (refine rowsCons ?_; simp [mtl, mtc, mT, mH, C.isPure, purel]) | refine And.intro ?_ ?_))
      ·simp [mtc, mtl, mT, C.isPure, purel] <;> (try simp (disch := omega) [wrap_id]) <;> (try omega)
     ·simp at hd
   ·simp [hlt] at hd
  ·have hin : i = ls.length := by omega
   subst hin
   (repeat refine ZQ ?_); refine ZC (fun hd => ?_) (fun hd => ?_)
   ·simp at hd
   ·clear hd
    (repeat refine ZQ ?_); refine awp_exit ?_; (first | show AWP _ _ _ _ _ | show ∃ _, _ | skip)
    rw [hGe]
    clear hGe hGl hGs hG0
    refine AWP.weak ?_ (wk_frz 5 5 (c := sT G.isEmpty false G) (o := ⟨G.isEmpty, false, 1, G.map cS⟩) (by simp) (all_purel_map fun _ => rfl) (fz_own rfl (by simp) (by simp)))
    by_cases hG : G = []
    ·have hRn : encRs (restG G) = noR := by unfold restG; rw [if_pos hG]; rfl
     (repeat refine ZQ ?_); refine ZR fun K hK => ?_; simp (maxSteps := 1000000) [ty22, ty3, hG]; refine hK _ ?_; clear hK K
     (repeat refine ZQ ?_); refine ZC (fun hd => ?_) (fun hd => ?_)
     ·clear hd
      (repeat refine ZQ ?_); refine ZR fun K hK => ?_; simp (maxSteps := 1000000) [ty22, ty33, ty4]; refine hK _ ?_; clear hK K; (first | show AWP _ _ _ _ _ | show ∃ _, _ | skip)
      rw [hRn]
      unfold noR
      (repeat refine ZQ ?_); refine awp_ret ?_; refine And.intro (Or.inr rfl) ?_
      simp [retC, resC, viewC, mapO]
     ·simp at hd
    ·have hG0 : 0 < G.length := List.length_pos_iff.2 hG
     have hGz : ((G.length : Int) == 0) = false := by rw [beq_eq_false_iff_ne]; omega
     (repeat refine ZQ ?_); refine ZR fun K hK => ?_; simp (maxSteps := 1000000) [ty22, ty3, hGz]; refine hK _ ?_; clear hK K
     (repeat refine ZQ ?_); refine ZC (fun hd => ?_) (fun hd => ?_)
     ·simp at hd
     ·clear hd
      refine awp_skip ?_; (first | show AWP _ _ _ _ _ | show ∃ _, _ | skip)
      have hgl0 := hgo _ (head_in hG)
      have hg0 : G[0] = G.headD [] := by cases G with | nil => exact absurd rfl hG | cons a b => rfl
      obtain ⟨b1, q1, q2, q3⟩ := many_at hgl0
      obtain ⟨k6, k129, _, m1, m8, _, _, n2, n62, _⟩ := good_ok hgl0
      have c80 := q_rowLen80 (G.headD []) (by omega) (by omega)
      obtain ⟨g0, hg0e⟩ : ∃ g, G.headD [] = g := ⟨_, rfl⟩
      obtain ⟨m, hme⟩ : ∃ m, manyG (G.headD []) = m := ⟨_, rfl⟩
      obtain ⟨n, hne⟩ : ∃ n, rowLenB (G.headD []) = n := ⟨_, rfl⟩
      rw [hme] at m1 m8 q2 q3
      rw [hne] at n2 n62 c80
      rw [hg0e] at c80 q1 hg0
      (repeat refine ZQ ?_); refine ZD [] [0, 1, 2, 3, 4, 5, 6, 7, 8, 9, 10, 11] fun K hK => ?_; simp (maxSteps := 1000000) [ty22, ty9, ty3, ty5, hG0, hg0, q1, q2, q3]
      refine ZE (c80) ?_; simp (maxSteps := 1000000) [ty22, ty9, ty3, ty5, hG0, hg0, q1, q2, q3]
      refine hK _ ?_; clear hK K
      (repeat refine ZQ ?_); refine ZR fun K hK => ?_; simp (maxSteps := 1000000) [ty3]; refine hK _ ?_; clear hK K
      (repeat refine ZQ ?_); refine awp_block ?_
      refine awp_loop (fun i : Nat => ⟨ofL [(2, .sl true true []), (3, .sl true true []), (4, .bool false), (5, sT G.isEmpty false G), (7, encI m), (8, encI n), (9, encI i)], stoT []⟩)
       (fun i => i ≤ G.length ∧ ∀ j (h : j < G.length), j < i → manyG G[j] = m ∧ rowLenB G[j] = n) (fun i => G.length - i) 0 ⟨Nat.zero_le _, fun j _ hj => absurd hj (by omega)⟩ ?_ ?_
      ·exact ZW
      ·intro i ⟨hi, hfi⟩
       have w1 : IntKind.i64.wrap ((i : Int) + 1) = ((i + 1 : Nat) : Int) := by rw [wrap_id (by omega) (by omega)]; rfl
       (repeat refine ZQ ?_); refine ZR fun K hK => ?_; simp (maxSteps := 1000000) [ty22, ty3]; refine hK _ ?_; clear hK K; (first | show AWP _ _ _ _ _ | show ∃ _, _ | skip)
       by_cases hlt : i < G.length
       ·have hlt' : (i : Int) < G.length := by omega
        (repeat refine ZQ ?_); refine ZC (hc := by simp [hlt]; rfl) (fun hd => ?_) (fun hd => ?_)
        ·clear hd
         have hpl := hgo _ (List.getElem_mem hlt)
         obtain ⟨b2, q4, q5, q6⟩ := many_at hpl
         obtain ⟨j6, j129, _⟩ := good_ok hpl
         have c80 := q_rowLen80 G[i] (by omega) (by omega)
         have hbad : ¬ (manyG G[i] = m ∧ rowLenB G[i] = n) → encRs (restG G) = noR := fun hb => by
          have hf : fitsG G = false := by
           cases hf : fitsG G with
           | false => rfl
           | true =>
            have := fits_at hf (List.getElem_mem hlt)
            rw [hme, hne] at this
            exact absurd this hb
          unfold restG
          rw [if_neg hG, if_pos hf]; rfl
         have hgood : manyG G[i] = m ∧ rowLenB G[i] = n → ∀ j (h : j < G.length), j < i + 1 → manyG G[j] = m ∧ rowLenB G[j] = n := fun hb j h hj => by
          by_cases e : j = i
          ·subst e; exact hb
          ·exact hfi j h (by omega)
         obtain ⟨l, hgl⟩ : ∃ l, G[i] = l := ⟨_, rfl⟩
         rw [hgl] at c80 q4 q5 q6 hbad hgood
         generalize manyG l = ml at *
         generalize rowLenB l = nl2 at *
         refine awp_skip ?_
         (repeat refine ZQ ?_); refine awp_block ?_
         by_cases h1 : ml = m
         ·have h1b : ((ml : Int) != (m : Int)) = false := by rw [h1]; simp
          by_cases h2 : nl2 = n
          ·have h2b : ((nl2 : Int) != (n : Int)) = false := by rw [h2]; simp
           (repeat refine ZQ ?_); refine ZR fun K hK => ?_; simp (maxSteps := 1000000) [ty22, ty9, ty3, ty5, ty4, hlt, hgl, q4, q5, q6, h1b]
           refine ZP (c80) ?_; simp (maxSteps := 1000000) [ty3, ty4, h2b]
           refine hK _ ?_; clear hK K
           (repeat refine ZQ ?_); refine ZC (fun hd => ?_) (fun hd => ?_)
           ·simp at hd
           ·clear hd
            refine awp_skip ?_
            (repeat refine ZQ ?_); refine ZR fun K hK => ?_; simp (maxSteps := 1000000) [ty3, w1]; refine hK _ ?_; clear hK K; (first | show AWP _ _ _ _ _ | show ∃ _, _ | skip)
            refine ⟨i + 1, ⟨by omega, hgood ⟨h1, h2⟩⟩, by omega, ?_⟩
            exact ZW
          ·have h2b : ((nl2 : Int) != (n : Int)) = true := by rw [bne_iff_ne]; omega
           have hRn := hbad (fun h => h2 h.2)
           (repeat refine ZQ ?_); refine ZR fun K hK => ?_; simp (maxSteps := 1000000) [ty22, ty9, ty3, ty5, ty4, hlt, hgl, q4, q5, q6, h1b]
           refine ZP (c80) ?_; simp (maxSteps := 1000000) [ty3, ty4, h2b]
           refine hK _ ?_; clear hK K
           (repeat refine ZQ ?_); refine ZC (fun hd => ?_) (fun hd => ?_)
           ·clear hd
            (repeat refine ZQ ?_); refine ZR fun K hK => ?_; simp (maxSteps := 1000000) [ty22, ty33, ty4]; refine hK _ ?_; clear hK K; (first | show AWP _ _ _ _ _ | show ∃ _, _ | skip)
            rw [hRn]
            unfold noR
            (repeat refine ZQ ?_); refine awp_ret ?_; refine And.intro (Or.inr rfl) ?_
            simp [retC, resC, viewC, mapO]
           ·simp at hd
         ·have h1b : ((ml : Int) != (m : Int)) = true := by rw [bne_iff_ne]; omega
          have hRn := hbad (fun h => h1 h.1)
          (repeat refine ZQ ?_); refine ZR fun K hK => ?_; simp (maxSteps := 1000000) [ty22, ty9, ty3, ty5, ty4, hlt, hgl, q4, q5, q6, h1b]; refine hK _ ?_; clear hK K
          (repeat refine ZQ ?_); refine ZC (fun hd => ?_) (fun hd => ?_)
          ·clear hd
           (repeat refine ZQ ?_); refine ZR fun K hK => ?_; simp (maxSteps := 1000000) [ty22, ty33, ty4]; refine hK _ ?_; clear hK K; (first | show AWP _ _ _ _ _ | show ∃ _, _ | skip)
           rw [hRn]
           unfold noR
           (repeat refine ZQ ?_); refine awp_ret ?_; refine And.intro (Or.inr rfl) ?_
           simp [retC, resC, viewC, mapO]
          ·simp at hd
        ·simp [hlt] at hd
       ·have hin : i = G.length := by omega
        subst hin
        (repeat refine ZQ ?_); refine ZC (fun hd => ?_) (fun hd => ?_)
        ·simp at hd
        ·clear hd
         (repeat refine ZQ ?_); refine awp_exit ?_; (first | show AWP _ _ _ _ _ | show ∃ _, _ | skip)
         have hf : fitsG G = true := List.all_eq_true.2 fun l hl => by
          obtain ⟨j, hj, rfl⟩ := List.getElem_of_mem hl
          obtain ⟨e1, e2⟩ := hfi j hj hj
          rw [e1, e2, hme, hne]; simp
         have hR : restG G = if knowG G < (misG G m).length then none else match fullTo (rowsG G m) ((findB G 97).getD []) ((findB G 98).getD []) n with
           | none => none
           | some F => match textsG F with
            | none => none
            | some T => if (G.all fun l => (cardsB T).any fun c => c == l) = true then some (T, misG G m) else none := by
          unfold restG
          (rw [if_neg hG, hf, if_neg (by simp), hme, hne]) <;> rfl
         have hgl4 : ∀ l ∈ G, 4 ≤ l.length ∧ l.length ≤ 100000 := fun l hl => by have := good_ok (hgo l hl); omega
         have ca := q_find81 G.isEmpty false G 97 hGn hgl4
         have cb := q_find81 G.isEmpty false G 98 hGn hgl4
         have hRw := rowsG_ok hgo hf m8
         rw [hne] at hRw
         have hmis := fun k (hk : k < n) => mis_len hgo hf (k := k) m8 (by rw [hne]; exact hk)
         have hsa := sumG_ok hgo hf (b := 97) (.inl rfl)
         have hsb := sumG_ok hgo hf (b := 98) (.inr rfl)
         rw [hne] at hsa hsb
         have hfok : ∀ k, k < n → SwOk ((findB G 97).getD []) k := fun k hk => by
          rcases hsa with ⟨h, _⟩ | ⟨r, h, h1, h2, h3⟩
          ·exact .inl h
          ·rw [h]; exact .inr ⟨h2, by simp only [Option.getD_some]; omega, by simp only [Option.getD_some]; omega⟩
         have hsok : ∀ k, k < n → SwOk ((findB G 98).getD []) k := fun k hk => by
          rcases hsb with ⟨h, _⟩ | ⟨r, h, h1, h2, h3⟩
          ·exact .inl h
          ·rw [h]; exact .inr ⟨h2, by simp only [Option.getD_some]; omega, by simp only [Option.getD_some]; omega⟩
         have hf2 : knowG G = 2 → (findB G 97).getD [] ≠ [] := fun h2 => by
          rcases hsa with ⟨_, h⟩ | ⟨r, h, h1, _⟩
          ·unfold knowG at h2
           rw [h] at h2
           simp at h2
           split at h2 <;> omega
          ·rw [h]; exact h1
         have hkle := know_le G
         have hkn : knowG G = (if (findB G 97).isSome = true then 1 else 0) + if (findB G 98).isSome = true then 1 else 0 := rfl
         have hRs := fun i => rowsG_succ G i
         have hMs := fun i => misG_succ G i
         have hRl : ∀ i, (rowsG G i).length = i := fun i => by simp [rowsG]
         have hMl : ∀ i, (misG G i).length ≤ i := fun i => by
          unfold misG
          rw [List.length_map]
          exact Nat.le_trans (List.length_filter_le _ _) (by simp)
         have hR0 : rowsG G 0 = [] := rfl
         have hM0 : misG G 0 = [] := rfl
         have crow := fun i (hi : i < 8) => q_find81 G.isEmpty false G (UInt8.ofNat (49 + i)) hGn hgl4
         have hrow : ∀ i, findB G (UInt8.ofNat (49 + i)) = rowG G i := fun _ => rfl
         have hrl : ∀ i, i < m → ((rowG G i).getD []).length ≤ 1000 := fun i hi => by
          cases h : rowG G i with
          | none => simp
          | some r => have := rowG_ok hgo hf (by omega) h; simp; omega
         simp only [hrow] at crow
         generalize rowsG G = Ri at *
         generalize misG G = Mi at *
         generalize rowG G = ro at *
         generalize knowG G = kn at *
         generalize (findB G 97).getD [] = f at *
         generalize (findB G 98).getD [] = s at *
         generalize (findB G 97).isSome = ka at *
         generalize (findB G 98).isSome = kb at *
         (repeat refine ZQ ?_); refine ZR fun K hK => ?_; simp (maxSteps := 1000000) [ty3]; refine hK _ ?_; clear hK K
         (repeat refine ZQ ?_); refine ZR fun K hK => ?_; simp (maxSteps := 1000000) [ty22]
         refine ZP (ca) ?_; simp (maxSteps := 1000000) [ty9, ty4]
         refine hK _ ?_; clear hK K
         (repeat refine ZQ ?_); refine ZR fun K hK => ?_; simp (maxSteps := 1000000) [ty22]
         refine ZP (cb) ?_; simp (maxSteps := 1000000) [ty9, ty4]
         refine hK _ ?_; clear hK K
         refine awp_mid ⟨ofL [(2, .sl true true []), (3, .sl true true []), (4, .bool false), (5, sT G.isEmpty false G), (7, encI m), (8, encI n), (10, encI ((if ka = true then 1 else 0 : Nat) : Int)), (11, encS f), (13, encS s), (14, .bool kb)], stoT []⟩ ?_ ?_
         ·cases ka
          ·(repeat refine ZQ ?_); refine ZR fun K hK => ?_; simp (maxSteps := 1000000) [ty4]; refine hK _ ?_; clear hK K
           (repeat refine ZQ ?_); refine ZC (fun hd => ?_) (fun hd => ?_)
           ·simp at hd
           ·clear hd
            refine awp_skip ?_; (first | show AWP _ _ _ _ _ | show ∃ _, _ | skip)
            exact ZW
          ·(repeat refine ZQ ?_); refine ZR fun K hK => ?_; simp (maxSteps := 1000000) [ty4]; refine hK _ ?_; clear hK K
           (repeat refine ZQ ?_); refine ZC (fun hd => ?_) (fun hd => ?_)
           ·clear hd
            (repeat refine ZQ ?_); refine ZR fun K hK => ?_; simp (maxSteps := 1000000) [ty3]; refine hK _ ?_; clear hK K; (first | show AWP _ _ _ _ _ | show ∃ _, _ | skip)
            exact ZW
           ·simp at hd
         ·refine awp_mid ⟨ofL [(2, .sl true true []), (3, .sl true true []), (4, .bool false), (5, sT G.isEmpty false G), (7, encI m), (8, encI n), (10, encI kn), (11, encS f), (13, encS s)], stoT []⟩ ?_ ?_
          ·rw [hkn]
           cases kb
           ·(repeat refine ZQ ?_); refine ZR fun K hK => ?_; simp (maxSteps := 1000000) [ty4]; refine hK _ ?_; clear hK K
            (repeat refine ZQ ?_); refine ZC (fun hd => ?_) (fun hd => ?_)
            ·simp at hd
            ·clear hd
             refine awp_skip ?_; (first | show AWP _ _ _ _ _ | show ∃ _, _ | skip)
             exact ZW
           ·(repeat refine ZQ ?_); refine ZR fun K hK => ?_; simp (maxSteps := 1000000) [ty4]; refine hK _ ?_; clear hK K
            (repeat refine ZQ ?_); refine ZC (fun hd => ?_) (fun hd => ?_)
            ·clear hd
             cases ka
             ·(repeat refine ZQ ?_); refine ZR fun K hK => ?_; simp (maxSteps := 1000000) [ty3]; refine hK _ ?_; clear hK K; (first | show AWP _ _ _ _ _ | show ∃ _, _ | skip)
              exact ZW
             ·(repeat refine ZQ ?_); refine ZR fun K hK => ?_; simp (maxSteps := 1000000) [ty3]; refine hK _ ?_; clear hK K; (first | show AWP _ _ _ _ _ | show ∃ _, _ | skip)
              exact ZW
            ·simp at hd
          ·clear hkn ca cb c80
           (repeat refine ZQ ?_); refine ZR fun K hK => ?_; simp (maxSteps := 1000000) [ty22]; refine hK _ ?_; clear hK K
           (repeat refine ZQ ?_); refine ZR fun K hK => ?_; simp (maxSteps := 1000000) [ty3]; refine hK _ ?_; clear hK K
           (repeat refine ZQ ?_); refine awp_block ?_
           refine AWP.weak ?_ (wk_nil 15 15 1 (fu := true) (by simp) (by simp))
           refine AWP.weak ?_ (wk_nil 3 3 1 (fu := true) (by simp) (by simp))
           refine awp_loop (fun i : Nat => ⟨ofL [(2, .sl true true []), (3, .own 3 1 0 (Mi i).length), (4, .bool false), (5, sT G.isEmpty false G), (7, encI m), (8, encI n), (10, encI kn), (11, encS f), (13, encS s), (15, .own 15 1 0 (Ri i).length), (16, encI i)],
            stoT [(3, 3, .live ⟨(Mi i).isEmpty, false, 1, (Mi i).map cI⟩), (15, 15, .live ⟨(Ri i).isEmpty, false, 1, (Ri i).map cS⟩)]⟩)
            (fun i => i ≤ m) (fun i => m - i) 0 (Nat.zero_le _) ?_ ?_
           ·refine wk_shape (shp0 hσ (by simp) (by simp) ?_) ?_
            ·simp [SlotOk, hR0, hM0] <;> (repeat' (first | (refine RowsOk.same ?_; simp [purel, C.isPure]; done) | (refine rowsCons ?_; simp [mtl, mtc, mT, mH, C.isPure, purel]; done) | (refine rowsCons ?_; simp [mtl, mtc, mT, mH, C.isPure, purel]) | refine And.intro ?_ ?_))
            ·simp [mtc, mtl, mT, C.isPure, purel, hR0, hM0] <;> (try simp (disch := omega) [wrap_id]) <;> (try omega)
           ·intro i hi
            have w1 : IntKind.i64.wrap ((i : Int) + 1) = ((i + 1 : Nat) : Int) := by rw [wrap_id (by omega) (by omega)]; rfl
            (repeat refine ZQ ?_); refine ZR fun K hK => ?_; simp (maxSteps := 1000000) [ty3]; refine hK _ ?_; clear hK K; (first | show AWP _ _ _ _ _ | show ∃ _, _ | skip)
            by_cases hlt : i < m
            ·have hlt' : (i : Int) < m := by omega
             (repeat refine ZQ ?_); refine ZC (hc := by simp [hlt]; rfl) (fun hd => ?_) (fun hd => ?_)
             ·clear hd
              have c81 := crow i (by omega)
              have hto : (UInt8.ofNat (49 + i)).toNat = 49 + i := by simp only [UInt8.toNat_ofNat']; omega
              rw [hto] at c81
              obtain ⟨j, hj⟩ : ∃ j, 49 + i = j := ⟨_, rfl⟩
              rw [hj] at c81
              have w2 : IntKind.i64.wrap (49 + (i : Int)) = (j : Int) := by rw [wrap_id (by omega) (by omega)]; omega
              have w3 : IntKind.u8.wrap (j : Int) = (j : Int) := wrap_u8 (by omega) (by omega)
              have u0 := hRs i
              have u1 := hMs i
              have ul := hRl i
              have um := hMl i
              cases hri : ro i with
              | none =>
               rw [hri] at c81 u0 u1
               simp only [Option.isSome_none, Bool.false_eq_true, if_false, Option.getD_none] at u0 u1 c81
               refine awp_skip ?_
               (repeat refine ZQ ?_); refine awp_block ?_
               (repeat refine ZQ ?_); refine ZR fun K hK => ?_; simp (maxSteps := 1000000) [ty22, ty5, ty3, w2, w3]
               refine ZP (c81) ?_; simp (maxSteps := 1000000) [ty9, ty4]
               refine hK _ ?_; clear hK K
               (repeat refine ZQ ?_); refine ZR fun K hK => ?_; simp (maxSteps := 1000000) [ty22, ty9]
               refine ⟨by omega, ?_⟩
               refine hK _ ?_; clear hK K
               (repeat refine ZQ ?_); refine ZR fun K hK => ?_; simp (maxSteps := 1000000) [ty4]; refine hK _ ?_; clear hK K
               (repeat refine ZQ ?_); refine ZC (fun hd => ?_) (fun hd => ?_)
               ·clear hd
                (repeat refine ZQ ?_); refine ZR fun K hK => ?_; simp (maxSteps := 1000000) [ty33, ty3]
                refine ⟨by omega, ?_⟩
                refine hK _ ?_; clear hK K
                (repeat refine ZQ ?_); refine ZR fun K hK => ?_; simp (maxSteps := 1000000) [ty3, w1]; refine hK _ ?_; clear hK K; (first | show AWP _ _ _ _ _ | show ∃ _, _ | skip)
                refine ⟨i + 1, by omega, by omega, ?_⟩
                rw [u0, u1]
                refine wk_shape2 [(3, 124, .live ⟨(Mi i ++ [(i : Int)]).isEmpty, false, 1, (Mi i ++ [(i : Int)]).map cI⟩), (15, 118, .live ⟨(Ri i ++ [[]]).isEmpty, false, 1, (Ri i ++ [[]]).map cS⟩)] (by first | rfl | (simp only [if_pos, if_true]; rfl)) (shp0 hσ (by simp) (by simp) ?_) ?_
                ·simp [SlotOk] <;> (repeat' (first | (refine RowsOk.same ?_; simp [purel, C.isPure]; done) | (refine rowsCons ?_; simp [mtl, mtc, mT, mH, C.isPure, purel]; done) | (refine rowsCons ?_; simp [mtl, mtc, mT, mH, C.isPure, purel]) | refine And.intro ?_ ?_))
                ·simp [mtc, mtl, mT, C.isPure, purel] <;> (try simp (disch := omega) [wrap_id]) <;> (try omega)
               ·simp at hd
              | some r =>
               rw [hri] at c81 u0 u1
               simp only [Option.isSome_some, if_true, Option.getD_some] at u0 u1 c81
               refine awp_skip ?_
               (repeat refine ZQ ?_); refine awp_block ?_
               (repeat refine ZQ ?_); refine ZR fun K hK => ?_; simp (maxSteps := 1000000) [ty22, ty5, ty3, w2, w3]
               refine ZP (c81) ?_; simp (maxSteps := 1000000) [ty9, ty4]
               refine hK _ ?_; clear hK K
               (repeat refine ZQ ?_); refine ZR fun K hK => ?_; simp (maxSteps := 1000000) [ty22, ty9]
               refine ⟨by omega, ?_⟩
               refine hK _ ?_; clear hK K
               (repeat refine ZQ ?_); refine ZR fun K hK => ?_; simp (maxSteps := 1000000) [ty4]; refine hK _ ?_; clear hK K
               (repeat refine ZQ ?_); refine ZC (fun hd => ?_) (fun hd => ?_)
               ·simp at hd
               ·clear hd
                refine awp_skip ?_
                (repeat refine ZQ ?_); refine ZR fun K hK => ?_; simp (maxSteps := 1000000) [ty3, w1]; refine hK _ ?_; clear hK K; (first | show AWP _ _ _ _ _ | show ∃ _, _ | skip)
                refine ⟨i + 1, by omega, by omega, ?_⟩
                rw [u0, u1]
                refine wk_shape2 [(3, 3, .live ⟨(Mi i).isEmpty, false, 1, (Mi i).map cI⟩), (15, 118, .live ⟨(Ri i ++ [r]).isEmpty, false, 1, (Ri i ++ [r]).map cS⟩)] (by first | rfl | (simp only [if_pos, if_true]; rfl)) (shp0 hσ (by simp) (by simp) ?_) ?_
                ·simp [SlotOk] <;> (repeat' (first | (refine RowsOk.same ?_; simp [purel, C.isPure]; done) | (refine rowsCons ?_; simp [mtl, mtc, mT, mH, C.isPure, purel]; done) | (refine rowsCons ?_; simp [mtl, mtc, mT, mH, C.isPure, purel]) | refine And.intro ?_ ?_))
                ·simp [mtc, mtl, mT, C.isPure, purel] <;> (try simp (disch := omega) [wrap_id]) <;> (try omega)
             ·simp [hlt] at hd
            ·have hin : i = m := by omega
             subst hin
             (repeat refine ZQ ?_); refine ZC (fun hd => ?_) (fun hd => ?_)
             ·simp at hd
             ·clear hd
              (repeat refine ZQ ?_); refine awp_exit ?_; (first | show AWP _ _ _ _ _ | show ∃ _, _ | skip)
              have hRll := hRl i
              have hMll := hMl i
              clear hRs hMs hR0 hM0 crow hrow hrl hRl hMl
              generalize Ri i = R at *
              generalize Mi i = M at *
              refine AWP.weak ?_ (wk_frz 3 3 (c := .sl M.isEmpty false (M.map cI)) (o := ⟨M.isEmpty, false, 1, M.map cI⟩) (by simp) (all_purel_map fun _ => rfl) (fz_own rfl (by simp) (by simp)))
              refine AWP.weak ?_ (wk_frz 15 15 (c := sT R.isEmpty false R) (o := ⟨R.isEmpty, false, 1, R.map cS⟩) (by simp) (all_purel_map fun _ => rfl) (fz_own rfl (by simp) (by simp)))
              by_cases hk : kn < M.length
              ·have hk' : (kn : Int) < M.length := by omega
               have hRn : encRs (restG G) = noR := by rw [hR, if_pos hk]; rfl
               (repeat refine ZQ ?_); refine ZR fun K hK => ?_; simp (maxSteps := 1000000) [ty33, ty3, hk']; refine hK _ ?_; clear hK K
               (repeat refine ZQ ?_); refine ZC (hc := by simp [hk]; rfl) (fun hd => ?_) (fun hd => ?_)
               ·clear hd
                (repeat refine ZQ ?_); refine ZR fun K hK => ?_; simp (maxSteps := 1000000) [ty22, ty33, ty4]; refine hK _ ?_; clear hK K; (first | show AWP _ _ _ _ _ | show ∃ _, _ | skip)
                rw [hRn]
                unfold noR
                (repeat refine ZQ ?_); refine awp_ret ?_; refine And.intro (Or.inr rfl) ?_
                simp [retC, resC, viewC, mapO]
               ·simp [hk] at hd
              ·have hk' : ¬ (kn : Int) < M.length := by omega
               rw [if_neg hk] at hR
               (repeat refine ZQ ?_); refine ZR fun K hK => ?_; simp (maxSteps := 1000000) [ty33, ty3, hk']; refine hK _ ?_; clear hK K
               (repeat refine ZQ ?_); refine ZC (hc := by simp [hk]; rfl) (fun hd => ?_) (fun hd => ?_)
               ·simp [hk] at hd
               ·clear hd
                refine awp_skip ?_; (first | show AWP _ _ _ _ _ | show ∃ _, _ | skip)
                have hfull := full_ok (f := f) (s := s) hRw (fun k hk2 => by rw [hmis k hk2]; omega)
                have hF0 : fullTo R f s 0 = some (List.replicate R.length []) := by
                 simp only [fullTo, Option.some.injEq]
                 exact List.eq_replicate_iff.2 ⟨by simp, fun b hb => by obtain ⟨_, _, rfl⟩ := List.mem_map.1 hb; rfl⟩
                rw [hRll] at hF0
                (repeat refine ZQ ?_); refine ZR fun K hK => ?_; simp (maxSteps := 1000000) [ty22, ty9, ty3]
                refine ⟨by omega, ?_⟩
                refine hK _ ?_; clear hK K
                (repeat refine ZQ ?_); refine ZR fun K hK => ?_; simp (maxSteps := 1000000) [ty3]; refine hK _ ?_; clear hK K
                (repeat refine ZQ ?_); refine awp_block ?_
                refine awp_loop (fun X : RsX => ⟨ofL [(2, .sl true true []), (3, .sl M.isEmpty false (M.map cI)), (4, .bool false), (5, sT G.isEmpty false G), (7, encI i), (8, encI n), (11, encS f), (13, encS s), (15, sT R.isEmpty false R), (19, .own 19 1 0 i), (20, encI X.k)],
                 stoT [(19, 19, .live ⟨false, false, 1, X.F.map cS⟩)]⟩)
                 (fun X => X.k ≤ n ∧ fullTo R f s X.k = some X.F) (fun X => n - X.k) ⟨0, List.replicate i []⟩ ⟨Nat.zero_le _, hF0⟩ ?_ ?_
                ·refine wk_shape2 [(19, 130, .live ⟨false, false, 1, (List.replicate i ([] : List UInt8)).map cS⟩)] (by first | rfl | (simp only [if_pos, if_true]; rfl)) (shp0 hσ (by simp) (by simp) ?_) ?_
                 ·simp [SlotOk] <;> (repeat' (first | (refine RowsOk.same ?_; simp [purel, C.isPure]; done) | (refine rowsCons ?_; simp [mtl, mtc, mT, mH, C.isPure, purel]; done) | (refine rowsCons ?_; simp [mtl, mtc, mT, mH, C.isPure, purel]) | refine And.intro ?_ ?_))
                 ·simp [mtc, mtl, mT, C.isPure, purel] <;> (try simp (disch := omega) [wrap_id]) <;> (try omega)
                ·rintro ⟨k, F⟩ ⟨hkn2, hFk⟩
                 simp only at hkn2 hFk ⊢
                 obtain ⟨hFl, hFr⟩ := hfull k hkn2 F hFk
                 rw [hRll] at hFl
                 have w1 : IntKind.i64.wrap ((k : Int) + 1) = ((k + 1 : Nat) : Int) := by rw [wrap_id (by omega) (by omega)]; rfl
                 (repeat refine ZQ ?_); refine ZR fun K hK => ?_; simp (maxSteps := 1000000) [ty3]; refine hK _ ?_; clear hK K; (first | show AWP _ _ _ _ _ | show ∃ _, _ | skip)
                 by_cases hlt : k < n
                 ·have hlt' : (k : Int) < n := by omega
                  (repeat refine ZQ ?_); refine ZC (hc := by simp [hlt]; rfl) (fun hd => ?_) (fun hd => ?_)
                  ·clear hd
                   have hV0 : valsG (R.take 0) k = [] := rfl
                   have hVs := fun j (hj : j < R.length) => valsG_succ R k hj
                   have hVl : ∀ j, (valsG (R.take j) k).length ≤ j := fun j => by simp [valsG]; omega
                   have hVe : valsG (R.take i) k = valsG R k := by rw [List.take_of_length_le (by omega)]
                   have hvo := vals_ok hRw hlt
                   have hms := hmis k hlt
                   have hvl : (valsG R k).length = i := by simp [valsG, hRll]
                   have hfo := hfok k hlt
                   have hso := hsok k hlt
                   have hnext : fullTo R f s (k + 1) = (fillV (valsG R k) f s k).map (addV F) := by simp only [fullTo, hFk]
                   generalize hVn : (fun j => valsG (R.take j) k) = Vi at *
                   have hVf : ∀ j, valsG (R.take j) k = Vi j := fun j => by rw [← hVn]
                   simp only [hVf] at hV0 hVs hVl hVe
                   clear hVf hVn
                   refine awp_skip ?_
                   (repeat refine ZQ ?_); refine awp_block ?_
                   (repeat refine ZQ ?_); refine ZR fun K hK => ?_; simp (maxSteps := 1000000) [ty33]; refine hK _ ?_; clear hK K
                   (repeat refine ZQ ?_); refine ZR fun K hK => ?_; simp (maxSteps := 1000000) [ty3]; refine hK _ ?_; clear hK K
                   (repeat refine ZQ ?_); refine awp_block ?_
                   refine AWP.weak ?_ (wk_nil 21 21 1 (fu := true) (by simp) (by simp))
                   refine awp_loop (fun j : Nat => ⟨ofL [(2, .sl true true []), (3, .sl M.isEmpty false (M.map cI)), (4, .bool false), (5, sT G.isEmpty false G), (7, encI i), (8, encI n), (11, encS f), (13, encS s), (15, sT R.isEmpty false R), (19, .own 19 1 0 i), (20, encI k), (21, .own 21 1 0 (Vi j).length), (22, encI j)],
                    stoT [(19, 19, .live ⟨false, false, 1, F.map cS⟩), (21, 21, .live ⟨(Vi j).isEmpty, false, 1, (Vi j).map cI⟩)]⟩)
                    (fun j => j ≤ i) (fun j => i - j) 0 (Nat.zero_le _) ?_ ?_
                   ·refine wk_shape (shp0 hσ (by simp) (by simp) ?_) ?_
                    ·simp [SlotOk, hV0] <;> (repeat' (first | (refine RowsOk.same ?_; simp [purel, C.isPure]; done) | (refine rowsCons ?_; simp [mtl, mtc, mT, mH, C.isPure, purel]; done) | (refine rowsCons ?_; simp [mtl, mtc, mT, mH, C.isPure, purel]) | refine And.intro ?_ ?_))
                    ·simp [mtc, mtl, mT, C.isPure, purel, hV0] <;> (try simp (disch := omega) [wrap_id]) <;> (try omega)
                   ·intro j hj
                    have w2 : IntKind.i64.wrap ((j : Int) + 1) = ((j + 1 : Nat) : Int) := by rw [wrap_id (by omega) (by omega)]; rfl
                    (repeat refine ZQ ?_); refine ZR fun K hK => ?_; simp (maxSteps := 1000000) [ty3]; refine hK _ ?_; clear hK K; (first | show AWP _ _ _ _ _ | show ∃ _, _ | skip)
                    by_cases hjl : j < i
                    ·have hjl' : (j : Int) < i := by omega
                     have hjR : j < R.length := by omega
                     (repeat refine ZQ ?_); refine ZC (hc := by simp [hjl]; rfl) (fun hd => ?_) (fun hd => ?_)
                     ·clear hd
                      have uV := hVs j hjR
                      have uL := hVl j
                      have hrj := hRw _ (List.getElem_mem hjR)
                      obtain ⟨r, hgr⟩ : ∃ r, R[j] = r := ⟨_, rfl⟩
                      rw [hgr] at uV hrj
                      have hse := str_eq r []
                      refine awp_skip ?_
                      (repeat refine ZQ ?_); refine awp_block ?_
                      by_cases hr : r = []
                      ·have hsn : (r == []) = true := by rw [hr]; rfl
                       rw [hsn] at hse
                       rw [if_pos hr] at uV
                       (repeat refine ZQ ?_); refine ZR fun K hK => ?_; simp (maxSteps := 1000000) [ty22, ty9, hjR, hgr, hse, -strBin]; refine hK _ ?_; clear hK K
                       (repeat refine ZQ ?_); refine ZC (fun hd => ?_) (fun hd => ?_)
                       ·clear hd
                        (repeat refine ZQ ?_); refine ZR fun K hK => ?_; simp (maxSteps := 1000000) [ty33, ty3]
                        refine ⟨by omega, ?_⟩
                        refine hK _ ?_; clear hK K
                        (repeat refine ZQ ?_); refine ZR fun K hK => ?_; simp (maxSteps := 1000000) [ty3, w2]; refine hK _ ?_; clear hK K; (first | show AWP _ _ _ _ _ | show ∃ _, _ | skip)
                        refine ⟨j + 1, by omega, by omega, ?_⟩
                        rw [uV]
                        refine wk_shape2 [(19, 19, .live ⟨false, false, 1, F.map cS⟩), (21, 148, .live ⟨(Vi j ++ [-1]).isEmpty, false, 1, (Vi j ++ [-1]).map cI⟩)] (by first | rfl | (simp only [if_pos, if_true]; rfl)) (shp0 hσ (by simp) (by simp) ?_) ?_
                        ·simp [SlotOk] <;> (repeat' (first | (refine RowsOk.same ?_; simp [purel, C.isPure]; done) | (refine rowsCons ?_; simp [mtl, mtc, mT, mH, C.isPure, purel]; done) | (refine rowsCons ?_; simp [mtl, mtc, mT, mH, C.isPure, purel]) | refine And.intro ?_ ?_))
                        ·simp [mtc, mtl, mT, C.isPure, purel] <;> (try simp (disch := omega) [wrap_id]) <;> (try omega)
                       ·simp at hd
                      ·have hsn : (r == []) = false := by rw [beq_eq_false_iff_ne]; exact hr
                       rw [hsn] at hse
                       rw [if_neg hr] at uV
                       have hrl2 : k < r.length := by
                        rcases hrj with h | ⟨h, _⟩
                        ·exact absurd h hr
                        ·omega
                       have g := S_at hrl2
                       have e : r.getD k 0 = r[k] := by simp [List.getD_eq_getElem?_getD, List.getElem?_eq_getElem hrl2]
                       rw [e] at uV
                       have c78 := q_value78 r[k]
                       generalize r[k] = c at *
                       (repeat refine ZQ ?_); refine ZR fun K hK => ?_; simp (maxSteps := 1000000) [ty22, ty9, hjR, hgr, hse, -strBin]; refine hK _ ?_; clear hK K
                       (repeat refine ZQ ?_); refine ZC (fun hd => ?_) (fun hd => ?_)
                       ·simp at hd
                       ·clear hd
                        (repeat refine ZQ ?_); refine ZR fun K hK => ?_; simp (maxSteps := 1000000) [ty22, ty9, ty33, ty3, ty5, hjR, hgr, g]
                        refine ZP (c78) ?_; simp (maxSteps := 1000000) [ty33, ty3]
                        refine ⟨by omega, ?_⟩
                        refine hK _ ?_; clear hK K
                        (repeat refine ZQ ?_); refine ZR fun K hK => ?_; simp (maxSteps := 1000000) [ty3, w2]; refine hK _ ?_; clear hK K; (first | show AWP _ _ _ _ _ | show ∃ _, _ | skip)
                        refine ⟨j + 1, by omega, by omega, ?_⟩
                        rw [uV]
                        refine wk_shape2 [(19, 19, .live ⟨false, false, 1, F.map cS⟩), (21, 158, .live ⟨(Vi j ++ [valB c]).isEmpty, false, 1, (Vi j ++ [valB c]).map cI⟩)] (by first | rfl | (simp only [if_pos, if_true]; rfl)) (shp0 hσ (by simp) (by simp) ?_) ?_
                        ·simp [SlotOk] <;> (repeat' (first | (refine RowsOk.same ?_; simp [purel, C.isPure]; done) | (refine rowsCons ?_; simp [mtl, mtc, mT, mH, C.isPure, purel]; done) | (refine rowsCons ?_; simp [mtl, mtc, mT, mH, C.isPure, purel]) | refine And.intro ?_ ?_))
                        ·simp [mtc, mtl, mT, C.isPure, purel] <;> (try simp (disch := omega) [wrap_id]) <;> (try omega)
                     ·simp [hjl] at hd
                    ·have hjn : j = i := by omega
                     subst hjn
                     (repeat refine ZQ ?_); refine ZC (fun hd => ?_) (fun hd => ?_)
                     ·simp at hd
                     ·clear hd
                      (repeat refine ZQ ?_); refine awp_exit ?_; (first | show AWP _ _ _ _ _ | show ∃ _, _ | skip)
                      rw [hVe]
                      clear hVe hVl hVs hV0
                      have c82 := q_fill82 (valsG R k).isEmpty false (valsG R k) f s k (by omega) hvo hfo hso (by omega) (fun h2 => hf2 (by omega))
                      have hok := fun out (h : fillV (valsG R k) f s k = some out) => fillV_ok hvo (by omega) h
                      generalize valsG R k = V at *
                      refine AWP.weak ?_ (wk_frz 21 21 (c := .sl V.isEmpty false (V.map cI)) (o := ⟨V.isEmpty, false, 1, V.map cI⟩) (by simp) (all_purel_map fun _ => rfl) (fz_own rfl (by simp) (by simp)))
                      cases hfv : fillV V f s k with
                      | none =>
                       obtain ⟨x1, x2, x3, hx4⟩ := encFill_none (nl := V.isEmpty) (fu := false) hfv
                       rw [hx4] at c82
                       rw [hfv] at hnext
                       have hRn : encRs (restG G) = noR := by
                        rw [hR, full_mono hnext n (by omega)]; rfl
                       (repeat refine ZQ ?_); refine ZR fun K hK => ?_; simp (maxSteps := 1000000) [ty33, ty9, ty3]
                       refine ZP (c82) ?_; simp (maxSteps := 1000000) [ty33, ty4]
                       refine hK _ ?_; clear hK K
                       (repeat refine ZQ ?_); refine ZR fun K hK => ?_; simp (maxSteps := 1000000) [ty4]; refine hK _ ?_; clear hK K
                       (repeat refine ZQ ?_); refine ZC (fun hd => ?_) (fun hd => ?_)
                       ·clear hd
                        (repeat refine ZQ ?_); refine ZR fun K hK => ?_; simp (maxSteps := 1000000) [ty22, ty33, ty4]; refine hK _ ?_; clear hK K; (first | show AWP _ _ _ _ _ | show ∃ _, _ | skip)
                        rw [hRn]
                        unfold noR
                        (repeat refine ZQ ?_); refine awp_ret ?_; refine And.intro (Or.inr rfl) ?_
                        simp [retC, resC, viewC, mapO]
                       ·simp at hd
                      | some out =>
                       obtain ⟨x1, x2, hx4⟩ := encFill_some (nl := V.isEmpty) (fu := false) hfv
                       rw [hx4] at c82
                       rw [hfv, Option.map_some] at hnext
                       obtain ⟨hout, houl⟩ := hok out hfv
                       rw [hvl] at houl
                       (repeat refine ZQ ?_); refine ZR fun K hK => ?_; simp (maxSteps := 1000000) [ty33, ty9, ty3]
                       refine ZP (c82) ?_; simp (maxSteps := 1000000) [ty33, ty4]
                       refine hK _ ?_; clear hK K
                       (repeat refine ZQ ?_); refine ZR fun K hK => ?_; simp (maxSteps := 1000000) [ty4]; refine hK _ ?_; clear hK K
                       (repeat refine ZQ ?_); refine ZC (fun hd => ?_) (fun hd => ?_)
                       ·simp at hd
                       ·clear hd
                        refine awp_skip ?_
                        (repeat refine ZQ ?_); refine ZR fun K hK => ?_; simp (maxSteps := 1000000) [ty3]; refine hK _ ?_; clear hK K; (first | show AWP _ _ _ _ _ | show ∃ _, _ | skip)
                        have hA0 := addTo14_zero F out
                        have hAs := fun q (hq : q < F.length) => addTo14_succ F out hq
                        have hAe := addTo14_full F out
                        have hAl := fun q => addTo14_len F out q
                        have hAa := fun q (hq : q < F.length) (h : q < (addTo14 F out q).length) => addTo14_at F out hq h
                        rw [hFl] at hAe hAl
                        generalize addTo14 F out = A at *
                        (repeat refine ZQ ?_); refine awp_block ?_
                        refine awp_loop (fun q : Nat => ⟨ofL [(2, .sl true true []), (3, .sl M.isEmpty false (M.map cI)), (4, .bool false), (5, sT G.isEmpty false G), (7, encI j), (8, encI n), (11, encS f), (13, encS s), (15, sT R.isEmpty false R), (19, .own 19 1 0 j), (20, encI k), (23, .sl x1 x2 (out.map cI)), (25, encI q)],
                         stoT [(19, 19, .live ⟨false, false, 1, (A q).map cS⟩)]⟩)
                         (fun q => q ≤ j) (fun q => j - q) 0 (Nat.zero_le _) ?_ ?_
                        ·rw [hA0]
                         exact ZW
                        ·intro q hq
                         have w3 : IntKind.i64.wrap ((q : Int) + 1) = ((q + 1 : Nat) : Int) := by rw [wrap_id (by omega) (by omega)]; rfl
                         (repeat refine ZQ ?_); refine ZR fun K hK => ?_; simp (maxSteps := 1000000) [ty3]; refine hK _ ?_; clear hK K; (first | show AWP _ _ _ _ _ | show ∃ _, _ | skip)
                         by_cases hql : q < j
                         ·have hql' : (q : Int) < j := by omega
                          (repeat refine ZQ ?_); refine ZC (hc := by simp [hql]; rfl) (fun hd => ?_) (fun hd => ?_)
                          ·clear hd
                           have hqF : q < F.length := by omega
                           have hqo : q < out.length := by omega
                           have uA := hAs q hqF
                           have hAll := hAl q
                           have hqA : q < (A q).length := by omega
                           have hga := hAa q hqF hqA
                           have hbo := hout _ (List.getElem_mem hqo)
                           have hfl := (hFr _ (List.getElem_mem hqF)).1
                           have e : out.getD q 0 = out[q] := by simp [List.getD_eq_getElem?_getD, List.getElem?_eq_getElem hqo]
                           rw [e] at uA
                           obtain ⟨v, hgv⟩ : ∃ v, out[q] = v := ⟨_, rfl⟩
                           obtain ⟨t, hgt⟩ : ∃ t, F[q] = t := ⟨_, rfl⟩
                           rw [hgv] at uA hbo
                           rw [hgt] at uA hga hfl
                           obtain ⟨u, rfl⟩ : ∃ u : Nat, v = u := ⟨v.toNat, by omega⟩
                           have hz : (32 + (u : Int)).toNat = 32 + u := by omega
                           rw [hz] at uA
                           have w4 : IntKind.i64.wrap (32 + (u : Int)) = 32 + u := wrap_id (by omega) (by omega)
                           have w5 : IntKind.i32.wrap (32 + (u : Int)) = 32 + u := wrap_i32 (by omega) (by omega)
                           have e1 : Utf8.encode (32 + (u : Int)) = S [UInt8.ofNat (32 + u)] := by rw [← enc_ascii (by omega)]; rfl
                           have ha := str_add (a := t) (b := [UInt8.ofNat (32 + u)]) (by simp; omega)
                           generalize [UInt8.ofNat (32 + u)] = lc at *
                           have hom : ((A q).map cS).set q [encS (t ++ lc)] = ((A q).set q (t ++ lc)).map cS := by rw [List.map_set]
                           rw [← uA] at hom
                           refine awp_skip ?_
                           (repeat refine ZQ ?_); refine awp_block ?_
                           (repeat refine ZQ ?_); refine ZD [2013,10019] [0, 1, 2, 3, 4, 5, 6, 7, 8, 9, 10, 11, 12, 13] fun K hK => ?_; simp (maxSteps := 1000000) [ty22, ty9, ty33, ty3, ty21, hqA, hga, hqo, hgv, w4, w5, e1, ha, hAll, hql, hom, -strBin]
                           refine hK _ ?_; clear hK K
                           (repeat refine ZQ ?_); refine ZR fun K hK => ?_; simp (maxSteps := 1000000) [ty3, w3]; refine hK _ ?_; clear hK K; (first | show AWP _ _ _ _ _ | show ∃ _, _ | skip)
                           refine ⟨q + 1, by omega, by omega, ?_⟩
                           exact ZW
                          ·simp [hql] at hd
                         ·have hqn : q = j := by omega
                          subst hqn
                          (repeat refine ZQ ?_); refine ZC (fun hd => ?_) (fun hd => ?_)
                          ·simp at hd
                          ·clear hd
                           (repeat refine ZQ ?_); refine awp_exit ?_
                           (repeat refine ZQ ?_); refine ZR fun K hK => ?_; simp (maxSteps := 1000000) [ty3, w1]; refine hK _ ?_; clear hK K; (first | show AWP _ _ _ _ _ | show ∃ _, _ | skip)
                           rw [hAe]
                           refine ⟨⟨k + 1, addV F out⟩, ⟨by simp; omega, hnext⟩, by simp; omega, ?_⟩
                           exact ZW
                  ·simp [hlt] at hd
                 ·have hkn3 : k = n := by omega
                  subst hkn3
                  (repeat refine ZQ ?_); refine ZC (fun hd => ?_) (fun hd => ?_)
                  ·simp at hd
                  ·clear hd
                   (repeat refine ZQ ?_); refine awp_exit ?_; (first | show AWP _ _ _ _ _ | show ∃ _, _ | skip)
                   rw [hFk] at hR
                   simp only at hR
                   refine AWP.weak ?_ (wk_frz 19 19 (c := sT false false F) (o := ⟨false, false, 1, F.map cS⟩) (by simp) (all_purel_map fun _ => rfl) (fz_own rfl (by simp [hFl]) (by simp)))
                   (repeat refine ZQ ?_); refine ZR fun K hK => ?_; simp (maxSteps := 1000000) [ty3]; refine hK _ ?_; clear hK K
                   (repeat refine ZQ ?_); refine awp_block ?_
                   refine AWP.weak ?_ (wk_nil 2 2 1 (fu := true) (by simp) (by simp))
                   refine awp_loop (fun X : RtX => ⟨ofL [(2, .own 2 1 0 X.T.length), (3, .sl M.isEmpty false (M.map cI)), (4, .bool false), (5, sT G.isEmpty false G), (7, encI i), (19, sT false false F), (26, encI X.i)],
                    stoT [(2, 2, .live ⟨X.T.isEmpty, false, 1, X.T.map cS⟩)]⟩)
                    (fun X => X.i ≤ i ∧ textsG (F.take X.i) = some X.T) (fun X => i - X.i) ⟨0, []⟩ ⟨Nat.zero_le _, rfl⟩ ?_ ?_
                   ·exact ZW
                   ·rintro ⟨q, T⟩ ⟨hqi, hqT⟩
                    simp only at hqi hqT ⊢
                    have w2 : IntKind.i64.wrap ((q : Int) + 1) = ((q + 1 : Nat) : Int) := by rw [wrap_id (by omega) (by omega)]; rfl
                    have hTl : T.length = q := by rw [(textsG_len hqT).1, List.length_take]; omega
                    (repeat refine ZQ ?_); refine ZR fun K hK => ?_; simp (maxSteps := 1000000) [ty3]; refine hK _ ?_; clear hK K; (first | show AWP _ _ _ _ _ | show ∃ _, _ | skip)
                    by_cases hql : q < i
                    ·have hql' : (q : Int) < i := by omega
                     have hqF : q < F.length := by omega
                     (repeat refine ZQ ?_); refine ZC (hc := by simp [hql]; rfl) (fun hd => ?_) (fun hd => ?_)
                     ·clear hd
                      obtain ⟨hrl, hrp⟩ := hFr _ (List.getElem_mem hqF)
                      have c83 := q_textOf83 F[q] (by omega) (by omega)
                      cases ht : textOfB F[q] with
                      | none =>
                       rw [ht] at c83
                       have hRn : encRs (restG G) = noR := by rw [hR, textsG_none hqF hqT ht]; rfl
                       obtain ⟨r, hgr⟩ : ∃ r, F[q] = r := ⟨_, rfl⟩
                       rw [hgr] at c83
                       refine awp_skip ?_
                       (repeat refine ZQ ?_); refine awp_block ?_
                       (repeat refine ZQ ?_); refine ZR fun K hK => ?_; simp (maxSteps := 1000000) [ty22, ty9, hqF, hgr]
                       refine ZP (c83) ?_; simp (maxSteps := 1000000) [ty9, ty4]
                       refine hK _ ?_; clear hK K
                       (repeat refine ZQ ?_); refine ZR fun K hK => ?_; simp (maxSteps := 1000000) [ty4]; refine hK _ ?_; clear hK K
                       (repeat refine ZQ ?_); refine ZC (fun hd => ?_) (fun hd => ?_)
                       ·clear hd
                        (repeat refine ZQ ?_); refine ZR fun K hK => ?_; simp (maxSteps := 1000000) [ty22, ty33, ty4]; refine hK _ ?_; clear hK K; (first | show AWP _ _ _ _ _ | show ∃ _, _ | skip)
                        rw [hRn]
                        unfold noR
                        (repeat refine ZQ ?_); refine awp_ret ?_; refine And.intro (Or.inr rfl) ?_
                        simp [retC, resC, viewC, mapO]
                       ·simp at hd
                      | some x =>
                       rw [ht] at c83
                       simp only [Option.isSome_some, Option.getD_some] at c83
                       have hnx := textsG_step hqF hqT ht
                       obtain ⟨r, hgr⟩ : ∃ r, F[q] = r := ⟨_, rfl⟩
                       rw [hgr] at c83
                       refine awp_skip ?_
                       (repeat refine ZQ ?_); refine awp_block ?_
                       (repeat refine ZQ ?_); refine ZR fun K hK => ?_; simp (maxSteps := 1000000) [ty22, ty9, hqF, hgr]
                       refine ZP (c83) ?_; simp (maxSteps := 1000000) [ty9, ty4]
                       refine hK _ ?_; clear hK K
                       (repeat refine ZQ ?_); refine ZR fun K hK => ?_; simp (maxSteps := 1000000) [ty4]; refine hK _ ?_; clear hK K
                       (repeat refine ZQ ?_); refine ZC (fun hd => ?_) (fun hd => ?_)
                       ·simp at hd
                       ·clear hd
                        refine awp_skip ?_
                        (repeat refine ZQ ?_); refine ZR fun K hK => ?_; simp (maxSteps := 1000000) [ty22, ty9]
                        refine ⟨by omega, ?_⟩
                        refine hK _ ?_; clear hK K
                        (repeat refine ZQ ?_); refine ZR fun K hK => ?_; simp (maxSteps := 1000000) [ty3, w2]; refine hK _ ?_; clear hK K; (first | show AWP _ _ _ _ _ | show ∃ _, _ | skip)
                        refine ⟨⟨q + 1, T ++ [x]⟩, ⟨by simp; omega, hnx⟩, by simp; omega, ?_⟩
                        refine wk_shape2 [(2, 205, .live ⟨(T ++ [x]).isEmpty, false, 1, (T ++ [x]).map cS⟩)] (by first | rfl | (simp only [if_pos, if_true]; rfl)) (shp0 hσ (by simp) (by simp) ?_) ?_
                        ·simp [SlotOk] <;> (repeat' (first | (refine RowsOk.same ?_; simp [purel, C.isPure]; done) | (refine rowsCons ?_; simp [mtl, mtc, mT, mH, C.isPure, purel]; done) | (refine rowsCons ?_; simp [mtl, mtc, mT, mH, C.isPure, purel]) | refine And.intro ?_ ?_))
                        ·simp [mtc, mtl, mT, C.isPure, purel] <;> (try simp (disch := omega) [wrap_id]) <;> (try omega)
                     ·simp [hql] at hd
                    ·have hqn : q = i := by omega
                     subst hqn
                     (repeat refine ZQ ?_); refine ZC (fun hd => ?_) (fun hd => ?_)
                     ·simp at hd
                     ·clear hd
                      (repeat refine ZQ ?_); refine awp_exit ?_; (first | show AWP _ _ _ _ _ | show ∃ _, _ | skip)
                      rw [List.take_of_length_le (by omega)] at hqT
                      have hpk := texts_pack hFr n62 (by omega) (by omega) hqT
                      rw [hqT] at hR
                      simp only at hR
                      refine AWP.weak ?_ (wk_frz 2 2 (c := sT T.isEmpty false T) (o := ⟨T.isEmpty, false, 1, T.map cS⟩) (by simp) (all_purel_map fun _ => rfl) (fz_own rfl (by simp) (by simp)))
                      have c39 := q_cards39 T.isEmpty false T hpk
                      have hcl := (cards_len hpk).1
                      generalize cardsB T = Cs at *
                      (repeat refine ZQ ?_); refine ZR fun K hK => ?_; simp (maxSteps := 1000000) [ty22]
                      refine ZP (c39) ?_; simp (maxSteps := 1000000) [ty22]
                      refine hK _ ?_; clear hK K
                      (repeat refine ZQ ?_); refine ZR fun K hK => ?_; simp (maxSteps := 1000000) [ty3]; refine hK _ ?_; clear hK K
                      (repeat refine ZQ ?_); refine awp_block ?_
                      refine awp_loop (fun z : Nat => ⟨ofL [(2, sT T.isEmpty false T), (3, .sl M.isEmpty false (M.map cI)), (4, .bool false), (5, sT G.isEmpty false G), (29, sT false false Cs), (30, encI z)], stoT []⟩)
                       (fun z => z ≤ G.length ∧ ∀ y (h : y < G.length), y < z → (Cs.any fun c => c == G[y]) = true) (fun z => G.length - z) 0 ⟨Nat.zero_le _, fun y _ hy => absurd hy (by omega)⟩ ?_ ?_
                      ·exact ZW
                      ·intro z ⟨hz, hzy⟩
                       have w3 : IntKind.i64.wrap ((z : Int) + 1) = ((z + 1 : Nat) : Int) := by rw [wrap_id (by omega) (by omega)]; rfl
                       (repeat refine ZQ ?_); refine ZR fun K hK => ?_; simp (maxSteps := 1000000) [ty22, ty3]; refine hK _ ?_; clear hK K; (first | show AWP _ _ _ _ _ | show ∃ _, _ | skip)
                       by_cases hzl : z < G.length
                       ·have hzl' : (z : Int) < G.length := by omega
                        (repeat refine ZQ ?_); refine ZC (hc := by simp [hzl]; rfl) (fun hd => ?_) (fun hd => ?_)
                        ·clear hd
                         have c84 := q_in84 false false Cs G[z] (by omega)
                         have hfail : (Cs.any fun c => c == G[z]) = false → encRs (restG G) = noR := fun hb => by
                          rw [hR, if_neg]
                          ·rfl
                          ·intro ha
                           have := List.all_eq_true.1 ha _ (List.getElem_mem hzl)
                           rw [hb] at this; cases this
                         have hgood : (Cs.any fun c => c == G[z]) = true → ∀ y (h : y < G.length), y < z + 1 → (Cs.any fun c => c == G[y]) = true := fun hb y h hy => by
                          by_cases e : y = z
                          ·subst e; exact hb
                          ·exact hzy y h (by omega)
                         cases hav : Cs.any fun c => c == G[z]
                         ·have hRn := hfail hav
                          rw [hav] at c84
                          obtain ⟨l, hgl⟩ : ∃ l, G[z] = l := ⟨_, rfl⟩
                          rw [hgl] at c84
                          refine awp_skip ?_
                          (repeat refine ZQ ?_); refine awp_block ?_
                          (repeat refine ZQ ?_); refine ZR fun K hK => ?_; simp (maxSteps := 1000000) [ty22, ty9, hzl, hgl]
                          refine ZP (c84) ?_; simp (maxSteps := 1000000) [ty4]
                          refine hK _ ?_; clear hK K
                          (repeat refine ZQ ?_); refine ZC (fun hd => ?_) (fun hd => ?_)
                          ·clear hd
                           (repeat refine ZQ ?_); refine ZR fun K hK => ?_; simp (maxSteps := 1000000) [ty22, ty33, ty4]; refine hK _ ?_; clear hK K; (first | show AWP _ _ _ _ _ | show ∃ _, _ | skip)
                           rw [hRn]
                           unfold noR
                           (repeat refine ZQ ?_); refine awp_ret ?_; refine And.intro (Or.inr rfl) ?_
                           simp [retC, resC, viewC, mapO]
                          ·simp at hd
                         ·have hgd := hgood hav
                          rw [hav] at c84
                          obtain ⟨l, hgl⟩ : ∃ l, G[z] = l := ⟨_, rfl⟩
                          rw [hgl] at c84
                          refine awp_skip ?_
                          (repeat refine ZQ ?_); refine awp_block ?_
                          (repeat refine ZQ ?_); refine ZR fun K hK => ?_; simp (maxSteps := 1000000) [ty22, ty9, hzl, hgl]
                          refine ZP (c84) ?_; simp (maxSteps := 1000000) [ty4]
                          refine hK _ ?_; clear hK K
                          (repeat refine ZQ ?_); refine ZC (fun hd => ?_) (fun hd => ?_)
                          ·simp at hd
                          ·clear hd
                           refine awp_skip ?_
                           (repeat refine ZQ ?_); refine ZR fun K hK => ?_; simp (maxSteps := 1000000) [ty3, w3]; refine hK _ ?_; clear hK K; (first | show AWP _ _ _ _ _ | show ∃ _, _ | skip)
                           refine ⟨z + 1, ⟨by omega, hgd⟩, by omega, ?_⟩
                           exact ZW
                        ·simp [hzl] at hd
                       ·have hzn : z = G.length := by omega
                        subst hzn
                        (repeat refine ZQ ?_); refine ZC (fun hd => ?_) (fun hd => ?_)
                        ·simp at hd
                        ·clear hd
                         (repeat refine ZQ ?_); refine awp_exit ?_; (first | show AWP _ _ _ _ _ | show ∃ _, _ | skip)
                         have hRs : encRs (restG G) = .tup [.sl T.isEmpty false (T.map cS), .sl M.isEmpty false (M.map cI), .bool true] := by
                          rw [hR, if_pos]
                          ·rfl
                          ·rw [List.all_eq_true]
                           intro l hl
                           obtain ⟨y, hy, rfl⟩ := List.getElem_of_mem hl
                           exact hzy y hy hy
                         rw [hRs]
                         (repeat refine ZQ ?_); refine ZR fun K hK => ?_; simp (maxSteps := 1000000) [ty22, ty33, ty4]; refine hK _ ?_; clear hK K
                         (repeat refine ZQ ?_); refine awp_ret ?_; refine And.intro (Or.inr rfl) ?_
                         simp [retC, resC, viewC, mapO]

set_option maxHeartbeats 8000000
set_option maxRecDepth 20000


set_option maxHeartbeats 8000000
set_option maxRecDepth 20000


def mkPk (p : Ls) : Pk := ⟨false, false, p⟩
theorem mk_rows (P : List Ls) : P.map cPl = (P.map mkPk).map cPk := by rw [List.map_map]; rfl
end Go.Proofs.YtgnpcijgdhjfpaaGreatDoor

