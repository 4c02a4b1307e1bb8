/- The machine of abstract values and the contracts of the functions of the program, which the statements of this seat share. No condition. -/
import Derived.Test.YtgnpcijgdhjfpaaDoorB4
import Derived.ProofKit
import Derived.OpenShut
import Derived.ChangeStays
import Derived.Test.YtgnpcijgdhjfpaaDoorCards
import Derived.Test.YtgnpcijgdhjfpaaDoorTie
import Derived.WalkKit
import Derived.Deep.DeepHandedRow
import Derived.LaidLaws
import Derived.Shelf.Vars

set_option linter.unusedSimpArgs false
set_option linter.unusedVariables false
set_option linter.constructorNameAsVariable false

namespace Go.Proofs.YtgnpcijgdhjfpaaDoor
open Go Go.Abs

set_option maxHeartbeats 8000000
set_option maxRecDepth 20000


theorem l_sameT18 (n1 f1 n2 f2 : Bool) (A B : List (List UInt8)) (hn : A.length ≤ 100000) : Pure Tryd.prog 10 [sT n1 f1 A, sT n2 f2 B] (.bool (A == B)) := by
 by_cases hlen : A.length = B.length
 ·have hne : ((A.length : Int) != (B.length : Int)) = false := by rw [hlen]; simp
  refine ZF (fn := Tryd.f10) [.tmp 4] ⟨Tryd.func10, rfl, by kernel_rfl⟩ fun x hx hσ => ?_
  (repeat refine ZQ ?_); refine ZR fun K hK => ?_; simp (maxSteps := 1000000) [ty4]; refine hK _ ?_; clear hK K
  (repeat refine ZQ ?_); refine ZR fun K hK => ?_; simp (maxSteps := 1000000) [ty22, ty3, hne]; refine hK _ ?_; clear hK K
  (repeat refine ZQ ?_); refine ZC (fun hd => ?_) (fun hd => ?_)
  ·simp at hd
  ·clear hd
   refine awp_skip ?_
   (repeat refine ZQ ?_); refine ZR fun K hK => ?_; simp (maxSteps := 1000000) [ty3]; refine hK _ ?_; clear hK K
   (repeat refine ZQ ?_); refine awp_block ?_
   refine awp_loop (fun i : Nat => ⟨ofL [(0, sT n1 f1 A), (1, sT n2 f2 B), (5, encI i)], stoT []⟩)
    (fun i => i ≤ A.length ∧ ∀ j (h1 : j < A.length) (h2 : j < B.length), j < i → A[j] = B[j]) (fun i => A.length - i) 0 ⟨Nat.zero_le _, fun j _ _ hj => absurd hj (by omega)⟩ ?_ ?_
   ·exact ZW
   ·intro i ⟨hi, hp⟩
    have w1 : IntKind.i64.wrap ((i : Int) + 1) = ((i + 1 : Nat) : Int) := by rw [wrap_id (by omega) (by omega)]; rfl
    (repeat refine ZQ ?_); refine ZR fun K hK => ?_; simp (maxSteps := 1000000) [ty22, ty3]; refine hK _ ?_; clear hK K
    (repeat refine ZQ ?_); refine ZC (fun hc => ?_) (fun hc => ?_)
    ·simp at hc
     have hc2 : i < B.length := by omega
     have he := str_ne A[i] B[i]
     refine awp_skip ?_
     (repeat refine ZQ ?_); refine awp_block ?_
     cases hb : A[i] == B[i]
     ·rw [hb] at he
      have hV : (A == B) = false := by
       rw [beq_eq_false_iff_ne]
       rintro rfl
       simp at hb
      rw [hV]
      (repeat refine ZQ ?_); refine ZD [] [0, 1, 2, 3, 4, 5, 6, 7, 8] fun K hK => ?_; simp (maxSteps := 1000000) [ty22, ty9, ty3, hc, hc2, he, -strBin]; refine hK _ ?_; clear hK K
      (repeat refine ZQ ?_); refine ZC (fun hd => ?_) (fun hd => ?_)
      ·clear hd
       (repeat refine ZQ ?_); refine ZR fun K hK => ?_; simp (maxSteps := 1000000) [ty4]; refine hK _ ?_; clear hK K
       (repeat refine ZQ ?_); refine awp_ret ?_; refine And.intro (Or.inr rfl) ?_
       simp [retC, resC, viewC, mapO]
      ·simp at hd
     ·rw [hb] at he
      (repeat refine ZQ ?_); refine ZD [] [0, 1, 2, 3, 4, 5, 6, 7, 8] fun K hK => ?_; simp (maxSteps := 1000000) [ty22, ty9, ty3, hc, hc2, he, -strBin]; refine hK _ ?_; clear hK K
      (repeat refine ZQ ?_); refine ZC (fun hd => ?_) (fun hd => ?_)
      ·simp at hd
      ·clear hd
       refine awp_skip ?_
       (repeat refine ZQ ?_); refine ZR fun K hK => ?_; simp (maxSteps := 1000000) [ty3, w1]; refine hK _ ?_; clear hK K; (first | show AWP _ _ _ _ _ | show ∃ _, _ | skip)
       refine ⟨i + 1, ⟨by omega, fun j h1 h2 h3 => ?_⟩, by omega, ?_⟩
       ·by_cases hji : j = i
        ·subst hji; simpa using hb
        ·exact hp j h1 h2 (by omega)
       ·exact ZW
    ·simp at hc
     (repeat refine ZQ ?_); refine awp_exit ?_; (first | show AWP _ _ _ _ _ | show ∃ _, _ | skip)
     have hV : (A == B) = true := by
      rw [beq_iff_eq]
      exact List.ext_getElem hlen fun j h1 h2 => hp j h1 h2 (by omega)
     rw [hV]
     (repeat refine ZQ ?_); refine ZR fun K hK => ?_; simp (maxSteps := 1000000) [ty4]; refine hK _ ?_; clear hK K
     (repeat refine ZQ ?_); refine awp_ret ?_; refine And.intro (Or.inr rfl) ?_
     simp [retC, resC, viewC, mapO]
 ·have hne : ((A.length : Int) != (B.length : Int)) = true := by rw [bne_iff_ne]; omega
  have hV : (A == B) = false := by
   rw [beq_eq_false_iff_ne]
   rintro rfl
   exact hlen rfl
  rw [hV]
  refine ZF (fn := Tryd.f10) [.tmp 4] ⟨Tryd.func10, rfl, by kernel_rfl⟩ fun x hx hσ => ?_
  (repeat refine ZQ ?_); refine ZR fun K hK => ?_; simp (maxSteps := 1000000) [ty4]; refine hK _ ?_; clear hK K
  (repeat refine ZQ ?_); refine ZR fun K hK => ?_; simp (maxSteps := 1000000) [ty22, ty3, hne]; refine hK _ ?_; clear hK K
  (repeat refine ZQ ?_); refine ZC (fun hd => ?_) (fun hd => ?_)
  ·clear hd
   (repeat refine ZQ ?_); refine ZR fun K hK => ?_; simp (maxSteps := 1000000) [ty4]; refine hK _ ?_; clear hK K
   (repeat refine ZQ ?_); refine awp_ret ?_; refine And.intro (Or.inr rfl) ?_
   simp [retC, resC, viewC, mapO]
  ·simp at hd

theorem l_sameI19 (n1 f1 n2 f2 : Bool) (A B : List Int) (hn : A.length ≤ 100000) : Pure Tryd.prog 11 [.sl n1 f1 (A.map cI), .sl n2 f2 (B.map cI)] (.bool (A == B)) := by
 by_cases hlen : A.length = B.length
 ·have hne : ((A.length : Int) != (B.length : Int)) = false := by rw [hlen]; simp
  refine ZF (fn := Tryd.f11) [.tmp 4] ⟨Tryd.func11, rfl, by kernel_rfl⟩ fun x hx hσ => ?_
  (repeat refine ZQ ?_); refine ZR fun K hK => ?_; simp (maxSteps := 1000000) [ty4]; refine hK _ ?_; clear hK K
  (repeat refine ZQ ?_); refine ZR fun K hK => ?_; simp (maxSteps := 1000000) [ty29, ty3, hne]; refine hK _ ?_; clear hK K
  (repeat refine ZQ ?_); refine ZC (fun hd => ?_) (fun hd => ?_)
  ·simp at hd
  ·clear hd
   refine awp_skip ?_
   (repeat refine ZQ ?_); refine ZR fun K hK => ?_; simp (maxSteps := 1000000) [ty3]; refine hK _ ?_; clear hK K
   (repeat refine ZQ ?_); refine awp_block ?_
   refine awp_loop (fun i : Nat => ⟨ofL [(0, .sl n1 f1 (A.map cI)), (1, .sl n2 f2 (B.map cI)), (5, encI i)], stoT []⟩)
    (fun i => i ≤ A.length ∧ ∀ j (h1 : j < A.length) (h2 : j < B.length), j < i → A[j] = B[j]) (fun i => A.length - i) 0 ⟨Nat.zero_le _, fun j _ _ hj => absurd hj (by omega)⟩ ?_ ?_
   ·exact ZW
   ·intro i ⟨hi, hp⟩
    have w1 : IntKind.i64.wrap ((i : Int) + 1) = ((i + 1 : Nat) : Int) := by rw [wrap_id (by omega) (by omega)]; rfl
    (repeat refine ZQ ?_); refine ZR fun K hK => ?_; simp (maxSteps := 1000000) [ty29, ty3]; refine hK _ ?_; clear hK K
    (repeat refine ZQ ?_); refine ZC (fun hc => ?_) (fun hc => ?_)
    ·simp at hc
     have hc2 : i < B.length := by omega
     refine awp_skip ?_
     (repeat refine ZQ ?_); refine awp_block ?_
     cases hb : A[i] != B[i]
     ·(repeat refine ZQ ?_); refine ZD [] [0, 1, 2, 3, 4, 5, 6, 7, 8] fun K hK => ?_; simp (maxSteps := 1000000) [ty29, ty3, hc, hc2, hb]; refine hK _ ?_; clear hK K
      (repeat refine ZQ ?_); refine ZC (fun hd => ?_) (fun hd => ?_)
      ·simp at hd
      ·clear hd
       refine awp_skip ?_
       (repeat refine ZQ ?_); refine ZR fun K hK => ?_; simp (maxSteps := 1000000) [ty3, w1]; refine hK _ ?_; clear hK K; (first | show AWP _ _ _ _ _ | show ∃ _, _ | skip)
       refine ⟨i + 1, ⟨by omega, fun j h1 h2 h3 => ?_⟩, by omega, ?_⟩
       ·by_cases hji : j = i
        ·subst hji; simpa using hb
        ·exact hp j h1 h2 (by omega)
       ·exact ZW
     ·have hV : (A == B) = false := by
       rw [beq_eq_false_iff_ne]
       rintro rfl
       simp at hb
      rw [hV]
      (repeat refine ZQ ?_); refine ZD [] [0, 1, 2, 3, 4, 5, 6, 7, 8] fun K hK => ?_; simp (maxSteps := 1000000) [ty29, ty3, hc, hc2, hb]; refine hK _ ?_; clear hK K
      (repeat refine ZQ ?_); refine ZC (fun hd => ?_) (fun hd => ?_)
      ·clear hd
       (repeat refine ZQ ?_); refine ZR fun K hK => ?_; simp (maxSteps := 1000000) [ty4]; refine hK _ ?_; clear hK K
       (repeat refine ZQ ?_); refine awp_ret ?_; refine And.intro (Or.inr rfl) ?_
       simp [retC, resC, viewC, mapO]
      ·simp at hd
    ·simp at hc
     (repeat refine ZQ ?_); refine awp_exit ?_; (first | show AWP _ _ _ _ _ | show ∃ _, _ | skip)
     have hV : (A == B) = true := by
      rw [beq_iff_eq]
      exact List.ext_getElem hlen fun j h1 h2 => hp j h1 h2 (by omega)
     rw [hV]
     (repeat refine ZQ ?_); refine ZR fun K hK => ?_; simp (maxSteps := 1000000) [ty4]; refine hK _ ?_; clear hK K
     (repeat refine ZQ ?_); refine awp_ret ?_; refine And.intro (Or.inr rfl) ?_
     simp [retC, resC, viewC, mapO]
 ·have hne : ((A.length : Int) != (B.length : Int)) = true := by rw [bne_iff_ne]; omega
  have hV : (A == B) = false := by
   rw [beq_eq_false_iff_ne]
   rintro rfl
   exact hlen rfl
  rw [hV]
  refine ZF (fn := Tryd.f11) [.tmp 4] ⟨Tryd.func11, rfl, by kernel_rfl⟩ fun x hx hσ => ?_
  (repeat refine ZQ ?_); refine ZR fun K hK => ?_; simp (maxSteps := 1000000) [ty4]; refine hK _ ?_; clear hK K
  (repeat refine ZQ ?_); refine ZR fun K hK => ?_; simp (maxSteps := 1000000) [ty29, ty3, hne]; refine hK _ ?_; clear hK K
  (repeat refine ZQ ?_); refine ZC (fun hd => ?_) (fun hd => ?_)
  ·clear hd
   (repeat refine ZQ ?_); refine ZR fun K hK => ?_; simp (maxSteps := 1000000) [ty4]; refine hK _ ?_; clear hK K
   (repeat refine ZQ ?_); refine awp_ret ?_; refine And.intro (Or.inr rfl) ?_
   simp [retC, resC, viewC, mapO]
  ·simp at hd

def farB (L : List (List UInt8)) (f : List UInt8) : Bool := decide (45 < L.length) || decide (9000 < f.length) || L.any fun l => decide (200 < l.length)

theorem l_far25 (nl fu : Bool) (L : List (List UInt8)) (f : List UInt8) (fb : ByteArray) (hf : fb = S f) : Pure Tryd.prog 4 [sT nl fu L, .str fb] (.bool (farB L f)) := by
 subst hf
 have hsz := S_size f
 have hsL := fun l => S_size l
 unfold farB
 by_cases h1 : 45 < L.length
 ·have h1' : (45 : Int) < L.length := by omega
  rw [decide_eq_true h1]
  refine ZF (fn := Tryd.f4) [.tmp 4] ⟨Tryd.func4, rfl, by kernel_rfl⟩ fun x hx hσ => ?_
  (repeat refine ZQ ?_); refine ZR fun K hK => ?_; simp (maxSteps := 1000000) [ty4]; refine hK _ ?_; clear hK K
  (repeat refine ZQ ?_); refine ZR fun K hK => ?_; simp (maxSteps := 1000000) [ty22, ty9, ty3, ty4, h1']; refine hK _ ?_; clear hK K
  (repeat refine ZQ ?_); refine ZC (hc := by simp [h1]; rfl) (fun hd => ?_) (fun hd => ?_)
  ·clear hd
   (repeat refine ZQ ?_); refine ZR fun K hK => ?_; simp (maxSteps := 1000000) [ty4]; refine hK _ ?_; clear hK K
   (repeat refine ZQ ?_); refine awp_ret ?_; refine And.intro (Or.inr rfl) ?_
   simp [retC, resC, viewC, mapO]
  ·simp [h1] at hd
 ·have h1' : ¬ (45 : Int) < L.length := by omega
  rw [decide_eq_false h1]
  by_cases h2 : 9000 < f.length
  ·have h2' : (9000 : Int) < f.length := by omega
   rw [decide_eq_true h2]
   refine ZF (fn := Tryd.f4) [.tmp 4] ⟨Tryd.func4, rfl, by kernel_rfl⟩ fun x hx hσ => ?_
   (repeat refine ZQ ?_); refine ZR fun K hK => ?_; simp (maxSteps := 1000000) [ty4]; refine hK _ ?_; clear hK K
   (repeat refine ZQ ?_); refine ZR fun K hK => ?_; simp (maxSteps := 1000000) [ty22, ty9, ty3, ty4, h1', hsz, h2']; refine hK _ ?_; clear hK K
   (repeat refine ZQ ?_); refine ZC (hc := by simp [h2]; rfl) (fun hd => ?_) (fun hd => ?_)
   ·clear hd
    (repeat refine ZQ ?_); refine ZR fun K hK => ?_; simp (maxSteps := 1000000) [ty4]; refine hK _ ?_; clear hK K
    (repeat refine ZQ ?_); refine awp_ret ?_; refine And.intro (Or.inr rfl) ?_
    simp [retC, resC, viewC, mapO]
   ·simp [h2] at hd
  ·have h2' : ¬ (9000 : Int) < f.length := by omega
   rw [decide_eq_false h2]
   simp only [Bool.false_or]
   refine ZF (fn := Tryd.f4) [.tmp 4] ⟨Tryd.func4, rfl, by kernel_rfl⟩ fun x hx hσ => ?_
   (repeat refine ZQ ?_); refine ZR fun K hK => ?_; simp (maxSteps := 1000000) [ty4]; refine hK _ ?_; clear hK K
   (repeat refine ZQ ?_); refine ZR fun K hK => ?_; simp (maxSteps := 1000000) [ty22, ty9, ty3, ty4, h1', hsz, h2']; refine hK _ ?_; clear hK K
   (repeat refine ZQ ?_); refine ZC (hc := by simp [h2]; rfl) (fun hd => ?_) (fun hd => ?_)
   ·simp [h2] at hd
   ·clear hd
    refine awp_skip ?_
    (repeat refine ZQ ?_); refine ZR fun K hK => ?_; simp (maxSteps := 1000000) [ty3]; refine hK _ ?_; clear hK K
    (repeat refine ZQ ?_); refine awp_block ?_
    refine awp_loop (fun i : Nat => ⟨ofL [(0, sT nl fu L), (5, encI i)], stoT []⟩)
     (fun i => i ≤ L.length ∧ ∀ j (hj : j < L.length), j < i → L[j].length ≤ 200) (fun i => L.length - i) 0 ⟨Nat.zero_le _, fun j _ hj => absurd hj (by omega)⟩ ?_ ?_
    ·exact ZW
    ·intro i ⟨hi, hp⟩
     have w1 : IntKind.i64.wrap ((i : Int) + 1) = ((i + 1 : Nat) : Int) := by rw [wrap_id (by omega) (by omega)]; rfl
     (repeat refine ZQ ?_); refine ZR fun K hK => ?_; simp (maxSteps := 1000000) [ty22, ty3]; refine hK _ ?_; clear hK K
     (repeat refine ZQ ?_); refine ZC (fun hc => ?_) (fun hc => ?_)
     ·simp at hc
      refine awp_skip ?_
      (repeat refine ZQ ?_); refine awp_block ?_
      by_cases hb : 200 < L[i].length
      ·have hb' : (200 : Int) < L[i].length := by omega
       rw [List.any_eq_true.2 ⟨_, List.getElem_mem hc, decide_eq_true hb⟩]
       (repeat refine ZQ ?_); refine ZR fun K hK => ?_; simp (maxSteps := 1000000) [ty22, ty9, ty3, hc, hsL, hb']; refine hK _ ?_; clear hK K
       (repeat refine ZQ ?_); refine ZC (hc := by simp [hb]; rfl) (fun hd => ?_) (fun hd => ?_)
       ·clear hd
        (repeat refine ZQ ?_); refine ZR fun K hK => ?_; simp (maxSteps := 1000000) [ty4]; refine hK _ ?_; clear hK K
        (repeat refine ZQ ?_); refine awp_ret ?_; refine And.intro (Or.inr rfl) ?_
        simp [retC, resC, viewC, mapO]
       ·simp [hb] at hd
      ·have hb' : ¬ (200 : Int) < L[i].length := by omega
       (repeat refine ZQ ?_); refine ZR fun K hK => ?_; simp (maxSteps := 1000000) [ty22, ty9, ty3, hc, hsL, hb']; refine hK _ ?_; clear hK K
       (repeat refine ZQ ?_); refine ZC (hc := by simp [hb]; rfl) (fun hd => ?_) (fun hd => ?_)
       ·simp [hb] at hd
       ·clear hd
        refine awp_skip ?_
        (repeat refine ZQ ?_); refine ZR fun K hK => ?_; simp (maxSteps := 1000000) [ty3, w1]; refine hK _ ?_; clear hK K; (first | show AWP _ _ _ _ _ | show ∃ _, _ | skip)
        refine ⟨i + 1, ⟨by omega, fun j h1 h2 => ?_⟩, by omega, ?_⟩
        ·by_cases hji : j = i
         ·subst hji; omega
         ·exact hp j h1 (by omega)
        ·exact ZW
     ·simp at hc
      (repeat refine ZQ ?_); refine awp_exit ?_; (first | show AWP _ _ _ _ _ | show ∃ _, _ | skip)
      have hV : (L.any fun l => decide (200 < l.length)) = false := by
       rw [Bool.eq_false_iff]
       intro hh
       obtain ⟨l, hl, h3⟩ := List.any_eq_true.1 hh
       obtain ⟨j, hj, rfl⟩ := List.getElem_of_mem hl
       have := hp j hj (by omega)
       have := of_decide_eq_true h3
       omega
      rw [hV]
      (repeat refine ZQ ?_); refine ZR fun K hK => ?_; simp (maxSteps := 1000000) [ty4]; refine hK _ ?_; clear hK K
      (repeat refine ZQ ?_); refine awp_ret ?_; refine And.intro (Or.inr rfl) ?_
      simp [retC, resC, viewC, mapO]

set_option maxHeartbeats 8000000
set_option maxRecDepth 20000


def exF : List UInt8 := [49, 50, 48, 50, 97, 98, 50, 49, 10, 50, 50, 48, 49, 99, 32, 50, 48, 10, 97, 50, 51, 50, 51, 53, 51, 53, 54, 54, 48, 54, 10, 98, 50, 52, 56, 53, 50, 48, 53, 54, 54, 48, 53, 10, 10]
def exT : List (List UInt8) := [[97, 98], [99]]
def exR : List UInt8 := [97, 50, 51, 50, 51, 53, 51, 53, 54, 54, 48, 54, 10, 98, 50, 52, 56, 53, 50, 48, 53, 54, 54, 48, 53, 10, 10]

theorem ex_texts : textsE exT = 0 := by decide
theorem ex_file : fileB exT = exF := by kernel_rfl
def exL1 : List (List UInt8) := [[97, 50, 51, 50, 51, 53, 51, 53, 54, 54, 48, 54], [98, 50, 52, 56, 53, 50, 48, 53, 54, 54, 48, 53]]
def exL2 : List (List UInt8) := [[49, 50, 48, 50, 97, 98, 50, 49], [50, 50, 48, 49, 99, 32, 50, 48], [97, 50, 51, 50, 51, 53, 51, 53, 54, 54, 48, 54], [98, 50, 52, 56, 53, 50, 48, 53, 54, 54, 48, 53]]
theorem split_eq (p l : List UInt8) : splitL p l = Lib.split l p := by
 unfold splitL
 rw [Lib.splitB_data]
 rw [S_list, S_list]
 rfl
theorem ex_cut1 : cutB exR = some [⟨false, true, exL1⟩] := by
 unfold cutB cutP badF
 simp only [split_eq]
 kernel_rfl
theorem ex_cut2 : cutB exF = some [⟨false, true, exL2⟩] := by
 unfold cutB cutP badF
 simp only [split_eq]
 kernel_rfl
theorem ex_read : rE exR = 0 ∧ rTx exR = exT ∧ rLo exR = [0, 1] := by
 have h : rP exR = [⟨false, true, exL1⟩] := by unfold rP; rw [ex_cut1]; rfl
 unfold rE rTx rLo
 rw [h, ex_cut1]
 refine ⟨?_, ?_, ?_⟩ <;> kernel_rfl
theorem ex_bad : (cutB exF).isSome = true ∧ bdL exF = [] := by
 have h : rP exF = [⟨false, true, exL2⟩] := by unfold rP; rw [ex_cut2]; rfl
 unfold bdL
 rw [h, ex_cut2]
 refine ⟨rfl, ?_⟩
 kernel_rfl

theorem l_works11 : Pure Tryd.prog 5 [] (.bool true) := by
 have hW : writeB exT = .tup [encS exF, encI 0] := by unfold writeB; rw [ex_texts, if_pos rfl, ex_file]
 have c12 : Pure Tryd.prog 7 [.sl false true [[.str ⟨#[97, 98]⟩], [.str ⟨#[99]⟩]]] (.tup [encS exF, encI 0]) := hW ▸ write12 false true exT (by decide)
 have c16 := read16 exR (by decide)
 obtain ⟨r1, r2, r3⟩ := ex_read
 rw [r1, r2, r3] at c16
 have c16 : Pure Tryd.prog 8 [encS exR] (.tup [sT false false exT, .sl false false [[encI 0], [encI 1]], encI 0]) := c16
 have c17 := bad17 exF (by decide)
 obtain ⟨b1, b2⟩ := ex_bad
 rw [b1, b2] at c17
 have c17' : Pure Tryd.prog 9 [.str ⟨#[49, 50, 48, 50, 97, 98, 50, 49, 10, 50, 50, 48, 49, 99, 32, 50, 48, 10, 97, 50, 51, 50, 51, 53, 51, 53, 54, 54, 48, 54, 10, 98, 50, 52, 56, 53, 50, 48, 53, 54, 54, 48, 53, 10, 10]⟩] (.tup [.sl true false [], encI 0]) := c17
 have hq := str_eq exF exF
 rw [beq_self_eq_true] at hq
 have hq' : strBin .eql (S exF) ⟨#[49, 50, 48, 50, 97, 98, 50, 49, 10, 50, 50, 48, 49, 99, 32, 50, 48, 10, 97, 50, 51, 50, 51, 53, 51, 53, 54, 54, 48, 54, 10, 98, 50, 52, 56, 53, 50, 48, 53, 54, 54, 48, 53, 10, 10]⟩ = some (.bool true) := hq
 have c18 := l_sameT18 false false false true exT exT (by decide)
 rw [beq_self_eq_true] at c18
 have c18' : Pure Tryd.prog 10 [sT false false exT, .sl false true [[.str ⟨#[97, 98]⟩], [.str ⟨#[99]⟩]]] (.bool true) := c18
 have c19 := l_sameI19 false false false true [0, 1] [0, 1] (by decide)
 rw [show (([0, 1] : List Int) == [0, 1]) = true by decide] at c19
 have c19' : Pure Tryd.prog 11 [.sl false false [[encI 0], [encI 1]], .sl false true [[encI 0], [encI 1]]] (.bool true) := c19
 have hex : ByteArray.extract ⟨#[49, 50, 48, 50, 97, 98, 50, 49, 10, 50, 50, 48, 49, 99, 32, 50, 48, 10, 97, 50, 51, 50, 51, 53, 51, 53, 54, 54, 48, 54, 10, 98, 50, 52, 56, 53, 50, 48, 53, 54, 54, 48, 53, 10, 10]⟩ 18 (ByteArray.size ⟨#[49, 50, 48, 50, 97, 98, 50, 49, 10, 50, 50, 48, 49, 99, 32, 50, 48, 10, 97, 50, 51, 50, 51, 53, 51, 53, 54, 54, 48, 54, 10, 98, 50, 52, 56, 53, 50, 48, 53, 54, 54, 48, 53, 10, 10]⟩) = S exR := (S_ext exF 18 45).trans rfl
 have c16' : Pure Tryd.prog 8 [.str (ByteArray.extract ⟨#[49, 50, 48, 50, 97, 98, 50, 49, 10, 50, 50, 48, 49, 99, 32, 50, 48, 10, 97, 50, 51, 50, 51, 53, 51, 53, 54, 54, 48, 54, 10, 98, 50, 52, 56, 53, 50, 48, 53, 54, 54, 48, 53, 10, 10]⟩ 18 (ByteArray.size ⟨#[49, 50, 48, 50, 97, 98, 50, 49, 10, 50, 50, 48, 49, 99, 32, 50, 48, 10, 97, 50, 51, 50, 51, 53, 51, 53, 54, 54, 48, 54, 10, 98, 50, 52, 56, 53, 50, 48, 53, 54, 54, 48, 53, 10, 10]⟩))] (.tup [sT false false exT, .sl false false [[encI 0], [encI 1]], encI 0]) := by rw [hex]; exact c16
 clear hex c16 c17 hq c18 c19
 generalize exT = T at *
 generalize exR = R at *
 generalize exF = F at *
 refine ZF (fn := Tryd.f5) [.tmp 0] ⟨Tryd.func5, rfl, by kernel_rfl⟩ fun x hx hσ => ?_
 (repeat refine ZQ ?_); refine ZR fun K hK => ?_; simp (maxSteps := 1000000) [ty4]; refine hK _ ?_; clear hK K
 (repeat refine ZQ ?_); refine ZR fun K hK => ?_; simp (maxSteps := 1000000) [ty22, ty9]
 refine ZP (c12) ?_; simp (maxSteps := 1000000) [ty9, ty26]
 refine hK _ ?_; clear hK K
 (repeat refine ZQ ?_); refine ZR fun K hK => ?_; simp (maxSteps := 1000000) [ty9]
 refine ⟨by decide, ?_⟩
 refine ZP (c16') ?_; simp (maxSteps := 1000000) [ty22, ty29, ty26]
 refine hK _ ?_; clear hK K
 (repeat refine ZQ ?_); refine ZR fun K hK => ?_; simp (maxSteps := 1000000) [ty9]
 refine ZP (c17') ?_; simp (maxSteps := 1000000) [ty29, ty26]
 refine hK _ ?_; clear hK K
 (repeat refine ZQ ?_); refine ZR fun K hK => ?_; simp (maxSteps := 1000000) [ty26, ty9, ty22, ty29, ty3, ty4, hq', -strBin]
 refine ZP (c18') ?_; simp (maxSteps := 1000000) [ty26, ty9, ty22, ty29, ty3, ty4]
 refine ZP (c19') ?_; simp (maxSteps := 1000000) [ty26, ty9, ty22, ty29, ty3, ty4]
 refine hK _ ?_; clear hK K
 (repeat refine ZQ ?_); refine awp_ret ?_; refine And.intro (Or.inr rfl) ?_
 simp [retC, resC, viewC, mapO]

set_option maxHeartbeats 8000000
set_option maxRecDepth 20000


theorem far_not {L : List (List UInt8)} {f : List UInt8} (h : farB L f = false) : L.length ≤ 45 ∧ (∀ l ∈ L, l.length ≤ 200) ∧ f.length ≤ 9000 := by
 unfold farB at h
 simp only [Bool.or_eq_false_iff, decide_eq_false_iff_not, List.any_eq_false, decide_eq_true_eq] at h
 exact ⟨by omega, fun l hl => by have := h.2 l hl; omega, by omega⟩

set_option maxHeartbeats 4000000
set_option maxRecDepth 20000


def turnTo (c : Ls) (b i : Nat) : Ls := (List.range i).map fun k => c.getD ((k + b) % c.length) []
def okT (c : Ls) (t : Int) : Bool := decide (0 ≤ t) && decide (t < (c.length : Int))
def twTo (c : Ls) (tw : List Int) (i : Nat) : Ls := ((tw.take i).filter (okT c)).map fun t => c.getD t.toNat []
def strL (st : List UInt8) : Ls := if st = [] then [] else [st]
def mixB (b : Nat) (tw : List Int) (st : List UInt8) (c : Ls) : Ls := turnTo c b c.length ++ twTo c tw tw.length ++ strL st

theorem lines_len {p : Ls} {n : Nat} (h : ∀ l ∈ p, l.length ≤ n) : (p.flatMap lineB).length ≤ p.length * (n + 1) := by
 induction p with
 | nil => simp
 | cons l p ih =>
  have h1 := h l (by simp)
  have h2 := ih fun x hx => h x (by simp [hx])
  simp only [List.flatMap_cons, List.length_append, List.length_cons, Nat.add_mul, lineB]
  simp only [List.length_nil]
  omega
theorem wr_len {P : List Ls} {n : Nat} (h : ∀ p ∈ P, (packL p).length ≤ n) : (wrL P).length ≤ P.length * n := by
 induction P with
 | nil => simp [wrL]
 | cons l p ih =>
  have h1 := h l (by simp)
  have h2 := ih fun x hx => h x (by simp [hx])
  unfold wrL at h2 ⊢
  simp only [List.flatMap_cons, List.length_append, List.length_cons, Nat.add_mul]
  omega

def mixF (b : Nat) (tw : List Int) (st : List UInt8) (L : Ls) : List Ls := (chunksB L).map fun T => mixB b tw st (cardsB T)

set_option maxHeartbeats 8000000
set_option maxRecDepth 20000


def areB (L : List (List UInt8)) : Bool := !farB L [] && (textsE L == 0)

theorem l_areTexts10 (nl fu : Bool) (L : List (List UInt8)) : Pure Tryd.prog 6 [sT nl fu L] (.bool (areB L)) := by
 have cF := l_far25 nl fu L [] ⟨#[]⟩ rfl
 unfold areB
 cases hf : farB L [] with
 | true =>
  rw [hf] at cF
  refine ZF (fn := Tryd.f6) [.tmp 2] ⟨Tryd.func6, rfl, by kernel_rfl⟩ fun x hx hσ => ?_
  (repeat refine ZQ ?_); refine ZR fun K hK => ?_; simp (maxSteps := 1000000) [ty4]; refine hK _ ?_; clear hK K
  (repeat refine ZQ ?_); refine ZR fun K hK => ?_; simp (maxSteps := 1000000) [ty22, ty9]
  refine ZP (cF) ?_; simp (maxSteps := 1000000) [ty4]
  refine hK _ ?_; clear hK K
  (repeat refine ZQ ?_); refine awp_ret ?_; refine And.intro (Or.inr rfl) ?_
  simp [retC, resC, viewC, mapO]
 | false =>
  rw [hf] at cF
  obtain ⟨h1, h2, h3⟩ := far_not hf
  have cT := q_areTexts31 nl fu L (fun l hl => by have := h2 l hl; omega)
  refine ZF (fn := Tryd.f6) [.tmp 2] ⟨Tryd.func6, rfl, by kernel_rfl⟩ fun x hx hσ => ?_
  (repeat refine ZQ ?_); refine ZR fun K hK => ?_; simp (maxSteps := 1000000) [ty4]; refine hK _ ?_; clear hK K
  (repeat refine ZQ ?_); refine ZR fun K hK => ?_; simp (maxSteps := 1000000) [ty22, ty9]
  refine ZP (cF) ?_; simp (maxSteps := 1000000) [ty4]
  refine ZP (cT) ?_; simp (maxSteps := 1000000) [ty4, ty26]
  refine hK _ ?_; clear hK K
  (repeat refine ZQ ?_); refine awp_ret ?_; refine And.intro (Or.inr rfl) ?_
  simp [retC, resC, viewC, mapO]

theorem are_ok {L : List (List UInt8)} (h : areB L = true) : L.length ≤ 40 ∧ L.all textB = true ∧ textsE L = 0 := by
 unfold areB at h
 simp only [Bool.and_eq_true, Bool.not_eq_true', beq_iff_eq] at h
 have h2 := h.2
 unfold textsE at h2
 split at h2
 ·simp at h2
 ·split at h2
  ·rename_i g1 g2
   exact ⟨by omega, g2, h.2⟩
  ·simp at h2

set_option maxHeartbeats 4000000
set_option maxRecDepth 20000


theorem read_texts {l : List UInt8} (h : rE l = 0) : areB (rTx l) = true ∧ (rTx l).length ≤ 40 ∧ (rTx l).all textB = true := by
 unfold rE at h
 split at h
 ·unfold readE at h
  split at h
  ·rename_i ha
   split at h
   ·cases h
   ·rename_i hb
    have h40 : (rTx l).length ≤ 40 := by
     unfold rTx
     simp at hb; omega
    have hx : ∀ t ∈ rTx l, textB t = true := fun t ht => by
     unfold rTx rdT at ht
     rw [List.take_length] at ht
     obtain ⟨p, hp, ht⟩ := List.mem_flatMap.1 ht
     have hs := List.all_eq_true.1 ha p hp
     cases hu : unpackB p.l with
     | none => rw [hu] at hs; cases hs
     | some u =>
      obtain ⟨T, M⟩ := u
      have e : uT p = T := by unfold uT; rw [hu]; rfl
      rw [e] at ht
      exact (unpack_is hu).1.text t ht
    have hall : (rTx l).all textB = true := List.all_eq_true.2 hx
    refine ⟨?_, h40, hall⟩
    unfold areB textsE farB
    rw [if_neg (by omega), if_pos hall]
    simp only [Bool.and_eq_true, Bool.not_eq_true', Bool.or_eq_false_iff, decide_eq_false_iff_not, List.any_eq_false, decide_eq_true_eq]
    refine ⟨⟨⟨by omega, by simp⟩, fun t ht => ?_⟩, by rfl⟩
    have := hx t ht
    unfold textB at this
    rw [Bool.and_eq_true, decide_eq_true_eq] at this
    omega
  ·cases h
 ·cases h

set_option maxHeartbeats 8000000
set_option maxRecDepth 20000


theorem farS {o : List UInt8} (h : farB [] o = false) : o.length ≤ 9000 := (far_not h).2.2

theorem file_len9 {L : List (List UInt8)} (h : L.length ≤ 40) (ha : L.all textB = true) : (fileB L).length ≤ 50000 := by
 rw [wrL_file]
 have := wr_len (P := (chunksB L).map cardsB) (n := 2000) fun p hp => by
  obtain ⟨q, hq, rfl⟩ := List.mem_map.1 hp
  have hok := chunk_ok ha hq
  have hc := cards_len hok
  have hm := hok.many
  have := lines_len (p := cardsB q) (n := 130) hc.2
  unfold packL
  simp only [List.length_append, List.length_cons, List.length_nil]
  omega
 rw [List.length_map, chunks_len] at this
 omega

theorem law3 (nl fu : Bool) (L : List (List UInt8)) (o : List UInt8) : Pure Tryd.prog 3 [sT nl fu L, encS o] (.bool true) := by
 have cF := l_far25 true true [] o (S o) rfl
 have cW := l_works11
 have cA := l_areTexts10 nl fu L
 have w0 : IntKind.i64.wrap 0 = 0 := wrap_id (by omega) (by omega)
 cases hf : farB [] o with
 | true =>
  rw [hf] at cF
  refine ZF (fn := Tryd.f3) [.tmp 4] ⟨Tryd.func3, rfl, by kernel_rfl⟩ fun x hx hσ => ?_
  (repeat refine ZQ ?_); refine ZR fun K hK => ?_; simp (maxSteps := 1000000) [ty4]; refine hK _ ?_; clear hK K
  (repeat refine ZQ ?_); refine ZR fun K hK => ?_; simp (maxSteps := 1000000) [ty22, ty9]
  refine ZP (cF) ?_; simp (maxSteps := 1000000) [ty4]
  refine hK _ ?_; clear hK K
  (repeat refine ZQ ?_); refine ZC (fun hd => ?_) (fun hd => ?_)
  ·clear hd
   (repeat refine ZQ ?_); refine ZR fun K hK => ?_; simp (maxSteps := 1000000) [ty4]
   refine ZP (cW) ?_; simp (maxSteps := 1000000) [ty4]
   refine hK _ ?_; clear hK K
   (repeat refine ZQ ?_); refine awp_ret ?_; refine And.intro (Or.inr rfl) ?_
   simp [retC, resC, viewC, mapO]
  ·simp at hd
 | false =>
  rw [hf] at cF
  have hol := farS hf
  have cR := read16 o (by omega)
  refine ZF (fn := Tryd.f3) [.tmp 4] ⟨Tryd.func3, rfl, by kernel_rfl⟩ fun x hx hσ => ?_
  (repeat refine ZQ ?_); refine ZR fun K hK => ?_; simp (maxSteps := 1000000) [ty4]; refine hK _ ?_; clear hK K
  (repeat refine ZQ ?_); refine ZR fun K hK => ?_; simp (maxSteps := 1000000) [ty22, ty9]
  refine ZP (cF) ?_; simp (maxSteps := 1000000) [ty4]
  refine hK _ ?_; clear hK K
  (repeat refine ZQ ?_); refine ZC (fun hd => ?_) (fun hd => ?_)
  ·simp at hd
  ·clear hd
   refine awp_skip ?_
   refine awp_mid ⟨ofL [(1, encS o)], stoT []⟩ ?_ ?_
   ·cases hA : areB L with
    | false =>
     rw [hA] at cA
     (repeat refine ZQ ?_); refine ZR fun K hK => ?_; simp (maxSteps := 1000000) [ty22]
     refine ZP (cA) ?_; simp (maxSteps := 1000000) [ty4]
     refine hK _ ?_; clear hK K
     (repeat refine ZQ ?_); refine ZC (fun hd => ?_) (fun hd => ?_)
     ·simp at hd
     ·clear hd
      refine awp_skip ?_; (first | show AWP _ _ _ _ _ | show ∃ _, _ | skip)
      exact ZW
    | true =>
     rw [hA] at cA
     obtain ⟨h40, hat, hE⟩ := are_ok hA
     have c12 := write12_ok nl fu L h40 hat
     have hfl := file_len9 h40 hat
     obtain ⟨r1, r2, r3, r4, r5⟩ := read_file h40 hat
     have c16 := read16 (fileB L) hfl
     have c17 := bad17 (fileB L) hfl
     have c18 := l_sameT18 L.isEmpty false nl fu L L (by omega)
     rw [beq_self_eq_true] at c18
     rw [r1, r2, r3] at c16
     rw [r4, r5] at c17
     simp only [encRd, encBd, if_true] at c16 c17
     generalize fileB L = F at *
     (repeat refine ZQ ?_); refine ZR fun K hK => ?_; simp (maxSteps := 1000000) [ty22]
     refine ZP (cA) ?_; simp (maxSteps := 1000000) [ty4]
     refine hK _ ?_; clear hK K
     (repeat refine ZQ ?_); refine ZC (fun hd => ?_) (fun hd => ?_)
     ·clear hd
      (repeat refine ZQ ?_); refine ZR fun K hK => ?_; simp (maxSteps := 1000000) [ty22]
      refine ZP (c12) ?_; simp (maxSteps := 1000000) [ty9, ty26]
      refine hK _ ?_; clear hK K
      (repeat refine ZQ ?_); refine ZR fun K hK => ?_; simp (maxSteps := 1000000) [ty9]
      refine ZP (c16) ?_; simp (maxSteps := 1000000) [ty22, ty29, ty26]
      refine hK _ ?_; clear hK K
      (repeat refine ZQ ?_); refine ZR fun K hK => ?_; simp (maxSteps := 1000000) [ty9]
      refine ZP (c17) ?_; simp (maxSteps := 1000000) [ty29, ty26]
      refine hK _ ?_; clear hK K
      (repeat refine ZQ ?_); refine ZR fun K hK => ?_; simp (maxSteps := 1000000) [ty22, ty29, ty26, ty3, ty4]
      refine ZP (c18) ?_; simp (maxSteps := 1000000) [ty22, ty29, ty26, ty3, ty4, w0]
      refine hK _ ?_; clear hK K
      (repeat refine ZQ ?_); refine ZC (fun hd => ?_) (fun hd => ?_)
      ·simp at hd
      ·clear hd
       refine awp_skip ?_; (first | show AWP _ _ _ _ _ | show ∃ _, _ | skip)
       exact ZW
     ·simp at hd
   ·clear cA
    by_cases h0 : rE o = 0
    ·obtain ⟨a1, a2, a3⟩ := read_texts h0
     rw [h0] at cR
     simp only [encRd, if_true] at cR
     generalize rTx o = T at *
     generalize rLo o = M at *
     have cA2 := l_areTexts10 T.isEmpty false T
     rw [a1] at cA2
     have c12 := write12_ok T.isEmpty false T a2 a3
     have hfl := file_len9 a2 a3
     obtain ⟨r1, r2, r3, r4, r5⟩ := read_file a2 a3
     have c16 := read16 (fileB T) hfl
     have c18 := l_sameT18 T.isEmpty false T.isEmpty false T T (by omega)
     rw [beq_self_eq_true] at c18
     rw [r1, r2, r3] at c16
     simp only [encRd, if_true] at c16
     generalize fileB T = F at *
     (repeat refine ZQ ?_); refine ZR fun K hK => ?_; simp (maxSteps := 1000000) [ty9]
     refine ZP (cR) ?_; simp (maxSteps := 1000000) [ty22, ty29, ty26]
     refine hK _ ?_; clear hK K
     (repeat refine ZQ ?_); refine ZR fun K hK => ?_; simp (maxSteps := 1000000) [ty26, ty4]; refine hK _ ?_; clear hK K
     (repeat refine ZQ ?_); refine ZC (fun hd => ?_) (fun hd => ?_)
     ·simp at hd
     ·clear hd
      refine awp_skip ?_
      (repeat refine ZQ ?_); refine ZR fun K hK => ?_; simp (maxSteps := 1000000) [ty22]
      refine ZP (cA2) ?_; simp (maxSteps := 1000000) [ty4]
      refine hK _ ?_; clear hK K
      (repeat refine ZQ ?_); refine ZC (fun hd => ?_) (fun hd => ?_)
      ·simp at hd
      ·clear hd
       refine awp_skip ?_
       (repeat refine ZQ ?_); refine ZR fun K hK => ?_; simp (maxSteps := 1000000) [ty22]
       refine ZP (c12) ?_; simp (maxSteps := 1000000) [ty9, ty26]
       refine hK _ ?_; clear hK K
       (repeat refine ZQ ?_); refine ZR fun K hK => ?_; simp (maxSteps := 1000000) [ty9]
       refine ZP (c16) ?_; simp (maxSteps := 1000000) [ty22, ty29, ty26]
       refine hK _ ?_; clear hK K
       (repeat refine ZQ ?_); refine ZR fun K hK => ?_; simp (maxSteps := 1000000) [ty22, ty29, ty26, ty3, ty4]
       refine ZP (c18) ?_; simp (maxSteps := 1000000) [ty22, ty29, ty26, ty3, ty4]
       refine ZP (cW) ?_; simp (maxSteps := 1000000) [ty22, ty29, ty26, ty3, ty4]
       refine hK _ ?_; clear hK K
       (repeat refine ZQ ?_); refine awp_ret ?_; refine And.intro (Or.inr rfl) ?_
       simp [retC, resC, viewC, mapO]
    ·simp only [encRd, if_neg h0] at cR
     have hne : (rE o != 0) = true := by rw [bne_iff_ne]; exact h0
     generalize rE o = e at *
     (repeat refine ZQ ?_); refine ZR fun K hK => ?_; simp (maxSteps := 1000000) [ty9]
     refine ZP (cR) ?_; simp (maxSteps := 1000000) [ty22, ty29, ty26]
     refine hK _ ?_; clear hK K
     (repeat refine ZQ ?_); refine ZR fun K hK => ?_; simp (maxSteps := 1000000) [ty26, ty4, hne, h0]; refine hK _ ?_; clear hK K
     (repeat refine ZQ ?_); refine ZC (hc := by simp [h0]; rfl) (fun hd => ?_) (fun hd => ?_)
     ·clear hd
      (repeat refine ZQ ?_); refine ZR fun K hK => ?_; simp (maxSteps := 1000000) [ty4]
      refine ZP (cW) ?_; simp (maxSteps := 1000000) [ty4]
      refine hK _ ?_; clear hK K
      (repeat refine ZQ ?_); refine awp_ret ?_; refine And.intro (Or.inr rfl) ?_
      simp [retC, resC, viewC, mapO]
     ·simp [h0] at hd

end Go.Proofs.YtgnpcijgdhjfpaaDoor

/- What comes in, as data; and how a law's statement follows from a contract of data. No condition. -/
namespace Go.Abs
open Go.ChangeShapes Go.WideShapes Go.ChangeAt Go.RowKit

inductive Sh where
 | int (k : IntKind)
 | bool
 | str
 | sl (l : List Sh)

mutual
def Fit : Sh → C → Prop
 | .int k, c => ∃ n, c = .int k n ∧ (Lit.int k n).wf = true
 | .bool, c => ∃ b, c = .bool b
 | .str, c => ∃ s : ByteArray, c = .str s ∧ s.size ≤ maxLen
 | .sl l, c => ∃ nl rows, c = .sl nl false rows ∧ (nl = true → rows = []) ∧ rows.length ≤ maxLen ∧ ∀ row ∈ rows, FitL l row
def FitL : List Sh → List C → Prop
 | [], m => m = []
 | s :: l, m => ∃ c r, m = c :: r ∧ Fit s c ∧ FitL l r
end

def shFs (P : Program) (g : TypeId → Option (List Sh)) : Nat → List Field → Option (List Sh)
 | _, [] => some []
 | o, f :: fs => match g f.type, shFs P g (o + P.cellsOf f.type) fs with
  | some l, some m => if f.offset = o ∧ l.length = P.cellsOf f.type then some (l ++ m) else none
  | _, _ => none

def shT (P : Program) : Nat → TypeId → Option (List Sh)
 | 0, _ => none
 | n + 1, t => match P.underlying t with
  | some (.int k) => some [.int k]
  | some .bool => some [.bool]
  | some .string => some [.str]
  | some (.slice e) => match shT P n e with
   | some l => if l.length = P.cellsOf e ∧ 0 < l.length then some [.sl l] else none
   | none => none
  | some (.struct fs) => match shFs P (shT P n) 0 fs.toList with
   | some l => if l.length = P.cellsOf t then some l else none
   | none => none
  | _ => none

theorem FitL.len : ∀ {l : List Sh} {m : List C}, FitL l m → m.length = l.length
 | [], m, h => by simp only [FitL] at h; subst h; rfl
 | s :: l, m, h => by
  simp only [FitL] at h
  obtain ⟨c, r, rfl, _, h⟩ := h
  simp [FitL.len h]

theorem FitL.append : ∀ {l l' : List Sh} {m m' : List C}, FitL l m → FitL l' m' → FitL (l ++ l') (m ++ m')
 | [], l', m, m', h, h' => by simp only [FitL] at h; subst h; exact h'
 | s :: l, l', m, m', h, h' => by
  simp only [FitL] at h
  obtain ⟨c, r, rfl, h1, h2⟩ := h
  simp only [List.cons_append, FitL]
  exact ⟨c, r ++ m', rfl, h1, h2.append h'⟩

def anyG : Nat → Prop := fun _ => True

def OpL (W : World) (m : List C) (cs : List Value) : Prop := m.length = cs.length ∧ ∀ (i : Nat) (c : C), m[i]? = some c → PR anyG W c (cs[i]?.getD undef) ∧ c.cell = true

theorem exists_list {α : Type} {Q : Nat → α → Prop} : ∀ {n : Nat}, (∀ i, i < n → ∃ x, Q i x) → ∃ l : List α, l.length = n ∧ ∀ i x, l[i]? = some x → Q i x
 | 0, _ => ⟨[], rfl, by simp⟩
 | n + 1, h => by
  obtain ⟨l, h1, h2⟩ := exists_list (n := n) fun i hi => h i (by omega)
  obtain ⟨x, hx⟩ := h n (by omega)
  refine ⟨l ++ [x], by simp [h1], fun i y hy => ?_⟩
  rcases Nat.lt_or_ge i l.length with hlt | hge
  ·rw [List.getElem?_append_left hlt] at hy
   exact h2 i y hy
  ·rw [List.getElem?_append_right hge] at hy
   have : i = n := by
    have := (List.getElem?_eq_some_iff.1 hy).1
    simp at this; omega
   subst this
   rw [h1, Nat.sub_self] at hy
   simp at hy
   subst hy; exact hx

section
variable {H : Type} {enc : TypeId × Value → H} {P : Program} {W : World}

theorem spot_of {a : Addr} {q n : Nat} {v : Value} (h : W.cell? ((a.add q).add n) = some v) (h0 : q = 0 ∧ n = 0) : a.spot = none := by
 obtain ⟨rfl, rfl⟩ := h0
 simp only [Addr.add, if_true] at h
 unfold World.cell? at h
 split at h
 ·split at h
  ·simp at h
  ·rename_i hs
   cases hsp : a.spot with
   | none => rfl
   | some z => simp [hsp] at hs
 ·simp at h

theorem addr_full {a : Addr} (h : a.spot = none) (q n : Nat) : (a.add q).add n = ⟨a.block, a.off + (q + n), none⟩ := by
 obtain ⟨b, o, s⟩ := a
 simp only at h
 subst h
 rw [addr_add, addr_add, Nat.add_assoc]

theorem cells_at {a : Addr} {n : Nat} {cs : List Value} (h : W.cells? 0 a n = some cs) : cs.length = n ∧ ∀ i, i < n → W.cell? (a.add i) = cs[i]? := by
 unfold World.cells? at h
 rw [if_pos (Nat.zero_le _)] at h
 refine ⟨by simpa using mapM_some_length h, fun i hi => ?_⟩
 exact mapM_some_get h i i (by rw [List.getElem?_range hi])

theorem block_lt {a : Addr} {v : Value} (h : W.cell? a = some v) : a.block < W.heap.size := by
 unfold World.cell? at h
 split at h
 ·rename_i hh; exact (Array.getElem?_eq_some_iff.1 hh).1
 ·simp at h

theorem open_sound : ∀ (n : Nat) {fuel : Nat} {t : TypeId} {cs : List Value} {x : DataW H × List MemPlace} {shs : List Sh}, shT P n t = some shs → DataW.trod enc P W 0 (fun _ => true) true fuel t cs = some x →
  ∃ m, FitL shs m ∧ OpL W m cs
 | 0, _, _, _, _, _, h, _ => by simp [shT] at h
 | n + 1, fuel, t, cs, x, shs, h, ht => by
  unfold shT at h
  split at h
  ·rename_i k hk
   simp only [Option.some.injEq] at h
   subst h
   obtain ⟨z, rfl, _, hw⟩ := DataW.trod_int hk ht
   refine ⟨[.int k z], ⟨_, _, rfl, ⟨z, rfl, hw⟩, rfl⟩, rfl, fun i c hi => ?_⟩
   cases i with
   | zero => simp at hi; subst hi; exact ⟨.int _ _, rfl⟩
   | succ i => simp at hi
  ·rename_i hk
   simp only [Option.some.injEq] at h
   subst h
   obtain ⟨z, rfl, _⟩ := DataW.trod_bool hk ht
   refine ⟨[.bool z], ⟨_, _, rfl, ⟨z, rfl⟩, rfl⟩, rfl, fun i c hi => ?_⟩
   cases i with
   | zero => simp at hi; subst hi; exact ⟨.bool _, rfl⟩
   | succ i => simp at hi
  ·rename_i hk
   simp only [Option.some.injEq] at h
   subst h
   obtain ⟨z, rfl, _, hz⟩ := DataW.trod_string hk ht
   refine ⟨[.str z], ⟨_, _, rfl, ⟨z, rfl, hz⟩, rfl⟩, rfl, fun i c hi => ?_⟩
   cases i with
   | zero => simp at hi; subst hi; exact ⟨.str _, rfl⟩
   | succ i => simp at hi
  ·rename_i e hk
   split at h
   ·rename_i l hl
    split at h
    ·rename_i hc
     obtain ⟨hc1, hc2⟩ := hc
     simp only [Option.some.injEq] at h
     subst h
     have one : ∀ {nl : Bool} {rows : List (List C)} {v : Value}, cs = [v] → (nl = true → rows = []) → rows.length ≤ maxLen → (∀ row ∈ rows, FitL l row) → PR anyG W (.sl nl false rows) v → ∃ m, FitL [.sl l] m ∧ OpL W m cs := by
      intro nl rows v hcs h1 h2 h3 h4
      subst hcs
      refine ⟨[.sl nl false rows], ⟨_, _, rfl, ⟨nl, rows, rfl, h1, h2, h3⟩, rfl⟩, rfl, fun i c hi => ?_⟩
      cases i with
      | zero => simp at hi; subst hi; exact ⟨h4, rfl⟩
      | succ i => simp at hi
     rcases DataW.trod_slice hk ht with ⟨rfl, _⟩ | ⟨a, len, cap, elems, rest, q, _, rfl, _, hb, hlc, hcm, hel, hat, hsp, _⟩
     ·exact one rfl (fun _ => rfl) (by simp) (by simp) (.slnil _)
     ·obtain ⟨hrl, hrat⟩ := hsp rfl
      by_cases hcap : cap = 0
      ·have : len = 0 := by omega
       subst this
       subst hcap
       exact one (nl := false) (rows := []) rfl (by simp) (by simp) (by simp) (.slemp _ _)
      ·have hspot : a.spot = none ∧ a.block < W.heap.size := by
        by_cases h0 : len = 0
        ·have := hrat 0 (by omega)
         rw [List.getElem?_eq_getElem (by omega), Option.bind_eq_some_iff] at this
         obtain ⟨cs0, g1, _⟩ := this
         obtain ⟨g2, g3⟩ := cells_at g1
         have g4 := g3 0 (by omega)
         rw [List.getElem?_eq_getElem (by omega), h0] at g4
         have hs := spot_of g4 ⟨by simp, rfl⟩
         refine ⟨hs, ?_⟩
         have := block_lt g4
         rw [addr_full hs] at this
         exact this
        ·have := hat 0 (by omega)
         rw [List.getElem?_eq_getElem (by omega), Option.bind_eq_some_iff] at this
         obtain ⟨cs0, g1, _⟩ := this
         obtain ⟨g2, g3⟩ := cells_at g1
         have g4 := g3 0 (by omega)
         rw [List.getElem?_eq_getElem (by omega)] at g4
         have hs := spot_of g4 ⟨by simp, rfl⟩
         refine ⟨hs, ?_⟩
         have := block_lt g4
         rw [addr_full hs] at this
         exact this
       obtain ⟨hs, hlt⟩ := hspot
       have hrow : ∀ i, i < len → ∃ row, FitL l row ∧ ∀ (j : Nat) (c : C), row[j]? = some c → ∃ v, W.cell? ⟨a.block, a.off + (i * P.cellsOf e + j), none⟩ = some v ∧ PR anyG W c v ∧ c.cell = true := by
        intro i hi
        have h1 := hat i hi
        rw [List.getElem?_eq_getElem (by omega), Option.bind_eq_some_iff] at h1
        obtain ⟨cs0, g1, g2⟩ := h1
        obtain ⟨g3, g4⟩ := cells_at g1
        obtain ⟨row, r1, r2, r3⟩ := open_sound n hl g2
        refine ⟨row, r1, fun j c hj => ?_⟩
        have hjl : j < row.length := (List.getElem?_eq_some_iff.1 hj).1
        have g5 := g4 j (by omega)
        rw [addr_full hs] at g5
        obtain ⟨r4, r5⟩ := r3 j c hj
        rw [List.getElem?_eq_getElem (by omega)] at g5 r4
        exact ⟨_, g5, r4, r5⟩
       obtain ⟨rows, w1, w2⟩ := exists_list hrow
       refine one (nl := false) (rows := rows) rfl (by simp) (by omega) (fun row hr => ?_) ?_
       ·obtain ⟨i, hi, rfl⟩ := List.getElem_of_mem hr
        exact (w2 i _ (List.getElem?_eq_getElem hi)).1
       ·obtain ⟨b, o, s⟩ := a
        simp only at hs hlt
        subst hs
        refine .sl (sz := P.cellsOf e) (fun i j => (W.cell? ⟨b, o + (i * P.cellsOf e + j), none⟩).getD undef) trivial hlt w1.symm (by simp) (by omega) ?_ ?_ ?_ ?_
        ·intro i row hi
         rw [(w2 i row hi).1.len, hc1]
        ·intro i row hi j c hj
         obtain ⟨v, q1, q2, q3⟩ := (w2 i row hi).2 j c hj
         simp only at q1
         rw [q1]; rfl
        ·intro i row hi j c hj
         obtain ⟨v, q1, q2, q3⟩ := (w2 i row hi).2 j c hj
         exact q3
        ·intro i row hi j c hj
         obtain ⟨v, q1, q2, q3⟩ := (w2 i row hi).2 j c hj
         simp only at q1
         rw [q1]; exact q2
    ·simp at h
   ·simp at h
  ·rename_i fs hk
   split at h
   ·rename_i l hl
    split at h
    ·rename_i hc
     simp only [Option.some.injEq] at h
     subst h
     obtain ⟨xs, q, _, _, hlen, hxl, hf⟩ := DataW.trod_struct hk ht
     have go : ∀ (fl : List Field) (o : Nat) (shs : List Sh), shFs P (shT P n) o fl = some shs → (∀ f ∈ fl, ∃ y, DataW.trod enc P W 0 (fun _ => true) true q f.type ((cs.drop f.offset).take (P.cellsOf f.type)) = some y) → o + shs.length ≤ cs.length →
       ∃ m, FitL shs m ∧ ∀ (i : Nat) (c : C), m[i]? = some c → PR anyG W c (cs[o + i]?.getD undef) ∧ c.cell = true := by
      intro fl
      induction fl with
      | nil =>
       intro o shs h1 _ _
       simp only [shFs, Option.some.injEq] at h1
       subst h1
       exact ⟨[], rfl, by simp⟩
      | cons f fl ih =>
       intro o shs h1 h2 h3
       unfold shFs at h1
       split at h1
       ·rename_i l1 l2 e1 e2
        split at h1
        ·rename_i hc2
         obtain ⟨ho, hl1⟩ := hc2
         simp only [Option.some.injEq] at h1
         subst h1
         simp only [List.length_append] at h3
         obtain ⟨y, hy⟩ := h2 f (by simp)
         obtain ⟨m1, p1, p2, p3⟩ := open_sound n e1 hy
         obtain ⟨m2, p4, p5⟩ := ih (o + P.cellsOf f.type) l2 e2 (fun g hg => h2 g (by simp [hg])) (by omega)
         have hm1 := p1.len
         refine ⟨m1 ++ m2, p1.append p4, fun i c hi => ?_⟩
         rcases Nat.lt_or_ge i m1.length with hlt | hge
         ·rw [List.getElem?_append_left hlt] at hi
          have := p3 i c hi
          rw [List.getElem?_take_of_lt (by omega), List.getElem?_drop, ho] at this
          exact this
         ·rw [List.getElem?_append_right hge] at hi
          have := p5 _ c hi
          rw [show o + P.cellsOf f.type + (i - m1.length) = o + i by omega] at this
          exact this
        ·simp at h1
       ·simp at h1
     obtain ⟨m, m1, m2⟩ := go fs.toList 0 l hl (fun f hfm => by
      obtain ⟨i, hi, rfl⟩ := List.getElem_of_mem hfm
      have := hf i fs.toList[i] (by simp)
      rw [List.getElem?_eq_getElem (by simp at hi; omega)] at this
      exact ⟨_, this⟩) (by omega)
     exact ⟨m, m1, by rw [m1.len]; omega, fun i c hi => by have := m2 i c hi; rwa [Nat.zero_add] at this⟩
    ·simp at h
   ·simp at h
  ·simp at h

def isAggT (P : Program) (t : TypeId) : Bool :=
 match P.underlying t with
 | some (.struct _) => true
 | _ => false

def ArgsFit (P : Program) : List TypeId → List C → Prop
 | [], cs => cs = []
 | t :: ts, cs => ∃ shs m c r, cs = c :: r ∧ shT P 9 t = some shs ∧ FitL shs m ∧ (if isAggT P t then c = .agg m else m = [c]) ∧ ArgsFit P ts r

theorem open_args : ∀ {ts : List TypeId} {vs : List Value} {ds : List (DataW H)} {ps : List MemPlace}, DataW.TrodAll enc P W 0 (fun _ => true) true ts vs ds ps →
  (∀ (j : Nat) t v, ts[j]? = some t → vs[j]? = some v → ∃ base, Value.okWide P W .any base t v) → (ts.all fun t => (shT P 9 t).isSome) = true →
  ∃ cargs, ArgsFit P ts cargs ∧ cargs.length = vs.length ∧ ∀ (i : Nat) (c : C), cargs[i]? = some c → PR anyG W c (vs[i]?.getD undef)
 | [], [], [], _, _, _, _ => ⟨[], rfl, rfl, by simp⟩
 | t :: ts, v :: vs, d :: ds, ps, h, hv, hs => by
  obtain ⟨p, q, ⟨fuel, h1⟩, h2, _⟩ := h
  simp only [List.all_cons, Bool.and_eq_true] at hs
  obtain ⟨hs1, hs2⟩ := hs
  rw [Option.isSome_iff_exists] at hs1
  obtain ⟨shs, hs1⟩ := hs1
  obtain ⟨m, m1, m2, m3⟩ := open_sound 9 hs1 h1
  obtain ⟨cargs, a1, a2, a3⟩ := open_args h2 (fun j t' v' e1 e2 => hv (j + 1) t' v' (by simpa using e1) (by simpa using e2)) hs2
  obtain ⟨base, hok⟩ := hv 0 t v rfl rfl
  have fin : ∀ c, (if isAggT P t then c = .agg m else m = [c]) → PR anyG W c v → ∃ cargs, ArgsFit P (t :: ts) cargs ∧ cargs.length = (v :: vs).length ∧ ∀ (i : Nat) (c : C), cargs[i]? = some c → PR anyG W c ((v :: vs)[i]?.getD undef) := by
   intro c hc hp
   refine ⟨c :: cargs, ⟨shs, m, c, cargs, rfl, hs1, m1, hc, a1⟩, by simp [a2], fun i c' hi => ?_⟩
   cases i with
   | zero => simp at hi; subst hi; simpa using hp
   | succ i => simp at hi ⊢; exact a3 i c' hi
  by_cases hag : isAggT P t = true
  ·have hag0 := hag
   unfold isAggT at hag
   split at hag
   ·rename_i fs hfs
    obtain ⟨cs, rfl, hcs⟩ := okWide_struct hfs hok
    refine fin (.agg m) (by rw [if_pos hag0]) (.agg (by rw [m2]; simp [Value.cells]) fun i c hi => ?_)
    have := (m3 i c hi).1
    simpa [Value.cells] using this
   ·simp at hag
  ·have hag0 := hag
   have hone : ∃ sh, shs = [sh] ∧ oneCell v = true := by
    unfold isAggT at hag
    unfold shT at hs1
    split at hs1
    ·rename_i k hk
     obtain ⟨n, rfl⟩ := okWide_int hk hok
     exact ⟨_, (by simpa using hs1.symm), rfl⟩
    ·rename_i hk
     obtain ⟨n, rfl⟩ := okWide_bool hk hok
     exact ⟨_, (by simpa using hs1.symm), rfl⟩
    ·rename_i hk
     obtain ⟨n, rfl⟩ := okWide_string hk hok
     exact ⟨_, (by simpa using hs1.symm), rfl⟩
    ·rename_i e hk
     obtain ⟨a, l, cp, rfl⟩ := okWide_slice hk hok
     split at hs1
     ·split at hs1
      ·exact ⟨_, (by simpa using hs1.symm), rfl⟩
      ·simp at hs1
     ·simp at hs1
    ·rename_i fs hk
     rw [hk] at hag; simp at hag
    ·simp at hs1
   obtain ⟨sh, rfl, hov⟩ := hone
   have hm := m1.len
   have hm1 : m.length = 1 := hm
   obtain ⟨c, rfl⟩ := List.length_eq_one_iff.1 hm1
   refine fin c (by rw [if_neg hag0]) ?_
   have := (m3 0 c rfl).1
   rw [cells_one hov] at this
   simpa using this
 | [], _ :: _, _, _, h, _, _ => h.elim
 | [], [], _ :: _, _, h, _, _ => h.elim
 | _ :: _, [], _, _, h, _, _ => h.elim
 | _ :: _, _ :: _, [], _, h, _, _ => h.elim

def noEmptyB (P : Program) : Bool := (List.range P.types.size).all fun t => match P.underlying t with
 | some (.slice e) => decide (0 < P.cellsOf e)
 | _ => true

theorem same_of {W' : World} (g : Grew W W') {p : MemPlace} (h : p.block < W.heap.size) : W.sameAt W' p := by
 cases p with
 | cell b off =>
  show W'.cell? _ = W.cell? _
  unfold World.cell?
  rw [g.heap b h]
 | map b => exact g.heap b h

theorem shut_args {W' : World} (hl : laidOutB P = true) (hm : mapsRowed P = true) (hz : noEmptyB P = true) (g : Grew W W') {sp : Nat → Bool} : ∀ {ts : List TypeId} {vs : List Value} {ds : List (DataW H)} {ps : List MemPlace},
  (ts.all fun t => decide (t < P.types.size)) = true → DataW.TrodAll enc P W 0 (fun _ => true) true ts vs ds ps → (∀ p ∈ ps, p.block < W.heap.size) → (∀ p ∈ ps, sp p.block = true) → DataW.TrodAll enc P W' 0 sp true ts vs ds ps
 | [], [], [], _, _, h, _, _ => h
 | t :: ts, v :: vs, d :: ds, ps, ht, h, hb, hs => by
  obtain ⟨p, q, ⟨fuel, h1⟩, h2, rfl⟩ := h
  simp only [List.all_cons, Bool.and_eq_true, decide_eq_true_eq] at ht
  refine ⟨p, q, ⟨fuel, ?_⟩, shut_args hl hm hz g ht.2 h2 (fun r hr => hb r (by simp [hr])) (fun r hr => hs r (by simp [hr])), rfl⟩
  refine DataW.trod_stays (T := (· < P.types.size)) (kids_rows hl hm) (fun {t e} h3 h4 => ?_) (fun h => by simp at h) ht.1 h1 (fun r hr => same_of g (hb r (by simp; exact .inl hr))) (fun r hr => hs r (by simp; exact .inl hr))
  unfold noEmptyB at hz
  rw [List.all_eq_true] at hz
  have := hz t (by simpa using h3)
  rw [h4] at this
  simpa using this
 | [], _ :: _, _, _, _, h, _, _ => h.elim
 | [], [], _ :: _, _, _, h, _, _ => h.elim
 | _ :: _, [], _, _, _, h, _, _ => h.elim
 | _ :: _, _ :: _, [], _, _, h, _, _ => h.elim

theorem kept_of {W' : World} (g : Grew W W') (may : MemPlace → Prop) : W.keptBut W' may := by
 refine ⟨g.os, g.output, fun i hi => ?_⟩
 rw [g.heap i hi]
 cases h : W.heap[i]? with
 | none => trivial
 | some o => cases o <;> simp

theorem law_contract {f : FuncId} {fn : Func} {s : ChangeSpec} {tb : TypeId} (hrt : fn.resultTypes = #[tb]) (htb : P.underlying tb = some .bool) (hvars : s.vars = [])
  (hspec : ∀ (ds : List (DataW H)), ds.length = fn.params.toList.length → s.fn H ds = { results := [.lit (.bool true)], args := ds })
  (hl : laidOutB P = true) (hm : mapsRowed P = true) (hz : noEmptyB P = true) (ht : (fn.params.toList.all fun t => decide (t < P.types.size)) = true) (hsh : (fn.params.toList.all fun t => (shT P 9 t).isSome) = true)
  (hcall : ∀ cargs, ArgsFit P fn.params.toList cargs → Pure P f cargs (.bool true))
  (W : World) (hgk : Gk P W) (base : Nat) (args : Array Value) (ds gs : List (DataW H)) (before : List MemPlace) (hval : ∀ (j : Nat) t v, fn.params[j]? = some t → args[j]? = some v → Value.okWide P W .any base t v)
  (hW : DataW.Whole enc P fn.params.toList s.vars false W args.toList ds gs before) :
  Calls P f args W fun e W' => ∃ v, e = .returned v ∧ s.post enc P fn false true false false W args v W' := by
 have hW' := hW
 obtain ⟨p, q, hA, hV, rfl, hfz, hnd⟩ := hW
 rw [hvars] at hV
 obtain ⟨rfl, rfl⟩ := trodVars_none hV
 obtain ⟨cargs, c1, c2, c3⟩ := open_args hA (fun j t v e1 e2 => ⟨base, hval j t v (by simpa using e1) (by simpa using e2)⟩) hsh
 have hlen : ds.length = fn.params.toList.length := by
  have : ∀ {ts : List TypeId} {vs : List Value} {ds : List (DataW H)} {ps : List MemPlace}, DataW.TrodAll enc P W 0 (fun _ => true) true ts vs ds ps → ds.length = ts.length := by
   intro ts
   induction ts with
   | nil => intro vs ds ps h; cases vs <;> cases ds <;> first | rfl | exact h.elim
   | cons t ts ih =>
    intro vs ds ps h
    cases vs with
    | nil => exact h.elim
    | cons v vs =>
     cases ds with
     | nil => exact h.elim
     | cons d ds =>
      obtain ⟨_, _, _, h2, _⟩ := h
      simp [ih h2]
  exact this hA
 refine ((hcall cargs c1).calls anyG W args hgk ⟨by simpa using c2.symm, fun i c hi => by have := c3 i c hi; simpa using this⟩).mono ?_
 rintro e W' ⟨v, rfl, hr, g⟩
 cases hr
 refine ⟨_, rfl, ds, [], p, [], p, [], ?_, ?_, ?_, ?_, kept_of g _, by simp⟩
 ·simpa using hW'
 ·rw [hspec (ds ++ []) (by simpa using hlen), hrt]
  refine ⟨[], [], ⟨1, ?_⟩, rfl, rfl⟩
  simp [DataW.trod, htb, Value.cells]
 ·rw [hspec (ds ++ []) (by simpa using hlen)]
  simp only [List.append_nil]
  have hlt := hW'.lt
  exact shut_args hl hm hz g ht hA (fun r hr => hlt r (by simpa using hr)) (fun r hr => by simpa using hlt r (by simpa using hr))
 ·rw [hvars, hspec (ds ++ []) (by simpa using hlen)]
  rfl
end
end Go.Abs

namespace Go.Proofs.YtgnpcijgdhjfpaaDoor
open Go Go.Abs

set_option maxHeartbeats 2000000
set_option maxRecDepth 100000


theorem S_inv (s : ByteArray) : ∃ l, s = S l := ⟨s.data.toList, by simp [S]⟩

theorem rows_map {α : Type} {f : α → List C} : ∀ {rows : List (List C)}, (∀ row ∈ rows, ∃ a, row = f a) → ∃ l : List α, rows = l.map f
 | [], _ => ⟨[], rfl⟩
 | r :: rows, h => by
  obtain ⟨a, rfl⟩ := h r (by simp)
  obtain ⟨l, rfl⟩ := rows_map (rows := rows) fun x hx => h x (by simp [hx])
  exact ⟨a :: l, rfl⟩

theorem arg_one {t : TypeId} {s : List Sh} (hs : shT Tryd.prog 9 t = some s) (ha : isAggT Tryd.prog t = false) {cs : List C} {ts : List TypeId} (h : ArgsFit Tryd.prog (t :: ts) cs) : ∃ (c : C) (r : List C), cs = c :: r ∧ FitL s [c] ∧ ArgsFit Tryd.prog ts r := by
 simp only [ArgsFit] at h
 obtain ⟨shs, m, c, r, rfl, h1, h2, h3, h4⟩ := h
 rw [hs] at h1
 cases h1
 rw [ha] at h3
 simp only [Bool.false_eq_true, if_false] at h3
 subst h3
 exact ⟨c, r, rfl, h2, h4⟩

theorem sh9 : shT Tryd.prog 9 9 = some [.str] := by kernel_rfl
theorem ag9 : isAggT Tryd.prog 9 = false := by kernel_rfl
theorem sh22 : shT Tryd.prog 9 22 = some [.sl [.str]] := by kernel_rfl
theorem ag22 : isAggT Tryd.prog 22 = false := by kernel_rfl

theorem fit_str {row : List C} (h : FitL [.str] row) : ∃ l, row = cS l := by
 simp only [FitL, Fit] at h
 obtain ⟨c, r, rfl, ⟨s, rfl, _⟩, rfl⟩ := h
 obtain ⟨l, rfl⟩ := S_inv s
 exact ⟨l, rfl⟩

theorem argS {cs : List C} {ts : List TypeId} (h : ArgsFit Tryd.prog (9 :: ts) cs) : ∃ l r, cs = encS l :: r ∧ ArgsFit Tryd.prog ts r := by
 obtain ⟨c, r, rfl, h1, h2⟩ := arg_one sh9 ag9 h
 obtain ⟨l, e⟩ := fit_str h1
 cases e
 exact ⟨l, r, rfl, h2⟩

theorem argT {cs : List C} {ts : List TypeId} (h : ArgsFit Tryd.prog (22 :: ts) cs) : ∃ nl L r, cs = sT nl false L :: r ∧ ArgsFit Tryd.prog ts r := by
 obtain ⟨c, r, rfl, h1, h2⟩ := arg_one sh22 ag22 h
 simp only [FitL, Fit] at h1
 obtain ⟨c', r', e, ⟨nl, rows, rfl, _, _, h5⟩, rfl⟩ := h1
 cases e
 obtain ⟨L, rfl⟩ := rows_map (f := cS) fun row hr => fit_str (h5 row hr)
 exact ⟨nl, L, r, rfl, h2⟩

theorem argEnd {cs : List C} (h : ArgsFit Tryd.prog [] cs) : cs = [] := h

end Go.Proofs.YtgnpcijgdhjfpaaDoor

/- The facts of the program that every statement's join asks. No condition. -/
namespace Go.Proofs.YtgnpcijgdhjfpaaDoor
open Go Go.Abs
open Go.ChangeShapes Go.WideShapes Go.ChangeAt Go.RowKit
set_option maxRecDepth 100000

theorem J.own : ownKnob Tryd.prog.godebug = none := by kernel_rfl
theorem J.laid : laidOutB Tryd.prog = true := by kernel_rfl
theorem J.maps : mapsRowed Tryd.prog = true := by kernel_rfl
theorem J.sized : noEmptyB Tryd.prog = true := by kernel_rfl
theorem J.ub : Tryd.prog.underlying 4 = some .bool := by kernel_rfl
theorem J.bld : Tryd.prog.buildable 3 = true := by kernel_rfl
theorem J.max0 : ((begin Tryd.prog (fun _ _ => 0) default).world.heap[0]?).bind Obj.row? = some (#[.int .i64 0], 3) := by kernel_rfl
theorem J.nglob : 0 < Tryd.prog.globals.size := of_decide_eq_true (by kernel_rfl)
theorem J.ct3 : Tryd.prog.cellTypes Tryd.prog.depth 3 = some [3] := by kernel_rfl
theorem J.ui : Tryd.prog.underlying 3 = some (.int .i64) := by kernel_rfl

theorem J.gk {W : World} (h : W.ShapedOpen Tryd.prog) : Gk Tryd.prog W := by
 intro g hg
 obtain rfl : 0 = g := Option.some.inj hg
 exact cell_of_shapedOpen_int h J.nglob J.max0 rfl J.bld J.ct3 J.ui

noncomputable def laidAt (b : Nat) (cs : Array Value) (h : Array Obj) : Array Obj := h.modify b fun
 | .cells _ t frozen => .cells cs t frozen
 | o => o
def acR : List Int := [128, 191, 160, 191, 128, 159, 144, 191, 128, 143, 0, 0, 0, 0, 0, 0, 0, 0, 0, 0, 0, 0, 0, 0, 0, 0, 0, 0, 0, 0, 0, 0]

noncomputable def laidWorld (os : Os) : World :=
 let w0 := World.holding Tryd.prog os ⟨#[], #[], []⟩
 { w0 with heap := laidAt 2 (acR.map (Value.int .u8)).toArray (laidAt 1 (Go.Pinned.utf8FirstZ.map fun (n : Nat) => Value.int .u8 n).toArray w0.heap) }
end Go.Proofs.YtgnpcijgdhjfpaaDoor

