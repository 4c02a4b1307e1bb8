/- The machine of abstract values and the contracts of the functions of the program, which the statements of this seat share. No condition. -/
import Derived.Test.YtgnpcijgdhjfpaaGreatDoorB5
import Derived.Shelf.Spec.SlicesGrow
import Derived.ProofKit
import Derived.OpenShut
import Derived.ChangeStays
import Derived.Test.YtgnpcijgdhjfpaaGreatDoorCards
import Derived.Test.YtgnpcijgdhjfpaaGreatDoorTie
import Derived.WalkKit
import Derived.Deep.DeepHandedRow
import Derived.LaidLaws
import Derived.Shelf.Vars

set_option linter.unusedSimpArgs false
set_option linter.unusedVariables false
set_option linter.constructorNameAsVariable false

namespace Go.Proofs.YtgnpcijgdhjfpaaGreatDoor
open Go Go.Abs

set_option maxHeartbeats 8000000
set_option maxRecDepth 20000



theorem readAll48 (nl fu : Bool) (P : List Pk) (hn : P.length ≤ 100000) (hp : ∀ p ∈ P, p.l.length ≤ 100000 ∧ ∀ l ∈ p.l, l.length ≤ 100000) :
  Pure Tryz.prog 48 [sPk nl fu P] (encRd (rdT P P.length) (rdL P P.length) (readE P)) := by
 have hT0 : rdT P 0 = [] := rfl
 have hL0 : rdL P 0 = [] := rfl
 have hS0 : rdS P 0 = false := rfl
 have hge : ∀ i (hi : i < P.length), P.getD i ⟨false, false, []⟩ = P[i] := fun i hi => by simp [List.getD_eq_getElem?_getD, List.getElem?_eq_getElem hi]
 have hTs : ∀ i (hi : i < P.length), rdT P (i + 1) = rdT P i ++ uT P[i] := fun i hi => by
  unfold rdT
  rw [List.take_succ_eq_append_getElem hi, List.flatMap_append]; simp
 have hLs : ∀ i (hi : i < P.length), rdL P (i + 1) = rdL P i ++ (uM P[i]).map fun n => ((rdT P i).length : Int) + n := fun i hi => by rw [rdL, hge i hi]
 have hSs : ∀ i (hi : i < P.length), rdS P (i + 1) = (rdS P i || (decide (i + 1 < P.length) && decide ((uT P[i]).length < 8))) := fun i hi => by rw [rdS, hge i hi]
 have hE : readE P = if (P.all fun p => (unpackB p.l).isSome) = true then (if (rdS P P.length || decide (40 < (rdT P P.length).length)) = true then 142 else 0) else 141 := rfl
 rw [hE]
 clear hE
 generalize rdT P = T at *
 generalize rdL P = M at *
 generalize rdS P = Sh at *
 refine ZF (fn := Tryz.f48) [.tmp 2, .tmp 3, .tmp 4] ⟨Tryz.func48, rfl, by kernel_rfl⟩ fun x hx hσ => ?_
 (repeat refine ZQ ?_); refine ZR fun K hK => ?_; simp (maxSteps := 1000000) [ty22, ty33, ty26]; refine hK _ ?_; clear hK K
 (repeat refine ZQ ?_); refine ZR fun K hK => ?_; simp (maxSteps := 1000000) [ty4]; refine hK _ ?_; clear hK K
 (repeat refine ZQ ?_); refine ZR fun K hK => ?_; simp (maxSteps := 1000000) [ty3]; refine hK _ ?_; clear hK K
 (repeat refine ZQ ?_); refine awp_block ?_
 refine AWP.weak ?_ (wk_nil 2 2 1 (fu := true) (by simp) (by simp))
 refine AWP.weak ?_ (wk_nil 3 3 1 (fu := true) (by simp) (by simp))
 refine awp_loop (fun i : Nat => ⟨ofL [(0, sPk nl fu P), (2, .own 2 1 0 (T i).length), (3, .own 3 1 0 (M i).length), (5, .bool (Sh i)), (6, encI i)],
  stoT [(2, 2, .live (lsO (T i))), (3, 3, .live ⟨(M i).isEmpty, false, 1, (M i).map cI⟩)]⟩)
  (fun i => i ≤ P.length ∧ (T i).length ≤ 8 * i ∧ (M i).length ≤ 8 * i ∧ ∀ j (hj : j < P.length), j < i → (unpackB P[j].l).isSome = true) (fun i => P.length - i) 0 ⟨Nat.zero_le _, by rw [hT0]; exact Nat.le_refl _, by rw [hL0]; exact Nat.le_refl _, fun j _ hj => absurd hj (by omega)⟩ ?_ ?_
 ·rw [hT0, hL0, hS0]
  exact ZW
 ·intro i ⟨hi, hTl, hMl, hJ⟩
  have w1 : IntKind.i64.wrap ((i : Int) + 1) = ((i + 1 : Nat) : Int) := by rw [wrap_id (by omega) (by omega)]; rfl
  (repeat refine ZQ ?_); refine ZR fun K hK => ?_; simp (maxSteps := 1000000) [ty42, ty3]; refine hK _ ?_; clear hK K
  (repeat refine ZQ ?_); refine ZC (fun hc => ?_) (fun hc => ?_)
  ·simp at hc
   obtain ⟨hp1, hp2⟩ := hp _ (List.getElem_mem hc)
   have cu := q_restore49 P[i].nl P[i].fu P[i].l hp1 hp2
   rw [rest_eq] at cu
   have hts := hTs i hc
   have hls := hLs i hc
   have hss := hSs i hc
   refine awp_skip ?_
   (repeat refine ZQ ?_); refine awp_block ?_
   cases hu : unpackB P[i].l with
   | none =>
    rw [hu] at cu
    have hna : ¬ (P.all fun p => (unpackB p.l).isSome) = true := fun hh => by
     have := List.all_eq_true.1 hh _ (List.getElem_mem hc)
     rw [hu] at this; cases this
    rw [if_neg hna]
    simp only [encRs, noR] at cu
    (repeat refine ZQ ?_); refine ZR fun K hK => ?_; simp (maxSteps := 1000000) [ty42, ty22, hc]
    refine ZP (cu) ?_; simp (maxSteps := 1000000) [ty22, ty33, ty4]
    refine hK _ ?_; clear hK K
    (repeat refine ZQ ?_); refine ZR fun K hK => ?_; simp (maxSteps := 1000000) [ty4]; refine hK _ ?_; clear hK K
    (repeat refine ZQ ?_); refine ZC (fun hd => ?_) (fun hd => ?_)
    ·clear hd
     (repeat refine ZQ ?_); refine ZR fun K hK => ?_; simp (maxSteps := 1000000) [ty22, ty33, ty26]; refine hK _ ?_; clear hK K
     (repeat refine ZQ ?_); refine awp_ret ?_; refine And.intro (Or.inr rfl) ?_
     simp [retC, resC, viewC, mapO]
    ·simp at hd
   | some u =>
    obtain ⟨T1, M1⟩ := u
    rw [hu] at cu
    simp only [encRs] at cu
    obtain ⟨b1, b2, b3, b4⟩ := unpack_bd hu
    have hut : uT P[i] = T1 := by unfold uT; rw [hu]; rfl
    have hum : uM P[i] = M1 := by unfold uM; rw [hu]; rfl
    rw [hut] at hts hss
    rw [hum] at hls
    have hTe : T1.isEmpty = false := by cases T1 <;> simp at b1 ⊢
    have hTe2 : T1 ≠ [] := by simpa using hTe
    rw [hTe] at cu
    have hJ3 : ∀ j (hj : j < P.length), j < i + 1 → (unpackB P[j].l).isSome = true := fun j h1 h2 => by
     by_cases hji : j = i
     ·subst hji; rw [hu]; rfl
     ·exact hJ j h1 (by omega)
    (repeat refine ZQ ?_); refine ZR fun K hK => ?_; simp (maxSteps := 1000000) [ty42, ty22, hc]
    refine ZP (cu) ?_; simp (maxSteps := 1000000) [ty22, ty33, ty4]
    refine hK _ ?_; clear hK K
    (repeat refine ZQ ?_); refine ZR fun K hK => ?_; simp (maxSteps := 1000000) [ty4]; refine hK _ ?_; clear hK K
    (repeat refine ZQ ?_); refine ZC (fun hd => ?_) (fun hd => ?_)
    ·simp at hd
    ·clear hd
     refine awp_skip ?_
     (repeat refine ZQ ?_); refine ZR fun K hK => ?_; simp (maxSteps := 1000000) [ty3]; refine hK _ ?_; clear hK K
     (repeat refine ZQ ?_); refine awp_block ?_
     obtain ⟨A, hA⟩ : ∃ A : Nat → List Int, ∀ k, A k = M i ++ (M1.take k).map fun n => ((T i).length : Int) + n := ⟨_, fun _ => rfl⟩
     have hA0 : A 0 = M i := by rw [hA]; simp
     have hAl : ∀ k, k ≤ M1.length → (A k).length = (M i).length + k := fun k hk => by rw [hA]; simp; omega
     have hAs : ∀ k (hk : k < M1.length), A (k + 1) = A k ++ [((T i).length : Int) + M1[k]] := fun k hk => by
      rw [hA, hA, List.take_succ_eq_append_getElem hk, List.map_append, ← List.append_assoc]; rfl
     have hAn : M (i + 1) = A M1.length := by rw [hls, hA, List.take_length]
     clear hA hls
     refine awp_loop (fun k : Nat => ⟨ofL [(0, sPk nl fu P), (2, .own 2 1 0 (T i).length), (3, .own 3 1 0 (A k).length), (5, .bool (Sh i)), (6, encI i), (7, sT false false T1), (8, .sl M1.isEmpty false (M1.map cI)), (10, encI k)],
      stoT [(2, 2, .live (lsO (T i))), (3, 3, .live ⟨(A k).isEmpty, false, 1, (A k).map cI⟩)]⟩)
      (fun k => k ≤ M1.length) (fun k => M1.length - k) 0 (Nat.zero_le _) ?_ ?_
     ·rw [hA0]
      exact ZW
     ·intro k hk
      have wk : IntKind.i64.wrap ((k : Int) + 1) = ((k + 1 : Nat) : Int) := by rw [wrap_id (by omega) (by omega)]; rfl
      have hAk := hAl k hk
      (repeat refine ZQ ?_); refine ZR fun K hK => ?_; simp (maxSteps := 1000000) [ty33, ty3]; refine hK _ ?_; clear hK K
      (repeat refine ZQ ?_); refine ZC (fun hc2 => ?_) (fun hc2 => ?_)
      ·simp at hc2
       have hst := hAs k hc2
       have hz := b4 _ (List.getElem_mem hc2)
       have w38 : IntKind.i64.wrap (((T i).length : Int) + M1[k]) = ((T i).length : Int) + M1[k] := wrap_id (by omega) (by omega)
       generalize A k = Y at *
       refine awp_skip ?_
       (repeat refine ZQ ?_); refine awp_block ?_
       (repeat refine ZQ ?_); refine ZR fun K hK => ?_; simp (maxSteps := 1000000) [ty22, ty33, ty3, w38, hc2]
       refine ⟨by omega, ?_⟩
       refine hK _ ?_; clear hK K
       (repeat refine ZQ ?_); refine ZR fun K hK => ?_; simp (maxSteps := 1000000) [ty3, wk]; refine hK _ ?_; clear hK K; (first | show AWP _ _ _ _ _ | show ∃ _, _ | skip)
       refine ⟨k + 1, by omega, by omega, ?_⟩
       rw [hst]
       refine wk_shape2 [(2, 2, .live (lsO (T i))), (3, 43, .live ⟨(Y ++ [((T i).length : Int) + M1[k]]).isEmpty, false, 1, (Y ++ [((T i).length : Int) + M1[k]]).map cI⟩)] (by first | rfl | (simp only [if_pos, if_true]; rfl)) (shp0 hσ (by simp) (by simp) ?_) ?_
       ·simp [SlotOk] <;> (repeat' (first | (refine RowsOk.same ?_; simp [purel, C.isPure]; done) | (refine rowsCons ?_; simp [mtl, mtc, mT, mH, C.isPure, purel]; done) | (refine rowsCons ?_; simp [mtl, mtc, mT, mH, C.isPure, purel]) | refine And.intro ?_ ?_))
       ·simp [mtc, mtl, mT, C.isPure, purel] <;> (try simp (disch := omega) [wrap_id]) <;> (try omega)
      ·simp at hc2
       (repeat refine ZQ ?_); refine awp_exit ?_; (first | show AWP _ _ _ _ _ | show ∃ _, _ | skip)
       have hkn : k = M1.length := by omega
       rw [hkn, ← hAn] at hAk ⊢
       have hTn : (T (i + 1)).length = (T i).length + T1.length := by rw [hts]; simp
       (repeat refine ZQ ?_); refine ZR fun K hK => ?_; simp (maxSteps := 1000000) [ty22, ty9, hTe2, hTe]
       refine ⟨by omega, ?_⟩
       refine hK _ ?_; clear hK K; (first | show AWP _ _ _ _ _ | show ∃ _, _ | skip)
       have hi1 : i ≤ P.length := hi
       have hlen8 : ((T1.length : Int) < 8) = (T1.length < 8) := propext (by omega)
       have hlast : ((i : Int) + 1 < (P.length : Int)) = (i + 1 < P.length) := propext (by omega)
       cases hsh : Sh i
       ·rw [hsh] at hss
        by_cases hla : i + 1 < P.length
        ·by_cases h8 : T1.length < 8
         ·rw [decide_eq_true hla, decide_eq_true h8] at hss
          (repeat refine ZQ ?_); refine ZR fun K hK => ?_; simp (maxSteps := 1000000) [ty42, ty22, ty3, ty4, hsh, w1, hlast, hlen8, hla, h8]; refine hK _ ?_; clear hK K
          (repeat refine ZQ ?_); refine ZR fun K hK => ?_; simp (maxSteps := 1000000) [ty3, w1]; refine hK _ ?_; clear hK K; (first | show AWP _ _ _ _ _ | show ∃ _, _ | skip)
          refine ⟨i + 1, ⟨by omega, by omega, by omega, hJ3⟩, by omega, ?_⟩
          rw [hss, hts]
          refine wk_shape2 [(2, 46, .live (lsO (T i ++ T1))), (3, 3, .live ⟨(M (i + 1)).isEmpty, false, 1, (M (i + 1)).map cI⟩)] (by first | rfl | (simp only [if_pos, if_true, hTe, hAk, hTe2]; rfl)) (shp0 hσ (by simp) (by simp) ?_) ?_
          ·simp [SlotOk, hTe, hAk, hTe2] <;> (repeat' (first | (refine RowsOk.same ?_; simp [purel, C.isPure]; done) | (refine rowsCons ?_; simp [mtl, mtc, mT, mH, C.isPure, purel]; done) | (refine rowsCons ?_; simp [mtl, mtc, mT, mH, C.isPure, purel]) | refine And.intro ?_ ?_))
          ·simp [mtc, mtl, mT, C.isPure, purel, hTe, hAk, hTe2] <;> (try simp (disch := omega) [wrap_id]) <;> (try omega)
         ·rw [decide_eq_true hla, decide_eq_false h8] at hss
          (repeat refine ZQ ?_); refine ZR fun K hK => ?_; simp (maxSteps := 1000000) [ty42, ty22, ty3, ty4, hsh, w1, hlast, hlen8, hla, h8]; refine hK _ ?_; clear hK K
          (repeat refine ZQ ?_); refine ZR fun K hK => ?_; simp (maxSteps := 1000000) [ty3, w1]; refine hK _ ?_; clear hK K; (first | show AWP _ _ _ _ _ | show ∃ _, _ | skip)
          refine ⟨i + 1, ⟨by omega, by omega, by omega, hJ3⟩, by omega, ?_⟩
          rw [hss, hts]
          refine wk_shape2 [(2, 46, .live (lsO (T i ++ T1))), (3, 3, .live ⟨(M (i + 1)).isEmpty, false, 1, (M (i + 1)).map cI⟩)] (by first | rfl | (simp only [if_pos, if_true, hTe, hAk, hTe2]; rfl)) (shp0 hσ (by simp) (by simp) ?_) ?_
          ·simp [SlotOk, hTe, hAk, hTe2] <;> (repeat' (first | (refine RowsOk.same ?_; simp [purel, C.isPure]; done) | (refine rowsCons ?_; simp [mtl, mtc, mT, mH, C.isPure, purel]; done) | (refine rowsCons ?_; simp [mtl, mtc, mT, mH, C.isPure, purel]) | refine And.intro ?_ ?_))
          ·simp [mtc, mtl, mT, C.isPure, purel, hTe, hAk, hTe2] <;> (try simp (disch := omega) [wrap_id]) <;> (try omega)
        ·rw [decide_eq_false hla] at hss
         (repeat refine ZQ ?_); refine ZR fun K hK => ?_; simp (maxSteps := 1000000) [ty42, ty22, ty3, ty4, hsh, w1, hlast, hlen8, hla]; refine hK _ ?_; clear hK K
         (repeat refine ZQ ?_); refine ZR fun K hK => ?_; simp (maxSteps := 1000000) [ty3, w1]; refine hK _ ?_; clear hK K; (first | show AWP _ _ _ _ _ | show ∃ _, _ | skip)
         refine ⟨i + 1, ⟨by omega, by omega, by omega, hJ3⟩, by omega, ?_⟩
         rw [hss, hts]
         refine wk_shape2 [(2, 46, .live (lsO (T i ++ T1))), (3, 3, .live ⟨(M (i + 1)).isEmpty, false, 1, (M (i + 1)).map cI⟩)] (by first | rfl | (simp only [if_pos, if_true, hTe, hAk, hTe2]; rfl)) (shp0 hσ (by simp) (by simp) ?_) ?_
         ·simp [SlotOk, hTe, hAk, hTe2] <;> (repeat' (first | (refine RowsOk.same ?_; simp [purel, C.isPure]; done) | (refine rowsCons ?_; simp [mtl, mtc, mT, mH, C.isPure, purel]; done) | (refine rowsCons ?_; simp [mtl, mtc, mT, mH, C.isPure, purel]) | refine And.intro ?_ ?_))
         ·simp [mtc, mtl, mT, C.isPure, purel, hTe, hAk, hTe2] <;> (try simp (disch := omega) [wrap_id]) <;> (try omega)
       ·rw [hsh] at hss
        (repeat refine ZQ ?_); refine ZR fun K hK => ?_; simp (maxSteps := 1000000) [ty42, ty22, ty3, ty4, hsh]; refine hK _ ?_; clear hK K
        (repeat refine ZQ ?_); refine ZR fun K hK => ?_; simp (maxSteps := 1000000) [ty3, w1]; refine hK _ ?_; clear hK K; (first | show AWP _ _ _ _ _ | show ∃ _, _ | skip)
        refine ⟨i + 1, ⟨by omega, by omega, by omega, hJ3⟩, by omega, ?_⟩
        rw [hss, hts]
        refine wk_shape2 [(2, 46, .live (lsO (T i ++ T1))), (3, 3, .live ⟨(M (i + 1)).isEmpty, false, 1, (M (i + 1)).map cI⟩)] (by first | rfl | (simp only [if_pos, if_true, hTe, hAk, hTe2]; rfl)) (shp0 hσ (by simp) (by simp) ?_) ?_
        ·simp [SlotOk, hTe, hAk, hTe2] <;> (repeat' (first | (refine RowsOk.same ?_; simp [purel, C.isPure]; done) | (refine rowsCons ?_; simp [mtl, mtc, mT, mH, C.isPure, purel]; done) | (refine rowsCons ?_; simp [mtl, mtc, mT, mH, C.isPure, purel]) | refine And.intro ?_ ?_))
        ·simp [mtc, mtl, mT, C.isPure, purel, hTe, hAk, hTe2] <;> (try simp (disch := omega) [wrap_id]) <;> (try omega)
  ·simp at hc
   (repeat refine ZQ ?_); refine awp_exit ?_; (first | show AWP _ _ _ _ _ | show ∃ _, _ | skip)
   have hin : i = P.length := by omega
   rw [hin] at hTl hMl hJ ⊢
   rw [if_pos (List.all_eq_true.2 fun p hp => by
    obtain ⟨j, hj, rfl⟩ := List.getElem_of_mem hp
    exact hJ j hj hj)]
   have htT : List.take (T P.length).length ((T P.length).map cS) = (T P.length).map cS := List.take_of_length_le (by simp)
   have htM : List.take (M P.length).length ((M P.length).map cI) = (M P.length).map cI := List.take_of_length_le (by simp)
   generalize T P.length = X at *
   generalize M P.length = Y at *
   generalize Sh P.length = b at *
   cases b
   ·by_cases h40 : 40 < X.length
    ·have h40' : (40 : Int) < X.length := by omega
     rw [if_pos (by simp [h40])]
     (repeat refine ZQ ?_); refine ZR fun K hK => ?_; simp (maxSteps := 1000000) [ty22, ty3, ty4, h40']; refine hK _ ?_; clear hK K
     (repeat refine ZQ ?_); refine ZC (hc := by simp [h40]; rfl) (fun hd => ?_) (fun hd => ?_)
     ·clear hd
      (repeat refine ZQ ?_); refine ZR fun K hK => ?_; simp (maxSteps := 1000000) [ty22, ty33, ty26]; refine hK _ ?_; clear hK K
      (repeat refine ZQ ?_); refine awp_ret ?_; refine And.intro (Or.inr rfl) ?_
      simp [retC, resC, viewC, mapO]
     ·simp [h40] at hd
    ·have h40' : ¬ (40 : Int) < X.length := by omega
     rw [if_neg (by simp [h40])]
     (repeat refine ZQ ?_); refine ZR fun K hK => ?_; simp (maxSteps := 1000000) [ty22, ty3, ty4, h40']; refine hK _ ?_; clear hK K
     (repeat refine ZQ ?_); refine ZC (hc := by simp [h40]; rfl) (fun hd => ?_) (fun hd => ?_)
     ·simp [h40] at hd
     ·clear hd
      refine awp_skip ?_
      (repeat refine ZQ ?_); refine ZR fun K hK => ?_; simp (maxSteps := 1000000) [ty22, ty33, ty26]; refine hK _ ?_; clear hK K
      (repeat refine ZQ ?_); refine awp_ret ?_; refine And.intro (Or.inr rfl) ?_
      simp [retC, resC, viewC, mapO, htT, htM]
   ·rw [if_pos (by simp)]
    (repeat refine ZQ ?_); refine ZR fun K hK => ?_; simp (maxSteps := 1000000) [ty22, ty3, ty4]; refine hK _ ?_; clear hK K
    (repeat refine ZQ ?_); refine ZC (fun hd => ?_) (fun hd => ?_)
    ·clear hd
     (repeat refine ZQ ?_); refine ZR fun K hK => ?_; simp (maxSteps := 1000000) [ty22, ty33, ty26]; refine hK _ ?_; clear hK K
     (repeat refine ZQ ?_); refine awp_ret ?_; refine And.intro (Or.inr rfl) ?_
     simp [retC, resC, viewC, mapO]
    ·simp at hd


def mk1 (p : Ls) : Pk := ⟨false, true, p⟩
theorem getD_l {f : Ls → Pk} (hf : ∀ p, (f p).l = p) (Q : List Ls) (i : Nat) : ((Q.map f).getD i ⟨false, false, []⟩).l = Q.getD i [] := by
 simp only [List.getD_eq_getElem?_getD, List.getElem?_map]
 cases Q[i]? with
 | none => rfl
 | some p => simp [hf]
theorem uT_l {p q : Pk} (h : p.l = q.l) : uT p = uT q := by unfold uT; rw [h]
theorem uM_l {p q : Pk} (h : p.l = q.l) : uM p = uM q := by unfold uM; rw [h]

section
variable {f g : Ls → Pk} (hf : ∀ p, (f p).l = p) (hg : ∀ p, (g p).l = p) (Q : List Ls)
include hf hg
theorem rdT_l (i : Nat) : rdT (Q.map f) i = rdT (Q.map g) i := by
 unfold rdT
 rw [← List.map_take, ← List.map_take, List.flatMap_map, List.flatMap_map]
 congr 1
 funext p
 exact uT_l (by rw [hf, hg])
theorem rdL_l : ∀ i, rdL (Q.map f) i = rdL (Q.map g) i
 | 0 => rfl
 | i + 1 => by
  rw [rdL, rdL, rdL_l i, rdT_l hf hg Q i, uM_l (p := (Q.map f).getD i ⟨false, false, []⟩) (q := (Q.map g).getD i ⟨false, false, []⟩) (by rw [getD_l hf, getD_l hg])]
theorem rdS_l : ∀ i, rdS (Q.map f) i = rdS (Q.map g) i
 | 0 => rfl
 | i + 1 => by
  rw [rdS, rdS, rdS_l i, uT_l (p := (Q.map f).getD i ⟨false, false, []⟩) (q := (Q.map g).getD i ⟨false, false, []⟩) (by rw [getD_l hf, getD_l hg])]
  simp only [List.length_map]
theorem readE_l : readE (Q.map f) = readE (Q.map g) := by
 unfold readE
 rw [List.length_map, List.length_map, rdS_l hf hg, rdT_l hf hg, List.all_map, List.all_map]
 have e : ((fun p : Pk => (unpackB p.l).isSome) ∘ f) = ((fun p : Pk => (unpackB p.l).isSome) ∘ g) := by
  funext p
  simp only [Function.comp, hf, hg]
 rw [e]
end

def rQ (l : List UInt8) : List Ls := (cutV l).1
theorem cut_rP {l : List UInt8} (h : (cutV l).2 = true) : (cutB l).isSome = true ∧ rP l = (rQ l).map mk1 := by
 unfold rP rQ
 rw [cutB_cutV, if_pos h]
 exact ⟨rfl, rfl⟩
theorem cut_no {l : List UInt8} (h : (cutV l).2 = false) : (cutB l).isSome = false ∧ rP l = [] := by
 unfold rP
 rw [cutB_cutV, h, if_neg (by simp)]
 exact ⟨rfl, rfl⟩
theorem encCut_ok {l : List UInt8} (h : (cutV l).2 = true) : encCut l = .tup [sPl (rQ l).isEmpty false (rQ l), .bool true] := by
 unfold encCut rQ
 rw [h]
 cases hc : cutE l [] [] with
 | false => rw [if_neg (by simp)]
 | true =>
  have := cutE_true l [] [] [] hc
  unfold cutV at h
  rw [this] at h; cases h
theorem encCut_no {l : List UInt8} (h : (cutV l).2 = false) : ∃ (a : Bool) (Q : List Ls), encCut l = .tup [sPl a a Q, .bool false] ∨ encCut l = .tup [sPl a false Q, .bool false] := by
 unfold encCut
 cases hc : cutE l [] [] with
 | true => rw [if_pos rfl]; exact ⟨true, [], .inl rfl⟩
 | false => rw [if_neg (by simp), h]; exact ⟨_, _, .inr rfl⟩
theorem cut_bdQ {l : List UInt8} (hn : l.length ≤ 50000) (h : (cutV l).2 = true) : (rQ l).length ≤ 100000 ∧ ∀ p ∈ rQ l, p.length ≤ 100000 ∧ ∀ x ∈ p, x.length ≤ 100000 := by
 obtain ⟨_, e⟩ := cut_rP h
 have h1 := cut_len hn
 have h2 := fun p => cut_bd hn (p := p)
 have e0 : (cutB l).getD [] = rP l := rfl
 rw [e0, e] at h1 h2
 refine ⟨by simpa using h1, fun p hp => ?_⟩
 exact h2 (mk1 p) (List.mem_map_of_mem hp)

theorem mk_l (p : Ls) : (mkPk p).l = p := rfl
theorem mk1_l (p : Ls) : (mk1 p).l = p := rfl

theorem read_Q (nl : Bool) (Q : List Ls) (hn : Q.length ≤ 100000) (hp : ∀ p ∈ Q, p.length ≤ 100000 ∧ ∀ x ∈ p, x.length ≤ 100000) : Pure Tryz.prog 48 [sPl nl false Q] (encRd (rdT (Q.map mk1) Q.length) (rdL (Q.map mk1) Q.length) (readE (Q.map mk1))) := by
 have := readAll48 nl false (Q.map mkPk) (by simpa using hn) (fun p hpm => by
  obtain ⟨q, hq, rfl⟩ := List.mem_map.1 hpm
  exact hp q hq)
 rw [List.length_map, rdT_l mk_l mk1_l, rdL_l mk_l mk1_l, readE_l mk_l mk1_l] at this
 unfold sPl sPk at *
 rw [mk_rows]
 exact this


set_option maxHeartbeats 8000000
set_option maxRecDepth 20000


end Go.Proofs.YtgnpcijgdhjfpaaGreatDoor

/- The shelf's contract of slices.Grow at this program's []string. No condition. -/
namespace Go.Proofs.YtgnpcijgdhjfpaaGreatDoor
open Go Go.Abs Go.Shelf

def growT_ren : Ren where
 f := fun x => match x with
  | 4 => 85
  | n => n
 t := fun x => match x with
  | 22 => 22
  | 25 => 9
  | 3 => 3
  | 4 => 4
  | 9 => 9
  | 20 => 20
  | 0 => 0
  | n => n
 g := fun n => n

theorem growT : Lays8.n4 Tryz.prog growT_ren := {
 mixed := by kernel_rfl
 f4 := ⟨Tryz.f85.name, by decide, Tryz.func85.trans (congrArg some (by kernel_rfl))⟩
 t0 := Tryz.underlying0
 a0 := Tryz.isAgg0
 z0 := Tryz.sizeOf0
 v0 := Tryz.zeroValue0
 t3 := Tryz.underlying3
 a3 := Tryz.isAgg3
 z3 := Tryz.sizeOf3
 v3 := Tryz.zeroValue3
 t4 := Tryz.underlying4
 a4 := Tryz.isAgg4
 z4 := Tryz.sizeOf4
 v4 := Tryz.zeroValue4
 t9 := Tryz.underlying9
 a9 := Tryz.isAgg9
 z9 := Tryz.sizeOf9
 v9 := Tryz.zeroValue9
 t20 := Tryz.underlying20
 a20 := Tryz.isAgg20
 z20 := Tryz.sizeOf20
 v20 := Tryz.zeroValue20
 t22 := Tryz.underlying22
 a22 := Tryz.isAgg22
 z22 := Tryz.sizeOf22
 v22 := Tryz.zeroValue22 }

set_option maxHeartbeats 2000000

theorem grow85 (fu : Bool) (n : Nat) (h0 : 0 < n) (h1 : n ≤ 100000) : Fresh Tryz.prog 85 [.sl true fu [], encI n] ⟨false, false, 1, []⟩ := by
 refine { fn := ⟨Tryz.f85, Tryz.func85, by kernel_rfl, by kernel_rfl⟩, calls := fun G w vs _ hpl => ?_ }
 obtain ⟨hs, hr⟩ := hpl
 have e0 := hr 0 _ rfl
 have e1 := hr 1 _ rfl
 have hv : vs = #[.slice none 0 0, .int .i64 n] := by
  have c0 : (vs.getD 0 undef) = .slice none 0 0 := by
   generalize vs.getD 0 undef = v at e0
   cases e0; rfl
  have c1 : (vs.getD 1 undef) = .int .i64 n := by
   generalize vs.getD 1 undef = v at e1
   cases e1; rfl
  apply Array.ext
  ·simpa using hs
  ·intro i hi hi'
   simp at hs
   have : i = 0 ∨ i = 1 := by omega
   rcases this with rfl | rfl
   ·simpa [hi] using c0
   ·simpa [hi] using c1
 subst hv
 obtain ⟨inf, d, z, ht⟩ := tyOf_ok ty9
 have hcall := Any8.slices_Grow_grow growT inf z ht.info ht.zero (by rw [ht.size]; decide) none 0 0 n [] w (by omega) (by omega) (by rw [ht.bytes]; simp; omega) (by omega) (by simp) (fun _ => rfl) (fun a h => by cases h)
 refine Calls.mono hcall ?_
 rintro e w' ⟨rfl, rfl⟩
 refine ⟨_, rfl, ?_, ⟨rfl, rfl, rfl, by show w.heap.size ≤ (w.heap.push _).size; simp, fun b hb => ?_⟩⟩
 ·refine OwnV.block (ob := ⟨false, false, 1, []⟩) (b := w.heap.size) (cap := grownCap w (0 + n) 0 (growT_ren.t 25)) rfl (Nat.le_refl _) (alloc_new w.drew _) (by decide) (by simp) ?_ (by simp) (fun h => by cases h)
  simp only [Array.size_append, List.size_toArray, List.length_nil]
  have hz : ∀ m, (Builtin.zeroCells z.cells m).size = m := by
   intro m
   simp [Builtin.zeroCells, ht.zs]
  rw [hz, hz]
  omega
 ·exact alloc_old w.drew _ hb

end Go.Proofs.YtgnpcijgdhjfpaaGreatDoor

namespace Go.Proofs.YtgnpcijgdhjfpaaGreatDoor
open Go Go.Abs

set_option maxHeartbeats 8000000
set_option maxRecDepth 20000


def catTo (P : List Pk) (i : Nat) : Ls := (P.take i).flatMap Pk.l
theorem catTo_succ (P : List Pk) {i : Nat} (hi : i < P.length) : catTo P (i + 1) = catTo P i ++ P[i].l := by
 unfold catTo
 rw [List.take_succ_eq_append_getElem hi, List.flatMap_append]; simp
theorem catTo_mono (P : List Pk) : ∀ {n m : Nat}, n ≤ m → (catTo P n).length ≤ (catTo P m).length := by
 intro n m h
 unfold catTo
 have e : P.take m = P.take n ++ (P.take m).drop n := by
  have := List.take_append_drop n (P.take m)
  rw [List.take_take, Nat.min_eq_left h] at this
  exact this.symm
 rw [e, List.flatMap_append, List.length_append]; omega

theorem concat50 (nl fu : Bool) (P : List Pk) (h0 : 0 < (catTo P P.length).length) (h1 : (catTo P P.length).length ≤ 100000) (h2 : P.length ≤ 1000) :
  Pure Tryz.prog 50 [sPk nl fu P] (sT false false (catTo P P.length)) := by
 have hK0 : catTo P 0 = [] := rfl
 have hKs := fun i (hi : i < P.length) => catTo_succ P hi
 have hKm := fun n m (h : n ≤ m) => catTo_mono P h
 generalize catTo P = Qk at *
 refine ZF (fn := Tryz.f50) [.tmp 2] ⟨Tryz.func50, rfl, by kernel_rfl⟩ fun x hx hσ => ?_
 (repeat refine ZQ ?_); refine ZR fun K hK => ?_; simp (maxSteps := 1000000) [ty22]; refine hK _ ?_; clear hK K
 (repeat refine ZQ ?_); refine ZR fun K hK => ?_; simp (maxSteps := 1000000) [ty3]; refine hK _ ?_; clear hK K
 (repeat refine ZQ ?_); refine ZR fun K hK => ?_; simp (maxSteps := 1000000) [ty42]; refine hK _ ?_; clear hK K
 (repeat refine ZQ ?_); refine awp_block ?_
 refine awp_loop (fun i : Nat => ⟨ofL [(0, sPk nl fu P), (3, encI (Qk i).length), (9, sPk nl fu P), (10, encI P.length), (11, encI i)], stoT []⟩)
  (fun i => i ≤ P.length) (fun i => P.length - i) 0 (by simp) ?_ ?_
 ·refine wk_shape (shp0 hσ (by simp) (by simp) ?_) ?_
  ·simp [SlotOk, hK0] <;> (repeat' (first | (refine RowsOk.same ?_; simp [purel, C.isPure]; done) | (refine rowsCons ?_; simp [mtl, mtc, mT, mH, C.isPure, purel]; done) | (refine rowsCons ?_; simp [mtl, mtc, mT, mH, C.isPure, purel]) | refine And.intro ?_ ?_))
  ·simp [mtc, mtl, mT, C.isPure, purel, hK0] <;> (try simp (disch := omega) [wrap_id]) <;> (try omega)
 ·intro i hi
  have wi : IntKind.i64.wrap ((i : Int) + 1) = ((i + 1 : Nat) : Int) := by rw [wrap_id (by omega) (by omega)]; rfl
  (repeat refine ZQ ?_); refine ZR fun K hK => ?_; simp (maxSteps := 1000000) [ty3]; refine hK _ ?_; clear hK K
  (repeat refine ZQ ?_); refine ZC (fun hc => ?_) (fun hc => ?_)
  ·simp at hc
   refine awp_skip ?_
   (repeat refine ZQ ?_); refine awp_block ?_
   have m1 := hKm (i + 1) P.length (by omega)
   have e1 : (Qk (i + 1)).length = (Qk i).length + (P[i]).l.length := by rw [hKs i hc, List.length_append]
   (repeat refine ZQ ?_); refine ZR fun K hK => ?_; simp (maxSteps := 1000000) [ty42, ty22, hc]; refine hK _ ?_; clear hK K; (first | show AWP _ _ _ _ _ | show ∃ _, _ | skip)
   have w1 : IntKind.i64.wrap ((((Qk i).length : Nat) : Int) + ((P[i]).l.length : Nat)) = ((Qk (i + 1)).length : Int) := by rw [wrap_id (by omega) (by omega), e1]; omega
   (repeat refine ZQ ?_); refine ZR fun K hK => ?_; simp (maxSteps := 1000000) [ty3, ty22, w1]; refine hK _ ?_; clear hK K; (first | show AWP _ _ _ _ _ | show ∃ _, _ | skip)
   have hn : ¬ ((Qk (i + 1)).length : Int) < 0 := by omega
   (repeat refine ZQ ?_); refine ZR fun K hK => ?_; simp (maxSteps := 1000000) [ty3, hn]; refine hK _ ?_; clear hK K
   (repeat refine ZQ ?_); refine ZC (fun hd => ?_) (fun hd => ?_)
   ·simp at hd
   ·clear hd
    refine awp_skip ?_
    (repeat refine ZQ ?_); refine ZR fun K hK => ?_; simp (maxSteps := 1000000) [ty3, wi]; refine hK _ ?_; clear hK K; (first | show AWP _ _ _ _ _ | show ∃ _, _ | skip)
    refine ⟨i + 1, by omega, by omega, ?_⟩
    exact ZW
  ·simp at hc
   (repeat refine ZQ ?_); refine awp_exit ?_; (first | show AWP _ _ _ _ _ | show ∃ _, _ | skip)
   have hin : i = P.length := by omega
   subst hin
   (repeat refine ZQ ?_); refine ZR fun K hK => ?_; simp (maxSteps := 1000000) [ty22]
   refine freshL (grow85 true (Qk P.length).length h0 (by omega)) (by simp) (by simp) ?_
   simp
   refine hK _ ?_; clear hK K
   (repeat refine ZQ ?_); refine ZR fun K hK => ?_; simp (maxSteps := 1000000) [ty42]; refine hK _ ?_; clear hK K
   (repeat refine ZQ ?_); refine awp_block ?_
   refine awp_loop (fun i : Nat => ⟨ofL [(6, .own 6 1 0 (Qk i).length), (25, sPk nl fu P), (26, encI P.length), (27, encI i)], stoT [(6, 6, .live ⟨false, false, 1, (Qk i).map cS⟩)]⟩)
    (fun i => i ≤ P.length) (fun i => P.length - i) 0 (by simp) ?_ ?_
   ·refine wk_shape2 [(6, 24, .live ⟨false, false, 1, (Qk 0).map cS⟩)] (by first | rfl | (simp only [if_pos, if_true, hK0]; rfl)) (shp0 hσ (by simp) (by simp) ?_) ?_
    ·simp [SlotOk, hK0] <;> (repeat' (first | (refine RowsOk.same ?_; simp [purel, C.isPure]; done) | (refine rowsCons ?_; simp [mtl, mtc, mT, mH, C.isPure, purel]; done) | (refine rowsCons ?_; simp [mtl, mtc, mT, mH, C.isPure, purel]) | refine And.intro ?_ ?_))
    ·simp [mtc, mtl, mT, C.isPure, purel, hK0] <;> (try simp (disch := omega) [wrap_id]) <;> (try omega)
   ·intro i hi2
    have wi : IntKind.i64.wrap ((i : Int) + 1) = ((i + 1 : Nat) : Int) := by rw [wrap_id (by omega) (by omega)]; rfl
    (repeat refine ZQ ?_); refine ZR fun K hK => ?_; simp (maxSteps := 1000000) [ty3]; refine hK _ ?_; clear hK K
    (repeat refine ZQ ?_); refine ZC (fun hc => ?_) (fun hc => ?_)
    ·simp at hc
     refine awp_skip ?_
     (repeat refine ZQ ?_); refine awp_block ?_
     have m1 := hKm (i + 1) P.length (by omega)
     have e1 : (Qk (i + 1)).length = (Qk i).length + (P[i]).l.length := by rw [hKs i hc, List.length_append]
     have e2 := hKs i hc
     (repeat refine ZQ ?_); refine ZR fun K hK => ?_; simp (maxSteps := 1000000) [ty42, ty22, hc]; refine hK _ ?_; clear hK K
     (repeat refine ZQ ?_); refine ZR fun K hK => ?_; simp (maxSteps := 1000000) [ty22, ty9]
     refine ⟨by omega, ?_⟩
     refine hK _ ?_; clear hK K
     (repeat refine ZQ ?_); refine ZR fun K hK => ?_; simp (maxSteps := 1000000) [ty3, wi]; refine hK _ ?_; clear hK K; (first | show AWP _ _ _ _ _ | show ∃ _, _ | skip)
     refine ⟨i + 1, by omega, by omega, ?_⟩
     rw [e2]
     refine wk_shape2 [(6, 33, .live ⟨false, false, 1, (Qk i ++ P[i].l).map cS⟩)] (by first | rfl | (simp only [if_pos, if_true]; rfl)) (shp0 hσ (by simp) (by simp) ?_) ?_
     ·simp [SlotOk] <;> (repeat' (first | (refine RowsOk.same ?_; simp [purel, C.isPure]; done) | (refine rowsCons ?_; simp [mtl, mtc, mT, mH, C.isPure, purel]; done) | (refine rowsCons ?_; simp [mtl, mtc, mT, mH, C.isPure, purel]) | refine And.intro ?_ ?_))
     ·simp [mtc, mtl, mT, C.isPure, purel] <;> (try simp (disch := omega) [wrap_id]) <;> (try omega)
    ·simp at hc
     (repeat refine ZQ ?_); refine awp_exit ?_; (first | show AWP _ _ _ _ _ | show ∃ _, _ | skip)
     have hin : i = P.length := by omega
     subst hin
     generalize Qk P.length = X at *
     have hpu : (X.map cS).all purel = true := all_purel_map fun _ => rfl
     have ht : List.take X.length (X.map cS) = X.map cS := List.take_of_length_le (by simp)
     (repeat refine ZQ ?_); refine ZR fun K hK => ?_; simp (maxSteps := 1000000) [ty22]; refine hK _ ?_; clear hK K
     (repeat refine ZQ ?_); refine awp_ret ?_; refine And.intro (Or.inr rfl) ?_
     simp [retC, resC, viewC, mapO, hpu, ht]

set_option maxHeartbeats 8000000
set_option maxRecDepth 20000


theorem cutE41 (l : List UInt8) (hn : l.length ≤ 100000) (hl : l ≠ []) (hb : badF l = false) (B : Nat) : Eff Tryz.prog 41 [] [encS l] (.tup [.own B 1 0 (cutP l).length, .bool true]) [(B, ⟨false, false, 1, (cutP l).map cPk⟩)] := by
 have he := str_eq l []
 rw [show (l == []) = false by rw [beq_eq_false_iff_ne]; exact hl] at he
 have hsz := S_size l
 have c1 := hasSuffix66 l [10, 10] (by omega)
 have c2 := contains67 l [10, 10, 10] (by omega)
 have hlp : 0 < l.length := by cases l with
  | nil => exact absurd rfl hl
  | cons a r => simp
 have g0 := S_at (l := l) (i := 0) hlp
 have u0 : ((l[0].toNat : Int) == 10) = (l[0] == 10) := u8_eq l[0] 10 (by decide)
 have hh : l.headD 0 = l[0] := by cases l with
  | nil => exact absurd rfl hl
  | cons a r => rfl
 unfold badF at hb
 rw [hh] at hb
 simp only [Bool.or_eq_false_iff, Bool.not_eq_false'] at hb
 obtain ⟨⟨b1, b2⟩, b3⟩ := hb
 rw [b1] at c1
 rw [b2] at u0
 rw [b3] at c2
 have c3 := trimSuffix69 l [10, 10] (by omega)
 have htl := trimSuffix_len l [10, 10]
 unfold cutP
 generalize Lib.trimSuffix l [10, 10] = tr at *
 have c4 := split68 tr [10, 10] (by omega) (by simp)
 have hne := split_ne [10, 10] tr (by simp)
 have hlen := split_len [10, 10] tr (by simp)
 have hmem := split_mem [10, 10] tr
 generalize splitL [10, 10] tr = L at *
 obtain ⟨A, hA⟩ : ∃ A : Nat → List Pk, ∀ i, A i = (L.take i).map fun t => (⟨false, true, splitL [10] t⟩ : Pk) := ⟨_, fun _ => rfl⟩
 have hA0 : A 0 = [] := by rw [hA]; rfl
 have hAl : ∀ i, i ≤ L.length → (A i).length = i := fun i hi => by rw [hA]; simp; omega
 have hAs : ∀ i (hi : i < L.length), A (i + 1) = A i ++ [⟨false, true, splitL [10] L[i]⟩] := fun i hi => by
  rw [hA, hA, List.take_succ_eq_append_getElem hi, List.map_append]; rfl
 have hAn : (L.map fun t => (⟨false, true, splitL [10] t⟩ : Pk)) = A L.length := by rw [hA, List.take_length]
 rw [hAn]
 have hL0 : 0 < L.length := by cases L with
  | nil => exact absurd rfl hne
  | cons a r => simp
 clear hA hAn
 refine eff_of_body (fn := Tryz.f41) [.tmp 2, .tmp 3] ⟨Tryz.func41, rfl, by kernel_rfl⟩ (by kernel_rfl) (by kernel_rfl) (by kernel_rfl) ?_ ?_ fun x hx hσ => ?_
 ·simp [wil, C.wi]
 ·simp
 rw [show stoO ([] : List (Nat × Ob)) = freeS from rfl] at hσ ⊢
 (repeat refine ZQ ?_); refine ZR fun K hK => ?_; simp (maxSteps := 1000000) [ty42, ty4]; refine hK _ ?_; clear hK K
 (repeat refine ZQ ?_); refine ZR fun K hK => ?_; simp (maxSteps := 1000000) [ty9, he, -strBin]; refine hK _ ?_; clear hK K
 (repeat refine ZQ ?_); refine ZC (fun hd => ?_) (fun hd => ?_)
 ·simp at hd
 ·clear hd
  refine awp_skip ?_
  (repeat refine ZQ ?_); refine ZR fun K hK => ?_; simp (maxSteps := 1000000) [ty9, ty4]
  refine ZP (c1) ?_; simp (maxSteps := 1000000) [ty9, ty4, ty5, hlp, g0, u0]
  refine ZP (c2) ?_; simp (maxSteps := 1000000) [ty4]
  refine hK _ ?_; clear hK K
  (repeat refine ZQ ?_); refine ZC (fun hd => ?_) (fun hd => ?_)
  ·simp at hd
  ·clear hd
   refine awp_skip ?_
   (repeat refine ZQ ?_); refine ZR fun K hK => ?_; simp (maxSteps := 1000000) [ty42]; refine hK _ ?_; clear hK K
   (repeat refine ZQ ?_); refine ZR fun K hK => ?_; simp (maxSteps := 1000000) [ty9]
   refine ZP (c3) ?_; simp (maxSteps := 1000000) [ty9]
   refine ZP (c4) ?_; simp (maxSteps := 1000000) [ty22]
   refine hK _ ?_; clear hK K
   (repeat refine ZQ ?_); refine awp_block ?_
   refine AWP.weak ?_ (wk_nil 4 4 1 (fu := true) (by simp) (by simp))
   refine awp_loop (fun i : Nat => ⟨ofL [(4, .own 4 1 0 i), (23, sT false true L), (24, encI L.length), (25, encI i)], stoT [(4, 4, .live ⟨(A i).isEmpty, false, 1, (A i).map cPk⟩)]⟩)
    (fun i => i ≤ L.length) (fun i => L.length - i) 0 (Nat.zero_le _) ?_ ?_
   ·rw [hA0]
    exact ZW
   ·intro i hi
    have hAi := hAl i hi
    (repeat refine ZQ ?_); refine ZR fun K hK => ?_; simp (maxSteps := 1000000) [ty3]; refine hK _ ?_; clear hK K
    (repeat refine ZQ ?_); refine ZC (fun hc => ?_) (fun hc => ?_)
    ·simp at hc
     have hst := hAs i hc
     have hml := hmem _ (List.getElem_mem hc)
     have c5 := split68 L[i] [10] (by omega) (by simp)
     generalize splitL [10] L[i] = sp at *
     have w1 : IntKind.i64.wrap ((i : Int) + 1) = ((i + 1 : Nat) : Int) := by rw [wrap_id (by omega) (by omega)]; rfl
     generalize A i = X at *
     refine awp_skip ?_
     (repeat refine ZQ ?_); refine awp_block ?_
     (repeat refine ZQ ?_); refine ZR fun K hK => ?_; simp (maxSteps := 1000000) [ty22, ty9, hc]; refine hK _ ?_; clear hK K
     (repeat refine ZQ ?_); refine ZR fun K hK => ?_; simp (maxSteps := 1000000) [ty42, ty9]
     refine ZP (c5) ?_; simp (maxSteps := 1000000) [ty22, ty42]
     refine ⟨by omega, ?_⟩
     refine hK _ ?_; clear hK K
     (repeat refine ZQ ?_); refine ZR fun K hK => ?_; simp (maxSteps := 1000000) [ty3, w1]; refine hK _ ?_; clear hK K; (first | show AWP _ _ _ _ _ | show ∃ _, _ | skip)
     refine ⟨i + 1, by omega, by omega, ?_⟩
     rw [hst]
     refine wk_shape2 [(4, 33, .live ⟨(X ++ [(⟨false, true, sp⟩ : Pk)]).isEmpty, false, 1, (X ++ [(⟨false, true, sp⟩ : Pk)]).map cPk⟩)] (by first | rfl | (simp only [if_pos, if_true]; rfl)) (shp0 hσ (by simp) (by simp) ?_) ?_
     ·simp [SlotOk] <;> (repeat' (first | (refine RowsOk.same ?_; simp [purel, C.isPure]; done) | (refine rowsCons ?_; simp [mtl, mtc, mT, mH, C.isPure, purel]; done) | (refine rowsCons ?_; simp [mtl, mtc, mT, mH, C.isPure, purel]) | refine And.intro ?_ ?_))
     ·simp [mtc, mtl, mT, C.isPure, purel] <;> (try simp (disch := omega) [wrap_id]) <;> (try omega)
    ·simp at hc
     (repeat refine ZQ ?_); refine awp_exit ?_; (first | show AWP _ _ _ _ _ | show ∃ _, _ | skip)
     have hin : i = L.length := by omega
     rw [hin] at hAi ⊢
     have hem : (A L.length).isEmpty = false := by
      cases h1 : A L.length with
      | nil => rw [h1] at hAi; simp at hAi; omega
      | cons a r => rfl
     generalize A L.length = X at *
     rw [hem]
     (repeat refine ZQ ?_); refine ZR fun K hK => ?_; simp (maxSteps := 1000000) [ty42, ty4]; refine hK _ ?_; clear hK K
     (repeat refine ZQ ?_); refine awp_ret ?_; refine And.intro (Or.inr rfl) ?_
     refine ⟨.tup [.own 4 1 0 L.length, .bool true], [(B, 4, .live ⟨false, false, 1, X.map cPk⟩)], ?_, shp0 hσ (by simp) (by simp) ?_, ?_, rfl⟩
     ·simp [retC, resC, viewC, mapO]
     ·simp [SlotOk]
      exact .same (by simp [purel, C.isPure])
     ·simp [mtc, mtl, mT, C.isPure, purel, hAi]

set_option maxHeartbeats 8000000
set_option maxRecDepth 20000


def joinQ (A B : List Ls) : List Ls := (List.range A.length).map fun j => A.getD j [] ++ B.getD j []
def jTo (A B : List Ls) (i : Nat) : List Pk := (List.range A.length).map fun j => if j < i then ⟨false, false, A.getD j [] ++ B.getD j []⟩ else ⟨false, true, A.getD j []⟩
theorem jTo_len (A B : List Ls) (i : Nat) : (jTo A B i).length = A.length := by simp [jTo]
theorem jTo_zero (A B : List Ls) : jTo A B 0 = A.map mk1 := by
 unfold jTo
 refine List.ext_getElem (by simp) fun j h1 h2 => ?_
 have h3 : j < A.length := by simpa using h2
 simp [mk1, List.getD_eq_getElem?_getD, List.getElem?_eq_getElem h3]
theorem jTo_full (A B : List Ls) : jTo A B A.length = (joinQ A B).map mkPk := by
 unfold jTo joinQ
 rw [List.map_map]
 exact List.map_congr_left fun j hj => by rw [if_pos (List.mem_range.1 hj)]; rfl
theorem jTo_succ (A B : List Ls) {i : Nat} (hi : i < A.length) : jTo A B (i + 1) = (jTo A B i).set i ⟨false, false, A.getD i [] ++ B.getD i []⟩ := by
 unfold jTo
 refine List.ext_getElem (by simp) fun j h1 h2 => ?_
 simp only [List.getElem_map, List.getElem_range, List.getElem_set]
 by_cases e : i = j
 ·subst e
  rw [if_pos (by omega), if_pos rfl]
 ·rw [if_neg e]
  by_cases h : j < i
  ·rw [if_pos (by omega), if_pos h]
  ·rw [if_neg (by omega), if_neg h]
theorem jTo_at (A B : List Ls) {i : Nat} (hi : i < A.length) (h : i < (jTo A B i).length) : (jTo A B i)[i] = ⟨false, true, A.getD i []⟩ := by
 unfold jTo
 simp

theorem pack_len {P : List Ls} (h : PsOk P) {p : Ls} (hp : p ∈ P) : p.length ≤ (wrL P).length ∧ ∀ x ∈ p, x.length ≤ (wrL P).length := by
 have e : (packL p).length ≤ (wrL P).length := by
  unfold wrL
  induction P with
  | nil => simp at hp
  | cons a r ih =>
   rw [List.flatMap_cons, List.length_append]
   rcases List.mem_cons.1 hp with rfl | hp
   ·omega
   ·have := ih (fun x hx => h x (by simp [hx])) hp; omega
 have e2 : ∀ (q : Ls), q.length ≤ (q.flatMap lineB).length ∧ ∀ x ∈ q, x.length ≤ (q.flatMap lineB).length := fun q => by
  induction q with
  | nil => simp
  | cons a r ih =>
   have hl : (lineB a).length = a.length + 1 := by simp [lineB]
   rw [List.flatMap_cons, List.length_append, List.length_cons, hl]
   refine ⟨by omega, fun x hx => ?_⟩
   rcases List.mem_cons.1 hx with rfl | hx
   ·omega
   ·have := ih.2 x hx; omega
 unfold packL at e
 rw [List.length_append] at e
 obtain ⟨g1, g2⟩ := e2 p
 exact ⟨by omega, fun x hx => by have := g2 x hx; omega⟩

theorem rQ_ok {l : List UInt8} (h : (cutV l).2 = true) : PsOk (rQ l) ∧ l = wrL (rQ l) := cutV_inv (l := l) (P := (cutV l).1) (by rw [← h])

def jOk (a b : List UInt8) : Bool := (cutV a).2 && (cutV b).2 && ((rQ a).length == (rQ b).length)
def jQ (a b : List UInt8) : List Ls := joinQ (rQ a) (rQ b)
def jE (a b : List UInt8) : Int := if jOk a b = true then readE ((jQ a b).map mk1) else 140
def jT (a b : List UInt8) : Ls := rdT ((jQ a b).map mk1) (jQ a b).length
def encJn (T : Ls) (e : Int) : C := if e = 0 then .tup [.sl T.isEmpty false (T.map cS), encI 0] else .tup [.sl true true [], encI e]

theorem jQ_bd {a b : List UInt8} (ha : a.length ≤ 20000) (hb : b.length ≤ 20000) (h1 : (cutV a).2 = true) (h2 : (cutV b).2 = true) (h3 : (rQ a).length = (rQ b).length) : (jQ a b).length ≤ 100000 ∧ ∀ p ∈ jQ a b, p.length ≤ 100000 ∧ ∀ x ∈ p, x.length ≤ 100000 := by
 obtain ⟨oa, ea⟩ := rQ_ok h1
 obtain ⟨ob, eb⟩ := rQ_ok h2
 have hn := (cut_bdQ (l := a) (by omega) h1).1
 refine ⟨by unfold jQ joinQ; simpa using hn, fun p hp => ?_⟩
 obtain ⟨j, hj, rfl⟩ := List.mem_map.1 hp
 have hj := List.mem_range.1 hj
 obtain ⟨p1, p2⟩ := pack_len oa (getD_mem (d := []) hj)
 obtain ⟨q1, q2⟩ := pack_len ob (getD_mem (d := []) (show j < (rQ b).length by omega))
 rw [← ea] at p1 p2
 rw [← eb] at q1 q2
 refine ⟨by rw [List.length_append]; omega, fun x hx => ?_⟩
 rcases List.mem_append.1 hx with hx | hx
 ·have := p2 x hx; omega
 ·have := q2 x hx; omega

theorem cutP_Q {l : List UInt8} (h : (cutV l).2 = true) (h0 : rQ l ≠ []) : l ≠ [] ∧ badF l = false ∧ cutP l = (rQ l).map mk1 := by
 obtain ⟨h1, h2⟩ := cut_rP h
 unfold rP at h2
 unfold cutB at h1 h2
 by_cases hl : l = []
 ·rw [if_pos hl] at h2
  simp at h2
  exact absurd h2 h0
 ·rw [if_neg hl] at h1 h2
  cases hb : badF l with
  | true => rw [hb] at h1; simp at h1
  | false =>
   rw [hb] at h2
   simp at h2
   exact ⟨hl, rfl, h2⟩


theorem join29_no (a b : List UInt8) (ha : a.length ≤ 20000) (hb : b.length ≤ 20000) (h : jOk a b = false) : Pure Tryz.prog 29 [encS a, encS b] (encJn (jT a b) (jE a b)) := by
 have ca := cut41 a (by omega)
 have cb := cut41 b (by omega)
 have hE : jE a b = 140 := by unfold jE; rw [h]; rfl
 rw [hE]
 unfold encJn
 rw [if_neg (by decide)]
 have hA : (cutB a).getD [] = rP a := rfl
 have hB : (cutB b).getD [] = rP b := rfl
 rw [hA] at ca
 rw [hB] at cb
 cases h1 : (cutV a).2 with
 | false =>
  rw [(cut_no h1).1, (cut_no h1).2] at ca
  generalize rP b = Y at *
  generalize (cutB b).isSome = o at *
  refine ZF (fn := Tryz.f29) [.tmp 4, .tmp 5] ⟨Tryz.func29, rfl, by kernel_rfl⟩ fun x hx hσ => ?_
  (repeat refine ZQ ?_); refine ZR fun K hK => ?_; simp (maxSteps := 1000000) [ty22, ty26]; refine hK _ ?_; clear hK K
  (repeat refine ZQ ?_); refine ZR fun K hK => ?_; simp (maxSteps := 1000000) [ty9]
  refine ZP (ca) ?_; simp (maxSteps := 1000000) [ty42, ty4]
  refine hK _ ?_; clear hK K
  (repeat refine ZQ ?_); refine ZR fun K hK => ?_; simp (maxSteps := 1000000) [ty9]
  refine ZP (cb) ?_; simp (maxSteps := 1000000) [ty42, ty4]
  refine hK _ ?_; clear hK K
  (repeat refine ZQ ?_); refine ZR fun K hK => ?_; simp (maxSteps := 1000000) [ty42, ty4, ty3]; refine hK _ ?_; clear hK K
  (repeat refine ZQ ?_); refine ZC (fun hd => ?_) (fun hd => ?_)
  ·clear hd
   (repeat refine ZQ ?_); refine ZR fun K hK => ?_; simp (maxSteps := 1000000) [ty22, ty26]; refine hK _ ?_; clear hK K
   (repeat refine ZQ ?_); refine awp_ret ?_; refine And.intro (Or.inr rfl) ?_
   simp [retC, resC, viewC, mapO]
  ·simp at hd
 | true =>
  obtain ⟨a1, a2⟩ := cut_rP h1
  rw [a1, a2] at ca
  cases h2 : (cutV b).2 with
  | false =>
   rw [(cut_no h2).1, (cut_no h2).2] at cb
   generalize (rQ a).map mk1 = X at *
   refine ZF (fn := Tryz.f29) [.tmp 4, .tmp 5] ⟨Tryz.func29, rfl, by kernel_rfl⟩ fun x hx hσ => ?_
   (repeat refine ZQ ?_); refine ZR fun K hK => ?_; simp (maxSteps := 1000000) [ty22, ty26]; refine hK _ ?_; clear hK K
   (repeat refine ZQ ?_); refine ZR fun K hK => ?_; simp (maxSteps := 1000000) [ty9]
   refine ZP (ca) ?_; simp (maxSteps := 1000000) [ty42, ty4]
   refine hK _ ?_; clear hK K
   (repeat refine ZQ ?_); refine ZR fun K hK => ?_; simp (maxSteps := 1000000) [ty9]
   refine ZP (cb) ?_; simp (maxSteps := 1000000) [ty42, ty4]
   refine hK _ ?_; clear hK K
   (repeat refine ZQ ?_); refine ZR fun K hK => ?_; simp (maxSteps := 1000000) [ty42, ty4, ty3]; refine hK _ ?_; clear hK K
   (repeat refine ZQ ?_); refine ZC (fun hd => ?_) (fun hd => ?_)
   ·clear hd
    (repeat refine ZQ ?_); refine ZR fun K hK => ?_; simp (maxSteps := 1000000) [ty22, ty26]; refine hK _ ?_; clear hK K
    (repeat refine ZQ ?_); refine awp_ret ?_; refine And.intro (Or.inr rfl) ?_
    simp [retC, resC, viewC, mapO]
   ·simp at hd
  | true =>
   obtain ⟨b1, b2⟩ := cut_rP h2
   rw [b1, b2] at cb
   have hne : (rQ a).length ≠ (rQ b).length := fun e => by
    unfold jOk at h
    rw [h1, h2, e] at h
    simp at h
   have hlx : (((rQ a).length : Int) != ((rQ b).length : Int)) = true := by rw [bne_iff_ne]; omega
   have hl1 : ((rQ a).map mk1).length = (rQ a).length := by simp
   have hl2 : ((rQ b).map mk1).length = (rQ b).length := by simp
   rw [← hl1, ← hl2] at hlx hne
   generalize (rQ a).map mk1 = X at *
   generalize (rQ b).map mk1 = Y at *
   refine ZF (fn := Tryz.f29) [.tmp 4, .tmp 5] ⟨Tryz.func29, rfl, by kernel_rfl⟩ fun x hx hσ => ?_
   (repeat refine ZQ ?_); refine ZR fun K hK => ?_; simp (maxSteps := 1000000) [ty22, ty26]; refine hK _ ?_; clear hK K
   (repeat refine ZQ ?_); refine ZR fun K hK => ?_; simp (maxSteps := 1000000) [ty9]
   refine ZP (ca) ?_; simp (maxSteps := 1000000) [ty42, ty4]
   refine hK _ ?_; clear hK K
   (repeat refine ZQ ?_); refine ZR fun K hK => ?_; simp (maxSteps := 1000000) [ty9]
   refine ZP (cb) ?_; simp (maxSteps := 1000000) [ty42, ty4]
   refine hK _ ?_; clear hK K
   (repeat refine ZQ ?_); refine ZR fun K hK => ?_; simp (maxSteps := 1000000) [ty42, ty4, ty3, hlx, hne]; refine hK _ ?_; clear hK K
   (repeat refine ZQ ?_); refine ZC (fun hd => ?_) (fun hd => ?_)
   ·clear hd
    (repeat refine ZQ ?_); refine ZR fun K hK => ?_; simp (maxSteps := 1000000) [ty22, ty26]; refine hK _ ?_; clear hK K
    (repeat refine ZQ ?_); refine awp_ret ?_; refine And.intro (Or.inr rfl) ?_
    simp [retC, resC, viewC, mapO]
   ·simp at hd

theorem join29_nil (a b : List UInt8) (ha : a.length ≤ 20000) (hb : b.length ≤ 20000) (h1 : (cutV a).2 = true) (h2 : (cutV b).2 = true) (h3 : rQ a = []) (h4 : rQ b = []) : Pure Tryz.prog 29 [encS a, encS b] (encJn (jT a b) (jE a b)) := by
 have ca := cut41 a (by omega)
 have cb := cut41 b (by omega)
 have hA : (cutB a).getD [] = rP a := rfl
 have hB : (cutB b).getD [] = rP b := rfl
 rw [hA, (cut_rP h1).1, (cut_rP h1).2, h3] at ca
 rw [hB, (cut_rP h2).1, (cut_rP h2).2, h4] at cb
 have hE : jE a b = 0 := by unfold jE jOk jQ; rw [h1, h2, h3, h4]; rfl
 have hT : jT a b = [] := by unfold jT jQ; rw [h3]; rfl
 rw [hE, hT]
 have c42 := readAll42 true true [] (by simp) (by simp)
 have e42 : encRd (rdT [] ([] : List Pk).length) (rdL [] ([] : List Pk).length) (readE []) = .tup [.sl true false [], .sl true false [], encI 0] := rfl
 rw [e42] at c42
 unfold encJn
 rw [if_pos rfl]
 refine ZF (fn := Tryz.f29) [.tmp 4, .tmp 5] ⟨Tryz.func29, rfl, by kernel_rfl⟩ fun x hx hσ => ?_
 (repeat refine ZQ ?_); refine ZR fun K hK => ?_; simp (maxSteps := 1000000) [ty22, ty26]; refine hK _ ?_; clear hK K
 (repeat refine ZQ ?_); refine ZR fun K hK => ?_; simp (maxSteps := 1000000) [ty9]
 refine ZP (ca) ?_; simp (maxSteps := 1000000) [ty42, ty4]
 refine hK _ ?_; clear hK K
 (repeat refine ZQ ?_); refine ZR fun K hK => ?_; simp (maxSteps := 1000000) [ty9]
 refine ZP (cb) ?_; simp (maxSteps := 1000000) [ty42, ty4]
 refine hK _ ?_; clear hK K
 (repeat refine ZQ ?_); refine ZR fun K hK => ?_; simp (maxSteps := 1000000) [ty42, ty4, ty3]; refine hK _ ?_; clear hK K
 (repeat refine ZQ ?_); refine ZC (fun hd => ?_) (fun hd => ?_)
 ·simp at hd
 ·clear hd
  refine awp_skip ?_
  (repeat refine ZQ ?_); refine ZR fun K hK => ?_; simp (maxSteps := 1000000) [ty42, ty3]; refine hK _ ?_; clear hK K
  (repeat refine ZQ ?_); refine awp_block ?_
  refine awp_loop (fun i : Nat => ⟨ofL [(6, .sl true true []), (8, .sl true true []), (38, encI 0), (39, encI 0)], stoT []⟩)
   (fun i => i = 0) (fun i => 0) 0 rfl ?_ ?_
  ·exact ZW
  ·intro i hi
   (repeat refine ZQ ?_); refine ZR fun K hK => ?_; simp (maxSteps := 1000000) [ty3]; refine hK _ ?_; clear hK K
   (repeat refine ZQ ?_); refine ZC (fun hd => ?_) (fun hd => ?_)
   ·simp at hd
   ·clear hd
    (repeat refine ZQ ?_); refine awp_exit ?_
    (repeat refine ZQ ?_); refine ZR fun K hK => ?_; simp (maxSteps := 1000000) [ty42]
    refine ZP (c42) ?_; simp (maxSteps := 1000000) [ty22, ty33, ty26]
    refine hK _ ?_; clear hK K
    (repeat refine ZQ ?_); refine ZR fun K hK => ?_; simp (maxSteps := 1000000) [ty22, ty26]; refine hK _ ?_; clear hK K
    (repeat refine ZQ ?_); refine awp_ret ?_; refine And.intro (Or.inr rfl) ?_
    simp [retC, resC, viewC, mapO]

theorem join29_ok (a b : List UInt8) (ha : a.length ≤ 20000) (hb : b.length ≤ 20000) (h1 : (cutV a).2 = true) (h2 : (cutV b).2 = true) (h3 : (rQ a).length = (rQ b).length) (h4 : rQ a ≠ []) : Pure Tryz.prog 29 [encS a, encS b] (encJn (jT a b) (jE a b)) := by
 obtain ⟨k1, k2, k3⟩ := cutP_Q h1 h4
 have cE := cutE41 a (by omega) k1 k2 6
 rw [k3] at cE
 have cb := cut41 b (by omega)
 have hB : (cutB b).getD [] = rP b := rfl
 rw [hB, (cut_rP h2).1, (cut_rP h2).2] at cb
 obtain ⟨oa, ea⟩ := rQ_ok h1
 obtain ⟨ob, eb⟩ := rQ_ok h2
 have hE : jE a b = readE ((jQ a b).map mk1) := by unfold jE jOk; rw [h1, h2, h3]; simp
 obtain ⟨m1, m2⟩ := jQ_bd ha hb h1 h2 h3
 have hnn := (cut_bdQ (l := a) (by omega) h1).1
 have c42 := readAll42 false false ((jQ a b).map mkPk) (by simpa using m1) (fun p hp => by
  obtain ⟨q, hq, rfl⟩ := List.mem_map.1 hp
  exact m2 q hq)
 rw [List.length_map, rdT_l mk_l mk1_l, rdL_l mk_l mk1_l, readE_l mk_l mk1_l] at c42
 have c50 : ∀ i (hi : i < (rQ a).length), Pure Tryz.prog 50 [.sl false true [[sT false true ((rQ a).getD i [])], [sT false true ((rQ b).getD i [])]]] (sT false false ((rQ a).getD i [] ++ (rQ b).getD i [])) := fun i hi => by
  have hpa := getD_mem (d := []) hi
  have hpb := getD_mem (d := []) (show i < (rQ b).length by omega)
  have l1 := (pack_len oa hpa).1
  have l2 := (pack_len ob hpb).1
  rw [← ea] at l1
  rw [← eb] at l2
  have l3 := List.length_pos_iff.2 (oa _ hpa).1
  have e : catTo [(⟨false, true, (rQ a).getD i []⟩ : Pk), ⟨false, true, (rQ b).getD i []⟩] 2 = (rQ a).getD i [] ++ (rQ b).getD i [] := by simp [catTo]
  have := concat50 false true [⟨false, true, (rQ a).getD i []⟩, ⟨false, true, (rQ b).getD i []⟩] (by simp only [List.length_cons, List.length_nil]; rw [e, List.length_append]; omega) (by simp only [List.length_cons, List.length_nil]; rw [e, List.length_append]; omega) (by simp)
  simp only [List.length_cons, List.length_nil] at this
  rw [e] at this
  exact this
 rw [hE]
 unfold jT
 have hJ0 := jTo_zero (rQ a) (rQ b)
 have hJn := jTo_full (rQ a) (rQ b)
 have hJs := fun i (hi : i < (rQ a).length) => jTo_succ (rQ a) (rQ b) hi
 have hJl := fun i => jTo_len (rQ a) (rQ b) i
 have hJa := fun i (hi : i < (rQ a).length) (h : i < (jTo (rQ a) (rQ b) i).length) => jTo_at (rQ a) (rQ b) hi h
 have hjq : joinQ (rQ a) (rQ b) = jQ a b := rfl
 rw [hjq] at hJn
 generalize jTo (rQ a) (rQ b) = J at *
 have hYl : ((rQ b).map mk1).length = (rQ a).length := by rw [List.length_map]; exact h3.symm
 have hYa : ∀ i (hi : i < (rQ a).length) (h : i < ((rQ b).map mk1).length), ((rQ b).map mk1)[i] = ⟨false, true, (rQ b).getD i []⟩ := fun i hi h => by
  have h' : i < (rQ b).length := by omega
  simp [mk1, List.getD_eq_getElem?_getD, List.getElem?_eq_getElem h']
 have hn0 : 0 < (rQ a).length := List.length_pos_iff.2 h4
 have hm : ((rQ a).map mk1).length = (rQ a).length := by simp
 rw [← hJ0] at cE hm
 rw [hm] at cE
 have hYe : ((rQ b).map mk1).isEmpty = false := by
  cases hq : (rQ b).map mk1 with
  | nil => rw [hq] at hYl; simp at hYl; omega
  | cons x y => rfl
 have hxx : ∀ i, (rQ a).getD i [] = (rQ a).getD i [] := fun _ => rfl
 generalize hgA : (fun i => (rQ a).getD i []) = ga at *
 generalize hgB : (fun i => (rQ b).getD i []) = gb at *
 have fA : ∀ i, (rQ a).getD i [] = ga i := fun i => by rw [← hgA]
 have fB : ∀ i, (rQ b).getD i [] = gb i := fun i => by rw [← hgB]
 simp only [fA, fB] at c50 hJs hJa hYa
 clear fA fB hgA hgB hxx
 generalize (rQ b).map mk1 = Y at *
 generalize (rQ a).length = n at *
 generalize rdT ((jQ a b).map mk1) (jQ a b).length = T at *
 generalize rdL ((jQ a b).map mk1) (jQ a b).length = Ms at *
 generalize readE ((jQ a b).map mk1) = e at *
 generalize (jQ a b).map mkPk = Jn at *
 clear hJ0 ea eb
 refine ZF (fn := Tryz.f29) [.tmp 4, .tmp 5] ⟨Tryz.func29, rfl, by kernel_rfl⟩ fun x hx hσ => ?_
 (repeat refine ZQ ?_); refine ZR fun K hK => ?_; simp (maxSteps := 1000000) [ty22, ty26]; refine hK _ ?_; clear hK K
 (repeat refine ZQ ?_); refine ZR fun K hK => ?_; simp (maxSteps := 1000000) [ty9]
 refine doesL (cE.does ?_ ?_) ?_
 ·simp [keysO]
 ·simp [keysO]
 simp [ty42, ty4]
 refine hK _ ?_; clear hK K
 (repeat refine ZQ ?_); refine ZR fun K hK => ?_; simp (maxSteps := 1000000) [ty9]
 refine ZP (cb) ?_; simp (maxSteps := 1000000) [ty42, ty4]
 refine hK _ ?_; clear hK K
 (repeat refine ZQ ?_); refine ZR fun K hK => ?_; simp (maxSteps := 1000000) [ty42, ty4, ty3, hYl]; refine hK _ ?_; clear hK K
 (repeat refine ZQ ?_); refine ZC (fun hd => ?_) (fun hd => ?_)
 ·simp at hd
 ·clear hd
  refine awp_skip ?_
  (repeat refine ZQ ?_); refine ZR fun K hK => ?_; simp (maxSteps := 1000000) [ty42, ty3]; refine hK _ ?_; clear hK K
  (repeat refine ZQ ?_); refine awp_block ?_
  refine awp_loop (fun i : Nat => ⟨ofL [(6, .own 6 1 0 n), (8, sPk false false Y), (38, encI n), (39, encI i)], stoT [(6, 6, .live ⟨false, false, 1, (J i).map cPk⟩)]⟩)
   (fun i => i ≤ n) (fun i => n - i) 0 (Nat.zero_le _) ?_ ?_
  ·refine wk_shape (shp0 hσ (by simp) (by simp) ?_) ?_
   ·simp [SlotOk, hYe] <;> (repeat' (first | (refine RowsOk.same ?_; simp [purel, C.isPure]; done) | (refine rowsCons ?_; simp [mtl, mtc, mT, mH, C.isPure, purel]; done) | (refine rowsCons ?_; simp [mtl, mtc, mT, mH, C.isPure, purel]) | refine And.intro ?_ ?_))
   ·simp [mtc, mtl, mT, C.isPure, purel, hYe] <;> (try simp (disch := omega) [wrap_id]) <;> (try omega)
  ·intro i hi
   have w1 : IntKind.i64.wrap ((i : Int) + 1) = ((i + 1 : Nat) : Int) := by rw [wrap_id (by omega) (by omega)]; rfl
   (repeat refine ZQ ?_); refine ZR fun K hK => ?_; simp (maxSteps := 1000000) [ty3]; refine hK _ ?_; clear hK K; (first | show AWP _ _ _ _ _ | show ∃ _, _ | skip)
   by_cases hlt : i < n
   ·have hlt' : (i : Int) < n := by omega
    (repeat refine ZQ ?_); refine ZC (hc := by simp [hlt]; rfl) (fun hd => ?_) (fun hd => ?_)
    ·clear hd
     have hJli := hJl i
     have hgj := hJa i hlt (by omega)
     have hgy := hYa i hlt (by omega)
     have hjs := hJs i hlt
     have c5 := c50 i hlt
     have hYi : i < Y.length := by omega
     have hJi : i < (J i).length := by omega
     generalize ga i = p at *
     generalize gb i = q at *
     have hom : ((J i).map cPk).set i [sT false false (p ++ q)] = ((J i).set i ⟨false, false, p ++ q⟩).map cPk := by rw [List.map_set]
     rw [← hjs] at hom
     generalize p ++ q = pq at *
     refine awp_skip ?_
     (repeat refine ZQ ?_); refine awp_block ?_
     (repeat refine ZQ ?_); refine ZR fun K hK => ?_; simp (maxSteps := 1000000) [ty3]; refine hK _ ?_; clear hK K
     (repeat refine ZQ ?_); refine ZD [2013,10006] [0, 1, 2, 3, 4, 5, 6, 7, 8, 9, 10, 11, 12, 13] fun K hK => ?_; simp (maxSteps := 1000000) [ty42, ty22, hlt, hYi, hJi, hgj, hgy, hJli, hYl]
     refine ZE (c5) ?_; simp (maxSteps := 1000000) [ty42, ty22, hlt, hYi, hJi, hgj, hgy, hJli, hom]
     refine hK _ ?_; clear hK K
     (repeat refine ZQ ?_); refine ZR fun K hK => ?_; simp (maxSteps := 1000000) [ty3, w1]; refine hK _ ?_; clear hK K; (first | show AWP _ _ _ _ _ | show ∃ _, _ | skip)
     refine ⟨i + 1, by omega, by omega, ?_⟩
     exact ZW
    ·simp [hlt] at hd
   ·have hin : i = n := by omega
    subst hin
    (repeat refine ZQ ?_); refine ZC (fun hd => ?_) (fun hd => ?_)
    ·simp at hd
    ·clear hd
     (repeat refine ZQ ?_); refine awp_exit ?_; (first | show AWP _ _ _ _ _ | show ∃ _, _ | skip)
     rw [hJn]
     have hJnl : Jn.length = i := by rw [← hJn]; exact hJl i
     refine AWP.weak ?_ (wk_frz 6 6 (c := sPk false false Jn) (o := ⟨false, false, 1, Jn.map cPk⟩) (by simp) (all_purel_map fun _ => rfl) (fz_own rfl (by simp [hJnl]) (by simp)))
     unfold encJn
     by_cases h0 : e = 0
     ·subst h0
      simp only [encRd, if_true] at c42
      rw [if_pos rfl]
      (repeat refine ZQ ?_); refine ZR fun K hK => ?_; simp (maxSteps := 1000000) [ty42]
      refine ZP (c42) ?_; simp (maxSteps := 1000000) [ty22, ty33, ty26]
      refine hK _ ?_; clear hK K
      (repeat refine ZQ ?_); refine ZR fun K hK => ?_; simp (maxSteps := 1000000) [ty22, ty26]; refine hK _ ?_; clear hK K
      (repeat refine ZQ ?_); refine awp_ret ?_; refine And.intro (Or.inr rfl) ?_
      simp [retC, resC, viewC, mapO]
     ·simp only [encRd, if_neg h0] at c42
      rw [if_neg h0]
      (repeat refine ZQ ?_); refine ZR fun K hK => ?_; simp (maxSteps := 1000000) [ty42]
      refine ZP (c42) ?_; simp (maxSteps := 1000000) [ty22, ty33, ty26]
      refine hK _ ?_; clear hK K
      (repeat refine ZQ ?_); refine ZR fun K hK => ?_; simp (maxSteps := 1000000) [ty22, ty26]; refine hK _ ?_; clear hK K
      (repeat refine ZQ ?_); refine awp_ret ?_; refine And.intro (Or.inr rfl) ?_
      simp [retC, resC, viewC, mapO]

set_option maxHeartbeats 8000000
set_option maxRecDepth 20000


theorem join29 (a b : List UInt8) (ha : a.length ≤ 20000) (hb : b.length ≤ 20000) : Pure Tryz.prog 29 [encS a, encS b] (encJn (jT a b) (jE a b)) := by
 cases h : jOk a b with
 | false => exact join29_no a b ha hb h
 | true =>
  unfold jOk at h
  simp only [Bool.and_eq_true, beq_iff_eq] at h
  obtain ⟨⟨h1, h2⟩, h3⟩ := h
  by_cases h4 : rQ a = []
  ·exact join29_nil a b ha hb h1 h2 h4 (by rw [h4] at h3; simpa using h3.symm)
  ·exact join29_ok a b ha hb h1 h2 h3 h4


theorem encCut_any (l : List UInt8) : ∃ (x y : Bool) (Q : List Ls), encCut l = .tup [sPl x y Q, .bool (cutV l).2] := by
 cases h : (cutV l).2 with
 | true => exact ⟨_, _, _, encCut_ok h⟩
 | false =>
  obtain ⟨a, Q, h | h⟩ := encCut_no h
  ·exact ⟨_, _, _, h⟩
  ·exact ⟨_, _, _, h⟩

theorem join30_no (a b : List UInt8) (ha : a.length ≤ 20000) (hb : b.length ≤ 20000) (h : jOk a b = false) : Pure Tryz.prog 30 [encS a, encS b] (encJn (jT a b) (jE a b)) := by
 have ca := q_cut23 a (by omega)
 have cb := q_cut23 b (by omega)
 have hE : jE a b = 140 := by unfold jE; rw [h]; rfl
 rw [hE]
 unfold encJn
 rw [if_neg (by decide)]
 obtain ⟨x1, x2, X, hX⟩ := encCut_any a
 obtain ⟨y1, y2, Y, hY⟩ := encCut_any b
 cases h1 : (cutV a).2 with
 | false =>
  rw [hX, h1] at ca
  rw [hY] at cb
  generalize (cutV b).2 = o at *
  refine ZF (fn := Tryz.f30) [.tmp 4, .tmp 5] ⟨Tryz.func30, rfl, by kernel_rfl⟩ fun x hx hσ => ?_
  (repeat refine ZQ ?_); refine ZR fun K hK => ?_; simp (maxSteps := 1000000) [ty22, ty26]; refine hK _ ?_; clear hK K
  (repeat refine ZQ ?_); refine ZR fun K hK => ?_; simp (maxSteps := 1000000) [ty9]
  refine ZP (ca) ?_; simp (maxSteps := 1000000) [ty42, ty4]
  refine hK _ ?_; clear hK K
  (repeat refine ZQ ?_); refine ZR fun K hK => ?_; simp (maxSteps := 1000000) [ty9]
  refine ZP (cb) ?_; simp (maxSteps := 1000000) [ty42, ty4]
  refine hK _ ?_; clear hK K
  (repeat refine ZQ ?_); refine ZR fun K hK => ?_; simp (maxSteps := 1000000) [ty42, ty4, ty3]; refine hK _ ?_; clear hK K
  (repeat refine ZQ ?_); refine ZC (fun hd => ?_) (fun hd => ?_)
  ·clear hd
   (repeat refine ZQ ?_); refine ZR fun K hK => ?_; simp (maxSteps := 1000000) [ty22, ty26]; refine hK _ ?_; clear hK K
   (repeat refine ZQ ?_); refine awp_ret ?_; refine And.intro (Or.inr rfl) ?_
   simp [retC, resC, viewC, mapO]
  ·simp at hd
 | true =>
  cases h2 : (cutV b).2 with
  | false =>
   rw [hX, h1] at ca
   rw [hY, h2] at cb
   refine ZF (fn := Tryz.f30) [.tmp 4, .tmp 5] ⟨Tryz.func30, rfl, by kernel_rfl⟩ fun x hx hσ => ?_
   (repeat refine ZQ ?_); refine ZR fun K hK => ?_; simp (maxSteps := 1000000) [ty22, ty26]; refine hK _ ?_; clear hK K
   (repeat refine ZQ ?_); refine ZR fun K hK => ?_; simp (maxSteps := 1000000) [ty9]
   refine ZP (ca) ?_; simp (maxSteps := 1000000) [ty42, ty4]
   refine hK _ ?_; clear hK K
   (repeat refine ZQ ?_); refine ZR fun K hK => ?_; simp (maxSteps := 1000000) [ty9]
   refine ZP (cb) ?_; simp (maxSteps := 1000000) [ty42, ty4]
   refine hK _ ?_; clear hK K
   (repeat refine ZQ ?_); refine ZR fun K hK => ?_; simp (maxSteps := 1000000) [ty42, ty4, ty3]; refine hK _ ?_; clear hK K
   (repeat refine ZQ ?_); refine ZC (fun hd => ?_) (fun hd => ?_)
   ·clear hd
    (repeat refine ZQ ?_); refine ZR fun K hK => ?_; simp (maxSteps := 1000000) [ty22, ty26]; refine hK _ ?_; clear hK K
    (repeat refine ZQ ?_); refine awp_ret ?_; refine And.intro (Or.inr rfl) ?_
    simp [retC, resC, viewC, mapO]
   ·simp at hd
  | true =>
   rw [encCut_ok h1] at ca
   rw [encCut_ok h2] at cb
   have hne : (rQ a).length ≠ (rQ b).length := fun e => by
    unfold jOk at h
    rw [h1, h2, e] at h
    simp at h
   have hlx : (((rQ a).length : Int) != ((rQ b).length : Int)) = true := by rw [bne_iff_ne]; omega
   clear hX hY
   generalize rQ a = P at *
   generalize rQ b = Q at *
   refine ZF (fn := Tryz.f30) [.tmp 4, .tmp 5] ⟨Tryz.func30, rfl, by kernel_rfl⟩ fun x hx hσ => ?_
   (repeat refine ZQ ?_); refine ZR fun K hK => ?_; simp (maxSteps := 1000000) [ty22, ty26]; refine hK _ ?_; clear hK K
   (repeat refine ZQ ?_); refine ZR fun K hK => ?_; simp (maxSteps := 1000000) [ty9]
   refine ZP (ca) ?_; simp (maxSteps := 1000000) [ty42, ty4]
   refine hK _ ?_; clear hK K
   (repeat refine ZQ ?_); refine ZR fun K hK => ?_; simp (maxSteps := 1000000) [ty9]
   refine ZP (cb) ?_; simp (maxSteps := 1000000) [ty42, ty4]
   refine hK _ ?_; clear hK K
   (repeat refine ZQ ?_); refine ZR fun K hK => ?_; simp (maxSteps := 1000000) [ty42, ty4, ty3, hne, hlx]; refine hK _ ?_; clear hK K
   (repeat refine ZQ ?_); refine ZC (fun hd => ?_) (fun hd => ?_)
   ·clear hd
    (repeat refine ZQ ?_); refine ZR fun K hK => ?_; simp (maxSteps := 1000000) [ty22, ty26]; refine hK _ ?_; clear hK K
    (repeat refine ZQ ?_); refine awp_ret ?_; refine And.intro (Or.inr rfl) ?_
    simp [retC, resC, viewC, mapO]
   ·simp at hd

theorem joinQ_take (A B : List Ls) {i : Nat} (hi : i < A.length) : (joinQ A B).take (i + 1) = (joinQ A B).take i ++ [A.getD i [] ++ B.getD i []] := by
 have hl : i < (joinQ A B).length := by simpa [joinQ] using hi
 rw [List.take_succ_eq_append_getElem hl]
 simp [joinQ]

theorem join30_ok (a b : List UInt8) (ha : a.length ≤ 20000) (hb : b.length ≤ 20000) (h : jOk a b = true) : Pure Tryz.prog 30 [encS a, encS b] (encJn (jT a b) (jE a b)) := by
  have ca := q_cut23 a (by omega)
  have cb := q_cut23 b (by omega)
  have hE : jE a b = readE ((jQ a b).map mk1) := by unfold jE; rw [h, if_pos rfl]
  unfold jOk at h
  simp only [Bool.and_eq_true, beq_iff_eq] at h
  obtain ⟨⟨h1, h2⟩, h3⟩ := h
  rw [encCut_ok h1] at ca
  rw [encCut_ok h2] at cb
  obtain ⟨oa, ea⟩ := rQ_ok h1
  obtain ⟨ob, eb⟩ := rQ_ok h2
  obtain ⟨m1, m2⟩ := jQ_bd ha hb h1 h2 h3
  have hnn := (cut_bdQ (l := a) (by omega) h1).1
  have c48 := read_Q (jQ a b).isEmpty (jQ a b) m1 m2
  have hbd : ∀ i (hi : i < (rQ a).length), (rQ a).getD i [] ≠ [] ∧ ((rQ a).getD i []).length ≤ 20000 ∧ ((rQ b).getD i []).length ≤ 20000 := fun i hi => by
    have hpa := getD_mem (d := []) hi
    have hpb := getD_mem (d := []) (show i < (rQ b).length by omega)
    have l1 := (pack_len oa hpa).1
    have l2 := (pack_len ob hpb).1
    rw [← ea] at l1
    rw [← eb] at l2
    exact ⟨(oa _ hpa).1, by omega, by omega⟩
  rw [hE]
  unfold jT
  have hJ0 : (jQ a b).take 0 = [] := rfl
  have hJs : ∀ i (hi : i < (rQ a).length), (jQ a b).take (i + 1) = (jQ a b).take i ++ [(rQ a).getD i [] ++ (rQ b).getD i []] := fun i hi => joinQ_take _ _ hi
  have hJn : (jQ a b).take (rQ a).length = jQ a b := List.take_of_length_le (by simp [jQ, joinQ])
  have hJl : ∀ i, i ≤ (rQ a).length → ((jQ a b).take i).length = i := fun i hi => by
    rw [List.length_take]
    have : (jQ a b).length = (rQ a).length := by simp [jQ, joinQ]
    omega
  have gA : ∀ i (hi : i < (rQ a).length), (rQ a)[i] = (rQ a).getD i [] := fun i hi => by simp [List.getD_eq_getElem?_getD, List.getElem?_eq_getElem hi]
  have gB : ∀ i (hi : i < (rQ b).length), (rQ b)[i] = (rQ b).getD i [] := fun i hi => by simp [List.getD_eq_getElem?_getD, List.getElem?_eq_getElem hi]
  generalize hJt : (fun i => (jQ a b).take i) = J at *
  have fJ : ∀ i, (jQ a b).take i = J i := fun i => by rw [← hJt]
  simp only [fJ] at hJ0 hJs hJn hJl
  clear fJ hJt
  generalize rQ a = P at *
  generalize rQ b = Q at *
  generalize rdT ((jQ a b).map mk1) (jQ a b).length = T at *
  generalize rdL ((jQ a b).map mk1) (jQ a b).length = Ms at *
  generalize readE ((jQ a b).map mk1) = e at *
  generalize jQ a b = Jn at *
  clear ea eb oa ob m2
  refine ZF (fn := Tryz.f30) [.tmp 4, .tmp 5] ⟨Tryz.func30, rfl, by kernel_rfl⟩ fun x hx hσ => ?_
  (repeat refine ZQ ?_); refine ZR fun K hK => ?_; simp (maxSteps := 1000000) [ty22, ty26]; refine hK _ ?_; clear hK K
  (repeat refine ZQ ?_); refine ZR fun K hK => ?_; simp (maxSteps := 1000000) [ty9]
  refine ZP (ca) ?_; simp (maxSteps := 1000000) [ty42, ty4]
  refine hK _ ?_; clear hK K
  (repeat refine ZQ ?_); refine ZR fun K hK => ?_; simp (maxSteps := 1000000) [ty9]
  refine ZP (cb) ?_; simp (maxSteps := 1000000) [ty42, ty4]
  refine hK _ ?_; clear hK K
  (repeat refine ZQ ?_); refine ZR fun K hK => ?_; simp (maxSteps := 1000000) [ty42, ty4, ty3, h3]; refine hK _ ?_; clear hK K
  (repeat refine ZQ ?_); refine ZC (fun hd => ?_) (fun hd => ?_)
  · simp at hd
  · clear hd
    refine awp_skip ?_
    (repeat refine ZQ ?_); refine ZR fun K hK => ?_; simp (maxSteps := 1000000) [ty42]; refine hK _ ?_; clear hK K
    (repeat refine ZQ ?_); refine ZR fun K hK => ?_; simp (maxSteps := 1000000) [ty3]; refine hK _ ?_; clear hK K
    (repeat refine ZQ ?_); refine awp_block ?_
    refine AWP.weak ?_ (wk_nil 10 10 1 (fu := true) (by simp) (by simp))
    refine awp_loop (fun i : Nat => ⟨ofL [(6, sPl P.isEmpty false P), (8, sPl Q.isEmpty false Q), (10, .own 10 1 0 i), (11, encI i)], stoT [(10, 10, .live ⟨(J i).isEmpty, false, 1, (J i).map cPl⟩)]⟩)
      (fun i => i ≤ P.length) (fun i => P.length - i) 0 (Nat.zero_le _) ?_ ?_
    · refine wk_shape (shp0 hσ (by simp) (by simp) ?_) ?_
      · simp [SlotOk, hJ0] <;> (repeat' (first | (refine RowsOk.same ?_; simp [purel, C.isPure]; done) | (refine rowsCons ?_; simp [mtl, mtc, mT, mH, C.isPure, purel]; done) | (refine rowsCons ?_; simp [mtl, mtc, mT, mH, C.isPure, purel]) | refine And.intro ?_ ?_))
      · simp [mtc, mtl, mT, C.isPure, purel, hJ0] <;> (try simp (disch := omega) [wrap_id]) <;> (try omega)
    · intro i hi
      have w1 : IntKind.i64.wrap ((i : Int) + 1) = ((i + 1 : Nat) : Int) := by rw [wrap_id (by omega) (by omega)]; rfl
      (repeat refine ZQ ?_); refine ZR fun K hK => ?_; simp (maxSteps := 1000000) [ty42, ty3]; refine hK _ ?_; clear hK K; (first | show AWP _ _ _ _ _ | show ∃ _, _ | skip)
      by_cases hlt : i < P.length
      · have hlt' : (i : Int) < P.length := by omega
        (repeat refine ZQ ?_); refine ZC (hc := by simp [hlt]; rfl) (fun hd => ?_) (fun hd => ?_)
        · clear hd
          obtain ⟨b0, b1, b2⟩ := hbd i hlt
          have hjs := hJs i hlt
          have hjl := hJl i (by omega)
          have hqi : i < Q.length := by omega
          have g1 := gA i hlt
          have g2 := gB i hqi
          generalize P.getD i [] = p at *
          generalize Q.getD i [] = q at *
          have hpe : p.isEmpty = false := by simpa using b0
          refine awp_skip ?_
          (repeat refine ZQ ?_); refine awp_block ?_
          (repeat refine ZQ ?_); refine ZD [6,12] [0,2,3,4,5,7,8,9,10,1,6,11,12,13,14] fun K hK => ?_; simp (maxSteps := 1000000) [ty42, ty22, ty9, hlt, hqi, g1, g2, b0, hpe]
          refine ⟨⟨by omega, by omega⟩, ⟨by omega, by omega⟩, ⟨by omega, by omega, by omega⟩, ?_⟩
          refine hK _ ?_; clear hK K; (first | show AWP _ _ _ _ _ | show ∃ _, _ | skip)
          refine AWP.weak ?_ (wk_frzCell 55 57 i 0 (o := ⟨false, false, 1, List.map cS p ++ List.map cS q⟩) (oq := ⟨false, false, 1, (J i).map cPl ++ [[.own 55 1 0 (p.length + q.length)]]⟩) (row := [.own 55 1 0 (p.length + q.length)]) (c := .own 55 1 0 (p.length + q.length)) (c' := .sl false false (List.map cS p ++ List.map cS q)) (by simp) (by simp [purel, C.isPure]) (by simp) (by decide) rfl
            (by show ((J i).map cPl ++ [[C.own 55 1 0 (p.length + q.length)]])[i]? = _
                rw [List.getElem?_append_right (by simp; omega)]
                simp [hjl]) rfl (by
            have := fz_own (k := 55) (sz := 1) (n := p.length + q.length) (b := false) (o := ⟨false, false, 1, List.map cS p ++ List.map cS q⟩) rfl (by simp) (by simp)
            simpa using this) rfl)
          have hset : ((J i).map cPl ++ [[C.own 55 1 0 (p.length + q.length)]]).set i [C.sl false false (List.map cS p ++ List.map cS q)] = (J i ++ [p ++ q]).map cPl := by
            rw [List.set_append_right _ _ (by simp; omega)]
            simp [hjl]
          simp only [List.set_cons_zero]
          rw [hset]
          (repeat refine ZQ ?_); refine ZR fun K hK => ?_; simp (maxSteps := 1000000) [ty3, w1]; refine hK _ ?_; clear hK K; (first | show AWP _ _ _ _ _ | show ∃ _, _ | skip)
          refine ⟨i + 1, by omega, by omega, ?_⟩
          rw [hjs]
          refine wk_shape2 [(10, 57, .live ⟨(J i ++ [p ++ q]).isEmpty, false, 1, (J i ++ [p ++ q]).map cPl⟩)] (by first | rfl | (simp only [if_pos, if_true, hjl]; rfl)) (shp0 hσ (by simp) (by simp) ?_) ?_
          · simp [SlotOk, hjl] <;> (repeat' (first | (refine RowsOk.same ?_; simp [purel, C.isPure]; done) | (refine rowsCons ?_; simp [mtl, mtc, mT, mH, C.isPure, purel]; done) | (refine rowsCons ?_; simp [mtl, mtc, mT, mH, C.isPure, purel]) | refine And.intro ?_ ?_))
          · simp [mtc, mtl, mT, C.isPure, purel, hjl] <;> (try simp (disch := omega) [wrap_id]) <;> (try omega)
        · simp [hlt] at hd
      · have hin : i = P.length := by omega
        subst hin
        (repeat refine ZQ ?_); refine ZC (fun hd => ?_) (fun hd => ?_)
        · simp at hd
        · clear hd
          (repeat refine ZQ ?_); refine awp_exit ?_; (first | show AWP _ _ _ _ _ | show ∃ _, _ | skip)
          rw [hJn]
          have hJnl : Jn.length = P.length := by rw [← hJn]; exact hJl _ (Nat.le_refl _)
          refine AWP.weak ?_ (wk_frz 10 10 (c := sPl Jn.isEmpty false Jn) (o := ⟨Jn.isEmpty, false, 1, Jn.map cPl⟩) (by simp) (all_purel_map fun _ => rfl) (fz_own rfl (by simp [hJnl]) (by simp)))
          unfold encJn
          by_cases h0 : e = 0
          · subst h0
            simp only [encRd, if_true] at c48
            rw [if_pos rfl]
            (repeat refine ZQ ?_); refine ZR fun K hK => ?_; simp (maxSteps := 1000000) [ty42]
            refine ZP (c48) ?_; simp (maxSteps := 1000000) [ty22, ty33, ty26]
            refine hK _ ?_; clear hK K
            (repeat refine ZQ ?_); refine ZR fun K hK => ?_; simp (maxSteps := 1000000) [ty22, ty26]; refine hK _ ?_; clear hK K
            (repeat refine ZQ ?_); refine awp_ret ?_; refine And.intro (Or.inr rfl) ?_
            simp [retC, resC, viewC, mapO]
          · simp only [encRd, if_neg h0] at c48
            rw [if_neg h0]
            (repeat refine ZQ ?_); refine ZR fun K hK => ?_; simp (maxSteps := 1000000) [ty42]
            refine ZP (c48) ?_; simp (maxSteps := 1000000) [ty22, ty33, ty26]
            refine hK _ ?_; clear hK K
            (repeat refine ZQ ?_); refine ZR fun K hK => ?_; simp (maxSteps := 1000000) [ty22, ty26]; refine hK _ ?_; clear hK K
            (repeat refine ZQ ?_); refine awp_ret ?_; refine And.intro (Or.inr rfl) ?_
            simp [retC, resC, viewC, mapO]

set_option maxHeartbeats 8000000
set_option maxRecDepth 20000


theorem readE_40 {P : List Pk} (h : readE P = 0) : (rdT P P.length).length ≤ 40 := by
 unfold readE at h
 split at h
 ·split at h
  ·cases h
  ·rename_i h1
   simp at h1; omega
 ·cases h

theorem join30 (a b : List UInt8) (ha : a.length ≤ 20000) (hb : b.length ≤ 20000) : Pure Tryz.prog 30 [encS a, encS b] (encJn (jT a b) (jE a b)) := by
 cases h : jOk a b with
 | false => exact join30_no a b ha hb h
 | true => exact join30_ok a b ha hb h


theorem law9 (a b : List UInt8) : Pure Tryz.prog 9 [encS a, encS b] (.bool true) := by
 have cFa := l_far25 true true [] a (S a) rfl
 have cFb := l_far25 true true [] b (S b) rfl
 have cW := l_works11
 cases hfa : farB [] a with
 | true =>
  rw [hfa] at cFa
  refine ZF (fn := Tryz.f9) [.tmp 4] ⟨Tryz.func9, rfl, by kernel_rfl⟩ fun x hx hσ => ?_
  (repeat refine ZQ ?_); refine ZR fun K hK => ?_; simp (maxSteps := 1000000) [ty4]; refine hK _ ?_; clear hK K
  (repeat refine ZQ ?_); refine ZR fun K hK => ?_; simp (maxSteps := 1000000) [ty22, ty9, ty4]
  refine ZP (cFa) ?_; simp (maxSteps := 1000000) [ty22, ty9, ty4]
  refine hK _ ?_; clear hK K
  (repeat refine ZQ ?_); refine ZC (fun hd => ?_) (fun hd => ?_)
  ·clear hd
   (repeat refine ZQ ?_); refine ZR fun K hK => ?_; simp (maxSteps := 1000000) [ty4]
   refine ZP (cW) ?_; simp (maxSteps := 1000000) [ty4]
   refine hK _ ?_; clear hK K
   (repeat refine ZQ ?_); refine awp_ret ?_; refine And.intro (Or.inr rfl) ?_
   simp [retC, resC, viewC, mapO]
  ·simp at hd
 | false =>
  rw [hfa] at cFa
  cases hfb : farB [] b with
  | true =>
   rw [hfb] at cFb
   refine ZF (fn := Tryz.f9) [.tmp 4] ⟨Tryz.func9, rfl, by kernel_rfl⟩ fun x hx hσ => ?_
   (repeat refine ZQ ?_); refine ZR fun K hK => ?_; simp (maxSteps := 1000000) [ty4]; refine hK _ ?_; clear hK K
   (repeat refine ZQ ?_); refine ZR fun K hK => ?_; simp (maxSteps := 1000000) [ty22, ty9, ty4]
   refine ZP (cFa) ?_; simp (maxSteps := 1000000) [ty22, ty9, ty4]
   refine ZP (cFb) ?_; simp (maxSteps := 1000000) [ty22, ty9, ty4]
   refine hK _ ?_; clear hK K
   (repeat refine ZQ ?_); refine ZC (fun hd => ?_) (fun hd => ?_)
   ·clear hd
    (repeat refine ZQ ?_); refine ZR fun K hK => ?_; simp (maxSteps := 1000000) [ty4]
    refine ZP (cW) ?_; simp (maxSteps := 1000000) [ty4]
    refine hK _ ?_; clear hK K
    (repeat refine ZQ ?_); refine awp_ret ?_; refine And.intro (Or.inr rfl) ?_
    simp [retC, resC, viewC, mapO]
   ·simp at hd
  | false =>
   rw [hfb] at cFb
   obtain ⟨_, _, h3⟩ := far_not hfa
   obtain ⟨_, _, h4⟩ := far_not hfb
   have c29 := join29 a b (by omega) (by omega)
   have c30 := join30 a b (by omega) (by omega)
   unfold encJn at c29 c30
   by_cases h0 : jE a b = 0
   ·rw [if_pos h0] at c29 c30
    have hT : (jT a b).length ≤ 100000 := by
     have h := h0
     unfold jE at h
     split at h
     ·have := readE_40 h
      rw [List.length_map] at this
      unfold jT; omega
     ·cases h
    have c18 := l_sameT18 (jT a b).isEmpty false (jT a b).isEmpty false (jT a b) (jT a b) hT
    rw [beq_self_eq_true] at c18
    generalize jT a b = T at *
    refine ZF (fn := Tryz.f9) [.tmp 4] ⟨Tryz.func9, rfl, by kernel_rfl⟩ fun x hx hσ => ?_
    (repeat refine ZQ ?_); refine ZR fun K hK => ?_; simp (maxSteps := 1000000) [ty4]; refine hK _ ?_; clear hK K
    (repeat refine ZQ ?_); refine ZR fun K hK => ?_; simp (maxSteps := 1000000) [ty22, ty9, ty4]
    refine ZP (cFa) ?_; simp (maxSteps := 1000000) [ty22, ty9, ty4]
    refine ZP (cFb) ?_; simp (maxSteps := 1000000) [ty22, ty9, ty4]
    refine hK _ ?_; clear hK K
    (repeat refine ZQ ?_); refine ZC (fun hd => ?_) (fun hd => ?_)
    ·simp at hd
    ·clear hd
     refine awp_skip ?_
     (repeat refine ZQ ?_); refine ZR fun K hK => ?_; simp (maxSteps := 1000000) [ty9]
     refine ZP (c29) ?_; simp (maxSteps := 1000000) [ty22, ty26]
     refine hK _ ?_; clear hK K
     (repeat refine ZQ ?_); refine ZR fun K hK => ?_; simp (maxSteps := 1000000) [ty9]
     refine ZP (c30) ?_; simp (maxSteps := 1000000) [ty22, ty26]
     refine hK _ ?_; clear hK K
     (repeat refine ZQ ?_); refine ZR fun K hK => ?_; simp (maxSteps := 1000000) [ty22, ty26, ty4]
     refine ZP (c18) ?_; simp (maxSteps := 1000000) [ty22, ty26, ty4]
     refine ZP (cW) ?_; simp (maxSteps := 1000000) [ty22, ty26, ty4]
     refine hK _ ?_; clear hK K
     (repeat refine ZQ ?_); refine awp_ret ?_; refine And.intro (Or.inr rfl) ?_
     simp [retC, resC, viewC, mapO]
   ·rw [if_neg h0] at c29 c30
    have c18 := l_sameT18 true true true true [] [] (by simp)
    rw [beq_self_eq_true] at c18
    generalize jE a b = e at *
    refine ZF (fn := Tryz.f9) [.tmp 4] ⟨Tryz.func9, rfl, by kernel_rfl⟩ fun x hx hσ => ?_
    (repeat refine ZQ ?_); refine ZR fun K hK => ?_; simp (maxSteps := 1000000) [ty4]; refine hK _ ?_; clear hK K
    (repeat refine ZQ ?_); refine ZR fun K hK => ?_; simp (maxSteps := 1000000) [ty22, ty9, ty4]
    refine ZP (cFa) ?_; simp (maxSteps := 1000000) [ty22, ty9, ty4]
    refine ZP (cFb) ?_; simp (maxSteps := 1000000) [ty22, ty9, ty4]
    refine hK _ ?_; clear hK K
    (repeat refine ZQ ?_); refine ZC (fun hd => ?_) (fun hd => ?_)
    ·simp at hd
    ·clear hd
     refine awp_skip ?_
     (repeat refine ZQ ?_); refine ZR fun K hK => ?_; simp (maxSteps := 1000000) [ty9]
     refine ZP (c29) ?_; simp (maxSteps := 1000000) [ty22, ty26]
     refine hK _ ?_; clear hK K
     (repeat refine ZQ ?_); refine ZR fun K hK => ?_; simp (maxSteps := 1000000) [ty9]
     refine ZP (c30) ?_; simp (maxSteps := 1000000) [ty22, ty26]
     refine hK _ ?_; clear hK K
     (repeat refine ZQ ?_); refine ZR fun K hK => ?_; simp (maxSteps := 1000000) [ty22, ty26, ty4]
     refine ZP (c18) ?_; simp (maxSteps := 1000000) [ty22, ty26, ty4]
     refine ZP (cW) ?_; simp (maxSteps := 1000000) [ty22, ty26, ty4]
     refine hK _ ?_; clear hK K
     (repeat refine ZQ ?_); refine awp_ret ?_; refine And.intro (Or.inr rfl) ?_
     simp [retC, resC, viewC, mapO]

end Go.Proofs.YtgnpcijgdhjfpaaGreatDoor

/- What comes in, as data; and how a law's statement follows from a contract of data. No condition. -/
namespace Go.Abs
open Go.ChangeShapes Go.WideShapes Go.ChangeAt Go.RowKit

inductive Sh where
 | int (k : IntKind)
 | bool
 | str
 | sl (l : List Sh)

mutual
def Fit : Sh → C → Prop
 | .int k, c => ∃ n, c = .int k n ∧ (Lit.int k n).wf = true
 | .bool, c => ∃ b, c = .bool b
 | .str, c => ∃ s : ByteArray, c = .str s ∧ s.size ≤ maxLen
 | .sl l, c => ∃ nl rows, c = .sl nl false rows ∧ (nl = true → rows = []) ∧ rows.length ≤ maxLen ∧ ∀ row ∈ rows, FitL l row
def FitL : List Sh → List C → Prop
 | [], m => m = []
 | s :: l, m => ∃ c r, m = c :: r ∧ Fit s c ∧ FitL l r
end

def shFs (P : Program) (g : TypeId → Option (List Sh)) : Nat → List Field → Option (List Sh)
 | _, [] => some []
 | o, f :: fs => match g f.type, shFs P g (o + P.cellsOf f.type) fs with
  | some l, some m => if f.offset = o ∧ l.length = P.cellsOf f.type then some (l ++ m) else none
  | _, _ => none

def shT (P : Program) : Nat → TypeId → Option (List Sh)
 | 0, _ => none
 | n + 1, t => match P.underlying t with
  | some (.int k) => some [.int k]
  | some .bool => some [.bool]
  | some .string => some [.str]
  | some (.slice e) => match shT P n e with
   | some l => if l.length = P.cellsOf e ∧ 0 < l.length then some [.sl l] else none
   | none => none
  | some (.struct fs) => match shFs P (shT P n) 0 fs.toList with
   | some l => if l.length = P.cellsOf t then some l else none
   | none => none
  | _ => none

theorem FitL.len : ∀ {l : List Sh} {m : List C}, FitL l m → m.length = l.length
 | [], m, h => by simp only [FitL] at h; subst h; rfl
 | s :: l, m, h => by
  simp only [FitL] at h
  obtain ⟨c, r, rfl, _, h⟩ := h
  simp [FitL.len h]

theorem FitL.append : ∀ {l l' : List Sh} {m m' : List C}, FitL l m → FitL l' m' → FitL (l ++ l') (m ++ m')
 | [], l', m, m', h, h' => by simp only [FitL] at h; subst h; exact h'
 | s :: l, l', m, m', h, h' => by
  simp only [FitL] at h
  obtain ⟨c, r, rfl, h1, h2⟩ := h
  simp only [List.cons_append, FitL]
  exact ⟨c, r ++ m', rfl, h1, h2.append h'⟩

def anyG : Nat → Prop := fun _ => True

def OpL (W : World) (m : List C) (cs : List Value) : Prop := m.length = cs.length ∧ ∀ (i : Nat) (c : C), m[i]? = some c → PR anyG W c (cs[i]?.getD undef) ∧ c.cell = true

theorem exists_list {α : Type} {Q : Nat → α → Prop} : ∀ {n : Nat}, (∀ i, i < n → ∃ x, Q i x) → ∃ l : List α, l.length = n ∧ ∀ i x, l[i]? = some x → Q i x
 | 0, _ => ⟨[], rfl, by simp⟩
 | n + 1, h => by
  obtain ⟨l, h1, h2⟩ := exists_list (n := n) fun i hi => h i (by omega)
  obtain ⟨x, hx⟩ := h n (by omega)
  refine ⟨l ++ [x], by simp [h1], fun i y hy => ?_⟩
  rcases Nat.lt_or_ge i l.length with hlt | hge
  ·rw [List.getElem?_append_left hlt] at hy
   exact h2 i y hy
  ·rw [List.getElem?_append_right hge] at hy
   have : i = n := by
    have := (List.getElem?_eq_some_iff.1 hy).1
    simp at this; omega
   subst this
   rw [h1, Nat.sub_self] at hy
   simp at hy
   subst hy; exact hx

section
variable {H : Type} {enc : TypeId × Value → H} {P : Program} {W : World}

theorem spot_of {a : Addr} {q n : Nat} {v : Value} (h : W.cell? ((a.add q).add n) = some v) (h0 : q = 0 ∧ n = 0) : a.spot = none := by
 obtain ⟨rfl, rfl⟩ := h0
 simp only [Addr.add, if_true] at h
 unfold World.cell? at h
 split at h
 ·split at h
  ·simp at h
  ·rename_i hs
   cases hsp : a.spot with
   | none => rfl
   | some z => simp [hsp] at hs
 ·simp at h

theorem addr_full {a : Addr} (h : a.spot = none) (q n : Nat) : (a.add q).add n = ⟨a.block, a.off + (q + n), none⟩ := by
 obtain ⟨b, o, s⟩ := a
 simp only at h
 subst h
 rw [addr_add, addr_add, Nat.add_assoc]

theorem cells_at {a : Addr} {n : Nat} {cs : List Value} (h : W.cells? 0 a n = some cs) : cs.length = n ∧ ∀ i, i < n → W.cell? (a.add i) = cs[i]? := by
 unfold World.cells? at h
 rw [if_pos (Nat.zero_le _)] at h
 refine ⟨by simpa using mapM_some_length h, fun i hi => ?_⟩
 exact mapM_some_get h i i (by rw [List.getElem?_range hi])

theorem block_lt {a : Addr} {v : Value} (h : W.cell? a = some v) : a.block < W.heap.size := by
 unfold World.cell? at h
 split at h
 ·rename_i hh; exact (Array.getElem?_eq_some_iff.1 hh).1
 ·simp at h

theorem open_sound : ∀ (n : Nat) {fuel : Nat} {t : TypeId} {cs : List Value} {x : DataW H × List MemPlace} {shs : List Sh}, shT P n t = some shs → DataW.trod enc P W 0 (fun _ => true) true fuel t cs = some x →
  ∃ m, FitL shs m ∧ OpL W m cs
 | 0, _, _, _, _, _, h, _ => by simp [shT] at h
 | n + 1, fuel, t, cs, x, shs, h, ht => by
  unfold shT at h
  split at h
  ·rename_i k hk
   simp only [Option.some.injEq] at h
   subst h
   obtain ⟨z, rfl, _, hw⟩ := DataW.trod_int hk ht
   refine ⟨[.int k z], ⟨_, _, rfl, ⟨z, rfl, hw⟩, rfl⟩, rfl, fun i c hi => ?_⟩
   cases i with
   | zero => simp at hi; subst hi; exact ⟨.int _ _, rfl⟩
   | succ i => simp at hi
  ·rename_i hk
   simp only [Option.some.injEq] at h
   subst h
   obtain ⟨z, rfl, _⟩ := DataW.trod_bool hk ht
   refine ⟨[.bool z], ⟨_, _, rfl, ⟨z, rfl⟩, rfl⟩, rfl, fun i c hi => ?_⟩
   cases i with
   | zero => simp at hi; subst hi; exact ⟨.bool _, rfl⟩
   | succ i => simp at hi
  ·rename_i hk
   simp only [Option.some.injEq] at h
   subst h
   obtain ⟨z, rfl, _, hz⟩ := DataW.trod_string hk ht
   refine ⟨[.str z], ⟨_, _, rfl, ⟨z, rfl, hz⟩, rfl⟩, rfl, fun i c hi => ?_⟩
   cases i with
   | zero => simp at hi; subst hi; exact ⟨.str _, rfl⟩
   | succ i => simp at hi
  ·rename_i e hk
   split at h
   ·rename_i l hl
    split at h
    ·rename_i hc
     obtain ⟨hc1, hc2⟩ := hc
     simp only [Option.some.injEq] at h
     subst h
     have one : ∀ {nl : Bool} {rows : List (List C)} {v : Value}, cs = [v] → (nl = true → rows = []) → rows.length ≤ maxLen → (∀ row ∈ rows, FitL l row) → PR anyG W (.sl nl false rows) v → ∃ m, FitL [.sl l] m ∧ OpL W m cs := by
      intro nl rows v hcs h1 h2 h3 h4
      subst hcs
      refine ⟨[.sl nl false rows], ⟨_, _, rfl, ⟨nl, rows, rfl, h1, h2, h3⟩, rfl⟩, rfl, fun i c hi => ?_⟩
      cases i with
      | zero => simp at hi; subst hi; exact ⟨h4, rfl⟩
      | succ i => simp at hi
     rcases DataW.trod_slice hk ht with ⟨rfl, _⟩ | ⟨a, len, cap, elems, rest, q, _, rfl, _, hb, hlc, hcm, hel, hat, hsp, _⟩
     ·exact one rfl (fun _ => rfl) (by simp) (by simp) (.slnil _)
     ·obtain ⟨hrl, hrat⟩ := hsp rfl
      by_cases hcap : cap = 0
      ·have : len = 0 := by omega
       subst this
       subst hcap
       exact one (nl := false) (rows := []) rfl (by simp) (by simp) (by simp) (.slemp _ _)
      ·have hspot : a.spot = none ∧ a.block < W.heap.size := by
        by_cases h0 : len = 0
        ·have := hrat 0 (by omega)
         rw [List.getElem?_eq_getElem (by omega), Option.bind_eq_some_iff] at this
         obtain ⟨cs0, g1, _⟩ := this
         obtain ⟨g2, g3⟩ := cells_at g1
         have g4 := g3 0 (by omega)
         rw [List.getElem?_eq_getElem (by omega), h0] at g4
         have hs := spot_of g4 ⟨by simp, rfl⟩
         refine ⟨hs, ?_⟩
         have := block_lt g4
         rw [addr_full hs] at this
         exact this
        ·have := hat 0 (by omega)
         rw [List.getElem?_eq_getElem (by omega), Option.bind_eq_some_iff] at this
         obtain ⟨cs0, g1, _⟩ := this
         obtain ⟨g2, g3⟩ := cells_at g1
         have g4 := g3 0 (by omega)
         rw [List.getElem?_eq_getElem (by omega)] at g4
         have hs := spot_of g4 ⟨by simp, rfl⟩
         refine ⟨hs, ?_⟩
         have := block_lt g4
         rw [addr_full hs] at this
         exact this
       obtain ⟨hs, hlt⟩ := hspot
       have hrow : ∀ i, i < len → ∃ row, FitL l row ∧ ∀ (j : Nat) (c : C), row[j]? = some c → ∃ v, W.cell? ⟨a.block, a.off + (i * P.cellsOf e + j), none⟩ = some v ∧ PR anyG W c v ∧ c.cell = true := by
        intro i hi
        have h1 := hat i hi
        rw [List.getElem?_eq_getElem (by omega), Option.bind_eq_some_iff] at h1
        obtain ⟨cs0, g1, g2⟩ := h1
        obtain ⟨g3, g4⟩ := cells_at g1
        obtain ⟨row, r1, r2, r3⟩ := open_sound n hl g2
        refine ⟨row, r1, fun j c hj => ?_⟩
        have hjl : j < row.length := (List.getElem?_eq_some_iff.1 hj).1
        have g5 := g4 j (by omega)
        rw [addr_full hs] at g5
        obtain ⟨r4, r5⟩ := r3 j c hj
        rw [List.getElem?_eq_getElem (by omega)] at g5 r4
        exact ⟨_, g5, r4, r5⟩
       obtain ⟨rows, w1, w2⟩ := exists_list hrow
       refine one (nl := false) (rows := rows) rfl (by simp) (by omega) (fun row hr => ?_) ?_
       ·obtain ⟨i, hi, rfl⟩ := List.getElem_of_mem hr
        exact (w2 i _ (List.getElem?_eq_getElem hi)).1
       ·obtain ⟨b, o, s⟩ := a
        simp only at hs hlt
        subst hs
        refine .sl (sz := P.cellsOf e) (fun i j => (W.cell? ⟨b, o + (i * P.cellsOf e + j), none⟩).getD undef) trivial hlt w1.symm (by simp) (by omega) ?_ ?_ ?_ ?_
        ·intro i row hi
         rw [(w2 i row hi).1.len, hc1]
        ·intro i row hi j c hj
         obtain ⟨v, q1, q2, q3⟩ := (w2 i row hi).2 j c hj
         simp only at q1
         rw [q1]; rfl
        ·intro i row hi j c hj
         obtain ⟨v, q1, q2, q3⟩ := (w2 i row hi).2 j c hj
         exact q3
        ·intro i row hi j c hj
         obtain ⟨v, q1, q2, q3⟩ := (w2 i row hi).2 j c hj
         simp only at q1
         rw [q1]; exact q2
    ·simp at h
   ·simp at h
  ·rename_i fs hk
   split at h
   ·rename_i l hl
    split at h
    ·rename_i hc
     simp only [Option.some.injEq] at h
     subst h
     obtain ⟨xs, q, _, _, hlen, hxl, hf⟩ := DataW.trod_struct hk ht
     have go : ∀ (fl : List Field) (o : Nat) (shs : List Sh), shFs P (shT P n) o fl = some shs → (∀ f ∈ fl, ∃ y, DataW.trod enc P W 0 (fun _ => true) true q f.type ((cs.drop f.offset).take (P.cellsOf f.type)) = some y) → o + shs.length ≤ cs.length →
       ∃ m, FitL shs m ∧ ∀ (i : Nat) (c : C), m[i]? = some c → PR anyG W c (cs[o + i]?.getD undef) ∧ c.cell = true := by
      intro fl
      induction fl with
      | nil =>
       intro o shs h1 _ _
       simp only [shFs, Option.some.injEq] at h1
       subst h1
       exact ⟨[], rfl, by simp⟩
      | cons f fl ih =>
       intro o shs h1 h2 h3
       unfold shFs at h1
       split at h1
       ·rename_i l1 l2 e1 e2
        split at h1
        ·rename_i hc2
         obtain ⟨ho, hl1⟩ := hc2
         simp only [Option.some.injEq] at h1
         subst h1
         simp only [List.length_append] at h3
         obtain ⟨y, hy⟩ := h2 f (by simp)
         obtain ⟨m1, p1, p2, p3⟩ := open_sound n e1 hy
         obtain ⟨m2, p4, p5⟩ := ih (o + P.cellsOf f.type) l2 e2 (fun g hg => h2 g (by simp [hg])) (by omega)
         have hm1 := p1.len
         refine ⟨m1 ++ m2, p1.append p4, fun i c hi => ?_⟩
         rcases Nat.lt_or_ge i m1.length with hlt | hge
         ·rw [List.getElem?_append_left hlt] at hi
          have := p3 i c hi
          rw [List.getElem?_take_of_lt (by omega), List.getElem?_drop, ho] at this
          exact this
         ·rw [List.getElem?_append_right hge] at hi
          have := p5 _ c hi
          rw [show o + P.cellsOf f.type + (i - m1.length) = o + i by omega] at this
          exact this
        ·simp at h1
       ·simp at h1
     obtain ⟨m, m1, m2⟩ := go fs.toList 0 l hl (fun f hfm => by
      obtain ⟨i, hi, rfl⟩ := List.getElem_of_mem hfm
      have := hf i fs.toList[i] (by simp)
      rw [List.getElem?_eq_getElem (by simp at hi; omega)] at this
      exact ⟨_, this⟩) (by omega)
     exact ⟨m, m1, by rw [m1.len]; omega, fun i c hi => by have := m2 i c hi; rwa [Nat.zero_add] at this⟩
    ·simp at h
   ·simp at h
  ·simp at h

def isAggT (P : Program) (t : TypeId) : Bool :=
 match P.underlying t with
 | some (.struct _) => true
 | _ => false

def ArgsFit (P : Program) : List TypeId → List C → Prop
 | [], cs => cs = []
 | t :: ts, cs => ∃ shs m c r, cs = c :: r ∧ shT P 9 t = some shs ∧ FitL shs m ∧ (if isAggT P t then c = .agg m else m = [c]) ∧ ArgsFit P ts r

theorem open_args : ∀ {ts : List TypeId} {vs : List Value} {ds : List (DataW H)} {ps : List MemPlace}, DataW.TrodAll enc P W 0 (fun _ => true) true ts vs ds ps →
  (∀ (j : Nat) t v, ts[j]? = some t → vs[j]? = some v → ∃ base, Value.okWide P W .any base t v) → (ts.all fun t => (shT P 9 t).isSome) = true →
  ∃ cargs, ArgsFit P ts cargs ∧ cargs.length = vs.length ∧ ∀ (i : Nat) (c : C), cargs[i]? = some c → PR anyG W c (vs[i]?.getD undef)
 | [], [], [], _, _, _, _ => ⟨[], rfl, rfl, by simp⟩
 | t :: ts, v :: vs, d :: ds, ps, h, hv, hs => by
  obtain ⟨p, q, ⟨fuel, h1⟩, h2, _⟩ := h
  simp only [List.all_cons, Bool.and_eq_true] at hs
  obtain ⟨hs1, hs2⟩ := hs
  rw [Option.isSome_iff_exists] at hs1
  obtain ⟨shs, hs1⟩ := hs1
  obtain ⟨m, m1, m2, m3⟩ := open_sound 9 hs1 h1
  obtain ⟨cargs, a1, a2, a3⟩ := open_args h2 (fun j t' v' e1 e2 => hv (j + 1) t' v' (by simpa using e1) (by simpa using e2)) hs2
  obtain ⟨base, hok⟩ := hv 0 t v rfl rfl
  have fin : ∀ c, (if isAggT P t then c = .agg m else m = [c]) → PR anyG W c v → ∃ cargs, ArgsFit P (t :: ts) cargs ∧ cargs.length = (v :: vs).length ∧ ∀ (i : Nat) (c : C), cargs[i]? = some c → PR anyG W c ((v :: vs)[i]?.getD undef) := by
   intro c hc hp
   refine ⟨c :: cargs, ⟨shs, m, c, cargs, rfl, hs1, m1, hc, a1⟩, by simp [a2], fun i c' hi => ?_⟩
   cases i with
   | zero => simp at hi; subst hi; simpa using hp
   | succ i => simp at hi ⊢; exact a3 i c' hi
  by_cases hag : isAggT P t = true
  ·have hag0 := hag
   unfold isAggT at hag
   split at hag
   ·rename_i fs hfs
    obtain ⟨cs, rfl, hcs⟩ := okWide_struct hfs hok
    refine fin (.agg m) (by rw [if_pos hag0]) (.agg (by rw [m2]; simp [Value.cells]) fun i c hi => ?_)
    have := (m3 i c hi).1
    simpa [Value.cells] using this
   ·simp at hag
  ·have hag0 := hag
   have hone : ∃ sh, shs = [sh] ∧ oneCell v = true := by
    unfold isAggT at hag
    unfold shT at hs1
    split at hs1
    ·rename_i k hk
     obtain ⟨n, rfl⟩ := okWide_int hk hok
     exact ⟨_, (by simpa using hs1.symm), rfl⟩
    ·rename_i hk
     obtain ⟨n, rfl⟩ := okWide_bool hk hok
     exact ⟨_, (by simpa using hs1.symm), rfl⟩
    ·rename_i hk
     obtain ⟨n, rfl⟩ := okWide_string hk hok
     exact ⟨_, (by simpa using hs1.symm), rfl⟩
    ·rename_i e hk
     obtain ⟨a, l, cp, rfl⟩ := okWide_slice hk hok
     split at hs1
     ·split at hs1
      ·exact ⟨_, (by simpa using hs1.symm), rfl⟩
      ·simp at hs1
     ·simp at hs1
    ·rename_i fs hk
     rw [hk] at hag; simp at hag
    ·simp at hs1
   obtain ⟨sh, rfl, hov⟩ := hone
   have hm := m1.len
   have hm1 : m.length = 1 := hm
   obtain ⟨c, rfl⟩ := List.length_eq_one_iff.1 hm1
   refine fin c (by rw [if_neg hag0]) ?_
   have := (m3 0 c rfl).1
   rw [cells_one hov] at this
   simpa using this
 | [], _ :: _, _, _, h, _, _ => h.elim
 | [], [], _ :: _, _, h, _, _ => h.elim
 | _ :: _, [], _, _, h, _, _ => h.elim
 | _ :: _, _ :: _, [], _, h, _, _ => h.elim

def noEmptyB (P : Program) : Bool := (List.range P.types.size).all fun t => match P.underlying t with
 | some (.slice e) => decide (0 < P.cellsOf e)
 | _ => true

theorem same_of {W' : World} (g : Grew W W') {p : MemPlace} (h : p.block < W.heap.size) : W.sameAt W' p := by
 cases p with
 | cell b off =>
  show W'.cell? _ = W.cell? _
  unfold World.cell?
  rw [g.heap b h]
 | map b => exact g.heap b h

theorem shut_args {W' : World} (hl : laidOutB P = true) (hm : mapsRowed P = true) (hz : noEmptyB P = true) (g : Grew W W') {sp : Nat → Bool} : ∀ {ts : List TypeId} {vs : List Value} {ds : List (DataW H)} {ps : List MemPlace},
  (ts.all fun t => decide (t < P.types.size)) = true → DataW.TrodAll enc P W 0 (fun _ => true) true ts vs ds ps → (∀ p ∈ ps, p.block < W.heap.size) → (∀ p ∈ ps, sp p.block = true) → DataW.TrodAll enc P W' 0 sp true ts vs ds ps
 | [], [], [], _, _, h, _, _ => h
 | t :: ts, v :: vs, d :: ds, ps, ht, h, hb, hs => by
  obtain ⟨p, q, ⟨fuel, h1⟩, h2, rfl⟩ := h
  simp only [List.all_cons, Bool.and_eq_true, decide_eq_true_eq] at ht
  refine ⟨p, q, ⟨fuel, ?_⟩, shut_args hl hm hz g ht.2 h2 (fun r hr => hb r (by simp [hr])) (fun r hr => hs r (by simp [hr])), rfl⟩
  refine DataW.trod_stays (T := (· < P.types.size)) (kids_rows hl hm) (fun {t e} h3 h4 => ?_) (fun h => by simp at h) ht.1 h1 (fun r hr => same_of g (hb r (by simp; exact .inl hr))) (fun r hr => hs r (by simp; exact .inl hr))
  unfold noEmptyB at hz
  rw [List.all_eq_true] at hz
  have := hz t (by simpa using h3)
  rw [h4] at this
  simpa using this
 | [], _ :: _, _, _, _, h, _, _ => h.elim
 | [], [], _ :: _, _, _, h, _, _ => h.elim
 | _ :: _, [], _, _, _, h, _, _ => h.elim
 | _ :: _, _ :: _, [], _, _, h, _, _ => h.elim

theorem kept_of {W' : World} (g : Grew W W') (may : MemPlace → Prop) : W.keptBut W' may := by
 refine ⟨g.os, g.output, fun i hi => ?_⟩
 rw [g.heap i hi]
 cases h : W.heap[i]? with
 | none => trivial
 | some o => cases o <;> simp

theorem law_contract {f : FuncId} {fn : Func} {s : ChangeSpec} {tb : TypeId} (hrt : fn.resultTypes = #[tb]) (htb : P.underlying tb = some .bool) (hvars : s.vars = [])
  (hspec : ∀ (ds : List (DataW H)), ds.length = fn.params.toList.length → s.fn H ds = { results := [.lit (.bool true)], args := ds })
  (hl : laidOutB P = true) (hm : mapsRowed P = true) (hz : noEmptyB P = true) (ht : (fn.params.toList.all fun t => decide (t < P.types.size)) = true) (hsh : (fn.params.toList.all fun t => (shT P 9 t).isSome) = true)
  (hcall : ∀ cargs, ArgsFit P fn.params.toList cargs → Pure P f cargs (.bool true))
  (W : World) (hgk : Gk P W) (base : Nat) (args : Array Value) (ds gs : List (DataW H)) (before : List MemPlace) (hval : ∀ (j : Nat) t v, fn.params[j]? = some t → args[j]? = some v → Value.okWide P W .any base t v)
  (hW : DataW.Whole enc P fn.params.toList s.vars false W args.toList ds gs before) :
  Calls P f args W fun e W' => ∃ v, e = .returned v ∧ s.post enc P fn false true false false W args v W' := by
 have hW' := hW
 obtain ⟨p, q, hA, hV, rfl, hfz, hnd⟩ := hW
 rw [hvars] at hV
 obtain ⟨rfl, rfl⟩ := trodVars_none hV
 obtain ⟨cargs, c1, c2, c3⟩ := open_args hA (fun j t v e1 e2 => ⟨base, hval j t v (by simpa using e1) (by simpa using e2)⟩) hsh
 have hlen : ds.length = fn.params.toList.length := by
  have : ∀ {ts : List TypeId} {vs : List Value} {ds : List (DataW H)} {ps : List MemPlace}, DataW.TrodAll enc P W 0 (fun _ => true) true ts vs ds ps → ds.length = ts.length := by
   intro ts
   induction ts with
   | nil => intro vs ds ps h; cases vs <;> cases ds <;> first | rfl | exact h.elim
   | cons t ts ih =>
    intro vs ds ps h
    cases vs with
    | nil => exact h.elim
    | cons v vs =>
     cases ds with
     | nil => exact h.elim
     | cons d ds =>
      obtain ⟨_, _, _, h2, _⟩ := h
      simp [ih h2]
  exact this hA
 refine ((hcall cargs c1).calls anyG W args hgk ⟨by simpa using c2.symm, fun i c hi => by have := c3 i c hi; simpa using this⟩).mono ?_
 rintro e W' ⟨v, rfl, hr, g⟩
 cases hr
 refine ⟨_, rfl, ds, [], p, [], p, [], ?_, ?_, ?_, ?_, kept_of g _, by simp⟩
 ·simpa using hW'
 ·rw [hspec (ds ++ []) (by simpa using hlen), hrt]
  refine ⟨[], [], ⟨1, ?_⟩, rfl, rfl⟩
  simp [DataW.trod, htb, Value.cells]
 ·rw [hspec (ds ++ []) (by simpa using hlen)]
  simp only [List.append_nil]
  have hlt := hW'.lt
  exact shut_args hl hm hz g ht hA (fun r hr => hlt r (by simpa using hr)) (fun r hr => by simpa using hlt r (by simpa using hr))
 ·rw [hvars, hspec (ds ++ []) (by simpa using hlen)]
  rfl
end
end Go.Abs

namespace Go.Proofs.YtgnpcijgdhjfpaaGreatDoor
open Go Go.Abs

set_option maxHeartbeats 2000000
set_option maxRecDepth 100000


theorem S_inv (s : ByteArray) : ∃ l, s = S l := ⟨s.data.toList, by simp [S]⟩

theorem arg_one {t : TypeId} {s : List Sh} (hs : shT Tryz.prog 9 t = some s) (ha : isAggT Tryz.prog t = false) {cs : List C} {ts : List TypeId} (h : ArgsFit Tryz.prog (t :: ts) cs) : ∃ (c : C) (r : List C), cs = c :: r ∧ FitL s [c] ∧ ArgsFit Tryz.prog ts r := by
 simp only [ArgsFit] at h
 obtain ⟨shs, m, c, r, rfl, h1, h2, h3, h4⟩ := h
 rw [hs] at h1
 cases h1
 rw [ha] at h3
 simp only [Bool.false_eq_true, if_false] at h3
 subst h3
 exact ⟨c, r, rfl, h2, h4⟩

theorem sh9 : shT Tryz.prog 9 9 = some [.str] := by kernel_rfl
theorem ag9 : isAggT Tryz.prog 9 = false := by kernel_rfl
theorem fit_str {row : List C} (h : FitL [.str] row) : ∃ l, row = cS l := by
 simp only [FitL, Fit] at h
 obtain ⟨c, r, rfl, ⟨s, rfl, _⟩, rfl⟩ := h
 obtain ⟨l, rfl⟩ := S_inv s
 exact ⟨l, rfl⟩

theorem argS {cs : List C} {ts : List TypeId} (h : ArgsFit Tryz.prog (9 :: ts) cs) : ∃ l r, cs = encS l :: r ∧ ArgsFit Tryz.prog ts r := by
 obtain ⟨c, r, rfl, h1, h2⟩ := arg_one sh9 ag9 h
 obtain ⟨l, e⟩ := fit_str h1
 cases e
 exact ⟨l, r, rfl, h2⟩

theorem argEnd {cs : List C} (h : ArgsFit Tryz.prog [] cs) : cs = [] := h

end Go.Proofs.YtgnpcijgdhjfpaaGreatDoor

/- The facts of the program that every statement's join asks. No condition. -/
namespace Go.Proofs.YtgnpcijgdhjfpaaGreatDoor
open Go Go.Abs
open Go.ChangeShapes Go.WideShapes Go.ChangeAt Go.RowKit
set_option maxRecDepth 100000

theorem J.own : ownKnob Tryz.prog.godebug = none := by kernel_rfl
theorem J.laid : laidOutB Tryz.prog = true := by kernel_rfl
theorem J.maps : mapsRowed Tryz.prog = true := by kernel_rfl
theorem J.sized : noEmptyB Tryz.prog = true := by kernel_rfl
theorem J.ub : Tryz.prog.underlying 4 = some .bool := by kernel_rfl
theorem J.bld : Tryz.prog.buildable 3 = true := by kernel_rfl
theorem J.max0 : ((begin Tryz.prog (fun _ _ => 0) default).world.heap[0]?).bind Obj.row? = some (#[.int .i64 0], 3) := by kernel_rfl
theorem J.nglob : 0 < Tryz.prog.globals.size := of_decide_eq_true (by kernel_rfl)
theorem J.ct3 : Tryz.prog.cellTypes Tryz.prog.depth 3 = some [3] := by kernel_rfl
theorem J.ui : Tryz.prog.underlying 3 = some (.int .i64) := by kernel_rfl

theorem J.gk {W : World} (h : W.ShapedOpen Tryz.prog) : Gk Tryz.prog W := by
 intro g hg
 obtain rfl : 0 = g := Option.some.inj hg
 exact cell_of_shapedOpen_int h J.nglob J.max0 rfl J.bld J.ct3 J.ui

noncomputable def laidAt (b : Nat) (cs : Array Value) (h : Array Obj) : Array Obj := h.modify b fun
 | .cells _ t frozen => .cells cs t frozen
 | o => o
def acR : List Int := [128, 191, 160, 191, 128, 159, 144, 191, 128, 143, 0, 0, 0, 0, 0, 0, 0, 0, 0, 0, 0, 0, 0, 0, 0, 0, 0, 0, 0, 0, 0, 0]

noncomputable def laidWorld (os : Os) : World :=
 let w0 := World.holding Tryz.prog os ⟨#[], #[], []⟩
 { w0 with heap := laidAt 2 (acR.map (Value.int .u8)).toArray (laidAt 1 (Go.Pinned.utf8FirstZ.map fun (n : Nat) => Value.int .u8 n).toArray w0.heap) }
end Go.Proofs.YtgnpcijgdhjfpaaGreatDoor

