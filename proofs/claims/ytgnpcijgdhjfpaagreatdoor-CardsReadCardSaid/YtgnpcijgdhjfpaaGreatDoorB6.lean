/- The machine of abstract values and the contracts of the functions of the program, which the statements of this seat share. No condition. -/
import Derived.Test.YtgnpcijgdhjfpaaGreatDoorB5
import Derived.ProofKit
import Derived.OpenShut
import Derived.ChangeStays
import Derived.Test.YtgnpcijgdhjfpaaGreatDoorCards
import Derived.Test.YtgnpcijgdhjfpaaGreatDoorTie
import Derived.WalkKit
import Derived.Deep.DeepHandedRow
import Derived.LaidLaws
import Derived.Shelf.Vars

set_option linter.unusedSimpArgs false
set_option linter.unusedVariables false
set_option linter.constructorNameAsVariable false

namespace Go.Proofs.YtgnpcijgdhjfpaaGreatDoor
open Go Go.Abs

set_option maxHeartbeats 8000000
set_option maxRecDepth 20000

-- cards: how the reference restores a pack

def noR : C := .tup [.sl true true [], .sl true true [], .bool false]
def encRs : Option (Ls × List Int) → C
 | none => noR
 | some (T, M) => .tup [.sl T.isEmpty false (T.map cS), .sl M.isEmpty false (M.map cI), .bool true]

theorem gd_succ (ls : Ls) {i : Nat} (hi : i < ls.length) : gd (ls.take (i + 1)) = if parseOk ls[i] = true then gd (ls.take i) ++ [ls[i]] else gd (ls.take i) := by
 unfold gd
 rw [List.take_succ_eq_append_getElem hi, List.filter_append]
 by_cases h : parseOk ls[i] = true
 ·rw [if_pos h]; simp [List.filter_cons, h]
 ·rw [if_neg h]; simp [List.filter_cons, h]

theorem rowsG_succ (G : Ls) (i : Nat) : rowsG G (i + 1) = rowsG G i ++ [(rowG G i).getD []] := by
 unfold rowsG
 rw [List.range_succ, List.map_append]; rfl
theorem misG_succ (G : Ls) (i : Nat) : misG G (i + 1) = if (rowG G i).isSome = true then misG G i else misG G i ++ [(i : Int)] := by
 unfold misG
 rw [List.range_succ, List.filter_append, List.map_append]
 cases h : rowG G i with
 | none => simp [List.filter_cons, h]
 | some r => simp [List.filter_cons, h]
theorem valsG_succ (R : Ls) (k : Nat) {i : Nat} (hi : i < R.length) : valsG (R.take (i + 1)) k = valsG (R.take i) k ++ [if R[i] = [] then -1 else valB (R[i].getD k 0)] := by
 unfold valsG
 rw [List.take_succ_eq_append_getElem hi, List.map_append]; rfl

def addTo14 (F : Ls) (out : List Int) (i : Nat) : Ls := (List.range F.length).map fun j => if j < i then F.getD j [] ++ [UInt8.ofNat (32 + out.getD j 0).toNat] else F.getD j []
theorem addTo14_len (F : Ls) (out : List Int) (i : Nat) : (addTo14 F out i).length = F.length := by simp [addTo14]
theorem addTo14_zero (F : Ls) (out : List Int) : addTo14 F out 0 = F := by
 unfold addTo14
 refine List.ext_getElem (by simp) fun j h1 h2 => ?_
 simp [List.getD_eq_getElem?_getD, List.getElem?_eq_getElem h2]
theorem addTo14_full (F : Ls) (out : List Int) : addTo14 F out F.length = addV F out := by
 unfold addTo14 addV
 exact List.map_congr_left fun j hj => by rw [if_pos (List.mem_range.1 hj)]
theorem addTo14_succ (F : Ls) (out : List Int) {i : Nat} (hi : i < F.length) : addTo14 F out (i + 1) = (addTo14 F out i).set i (F[i] ++ [UInt8.ofNat (32 + out.getD i 0).toNat]) := by
 unfold addTo14
 refine List.ext_getElem (by simp) fun j h1 h2 => ?_
 have hj : j < F.length := by simpa using h1
 simp only [List.getElem_map, List.getElem_range, List.getElem_set]
 by_cases e : i = j
 ·subst e
  rw [if_pos (by omega), if_pos rfl]
  simp [List.getD_eq_getElem?_getD, List.getElem?_eq_getElem hi]
 ·rw [if_neg e]
  by_cases h : j < i
  ·rw [if_pos (by omega), if_pos h]
  ·rw [if_neg (by omega), if_neg h]
theorem addTo14_at (F : Ls) (out : List Int) {i : Nat} (hi : i < F.length) (h : i < (addTo14 F out i).length) : (addTo14 F out i)[i] = F[i] := by
 unfold addTo14
 simp [List.getD_eq_getElem?_getD, List.getElem?_eq_getElem hi]

theorem textsG_app {A B T : Ls} (h : textsG A = some T) : textsG (A ++ B) = (textsG B).map (T ++ ·) := by
 induction A generalizing T with
 | nil => simp [textsG] at h; subst h; simp
 | cons a A ih =>
  rw [textsG] at h
  split at h
  ·rename_i t ht
   obtain ⟨T', h1, rfl⟩ := Option.map_eq_some_iff.1 h
   rw [List.cons_append, textsG, ht]
   simp only
   rw [ih h1, Option.map_map]
   rfl
  ·cases h
theorem textsG_none {F : Ls} {i : Nat} (hi : i < F.length) {T : Ls} (h : textsG (F.take i) = some T) (hn : textOfB F[i] = none) : textsG F = none := by
 have e : F = F.take i ++ (F[i] :: F.drop (i + 1)) := by
  rw [← List.drop_eq_getElem_cons hi, List.take_append_drop]
 rw [e, textsG_app h, textsG, hn]; rfl
theorem textsG_step {F : Ls} {i : Nat} (hi : i < F.length) {T : Ls} (h : textsG (F.take i) = some T) {t : List UInt8} (hn : textOfB F[i] = some t) : textsG (F.take (i + 1)) = some (T ++ [t]) := by
 rw [List.take_succ_eq_append_getElem hi, textsG_app h, textsG, hn]; rfl

theorem encFill_some {nl fu : Bool} {vs out : List Int} {f s : List UInt8} {k : Nat} (h : fillV vs f s k = some out) : ∃ a b, encFill nl fu vs f s k = .tup [.sl a b (out.map cI), .bool true] := by
 unfold fillV at h
 unfold encFill
 split at h
 ·rename_i h0
  rw [if_pos h0]
  split at h
  ·rename_i ha
   cases h
   rw [ha]; exact ⟨_, _, rfl⟩
  ·cases h
 ·rename_i h0
  rw [if_neg h0]
  obtain ⟨n, h1, rfl⟩ := Option.map_eq_some_iff.1 h
  rw [h1]; exact ⟨_, _, rfl⟩
theorem encFill_none {nl fu : Bool} {vs : List Int} {f s : List UInt8} {k : Nat} (h : fillV vs f s k = none) : ∃ (a b : Bool) (o : List Int), encFill nl fu vs f s k = .tup [.sl a b (o.map cI), .bool false] := by
 unfold fillV at h
 unfold encFill
 split at h
 ·rename_i h0
  rw [if_pos h0]
  split at h
  ·cases h
  ·rename_i ha
   rw [Bool.eq_false_iff.2 ha]
   exact ⟨nl, fu, vs, rfl⟩
 ·rename_i h0
  rw [if_neg h0, Option.map_eq_none_iff.1 h]
  exact ⟨true, true, [], rfl⟩

structure RsX where
 k : Nat
 F : Ls
structure RtX where
 i : Nat
 T : Ls

theorem many_at {l : List UInt8} (h : parseOk l = true) : ∃ b : UInt8, (S l)[1]? = some b ∧ IntKind.u8.wrap ((b.toNat : Int) - 48) = (manyG l : Int) ∧ IntKind.i64.wrap (manyG l : Int) = (manyG l : Int) := by
 obtain ⟨h6, _, _, m1, m8, _⟩ := good_ok h
 have h1 : 1 < l.length := by omega
 refine ⟨l[1], S_at h1, ?_, wrap_id (by omega) (by omega)⟩
 have e : manyG l = l[1].toNat - 48 := by
  unfold manyG
  simp [List.getD_eq_getElem?_getD, List.getElem?_eq_getElem h1]
 rw [e] at m1 m8 ⊢
 rw [wrap_u8 (by omega) (by omega)]; omega


theorem q_restore49 (nl fu : Bool) (ls : Ls) (hn : ls.length ≤ 100000) (hl : ∀ l ∈ ls, l.length ≤ 100000) : Pure Tryz.prog 49 [sT nl fu ls] (encRs (restoreB ls)) := by
 have hG0 : gd (ls.take 0) = [] := by rw [List.take_zero]; rfl
 have hGs := fun i (hi : i < ls.length) => gd_succ ls hi
 have hGl : ∀ i, (gd (ls.take i)).length ≤ i := fun i => by
  unfold gd
  exact Nat.le_trans (List.length_filter_le _ _) (by simp; omega)
 have hGe : gd (ls.take ls.length) = gd ls := by rw [List.take_length]
 have hgo : ∀ l ∈ gd ls, parseOk l = true := fun l hl => (List.mem_filter.1 hl).2
 have hGn : (gd ls).length ≤ 100000 := by rw [← hGe]; have := hGl ls.length; omega
 unfold restoreB
 generalize gd ls = G at *
 generalize hGi : (fun i => gd (ls.take i)) = Gi at *
 have hGf : ∀ i, gd (ls.take i) = Gi i := fun i => by rw [← hGi]
 simp only [hGf] at *
 clear hGi hGf
 refine ZF (fn := Tryz.f49) [.tmp 2, .tmp 3, .tmp 4] ⟨Tryz.func49, rfl, by kernel_rfl⟩ fun x hx hσ => ?_
 (repeat refine ZQ ?_); refine ZR fun K hK => ?_; simp (maxSteps := 1000000) [ty22, ty33, ty4]; refine hK _ ?_; clear hK K
 (repeat refine ZQ ?_); refine ZR fun K hK => ?_; simp (maxSteps := 1000000) [ty22]; refine hK _ ?_; clear hK K
 (repeat refine ZQ ?_); refine ZR fun K hK => ?_; simp (maxSteps := 1000000) [ty3]; refine hK _ ?_; clear hK K
 (repeat refine ZQ ?_); refine awp_block ?_
 refine AWP.weak ?_ (wk_nil 5 5 1 (fu := true) (by simp) (by simp))
 refine awp_loop (fun i : Nat => ⟨ofL [(0, sT nl fu ls), (2, .sl true true []), (3, .sl true true []), (4, .bool false), (5, .own 5 1 0 (Gi i).length), (6, encI i)], stoT [(5, 5, .live ⟨(Gi i).isEmpty, false, 1, (Gi i).map cS⟩)]⟩)
  (fun i => i ≤ ls.length) (fun i => ls.length - i) 0 (Nat.zero_le _) ?_ ?_
 ·refine wk_shape (shp0 hσ (by simp) (by simp) ?_) ?_
  ·simp [SlotOk, hG0] <;> (repeat' (first | (refine RowsOk.same ?_; simp [purel, C.isPure]; done) | (refine rowsCons ?_; simp [mtl, mtc, mT, mH, C.isPure, purel]; done) | (refine rowsCons ?_; simp [mtl, mtc, mT, mH, C.isPure, purel]) | refine And.intro ?_ ?_))
  ·simp [mtc, mtl, mT, C.isPure, purel, hG0] <;> (try simp (disch := omega) [wrap_id]) <;> (try omega)
 ·intro i hi
  have w1 : IntKind.i64.wrap ((i : Int) + 1) = ((i + 1 : Nat) : Int) := by rw [wrap_id (by omega) (by omega)]; rfl
  (repeat refine ZQ ?_); refine ZR fun K hK => ?_; simp (maxSteps := 1000000) [ty22, ty3]; refine hK _ ?_; clear hK K; (first | show AWP _ _ _ _ _ | show ∃ _, _ | skip)
  by_cases hlt : i < ls.length
  ·have hlt' : (i : Int) < ls.length := by omega
   (repeat refine ZQ ?_); refine ZC (hc := by simp [hlt]; rfl) (fun hd => ?_) (fun hd => ?_)
   ·clear hd
    have c22 := q_isGood22 ls[i] (hl _ (List.getElem_mem hlt))
    have u1 := hGs i hlt
    have hil := hGl i
    obtain ⟨l, hgl⟩ : ∃ l, ls[i] = l := ⟨_, rfl⟩
    rw [hgl] at u1 c22
    refine awp_skip ?_
    (repeat refine ZQ ?_); refine awp_block ?_
    cases hp : parseOk l
    ·rw [hp] at u1 c22
     rw [if_neg (by simp)] at u1
     (repeat refine ZQ ?_); refine ZR fun K hK => ?_; simp (maxSteps := 1000000) [ty22, ty9, hlt, hgl]
     refine ZP (c22) ?_; simp (maxSteps := 1000000) [ty4]
     refine hK _ ?_; clear hK K
     (repeat refine ZQ ?_); refine ZC (fun hd => ?_) (fun hd => ?_)
     ·simp at hd
     ·clear hd
      refine awp_skip ?_
      (repeat refine ZQ ?_); refine ZR fun K hK => ?_; simp (maxSteps := 1000000) [ty3, w1]; refine hK _ ?_; clear hK K; (first | show AWP _ _ _ _ _ | show ∃ _, _ | skip)
      refine ⟨i + 1, by omega, by omega, ?_⟩
      rw [u1]
      exact ZW
    ·rw [hp] at u1 c22
     rw [if_pos rfl] at u1
     (repeat refine ZQ ?_); refine ZR fun K hK => ?_; simp (maxSteps := 1000000) [ty22, ty9, hlt, hgl]
     refine ZP (c22) ?_; simp (maxSteps := 1000000) [ty4]
     refine hK _ ?_; clear hK K
     (repeat refine ZQ ?_); refine ZC (fun hd => ?_) (fun hd => ?_)
     ·clear hd
      (repeat refine ZQ ?_); refine ZR fun K hK => ?_; simp (maxSteps := 1000000) [ty22, ty9, hlt, hgl]
      refine ⟨by omega, ?_⟩
      refine hK _ ?_; clear hK K
      (repeat refine ZQ ?_); refine ZR fun K hK => ?_; simp (maxSteps := 1000000) [ty3, w1]; refine hK _ ?_; clear hK K; (first | show AWP _ _ _ _ _ | show ∃ _, _ | skip)
      refine ⟨i + 1, by omega, by omega, ?_⟩
      rw [u1]
      refine wk_shape2 [(5, 48, .live ⟨(Gi i ++ [l]).isEmpty, false, 1, (Gi i ++ [l]).map cS⟩)] (by first | rfl | (simp only [if_pos, if_true]; rfl)) (shp0 hσ (by simp) (by simp) ?_) ?_
      ·simp [SlotOk] <;> (repeat' (first | (refine RowsOk.same ?_; simp [purel, C.isPure]; done) | (refine rowsCons ?_; simp [mtl, mtc, mT, mH, C.isPure, purel]; done) | (refine rowsCons ?_; simp [mtl, mtc, mT, mH, C.isPure, purel]) | refine And.intro ?_ ?_))
      ·simp [mtc, mtl, mT, C.isPure, purel] <;> (try simp (disch := omega) [wrap_id]) <;> (try omega)
     ·simp at hd
   ·simp [hlt] at hd
  ·have hin : i = ls.length := by omega
   subst hin
   (repeat refine ZQ ?_); refine ZC (fun hd => ?_) (fun hd => ?_)
   ·simp at hd
   ·clear hd
    (repeat refine ZQ ?_); refine awp_exit ?_; (first | show AWP _ _ _ _ _ | show ∃ _, _ | skip)
    rw [hGe]
    clear hGe hGl hGs hG0
    refine AWP.weak ?_ (wk_frz 5 5 (c := sT G.isEmpty false G) (o := ⟨G.isEmpty, false, 1, G.map cS⟩) (by simp) (all_purel_map fun _ => rfl) (fz_own rfl (by simp) (by simp)))
    by_cases hG : G = []
    ·have hRn : encRs (restG G) = noR := by unfold restG; rw [if_pos hG]; rfl
     (repeat refine ZQ ?_); refine ZR fun K hK => ?_; simp (maxSteps := 1000000) [ty22, ty3, hG]; refine hK _ ?_; clear hK K
     (repeat refine ZQ ?_); refine ZC (fun hd => ?_) (fun hd => ?_)
     ·clear hd
      (repeat refine ZQ ?_); refine ZR fun K hK => ?_; simp (maxSteps := 1000000) [ty22, ty33, ty4]; refine hK _ ?_; clear hK K; (first | show AWP _ _ _ _ _ | show ∃ _, _ | skip)
      rw [hRn]
      unfold noR
      (repeat refine ZQ ?_); refine awp_ret ?_; refine And.intro (Or.inr rfl) ?_
      simp [retC, resC, viewC, mapO]
     ·simp at hd
    ·have hG0 : 0 < G.length := List.length_pos_iff.2 hG
     have hGz : ((G.length : Int) == 0) = false := by rw [beq_eq_false_iff_ne]; omega
     (repeat refine ZQ ?_); refine ZR fun K hK => ?_; simp (maxSteps := 1000000) [ty22, ty3, hGz]; refine hK _ ?_; clear hK K
     (repeat refine ZQ ?_); refine ZC (fun hd => ?_) (fun hd => ?_)
     ·simp at hd
     ·clear hd
      refine awp_skip ?_; (first | show AWP _ _ _ _ _ | show ∃ _, _ | skip)
      have hgl0 := hgo _ (head_in hG)
      have hg0 : G[0] = G.headD [] := by cases G with | nil => exact absurd rfl hG | cons a b => rfl
      obtain ⟨b1, q1, q2, q3⟩ := many_at hgl0
      obtain ⟨k6, k129, _, m1, m8, _, _, n2, n62, _⟩ := good_ok hgl0
      have c80 := q_rowLen80 (G.headD []) (by omega) (by omega)
      obtain ⟨g0, hg0e⟩ : ∃ g, G.headD [] = g := ⟨_, rfl⟩
      obtain ⟨m, hme⟩ : ∃ m, manyG (G.headD []) = m := ⟨_, rfl⟩
      obtain ⟨n, hne⟩ : ∃ n, rowLenB (G.headD []) = n := ⟨_, rfl⟩
      rw [hme] at m1 m8 q2 q3
      rw [hne] at n2 n62 c80
      rw [hg0e] at c80 q1 hg0
      (repeat refine ZQ ?_); refine ZD [] [0, 1, 2, 3, 4, 5, 6, 7, 8, 9, 10, 11] fun K hK => ?_; simp (maxSteps := 1000000) [ty22, ty9, ty3, ty5, hG0, hg0, q1, q2, q3]
      refine ZE (c80) ?_; simp (maxSteps := 1000000) [ty22, ty9, ty3, ty5, hG0, hg0, q1, q2, q3]
      refine hK _ ?_; clear hK K
      (repeat refine ZQ ?_); refine ZR fun K hK => ?_; simp (maxSteps := 1000000) [ty3]; refine hK _ ?_; clear hK K
      (repeat refine ZQ ?_); refine awp_block ?_
      refine awp_loop (fun i : Nat => ⟨ofL [(2, .sl true true []), (3, .sl true true []), (4, .bool false), (5, sT G.isEmpty false G), (7, encI m), (8, encI n), (9, encI i)], stoT []⟩)
       (fun i => i ≤ G.length ∧ ∀ j (h : j < G.length), j < i → manyG G[j] = m ∧ rowLenB G[j] = n) (fun i => G.length - i) 0 ⟨Nat.zero_le _, fun j _ hj => absurd hj (by omega)⟩ ?_ ?_
      ·exact ZW
      ·intro i ⟨hi, hfi⟩
       have w1 : IntKind.i64.wrap ((i : Int) + 1) = ((i + 1 : Nat) : Int) := by rw [wrap_id (by omega) (by omega)]; rfl
       (repeat refine ZQ ?_); refine ZR fun K hK => ?_; simp (maxSteps := 1000000) [ty22, ty3]; refine hK _ ?_; clear hK K; (first | show AWP _ _ _ _ _ | show ∃ _, _ | skip)
       by_cases hlt : i < G.length
       ·have hlt' : (i : Int) < G.length := by omega
        (repeat refine ZQ ?_); refine ZC (hc := by simp [hlt]; rfl) (fun hd => ?_) (fun hd => ?_)
        ·clear hd
         have hpl := hgo _ (List.getElem_mem hlt)
         obtain ⟨b2, q4, q5, q6⟩ := many_at hpl
         obtain ⟨j6, j129, _⟩ := good_ok hpl
         have c80 := q_rowLen80 G[i] (by omega) (by omega)
         have hbad : ¬ (manyG G[i] = m ∧ rowLenB G[i] = n) → encRs (restG G) = noR := fun hb => by
          have hf : fitsG G = false := by
           cases hf : fitsG G with
           | false => rfl
           | true =>
            have := fits_at hf (List.getElem_mem hlt)
            rw [hme, hne] at this
            exact absurd this hb
          unfold restG
          rw [if_neg hG, if_pos hf]; rfl
         have hgood : manyG G[i] = m ∧ rowLenB G[i] = n → ∀ j (h : j < G.length), j < i + 1 → manyG G[j] = m ∧ rowLenB G[j] = n := fun hb j h hj => by
          by_cases e : j = i
          ·subst e; exact hb
          ·exact hfi j h (by omega)
         obtain ⟨l, hgl⟩ : ∃ l, G[i] = l := ⟨_, rfl⟩
         rw [hgl] at c80 q4 q5 q6 hbad hgood
         generalize manyG l = ml at *
         generalize rowLenB l = nl2 at *
         refine awp_skip ?_
         (repeat refine ZQ ?_); refine awp_block ?_
         by_cases h1 : ml = m
         ·have h1b : ((ml : Int) != (m : Int)) = false := by rw [h1]; simp
          by_cases h2 : nl2 = n
          ·have h2b : ((nl2 : Int) != (n : Int)) = false := by rw [h2]; simp
           (repeat refine ZQ ?_); refine ZR fun K hK => ?_; simp (maxSteps := 1000000) [ty22, ty9, ty3, ty5, ty4, hlt, hgl, q4, q5, q6, h1b]
           refine ZP (c80) ?_; simp (maxSteps := 1000000) [ty3, ty4, h2b]
           refine hK _ ?_; clear hK K
           (repeat refine ZQ ?_); refine ZC (fun hd => ?_) (fun hd => ?_)
           ·simp at hd
           ·clear hd
            refine awp_skip ?_
            (repeat refine ZQ ?_); refine ZR fun K hK => ?_; simp (maxSteps := 1000000) [ty3, w1]; refine hK _ ?_; clear hK K; (first | show AWP _ _ _ _ _ | show ∃ _, _ | skip)
            refine ⟨i + 1, ⟨by omega, hgood ⟨h1, h2⟩⟩, by omega, ?_⟩
            exact ZW
          ·have h2b : ((nl2 : Int) != (n : Int)) = true := by rw [bne_iff_ne]; omega
           have hRn := hbad (fun h => h2 h.2)
           (repeat refine ZQ ?_); refine ZR fun K hK => ?_; simp (maxSteps := 1000000) [ty22, ty9, ty3, ty5, ty4, hlt, hgl, q4, q5, q6, h1b]
           refine ZP (c80) ?_; simp (maxSteps := 1000000) [ty3, ty4, h2b]
           refine hK _ ?_; clear hK K
           (repeat refine ZQ ?_); refine ZC (fun hd => ?_) (fun hd => ?_)
           ·clear hd
            (repeat refine ZQ ?_); refine ZR fun K hK => ?_; simp (maxSteps := 1000000) [ty22, ty33, ty4]; refine hK _ ?_; clear hK K; (first | show AWP _ _ _ _ _ | show ∃ _, _ | skip)
            rw [hRn]
            unfold noR
            (repeat refine ZQ ?_); refine awp_ret ?_; refine And.intro (Or.inr rfl) ?_
            simp [retC, resC, viewC, mapO]
           ·simp at hd
         ·have h1b : ((ml : Int) != (m : Int)) = true := by rw [bne_iff_ne]; omega
          have hRn := hbad (fun h => h1 h.1)
          (repeat refine ZQ ?_); refine ZR fun K hK => ?_; simp (maxSteps := 1000000) [ty22, ty9, ty3, ty5, ty4, hlt, hgl, q4, q5, q6, h1b]; refine hK _ ?_; clear hK K
          (repeat refine ZQ ?_); refine ZC (fun hd => ?_) (fun hd => ?_)
          ·clear hd
           (repeat refine ZQ ?_); refine ZR fun K hK => ?_; simp (maxSteps := 1000000) [ty22, ty33, ty4]; refine hK _ ?_; clear hK K; (first | show AWP _ _ _ _ _ | show ∃ _, _ | skip)
           rw [hRn]
           unfold noR
           (repeat refine ZQ ?_); refine awp_ret ?_; refine And.intro (Or.inr rfl) ?_
           simp [retC, resC, viewC, mapO]
          ·simp at hd
        ·simp [hlt] at hd
       ·have hin : i = G.length := by omega
        subst hin
        (repeat refine ZQ ?_); refine ZC (fun hd => ?_) (fun hd => ?_)
        ·simp at hd
        ·clear hd
         (repeat refine ZQ ?_); refine awp_exit ?_; (first | show AWP _ _ _ _ _ | show ∃ _, _ | skip)
         have hf : fitsG G = true := List.all_eq_true.2 fun l hl => by
          obtain ⟨j, hj, rfl⟩ := List.getElem_of_mem hl
          obtain ⟨e1, e2⟩ := hfi j hj hj
          rw [e1, e2, hme, hne]; simp
         have hR : restG G = if knowG G < (misG G m).length then none else match fullTo (rowsG G m) ((findB G 97).getD []) ((findB G 98).getD []) n with
           | none => none
           | some F => match textsG F with
            | none => none
            | some T => if (G.all fun l => (cardsB T).any fun c => c == l) = true then some (T, misG G m) else none := by
          unfold restG
          rw [if_neg hG, hf, if_neg (by simp), hme, hne]
          rfl
         have hgl4 : ∀ l ∈ G, 4 ≤ l.length ∧ l.length ≤ 100000 := fun l hl => by have := good_ok (hgo l hl); omega
         have ca := q_find81 G.isEmpty false G 97 hGn hgl4
         have cb := q_find81 G.isEmpty false G 98 hGn hgl4
         have hRw := rowsG_ok hgo hf m8
         rw [hne] at hRw
         have hmis := fun k (hk : k < n) => mis_len hgo hf (k := k) m8 (by rw [hne]; exact hk)
         have hsa := sumG_ok hgo hf (b := 97) (.inl rfl)
         have hsb := sumG_ok hgo hf (b := 98) (.inr rfl)
         rw [hne] at hsa hsb
         have hfok : ∀ k, k < n → SwOk ((findB G 97).getD []) k := fun k hk => by
          rcases hsa with ⟨h, _⟩ | ⟨r, h, h1, h2, h3⟩
          ·exact .inl h
          ·rw [h]; exact .inr ⟨h2, by simp only [Option.getD_some]; omega, by simp only [Option.getD_some]; omega⟩
         have hsok : ∀ k, k < n → SwOk ((findB G 98).getD []) k := fun k hk => by
          rcases hsb with ⟨h, _⟩ | ⟨r, h, h1, h2, h3⟩
          ·exact .inl h
          ·rw [h]; exact .inr ⟨h2, by simp only [Option.getD_some]; omega, by simp only [Option.getD_some]; omega⟩
         have hf2 : knowG G = 2 → (findB G 97).getD [] ≠ [] := fun h2 => by
          rcases hsa with ⟨_, h⟩ | ⟨r, h, h1, _⟩
          ·unfold knowG at h2
           rw [h] at h2
           simp at h2
           split at h2 <;> omega
          ·rw [h]; exact h1
         have hkle := know_le G
         have hkn : knowG G = (if (findB G 97).isSome = true then 1 else 0) + if (findB G 98).isSome = true then 1 else 0 := rfl
         have hRs := fun i => rowsG_succ G i
         have hMs := fun i => misG_succ G i
         have hRl : ∀ i, (rowsG G i).length = i := fun i => by simp [rowsG]
         have hMl : ∀ i, (misG G i).length ≤ i := fun i => by
          unfold misG
          rw [List.length_map]
          exact Nat.le_trans (List.length_filter_le _ _) (by simp)
         have hR0 : rowsG G 0 = [] := rfl
         have hM0 : misG G 0 = [] := rfl
         have crow := fun i (hi : i < 8) => q_find81 G.isEmpty false G (UInt8.ofNat (49 + i)) hGn hgl4
         have hrow : ∀ i, findB G (UInt8.ofNat (49 + i)) = rowG G i := fun _ => rfl
         have hrl : ∀ i, i < m → ((rowG G i).getD []).length ≤ 1000 := fun i hi => by
          cases h : rowG G i with
          | none => simp
          | some r => have := rowG_ok hgo hf (by omega) h; simp; omega
         simp only [hrow] at crow
         generalize rowsG G = Ri at *
         generalize misG G = Mi at *
         generalize rowG G = ro at *
         generalize knowG G = kn at *
         generalize (findB G 97).getD [] = f at *
         generalize (findB G 98).getD [] = s at *
         generalize (findB G 97).isSome = ka at *
         generalize (findB G 98).isSome = kb at *
         (repeat refine ZQ ?_); refine ZR fun K hK => ?_; simp (maxSteps := 1000000) [ty3]; refine hK _ ?_; clear hK K
         (repeat refine ZQ ?_); refine ZR fun K hK => ?_; simp (maxSteps := 1000000) [ty22]
         refine ZP (ca) ?_; simp (maxSteps := 1000000) [ty9, ty4]
         refine hK _ ?_; clear hK K
         (repeat refine ZQ ?_); refine ZR fun K hK => ?_; simp (maxSteps := 1000000) [ty22]
         refine ZP (cb) ?_; simp (maxSteps := 1000000) [ty9, ty4]
         refine hK _ ?_; clear hK K
         refine awp_mid ⟨ofL [(2, .sl true true []), (3, .sl true true []), (4, .bool false), (5, sT G.isEmpty false G), (7, encI m), (8, encI n), (10, encI ((if ka = true then 1 else 0 : Nat) : Int)), (11, encS f), (13, encS s), (14, .bool kb)], stoT []⟩ ?_ ?_
         ·cases ka
          ·(repeat refine ZQ ?_); refine ZR fun K hK => ?_; simp (maxSteps := 1000000) [ty4]; refine hK _ ?_; clear hK K
           (repeat refine ZQ ?_); refine ZC (fun hd => ?_) (fun hd => ?_)
           ·simp at hd
           ·clear hd
            refine awp_skip ?_; (first | show AWP _ _ _ _ _ | show ∃ _, _ | skip)
            exact ZW
          ·(repeat refine ZQ ?_); refine ZR fun K hK => ?_; simp (maxSteps := 1000000) [ty4]; refine hK _ ?_; clear hK K
           (repeat refine ZQ ?_); refine ZC (fun hd => ?_) (fun hd => ?_)
           ·clear hd
            (repeat refine ZQ ?_); refine ZR fun K hK => ?_; simp (maxSteps := 1000000) [ty3]; refine hK _ ?_; clear hK K; (first | show AWP _ _ _ _ _ | show ∃ _, _ | skip)
            exact ZW
           ·simp at hd
         ·refine awp_mid ⟨ofL [(2, .sl true true []), (3, .sl true true []), (4, .bool false), (5, sT G.isEmpty false G), (7, encI m), (8, encI n), (10, encI kn), (11, encS f), (13, encS s)], stoT []⟩ ?_ ?_
          ·rw [hkn]
           cases kb
           ·(repeat refine ZQ ?_); refine ZR fun K hK => ?_; simp (maxSteps := 1000000) [ty4]; refine hK _ ?_; clear hK K
            (repeat refine ZQ ?_); refine ZC (fun hd => ?_) (fun hd => ?_)
            ·simp at hd
            ·clear hd
             refine awp_skip ?_; (first | show AWP _ _ _ _ _ | show ∃ _, _ | skip)
             exact ZW
           ·(repeat refine ZQ ?_); refine ZR fun K hK => ?_; simp (maxSteps := 1000000) [ty4]; refine hK _ ?_; clear hK K
            (repeat refine ZQ ?_); refine ZC (fun hd => ?_) (fun hd => ?_)
            ·clear hd
             cases ka
             ·(repeat refine ZQ ?_); refine ZR fun K hK => ?_; simp (maxSteps := 1000000) [ty3]; refine hK _ ?_; clear hK K; (first | show AWP _ _ _ _ _ | show ∃ _, _ | skip)
              exact ZW
             ·(repeat refine ZQ ?_); refine ZR fun K hK => ?_; simp (maxSteps := 1000000) [ty3]; refine hK _ ?_; clear hK K; (first | show AWP _ _ _ _ _ | show ∃ _, _ | skip)
              exact ZW
            ·simp at hd
          ·clear hkn ca cb c80
           (repeat refine ZQ ?_); refine ZR fun K hK => ?_; simp (maxSteps := 1000000) [ty22]; refine hK _ ?_; clear hK K
           (repeat refine ZQ ?_); refine ZR fun K hK => ?_; simp (maxSteps := 1000000) [ty3]; refine hK _ ?_; clear hK K
           (repeat refine ZQ ?_); refine awp_block ?_
           refine AWP.weak ?_ (wk_nil 15 15 1 (fu := true) (by simp) (by simp))
           refine AWP.weak ?_ (wk_nil 3 3 1 (fu := true) (by simp) (by simp))
           refine awp_loop (fun i : Nat => ⟨ofL [(2, .sl true true []), (3, .own 3 1 0 (Mi i).length), (4, .bool false), (5, sT G.isEmpty false G), (7, encI m), (8, encI n), (10, encI kn), (11, encS f), (13, encS s), (15, .own 15 1 0 (Ri i).length), (16, encI i)],
            stoT [(3, 3, .live ⟨(Mi i).isEmpty, false, 1, (Mi i).map cI⟩), (15, 15, .live ⟨(Ri i).isEmpty, false, 1, (Ri i).map cS⟩)]⟩)
            (fun i => i ≤ m) (fun i => m - i) 0 (Nat.zero_le _) ?_ ?_
           ·refine wk_shape (shp0 hσ (by simp) (by simp) ?_) ?_
            ·simp [SlotOk, hR0, hM0] <;> (repeat' (first | (refine RowsOk.same ?_; simp [purel, C.isPure]; done) | (refine rowsCons ?_; simp [mtl, mtc, mT, mH, C.isPure, purel]; done) | (refine rowsCons ?_; simp [mtl, mtc, mT, mH, C.isPure, purel]) | refine And.intro ?_ ?_))
            ·simp [mtc, mtl, mT, C.isPure, purel, hR0, hM0] <;> (try simp (disch := omega) [wrap_id]) <;> (try omega)
           ·intro i hi
            have w1 : IntKind.i64.wrap ((i : Int) + 1) = ((i + 1 : Nat) : Int) := by rw [wrap_id (by omega) (by omega)]; rfl
            (repeat refine ZQ ?_); refine ZR fun K hK => ?_; simp (maxSteps := 1000000) [ty3]; refine hK _ ?_; clear hK K; (first | show AWP _ _ _ _ _ | show ∃ _, _ | skip)
            by_cases hlt : i < m
            ·have hlt' : (i : Int) < m := by omega
             (repeat refine ZQ ?_); refine ZC (hc := by simp [hlt]; rfl) (fun hd => ?_) (fun hd => ?_)
             ·clear hd
              have c81 := crow i (by omega)
              have hto : (UInt8.ofNat (49 + i)).toNat = 49 + i := by simp only [UInt8.toNat_ofNat']; omega
              rw [hto] at c81
              obtain ⟨j, hj⟩ : ∃ j, 49 + i = j := ⟨_, rfl⟩
              rw [hj] at c81
              have w2 : IntKind.i64.wrap (49 + (i : Int)) = (j : Int) := by rw [wrap_id (by omega) (by omega)]; omega
              have w3 : IntKind.u8.wrap (j : Int) = (j : Int) := wrap_u8 (by omega) (by omega)
              have u0 := hRs i
              have u1 := hMs i
              have ul := hRl i
              have um := hMl i
              cases hri : ro i with
              | none =>
               rw [hri] at c81 u0 u1
               simp only [Option.isSome_none, Bool.false_eq_true, if_false, Option.getD_none] at u0 u1 c81
               refine awp_skip ?_
               (repeat refine ZQ ?_); refine awp_block ?_
               (repeat refine ZQ ?_); refine ZR fun K hK => ?_; simp (maxSteps := 1000000) [ty22, ty5, ty3, w2, w3]
               refine ZP (c81) ?_; simp (maxSteps := 1000000) [ty9, ty4]
               refine hK _ ?_; clear hK K
               (repeat refine ZQ ?_); refine ZR fun K hK => ?_; simp (maxSteps := 1000000) [ty22, ty9]
               refine ⟨by omega, ?_⟩
               refine hK _ ?_; clear hK K
               (repeat refine ZQ ?_); refine ZR fun K hK => ?_; simp (maxSteps := 1000000) [ty4]; refine hK _ ?_; clear hK K
               (repeat refine ZQ ?_); refine ZC (fun hd => ?_) (fun hd => ?_)
               ·clear hd
                (repeat refine ZQ ?_); refine ZR fun K hK => ?_; simp (maxSteps := 1000000) [ty33, ty3]
                refine ⟨by omega, ?_⟩
                refine hK _ ?_; clear hK K
                (repeat refine ZQ ?_); refine ZR fun K hK => ?_; simp (maxSteps := 1000000) [ty3, w1]; refine hK _ ?_; clear hK K; (first | show AWP _ _ _ _ _ | show ∃ _, _ | skip)
                refine ⟨i + 1, by omega, by omega, ?_⟩
                rw [u0, u1]
                refine wk_shape2 [(3, 124, .live ⟨(Mi i ++ [(i : Int)]).isEmpty, false, 1, (Mi i ++ [(i : Int)]).map cI⟩), (15, 118, .live ⟨(Ri i ++ [[]]).isEmpty, false, 1, (Ri i ++ [[]]).map cS⟩)] (by first | rfl | (simp only [if_pos, if_true]; rfl)) (shp0 hσ (by simp) (by simp) ?_) ?_
                ·simp [SlotOk] <;> (repeat' (first | (refine RowsOk.same ?_; simp [purel, C.isPure]; done) | (refine rowsCons ?_; simp [mtl, mtc, mT, mH, C.isPure, purel]; done) | (refine rowsCons ?_; simp [mtl, mtc, mT, mH, C.isPure, purel]) | refine And.intro ?_ ?_))
                ·simp [mtc, mtl, mT, C.isPure, purel] <;> (try simp (disch := omega) [wrap_id]) <;> (try omega)
               ·simp at hd
              | some r =>
               rw [hri] at c81 u0 u1
               simp only [Option.isSome_some, if_true, Option.getD_some] at u0 u1 c81
               refine awp_skip ?_
               (repeat refine ZQ ?_); refine awp_block ?_
               (repeat refine ZQ ?_); refine ZR fun K hK => ?_; simp (maxSteps := 1000000) [ty22, ty5, ty3, w2, w3]
               refine ZP (c81) ?_; simp (maxSteps := 1000000) [ty9, ty4]
               refine hK _ ?_; clear hK K
               (repeat refine ZQ ?_); refine ZR fun K hK => ?_; simp (maxSteps := 1000000) [ty22, ty9]
               refine ⟨by omega, ?_⟩
               refine hK _ ?_; clear hK K
               (repeat refine ZQ ?_); refine ZR fun K hK => ?_; simp (maxSteps := 1000000) [ty4]; refine hK _ ?_; clear hK K
               (repeat refine ZQ ?_); refine ZC (fun hd => ?_) (fun hd => ?_)
               ·simp at hd
               ·clear hd
                refine awp_skip ?_
                (repeat refine ZQ ?_); refine ZR fun K hK => ?_; simp (maxSteps := 1000000) [ty3, w1]; refine hK _ ?_; clear hK K; (first | show AWP _ _ _ _ _ | show ∃ _, _ | skip)
                refine ⟨i + 1, by omega, by omega, ?_⟩
                rw [u0, u1]
                refine wk_shape2 [(3, 3, .live ⟨(Mi i).isEmpty, false, 1, (Mi i).map cI⟩), (15, 118, .live ⟨(Ri i ++ [r]).isEmpty, false, 1, (Ri i ++ [r]).map cS⟩)] (by first | rfl | (simp only [if_pos, if_true]; rfl)) (shp0 hσ (by simp) (by simp) ?_) ?_
                ·simp [SlotOk] <;> (repeat' (first | (refine RowsOk.same ?_; simp [purel, C.isPure]; done) | (refine rowsCons ?_; simp [mtl, mtc, mT, mH, C.isPure, purel]; done) | (refine rowsCons ?_; simp [mtl, mtc, mT, mH, C.isPure, purel]) | refine And.intro ?_ ?_))
                ·simp [mtc, mtl, mT, C.isPure, purel] <;> (try simp (disch := omega) [wrap_id]) <;> (try omega)
             ·simp [hlt] at hd
            ·have hin : i = m := by omega
             subst hin
             (repeat refine ZQ ?_); refine ZC (fun hd => ?_) (fun hd => ?_)
             ·simp at hd
             ·clear hd
              (repeat refine ZQ ?_); refine awp_exit ?_; (first | show AWP _ _ _ _ _ | show ∃ _, _ | skip)
              have hRll := hRl i
              have hMll := hMl i
              clear hRs hMs hR0 hM0 crow hrow hrl hRl hMl
              generalize Ri i = R at *
              generalize Mi i = M at *
              refine AWP.weak ?_ (wk_frz 3 3 (c := .sl M.isEmpty false (M.map cI)) (o := ⟨M.isEmpty, false, 1, M.map cI⟩) (by simp) (all_purel_map fun _ => rfl) (fz_own rfl (by simp) (by simp)))
              refine AWP.weak ?_ (wk_frz 15 15 (c := sT R.isEmpty false R) (o := ⟨R.isEmpty, false, 1, R.map cS⟩) (by simp) (all_purel_map fun _ => rfl) (fz_own rfl (by simp) (by simp)))
              by_cases hk : kn < M.length
              ·have hk' : (kn : Int) < M.length := by omega
               have hRn : encRs (restG G) = noR := by rw [hR, if_pos hk]; rfl
               (repeat refine ZQ ?_); refine ZR fun K hK => ?_; simp (maxSteps := 1000000) [ty33, ty3, hk']; refine hK _ ?_; clear hK K
               (repeat refine ZQ ?_); refine ZC (hc := by simp [hk]; rfl) (fun hd => ?_) (fun hd => ?_)
               ·clear hd
                (repeat refine ZQ ?_); refine ZR fun K hK => ?_; simp (maxSteps := 1000000) [ty22, ty33, ty4]; refine hK _ ?_; clear hK K; (first | show AWP _ _ _ _ _ | show ∃ _, _ | skip)
                rw [hRn]
                unfold noR
                (repeat refine ZQ ?_); refine awp_ret ?_; refine And.intro (Or.inr rfl) ?_
                simp [retC, resC, viewC, mapO]
               ·simp [hk] at hd
              ·have hk' : ¬ (kn : Int) < M.length := by omega
               rw [if_neg hk] at hR
               (repeat refine ZQ ?_); refine ZR fun K hK => ?_; simp (maxSteps := 1000000) [ty33, ty3, hk']; refine hK _ ?_; clear hK K
               (repeat refine ZQ ?_); refine ZC (hc := by simp [hk]; rfl) (fun hd => ?_) (fun hd => ?_)
               ·simp [hk] at hd
               ·clear hd
                refine awp_skip ?_; (first | show AWP _ _ _ _ _ | show ∃ _, _ | skip)
                have hfull := full_ok (f := f) (s := s) hRw (fun k hk2 => by rw [hmis k hk2]; omega)
                have hF0 : fullTo R f s 0 = some (List.replicate R.length []) := by
                 simp only [fullTo, Option.some.injEq]
                 exact List.eq_replicate_iff.2 ⟨by simp, fun b hb => by obtain ⟨_, _, rfl⟩ := List.mem_map.1 hb; rfl⟩
                rw [hRll] at hF0
                (repeat refine ZQ ?_); refine ZR fun K hK => ?_; simp (maxSteps := 1000000) [ty22, ty9, ty3]
                refine ⟨by omega, ?_⟩
                refine hK _ ?_; clear hK K
                (repeat refine ZQ ?_); refine ZR fun K hK => ?_; simp (maxSteps := 1000000) [ty3]; refine hK _ ?_; clear hK K
                (repeat refine ZQ ?_); refine awp_block ?_
                refine awp_loop (fun X : RsX => ⟨ofL [(2, .sl true true []), (3, .sl M.isEmpty false (M.map cI)), (4, .bool false), (5, sT G.isEmpty false G), (7, encI i), (8, encI n), (11, encS f), (13, encS s), (15, sT R.isEmpty false R), (19, .own 19 1 0 i), (20, encI X.k)],
                 stoT [(19, 19, .live ⟨false, false, 1, X.F.map cS⟩)]⟩)
                 (fun X => X.k ≤ n ∧ fullTo R f s X.k = some X.F) (fun X => n - X.k) ⟨0, List.replicate i []⟩ ⟨Nat.zero_le _, hF0⟩ ?_ ?_
                ·refine wk_shape2 [(19, 130, .live ⟨false, false, 1, (List.replicate i ([] : List UInt8)).map cS⟩)] (by first | rfl | (simp only [if_pos, if_true]; rfl)) (shp0 hσ (by simp) (by simp) ?_) ?_
                 ·simp [SlotOk] <;> (repeat' (first | (refine RowsOk.same ?_; simp [purel, C.isPure]; done) | (refine rowsCons ?_; simp [mtl, mtc, mT, mH, C.isPure, purel]; done) | (refine rowsCons ?_; simp [mtl, mtc, mT, mH, C.isPure, purel]) | refine And.intro ?_ ?_))
                 ·simp [mtc, mtl, mT, C.isPure, purel] <;> (try simp (disch := omega) [wrap_id]) <;> (try omega)
                ·rintro ⟨k, F⟩ ⟨hkn2, hFk⟩
                 simp only at hkn2 hFk ⊢
                 obtain ⟨hFl, hFr⟩ := hfull k hkn2 F hFk
                 rw [hRll] at hFl
                 have w1 : IntKind.i64.wrap ((k : Int) + 1) = ((k + 1 : Nat) : Int) := by rw [wrap_id (by omega) (by omega)]; rfl
                 (repeat refine ZQ ?_); refine ZR fun K hK => ?_; simp (maxSteps := 1000000) [ty3]; refine hK _ ?_; clear hK K; (first | show AWP _ _ _ _ _ | show ∃ _, _ | skip)
                 by_cases hlt : k < n
                 ·have hlt' : (k : Int) < n := by omega
                  (repeat refine ZQ ?_); refine ZC (hc := by simp [hlt]; rfl) (fun hd => ?_) (fun hd => ?_)
                  ·clear hd
                   have hV0 : valsG (R.take 0) k = [] := rfl
                   have hVs := fun j (hj : j < R.length) => valsG_succ R k hj
                   have hVl : ∀ j, (valsG (R.take j) k).length ≤ j := fun j => by simp [valsG]; omega
                   have hVe : valsG (R.take i) k = valsG R k := by rw [List.take_of_length_le (by omega)]
                   have hvo := vals_ok hRw hlt
                   have hms := hmis k hlt
                   have hvl : (valsG R k).length = i := by simp [valsG, hRll]
                   have hfo := hfok k hlt
                   have hso := hsok k hlt
                   have hnext : fullTo R f s (k + 1) = (fillV (valsG R k) f s k).map (addV F) := by simp only [fullTo, hFk]
                   generalize hVn : (fun j => valsG (R.take j) k) = Vi at *
                   have hVf : ∀ j, valsG (R.take j) k = Vi j := fun j => by rw [← hVn]
                   simp only [hVf] at hV0 hVs hVl hVe
                   clear hVf hVn
                   refine awp_skip ?_
                   (repeat refine ZQ ?_); refine awp_block ?_
                   (repeat refine ZQ ?_); refine ZR fun K hK => ?_; simp (maxSteps := 1000000) [ty33]; refine hK _ ?_; clear hK K
                   (repeat refine ZQ ?_); refine ZR fun K hK => ?_; simp (maxSteps := 1000000) [ty3]; refine hK _ ?_; clear hK K
                   (repeat refine ZQ ?_); refine awp_block ?_
                   refine AWP.weak ?_ (wk_nil 21 21 1 (fu := true) (by simp) (by simp))
                   refine awp_loop (fun j : Nat => ⟨ofL [(2, .sl true true []), (3, .sl M.isEmpty false (M.map cI)), (4, .bool false), (5, sT G.isEmpty false G), (7, encI i), (8, encI n), (11, encS f), (13, encS s), (15, sT R.isEmpty false R), (19, .own 19 1 0 i), (20, encI k), (21, .own 21 1 0 (Vi j).length), (22, encI j)],
                    stoT [(19, 19, .live ⟨false, false, 1, F.map cS⟩), (21, 21, .live ⟨(Vi j).isEmpty, false, 1, (Vi j).map cI⟩)]⟩)
                    (fun j => j ≤ i) (fun j => i - j) 0 (Nat.zero_le _) ?_ ?_
                   ·refine wk_shape (shp0 hσ (by simp) (by simp) ?_) ?_
                    ·simp [SlotOk, hV0] <;> (repeat' (first | (refine RowsOk.same ?_; simp [purel, C.isPure]; done) | (refine rowsCons ?_; simp [mtl, mtc, mT, mH, C.isPure, purel]; done) | (refine rowsCons ?_; simp [mtl, mtc, mT, mH, C.isPure, purel]) | refine And.intro ?_ ?_))
                    ·simp [mtc, mtl, mT, C.isPure, purel, hV0] <;> (try simp (disch := omega) [wrap_id]) <;> (try omega)
                   ·intro j hj
                    have w2 : IntKind.i64.wrap ((j : Int) + 1) = ((j + 1 : Nat) : Int) := by rw [wrap_id (by omega) (by omega)]; rfl
                    (repeat refine ZQ ?_); refine ZR fun K hK => ?_; simp (maxSteps := 1000000) [ty3]; refine hK _ ?_; clear hK K; (first | show AWP _ _ _ _ _ | show ∃ _, _ | skip)
                    by_cases hjl : j < i
                    ·have hjl' : (j : Int) < i := by omega
                     have hjR : j < R.length := by omega
                     (repeat refine ZQ ?_); refine ZC (hc := by simp [hjl]; rfl) (fun hd => ?_) (fun hd => ?_)
                     ·clear hd
                      have uV := hVs j hjR
                      have uL := hVl j
                      have hrj := hRw _ (List.getElem_mem hjR)
                      obtain ⟨r, hgr⟩ : ∃ r, R[j] = r := ⟨_, rfl⟩
                      rw [hgr] at uV hrj
                      have hse := str_eq r []
                      refine awp_skip ?_
                      (repeat refine ZQ ?_); refine awp_block ?_
                      by_cases hr : r = []
                      ·have hsn : (r == []) = true := by rw [hr]; rfl
                       rw [hsn] at hse
                       rw [if_pos hr] at uV
                       (repeat refine ZQ ?_); refine ZR fun K hK => ?_; simp (maxSteps := 1000000) [ty22, ty9, hjR, hgr, hse, -strBin]; refine hK _ ?_; clear hK K
                       (repeat refine ZQ ?_); refine ZC (fun hd => ?_) (fun hd => ?_)
                       ·clear hd
                        (repeat refine ZQ ?_); refine ZR fun K hK => ?_; simp (maxSteps := 1000000) [ty33, ty3]
                        refine ⟨by omega, ?_⟩
                        refine hK _ ?_; clear hK K
                        (repeat refine ZQ ?_); refine ZR fun K hK => ?_; simp (maxSteps := 1000000) [ty3, w2]; refine hK _ ?_; clear hK K; (first | show AWP _ _ _ _ _ | show ∃ _, _ | skip)
                        refine ⟨j + 1, by omega, by omega, ?_⟩
                        rw [uV]
                        refine wk_shape2 [(19, 19, .live ⟨false, false, 1, F.map cS⟩), (21, 148, .live ⟨(Vi j ++ [-1]).isEmpty, false, 1, (Vi j ++ [-1]).map cI⟩)] (by first | rfl | (simp only [if_pos, if_true]; rfl)) (shp0 hσ (by simp) (by simp) ?_) ?_
                        ·simp [SlotOk] <;> (repeat' (first | (refine RowsOk.same ?_; simp [purel, C.isPure]; done) | (refine rowsCons ?_; simp [mtl, mtc, mT, mH, C.isPure, purel]; done) | (refine rowsCons ?_; simp [mtl, mtc, mT, mH, C.isPure, purel]) | refine And.intro ?_ ?_))
                        ·simp [mtc, mtl, mT, C.isPure, purel] <;> (try simp (disch := omega) [wrap_id]) <;> (try omega)
                       ·simp at hd
                      ·have hsn : (r == []) = false := by rw [beq_eq_false_iff_ne]; exact hr
                       rw [hsn] at hse
                       rw [if_neg hr] at uV
                       have hrl2 : k < r.length := by
                        rcases hrj with h | ⟨h, _⟩
                        ·exact absurd h hr
                        ·omega
                       have g := S_at hrl2
                       have e : r.getD k 0 = r[k] := by simp [List.getD_eq_getElem?_getD, List.getElem?_eq_getElem hrl2]
                       rw [e] at uV
                       have c78 := q_value78 r[k]
                       generalize r[k] = c at *
                       (repeat refine ZQ ?_); refine ZR fun K hK => ?_; simp (maxSteps := 1000000) [ty22, ty9, hjR, hgr, hse, -strBin]; refine hK _ ?_; clear hK K
                       (repeat refine ZQ ?_); refine ZC (fun hd => ?_) (fun hd => ?_)
                       ·simp at hd
                       ·clear hd
                        (repeat refine ZQ ?_); refine ZR fun K hK => ?_; simp (maxSteps := 1000000) [ty22, ty9, ty33, ty3, ty5, hjR, hgr, g]
                        refine ZP (c78) ?_; simp (maxSteps := 1000000) [ty33, ty3]
                        refine ⟨by omega, ?_⟩
                        refine hK _ ?_; clear hK K
                        (repeat refine ZQ ?_); refine ZR fun K hK => ?_; simp (maxSteps := 1000000) [ty3, w2]; refine hK _ ?_; clear hK K; (first | show AWP _ _ _ _ _ | show ∃ _, _ | skip)
                        refine ⟨j + 1, by omega, by omega, ?_⟩
                        rw [uV]
                        refine wk_shape2 [(19, 19, .live ⟨false, false, 1, F.map cS⟩), (21, 158, .live ⟨(Vi j ++ [valB c]).isEmpty, false, 1, (Vi j ++ [valB c]).map cI⟩)] (by first | rfl | (simp only [if_pos, if_true]; rfl)) (shp0 hσ (by simp) (by simp) ?_) ?_
                        ·simp [SlotOk] <;> (repeat' (first | (refine RowsOk.same ?_; simp [purel, C.isPure]; done) | (refine rowsCons ?_; simp [mtl, mtc, mT, mH, C.isPure, purel]; done) | (refine rowsCons ?_; simp [mtl, mtc, mT, mH, C.isPure, purel]) | refine And.intro ?_ ?_))
                        ·simp [mtc, mtl, mT, C.isPure, purel] <;> (try simp (disch := omega) [wrap_id]) <;> (try omega)
                     ·simp [hjl] at hd
                    ·have hjn : j = i := by omega
                     subst hjn
                     (repeat refine ZQ ?_); refine ZC (fun hd => ?_) (fun hd => ?_)
                     ·simp at hd
                     ·clear hd
                      (repeat refine ZQ ?_); refine awp_exit ?_; (first | show AWP _ _ _ _ _ | show ∃ _, _ | skip)
                      rw [hVe]
                      clear hVe hVl hVs hV0
                      have c82 := q_fill82 (valsG R k).isEmpty false (valsG R k) f s k (by omega) hvo hfo hso (by omega) (fun h2 => hf2 (by omega))
                      have hok := fun out (h : fillV (valsG R k) f s k = some out) => fillV_ok hvo (by omega) h
                      generalize valsG R k = V at *
                      refine AWP.weak ?_ (wk_frz 21 21 (c := .sl V.isEmpty false (V.map cI)) (o := ⟨V.isEmpty, false, 1, V.map cI⟩) (by simp) (all_purel_map fun _ => rfl) (fz_own rfl (by simp) (by simp)))
                      cases hfv : fillV V f s k with
                      | none =>
                       obtain ⟨x1, x2, x3, hx4⟩ := encFill_none (nl := V.isEmpty) (fu := false) hfv
                       rw [hx4] at c82
                       rw [hfv] at hnext
                       have hRn : encRs (restG G) = noR := by
                        rw [hR, full_mono hnext n (by omega)]; rfl
                       (repeat refine ZQ ?_); refine ZR fun K hK => ?_; simp (maxSteps := 1000000) [ty33, ty9, ty3]
                       refine ZP (c82) ?_; simp (maxSteps := 1000000) [ty33, ty4]
                       refine hK _ ?_; clear hK K
                       (repeat refine ZQ ?_); refine ZR fun K hK => ?_; simp (maxSteps := 1000000) [ty4]; refine hK _ ?_; clear hK K
                       (repeat refine ZQ ?_); refine ZC (fun hd => ?_) (fun hd => ?_)
                       ·clear hd
                        (repeat refine ZQ ?_); refine ZR fun K hK => ?_; simp (maxSteps := 1000000) [ty22, ty33, ty4]; refine hK _ ?_; clear hK K; (first | show AWP _ _ _ _ _ | show ∃ _, _ | skip)
                        rw [hRn]
                        unfold noR
                        (repeat refine ZQ ?_); refine awp_ret ?_; refine And.intro (Or.inr rfl) ?_
                        simp [retC, resC, viewC, mapO]
                       ·simp at hd
                      | some out =>
                       obtain ⟨x1, x2, hx4⟩ := encFill_some (nl := V.isEmpty) (fu := false) hfv
                       rw [hx4] at c82
                       rw [hfv, Option.map_some] at hnext
                       obtain ⟨hout, houl⟩ := hok out hfv
                       rw [hvl] at houl
                       (repeat refine ZQ ?_); refine ZR fun K hK => ?_; simp (maxSteps := 1000000) [ty33, ty9, ty3]
                       refine ZP (c82) ?_; simp (maxSteps := 1000000) [ty33, ty4]
                       refine hK _ ?_; clear hK K
                       (repeat refine ZQ ?_); refine ZR fun K hK => ?_; simp (maxSteps := 1000000) [ty4]; refine hK _ ?_; clear hK K
                       (repeat refine ZQ ?_); refine ZC (fun hd => ?_) (fun hd => ?_)
                       ·simp at hd
                       ·clear hd
                        refine awp_skip ?_
                        (repeat refine ZQ ?_); refine ZR fun K hK => ?_; simp (maxSteps := 1000000) [ty3]; refine hK _ ?_; clear hK K; (first | show AWP _ _ _ _ _ | show ∃ _, _ | skip)
                        have hA0 := addTo14_zero F out
                        have hAs := fun q (hq : q < F.length) => addTo14_succ F out hq
                        have hAe := addTo14_full F out
                        have hAl := fun q => addTo14_len F out q
                        have hAa := fun q (hq : q < F.length) (h : q < (addTo14 F out q).length) => addTo14_at F out hq h
                        rw [hFl] at hAe hAl
                        generalize addTo14 F out = A at *
                        (repeat refine ZQ ?_); refine awp_block ?_
                        refine awp_loop (fun q : Nat => ⟨ofL [(2, .sl true true []), (3, .sl M.isEmpty false (M.map cI)), (4, .bool false), (5, sT G.isEmpty false G), (7, encI j), (8, encI n), (11, encS f), (13, encS s), (15, sT R.isEmpty false R), (19, .own 19 1 0 j), (20, encI k), (23, .sl x1 x2 (out.map cI)), (25, encI q)],
                         stoT [(19, 19, .live ⟨false, false, 1, (A q).map cS⟩)]⟩)
                         (fun q => q ≤ j) (fun q => j - q) 0 (Nat.zero_le _) ?_ ?_
                        ·rw [hA0]
                         exact ZW
                        ·intro q hq
                         have w3 : IntKind.i64.wrap ((q : Int) + 1) = ((q + 1 : Nat) : Int) := by rw [wrap_id (by omega) (by omega)]; rfl
                         (repeat refine ZQ ?_); refine ZR fun K hK => ?_; simp (maxSteps := 1000000) [ty3]; refine hK _ ?_; clear hK K; (first | show AWP _ _ _ _ _ | show ∃ _, _ | skip)
                         by_cases hql : q < j
                         ·have hql' : (q : Int) < j := by omega
                          (repeat refine ZQ ?_); refine ZC (hc := by simp [hql]; rfl) (fun hd => ?_) (fun hd => ?_)
                          ·clear hd
                           have hqF : q < F.length := by omega
                           have hqo : q < out.length := by omega
                           have uA := hAs q hqF
                           have hAll := hAl q
                           have hqA : q < (A q).length := by omega
                           have hga := hAa q hqF hqA
                           have hbo := hout _ (List.getElem_mem hqo)
                           have hfl := (hFr _ (List.getElem_mem hqF)).1
                           have e : out.getD q 0 = out[q] := by simp [List.getD_eq_getElem?_getD, List.getElem?_eq_getElem hqo]
                           rw [e] at uA
                           obtain ⟨v, hgv⟩ : ∃ v, out[q] = v := ⟨_, rfl⟩
                           obtain ⟨t, hgt⟩ : ∃ t, F[q] = t := ⟨_, rfl⟩
                           rw [hgv] at uA hbo
                           rw [hgt] at uA hga hfl
                           obtain ⟨u, rfl⟩ : ∃ u : Nat, v = u := ⟨v.toNat, by omega⟩
                           have hz : (32 + (u : Int)).toNat = 32 + u := by omega
                           rw [hz] at uA
                           have w4 : IntKind.i64.wrap (32 + (u : Int)) = 32 + u := wrap_id (by omega) (by omega)
                           have w5 : IntKind.i32.wrap (32 + (u : Int)) = 32 + u := wrap_i32 (by omega) (by omega)
                           have e1 : Utf8.encode (32 + (u : Int)) = S [UInt8.ofNat (32 + u)] := by rw [← enc_ascii (by omega)]; rfl
                           have ha := str_add (a := t) (b := [UInt8.ofNat (32 + u)]) (by simp; omega)
                           generalize [UInt8.ofNat (32 + u)] = lc at *
                           have hom : ((A q).map cS).set q [encS (t ++ lc)] = ((A q).set q (t ++ lc)).map cS := by rw [List.map_set]
                           rw [← uA] at hom
                           refine awp_skip ?_
                           (repeat refine ZQ ?_); refine awp_block ?_
                           (repeat refine ZQ ?_); refine ZD [2013,10019] [0, 1, 2, 3, 4, 5, 6, 7, 8, 9, 10, 11, 12, 13] fun K hK => ?_; simp (maxSteps := 1000000) [ty22, ty9, ty33, ty3, ty21, hqA, hga, hqo, hgv, w4, w5, e1, ha, hAll, hql, hom, -strBin]
                           refine hK _ ?_; clear hK K
                           (repeat refine ZQ ?_); refine ZR fun K hK => ?_; simp (maxSteps := 1000000) [ty3, w3]; refine hK _ ?_; clear hK K; (first | show AWP _ _ _ _ _ | show ∃ _, _ | skip)
                           refine ⟨q + 1, by omega, by omega, ?_⟩
                           exact ZW
                          ·simp [hql] at hd
                         ·have hqn : q = j := by omega
                          subst hqn
                          (repeat refine ZQ ?_); refine ZC (fun hd => ?_) (fun hd => ?_)
                          ·simp at hd
                          ·clear hd
                           (repeat refine ZQ ?_); refine awp_exit ?_
                           (repeat refine ZQ ?_); refine ZR fun K hK => ?_; simp (maxSteps := 1000000) [ty3, w1]; refine hK _ ?_; clear hK K; (first | show AWP _ _ _ _ _ | show ∃ _, _ | skip)
                           rw [hAe]
                           refine ⟨⟨k + 1, addV F out⟩, ⟨by simp; omega, hnext⟩, by simp; omega, ?_⟩
                           exact ZW
                  ·simp [hlt] at hd
                 ·have hkn3 : k = n := by omega
                  subst hkn3
                  (repeat refine ZQ ?_); refine ZC (fun hd => ?_) (fun hd => ?_)
                  ·simp at hd
                  ·clear hd
                   (repeat refine ZQ ?_); refine awp_exit ?_; (first | show AWP _ _ _ _ _ | show ∃ _, _ | skip)
                   rw [hFk] at hR
                   simp only at hR
                   refine AWP.weak ?_ (wk_frz 19 19 (c := sT false false F) (o := ⟨false, false, 1, F.map cS⟩) (by simp) (all_purel_map fun _ => rfl) (fz_own rfl (by simp [hFl]) (by simp)))
                   (repeat refine ZQ ?_); refine ZR fun K hK => ?_; simp (maxSteps := 1000000) [ty3]; refine hK _ ?_; clear hK K
                   (repeat refine ZQ ?_); refine awp_block ?_
                   refine AWP.weak ?_ (wk_nil 2 2 1 (fu := true) (by simp) (by simp))
                   refine awp_loop (fun X : RtX => ⟨ofL [(2, .own 2 1 0 X.T.length), (3, .sl M.isEmpty false (M.map cI)), (4, .bool false), (5, sT G.isEmpty false G), (7, encI i), (19, sT false false F), (26, encI X.i)],
                    stoT [(2, 2, .live ⟨X.T.isEmpty, false, 1, X.T.map cS⟩)]⟩)
                    (fun X => X.i ≤ i ∧ textsG (F.take X.i) = some X.T) (fun X => i - X.i) ⟨0, []⟩ ⟨Nat.zero_le _, rfl⟩ ?_ ?_
                   ·exact ZW
                   ·rintro ⟨q, T⟩ ⟨hqi, hqT⟩
                    simp only at hqi hqT ⊢
                    have w2 : IntKind.i64.wrap ((q : Int) + 1) = ((q + 1 : Nat) : Int) := by rw [wrap_id (by omega) (by omega)]; rfl
                    have hTl : T.length = q := by rw [(textsG_len hqT).1, List.length_take]; omega
                    (repeat refine ZQ ?_); refine ZR fun K hK => ?_; simp (maxSteps := 1000000) [ty3]; refine hK _ ?_; clear hK K; (first | show AWP _ _ _ _ _ | show ∃ _, _ | skip)
                    by_cases hql : q < i
                    ·have hql' : (q : Int) < i := by omega
                     have hqF : q < F.length := by omega
                     (repeat refine ZQ ?_); refine ZC (hc := by simp [hql]; rfl) (fun hd => ?_) (fun hd => ?_)
                     ·clear hd
                      obtain ⟨hrl, hrp⟩ := hFr _ (List.getElem_mem hqF)
                      have c83 := q_textOf83 F[q] (by omega) (by omega)
                      cases ht : textOfB F[q] with
                      | none =>
                       rw [ht] at c83
                       have hRn : encRs (restG G) = noR := by rw [hR, textsG_none hqF hqT ht]; rfl
                       obtain ⟨r, hgr⟩ : ∃ r, F[q] = r := ⟨_, rfl⟩
                       rw [hgr] at c83
                       refine awp_skip ?_
                       (repeat refine ZQ ?_); refine awp_block ?_
                       (repeat refine ZQ ?_); refine ZR fun K hK => ?_; simp (maxSteps := 1000000) [ty22, ty9, hqF, hgr]
                       refine ZP (c83) ?_; simp (maxSteps := 1000000) [ty9, ty4]
                       refine hK _ ?_; clear hK K
                       (repeat refine ZQ ?_); refine ZR fun K hK => ?_; simp (maxSteps := 1000000) [ty4]; refine hK _ ?_; clear hK K
                       (repeat refine ZQ ?_); refine ZC (fun hd => ?_) (fun hd => ?_)
                       ·clear hd
                        (repeat refine ZQ ?_); refine ZR fun K hK => ?_; simp (maxSteps := 1000000) [ty22, ty33, ty4]; refine hK _ ?_; clear hK K; (first | show AWP _ _ _ _ _ | show ∃ _, _ | skip)
                        rw [hRn]
                        unfold noR
                        (repeat refine ZQ ?_); refine awp_ret ?_; refine And.intro (Or.inr rfl) ?_
                        simp [retC, resC, viewC, mapO]
                       ·simp at hd
                      | some x =>
                       rw [ht] at c83
                       simp only [Option.isSome_some, Option.getD_some] at c83
                       have hnx := textsG_step hqF hqT ht
                       obtain ⟨r, hgr⟩ : ∃ r, F[q] = r := ⟨_, rfl⟩
                       rw [hgr] at c83
                       refine awp_skip ?_
                       (repeat refine ZQ ?_); refine awp_block ?_
                       (repeat refine ZQ ?_); refine ZR fun K hK => ?_; simp (maxSteps := 1000000) [ty22, ty9, hqF, hgr]
                       refine ZP (c83) ?_; simp (maxSteps := 1000000) [ty9, ty4]
                       refine hK _ ?_; clear hK K
                       (repeat refine ZQ ?_); refine ZR fun K hK => ?_; simp (maxSteps := 1000000) [ty4]; refine hK _ ?_; clear hK K
                       (repeat refine ZQ ?_); refine ZC (fun hd => ?_) (fun hd => ?_)
                       ·simp at hd
                       ·clear hd
                        refine awp_skip ?_
                        (repeat refine ZQ ?_); refine ZR fun K hK => ?_; simp (maxSteps := 1000000) [ty22, ty9]
                        refine ⟨by omega, ?_⟩
                        refine hK _ ?_; clear hK K
                        (repeat refine ZQ ?_); refine ZR fun K hK => ?_; simp (maxSteps := 1000000) [ty3, w2]; refine hK _ ?_; clear hK K; (first | show AWP _ _ _ _ _ | show ∃ _, _ | skip)
                        refine ⟨⟨q + 1, T ++ [x]⟩, ⟨by simp; omega, hnx⟩, by simp; omega, ?_⟩
                        refine wk_shape2 [(2, 205, .live ⟨(T ++ [x]).isEmpty, false, 1, (T ++ [x]).map cS⟩)] (by first | rfl | (simp only [if_pos, if_true]; rfl)) (shp0 hσ (by simp) (by simp) ?_) ?_
                        ·simp [SlotOk] <;> (repeat' (first | (refine RowsOk.same ?_; simp [purel, C.isPure]; done) | (refine rowsCons ?_; simp [mtl, mtc, mT, mH, C.isPure, purel]; done) | (refine rowsCons ?_; simp [mtl, mtc, mT, mH, C.isPure, purel]) | refine And.intro ?_ ?_))
                        ·simp [mtc, mtl, mT, C.isPure, purel] <;> (try simp (disch := omega) [wrap_id]) <;> (try omega)
                     ·simp [hql] at hd
                    ·have hqn : q = i := by omega
                     subst hqn
                     (repeat refine ZQ ?_); refine ZC (fun hd => ?_) (fun hd => ?_)
                     ·simp at hd
                     ·clear hd
                      (repeat refine ZQ ?_); refine awp_exit ?_; (first | show AWP _ _ _ _ _ | show ∃ _, _ | skip)
                      rw [List.take_of_length_le (by omega)] at hqT
                      have hpk := texts_pack hFr n62 (by omega) (by omega) hqT
                      rw [hqT] at hR
                      simp only at hR
                      refine AWP.weak ?_ (wk_frz 2 2 (c := sT T.isEmpty false T) (o := ⟨T.isEmpty, false, 1, T.map cS⟩) (by simp) (all_purel_map fun _ => rfl) (fz_own rfl (by simp) (by simp)))
                      have c39 := q_cards39 T.isEmpty false T hpk
                      have hcl := (cards_len hpk).1
                      generalize cardsB T = Cs at *
                      (repeat refine ZQ ?_); refine ZR fun K hK => ?_; simp (maxSteps := 1000000) [ty22]
                      refine ZP (c39) ?_; simp (maxSteps := 1000000) [ty22]
                      refine hK _ ?_; clear hK K
                      (repeat refine ZQ ?_); refine ZR fun K hK => ?_; simp (maxSteps := 1000000) [ty3]; refine hK _ ?_; clear hK K
                      (repeat refine ZQ ?_); refine awp_block ?_
                      refine awp_loop (fun z : Nat => ⟨ofL [(2, sT T.isEmpty false T), (3, .sl M.isEmpty false (M.map cI)), (4, .bool false), (5, sT G.isEmpty false G), (29, sT false false Cs), (30, encI z)], stoT []⟩)
                       (fun z => z ≤ G.length ∧ ∀ y (h : y < G.length), y < z → (Cs.any fun c => c == G[y]) = true) (fun z => G.length - z) 0 ⟨Nat.zero_le _, fun y _ hy => absurd hy (by omega)⟩ ?_ ?_
                      ·exact ZW
                      ·intro z ⟨hz, hzy⟩
                       have w3 : IntKind.i64.wrap ((z : Int) + 1) = ((z + 1 : Nat) : Int) := by rw [wrap_id (by omega) (by omega)]; rfl
                       (repeat refine ZQ ?_); refine ZR fun K hK => ?_; simp (maxSteps := 1000000) [ty22, ty3]; refine hK _ ?_; clear hK K; (first | show AWP _ _ _ _ _ | show ∃ _, _ | skip)
                       by_cases hzl : z < G.length
                       ·have hzl' : (z : Int) < G.length := by omega
                        (repeat refine ZQ ?_); refine ZC (hc := by simp [hzl]; rfl) (fun hd => ?_) (fun hd => ?_)
                        ·clear hd
                         have c84 := q_in84 false false Cs G[z] (by omega)
                         have hfail : (Cs.any fun c => c == G[z]) = false → encRs (restG G) = noR := fun hb => by
                          rw [hR, if_neg]
                          ·rfl
                          ·intro ha
                           have := List.all_eq_true.1 ha _ (List.getElem_mem hzl)
                           rw [hb] at this; cases this
                         have hgood : (Cs.any fun c => c == G[z]) = true → ∀ y (h : y < G.length), y < z + 1 → (Cs.any fun c => c == G[y]) = true := fun hb y h hy => by
                          by_cases e : y = z
                          ·subst e; exact hb
                          ·exact hzy y h (by omega)
                         cases hav : Cs.any fun c => c == G[z]
                         ·have hRn := hfail hav
                          rw [hav] at c84
                          obtain ⟨l, hgl⟩ : ∃ l, G[z] = l := ⟨_, rfl⟩
                          rw [hgl] at c84
                          refine awp_skip ?_
                          (repeat refine ZQ ?_); refine awp_block ?_
                          (repeat refine ZQ ?_); refine ZR fun K hK => ?_; simp (maxSteps := 1000000) [ty22, ty9, hzl, hgl]
                          refine ZP (c84) ?_; simp (maxSteps := 1000000) [ty4]
                          refine hK _ ?_; clear hK K
                          (repeat refine ZQ ?_); refine ZC (fun hd => ?_) (fun hd => ?_)
                          ·clear hd
                           (repeat refine ZQ ?_); refine ZR fun K hK => ?_; simp (maxSteps := 1000000) [ty22, ty33, ty4]; refine hK _ ?_; clear hK K; (first | show AWP _ _ _ _ _ | show ∃ _, _ | skip)
                           rw [hRn]
                           unfold noR
                           (repeat refine ZQ ?_); refine awp_ret ?_; refine And.intro (Or.inr rfl) ?_
                           simp [retC, resC, viewC, mapO]
                          ·simp at hd
                         ·have hgd := hgood hav
                          rw [hav] at c84
                          obtain ⟨l, hgl⟩ : ∃ l, G[z] = l := ⟨_, rfl⟩
                          rw [hgl] at c84
                          refine awp_skip ?_
                          (repeat refine ZQ ?_); refine awp_block ?_
                          (repeat refine ZQ ?_); refine ZR fun K hK => ?_; simp (maxSteps := 1000000) [ty22, ty9, hzl, hgl]
                          refine ZP (c84) ?_; simp (maxSteps := 1000000) [ty4]
                          refine hK _ ?_; clear hK K
                          (repeat refine ZQ ?_); refine ZC (fun hd => ?_) (fun hd => ?_)
                          ·simp at hd
                          ·clear hd
                           refine awp_skip ?_
                           (repeat refine ZQ ?_); refine ZR fun K hK => ?_; simp (maxSteps := 1000000) [ty3, w3]; refine hK _ ?_; clear hK K; (first | show AWP _ _ _ _ _ | show ∃ _, _ | skip)
                           refine ⟨z + 1, ⟨by omega, hgd⟩, by omega, ?_⟩
                           exact ZW
                        ·simp [hzl] at hd
                       ·have hzn : z = G.length := by omega
                        subst hzn
                        (repeat refine ZQ ?_); refine ZC (fun hd => ?_) (fun hd => ?_)
                        ·simp at hd
                        ·clear hd
                         (repeat refine ZQ ?_); refine awp_exit ?_; (first | show AWP _ _ _ _ _ | show ∃ _, _ | skip)
                         have hRs : encRs (restG G) = .tup [.sl T.isEmpty false (T.map cS), .sl M.isEmpty false (M.map cI), .bool true] := by
                          rw [hR, if_pos]
                          ·rfl
                          ·rw [List.all_eq_true]
                           intro l hl
                           obtain ⟨y, hy, rfl⟩ := List.getElem_of_mem hl
                           exact hzy y hy hy
                         rw [hRs]
                         (repeat refine ZQ ?_); refine ZR fun K hK => ?_; simp (maxSteps := 1000000) [ty22, ty33, ty4]; refine hK _ ?_; clear hK K
                         (repeat refine ZQ ?_); refine awp_ret ?_; refine And.intro (Or.inr rfl) ?_
                         simp [retC, resC, viewC, mapO]

set_option maxHeartbeats 8000000
set_option maxRecDepth 20000

-- laws of cards: texts that can be written

set_option maxHeartbeats 8000000
set_option maxRecDepth 20000

-- law CardsOrder

def mkPk (p : Ls) : Pk := ⟨false, false, p⟩
theorem mk_rows (P : List Ls) : P.map cPl = (P.map mkPk).map cPk := by rw [List.map_map]; rfl
set_option maxHeartbeats 8000000
set_option maxRecDepth 20000

-- cards: Read and Bad of the reference


theorem readAll48 (nl fu : Bool) (P : List Pk) (hn : P.length ≤ 100000) (hp : ∀ p ∈ P, p.l.length ≤ 100000 ∧ ∀ l ∈ p.l, l.length ≤ 100000) :
  Pure Tryz.prog 48 [sPk nl fu P] (encRd (rdT P P.length) (rdL P P.length) (readE P)) := by
 have hT0 : rdT P 0 = [] := rfl
 have hL0 : rdL P 0 = [] := rfl
 have hS0 : rdS P 0 = false := rfl
 have hge : ∀ i (hi : i < P.length), P.getD i ⟨false, false, []⟩ = P[i] := fun i hi => by simp [List.getD_eq_getElem?_getD, List.getElem?_eq_getElem hi]
 have hTs : ∀ i (hi : i < P.length), rdT P (i + 1) = rdT P i ++ uT P[i] := fun i hi => by
  unfold rdT
  rw [List.take_succ_eq_append_getElem hi, List.flatMap_append]; simp
 have hLs : ∀ i (hi : i < P.length), rdL P (i + 1) = rdL P i ++ (uM P[i]).map fun n => ((rdT P i).length : Int) + n := fun i hi => by rw [rdL, hge i hi]
 have hSs : ∀ i (hi : i < P.length), rdS P (i + 1) = (rdS P i || (decide (i + 1 < P.length) && decide ((uT P[i]).length < 8))) := fun i hi => by rw [rdS, hge i hi]
 have hE : readE P = if (P.all fun p => (unpackB p.l).isSome) = true then (if (rdS P P.length || decide (40 < (rdT P P.length).length)) = true then 142 else 0) else 141 := rfl
 rw [hE]
 clear hE
 generalize rdT P = T at *
 generalize rdL P = M at *
 generalize rdS P = Sh at *
 refine ZF (fn := Tryz.f48) [.tmp 2, .tmp 3, .tmp 4] ⟨Tryz.func48, rfl, by kernel_rfl⟩ fun x hx hσ => ?_
 (repeat refine ZQ ?_); refine ZR fun K hK => ?_; simp (maxSteps := 1000000) [ty22, ty33, ty26]; refine hK _ ?_; clear hK K
 (repeat refine ZQ ?_); refine ZR fun K hK => ?_; simp (maxSteps := 1000000) [ty4]; refine hK _ ?_; clear hK K
 (repeat refine ZQ ?_); refine ZR fun K hK => ?_; simp (maxSteps := 1000000) [ty3]; refine hK _ ?_; clear hK K
 (repeat refine ZQ ?_); refine awp_block ?_
 refine AWP.weak ?_ (wk_nil 2 2 1 (fu := true) (by simp) (by simp))
 refine AWP.weak ?_ (wk_nil 3 3 1 (fu := true) (by simp) (by simp))
 refine awp_loop (fun i : Nat => ⟨ofL [(0, sPk nl fu P), (2, .own 2 1 0 (T i).length), (3, .own 3 1 0 (M i).length), (5, .bool (Sh i)), (6, encI i)],
  stoT [(2, 2, .live (lsO (T i))), (3, 3, .live ⟨(M i).isEmpty, false, 1, (M i).map cI⟩)]⟩)
  (fun i => i ≤ P.length ∧ (T i).length ≤ 8 * i ∧ (M i).length ≤ 8 * i ∧ ∀ j (hj : j < P.length), j < i → (unpackB P[j].l).isSome = true) (fun i => P.length - i) 0 ⟨Nat.zero_le _, by rw [hT0]; exact Nat.le_refl _, by rw [hL0]; exact Nat.le_refl _, fun j _ hj => absurd hj (by omega)⟩ ?_ ?_
 ·rw [hT0, hL0, hS0]
  exact ZW
 ·intro i ⟨hi, hTl, hMl, hJ⟩
  have w1 : IntKind.i64.wrap ((i : Int) + 1) = ((i + 1 : Nat) : Int) := by rw [wrap_id (by omega) (by omega)]; rfl
  (repeat refine ZQ ?_); refine ZR fun K hK => ?_; simp (maxSteps := 1000000) [ty42, ty3]; refine hK _ ?_; clear hK K
  (repeat refine ZQ ?_); refine ZC (fun hc => ?_) (fun hc => ?_)
  ·simp at hc
   obtain ⟨hp1, hp2⟩ := hp _ (List.getElem_mem hc)
   have cu := q_restore49 P[i].nl P[i].fu P[i].l hp1 hp2
   rw [rest_eq] at cu
   have hts := hTs i hc
   have hls := hLs i hc
   have hss := hSs i hc
   refine awp_skip ?_
   (repeat refine ZQ ?_); refine awp_block ?_
   cases hu : unpackB P[i].l with
   | none =>
    rw [hu] at cu
    have hna : ¬ (P.all fun p => (unpackB p.l).isSome) = true := fun hh => by
     have := List.all_eq_true.1 hh _ (List.getElem_mem hc)
     rw [hu] at this; cases this
    rw [if_neg hna]
    simp only [encRs, noR] at cu
    (repeat refine ZQ ?_); refine ZR fun K hK => ?_; simp (maxSteps := 1000000) [ty42, ty22, hc]
    refine ZP (cu) ?_; simp (maxSteps := 1000000) [ty22, ty33, ty4]
    refine hK _ ?_; clear hK K
    (repeat refine ZQ ?_); refine ZR fun K hK => ?_; simp (maxSteps := 1000000) [ty4]; refine hK _ ?_; clear hK K
    (repeat refine ZQ ?_); refine ZC (fun hd => ?_) (fun hd => ?_)
    ·clear hd
     (repeat refine ZQ ?_); refine ZR fun K hK => ?_; simp (maxSteps := 1000000) [ty22, ty33, ty26]; refine hK _ ?_; clear hK K
     (repeat refine ZQ ?_); refine awp_ret ?_; refine And.intro (Or.inr rfl) ?_
     simp [retC, resC, viewC, mapO]
    ·simp at hd
   | some u =>
    obtain ⟨T1, M1⟩ := u
    rw [hu] at cu
    simp only [encRs] at cu
    obtain ⟨b1, b2, b3, b4⟩ := unpack_bd hu
    have hut : uT P[i] = T1 := by unfold uT; rw [hu]; rfl
    have hum : uM P[i] = M1 := by unfold uM; rw [hu]; rfl
    rw [hut] at hts hss
    rw [hum] at hls
    have hTe : T1.isEmpty = false := by cases T1 <;> simp at b1 ⊢
    have hTe2 : T1 ≠ [] := by simpa using hTe
    rw [hTe] at cu
    have hJ3 : ∀ j (hj : j < P.length), j < i + 1 → (unpackB P[j].l).isSome = true := fun j h1 h2 => by
     by_cases hji : j = i
     ·subst hji; rw [hu]; rfl
     ·exact hJ j h1 (by omega)
    (repeat refine ZQ ?_); refine ZR fun K hK => ?_; simp (maxSteps := 1000000) [ty42, ty22, hc]
    refine ZP (cu) ?_; simp (maxSteps := 1000000) [ty22, ty33, ty4]
    refine hK _ ?_; clear hK K
    (repeat refine ZQ ?_); refine ZR fun K hK => ?_; simp (maxSteps := 1000000) [ty4]; refine hK _ ?_; clear hK K
    (repeat refine ZQ ?_); refine ZC (fun hd => ?_) (fun hd => ?_)
    ·simp at hd
    ·clear hd
     refine awp_skip ?_
     (repeat refine ZQ ?_); refine ZR fun K hK => ?_; simp (maxSteps := 1000000) [ty3]; refine hK _ ?_; clear hK K
     (repeat refine ZQ ?_); refine awp_block ?_
     obtain ⟨A, hA⟩ : ∃ A : Nat → List Int, ∀ k, A k = M i ++ (M1.take k).map fun n => ((T i).length : Int) + n := ⟨_, fun _ => rfl⟩
     have hA0 : A 0 = M i := by rw [hA]; simp
     have hAl : ∀ k, k ≤ M1.length → (A k).length = (M i).length + k := fun k hk => by rw [hA]; simp; omega
     have hAs : ∀ k (hk : k < M1.length), A (k + 1) = A k ++ [((T i).length : Int) + M1[k]] := fun k hk => by
      rw [hA, hA, List.take_succ_eq_append_getElem hk, List.map_append, ← List.append_assoc]; rfl
     have hAn : M (i + 1) = A M1.length := by rw [hls, hA, List.take_length]
     clear hA hls
     refine awp_loop (fun k : Nat => ⟨ofL [(0, sPk nl fu P), (2, .own 2 1 0 (T i).length), (3, .own 3 1 0 (A k).length), (5, .bool (Sh i)), (6, encI i), (7, sT false false T1), (8, .sl M1.isEmpty false (M1.map cI)), (10, encI k)],
      stoT [(2, 2, .live (lsO (T i))), (3, 3, .live ⟨(A k).isEmpty, false, 1, (A k).map cI⟩)]⟩)
      (fun k => k ≤ M1.length) (fun k => M1.length - k) 0 (Nat.zero_le _) ?_ ?_
     ·rw [hA0]
      exact ZW
     ·intro k hk
      have wk : IntKind.i64.wrap ((k : Int) + 1) = ((k + 1 : Nat) : Int) := by rw [wrap_id (by omega) (by omega)]; rfl
      have hAk := hAl k hk
      (repeat refine ZQ ?_); refine ZR fun K hK => ?_; simp (maxSteps := 1000000) [ty33, ty3]; refine hK _ ?_; clear hK K
      (repeat refine ZQ ?_); refine ZC (fun hc2 => ?_) (fun hc2 => ?_)
      ·simp at hc2
       have hst := hAs k hc2
       have hz := b4 _ (List.getElem_mem hc2)
       have w38 : IntKind.i64.wrap (((T i).length : Int) + M1[k]) = ((T i).length : Int) + M1[k] := wrap_id (by omega) (by omega)
       generalize A k = Y at *
       refine awp_skip ?_
       (repeat refine ZQ ?_); refine awp_block ?_
       (repeat refine ZQ ?_); refine ZR fun K hK => ?_; simp (maxSteps := 1000000) [ty22, ty33, ty3, w38, hc2]
       refine ⟨by omega, ?_⟩
       refine hK _ ?_; clear hK K
       (repeat refine ZQ ?_); refine ZR fun K hK => ?_; simp (maxSteps := 1000000) [ty3, wk]; refine hK _ ?_; clear hK K; (first | show AWP _ _ _ _ _ | show ∃ _, _ | skip)
       refine ⟨k + 1, by omega, by omega, ?_⟩
       rw [hst]
       refine wk_shape2 [(2, 2, .live (lsO (T i))), (3, 43, .live ⟨(Y ++ [((T i).length : Int) + M1[k]]).isEmpty, false, 1, (Y ++ [((T i).length : Int) + M1[k]]).map cI⟩)] (by first | rfl | (simp only [if_pos, if_true]; rfl)) (shp0 hσ (by simp) (by simp) ?_) ?_
       ·simp [SlotOk] <;> (repeat' (first | (refine RowsOk.same ?_; simp [purel, C.isPure]; done) | (refine rowsCons ?_; simp [mtl, mtc, mT, mH, C.isPure, purel]; done) | (refine rowsCons ?_; simp [mtl, mtc, mT, mH, C.isPure, purel]) | refine And.intro ?_ ?_))
       ·simp [mtc, mtl, mT, C.isPure, purel] <;> (try simp (disch := omega) [wrap_id]) <;> (try omega)
      ·simp at hc2
       (repeat refine ZQ ?_); refine awp_exit ?_; (first | show AWP _ _ _ _ _ | show ∃ _, _ | skip)
       have hkn : k = M1.length := by omega
       rw [hkn, ← hAn] at hAk ⊢
       have hTn : (T (i + 1)).length = (T i).length + T1.length := by rw [hts]; simp
       (repeat refine ZQ ?_); refine ZR fun K hK => ?_; simp (maxSteps := 1000000) [ty22, ty9, hTe2, hTe]
       refine ⟨by omega, ?_⟩
       refine hK _ ?_; clear hK K; (first | show AWP _ _ _ _ _ | show ∃ _, _ | skip)
       have hi1 : i ≤ P.length := hi
       have hlen8 : ((T1.length : Int) < 8) = (T1.length < 8) := propext (by omega)
       have hlast : ((i : Int) + 1 < (P.length : Int)) = (i + 1 < P.length) := propext (by omega)
       cases hsh : Sh i
       ·rw [hsh] at hss
        by_cases hla : i + 1 < P.length
        ·by_cases h8 : T1.length < 8
         ·rw [decide_eq_true hla, decide_eq_true h8] at hss
          (repeat refine ZQ ?_); refine ZR fun K hK => ?_; simp (maxSteps := 1000000) [ty42, ty22, ty3, ty4, hsh, w1, hlast, hlen8, hla, h8]; refine hK _ ?_; clear hK K
          (repeat refine ZQ ?_); refine ZR fun K hK => ?_; simp (maxSteps := 1000000) [ty3, w1]; refine hK _ ?_; clear hK K; (first | show AWP _ _ _ _ _ | show ∃ _, _ | skip)
          refine ⟨i + 1, ⟨by omega, by omega, by omega, hJ3⟩, by omega, ?_⟩
          rw [hss, hts]
          refine wk_shape2 [(2, 46, .live (lsO (T i ++ T1))), (3, 3, .live ⟨(M (i + 1)).isEmpty, false, 1, (M (i + 1)).map cI⟩)] (by first | rfl | (simp only [if_pos, if_true, hTe, hAk, hTe2]; rfl)) (shp0 hσ (by simp) (by simp) ?_) ?_
          ·simp [SlotOk, hTe, hAk, hTe2] <;> (repeat' (first | (refine RowsOk.same ?_; simp [purel, C.isPure]; done) | (refine rowsCons ?_; simp [mtl, mtc, mT, mH, C.isPure, purel]; done) | (refine rowsCons ?_; simp [mtl, mtc, mT, mH, C.isPure, purel]) | refine And.intro ?_ ?_))
          ·simp [mtc, mtl, mT, C.isPure, purel, hTe, hAk, hTe2] <;> (try simp (disch := omega) [wrap_id]) <;> (try omega)
         ·rw [decide_eq_true hla, decide_eq_false h8] at hss
          (repeat refine ZQ ?_); refine ZR fun K hK => ?_; simp (maxSteps := 1000000) [ty42, ty22, ty3, ty4, hsh, w1, hlast, hlen8, hla, h8]; refine hK _ ?_; clear hK K
          (repeat refine ZQ ?_); refine ZR fun K hK => ?_; simp (maxSteps := 1000000) [ty3, w1]; refine hK _ ?_; clear hK K; (first | show AWP _ _ _ _ _ | show ∃ _, _ | skip)
          refine ⟨i + 1, ⟨by omega, by omega, by omega, hJ3⟩, by omega, ?_⟩
          rw [hss, hts]
          refine wk_shape2 [(2, 46, .live (lsO (T i ++ T1))), (3, 3, .live ⟨(M (i + 1)).isEmpty, false, 1, (M (i + 1)).map cI⟩)] (by first | rfl | (simp only [if_pos, if_true, hTe, hAk, hTe2]; rfl)) (shp0 hσ (by simp) (by simp) ?_) ?_
          ·simp [SlotOk, hTe, hAk, hTe2] <;> (repeat' (first | (refine RowsOk.same ?_; simp [purel, C.isPure]; done) | (refine rowsCons ?_; simp [mtl, mtc, mT, mH, C.isPure, purel]; done) | (refine rowsCons ?_; simp [mtl, mtc, mT, mH, C.isPure, purel]) | refine And.intro ?_ ?_))
          ·simp [mtc, mtl, mT, C.isPure, purel, hTe, hAk, hTe2] <;> (try simp (disch := omega) [wrap_id]) <;> (try omega)
        ·rw [decide_eq_false hla] at hss
         (repeat refine ZQ ?_); refine ZR fun K hK => ?_; simp (maxSteps := 1000000) [ty42, ty22, ty3, ty4, hsh, w1, hlast, hlen8, hla]; refine hK _ ?_; clear hK K
         (repeat refine ZQ ?_); refine ZR fun K hK => ?_; simp (maxSteps := 1000000) [ty3, w1]; refine hK _ ?_; clear hK K; (first | show AWP _ _ _ _ _ | show ∃ _, _ | skip)
         refine ⟨i + 1, ⟨by omega, by omega, by omega, hJ3⟩, by omega, ?_⟩
         rw [hss, hts]
         refine wk_shape2 [(2, 46, .live (lsO (T i ++ T1))), (3, 3, .live ⟨(M (i + 1)).isEmpty, false, 1, (M (i + 1)).map cI⟩)] (by first | rfl | (simp only [if_pos, if_true, hTe, hAk, hTe2]; rfl)) (shp0 hσ (by simp) (by simp) ?_) ?_
         ·simp [SlotOk, hTe, hAk, hTe2] <;> (repeat' (first | (refine RowsOk.same ?_; simp [purel, C.isPure]; done) | (refine rowsCons ?_; simp [mtl, mtc, mT, mH, C.isPure, purel]; done) | (refine rowsCons ?_; simp [mtl, mtc, mT, mH, C.isPure, purel]) | refine And.intro ?_ ?_))
         ·simp [mtc, mtl, mT, C.isPure, purel, hTe, hAk, hTe2] <;> (try simp (disch := omega) [wrap_id]) <;> (try omega)
       ·rw [hsh] at hss
        (repeat refine ZQ ?_); refine ZR fun K hK => ?_; simp (maxSteps := 1000000) [ty42, ty22, ty3, ty4, hsh]; refine hK _ ?_; clear hK K
        (repeat refine ZQ ?_); refine ZR fun K hK => ?_; simp (maxSteps := 1000000) [ty3, w1]; refine hK _ ?_; clear hK K; (first | show AWP _ _ _ _ _ | show ∃ _, _ | skip)
        refine ⟨i + 1, ⟨by omega, by omega, by omega, hJ3⟩, by omega, ?_⟩
        rw [hss, hts]
        refine wk_shape2 [(2, 46, .live (lsO (T i ++ T1))), (3, 3, .live ⟨(M (i + 1)).isEmpty, false, 1, (M (i + 1)).map cI⟩)] (by first | rfl | (simp only [if_pos, if_true, hTe, hAk, hTe2]; rfl)) (shp0 hσ (by simp) (by simp) ?_) ?_
        ·simp [SlotOk, hTe, hAk, hTe2] <;> (repeat' (first | (refine RowsOk.same ?_; simp [purel, C.isPure]; done) | (refine rowsCons ?_; simp [mtl, mtc, mT, mH, C.isPure, purel]; done) | (refine rowsCons ?_; simp [mtl, mtc, mT, mH, C.isPure, purel]) | refine And.intro ?_ ?_))
        ·simp [mtc, mtl, mT, C.isPure, purel, hTe, hAk, hTe2] <;> (try simp (disch := omega) [wrap_id]) <;> (try omega)
  ·simp at hc
   (repeat refine ZQ ?_); refine awp_exit ?_; (first | show AWP _ _ _ _ _ | show ∃ _, _ | skip)
   have hin : i = P.length := by omega
   rw [hin] at hTl hMl hJ ⊢
   rw [if_pos (List.all_eq_true.2 fun p hp => by
    obtain ⟨j, hj, rfl⟩ := List.getElem_of_mem hp
    exact hJ j hj hj)]
   have htT : List.take (T P.length).length ((T P.length).map cS) = (T P.length).map cS := List.take_of_length_le (by simp)
   have htM : List.take (M P.length).length ((M P.length).map cI) = (M P.length).map cI := List.take_of_length_le (by simp)
   generalize T P.length = X at *
   generalize M P.length = Y at *
   generalize Sh P.length = b at *
   cases b
   ·by_cases h40 : 40 < X.length
    ·have h40' : (40 : Int) < X.length := by omega
     rw [if_pos (by simp [h40])]
     (repeat refine ZQ ?_); refine ZR fun K hK => ?_; simp (maxSteps := 1000000) [ty22, ty3, ty4, h40']; refine hK _ ?_; clear hK K
     (repeat refine ZQ ?_); refine ZC (hc := by simp [h40]; rfl) (fun hd => ?_) (fun hd => ?_)
     ·clear hd
      (repeat refine ZQ ?_); refine ZR fun K hK => ?_; simp (maxSteps := 1000000) [ty22, ty33, ty26]; refine hK _ ?_; clear hK K
      (repeat refine ZQ ?_); refine awp_ret ?_; refine And.intro (Or.inr rfl) ?_
      simp [retC, resC, viewC, mapO]
     ·simp [h40] at hd
    ·have h40' : ¬ (40 : Int) < X.length := by omega
     rw [if_neg (by simp [h40])]
     (repeat refine ZQ ?_); refine ZR fun K hK => ?_; simp (maxSteps := 1000000) [ty22, ty3, ty4, h40']; refine hK _ ?_; clear hK K
     (repeat refine ZQ ?_); refine ZC (hc := by simp [h40]; rfl) (fun hd => ?_) (fun hd => ?_)
     ·simp [h40] at hd
     ·clear hd
      refine awp_skip ?_
      (repeat refine ZQ ?_); refine ZR fun K hK => ?_; simp (maxSteps := 1000000) [ty22, ty33, ty26]; refine hK _ ?_; clear hK K
      (repeat refine ZQ ?_); refine awp_ret ?_; refine And.intro (Or.inr rfl) ?_
      simp [retC, resC, viewC, mapO, htT, htM]
   ·rw [if_pos (by simp)]
    (repeat refine ZQ ?_); refine ZR fun K hK => ?_; simp (maxSteps := 1000000) [ty22, ty3, ty4]; refine hK _ ?_; clear hK K
    (repeat refine ZQ ?_); refine ZC (fun hd => ?_) (fun hd => ?_)
    ·clear hd
     (repeat refine ZQ ?_); refine ZR fun K hK => ?_; simp (maxSteps := 1000000) [ty22, ty33, ty26]; refine hK _ ?_; clear hK K
     (repeat refine ZQ ?_); refine awp_ret ?_; refine And.intro (Or.inr rfl) ?_
     simp [retC, resC, viewC, mapO]
    ·simp at hd

-- what is read says only which lines there are

def mk1 (p : Ls) : Pk := ⟨false, true, p⟩
theorem getD_l {f : Ls → Pk} (hf : ∀ p, (f p).l = p) (Q : List Ls) (i : Nat) : ((Q.map f).getD i ⟨false, false, []⟩).l = Q.getD i [] := by
 simp only [List.getD_eq_getElem?_getD, List.getElem?_map]
 cases Q[i]? with
 | none => rfl
 | some p => simp [hf]
theorem uT_l {p q : Pk} (h : p.l = q.l) : uT p = uT q := by unfold uT; rw [h]
theorem uM_l {p q : Pk} (h : p.l = q.l) : uM p = uM q := by unfold uM; rw [h]

section
variable {f g : Ls → Pk} (hf : ∀ p, (f p).l = p) (hg : ∀ p, (g p).l = p) (Q : List Ls)
include hf hg
theorem rdT_l (i : Nat) : rdT (Q.map f) i = rdT (Q.map g) i := by
 unfold rdT
 rw [← List.map_take, ← List.map_take, List.flatMap_map, List.flatMap_map]
 congr 1
 funext p
 exact uT_l (by rw [hf, hg])
theorem rdL_l : ∀ i, rdL (Q.map f) i = rdL (Q.map g) i
 | 0 => rfl
 | i + 1 => by
  rw [rdL, rdL, rdL_l i, rdT_l hf hg Q i, uM_l (p := (Q.map f).getD i ⟨false, false, []⟩) (q := (Q.map g).getD i ⟨false, false, []⟩) (by rw [getD_l hf, getD_l hg])]
theorem rdS_l : ∀ i, rdS (Q.map f) i = rdS (Q.map g) i
 | 0 => rfl
 | i + 1 => by
  rw [rdS, rdS, rdS_l i, uT_l (p := (Q.map f).getD i ⟨false, false, []⟩) (q := (Q.map g).getD i ⟨false, false, []⟩) (by rw [getD_l hf, getD_l hg])]
  simp only [List.length_map]
theorem readE_l : readE (Q.map f) = readE (Q.map g) := by
 unfold readE
 rw [List.length_map, List.length_map, rdS_l hf hg, rdT_l hf hg, List.all_map, List.all_map]
 have e : ((fun p : Pk => (unpackB p.l).isSome) ∘ f) = ((fun p : Pk => (unpackB p.l).isSome) ∘ g) := by
  funext p
  simp only [Function.comp, hf, hg]
 rw [e]
end

/-- The packs of a file, as the reference sees them. -/
def rQ (l : List UInt8) : List Ls := (cutV l).1
theorem cut_rP {l : List UInt8} (h : (cutV l).2 = true) : (cutB l).isSome = true ∧ rP l = (rQ l).map mk1 := by
 unfold rP rQ
 rw [cutB_cutV, if_pos h]
 exact ⟨rfl, rfl⟩
theorem cut_no {l : List UInt8} (h : (cutV l).2 = false) : (cutB l).isSome = false ∧ rP l = [] := by
 unfold rP
 rw [cutB_cutV, h, if_neg (by simp)]
 exact ⟨rfl, rfl⟩
/-- What Cut returns. -/
theorem encCut_ok {l : List UInt8} (h : (cutV l).2 = true) : encCut l = .tup [sPl (rQ l).isEmpty false (rQ l), .bool true] := by
  unfold encCut rQ
  rw [h]
  cases hc : cutE l [] [] with
  | false => rw [if_neg (by simp)]
  | true =>
    have := cutE_true l [] [] [] hc
    unfold cutV at h
    rw [this] at h; cases h
theorem encCut_no {l : List UInt8} (h : (cutV l).2 = false) : ∃ (a : Bool) (Q : List Ls), encCut l = .tup [sPl a a Q, .bool false] ∨ encCut l = .tup [sPl a false Q, .bool false] := by
 unfold encCut
 cases hc : cutE l [] [] with
 | true => rw [if_pos rfl]; exact ⟨true, [], .inl rfl⟩
 | false => rw [if_neg (by simp), h]; exact ⟨_, _, .inr rfl⟩
theorem cut_bdQ {l : List UInt8} (hn : l.length ≤ 50000) (h : (cutV l).2 = true) : (rQ l).length ≤ 100000 ∧ ∀ p ∈ rQ l, p.length ≤ 100000 ∧ ∀ x ∈ p, x.length ≤ 100000 := by
 obtain ⟨_, e⟩ := cut_rP h
 have h1 := cut_len hn
 have h2 := fun p => cut_bd hn (p := p)
 have e0 : (cutB l).getD [] = rP l := rfl
 rw [e0, e] at h1 h2
 refine ⟨by simpa using h1, fun p hp => ?_⟩
 exact h2 (mk1 p) (List.mem_map_of_mem hp)

theorem mk_l (p : Ls) : (mkPk p).l = p := rfl
theorem mk1_l (p : Ls) : (mk1 p).l = p := rfl

theorem read_Q (nl : Bool) (Q : List Ls) (hn : Q.length ≤ 100000) (hp : ∀ p ∈ Q, p.length ≤ 100000 ∧ ∀ x ∈ p, x.length ≤ 100000) : Pure Tryz.prog 48 [sPl nl false Q] (encRd (rdT (Q.map mk1) Q.length) (rdL (Q.map mk1) Q.length) (readE (Q.map mk1))) := by
 have := readAll48 nl false (Q.map mkPk) (by simpa using hn) (fun p hpm => by
  obtain ⟨q, hq, rfl⟩ := List.mem_map.1 hpm
  exact hp q hq)
 rw [List.length_map, rdT_l mk_l mk1_l, rdL_l mk_l mk1_l, readE_l mk_l mk1_l] at this
 unfold sPl sPk at *
 rw [mk_rows]
 exact this


theorem q_read26 (l : List UInt8) (hn : l.length ≤ 50000) : Pure Tryz.prog 26 [encS l] (encRd (rTx l) (rLo l) (rE l)) := by
 have c23 := q_cut23 l (by omega)
 cases h : (cutV l).2 with
 | false =>
  obtain ⟨h1, h2⟩ := cut_no h
  have e1 : rE l = 140 := by unfold rE; rw [h1]; rfl
  rw [e1]
  obtain ⟨a, Q, h3 | h3⟩ := encCut_no h
  ·rw [h3] at c23
   refine ZF (fn := Tryz.f26) [.tmp 2, .tmp 3, .tmp 4] ⟨Tryz.func26, rfl, by kernel_rfl⟩ fun x hx hσ => ?_
   (repeat refine ZQ ?_); refine ZR fun K hK => ?_; simp (maxSteps := 1000000) [ty22, ty33, ty26]; refine hK _ ?_; clear hK K
   (repeat refine ZQ ?_); refine ZR fun K hK => ?_; simp (maxSteps := 1000000) [ty9]
   refine ZP (c23) ?_; simp (maxSteps := 1000000) [ty42, ty4]
   refine hK _ ?_; clear hK K
   (repeat refine ZQ ?_); refine ZR fun K hK => ?_; simp (maxSteps := 1000000) [ty4]; refine hK _ ?_; clear hK K
   (repeat refine ZQ ?_); refine ZC (fun hd => ?_) (fun hd => ?_)
   ·clear hd
    (repeat refine ZQ ?_); refine ZR fun K hK => ?_; simp (maxSteps := 1000000) [ty22, ty33, ty26]; refine hK _ ?_; clear hK K
    (repeat refine ZQ ?_); refine awp_ret ?_; refine And.intro (Or.inr rfl) ?_
    simp [retC, resC, viewC, mapO]
   ·simp at hd
  ·rw [h3] at c23
   refine ZF (fn := Tryz.f26) [.tmp 2, .tmp 3, .tmp 4] ⟨Tryz.func26, rfl, by kernel_rfl⟩ fun x hx hσ => ?_
   (repeat refine ZQ ?_); refine ZR fun K hK => ?_; simp (maxSteps := 1000000) [ty22, ty33, ty26]; refine hK _ ?_; clear hK K
   (repeat refine ZQ ?_); refine ZR fun K hK => ?_; simp (maxSteps := 1000000) [ty9]
   refine ZP (c23) ?_; simp (maxSteps := 1000000) [ty42, ty4]
   refine hK _ ?_; clear hK K
   (repeat refine ZQ ?_); refine ZR fun K hK => ?_; simp (maxSteps := 1000000) [ty4]; refine hK _ ?_; clear hK K
   (repeat refine ZQ ?_); refine ZC (fun hd => ?_) (fun hd => ?_)
   ·clear hd
    (repeat refine ZQ ?_); refine ZR fun K hK => ?_; simp (maxSteps := 1000000) [ty22, ty33, ty26]; refine hK _ ?_; clear hK K
    (repeat refine ZQ ?_); refine awp_ret ?_; refine And.intro (Or.inr rfl) ?_
    simp [retC, resC, viewC, mapO]
   ·simp at hd
 | true =>
  obtain ⟨h1, h2⟩ := cut_rP h
  obtain ⟨h3, h4⟩ := cut_bdQ hn h
  have c48 := read_Q (rQ l).isEmpty (rQ l) h3 h4
  have e1 : rE l = readE (rP l) := by unfold rE; rw [h1]; rfl
  rw [encCut_ok h] at c23
  unfold rTx rLo
  rw [e1, h2, List.length_map]
  generalize rdT ((rQ l).map mk1) (rQ l).length = T at *
  generalize rdL ((rQ l).map mk1) (rQ l).length = M at *
  generalize readE ((rQ l).map mk1) = e at *
  generalize rQ l = Q at *
  by_cases h0 : e = 0
  ·subst h0
   simp only [encRd, if_true] at c48 ⊢
   refine ZF (fn := Tryz.f26) [.tmp 2, .tmp 3, .tmp 4] ⟨Tryz.func26, rfl, by kernel_rfl⟩ fun x hx hσ => ?_
   (repeat refine ZQ ?_); refine ZR fun K hK => ?_; simp (maxSteps := 1000000) [ty22, ty33, ty26]; refine hK _ ?_; clear hK K
   (repeat refine ZQ ?_); refine ZR fun K hK => ?_; simp (maxSteps := 1000000) [ty9]
   refine ZP (c23) ?_; simp (maxSteps := 1000000) [ty42, ty4]
   refine hK _ ?_; clear hK K
   (repeat refine ZQ ?_); refine ZR fun K hK => ?_; simp (maxSteps := 1000000) [ty4]; refine hK _ ?_; clear hK K
   (repeat refine ZQ ?_); refine ZC (fun hd => ?_) (fun hd => ?_)
   ·simp at hd
   ·clear hd
    refine awp_skip ?_
    (repeat refine ZQ ?_); refine ZR fun K hK => ?_; simp (maxSteps := 1000000) [ty42]
    refine ZP (c48) ?_; simp (maxSteps := 1000000) [ty22, ty33, ty26]
    refine hK _ ?_; clear hK K
    (repeat refine ZQ ?_); refine awp_ret ?_; refine And.intro (Or.inr rfl) ?_
    simp [retC, resC, viewC, mapO, purel, C.isPure]
  ·simp only [encRd, if_neg h0] at c48 ⊢
   refine ZF (fn := Tryz.f26) [.tmp 2, .tmp 3, .tmp 4] ⟨Tryz.func26, rfl, by kernel_rfl⟩ fun x hx hσ => ?_
   (repeat refine ZQ ?_); refine ZR fun K hK => ?_; simp (maxSteps := 1000000) [ty22, ty33, ty26]; refine hK _ ?_; clear hK K
   (repeat refine ZQ ?_); refine ZR fun K hK => ?_; simp (maxSteps := 1000000) [ty9]
   refine ZP (c23) ?_; simp (maxSteps := 1000000) [ty42, ty4]
   refine hK _ ?_; clear hK K
   (repeat refine ZQ ?_); refine ZR fun K hK => ?_; simp (maxSteps := 1000000) [ty4]; refine hK _ ?_; clear hK K
   (repeat refine ZQ ?_); refine ZC (fun hd => ?_) (fun hd => ?_)
   ·simp at hd
   ·clear hd
    refine awp_skip ?_
    (repeat refine ZQ ?_); refine ZR fun K hK => ?_; simp (maxSteps := 1000000) [ty42]
    refine ZP (c48) ?_; simp (maxSteps := 1000000) [ty22, ty33, ty26]
    refine hK _ ?_; clear hK K
    (repeat refine ZQ ?_); refine awp_ret ?_; refine And.intro (Or.inr rfl) ?_
    simp [retC, resC, viewC, mapO, purel, C.isPure]


theorem q_bad27 (l : List UInt8) (hn : l.length ≤ 50000) : Pure Tryz.prog 27 [encS l] (encBd (cutB l).isSome (bdL l)) := by
 have c23 := q_cut23 l (by omega)
 cases h : (cutV l).2 with
 | false =>
  obtain ⟨h1, h2⟩ := cut_no h
  rw [h1]
  obtain ⟨a, Q, h3 | h3⟩ := encCut_no h
  ·rw [h3] at c23
   refine ZF (fn := Tryz.f27) [.tmp 2, .tmp 3] ⟨Tryz.func27, rfl, by kernel_rfl⟩ fun x hx hσ => ?_
   (repeat refine ZQ ?_); refine ZR fun K hK => ?_; simp (maxSteps := 1000000) [ty33, ty26]; refine hK _ ?_; clear hK K
   (repeat refine ZQ ?_); refine ZR fun K hK => ?_; simp (maxSteps := 1000000) [ty9]
   refine ZP (c23) ?_; simp (maxSteps := 1000000) [ty42, ty4]
   refine hK _ ?_; clear hK K
   (repeat refine ZQ ?_); refine ZR fun K hK => ?_; simp (maxSteps := 1000000) [ty4]; refine hK _ ?_; clear hK K
   (repeat refine ZQ ?_); refine ZC (fun hd => ?_) (fun hd => ?_)
   ·clear hd
    (repeat refine ZQ ?_); refine ZR fun K hK => ?_; simp (maxSteps := 1000000) [ty33, ty26]; refine hK _ ?_; clear hK K
    (repeat refine ZQ ?_); refine awp_ret ?_; refine And.intro (Or.inr rfl) ?_
    simp [retC, resC, viewC, mapO]
   ·simp at hd
  ·rw [h3] at c23
   refine ZF (fn := Tryz.f27) [.tmp 2, .tmp 3] ⟨Tryz.func27, rfl, by kernel_rfl⟩ fun x hx hσ => ?_
   (repeat refine ZQ ?_); refine ZR fun K hK => ?_; simp (maxSteps := 1000000) [ty33, ty26]; refine hK _ ?_; clear hK K
   (repeat refine ZQ ?_); refine ZR fun K hK => ?_; simp (maxSteps := 1000000) [ty9]
   refine ZP (c23) ?_; simp (maxSteps := 1000000) [ty42, ty4]
   refine hK _ ?_; clear hK K
   (repeat refine ZQ ?_); refine ZR fun K hK => ?_; simp (maxSteps := 1000000) [ty4]; refine hK _ ?_; clear hK K
   (repeat refine ZQ ?_); refine ZC (fun hd => ?_) (fun hd => ?_)
   ·clear hd
    (repeat refine ZQ ?_); refine ZR fun K hK => ?_; simp (maxSteps := 1000000) [ty33, ty26]; refine hK _ ?_; clear hK K
    (repeat refine ZQ ?_); refine awp_ret ?_; refine And.intro (Or.inr rfl) ?_
    simp [retC, resC, viewC, mapO]
   ·simp at hd
 | true =>
  obtain ⟨h1, h2⟩ := cut_rP h
  obtain ⟨h3, h4⟩ := cut_bdQ hn h
  rw [encCut_ok h] at c23
  rw [h1]
  unfold bdL
  rw [h2, List.length_map]
  have hB0 : badTo ((rQ l).map mk1) 0 = [] := rfl
  have hBs := fun i (hi : i < ((rQ l).map mk1).length) => badTo_succ ((rQ l).map mk1) hi
  have hBl := badTo_len ((rQ l).map mk1)
  simp only [List.length_map, List.getElem_map, mk1_l] at hBs
  generalize badTo ((rQ l).map mk1) = B at *
  generalize rQ l = Q at *
  refine ZF (fn := Tryz.f27) [.tmp 2, .tmp 3] ⟨Tryz.func27, rfl, by kernel_rfl⟩ fun x hx hσ => ?_
  (repeat refine ZQ ?_); refine ZR fun K hK => ?_; simp (maxSteps := 1000000) [ty33, ty26]; refine hK _ ?_; clear hK K
  (repeat refine ZQ ?_); refine ZR fun K hK => ?_; simp (maxSteps := 1000000) [ty9]
  refine ZP (c23) ?_; simp (maxSteps := 1000000) [ty42, ty4]
  refine hK _ ?_; clear hK K
  (repeat refine ZQ ?_); refine ZR fun K hK => ?_; simp (maxSteps := 1000000) [ty4]; refine hK _ ?_; clear hK K
  (repeat refine ZQ ?_); refine ZC (fun hd => ?_) (fun hd => ?_)
  ·simp at hd
  ·clear hd
   refine awp_skip ?_
   (repeat refine ZQ ?_); refine ZR fun K hK => ?_; simp (maxSteps := 1000000) [ty33]; refine hK _ ?_; clear hK K
   (repeat refine ZQ ?_); refine ZR fun K hK => ?_; simp (maxSteps := 1000000) [ty3]; refine hK _ ?_; clear hK K
   (repeat refine ZQ ?_); refine awp_block ?_
   refine AWP.weak ?_ (wk_nil 6 6 1 (fu := true) (by simp) (by simp))
   refine awp_loop (fun i : Nat => ⟨ofL [(4, sPl Q.isEmpty false Q), (6, .own 6 1 0 (B i).length), (7, encI i)], stoT [(6, 6, .live ⟨(B i).isEmpty, false, 1, (B i).map cI⟩)]⟩)
    (fun i => i ≤ Q.length) (fun i => Q.length - i) 0 (Nat.zero_le _) ?_ ?_
   ·rw [hB0]
    exact ZW
   ·intro i hi
    have w1 : IntKind.i64.wrap ((i : Int) + 1) = ((i + 1 : Nat) : Int) := by rw [wrap_id (by omega) (by omega)]; rfl
    have hBi := hBl i
    (repeat refine ZQ ?_); refine ZR fun K hK => ?_; simp (maxSteps := 1000000) [ty42, ty3]; refine hK _ ?_; clear hK K
    (repeat refine ZQ ?_); refine ZC (fun hc2 => ?_) (fun hc2 => ?_)
    ·simp at hc2
     obtain ⟨hp1, hp2⟩ := h4 _ (List.getElem_mem hc2)
     have cu := q_restore49 false false Q[i] hp1 hp2
     rw [rest_eq] at cu
     have hst := hBs i hc2
     refine awp_skip ?_
     (repeat refine ZQ ?_); refine awp_block ?_
     cases hu : unpackB Q[i] with
     | none =>
      rw [hu] at cu hst
      simp only [Option.isNone_none, if_true] at hst
      simp only [encRs, noR] at cu
      generalize B i = X at *
      (repeat refine ZQ ?_); refine ZR fun K hK => ?_; simp (maxSteps := 1000000) [ty42, ty22, hc2]
      refine ZP (cu) ?_; simp (maxSteps := 1000000) [ty22, ty33, ty4]
      refine hK _ ?_; clear hK K
      (repeat refine ZQ ?_); refine ZR fun K hK => ?_; simp (maxSteps := 1000000) [ty4]; refine hK _ ?_; clear hK K
      (repeat refine ZQ ?_); refine ZC (fun hd => ?_) (fun hd => ?_)
      ·clear hd
       (repeat refine ZQ ?_); refine ZR fun K hK => ?_; simp (maxSteps := 1000000) [ty33, ty3]
       refine ⟨by omega, ?_⟩
       refine hK _ ?_; clear hK K
       (repeat refine ZQ ?_); refine ZR fun K hK => ?_; simp (maxSteps := 1000000) [ty3, w1]; refine hK _ ?_; clear hK K; (first | show AWP _ _ _ _ _ | show ∃ _, _ | skip)
       refine ⟨i + 1, by omega, by omega, ?_⟩
       rw [hst]
       refine wk_shape2 [(6, 38, .live ⟨(X ++ [(i : Int)]).isEmpty, false, 1, (X ++ [(i : Int)]).map cI⟩)] (by first | rfl | (simp only [if_pos, if_true]; rfl)) (shp0 hσ (by simp) (by simp) ?_) ?_
       ·simp [SlotOk] <;> (repeat' (first | (refine RowsOk.same ?_; simp [purel, C.isPure]; done) | (refine rowsCons ?_; simp [mtl, mtc, mT, mH, C.isPure, purel]; done) | (refine rowsCons ?_; simp [mtl, mtc, mT, mH, C.isPure, purel]) | refine And.intro ?_ ?_))
       ·simp [mtc, mtl, mT, C.isPure, purel] <;> (try simp (disch := omega) [wrap_id]) <;> (try omega)
      ·simp at hd
     | some u =>
      obtain ⟨T1, M1⟩ := u
      rw [hu] at cu hst
      simp only [Option.isNone_some, Bool.false_eq_true, if_false] at hst
      simp only [encRs] at cu
      generalize B i = X at *
      (repeat refine ZQ ?_); refine ZR fun K hK => ?_; simp (maxSteps := 1000000) [ty42, ty22, hc2]
      refine ZP (cu) ?_; simp (maxSteps := 1000000) [ty22, ty33, ty4]
      refine hK _ ?_; clear hK K
      (repeat refine ZQ ?_); refine ZR fun K hK => ?_; simp (maxSteps := 1000000) [ty4]; refine hK _ ?_; clear hK K
      (repeat refine ZQ ?_); refine ZC (fun hd => ?_) (fun hd => ?_)
      ·simp at hd
      ·clear hd
       refine awp_skip ?_
       (repeat refine ZQ ?_); refine ZR fun K hK => ?_; simp (maxSteps := 1000000) [ty3, w1]; refine hK _ ?_; clear hK K; (first | show AWP _ _ _ _ _ | show ∃ _, _ | skip)
       refine ⟨i + 1, by omega, by omega, ?_⟩
       rw [hst]
       exact ZW
    ·simp at hc2
     (repeat refine ZQ ?_); refine awp_exit ?_; (first | show AWP _ _ _ _ _ | show ∃ _, _ | skip)
     have hin : i = Q.length := by omega
     subst hin
     generalize B Q.length = X at *
     have htX : List.take X.length (X.map cI) = X.map cI := List.take_of_length_le (by simp)
     (repeat refine ZQ ?_); refine ZR fun K hK => ?_; simp (maxSteps := 1000000) [ty33, ty26]; refine hK _ ?_; clear hK K
     (repeat refine ZQ ?_); refine awp_ret ?_; refine And.intro (Or.inr rfl) ?_
     simp [retC, resC, viewC, mapO, htX]

set_option maxHeartbeats 8000000
set_option maxRecDepth 20000

-- law CardsRead

theorem cut_len2 (l : List UInt8) : ((cutB l).getD []).length ≤ l.length + 1 := by
 unfold cutB
 split
 ·simp
 ·split
  ·simp
  ·simp only [Option.getD_some, cutP, List.length_map]
   have h2 := trimSuffix_len l [10, 10]
   have h3 := split_len [10, 10] (Lib.trimSuffix l [10, 10]) (by simp)
   omega
theorem uM_len (p : Pk) : (uM p).length ≤ 8 := by
 unfold uM
 cases h : unpackB p.l with
 | none => simp
 | some u => obtain ⟨T, M⟩ := u; have := unpack_bd h; simp; omega
theorem rdL_len (P : List Pk) : ∀ i, (rdL P i).length ≤ 8 * i
 | 0 => by simp [rdL]
 | i + 1 => by
  have h1 := rdL_len P i
  have h2 := uM_len (P.getD i ⟨false, false, []⟩)
  rw [rdL, List.length_append, List.length_map]
  omega


theorem law7 (l : List UInt8) : Pure Tryz.prog 7 [encS l] (.bool true) := by
 have cF := l_far25 true true [] l (S l) rfl
 have cW := l_works11
 cases hf : farB [] l with
 | true =>
  rw [hf] at cF
  refine ZF (fn := Tryz.f7) [.tmp 2] ⟨Tryz.func7, rfl, by kernel_rfl⟩ fun x hx hσ => ?_
  (repeat refine ZQ ?_); refine ZR fun K hK => ?_; simp (maxSteps := 1000000) [ty4]; refine hK _ ?_; clear hK K
  (repeat refine ZQ ?_); refine ZR fun K hK => ?_; simp (maxSteps := 1000000) [ty22, ty9]
  refine ZP (cF) ?_; simp (maxSteps := 1000000) [ty4]
  refine hK _ ?_; clear hK K
  (repeat refine ZQ ?_); refine ZC (fun hd => ?_) (fun hd => ?_)
  ·clear hd
   (repeat refine ZQ ?_); refine ZR fun K hK => ?_; simp (maxSteps := 1000000) [ty4]
   refine ZP (cW) ?_; simp (maxSteps := 1000000) [ty4]
   refine hK _ ?_; clear hK K
   (repeat refine ZQ ?_); refine awp_ret ?_; refine And.intro (Or.inr rfl) ?_
   simp [retC, resC, viewC, mapO]
  ·simp at hd
 | false =>
  rw [hf] at cF
  obtain ⟨_, _, h3⟩ := far_not hf
  have c16 := read16 l (by omega)
  have c26 := q_read26 l (by omega)
  have c17 := bad17 l (by omega)
  have c27 := q_bad27 l (by omega)
  have hTl : (rTx l).length ≤ 100000 ∨ rE l ≠ 0 := by
   by_cases h0 : rE l = 0
   ·left
    unfold rE at h0
    split at h0
    ·unfold readE at h0
     split at h0
     ·split at h0
      ·cases h0
      ·rename_i h1
       unfold rTx
       simp at h1; omega
     ·cases h0
    ·cases h0
   ·exact .inr h0
  have hBl : (bdL l).length ≤ 100000 := by
   have h1 := badTo_len (rP l) (rP l).length
   have h2 := cut_len (l := l) (by omega)
   have e0 : (cutB l).getD [] = rP l := rfl
   rw [e0] at h2
   unfold bdL; omega
  have hMl : (rLo l).length ≤ 100000 := by
   have h1 := rdL_len (rP l) (rP l).length
   have h2 := cut_len2 l
   have e0 : (cutB l).getD [] = rP l := rfl
   rw [e0] at h2
   unfold rLo; omega
  generalize rTx l = T at *
  generalize rLo l = M at *
  generalize bdL l = B at *
  generalize (cutB l).isSome = o at *
  by_cases h0 : rE l = 0
  ·rw [h0] at c16 c26
   have hT2 : T.length ≤ 100000 := by
    rcases hTl with h | h
    ·exact h
    ·exact absurd h0 h
   have c18 := l_sameT18 T.isEmpty false T.isEmpty false T T hT2
   have c19 := l_sameI19 M.isEmpty false M.isEmpty false M M hMl
   rw [beq_self_eq_true] at c18 c19
   simp only [encRd, if_true] at c16 c26
   cases o
   ·have c19b := l_sameI19 true true true true [] [] (by simp)
    rw [beq_self_eq_true] at c19b
    simp only [encBd, Bool.false_eq_true, if_false] at c17 c27
    refine ZF (fn := Tryz.f7) [.tmp 2] ⟨Tryz.func7, rfl, by kernel_rfl⟩ fun x hx hσ => ?_
    (repeat refine ZQ ?_); refine ZR fun K hK => ?_; simp (maxSteps := 1000000) [ty4]; refine hK _ ?_; clear hK K
    (repeat refine ZQ ?_); refine ZR fun K hK => ?_; simp (maxSteps := 1000000) [ty22, ty9]
    refine ZP (cF) ?_; simp (maxSteps := 1000000) [ty4]
    refine hK _ ?_; clear hK K
    (repeat refine ZQ ?_); refine ZC (fun hd => ?_) (fun hd => ?_)
    ·simp at hd
    ·clear hd
     refine awp_skip ?_
     (repeat refine ZQ ?_); refine ZR fun K hK => ?_; simp (maxSteps := 1000000) [ty9]
     refine ZP (c16) ?_; simp (maxSteps := 1000000) [ty22, ty33, ty26]
     refine hK _ ?_; clear hK K
     (repeat refine ZQ ?_); refine ZR fun K hK => ?_; simp (maxSteps := 1000000) [ty9]
     refine ZP (c26) ?_; simp (maxSteps := 1000000) [ty22, ty33, ty26]
     refine hK _ ?_; clear hK K
     (repeat refine ZQ ?_); refine ZR fun K hK => ?_; simp (maxSteps := 1000000) [ty9]
     refine ZP (c17) ?_; simp (maxSteps := 1000000) [ty33, ty26]
     refine hK _ ?_; clear hK K
     (repeat refine ZQ ?_); refine ZR fun K hK => ?_; simp (maxSteps := 1000000) [ty9]
     refine ZP (c27) ?_; simp (maxSteps := 1000000) [ty33, ty26]
     refine hK _ ?_; clear hK K
     (repeat refine ZQ ?_); refine ZR fun K hK => ?_; simp (maxSteps := 1000000) [ty22, ty33, ty26, ty4]
     refine ZP (c18) ?_; simp (maxSteps := 1000000) [ty22, ty33, ty26, ty4]
     refine ZP (c19) ?_; simp (maxSteps := 1000000) [ty22, ty33, ty26, ty4]
     refine ZP (c19b) ?_; simp (maxSteps := 1000000) [ty22, ty33, ty26, ty4]
     refine ZP (cW) ?_; simp (maxSteps := 1000000) [ty22, ty33, ty26, ty4]
     refine hK _ ?_; clear hK K
     (repeat refine ZQ ?_); refine awp_ret ?_; refine And.intro (Or.inr rfl) ?_
     simp [retC, resC, viewC, mapO]
   ·have c19b := l_sameI19 B.isEmpty false B.isEmpty false B B hBl
    rw [beq_self_eq_true] at c19b
    simp only [encBd, if_true] at c17 c27
    refine ZF (fn := Tryz.f7) [.tmp 2] ⟨Tryz.func7, rfl, by kernel_rfl⟩ fun x hx hσ => ?_
    (repeat refine ZQ ?_); refine ZR fun K hK => ?_; simp (maxSteps := 1000000) [ty4]; refine hK _ ?_; clear hK K
    (repeat refine ZQ ?_); refine ZR fun K hK => ?_; simp (maxSteps := 1000000) [ty22, ty9]
    refine ZP (cF) ?_; simp (maxSteps := 1000000) [ty4]
    refine hK _ ?_; clear hK K
    (repeat refine ZQ ?_); refine ZC (fun hd => ?_) (fun hd => ?_)
    ·simp at hd
    ·clear hd
     refine awp_skip ?_
     (repeat refine ZQ ?_); refine ZR fun K hK => ?_; simp (maxSteps := 1000000) [ty9]
     refine ZP (c16) ?_; simp (maxSteps := 1000000) [ty22, ty33, ty26]
     refine hK _ ?_; clear hK K
     (repeat refine ZQ ?_); refine ZR fun K hK => ?_; simp (maxSteps := 1000000) [ty9]
     refine ZP (c26) ?_; simp (maxSteps := 1000000) [ty22, ty33, ty26]
     refine hK _ ?_; clear hK K
     (repeat refine ZQ ?_); refine ZR fun K hK => ?_; simp (maxSteps := 1000000) [ty9]
     refine ZP (c17) ?_; simp (maxSteps := 1000000) [ty33, ty26]
     refine hK _ ?_; clear hK K
     (repeat refine ZQ ?_); refine ZR fun K hK => ?_; simp (maxSteps := 1000000) [ty9]
     refine ZP (c27) ?_; simp (maxSteps := 1000000) [ty33, ty26]
     refine hK _ ?_; clear hK K
     (repeat refine ZQ ?_); refine ZR fun K hK => ?_; simp (maxSteps := 1000000) [ty22, ty33, ty26, ty4]
     refine ZP (c18) ?_; simp (maxSteps := 1000000) [ty22, ty33, ty26, ty4]
     refine ZP (c19) ?_; simp (maxSteps := 1000000) [ty22, ty33, ty26, ty4]
     refine ZP (c19b) ?_; simp (maxSteps := 1000000) [ty22, ty33, ty26, ty4]
     refine ZP (cW) ?_; simp (maxSteps := 1000000) [ty22, ty33, ty26, ty4]
     refine hK _ ?_; clear hK K
     (repeat refine ZQ ?_); refine awp_ret ?_; refine And.intro (Or.inr rfl) ?_
     simp [retC, resC, viewC, mapO]
  ·have c18 := l_sameT18 true true true true [] [] (by simp)
   have c19 := l_sameI19 true true true true [] [] (by simp)
   rw [beq_self_eq_true] at c18 c19
   simp only [encRd, if_neg h0] at c16 c26
   generalize rE l = e at *
   cases o
   ·have c19b := l_sameI19 true true true true [] [] (by simp)
    rw [beq_self_eq_true] at c19b
    simp only [encBd, Bool.false_eq_true, if_false] at c17 c27
    refine ZF (fn := Tryz.f7) [.tmp 2] ⟨Tryz.func7, rfl, by kernel_rfl⟩ fun x hx hσ => ?_
    (repeat refine ZQ ?_); refine ZR fun K hK => ?_; simp (maxSteps := 1000000) [ty4]; refine hK _ ?_; clear hK K
    (repeat refine ZQ ?_); refine ZR fun K hK => ?_; simp (maxSteps := 1000000) [ty22, ty9]
    refine ZP (cF) ?_; simp (maxSteps := 1000000) [ty4]
    refine hK _ ?_; clear hK K
    (repeat refine ZQ ?_); refine ZC (fun hd => ?_) (fun hd => ?_)
    ·simp at hd
    ·clear hd
     refine awp_skip ?_
     (repeat refine ZQ ?_); refine ZR fun K hK => ?_; simp (maxSteps := 1000000) [ty9]
     refine ZP (c16) ?_; simp (maxSteps := 1000000) [ty22, ty33, ty26]
     refine hK _ ?_; clear hK K
     (repeat refine ZQ ?_); refine ZR fun K hK => ?_; simp (maxSteps := 1000000) [ty9]
     refine ZP (c26) ?_; simp (maxSteps := 1000000) [ty22, ty33, ty26]
     refine hK _ ?_; clear hK K
     (repeat refine ZQ ?_); refine ZR fun K hK => ?_; simp (maxSteps := 1000000) [ty9]
     refine ZP (c17) ?_; simp (maxSteps := 1000000) [ty33, ty26]
     refine hK _ ?_; clear hK K
     (repeat refine ZQ ?_); refine ZR fun K hK => ?_; simp (maxSteps := 1000000) [ty9]
     refine ZP (c27) ?_; simp (maxSteps := 1000000) [ty33, ty26]
     refine hK _ ?_; clear hK K
     (repeat refine ZQ ?_); refine ZR fun K hK => ?_; simp (maxSteps := 1000000) [ty22, ty33, ty26, ty4]
     refine ZP (c18) ?_; simp (maxSteps := 1000000) [ty22, ty33, ty26, ty4]
     refine ZP (c19) ?_; simp (maxSteps := 1000000) [ty22, ty33, ty26, ty4]
     refine ZP (c19b) ?_; simp (maxSteps := 1000000) [ty22, ty33, ty26, ty4]
     refine ZP (cW) ?_; simp (maxSteps := 1000000) [ty22, ty33, ty26, ty4]
     refine hK _ ?_; clear hK K
     (repeat refine ZQ ?_); refine awp_ret ?_; refine And.intro (Or.inr rfl) ?_
     simp [retC, resC, viewC, mapO]
   ·have c19b := l_sameI19 B.isEmpty false B.isEmpty false B B hBl
    rw [beq_self_eq_true] at c19b
    simp only [encBd, if_true] at c17 c27
    refine ZF (fn := Tryz.f7) [.tmp 2] ⟨Tryz.func7, rfl, by kernel_rfl⟩ fun x hx hσ => ?_
    (repeat refine ZQ ?_); refine ZR fun K hK => ?_; simp (maxSteps := 1000000) [ty4]; refine hK _ ?_; clear hK K
    (repeat refine ZQ ?_); refine ZR fun K hK => ?_; simp (maxSteps := 1000000) [ty22, ty9]
    refine ZP (cF) ?_; simp (maxSteps := 1000000) [ty4]
    refine hK _ ?_; clear hK K
    (repeat refine ZQ ?_); refine ZC (fun hd => ?_) (fun hd => ?_)
    ·simp at hd
    ·clear hd
     refine awp_skip ?_
     (repeat refine ZQ ?_); refine ZR fun K hK => ?_; simp (maxSteps := 1000000) [ty9]
     refine ZP (c16) ?_; simp (maxSteps := 1000000) [ty22, ty33, ty26]
     refine hK _ ?_; clear hK K
     (repeat refine ZQ ?_); refine ZR fun K hK => ?_; simp (maxSteps := 1000000) [ty9]
     refine ZP (c26) ?_; simp (maxSteps := 1000000) [ty22, ty33, ty26]
     refine hK _ ?_; clear hK K
     (repeat refine ZQ ?_); refine ZR fun K hK => ?_; simp (maxSteps := 1000000) [ty9]
     refine ZP (c17) ?_; simp (maxSteps := 1000000) [ty33, ty26]
     refine hK _ ?_; clear hK K
     (repeat refine ZQ ?_); refine ZR fun K hK => ?_; simp (maxSteps := 1000000) [ty9]
     refine ZP (c27) ?_; simp (maxSteps := 1000000) [ty33, ty26]
     refine hK _ ?_; clear hK K
     (repeat refine ZQ ?_); refine ZR fun K hK => ?_; simp (maxSteps := 1000000) [ty22, ty33, ty26, ty4]
     refine ZP (c18) ?_; simp (maxSteps := 1000000) [ty22, ty33, ty26, ty4]
     refine ZP (c19) ?_; simp (maxSteps := 1000000) [ty22, ty33, ty26, ty4]
     refine ZP (c19b) ?_; simp (maxSteps := 1000000) [ty22, ty33, ty26, ty4]
     refine ZP (cW) ?_; simp (maxSteps := 1000000) [ty22, ty33, ty26, ty4]
     refine hK _ ?_; clear hK K
     (repeat refine ZQ ?_); refine awp_ret ?_; refine And.intro (Or.inr rfl) ?_
     simp [retC, resC, viewC, mapO]

end Go.Proofs.YtgnpcijgdhjfpaaGreatDoor

/- What comes in, as data; and how a law's statement follows from a contract of data. No condition. -/
namespace Go.Abs
open Go.ChangeShapes Go.WideShapes Go.ChangeAt Go.RowKit

/-- The make of a cell. -/
inductive Sh where
  | int (k : IntKind)
  | bool
  | str
  | sl (l : List Sh)

mutual
/-- A value of a make. -/
def Fit : Sh → C → Prop
  | .int k, c => ∃ n, c = .int k n ∧ (Lit.int k n).wf = true
  | .bool, c => ∃ b, c = .bool b
  | .str, c => ∃ s : ByteArray, c = .str s ∧ s.size ≤ maxLen
  | .sl l, c => ∃ nl rows, c = .sl nl false rows ∧ (nl = true → rows = []) ∧ rows.length ≤ maxLen ∧ ∀ row ∈ rows, FitL l row
def FitL : List Sh → List C → Prop
  | [], m => m = []
  | s :: l, m => ∃ c r, m = c :: r ∧ Fit s c ∧ FitL l r
end

def shFs (P : Program) (g : TypeId → Option (List Sh)) : Nat → List Field → Option (List Sh)
 | _, [] => some []
 | o, f :: fs => match g f.type, shFs P g (o + P.cellsOf f.type) fs with
  | some l, some m => if f.offset = o ∧ l.length = P.cellsOf f.type then some (l ++ m) else none
  | _, _ => none

/-- The makes of a type's cells. -/
def shT (P : Program) : Nat → TypeId → Option (List Sh)
  | 0, _ => none
  | n + 1, t => match P.underlying t with
    | some (.int k) => some [.int k]
    | some .bool => some [.bool]
    | some .string => some [.str]
    | some (.slice e) => match shT P n e with
      | some l => if l.length = P.cellsOf e ∧ 0 < l.length then some [.sl l] else none
      | none => none
    | some (.struct fs) => match shFs P (shT P n) 0 fs.toList with
      | some l => if l.length = P.cellsOf t then some l else none
      | none => none
    | _ => none

theorem FitL.len : ∀ {l : List Sh} {m : List C}, FitL l m → m.length = l.length
 | [], m, h => by simp only [FitL] at h; subst h; rfl
 | s :: l, m, h => by
  simp only [FitL] at h
  obtain ⟨c, r, rfl, _, h⟩ := h
  simp [FitL.len h]

theorem FitL.append : ∀ {l l' : List Sh} {m m' : List C}, FitL l m → FitL l' m' → FitL (l ++ l') (m ++ m')
 | [], l', m, m', h, h' => by simp only [FitL] at h; subst h; exact h'
 | s :: l, l', m, m', h, h' => by
  simp only [FitL] at h
  obtain ⟨c, r, rfl, h1, h2⟩ := h
  simp only [List.cons_append, FitL]
  exact ⟨c, r ++ m', rfl, h1, h2.append h'⟩

def anyG : Nat → Prop := fun _ => True

/-- Cells that stand for values. -/
def OpL (W : World) (m : List C) (cs : List Value) : Prop := m.length = cs.length ∧ ∀ (i : Nat) (c : C), m[i]? = some c → PR anyG W c (cs[i]?.getD undef) ∧ c.cell = true

theorem exists_list {α : Type} {Q : Nat → α → Prop} : ∀ {n : Nat}, (∀ i, i < n → ∃ x, Q i x) → ∃ l : List α, l.length = n ∧ ∀ i x, l[i]? = some x → Q i x
 | 0, _ => ⟨[], rfl, by simp⟩
 | n + 1, h => by
  obtain ⟨l, h1, h2⟩ := exists_list (n := n) fun i hi => h i (by omega)
  obtain ⟨x, hx⟩ := h n (by omega)
  refine ⟨l ++ [x], by simp [h1], fun i y hy => ?_⟩
  rcases Nat.lt_or_ge i l.length with hlt | hge
  ·rw [List.getElem?_append_left hlt] at hy
   exact h2 i y hy
  ·rw [List.getElem?_append_right hge] at hy
   have : i = n := by
    have := (List.getElem?_eq_some_iff.1 hy).1
    simp at this; omega
   subst this
   rw [h1, Nat.sub_self] at hy
   simp at hy
   subst hy; exact hx

section
variable {H : Type} {enc : TypeId × Value → H} {P : Program} {W : World}

theorem spot_of {a : Addr} {q n : Nat} {v : Value} (h : W.cell? ((a.add q).add n) = some v) (h0 : q = 0 ∧ n = 0) : a.spot = none := by
 obtain ⟨rfl, rfl⟩ := h0
 simp only [Addr.add, if_true] at h
 unfold World.cell? at h
 split at h
 ·split at h
  ·simp at h
  ·rename_i hs
   cases hsp : a.spot with
   | none => rfl
   | some z => simp [hsp] at hs
 ·simp at h

theorem addr_full {a : Addr} (h : a.spot = none) (q n : Nat) : (a.add q).add n = ⟨a.block, a.off + (q + n), none⟩ := by
 obtain ⟨b, o, s⟩ := a
 simp only at h
 subst h
 rw [addr_add, addr_add, Nat.add_assoc]

theorem cells_at {a : Addr} {n : Nat} {cs : List Value} (h : W.cells? 0 a n = some cs) : cs.length = n ∧ ∀ i, i < n → W.cell? (a.add i) = cs[i]? := by
 unfold World.cells? at h
 rw [if_pos (Nat.zero_le _)] at h
 refine ⟨by simpa using mapM_some_length h, fun i hi => ?_⟩
 exact mapM_some_get h i i (by rw [List.getElem?_range hi])

theorem block_lt {a : Addr} {v : Value} (h : W.cell? a = some v) : a.block < W.heap.size := by
 unfold World.cell? at h
 split at h
 ·rename_i hh; exact (Array.getElem?_eq_some_iff.1 hh).1
 ·simp at h

/-- WHAT IS READ IS DATA. -/
theorem open_sound : ∀ (n : Nat) {fuel : Nat} {t : TypeId} {cs : List Value} {x : DataW H × List MemPlace} {shs : List Sh}, shT P n t = some shs → DataW.trod enc P W 0 (fun _ => true) true fuel t cs = some x →
    ∃ m, FitL shs m ∧ OpL W m cs
  | 0, _, _, _, _, _, h, _ => by simp [shT] at h
  | n + 1, fuel, t, cs, x, shs, h, ht => by
    unfold shT at h
    split at h
    · rename_i k hk
      simp only [Option.some.injEq] at h
      subst h
      obtain ⟨z, rfl, _, hw⟩ := DataW.trod_int hk ht
      refine ⟨[.int k z], ⟨_, _, rfl, ⟨z, rfl, hw⟩, rfl⟩, rfl, fun i c hi => ?_⟩
      cases i with
      | zero => simp at hi; subst hi; exact ⟨.int _ _, rfl⟩
      | succ i => simp at hi
    · rename_i hk
      simp only [Option.some.injEq] at h
      subst h
      obtain ⟨z, rfl, _⟩ := DataW.trod_bool hk ht
      refine ⟨[.bool z], ⟨_, _, rfl, ⟨z, rfl⟩, rfl⟩, rfl, fun i c hi => ?_⟩
      cases i with
      | zero => simp at hi; subst hi; exact ⟨.bool _, rfl⟩
      | succ i => simp at hi
    · rename_i hk
      simp only [Option.some.injEq] at h
      subst h
      obtain ⟨z, rfl, _, hz⟩ := DataW.trod_string hk ht
      refine ⟨[.str z], ⟨_, _, rfl, ⟨z, rfl, hz⟩, rfl⟩, rfl, fun i c hi => ?_⟩
      cases i with
      | zero => simp at hi; subst hi; exact ⟨.str _, rfl⟩
      | succ i => simp at hi
    · rename_i e hk
      split at h
      · rename_i l hl
        split at h
        · rename_i hc
          obtain ⟨hc1, hc2⟩ := hc
          simp only [Option.some.injEq] at h
          subst h
          have one : ∀ {nl : Bool} {rows : List (List C)} {v : Value}, cs = [v] → (nl = true → rows = []) → rows.length ≤ maxLen → (∀ row ∈ rows, FitL l row) → PR anyG W (.sl nl false rows) v → ∃ m, FitL [.sl l] m ∧ OpL W m cs := by
            intro nl rows v hcs h1 h2 h3 h4
            subst hcs
            refine ⟨[.sl nl false rows], ⟨_, _, rfl, ⟨nl, rows, rfl, h1, h2, h3⟩, rfl⟩, rfl, fun i c hi => ?_⟩
            cases i with
            | zero => simp at hi; subst hi; exact ⟨h4, rfl⟩
            | succ i => simp at hi
          rcases DataW.trod_slice hk ht with ⟨rfl, _⟩ | ⟨a, len, cap, elems, rest, q, _, rfl, _, hb, hlc, hcm, hel, hat, hsp, _⟩
          · exact one rfl (fun _ => rfl) (by simp) (by simp) (.slnil _)
          · obtain ⟨hrl, hrat⟩ := hsp rfl
            by_cases hcap : cap = 0
            · have : len = 0 := by omega
              subst this
              subst hcap
              exact one (nl := false) (rows := []) rfl (by simp) (by simp) (by simp) (.slemp _ _)
            · have hspot : a.spot = none ∧ a.block < W.heap.size := by
                by_cases h0 : len = 0
                · have := hrat 0 (by omega)
                  rw [List.getElem?_eq_getElem (by omega), Option.bind_eq_some_iff] at this
                  obtain ⟨cs0, g1, _⟩ := this
                  obtain ⟨g2, g3⟩ := cells_at g1
                  have g4 := g3 0 (by omega)
                  rw [List.getElem?_eq_getElem (by omega), h0] at g4
                  have hs := spot_of g4 ⟨by simp, rfl⟩
                  refine ⟨hs, ?_⟩
                  have := block_lt g4
                  rw [addr_full hs] at this
                  exact this
                · have := hat 0 (by omega)
                  rw [List.getElem?_eq_getElem (by omega), Option.bind_eq_some_iff] at this
                  obtain ⟨cs0, g1, _⟩ := this
                  obtain ⟨g2, g3⟩ := cells_at g1
                  have g4 := g3 0 (by omega)
                  rw [List.getElem?_eq_getElem (by omega)] at g4
                  have hs := spot_of g4 ⟨by simp, rfl⟩
                  refine ⟨hs, ?_⟩
                  have := block_lt g4
                  rw [addr_full hs] at this
                  exact this
              obtain ⟨hs, hlt⟩ := hspot
              have hrow : ∀ i, i < len → ∃ row, FitL l row ∧ ∀ (j : Nat) (c : C), row[j]? = some c → ∃ v, W.cell? ⟨a.block, a.off + (i * P.cellsOf e + j), none⟩ = some v ∧ PR anyG W c v ∧ c.cell = true := by
                intro i hi
                have h1 := hat i hi
                rw [List.getElem?_eq_getElem (by omega), Option.bind_eq_some_iff] at h1
                obtain ⟨cs0, g1, g2⟩ := h1
                obtain ⟨g3, g4⟩ := cells_at g1
                obtain ⟨row, r1, r2, r3⟩ := open_sound n hl g2
                refine ⟨row, r1, fun j c hj => ?_⟩
                have hjl : j < row.length := (List.getElem?_eq_some_iff.1 hj).1
                have g5 := g4 j (by omega)
                rw [addr_full hs] at g5
                obtain ⟨r4, r5⟩ := r3 j c hj
                rw [List.getElem?_eq_getElem (by omega)] at g5 r4
                exact ⟨_, g5, r4, r5⟩
              obtain ⟨rows, w1, w2⟩ := exists_list hrow
              refine one (nl := false) (rows := rows) rfl (by simp) (by omega) (fun row hr => ?_) ?_
              · obtain ⟨i, hi, rfl⟩ := List.getElem_of_mem hr
                exact (w2 i _ (List.getElem?_eq_getElem hi)).1
              · obtain ⟨b, o, s⟩ := a
                simp only at hs hlt
                subst hs
                refine .sl (sz := P.cellsOf e) (fun i j => (W.cell? ⟨b, o + (i * P.cellsOf e + j), none⟩).getD undef) trivial hlt w1.symm (by simp) (by omega) ?_ ?_ ?_ ?_
                · intro i row hi
                  rw [(w2 i row hi).1.len, hc1]
                · intro i row hi j c hj
                  obtain ⟨v, q1, q2, q3⟩ := (w2 i row hi).2 j c hj
                  simp only at q1
                  rw [q1]; rfl
                · intro i row hi j c hj
                  obtain ⟨v, q1, q2, q3⟩ := (w2 i row hi).2 j c hj
                  exact q3
                · intro i row hi j c hj
                  obtain ⟨v, q1, q2, q3⟩ := (w2 i row hi).2 j c hj
                  simp only at q1
                  rw [q1]; exact q2
        · simp at h
      · simp at h
    · rename_i fs hk
      split at h
      · rename_i l hl
        split at h
        · rename_i hc
          simp only [Option.some.injEq] at h
          subst h
          obtain ⟨xs, q, _, _, hlen, hxl, hf⟩ := DataW.trod_struct hk ht
          have go : ∀ (fl : List Field) (o : Nat) (shs : List Sh), shFs P (shT P n) o fl = some shs → (∀ f ∈ fl, ∃ y, DataW.trod enc P W 0 (fun _ => true) true q f.type ((cs.drop f.offset).take (P.cellsOf f.type)) = some y) → o + shs.length ≤ cs.length →
              ∃ m, FitL shs m ∧ ∀ (i : Nat) (c : C), m[i]? = some c → PR anyG W c (cs[o + i]?.getD undef) ∧ c.cell = true := by
            intro fl
            induction fl with
            | nil =>
              intro o shs h1 _ _
              simp only [shFs, Option.some.injEq] at h1
              subst h1
              exact ⟨[], rfl, by simp⟩
            | cons f fl ih =>
              intro o shs h1 h2 h3
              unfold shFs at h1
              split at h1
              · rename_i l1 l2 e1 e2
                split at h1
                · rename_i hc2
                  obtain ⟨ho, hl1⟩ := hc2
                  simp only [Option.some.injEq] at h1
                  subst h1
                  simp only [List.length_append] at h3
                  obtain ⟨y, hy⟩ := h2 f (by simp)
                  obtain ⟨m1, p1, p2, p3⟩ := open_sound n e1 hy
                  obtain ⟨m2, p4, p5⟩ := ih (o + P.cellsOf f.type) l2 e2 (fun g hg => h2 g (by simp [hg])) (by omega)
                  have hm1 := p1.len
                  refine ⟨m1 ++ m2, p1.append p4, fun i c hi => ?_⟩
                  rcases Nat.lt_or_ge i m1.length with hlt | hge
                  · rw [List.getElem?_append_left hlt] at hi
                    have := p3 i c hi
                    rw [List.getElem?_take_of_lt (by omega), List.getElem?_drop, ho] at this
                    exact this
                  · rw [List.getElem?_append_right hge] at hi
                    have := p5 _ c hi
                    rw [show o + P.cellsOf f.type + (i - m1.length) = o + i by omega] at this
                    exact this
                · simp at h1
              · simp at h1
          obtain ⟨m, m1, m2⟩ := go fs.toList 0 l hl (fun f hfm => by
            obtain ⟨i, hi, rfl⟩ := List.getElem_of_mem hfm
            have := hf i fs.toList[i] (by simp)
            rw [List.getElem?_eq_getElem (by simp at hi; omega)] at this
            exact ⟨_, this⟩) (by omega)
          exact ⟨m, m1, by rw [m1.len]; omega, fun i c hi => by have := m2 i c hi; rwa [Nat.zero_add] at this⟩
        · simp at h
      · simp at h
    · simp at h

def isAggT (P : Program) (t : TypeId) : Bool :=
 match P.underlying t with
 | some (.struct _) => true
 | _ => false

/-- What the parameters stand for. -/
def ArgsFit (P : Program) : List TypeId → List C → Prop
  | [], cs => cs = []
  | t :: ts, cs => ∃ shs m c r, cs = c :: r ∧ shT P 9 t = some shs ∧ FitL shs m ∧ (if isAggT P t then c = .agg m else m = [c]) ∧ ArgsFit P ts r

theorem open_args : ∀ {ts : List TypeId} {vs : List Value} {ds : List (DataW H)} {ps : List MemPlace}, DataW.TrodAll enc P W 0 (fun _ => true) true ts vs ds ps →
  (∀ (j : Nat) t v, ts[j]? = some t → vs[j]? = some v → ∃ base, Value.okWide P W .any base t v) → (ts.all fun t => (shT P 9 t).isSome) = true →
  ∃ cargs, ArgsFit P ts cargs ∧ cargs.length = vs.length ∧ ∀ (i : Nat) (c : C), cargs[i]? = some c → PR anyG W c (vs[i]?.getD undef)
 | [], [], [], _, _, _, _ => ⟨[], rfl, rfl, by simp⟩
 | t :: ts, v :: vs, d :: ds, ps, h, hv, hs => by
  obtain ⟨p, q, ⟨fuel, h1⟩, h2, _⟩ := h
  simp only [List.all_cons, Bool.and_eq_true] at hs
  obtain ⟨hs1, hs2⟩ := hs
  rw [Option.isSome_iff_exists] at hs1
  obtain ⟨shs, hs1⟩ := hs1
  obtain ⟨m, m1, m2, m3⟩ := open_sound 9 hs1 h1
  obtain ⟨cargs, a1, a2, a3⟩ := open_args h2 (fun j t' v' e1 e2 => hv (j + 1) t' v' (by simpa using e1) (by simpa using e2)) hs2
  obtain ⟨base, hok⟩ := hv 0 t v rfl rfl
  have fin : ∀ c, (if isAggT P t then c = .agg m else m = [c]) → PR anyG W c v → ∃ cargs, ArgsFit P (t :: ts) cargs ∧ cargs.length = (v :: vs).length ∧ ∀ (i : Nat) (c : C), cargs[i]? = some c → PR anyG W c ((v :: vs)[i]?.getD undef) := by
   intro c hc hp
   refine ⟨c :: cargs, ⟨shs, m, c, cargs, rfl, hs1, m1, hc, a1⟩, by simp [a2], fun i c' hi => ?_⟩
   cases i with
   | zero => simp at hi; subst hi; simpa using hp
   | succ i => simp at hi ⊢; exact a3 i c' hi
  by_cases hag : isAggT P t = true
  ·have hag0 := hag
   unfold isAggT at hag
   split at hag
   ·rename_i fs hfs
    obtain ⟨cs, rfl, hcs⟩ := okWide_struct hfs hok
    refine fin (.agg m) (by rw [if_pos hag0]) (.agg (by rw [m2]; simp [Value.cells]) fun i c hi => ?_)
    have := (m3 i c hi).1
    simpa [Value.cells] using this
   ·simp at hag
  ·have hag0 := hag
   have hone : ∃ sh, shs = [sh] ∧ oneCell v = true := by
    unfold isAggT at hag
    unfold shT at hs1
    split at hs1
    ·rename_i k hk
     obtain ⟨n, rfl⟩ := okWide_int hk hok
     exact ⟨_, (by simpa using hs1.symm), rfl⟩
    ·rename_i hk
     obtain ⟨n, rfl⟩ := okWide_bool hk hok
     exact ⟨_, (by simpa using hs1.symm), rfl⟩
    ·rename_i hk
     obtain ⟨n, rfl⟩ := okWide_string hk hok
     exact ⟨_, (by simpa using hs1.symm), rfl⟩
    ·rename_i e hk
     obtain ⟨a, l, cp, rfl⟩ := okWide_slice hk hok
     split at hs1
     ·split at hs1
      ·exact ⟨_, (by simpa using hs1.symm), rfl⟩
      ·simp at hs1
     ·simp at hs1
    ·rename_i fs hk
     rw [hk] at hag; simp at hag
    ·simp at hs1
   obtain ⟨sh, rfl, hov⟩ := hone
   have hm := m1.len
   have hm1 : m.length = 1 := hm
   obtain ⟨c, rfl⟩ := List.length_eq_one_iff.1 hm1
   refine fin c (by rw [if_neg hag0]) ?_
   have := (m3 0 c rfl).1
   rw [cells_one hov] at this
   simpa using this
 | [], _ :: _, _, _, h, _, _ => h.elim
 | [], [], _ :: _, _, h, _, _ => h.elim
 | _ :: _, [], _, _, h, _, _ => h.elim
 | _ :: _, _ :: _, [], _, h, _, _ => h.elim

/-- No slice of things without size. -/
def noEmptyB (P : Program) : Bool := (List.range P.types.size).all fun t => match P.underlying t with
  | some (.slice e) => decide (0 < P.cellsOf e)
  | _ => true

theorem same_of {W' : World} (g : Grew W W') {p : MemPlace} (h : p.block < W.heap.size) : W.sameAt W' p := by
 cases p with
 | cell b off =>
  show W'.cell? _ = W.cell? _
  unfold World.cell?
  rw [g.heap b h]
 | map b => exact g.heap b h

theorem shut_args {W' : World} (hl : laidOutB P = true) (hm : mapsRowed P = true) (hz : noEmptyB P = true) (g : Grew W W') {sp : Nat → Bool} : ∀ {ts : List TypeId} {vs : List Value} {ds : List (DataW H)} {ps : List MemPlace},
  (ts.all fun t => decide (t < P.types.size)) = true → DataW.TrodAll enc P W 0 (fun _ => true) true ts vs ds ps → (∀ p ∈ ps, p.block < W.heap.size) → (∀ p ∈ ps, sp p.block = true) → DataW.TrodAll enc P W' 0 sp true ts vs ds ps
 | [], [], [], _, _, h, _, _ => h
 | t :: ts, v :: vs, d :: ds, ps, ht, h, hb, hs => by
  obtain ⟨p, q, ⟨fuel, h1⟩, h2, rfl⟩ := h
  simp only [List.all_cons, Bool.and_eq_true, decide_eq_true_eq] at ht
  refine ⟨p, q, ⟨fuel, ?_⟩, shut_args hl hm hz g ht.2 h2 (fun r hr => hb r (by simp [hr])) (fun r hr => hs r (by simp [hr])), rfl⟩
  refine DataW.trod_stays (T := (· < P.types.size)) (kids_rows hl hm) (fun {t e} h3 h4 => ?_) (fun h => by simp at h) ht.1 h1 (fun r hr => same_of g (hb r (by simp; exact .inl hr))) (fun r hr => hs r (by simp; exact .inl hr))
  unfold noEmptyB at hz
  rw [List.all_eq_true] at hz
  have := hz t (by simpa using h3)
  rw [h4] at this
  simpa using this
 | [], _ :: _, _, _, _, h, _, _ => h.elim
 | [], [], _ :: _, _, _, h, _, _ => h.elim
 | _ :: _, [], _, _, _, h, _, _ => h.elim
 | _ :: _, _ :: _, [], _, _, h, _, _ => h.elim

theorem kept_of {W' : World} (g : Grew W W') (may : MemPlace → Prop) : W.keptBut W' may := by
 refine ⟨g.os, g.output, fun i hi => ?_⟩
 rw [g.heap i hi]
 cases h : W.heap[i]? with
 | none => trivial
 | some o => cases o <;> simp

/-- A LAW's STATEMENT, from a contract of data. -/
theorem law_contract {f : FuncId} {fn : Func} {s : ChangeSpec} {tb : TypeId} (hrt : fn.resultTypes = #[tb]) (htb : P.underlying tb = some .bool) (hvars : s.vars = [])
    (hspec : ∀ (ds : List (DataW H)), ds.length = fn.params.toList.length → s.fn H ds = { results := [.lit (.bool true)], args := ds })
    (hl : laidOutB P = true) (hm : mapsRowed P = true) (hz : noEmptyB P = true) (ht : (fn.params.toList.all fun t => decide (t < P.types.size)) = true) (hsh : (fn.params.toList.all fun t => (shT P 9 t).isSome) = true)
    (hcall : ∀ cargs, ArgsFit P fn.params.toList cargs → Pure P f cargs (.bool true))
    (W : World) (hgk : Gk P W) (base : Nat) (args : Array Value) (ds gs : List (DataW H)) (before : List MemPlace) (hval : ∀ (j : Nat) t v, fn.params[j]? = some t → args[j]? = some v → Value.okWide P W .any base t v)
    (hW : DataW.Whole enc P fn.params.toList s.vars false W args.toList ds gs before) :
    Calls P f args W fun e W' => ∃ v, e = .returned v ∧ s.post enc P fn false true false false W args v W' := by
  have hW' := hW
  obtain ⟨p, q, hA, hV, rfl, hfz, hnd⟩ := hW
  rw [hvars] at hV
  obtain ⟨rfl, rfl⟩ := trodVars_none hV
  obtain ⟨cargs, c1, c2, c3⟩ := open_args hA (fun j t v e1 e2 => ⟨base, hval j t v (by simpa using e1) (by simpa using e2)⟩) hsh
  have hlen : ds.length = fn.params.toList.length := by
    have : ∀ {ts : List TypeId} {vs : List Value} {ds : List (DataW H)} {ps : List MemPlace}, DataW.TrodAll enc P W 0 (fun _ => true) true ts vs ds ps → ds.length = ts.length := by
      intro ts
      induction ts with
      | nil => intro vs ds ps h; cases vs <;> cases ds <;> first | rfl | exact h.elim
      | cons t ts ih =>
        intro vs ds ps h
        cases vs with
        | nil => exact h.elim
        | cons v vs =>
          cases ds with
          | nil => exact h.elim
          | cons d ds =>
            obtain ⟨_, _, _, h2, _⟩ := h
            simp [ih h2]
    exact this hA
  refine ((hcall cargs c1).calls anyG W args hgk ⟨by simpa using c2.symm, fun i c hi => by have := c3 i c hi; simpa using this⟩).mono ?_
  rintro e W' ⟨v, rfl, hr, g⟩
  cases hr
  refine ⟨_, rfl, ds, [], p, [], p, [], ?_, ?_, ?_, ?_, kept_of g _, by simp⟩
  · simpa using hW'
  · rw [hspec (ds ++ []) (by simpa using hlen), hrt]
    refine ⟨[], [], ⟨1, ?_⟩, rfl, rfl⟩
    simp [DataW.trod, htb, Value.cells]
  · rw [hspec (ds ++ []) (by simpa using hlen)]
    simp only [List.append_nil]
    have hlt := hW'.lt
    exact shut_args hl hm hz g ht hA (fun r hr => hlt r (by simpa using hr)) (fun r hr => by simpa using hlt r (by simpa using hr))
  · rw [hvars, hspec (ds ++ []) (by simpa using hlen)]
    rfl
end
end Go.Abs

namespace Go.Proofs.YtgnpcijgdhjfpaaGreatDoor
open Go Go.Abs

set_option maxHeartbeats 2000000
set_option maxRecDepth 100000

-- cards: what comes in

theorem S_inv (s : ByteArray) : ∃ l, s = S l := ⟨s.data.toList, by simp [S]⟩

theorem arg_one {t : TypeId} {s : List Sh} (hs : shT Tryz.prog 9 t = some s) (ha : isAggT Tryz.prog t = false) {cs : List C} {ts : List TypeId} (h : ArgsFit Tryz.prog (t :: ts) cs) : ∃ (c : C) (r : List C), cs = c :: r ∧ FitL s [c] ∧ ArgsFit Tryz.prog ts r := by
 simp only [ArgsFit] at h
 obtain ⟨shs, m, c, r, rfl, h1, h2, h3, h4⟩ := h
 rw [hs] at h1
 cases h1
 rw [ha] at h3
 simp only [Bool.false_eq_true, if_false] at h3
 subst h3
 exact ⟨c, r, rfl, h2, h4⟩

theorem sh9 : shT Tryz.prog 9 9 = some [.str] := by kernel_rfl
theorem ag9 : isAggT Tryz.prog 9 = false := by kernel_rfl
theorem fit_str {row : List C} (h : FitL [.str] row) : ∃ l, row = cS l := by
 simp only [FitL, Fit] at h
 obtain ⟨c, r, rfl, ⟨s, rfl, _⟩, rfl⟩ := h
 obtain ⟨l, rfl⟩ := S_inv s
 exact ⟨l, rfl⟩

theorem argS {cs : List C} {ts : List TypeId} (h : ArgsFit Tryz.prog (9 :: ts) cs) : ∃ l r, cs = encS l :: r ∧ ArgsFit Tryz.prog ts r := by
 obtain ⟨c, r, rfl, h1, h2⟩ := arg_one sh9 ag9 h
 obtain ⟨l, e⟩ := fit_str h1
 cases e
 exact ⟨l, r, rfl, h2⟩

theorem argEnd {cs : List C} (h : ArgsFit Tryz.prog [] cs) : cs = [] := h

end Go.Proofs.YtgnpcijgdhjfpaaGreatDoor

/- The facts of the program that every statement's join asks. No condition. -/
namespace Go.Proofs.YtgnpcijgdhjfpaaGreatDoor
open Go Go.Abs
open Go.ChangeShapes Go.WideShapes Go.ChangeAt Go.RowKit
set_option maxRecDepth 100000

theorem J.own : ownKnob Tryz.prog.godebug = none := by kernel_rfl
theorem J.laid : laidOutB Tryz.prog = true := by kernel_rfl
theorem J.maps : mapsRowed Tryz.prog = true := by kernel_rfl
theorem J.sized : noEmptyB Tryz.prog = true := by kernel_rfl
theorem J.ub : Tryz.prog.underlying 4 = some .bool := by kernel_rfl
theorem J.bld : Tryz.prog.buildable 3 = true := by kernel_rfl
theorem J.max0 : ((begin Tryz.prog (fun _ _ => 0) default).world.heap[0]?).bind Obj.row? = some (#[.int .i64 0], 3) := by kernel_rfl
theorem J.nglob : 0 < Tryz.prog.globals.size := of_decide_eq_true (by kernel_rfl)
theorem J.ct3 : Tryz.prog.cellTypes Tryz.prog.depth 3 = some [3] := by kernel_rfl
theorem J.ui : Tryz.prog.underlying 3 = some (.int .i64) := by kernel_rfl

/-- What the walks ask of a world. -/
theorem J.gk {W : World} (h : W.ShapedOpen Tryz.prog) : Gk Tryz.prog W := by
  intro g hg
  obtain rfl : 0 = g := Option.some.inj hg
  exact cell_of_shapedOpen_int h J.nglob J.max0 rfl J.bld J.ct3 J.ui

/-- A world for the witness: the settled one, with what the initialisers lay in the listed variables. -/
noncomputable def laidAt (b : Nat) (cs : Array Value) (h : Array Obj) : Array Obj := h.modify b fun
  | .cells _ t frozen => .cells cs t frozen
  | o => o
def acR : List Int := [128, 191, 160, 191, 128, 159, 144, 191, 128, 143, 0, 0, 0, 0, 0, 0, 0, 0, 0, 0, 0, 0, 0, 0, 0, 0, 0, 0, 0, 0, 0, 0]

noncomputable def laidWorld (os : Os) : World :=
 let w0 := World.holding Tryz.prog os ⟨#[], #[], []⟩
 { w0 with heap := laidAt 2 (acR.map (Value.int .u8)).toArray (laidAt 1 (Go.Pinned.utf8FirstZ.map fun (n : Nat) => Value.int .u8 n).toArray w0.heap) }
end Go.Proofs.YtgnpcijgdhjfpaaGreatDoor

