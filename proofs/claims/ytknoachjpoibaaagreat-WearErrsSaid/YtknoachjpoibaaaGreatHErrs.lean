/- For every input the law WearErrs returns true, and each argument reads afterwards as it read before. No condition. -/
import Derived.Test.YtknoachjpoibaaaGreatB6

set_option linter.unusedSimpArgs false
set_option linter.unusedVariables false
set_option linter.constructorNameAsVariable false

namespace Go.Proofs.YtknoachjpoibaaaGreat
open Go Go.Abs

set_option maxHeartbeats 8000000
set_option maxRecDepth 20000

-- a copy is the same instrument

theorem l_same39 (w : Ws) (hl : WsLen w) : Pure Tryz.prog 39 [encWs (copyW w), encWs w] (.bool true) := by
 have hlt := hl.vs
 obtain ⟨s, hs⟩ : ∃ s, s = copyW w := ⟨_, rfl⟩
 have hsw : s.w = w.w := by rw [hs]; rfl
 have hsg : s.gain = w.gain := by rw [hs]; rfl
 have hsa : s.last = w.last := by rw [hs]; rfl
 have hsd : s.drop = w.drop := by rw [hs]; rfl
 have hsr : s.wrong = w.wrong := by rw [hs]; rfl
 have hsl : s.vs.length = w.vs.length := by rw [hs]; simp [copyW]
 have hsy : ∀ i (h : i < w.vs.length), s.vs[i]'(by omega) = copyV w.vs[i] := fun i h => by subst hs; simp [copyW]
 rw [← hs]
 clear hs
 refine ZF (fn := Tryz.f39) [.tmp 4] ⟨Tryz.func39, rfl, by kernel_rfl⟩ fun x hx hσ => ?_
 (repeat refine ZQ ?_); refine ZR fun K hK => ?_; simp (maxSteps := 1000000) [ty28, ty4]; refine hK _ ?_; clear hK K; (first | show AWP _ _ _ _ _ | show ∃ _, _ | skip)
 have he := cIs_same w.w
 simp only [encI] at he
 (repeat refine ZQ ?_); refine ZR fun K hK => ?_; simp (maxSteps := 1000000) [ty28, ty25, ty26, ty3, fe25, de25, hsw, hsg, hsa, hsd, hsr, hsl, he]; refine hK _ ?_; clear hK K
 (repeat refine ZQ ?_); refine ZC (fun hd => ?_) (fun hd => ?_)
 ·simp at hd
 ·clear hd
  refine awp_skip ?_
  (repeat refine ZQ ?_); refine ZR fun K hK => ?_; simp (maxSteps := 1000000) [ty3]; refine hK _ ?_; clear hK K
  (repeat refine ZQ ?_); refine awp_block ?_
  refine awp_loop (fun i : Nat => ⟨ofL [(2, .ptr 2 13 0 0), (3, .ptr 3 13 0 0), (5, encI i)], stoT [(2, 2, .live (obWs s)), (3, 3, .live (obWs w))]⟩)
   (fun i => i ≤ w.vs.length) (fun i => w.vs.length - i) 0 (Nat.zero_le _) ?_ ?_
  ·refine wk_shape (shp0 hσ (by simp) (by simp) ?_) ?_
   ·simp [SlotOk, hsw, hsg, hsa, hsd, hsr] <;> (repeat' (first | (refine RowsOk.same ?_; simp [purel, C.isPure]; done) | (refine rowsCons ?_; simp [mtl, mtc, mT, mH, C.isPure, purel]; done) | (refine rowsCons ?_; simp [mtl, mtc, mT, mH, C.isPure, purel]) | refine And.intro ?_ ?_))
   ·simp [mtc, mtl, mT, C.isPure, purel, hsw, hsg, hsa, hsd, hsr] <;> (try simp (disch := omega) [wrap_id]) <;> (try omega)
  ·intro i hi
   (repeat refine ZQ ?_); refine ZR fun K hK => ?_; simp (maxSteps := 1000000) [ty28, ty26, ty3, hsl]; refine hK _ ?_; clear hK K
   (repeat refine ZQ ?_); refine ZC (fun hc => ?_) (fun hc => ?_)
   ·simp at hc
    refine awp_skip ?_
    (repeat refine ZQ ?_); refine awp_block ?_
    have hyi := hsy i hc
    have hci : i < s.vs.length := by omega
    have hln := hl.l _ (List.getElem_mem hc)
    have hwi : IntKind.i64.wrap ((i : Int) + 1) = ((i + 1 : Nat) : Int) := by rw [wrap_id (by omega) (by omega)]; rfl
    obtain ⟨v, hv⟩ : ∃ v, v = w.vs[i] := ⟨_, rfl⟩
    rw [← hv] at hyi hln
    simp only [copyV] at hyi
    have hlts := hln.ts
    have hltl := hln.l
    simp only [tiV] at hlts hltl
    have hlen0 : ((v.ts.length : Int) != (v.ts.length : Int)) = false := by simp
    (repeat refine ZQ ?_); refine ZD [2012, 10006, 1006, 1009] [0, 1, 2, 3, 4, 5, 6, 7, 8, 9, 10, 11, 12, 13] fun K hK => ?_; simp (maxSteps := 1000000) [ty28, ty26, ty53, ty3, hc, hci, hyi, ← hv]; refine hK _ ?_; clear hK K
    (repeat refine ZQ ?_); refine ZR fun K hK => ?_; simp (maxSteps := 1000000) [ty53, ty51, ty3]; refine hK _ ?_; clear hK K
    (repeat refine ZQ ?_); refine ZC (fun hd => ?_) (fun hd => ?_)
    ·simp at hd
    ·clear hd
     refine awp_skip ?_
     (repeat refine ZQ ?_); refine ZR fun K hK => ?_; simp (maxSteps := 1000000) [ty3]; refine hK _ ?_; clear hK K
     (repeat refine ZQ ?_); refine awp_block ?_
     refine awp_loop (fun j : Nat => ⟨ofL [(2, .ptr 2 13 0 0), (3, .ptr 3 13 0 0), (5, encI i), (6, .ptr 6 2 0 0), (7, .ptr 7 2 0 0), (8, encI j)], stoT [(2, 2, .live (obWs s)), (3, 3, .live (obWs w)), (6, 6, .live ⟨false, false, 2, [cVs ⟨v.day, v.ts.isEmpty, false, v.ts.map copyY⟩]⟩), (7, 7, .live ⟨false, false, 2, [cVs v]⟩)]⟩)
      (fun j => j ≤ v.ts.length) (fun j => v.ts.length - j) 0 (Nat.zero_le _) ?_ ?_
     ·exact ZW
     ·intro j hj
      (repeat refine ZQ ?_); refine ZR fun K hK => ?_; simp (maxSteps := 1000000) [ty53, ty51, ty3]; refine hK _ ?_; clear hK K
      (repeat refine ZQ ?_); refine ZC (fun hc2 => ?_) (fun hc2 => ?_)
      ·simp at hc2
       refine awp_skip ?_
       (repeat refine ZQ ?_); refine awp_block ?_
       have hwj : IntKind.i64.wrap ((j : Int) + 1) = ((j + 1 : Nat) : Int) := by rw [wrap_id (by omega) (by omega)]; rfl
       have hlj := hltl _ (List.getElem_mem hc2)
       obtain ⟨y, hy⟩ : ∃ y, y = v.ts[j] := ⟨_, rfl⟩
       rw [← hy] at hlj
       (repeat refine ZQ ?_); refine ZD [] [0, 1, 2, 3, 4, 5, 6, 7, 8, 9, 10, 11, 12, 13, 14, 15, 16, 17, 18, 19, 20, 21, 22, 23, 24, 25, 26, 27, 28, 29] fun K hK => ?_; simp (maxSteps := 1000000) [copyY, ty53, ty51, ty119, ty117, ty3, hc2, ← hy]; refine hK _ ?_; clear hK K
       (repeat refine ZQ ?_); refine ZC (fun hd => ?_) (fun hd => ?_)
       ·simp at hd
       ·clear hd
        refine awp_skip ?_
        (repeat refine ZQ ?_); refine ZR fun K hK => ?_; simp (maxSteps := 1000000) [ty3]; refine hK _ ?_; clear hK K
        (repeat refine ZQ ?_); refine awp_block ?_
        refine awp_loop (fun k : Nat => ⟨ofL [(2, .ptr 2 13 0 0), (3, .ptr 3 13 0 0), (5, encI i), (6, .ptr 6 2 0 0), (7, .ptr 7 2 0 0), (8, encI j), (9, encI k)], stoT [(2, 2, .live (obWs s)), (3, 3, .live (obWs w)), (6, 6, .live ⟨false, false, 2, [cVs ⟨v.day, v.ts.isEmpty, false, v.ts.map copyY⟩]⟩), (7, 7, .live ⟨false, false, 2, [cVs v]⟩)]⟩)
         (fun k => k ≤ y.l.length) (fun k => y.l.length - k) 0 (Nat.zero_le _) ?_ ?_
        ·exact ZW
        ·intro k hk
         (repeat refine ZQ ?_); refine ZR fun K hK => ?_; simp (maxSteps := 1000000) [copyY, ty53, ty51, ty119, ty117, ty3, hc2, ← hy]; refine hK _ ?_; clear hK K
         (repeat refine ZQ ?_); refine ZC (fun hc3 => ?_) (fun hc3 => ?_)
         ·simp at hc3
          refine awp_skip ?_
          (repeat refine ZQ ?_); refine awp_block ?_
          have he5 := eqI5 y.l[k]
          simp only [cWl, encI] at he5
          have hwk : IntKind.i64.wrap ((k : Int) + 1) = ((k + 1 : Nat) : Int) := by rw [wrap_id (by omega) (by omega)]; rfl
          (repeat refine ZQ ?_); refine ZD [] [0, 1, 2, 3, 4, 5, 6, 7, 8, 9, 10, 11, 12, 13, 14, 15, 16, 17, 18] fun K hK => ?_; simp (maxSteps := 1000000) [copyY, ty53, ty51, ty119, ty117, ty121, fe121, ty3, hc2, hc3, ← hy, he5]; refine hK _ ?_; clear hK K
          (repeat refine ZQ ?_); refine ZC (fun hd => ?_) (fun hd => ?_)
          ·simp at hd
          ·clear hd
           refine awp_skip ?_
           (repeat refine ZQ ?_); refine ZR fun K hK => ?_; simp (maxSteps := 1000000) [ty3]; refine hK _ ?_; clear hK K; (first | show AWP _ _ _ _ _ | show ∃ _, _ | skip)
           refine ⟨k + 1, by omega, by omega, ?_⟩
           rw [hwk]
           exact ZW
         ·simp at hc3
          (repeat refine ZQ ?_); refine awp_exit ?_
          (repeat refine ZQ ?_); refine ZR fun K hK => ?_; simp (maxSteps := 1000000) [ty3]; refine hK _ ?_; clear hK K; (first | show AWP _ _ _ _ _ | show ∃ _, _ | skip)
          refine ⟨j + 1, by omega, by omega, ?_⟩
          rw [hwj]
          exact ZW
      ·simp at hc2
       (repeat refine ZQ ?_); refine awp_exit ?_
       (repeat refine ZQ ?_); refine ZR fun K hK => ?_; simp (maxSteps := 1000000) [ty3]; refine hK _ ?_; clear hK K; (first | show AWP _ _ _ _ _ | show ∃ _, _ | skip)
       refine ⟨i + 1, by omega, by omega, ?_⟩
       rw [hwi]
       exact ZW
   ·simp at hc
    (repeat refine ZQ ?_); refine awp_exit ?_
    (repeat refine ZQ ?_); refine ZR fun K hK => ?_; simp (maxSteps := 1000000); refine hK _ ?_; clear hK K
    (repeat refine ZQ ?_); refine awp_ret ?_; refine And.intro (Or.inr rfl) ?_
    simp [retC, resC, viewC, mapO]

set_option maxHeartbeats 8000000

-- the reference's search over all gains

def allP (c : Co) : Nat → List Int → List (List Int)
 | 0, f => if isSoC c f then [f] else []
 | n + 1, f => if isSoC c f then (seqI (-c.gain) c.gain).flatMap fun g => allP c n (f ++ [g]) else []

theorem isSoC_prefix {c : Co} {f l : List Int} (h : f <+: l) (hl : isSoC c l = true) : isSoC c f = true := by
 obtain ⟨t, rfl⟩ := h
 rw [isSoC_iff] at hl ⊢
 refine ⟨fun i hi => ?_, fun i hi => ?_⟩
 ·have := hl.1 i (by simp; omega)
  rwa [List.getElem_append_left hi] at this
 ·have := hl.2 i (by simp; omega)
  rwa [List.getElem_append_left hi, List.getElem_append_left (by omega : i < f.length)] at this

theorem mem_allP (c : Co) : ∀ (n : Nat) (f l : List Int), l ∈ allP c n f ↔ l.length = f.length + n ∧ f <+: l ∧ isSoC c l = true
 | 0, f, l => by
  unfold allP
  constructor
  ·intro h
   split at h
   ·rename_i hs
    simp only [List.mem_singleton] at h
    subst h
    exact ⟨rfl, List.prefix_refl _, hs⟩
   ·simp at h
  ·rintro ⟨h1, h2, h3⟩
   have e : f = l := h2.eq_of_length (by omega)
   subst e
   rw [if_pos h3]; simp
 | n + 1, f, l => by
  unfold allP
  constructor
  ·intro h
   split at h
   ·obtain ⟨g, _, hm⟩ := List.mem_flatMap.1 h
    obtain ⟨h1, h2, h3⟩ := (mem_allP c n (f ++ [g]) l).1 hm
    simp only [List.length_append, List.length_singleton] at h1
    exact ⟨by omega, (List.prefix_append f [g]).trans h2, h3⟩
   ·simp at h
  ·rintro ⟨h1, h2, h3⟩
   rw [if_pos (isSoC_prefix h2 h3)]
   obtain ⟨t, rfl⟩ := h2
   cases t with
   | nil => simp at h1
   | cons g t =>
    refine List.mem_flatMap.2 ⟨g, ?_, (mem_allP c n (f ++ [g]) _).2 ⟨?_, ?_, h3⟩⟩
    ·have := (isSoC_iff.1 h3).1 f.length (by simp)
     simp at this
     exact mem_seqI.2 this
    ·simp at h1 ⊢; omega
    ·exact ⟨t, by simp⟩

theorem flat_bd {α β : Type} {f : α → List β} {b : Nat} : ∀ (L : List α), (∀ x ∈ L, (f x).length ≤ b) → (L.flatMap f).length ≤ L.length * b
 | [], _ => by simp
 | a :: L, h => by
  have h1 := h a (by simp)
  have h2 := flat_bd L fun x hx => h x (by simp [hx])
  rw [List.flatMap_cons, List.length_append, List.length_cons, Nat.succ_mul]
  omega

theorem allP_len {c : Co} {m : Nat} (hm : (seqI (-c.gain) c.gain).length ≤ m) (h1 : 1 ≤ m) : ∀ (n : Nat) (f : List Int), (allP c n f).length ≤ m ^ n
 | 0, f => by unfold allP; split <;> simp
 | n + 1, f => by
  unfold allP
  split
  ·have h := flat_bd (f := fun g => allP c n (f ++ [g])) (b := m ^ n) (seqI (-c.gain) c.gain) fun g _ => allP_len hm h1 n (f ++ [g])
   have h2 := Nat.mul_le_mul_right (m ^ n) hm
   rw [Nat.pow_succ, Nat.mul_comm (m ^ n) m]
   omega
  ·simp

@[simp] abbrev rowP (l : List Int) : List C := [.sl false false (l.map cI)]
theorem rowP_pure (X : List (List Int)) : (X.map rowP).all purel = true := all_purel_map fun _ => rfl

theorem q_all81 (w : Ws) (G : List (Int × List Int)) (hg : 0 ≤ w.gain ∧ w.gain ≤ 3) (hl : 1 ≤ w.last ∧ w.last ≤ 5) : ∀ (n : Nat) (f : List Int) (nl fu : Bool), (f.length + n : Int) = w.last + 1 → (n = 0 → nl = false ∧ fu = false) →
  ∃ a b, Pure Tryz.prog 81 [encWs w, .sl nl fu (f.map cI)] (.sl a b ((allP (co w G) n f).map rowP)) := by
 have hwl : IntKind.i64.wrap (w.last + 1) = w.last + 1 := wrap_id (by omega) (by omega)
 have hwg : IntKind.i64.wrap (-w.gain) = -w.gain := wrap_id (by omega) (by omega)
 intro n
 induction n with
 | zero =>
  intro f nl fu hf h0
  obtain ⟨rfl, rfl⟩ := h0 rfl
  have hso := q_isSo65 w G false false f (by omega) (by omega)
  cases hb : isSoC (co w G) f
  ·rw [hb] at hso
   have hA : allP (co w G) 0 f = [] := if_neg (by rw [hb]; simp)
   refine ⟨true, true, ?_⟩
   rw [hA]
   refine ZF (fn := Tryz.f81) [.tmp 4] ⟨Tryz.func81, rfl, by kernel_rfl⟩ fun x hx hσ => ?_
   (repeat refine ZQ ?_); refine ZR fun K hK => ?_; simp (maxSteps := 1000000) [ty28, ty110]; refine hK _ ?_; clear hK K
   (repeat refine ZQ ?_); refine ZR fun K hK => ?_; simp (maxSteps := 1000000) [ty28]
   refine ZP (hso) ?_; simp (maxSteps := 1000000) [ty4]
   refine hK _ ?_; clear hK K
   (repeat refine ZQ ?_); refine ZC (fun hd => ?_) (fun hd => ?_)
   ·clear hd
    (repeat refine ZQ ?_); refine ZR fun K hK => ?_; simp (maxSteps := 1000000) [ty110]; refine hK _ ?_; clear hK K
    (repeat refine ZQ ?_); refine awp_ret ?_; refine And.intro (Or.inr rfl) ?_
    simp [retC, resC, viewC, mapO]
   ·simp at hd
  ·rw [hb] at hso
   have hA : allP (co w G) 0 f = [f] := if_pos hb
   have hfl : ((f.length : Int) == w.last + 1) = true := by rw [beq_iff_eq]; omega
   refine ⟨false, true, ?_⟩
   rw [hA]
   refine ZF (fn := Tryz.f81) [.tmp 4] ⟨Tryz.func81, rfl, by kernel_rfl⟩ fun x hx hσ => ?_
   (repeat refine ZQ ?_); refine ZR fun K hK => ?_; simp (maxSteps := 1000000) [ty28, ty110]; refine hK _ ?_; clear hK K
   (repeat refine ZQ ?_); refine ZR fun K hK => ?_; simp (maxSteps := 1000000) [ty28]
   refine ZP (hso) ?_; simp (maxSteps := 1000000) [ty4]
   refine hK _ ?_; clear hK K
   (repeat refine ZQ ?_); refine ZC (fun hd => ?_) (fun hd => ?_)
   ·simp at hd
   ·clear hd
    refine awp_skip ?_
    (repeat refine ZQ ?_); refine ZR fun K hK => ?_; simp (maxSteps := 1000000) [ty29, ty28, ty3, hwl, hfl]; refine hK _ ?_; clear hK K
    (repeat refine ZQ ?_); refine ZC (fun hd => ?_) (fun hd => ?_)
    ·clear hd
     (repeat refine ZQ ?_); refine ZR fun K hK => ?_; simp (maxSteps := 1000000) [ty110, ty29]; refine hK _ ?_; clear hK K
     (repeat refine ZQ ?_); refine awp_ret ?_; refine And.intro (Or.inr rfl) ?_
     simp [retC, resC, viewC, mapO]
    ·simp at hd
 | succ n ih =>
  intro f nl fu hf _
  have hso := q_isSo65 w G nl fu f (by omega) (by omega)
  cases hb : isSoC (co w G) f
  ·rw [hb] at hso
   have hA : allP (co w G) (n + 1) f = [] := if_neg (by rw [hb]; simp)
   refine ⟨true, true, ?_⟩
   rw [hA]
   refine ZF (fn := Tryz.f81) [.tmp 4] ⟨Tryz.func81, rfl, by kernel_rfl⟩ fun x hx hσ => ?_
   (repeat refine ZQ ?_); refine ZR fun K hK => ?_; simp (maxSteps := 1000000) [ty28, ty110]; refine hK _ ?_; clear hK K
   (repeat refine ZQ ?_); refine ZR fun K hK => ?_; simp (maxSteps := 1000000) [ty28]
   refine ZP (hso) ?_; simp (maxSteps := 1000000) [ty4]
   refine hK _ ?_; clear hK K
   (repeat refine ZQ ?_); refine ZC (fun hd => ?_) (fun hd => ?_)
   ·clear hd
    (repeat refine ZQ ?_); refine ZR fun K hK => ?_; simp (maxSteps := 1000000) [ty110]; refine hK _ ?_; clear hK K
    (repeat refine ZQ ?_); refine awp_ret ?_; refine And.intro (Or.inr rfl) ?_
    simp [retC, resC, viewC, mapO]
   ·simp at hd
  ·rw [hb] at hso
   have hfl : ((f.length : Int) == w.last + 1) = false := by rw [beq_eq_false_iff_ne]; omega
   obtain ⟨m, hm⟩ : ∃ m : Nat, (w.gain - -w.gain + 1).toNat = m := ⟨_, rfl⟩
   have hm' : (m : Int) = 2 * w.gain + 1 := by omega
   have hex : ∀ x : Nat, ∃ r : Bool × Bool, Pure Tryz.prog 81 [encWs w, .sl false false ((f ++ [-w.gain + (x : Int)]).map cI)] (.sl r.1 r.2 ((allP (co w G) n (f ++ [-w.gain + (x : Int)])).map rowP)) := fun x => by
    obtain ⟨a, b, h⟩ := ih (f ++ [-w.gain + (x : Int)]) false false (by simp; omega) fun _ => ⟨rfl, rfl⟩
    exact ⟨(a, b), h⟩
   obtain ⟨F, hF⟩ := Classical.axiomOfChoice hex
   obtain ⟨A, hA⟩ : ∃ A : Nat → List (List Int), ∀ x, ((seqN (-w.gain) x).flatMap fun g => allP (co w G) n (f ++ [g])) = A x := ⟨_, fun _ => rfl⟩
   have hA0 : A 0 = [] := by rw [← hA]; rfl
   have hAs : ∀ x : Nat, A (x + 1) = A x ++ allP (co w G) n (f ++ [-w.gain + (x : Int)]) := fun x => by rw [← hA, ← hA, seqN_step, List.flatMap_append]; simp
   have hAN : allP (co w G) (n + 1) f = A m := by
    rw [← hA]
    show (if isSoC (co w G) f then _ else _) = _
    rw [if_pos hb]
    unfold seqI
    rw [show ((co w G).gain - -(co w G).gain + 1).toNat = m by simp only; omega]
   have hsl : (seqI (-(co w G).gain) (co w G).gain).length ≤ 7 := by
    have : (seqI (-(co w G).gain) (co w G).gain).length = ((co w G).gain - -(co w G).gain + 1).toNat := seqN_len _ _
    simp only at this ⊢; omega
   have hpow : ∀ k : Nat, k ≤ 6 → 7 ^ k ≤ 117649 := fun k hk => Nat.le_trans (Nat.pow_le_pow_right (by decide) hk) (by decide)
   have hPl : ∀ g, (allP (co w G) n (f ++ [g])).length ≤ 117649 := fun g => Nat.le_trans (allP_len hsl (by decide) n _) (hpow n (by omega))
   have hAl : ∀ x, x ≤ m → (A x).length ≤ 823543 := fun x hx => by
    rw [← hA]
    have h := flat_bd (f := fun g => allP (co w G) n (f ++ [g])) (b := 117649) (seqN (-w.gain) x) fun g _ => hPl g
    rw [seqN_len] at h
    have : x * 117649 ≤ 7 * 117649 := Nat.mul_le_mul_right _ (by omega)
    omega
   refine ⟨(A m).isEmpty, false, ?_⟩
   rw [hAN]
   clear hA hAN hex hsl hpow
   refine ZF (fn := Tryz.f81) [.tmp 4] ⟨Tryz.func81, rfl, by kernel_rfl⟩ fun x hx hσ => ?_
   (repeat refine ZQ ?_); refine ZR fun K hK => ?_; simp (maxSteps := 1000000) [ty28, ty110]; refine hK _ ?_; clear hK K
   (repeat refine ZQ ?_); refine ZR fun K hK => ?_; simp (maxSteps := 1000000) [ty28]
   refine ZP (hso) ?_; simp (maxSteps := 1000000) [ty4]
   refine hK _ ?_; clear hK K
   (repeat refine ZQ ?_); refine ZC (fun hd => ?_) (fun hd => ?_)
   ·simp at hd
   ·clear hd
    refine awp_skip ?_
    (repeat refine ZQ ?_); refine ZR fun K hK => ?_; simp (maxSteps := 1000000) [ty29, ty28, ty3, hwl, hfl]; refine hK _ ?_; clear hK K
    (repeat refine ZQ ?_); refine ZC (fun hd => ?_) (fun hd => ?_)
    ·simp at hd
    ·clear hd
     refine awp_skip ?_
     (repeat refine ZQ ?_); refine ZR fun K hK => ?_; simp (maxSteps := 1000000) [ty110]; refine hK _ ?_; clear hK K
     (repeat refine ZQ ?_); refine ZR fun K hK => ?_; simp (maxSteps := 1000000) [ty28, ty3, hwg]; refine hK _ ?_; clear hK K
     (repeat refine ZQ ?_); refine awp_block ?_
     refine AWP.weak ?_ (wk_nil 5 5 1 (fu := true) (by simp) (by simp))
     refine awp_loop (fun x : Nat => ⟨ofL [(1, .sl nl fu (f.map cI)), (2, .ptr 2 13 0 0), (5, .own 5 1 0 (A x).length), (6, encI (-w.gain + (x : Int)))], stoT [(2, 2, .live (obWs w)), (5, 5, .live ⟨(A x).isEmpty, false, 1, (A x).map rowP⟩)]⟩)
      (fun x => x ≤ m) (fun x => m - x) 0 (Nat.zero_le _) ?_ ?_
     ·rw [hA0]
      exact ZW
     ·intro x hx0
      have hlx := hAl x hx0
      have hst := hAs x
      have hPx := hPl (-w.gain + (x : Int))
      have hFx := hF x
      (repeat refine ZQ ?_); refine ZR fun K hK => ?_; simp (maxSteps := 1000000) [ty28, ty3]; refine hK _ ?_; clear hK K
      (repeat refine ZQ ?_); refine ZC (fun hc => ?_) (fun hc => ?_)
      ·simp at hc
       have hxm : x < m := by omega
       have hwx : IntKind.i64.wrap (-w.gain + (x : Int) + 1) = -w.gain + ((x + 1 : Nat) : Int) := by rw [wrap_id (by omega) (by omega)]; omega
       generalize allP (co w G) n (f ++ [-w.gain + (x : Int)]) = Z at *
       generalize hacc : A x = acc at *
       refine awp_skip ?_
       (repeat refine ZQ ?_); refine awp_block ?_
       (repeat refine ZQ ?_); refine ZD [4, 1001, 5007, 4008, 10032] [0, 1, 2, 3, 4, 5, 6, 7, 8, 9, 10] fun K hK => ?_; simp (maxSteps := 1000000) [ty28, ty29, ty110, ty3]
       refine ⟨⟨by omega, by omega⟩, ⟨by omega, by omega⟩, ?_⟩
       refine doesD (does_frz 35 (args' := [encWs w, .sl false false ((f ++ [-w.gain + (x : Int)]).map cI)]) (by simp; rfl) ?_ (.cons (.inl rfl) (.cons ?_ .nil)) ?_ hFx ?_) ?_
       ·simp [purel, C.isPure]
       ·have := fz_own (k := 35) (sz := 1) (n := f.length + 1) (b := false) (o := ⟨false, true, 1, f.map cI ++ [[encI (-w.gain + (x : Int))]]⟩) rfl (by simp) rfl
        simpa using this
       ·simp [purel, C.isPure]
       ·simp [C.isPure]
       simp [ty110, ty28, ty29]
       refine ⟨⟨by omega, by omega⟩, ?_⟩
       refine hK _ ?_; clear hK K
       (repeat refine ZQ ?_); refine ZR fun K hK => ?_; simp (maxSteps := 1000000) [ty3, hwx]; refine hK _ ?_; clear hK K; (first | show AWP _ _ _ _ _ | show ∃ _, _ | skip)
       refine ⟨x + 1, by omega, by omega, ?_⟩
       rw [hst]
       refine wk_shape (T := [(2, 2, .live (obWs w)), (5, 37, .live ⟨(acc ++ Z).isEmpty, false, 1, (acc ++ Z).map rowP⟩)]) (shp0 hσ (by simp) (by simp) ?_) ?_
       ·simp [SlotOk]
        exact ⟨.same (by simp [purel, C.isPure]), by cases acc <;> simp, .same (by rw [← List.map_append]; exact rowP_pure _)⟩
       ·simp [mtc, mtl, mT, C.isPure, purel]
      ·simp at hc
       (repeat refine ZQ ?_); refine awp_exit ?_; (first | show AWP _ _ _ _ _ | show ∃ _, _ | skip)
       obtain rfl : x = m := by omega
       (repeat refine ZQ ?_); refine ZR fun K hK => ?_; simp (maxSteps := 1000000) [ty110]; refine hK _ ?_; clear hK K
       (repeat refine ZQ ?_); refine awp_ret ?_; refine And.intro (Or.inr rfl) ?_
       refine ⟨_, by simp [retC, resC]; rfl, ?_⟩
       refine (viewC_own (o := ⟨(A x).isEmpty, false, 1, (A x).map rowP⟩) (by simp) rfl (by simp) (rowP_pure _)).trans ?_
       simp

set_option maxHeartbeats 8000000

-- all truths, as the reference has them

/-- All truths of a valid instrument. -/
def tlW (w : Ws) : List (List Int) := (allP (co w (gl w)) (w.last + 1).toNat []).filter fun l => decide ((wrL (gl w) (pF l) : Int) ≤ w.wrong)

theorem mem_tlW {w : Ws} (hok : WsOk w) {l : List Int} : l ∈ tlW w ↔ l.length = w.last.toNat + 1 ∧ Tru (co w (gl w)) (pF l) := by
 have hl := hok.last
 rw [← isTruB_iff hok]
 unfold tlW isTruB
 rw [List.mem_filter, mem_allP]
 simp only [Bool.and_eq_true, decide_eq_true_eq, List.length_nil, Nat.zero_add, List.nil_prefix, true_and]
 constructor
 ·rintro ⟨⟨h1, h2⟩, h3⟩; exact ⟨⟨by omega, h2⟩, h3⟩
 ·rintro ⟨⟨h1, h2⟩, h3⟩; exact ⟨⟨by omega, h2⟩, h3⟩

/-- The list of a path. -/
def lstP (p : Nat → Int) (n : Nat) : List Int := (List.range (n + 1)).map p
theorem lstP_at (p : Nat → Int) {n i : Nat} (h : i ≤ n) : pF (lstP p n) i = p i := by
 have hi : i < (lstP p n).length := by simp [lstP]; omega
 rw [pF_at hi]; simp [lstP]

theorem tru_congr {c : Co} {p q : Nat → Int} (h : ∀ i, i ≤ c.last.toNat → p i = q i) (hp : Tru c p) : Tru c q := ⟨hp.1.congr h, by rw [← wrs_congr h]; exact hp.2⟩

theorem lst_mem {w : Ws} (hok : WsOk w) {p : Nat → Int} (hp : Tru (co w (gl w)) p) : lstP p w.last.toNat ∈ tlW w :=
 (mem_tlW hok).2 ⟨by simp [lstP], tru_congr (fun i hi => (lstP_at p hi).symm) hp⟩

theorem tlW_nil {w : Ws} (hok : WsOk w) : tlW w = [] ↔ canC (co w (gl w)) [] = false := by
 rw [Bool.eq_false_iff, Ne, can_nil]
 constructor
 ·rintro h ⟨p, hp⟩
  have := lst_mem hok hp
  rw [h] at this; simp at this
 ·intro h
  refine List.eq_nil_iff_forall_not_mem.2 fun l hl => h ⟨_, ((mem_tlW hok).1 hl).2⟩

def knW (w : Ws) (is : Bool) : List (List Int) := if openW w is = 0 then tlW w else []

/-- Small enough for the reference. -/
structure SmallW (w : Ws) : Prop where
  gain : w.gain ≤ 3
  last : w.last ≤ 5
  vs : w.vs.length ≤ 3

theorem q_known84 (w : Ws) (is : Bool) (hn : WsLen w) (hsm : checkW w = 0 → SmallW w) : Pure Tryz.prog 84 [encWs w, .bool is] (.tup [.sl (knW w is).isEmpty (knW w is).isEmpty ((knW w is).map rowP), encI (openW w is)]) := by
 have hck := q_check32 w hn
 by_cases hz : checkW w = 0
 ·have hok := checkW_ok.1 hz
  have hs := hsm hz
  rw [hz] at hck
  cases is
  ·have ho : openW w false = 1 := by unfold openW; rw [if_neg (by simpa using hz), if_pos rfl]
   have hk : knW w false = [] := by unfold knW; rw [ho]; rfl
   rw [ho, hk]
   refine ZF (fn := Tryz.f84) [.tmp 4, .tmp 5] ⟨Tryz.func84, rfl, by kernel_rfl⟩ fun x hx hσ => ?_
   (repeat refine ZQ ?_); refine ZR fun K hK => ?_; simp (maxSteps := 1000000) [ty28, ty110, ty37]; refine hK _ ?_; clear hK K
   (repeat refine ZQ ?_); refine ZR fun K hK => ?_; simp (maxSteps := 1000000) [ty28]
   refine ZP (hck) ?_; simp (maxSteps := 1000000)
   refine hK _ ?_; clear hK K
   (repeat refine ZQ ?_); refine ZR fun K hK => ?_; simp (maxSteps := 1000000) [ty37]; refine hK _ ?_; clear hK K
   (repeat refine ZQ ?_); refine ZC (fun hd => ?_) (fun hd => ?_)
   ·simp at hd
   ·clear hd
    refine awp_skip ?_
    (repeat refine ZQ ?_); refine ZR fun K hK => ?_; simp (maxSteps := 1000000) [ty4]; refine hK _ ?_; clear hK K
    (repeat refine ZQ ?_); refine ZC (fun hd => ?_) (fun hd => ?_)
    ·clear hd
     (repeat refine ZQ ?_); refine ZR fun K hK => ?_; simp (maxSteps := 1000000) [ty110, ty37]; refine hK _ ?_; clear hK K
     (repeat refine ZQ ?_); refine awp_ret ?_; refine And.intro (Or.inr rfl) ?_
     simp [retC, resC, viewC, mapO]
    ·simp at hd
  ·have hla := hok.last
   have hgn := hok.num.gain
   obtain ⟨a, b, hall⟩ := q_all81 w (gl w) (by have := hs.gain; omega) (by have := hs.last; omega) (w.last + 1).toNat [] true true (by simp; omega) (fun h => by omega)
   have hgs := q_gains82 w hn
   have hT : knW w true = tlW w := by
    unfold knW
    split
    ·rfl
    ·rename_i h
     refine ((tlW_nil hok).2 ?_).symm
     rw [Bool.eq_false_iff]
     intro e
     exact h (openW_true' hz e)
   have hE : openW w true = if tlW w = [] then 3 else 0 := by
    split
    ·rename_i h
     have := (tlW_nil hok).1 h
     unfold openW
     rw [if_neg (by simpa using hz), if_neg (by simp), if_pos this]
    ·rename_i h
     refine openW_true' hz ?_
     cases hc : canC (co w (gl w)) []
     ·exact absurd ((tlW_nil hok).2 hc) h
     ·rfl
   rw [hT, hE]
   obtain ⟨L, hL⟩ : ∃ L, allP (co w (gl w)) (w.last + 1).toNat [] = L := ⟨_, rfl⟩
   have hLl : L.length ≤ 117649 := by
    have hsl : (seqI (-(co w (gl w)).gain) (co w (gl w)).gain).length ≤ 7 := by
     have : (seqI (-(co w (gl w)).gain) (co w (gl w)).gain).length = ((co w (gl w)).gain - -(co w (gl w)).gain + 1).toNat := seqN_len _ _
     have := hs.gain
     simp only at *; omega
    rw [← hL]
    exact Nat.le_trans (allP_len hsl (by decide) _ _) (Nat.le_trans (Nat.pow_le_pow_right (by decide) (by have := hs.last; omega : (w.last + 1).toNat ≤ 6)) (by decide))
   have hLm : ∀ l ∈ L, (l.length : Int) = w.last + 1 := fun l hl => by
    rw [← hL] at hl
    have := ((mem_allP _ _ _ _).1 hl).1
    simp at this; omega
   have htl : tlW w = L.filter fun l => decide ((wrL (gl w) (pF l) : Int) ≤ w.wrong) := by rw [← hL]; rfl
   rw [hL] at hall
   rw [htl]
   clear hL htl hT hE
   obtain ⟨q, hq⟩ : ∃ q : List Int → Bool, q = fun l => decide ((wrL (gl w) (pF l) : Int) ≤ w.wrong) := ⟨_, rfl⟩
   rw [← hq]
   obtain ⟨A, hA⟩ : ∃ A : Nat → List (List Int), ∀ i, (L.take i).filter q = A i := ⟨_, fun _ => rfl⟩
   have hA0 : A 0 = [] := by rw [← hA]; rfl
   have hAN : L.filter q = A L.length := by rw [← hA, List.take_length]
   have hAs : ∀ i (h : i < L.length), A (i + 1) = if q L[i] then A i ++ [L[i]] else A i := fun i h => by
    rw [← hA, ← hA, List.take_succ_eq_append_getElem h, List.filter_append]
    cases hb : q L[i] <;> simp [hb]
   have hAl : ∀ i, i ≤ L.length → (A i).length ≤ 117649 := fun i hi => by
    rw [← hA]
    refine Nat.le_trans (List.length_filter_le _ _) ?_
    rw [List.length_take]; omega
   have hLp : (L.map rowP).all purel = true := rowP_pure L
   have hwr := fun (l : List Int) (hl : l ∈ L) => q_wrongs83 w w.vs.isEmpty false false false l hn fun v hv => by
    obtain ⟨i, hi, rfl⟩ := List.getElem_of_mem hv
    have h1 := hok.day i hi
    have h2 := hLm l hl
    omega
   rw [hAN]
   have hgp := gsN_pure w
   generalize gsN w = GS at *
   refine ZF (fn := Tryz.f84) [.tmp 4, .tmp 5] ⟨Tryz.func84, rfl, by kernel_rfl⟩ fun x hx hσ => ?_
   (repeat refine ZQ ?_); refine ZR fun K hK => ?_; simp (maxSteps := 1000000) [ty28, ty110, ty37]; refine hK _ ?_; clear hK K
   (repeat refine ZQ ?_); refine ZR fun K hK => ?_; simp (maxSteps := 1000000) [ty28]
   refine ZP (hck) ?_; simp (maxSteps := 1000000)
   refine hK _ ?_; clear hK K
   (repeat refine ZQ ?_); refine ZR fun K hK => ?_; simp (maxSteps := 1000000) [ty37]; refine hK _ ?_; clear hK K
   (repeat refine ZQ ?_); refine ZC (fun hd => ?_) (fun hd => ?_)
   ·simp at hd
   ·clear hd
    refine awp_skip ?_
    (repeat refine ZQ ?_); refine ZR fun K hK => ?_; simp (maxSteps := 1000000) [ty4]; refine hK _ ?_; clear hK K
    (repeat refine ZQ ?_); refine ZC (fun hd => ?_) (fun hd => ?_)
    ·simp at hd
    ·clear hd
     refine awp_skip ?_
     (repeat refine ZQ ?_); refine ZR fun K hK => ?_; simp (maxSteps := 1000000) [ty110]; refine hK _ ?_; clear hK K
     (repeat refine ZQ ?_); refine ZD [] [0, 1, 2, 3, 4, 5] fun K hK => ?_; simp (maxSteps := 1000000) [ty28, ty110]
     refine ZE (hall) ?_; simp (maxSteps := 1000000) [ty28, ty110]
     refine ZE (hgs) ?_; simp (maxSteps := 1000000) [ty110]
     refine hK _ ?_; clear hK K
     (repeat refine ZQ ?_); refine ZR fun K hK => ?_; simp (maxSteps := 1000000) [ty3]; refine hK _ ?_; clear hK K
     (repeat refine ZQ ?_); refine awp_block ?_
     refine AWP.weak ?_ (wk_nil 7 7 1 (fu := true) (by simp) (by simp))
     refine awp_loop (fun i : Nat => ⟨ofL [(2, .ptr 2 13 0 0), (7, .own 7 1 0 (A i).length), (8, .sl a b (L.map rowP)), (9, .sl w.vs.isEmpty false GS), (10, encI i)], stoT [(2, 2, .live (obWs w)), (7, 7, .live ⟨(A i).isEmpty, false, 1, (A i).map rowP⟩)]⟩)
      (fun i => i ≤ L.length) (fun i => L.length - i) 0 (Nat.zero_le _) ?_ ?_
     ·rw [hA0]
      refine wk_shape (shp0 hσ (by simp) (by simp) ?_) ?_
      ·simp [SlotOk]
       exact .same (by simp [purel, C.isPure])
      ·simp [mtc, mtl, mT, C.isPure, purel]
     ·intro i hi
      have hli := hAl i hi
      (repeat refine ZQ ?_); refine ZR fun K hK => ?_; simp (maxSteps := 1000000) [ty110, ty3]; refine hK _ ?_; clear hK K
      (repeat refine ZQ ?_); refine ZC (fun hc => ?_) (fun hc => ?_)
      ·simp at hc
       have hwi : IntKind.i64.wrap ((i : Int) + 1) = ((i + 1 : Nat) : Int) := by rw [wrap_id (by omega) (by omega)]; rfl
       have hst := hAs i hc
       have hcal := hwr L[i] (List.getElem_mem hc)
       have hqi : q L[i] = decide ((wrL (gl w) (pF L[i]) : Int) ≤ w.wrong) := by rw [hq]
       generalize wrL (gl w) (pF L[i]) = nw at *
       generalize hacc : A i = acc at *
       refine awp_skip ?_
       (repeat refine ZQ ?_); refine awp_block ?_
       cases hb : q L[i]
       ·rw [hb] at hst hqi
        simp at hst
        have hnw : ¬ (nw : Int) ≤ w.wrong := of_decide_eq_false hqi.symm
        (repeat refine ZQ ?_); refine ZD [] [0, 1, 2, 3, 4, 5, 6, 7, 8, 9] fun K hK => ?_; simp (maxSteps := 1000000) [ty28, ty110, ty29, ty3, hc]
        refine callPD hcal (by simp [purel, C.isPure]) (by simp) ?_
        simp [ty28, ty3, hnw]
        refine hK _ ?_; clear hK K
        (repeat refine ZQ ?_); refine ZC (hc := by simp [hnw]; rfl) (fun hd => ?_) (fun hd => ?_)
        ·simp [hnw] at hd
        ·clear hd
         refine awp_skip ?_
         (repeat refine ZQ ?_); refine ZR fun K hK => ?_; simp (maxSteps := 1000000) [ty3]; refine hK _ ?_; clear hK K; (first | show AWP _ _ _ _ _ | show ∃ _, _ | skip)
         refine ⟨i + 1, by omega, by omega, ?_⟩
         rw [hst, hwi]
         refine wk_shape (shp0 hσ (by simp) (by simp) ?_) ?_
         ·simp [SlotOk]
          exact ⟨.same (by simp [purel, C.isPure]), .same (rowP_pure _)⟩
         ·simp [mtc, mtl, mT, C.isPure, purel]
       ·rw [hb] at hst hqi
        simp at hst
        have hnw : (nw : Int) ≤ w.wrong := of_decide_eq_true hqi.symm
        (repeat refine ZQ ?_); refine ZD [] [0, 1, 2, 3, 4, 5, 6, 7, 8, 9] fun K hK => ?_; simp (maxSteps := 1000000) [ty28, ty110, ty29, ty3, hc]
        refine callPD hcal (by simp [purel, C.isPure]) (by simp) ?_
        simp [ty28, ty3, hnw]
        refine hK _ ?_; clear hK K
        (repeat refine ZQ ?_); refine ZC (hc := by simp [hnw]; rfl) (fun hd => ?_) (fun hd => ?_)
        ·clear hd
         (repeat refine ZQ ?_); refine ZR fun K hK => ?_; simp (maxSteps := 1000000) [ty110, ty29, ty3, hc]
         refine ⟨by omega, ?_⟩
         refine hK _ ?_; clear hK K
         (repeat refine ZQ ?_); refine ZR fun K hK => ?_; simp (maxSteps := 1000000) [ty3]; refine hK _ ?_; clear hK K; (first | show AWP _ _ _ _ _ | show ∃ _, _ | skip)
         refine ⟨i + 1, by omega, by omega, ?_⟩
         rw [hst, hwi]
         refine wk_shape (T := [(2, 2, .live (obWs w)), (7, 44, .live ⟨(acc ++ [L[i]]).isEmpty, false, 1, (acc ++ [L[i]]).map rowP⟩)]) (shp0 hσ (by simp) (by simp) ?_) ?_
         ·simp [SlotOk]
          exact ⟨.same (by simp [purel, C.isPure]), .same (by
           have h1 := rowP_pure (acc ++ [L[i]])
           rw [List.map_append] at h1
           exact h1)⟩
         ·simp [mtc, mtl, mT, C.isPure, purel]
        ·simp [hnw] at hd
      ·simp at hc
       (repeat refine ZQ ?_); refine awp_exit ?_; (first | show AWP _ _ _ _ _ | show ∃ _, _ | skip)
       have hiN : i = L.length := by omega
       subst hiN
       generalize A L.length = T at *
       have hpT := rowP_pure T
       by_cases hT0 : T = []
       ·subst hT0
        (repeat refine ZQ ?_); refine ZR fun K hK => ?_; simp (maxSteps := 1000000) [ty110, ty3]; refine hK _ ?_; clear hK K
        (repeat refine ZQ ?_); refine ZC (fun hd => ?_) (fun hd => ?_)
        ·clear hd
         (repeat refine ZQ ?_); refine ZR fun K hK => ?_; simp (maxSteps := 1000000) [ty110, ty37]; refine hK _ ?_; clear hK K
         (repeat refine ZQ ?_); refine awp_ret ?_; refine And.intro (Or.inr rfl) ?_
         simp [retC, resC, viewC, mapO]
        ·simp at hd
       ·have hTl : ((T.length : Int) == 0) = false := by
         rw [beq_eq_false_iff_ne]; intro e; exact hT0 (List.eq_nil_of_length_eq_zero (by omega))
        have hTe : T.isEmpty = false := by cases T with
         | nil => exact absurd rfl hT0
         | cons a l => rfl
        (repeat refine ZQ ?_); refine ZR fun K hK => ?_; simp (maxSteps := 1000000) [ty110, ty3, hTl]; refine hK _ ?_; clear hK K
        (repeat refine ZQ ?_); refine ZC (hc := by simp [hTl]; rfl) (fun hd => ?_) (fun hd => ?_)
        ·simp [hTl] at hd
        ·clear hd
         refine awp_skip ?_
         (repeat refine ZQ ?_); refine ZR fun K hK => ?_; simp (maxSteps := 1000000) [ty110, ty37]; refine hK _ ?_; clear hK K
         (repeat refine ZQ ?_); refine awp_ret ?_; refine And.intro (Or.inr rfl) ?_
         refine ⟨_, by simp [retC, resC]; rfl, ?_⟩
         unfold viewC
         rw [if_neg (by simp [C.isPure, purel])]
         simp only [mapO]
         rw [viewC_own (o := ⟨T.isEmpty, false, 1, T.map rowP⟩) (by simp) rfl (by simp) hpT, viewC_self rfl]
         simp [hT0, hTe]
 ·have ho : openW w is = checkW w := if_pos hz
  have hk : knW w is = [] := by unfold knW; rw [ho, if_neg hz]
  rw [ho, hk]
  refine ZF (fn := Tryz.f84) [.tmp 4, .tmp 5] ⟨Tryz.func84, rfl, by kernel_rfl⟩ fun x hx hσ => ?_
  (repeat refine ZQ ?_); refine ZR fun K hK => ?_; simp (maxSteps := 1000000) [ty28, ty110, ty37]; refine hK _ ?_; clear hK K
  (repeat refine ZQ ?_); refine ZR fun K hK => ?_; simp (maxSteps := 1000000) [ty28]
  refine ZP (hck) ?_; simp (maxSteps := 1000000)
  refine hK _ ?_; clear hK K
  (repeat refine ZQ ?_); refine ZR fun K hK => ?_; simp (maxSteps := 1000000) [ty37]; refine hK _ ?_; clear hK K
  (repeat refine ZQ ?_); refine ZC (hc := by simp [hz]; rfl) (fun hd => ?_) (fun hd => ?_)
  ·clear hd
   (repeat refine ZQ ?_); refine ZR fun K hK => ?_; simp (maxSteps := 1000000) [ty110, ty37]; refine hK _ ?_; clear hK K
   (repeat refine ZQ ?_); refine awp_ret ?_; refine And.intro (Or.inr rfl) ?_
   simp [retC, resC, viewC, mapO]
  ·simp [hz] at hd

set_option maxHeartbeats 8000000

-- gains of a day in some truths, and their doubt, as the reference has them

def onR (c : Co) (X : List (List Int)) (d : Nat) : List Int := (seqI (-c.gain) c.gain).filter fun n => X.any fun l => pF l d == n
theorem onR_tl {w : Ws} (hok : WsOk w) {d : Nat} (hd : d ≤ w.last.toNat) : onR (co w (gl w)) (tlW w) d = onC (co w (gl w)) (d : Nat) [] := by
 unfold onR onC
 refine List.filter_congr fun n hn => ?_
 rw [Bool.eq_iff_iff]
 have h1 := on_nil (co w (gl w)) d hd n
 have h2 : n ∈ onC (co w (gl w)) (d : Nat) [] ↔ onB (co w (gl w)) d [] n = true := by
  unfold onC; rw [List.mem_filter]; exact ⟨fun h => h.2, fun h => ⟨hn, h⟩⟩
 rw [← h2, h1, List.any_eq_true]
 constructor
 ·rintro ⟨l, hl, he⟩
  exact ⟨_, ((mem_tlW hok).1 hl).2, by simpa using he⟩
 ·rintro ⟨p, hp, he⟩
  exact ⟨_, lst_mem hok hp, by rw [lstP_at p hd, he]; simp⟩

set_option maxHeartbeats 8000000

theorem q_on87 (w : Ws) (G : List (Int × List Int)) (nl fu : Bool) (X : List (List Int)) (d : Nat) (hg : 0 ≤ w.gain ∧ w.gain ≤ 50) (hX : X.length ≤ 1000000) (hl : ∀ l ∈ X, d < l.length) :
  Pure Tryz.prog 87 [encWs w, .sl nl fu (X.map rowP), encI d] (.sl (onR (co w G) X d).isEmpty false ((onR (co w G) X d).map cI)) := by
 have hwg : IntKind.i64.wrap (-w.gain) = -w.gain := wrap_id (by omega) (by omega)
 obtain ⟨N, hN⟩ : ∃ N : Nat, (w.gain - -w.gain + 1).toNat = N := ⟨_, rfl⟩
 have hN' : (N : Int) = w.gain - -w.gain + 1 := by omega
 obtain ⟨A, hA⟩ : ∃ A : Nat → List Int, ∀ i, ((seqN (-w.gain) i).filter fun n => X.any fun l => pF l d == n) = A i := ⟨_, fun _ => rfl⟩
 have hA0 : A 0 = [] := by rw [← hA]; rfl
 have hAN : onR (co w G) X d = A N := by
  rw [← hA]; unfold onR seqI
  rw [show ((co w G).gain - -(co w G).gain + 1).toNat = N by simp only; omega]
 have hAs : ∀ i : Nat, A (i + 1) = if (X.any fun l => pF l d == -w.gain + (i : Int)) = true then A i ++ [-w.gain + (i : Int)] else A i := fun i => by
  rw [← hA, ← hA, seqN_step, List.filter_append]
  cases hb : X.any fun l => pF l d == -w.gain + (i : Int) <;> simp [hb]
 have hAl : ∀ i, (A i).length ≤ i := fun i => by
  rw [← hA]
  refine Nat.le_trans (List.length_filter_le _ _) ?_
  rw [seqN_len]; omega
 rw [hAN]
 clear hA hAN
 have hpX := rowP_pure X
 refine ZF (fn := Tryz.f87) [.tmp 6] ⟨Tryz.func87, rfl, by kernel_rfl⟩ fun x hx hσ => ?_
 (repeat refine ZQ ?_); refine ZR fun K hK => ?_; simp (maxSteps := 1000000) [ty28, ty29]; refine hK _ ?_; clear hK K
 (repeat refine ZQ ?_); refine ZR fun K hK => ?_; simp (maxSteps := 1000000) [ty29]; refine hK _ ?_; clear hK K
 (repeat refine ZQ ?_); refine ZR fun K hK => ?_; simp (maxSteps := 1000000) [ty28, ty3, hwg]; refine hK _ ?_; clear hK K
 (repeat refine ZQ ?_); refine awp_block ?_
 refine AWP.weak ?_ (wk_nil 7 7 1 (fu := true) (by simp) (by simp))
 refine awp_loop (fun i : Nat => ⟨ofL [(1, .sl nl fu (X.map rowP)), (2, encI d), (3, .ptr 3 13 0 0), (7, .own 7 1 0 (A i).length), (8, encI (-w.gain + (i : Int)))], stoT [(3, 3, .live (obWs w)), (7, 7, .live ⟨(A i).isEmpty, false, 1, (A i).map cI⟩)]⟩)
  (fun i => i ≤ N) (fun i => N - i) 0 (Nat.zero_le _) ?_ ?_
 ·rw [hA0]
  exact ZW
 ·intro i hi
  have hli := hAl i
  (repeat refine ZQ ?_); refine ZR fun K hK => ?_; simp (maxSteps := 1000000) [ty28, ty3]; refine hK _ ?_; clear hK K
  (repeat refine ZQ ?_); refine ZC (fun hc => ?_) (fun hc => ?_)
  ·simp at hc
   have hiN : i < N := by omega
   have hwi : IntKind.i64.wrap (-w.gain + (i : Int) + 1) = -w.gain + ((i + 1 : Nat) : Int) := by rw [wrap_id (by omega) (by omega)]; omega
   have hst := hAs i
   obtain ⟨n, hn⟩ : ∃ n, -w.gain + (i : Int) = n := ⟨_, rfl⟩
   rw [hn] at hst hwi
   simp only [hn]
   generalize hacc : A i = acc at *
   refine awp_skip ?_
   (repeat refine ZQ ?_); refine awp_block ?_
   (repeat refine ZQ ?_); refine ZR fun K hK => ?_; simp (maxSteps := 1000000) [ty3]; refine hK _ ?_; clear hK K
   (repeat refine ZQ ?_); refine awp_block ?_
   refine awp_loop (fun k : Nat => ⟨ofL [(1, .sl nl fu (X.map rowP)), (2, encI d), (3, .ptr 3 13 0 0), (7, .own 7 1 0 acc.length), (8, encI n), (9, encI k)], stoT [(3, 3, .live (obWs w)), (7, 7, .live ⟨acc.isEmpty, false, 1, acc.map cI⟩)]⟩)
    (fun k => k ≤ X.length ∧ ∀ j, (h : j < X.length) → j < k → (pF X[j] d == n) = false) (fun k => X.length - k) 0 (by simp) ?_ ?_
   ·exact ZW
   ·intro k ⟨hk, hkm⟩
    (repeat refine ZQ ?_); refine ZR fun K hK => ?_; simp (maxSteps := 1000000) [ty110, ty3]; refine hK _ ?_; clear hK K
    (repeat refine ZQ ?_); refine ZC (fun hc2 => ?_) (fun hc2 => ?_)
    ·simp at hc2
     have hwk : IntKind.i64.wrap ((k : Int) + 1) = ((k + 1 : Nat) : Int) := by rw [wrap_id (by omega) (by omega)]; rfl
     have hdl := hl _ (List.getElem_mem hc2)
     have hpk := pF_at hdl
     refine awp_skip ?_
     (repeat refine ZQ ?_); refine awp_block ?_
     cases hb : X[k][d] == n
     ·(repeat refine ZQ ?_); refine ZR fun K hK => ?_; simp (maxSteps := 1000000) [ty110, ty29, ty3, hc2, hdl, hb]; refine hK _ ?_; clear hK K
      (repeat refine ZQ ?_); refine ZC (hc := by simp [hb]; rfl) (fun hd => ?_) (fun hd => ?_)
      ·simp [hb] at hd
      ·clear hd
       refine awp_skip ?_
       (repeat refine ZQ ?_); refine ZR fun K hK => ?_; simp (maxSteps := 1000000) [ty3]; refine hK _ ?_; clear hK K; (first | show AWP _ _ _ _ _ | show ∃ _, _ | skip)
       refine ⟨k + 1, ⟨by omega, fun j h1 h2 => ?_⟩, by omega, ?_⟩
       ·by_cases hjk : j = k
        ·subst hjk; rw [hpk]; exact hb
        ·exact hkm j h1 (by omega)
       ·rw [hwk]
        exact ZW
     ·have hany : (X.any fun l => pF l d == n) = true := List.any_eq_true.2 ⟨_, List.getElem_mem hc2, by rw [hpk]; exact hb⟩
      rw [if_pos hany] at hst
      (repeat refine ZQ ?_); refine ZR fun K hK => ?_; simp (maxSteps := 1000000) [ty110, ty29, ty3, hc2, hdl, hb]; refine hK _ ?_; clear hK K
      (repeat refine ZQ ?_); refine ZC (hc := by simp [hb]; rfl) (fun hd => ?_) (fun hd => ?_)
      ·clear hd
       (repeat refine ZQ ?_); refine ZR fun K hK => ?_; simp (maxSteps := 1000000) [ty29, ty3]
       refine ⟨by omega, ?_⟩
       refine hK _ ?_; clear hK K
       (repeat refine ZQ ?_); refine awp_exit ?_
       (repeat refine ZQ ?_); refine ZR fun K hK => ?_; simp (maxSteps := 1000000) [ty3]; refine hK _ ?_; clear hK K; (first | show AWP _ _ _ _ _ | show ∃ _, _ | skip)
       refine ⟨i + 1, by omega, by omega, ?_⟩
       rw [hwi]
       refine wk_shape (T := [(3, 3, .live (obWs w)), (7, 37, .live ⟨(A (i + 1)).isEmpty, false, 1, (A (i + 1)).map cI⟩)]) (shp0 hσ (by simp) (by simp) ?_) ?_
       ·simp [SlotOk, hst]
        exact ⟨.same (by simp [purel, C.isPure]), .same (by simp [purel, C.isPure])⟩
       ·simp [mtc, mtl, mT, C.isPure, purel, hst]
      ·simp [hb] at hd
    ·simp at hc2
     (repeat refine ZQ ?_); refine awp_exit ?_; (first | show AWP _ _ _ _ _ | show ∃ _, _ | skip)
     have hany : (X.any fun l => pF l d == n) = false := by
      rw [Bool.eq_false_iff]
      intro e
      obtain ⟨g, hg, h1⟩ := List.any_eq_true.1 e
      obtain ⟨m, hm, rfl⟩ := List.getElem_of_mem hg
      rw [hkm m hm (by omega)] at h1
      cases h1
     rw [if_neg (by rw [hany]; simp)] at hst
     (repeat refine ZQ ?_); refine ZR fun K hK => ?_; simp (maxSteps := 1000000) [ty3]; refine hK _ ?_; clear hK K; (first | show AWP _ _ _ _ _ | show ∃ _, _ | skip)
     refine ⟨i + 1, by omega, by omega, ?_⟩
     rw [hst, hwi]
     exact ZW
  ·simp at hc
   (repeat refine ZQ ?_); refine awp_exit ?_; (first | show AWP _ _ _ _ _ | show ∃ _, _ | skip)
   have hiN : i = N := by omega
   subst hiN
   generalize A i = T at *
   (repeat refine ZQ ?_); refine ZR fun K hK => ?_; simp (maxSteps := 1000000) [ty29]; refine hK _ ?_; clear hK K
   (repeat refine ZQ ?_); refine awp_ret ?_; refine And.intro (Or.inr rfl) ?_
   refine ⟨_, by simp [retC, resC]; rfl, ?_⟩
   refine (viewC_own (o := ⟨T.isEmpty, false, 1, T.map cI⟩) (by simp) rfl (by simp) (ints_pure _)).trans ?_
   simp

set_option maxHeartbeats 8000000

-- Left, Doubt and Due of the reference

theorem tlW_len {w : Ws} (hok : WsOk w) (hs : SmallW w) : (tlW w).length ≤ 117649 := by
 have hgn := hok.num.gain
 have hsl : (seqI (-(co w (gl w)).gain) (co w (gl w)).gain).length ≤ 7 := by
  have h1 : (seqI (-(co w (gl w)).gain) (co w (gl w)).gain).length = ((co w (gl w)).gain - -(co w (gl w)).gain + 1).toNat := seqN_len _ _
  have := hs.gain
  simp only at h1 ⊢; omega
 unfold tlW
 refine Nat.le_trans (List.length_filter_le _ _) ?_
 exact Nat.le_trans (allP_len hsl (by decide) _ _) (Nat.le_trans (Nat.pow_le_pow_right (by decide) (by have := hs.last; omega : (w.last + 1).toNat ≤ 6)) (by decide))

theorem tlW_bd {w : Ws} (hok : WsOk w) {l : List Int} (hl : l ∈ tlW w) {d : Nat} (hd : d ≤ w.last.toNat) : -w.gain ≤ pF l d ∧ pF l d ≤ w.gain := by
 obtain ⟨h1, h2⟩ := (mem_tlW hok).1 hl
 exact alC_bd (h2.1.1 d hd)

theorem known_ok {w : Ws} {is : Bool} (hn : WsLen w) (hsm : checkW w = 0 → SmallW w) (hz : openW w is = 0) : Pure Tryz.prog 84 [encWs w, .bool is] (.tup [.sl false false ((tlW w).map rowP), encI 0]) := by
 have h := q_known84 w is hn hsm
 have hk : knW w is = tlW w := if_pos hz
 have hok := (openW_ok hz).1
 have hne : (tlW w).isEmpty = false := by
  have hcan := (openW_ok hz).2.2
  cases h0 : tlW w with
  | nil => have := (tlW_nil hok).1 h0; rw [hcan] at this; cases this
  | cons a l => rfl
 rw [hk, hz, hne] at h
 exact h
theorem known_no {w : Ws} {is : Bool} (hn : WsLen w) (hsm : checkW w = 0 → SmallW w) (hz : openW w is ≠ 0) : Pure Tryz.prog 84 [encWs w, .bool is] (.tup [.sl true true [], encI (openW w is)]) := by
 have h := q_known84 w is hn hsm
 have hk : knW w is = [] := if_neg hz
 rw [hk] at h
 exact h

set_option maxHeartbeats 8000000
set_option maxRecDepth 20000

-- Due of the reference

theorem any_tl {w : Ws} (hok : WsOk w) {d : Nat} (hd : d ≤ w.last.toNat) (f : Int → Bool) : (onC (co w (gl w)) (d : Nat) []).any f = (tlW w).any fun l => f (pF l d) := by
 rw [← onR_tl hok hd, Bool.eq_iff_iff, List.any_eq_true, List.any_eq_true]
 constructor
 ·rintro ⟨g, hg, h⟩
  obtain ⟨l, hl, e⟩ := List.any_eq_true.1 (List.mem_filter.1 hg).2
  rw [beq_iff_eq] at e
  exact ⟨l, hl, by rw [e]; exact h⟩
 ·rintro ⟨l, hl, h⟩
  exact ⟨pF l d, List.mem_filter.2 ⟨mem_seqI.2 (tlW_bd hok hl hd), List.any_eq_true.2 ⟨l, hl, by simp⟩⟩, h⟩

set_option maxHeartbeats 8000000
set_option maxRecDepth 20000

-- Errs, Real and Blame of the reference

theorem mnI_sorted {V : List Int} (hs : V.Pairwise (· ≤ ·)) : mnI V = V.headD 0 := by
 cases V with
 | nil => rfl
 | cons a l =>
  have h : ∀ (l : List Int), (∀ x ∈ l, a ≤ x) → l.foldl (fun m x => if x < m then x else m) a = a := by
   intro l
   induction l with
   | nil => intro _; rfl
   | cons b l ih =>
    intro h
    have hb := h b (by simp)
    simp only [List.foldl_cons, if_neg (show ¬ b < a by omega)]
    exact ih fun x hx => h x (by simp [hx])
  exact h _ fun x hx => by
   rcases List.mem_cons.1 hx with rfl | hx
   ·exact Int.le_refl _
   ·exact List.rel_of_pairwise_cons hs hx

theorem mxI_sorted {V : List Int} (hs : V.Pairwise (· ≤ ·)) : mxI V = V.getLastD 0 := by
 have h : ∀ (l : List Int) (m : Int), (m :: l).Pairwise (· ≤ ·) → l.foldl (fun m x => if m < x then x else m) m = l.getLastD m := by
  intro l
  induction l with
  | nil => intro m _; rfl
  | cons b l ih =>
   intro m h
   have hb : m ≤ b := List.rel_of_pairwise_cons h (by simp)
   have e : (if m < b then b else m) = b := by split <;> omega
   rw [List.foldl_cons, e, ih b (List.pairwise_cons.1 h).2, List.getLastD_cons]
 cases V with
 | nil => rfl
 | cons a l =>
  unfold mxI
  rw [List.getLastD_cons]
  simp only [List.headD_cons, List.foldl_cons, Int.lt_irrefl, if_false]
  exact h l a hs

theorem seen_mono {a : Int} (ha : 0 ≤ a) {x y : Int} (h : x ≤ y) : seenA a x - a ≤ seenA a y - a := by
 unfold seenA
 have : a * x / 1000 ≤ a * y / 1000 := Int.ediv_le_ediv (by decide) (Int.mul_le_mul_of_nonneg_left h ha)
 omega

theorem err_ends {L : List Int} (hs : L.Pairwise (· < ·)) {a : Int} (ha : 0 ≤ a) (hp : 0 < L.length) :
  mnI (L.map fun g => seenA a g - a) = seenA a L[0] - a ∧ mxI (L.map fun g => seenA a g - a) = seenA a (L[L.length - 1]'(by omega)) - a := by
 have hs2 : (L.map fun g => seenA a g - a).Pairwise (· ≤ ·) := hs.map _ fun x y h => seen_mono ha (by omega)
 rw [mnI_sorted hs2, mxI_sorted hs2]
 constructor
 ·cases L with
  | nil => simp at hp
  | cons b l => rfl
 ·rw [List.getLastD_eq_getLast?, List.getLast?_eq_getElem?]
  have h1 : L.length - 1 < L.length := by omega
  simp [List.getElem?_eq_getElem h1]

theorem count_tl {w : Ws} (hok : WsOk w) {d : Nat} (hd : d ≤ w.last.toNat) (a s : Int) :
  blameL (onC (co w (gl w)) (d : Nat) []) a s = if (tlW w).countP (fun l => seenA a (pF l d) == s) = (tlW w).length then 1 else if (tlW w).countP (fun l => seenA a (pF l d) == s) = 0 then 2 else 3 := by
 have h1 := any_tl hok hd (fun g => seenA a g == s)
 have h2 := any_tl hok hd (fun g => !(seenA a g == s))
 unfold blameL
 have e1 : ((onC (co w (gl w)) (d : Nat) []).countP (fun g => seenA a g == s) = (onC (co w (gl w)) (d : Nat) []).length) ↔ ((tlW w).countP (fun l => seenA a (pF l d) == s) = (tlW w).length) := by
  rw [List.countP_eq_length, List.countP_eq_length]
  rw [Bool.eq_iff_iff, List.any_eq_true, List.any_eq_true] at h2
  constructor
  ·intro h l hl
   refine Classical.byContradiction fun hn => ?_
   obtain ⟨g, hg, hb⟩ := h2.2 ⟨l, hl, by simpa using hn⟩
   rw [h g hg] at hb; exact absurd hb (by decide)
  ·intro h g hg
   refine Classical.byContradiction fun hn => ?_
   obtain ⟨l, hl, hb⟩ := h2.1 ⟨g, hg, by simpa using hn⟩
   rw [h l hl] at hb; exact absurd hb (by decide)
 have e2 : ((onC (co w (gl w)) (d : Nat) []).countP (fun g => seenA a g == s) = 0) ↔ ((tlW w).countP (fun l => seenA a (pF l d) == s) = 0) := by
  rw [List.countP_eq_zero, List.countP_eq_zero]
  rw [Bool.eq_iff_iff, List.any_eq_true, List.any_eq_true] at h1
  constructor
  ·intro h l hl hb
   obtain ⟨g, hg, hb⟩ := h1.2 ⟨l, hl, hb⟩
   exact h g hg hb
  ·intro h g hg hb
   obtain ⟨l, hl, hb⟩ := h1.1 ⟨g, hg, hb⟩
   exact h l hl hb
 simp only [e1, e2]

/-- What is known of a day of an open instrument. -/
theorem day_on {w : Ws} (hn : WsLen w) (hsm : checkW w = 0 → SmallW w) {day : Int} {is : Bool} (hz : openW w is = 0) (hd : dayB w day = true) :
    Pure Tryz.prog 84 [encWs w, .bool is] (.tup [.sl false false ((tlW w).map rowP), encI 0]) ∧
    Pure Tryz.prog 87 [encWs w, .sl false false ((tlW w).map rowP), encI day] (.sl false false ((onC (co w (gl w)) day []).map cI)) ∧
    onC (co w (gl w)) day [] ≠ [] ∧ (onC (co w (gl w)) day []).length ≤ 101 ∧ (∀ z ∈ onC (co w (gl w)) day [], -50 ≤ z ∧ z ≤ 50) ∧ 0 ≤ day ∧ day ≤ w.last := by
  obtain ⟨hok, his, hcan⟩ := openW_ok hz
  have hlen := tlW_len hok (hsm (checkW_ok.2 hok))
  have hdd : 0 ≤ day ∧ day ≤ w.last := by simpa [dayB] using hd
  obtain ⟨d, rfl⟩ : ∃ d : Nat, day = d := ⟨day.toNat, by omega⟩
  have hdl : d ≤ w.last.toNat := by omega
  have hgn := hok.num.gain
  have h := q_on87 w (gl w) false false (tlW w) d hgn (by omega) fun l hl => by have := ((mem_tlW hok).1 hl).1; omega
  rw [onR_tl hok hdl] at h
  have hne := on_ne_nil' hcan (d := d) (by simpa using hdl)
  have he : (onC (co w (gl w)) (d : Nat) []).isEmpty = false := by simpa using hne
  rw [he] at h
  refine ⟨known_ok hn hsm hz, h, hne, onC_len _ _ _ hgn, fun z hz' => ?_, hdd⟩
  have h1 := onC_bd hz'
  simp only at h1
  omega


theorem q_errs47 (w : Ws) (day a : Int) (hn : WsLen w) (hsm : checkW w = 0 → SmallW w) : Pure Tryz.prog 47 [encWs w, encI day, encI a] (.tup [.agg [encI (errW w day a).1, encI (errW w day a).2], encI (openW w (dayB w day && areaB a))]) := by
 by_cases hz : openW w (dayB w day && areaB a) = 0
 ·obtain ⟨hok, his, hcan⟩ := openW_ok hz
  simp only [Bool.and_eq_true] at his
  obtain ⟨h1, h2⟩ := his
  obtain ⟨hkn, hon, hne, hln, hbd, hd1⟩ := day_on hn hsm hz h1
  have ha := areaB_iff.1 h2
  have hV : errW w day a = (mnI (errL (co w (gl w)) day a), mxI (errL (co w (gl w)) day a)) := if_pos hz
  have hso := onC_sorted (co w (gl w)) day []
  rw [hV, hz]
  unfold errL
  rw [h1, h2] at hkn
  simp only [Bool.and_self] at hkn
  generalize onC (co w (gl w)) day [] = L at *
  have hp : 0 < L.length := List.length_pos_iff.2 hne
  have hlt : L.length - 1 < L.length := by omega
  obtain ⟨e1, e2⟩ := err_ends hso (a := a) (by omega) hp
  rw [e1, e2]
  have b0 := hbd _ (List.getElem_mem hp)
  have b1 := hbd _ (List.getElem_mem hlt)
  have s0 := seenA_bd ha b0
  have s1 := seenA_bd ha b1
  have w0 : IntKind.i64.wrap (seenA a L[0] - a) = seenA a L[0] - a := wrap_id (by omega) (by omega)
  have w1 : IntKind.i64.wrap (seenA a L[L.length - 1] - a) = seenA a L[L.length - 1] - a := wrap_id (by omega) (by omega)
  have hwr : IntKind.i64.wrap ((L.length : Int) - 1) = ((L.length - 1 : Nat) : Int) := by
   rw [wrap_id (by omega) (by omega)]; omega
  generalize tlW w = T at *
  refine ZF (fn := Tryz.f47) [.cell 6 23, .tmp 7] ⟨Tryz.func47, rfl, by kernel_rfl⟩ fun x hx hσ => ?_
  (repeat refine ZQ ?_); refine ZR fun K hK => ?_; simp (maxSteps := 1000000) [ty28, ty37, ty23]; refine hK _ ?_; clear hK K
  (repeat refine ZQ ?_); refine ZD [] [0, 1, 2, 3, 4, 5, 6, 7, 8, 9, 10, 11, 12, 13] fun K hK => ?_; simp (maxSteps := 1000000) [ty28, ty3, ty4]
  refine ZE (q_isDay86 w day) ?_; simp (maxSteps := 1000000) [ty28, ty3, ty4, h1]
  refine ZE (q_isArea93 a) ?_; simp (maxSteps := 1000000) [ty28, ty3, ty4, h2]
  refine ZE (hkn) ?_; simp (maxSteps := 1000000) [ty110]
  refine hK _ ?_; clear hK K
  (repeat refine ZQ ?_); refine ZR fun K hK => ?_; simp (maxSteps := 1000000) [ty37]; refine hK _ ?_; clear hK K
  (repeat refine ZQ ?_); refine ZC (fun hd => ?_) (fun hd => ?_)
  ·simp at hd
  ·clear hd
   refine awp_skip ?_
   (repeat refine ZQ ?_); refine ZR fun K hK => ?_; simp (maxSteps := 1000000) [ty28, ty110, ty3]
   refine callP hon (by simp [purel, C.isPure]) ?_
   simp [ty29]
   refine hK _ ?_; clear hK K
   (repeat refine ZQ ?_); refine ZD [] [0, 1, 2, 3, 4, 5, 6, 7, 8, 9, 10, 11, 12, 13, 14, 15, 16, 17, 18, 19] fun K hK => ?_; simp (maxSteps := 1000000) [ty29, ty3, ty23, hp, hne]
   refine ZE (q_seen25 a L[0] ha b0) ?_; simp (maxSteps := 1000000) [ty29, ty3, ty23, hwr, hlt, hne, w0]
   refine ZE (q_seen25 a L[L.length - 1] ha b1) ?_; simp (maxSteps := 1000000) [ty23, ty3, w1]
   refine hK _ ?_; clear hK K
   (repeat refine ZQ ?_); refine awp_ret ?_; refine And.intro (Or.inr rfl) ?_
   simp [retC, resC, viewC, mapO, ty23]
 ·have hV : errW w day a = (0, 0) := if_neg hz
  have hkn := known_no (is := dayB w day && areaB a) hn hsm hz
  cases h1 : dayB w day
  ·rw [h1] at hkn hz
   simp only [Bool.false_and] at hkn hz ⊢
   refine ZF (fn := Tryz.f47) [.cell 6 23, .tmp 7] ⟨Tryz.func47, rfl, by kernel_rfl⟩ fun x hx hσ => ?_
   (repeat refine ZQ ?_); refine ZR fun K hK => ?_; simp (maxSteps := 1000000) [ty28, ty37, ty23]; refine hK _ ?_; clear hK K
   (repeat refine ZQ ?_); refine ZD [] [0, 1, 2, 3, 4, 5, 6, 7, 8, 9, 10, 11, 12, 13] fun K hK => ?_; simp (maxSteps := 1000000) [ty28, ty3, ty4]
   refine ZE (q_isDay86 w day) ?_; simp (maxSteps := 1000000) [ty28, ty3, ty4, h1]
   refine ZE (hkn) ?_; simp (maxSteps := 1000000) [ty110]
   refine hK _ ?_; clear hK K
   (repeat refine ZQ ?_); refine ZR fun K hK => ?_; simp (maxSteps := 1000000) [ty37]; refine hK _ ?_; clear hK K
   (repeat refine ZQ ?_); refine ZC (hc := by simp [hz]; rfl) (fun hd => ?_) (fun hd => ?_)
   ·clear hd
    (repeat refine ZQ ?_); refine ZR fun K hK => ?_; simp (maxSteps := 1000000) [ty37, ty23]; refine hK _ ?_; clear hK K
    (repeat refine ZQ ?_); refine awp_ret ?_; refine And.intro (Or.inr rfl) ?_
    simp [retC, resC, viewC, mapO, hz, hV, ty23]
   ·simp [hz] at hd
  ·cases h2 : areaB a
   ·rw [h1, h2] at hkn hz
    simp only [Bool.and_false] at hkn hz ⊢
    refine ZF (fn := Tryz.f47) [.cell 6 23, .tmp 7] ⟨Tryz.func47, rfl, by kernel_rfl⟩ fun x hx hσ => ?_
    (repeat refine ZQ ?_); refine ZR fun K hK => ?_; simp (maxSteps := 1000000) [ty28, ty37, ty23]; refine hK _ ?_; clear hK K
    (repeat refine ZQ ?_); refine ZD [] [0, 1, 2, 3, 4, 5, 6, 7, 8, 9, 10, 11, 12, 13] fun K hK => ?_; simp (maxSteps := 1000000) [ty28, ty3, ty4]
    refine ZE (q_isDay86 w day) ?_; simp (maxSteps := 1000000) [ty28, ty3, ty4, h1]
    refine ZE (q_isArea93 a) ?_; simp (maxSteps := 1000000) [ty28, ty3, ty4, h2]
    refine ZE (hkn) ?_; simp (maxSteps := 1000000) [ty110]
    refine hK _ ?_; clear hK K
    (repeat refine ZQ ?_); refine ZR fun K hK => ?_; simp (maxSteps := 1000000) [ty37]; refine hK _ ?_; clear hK K
    (repeat refine ZQ ?_); refine ZC (hc := by simp [hz]; rfl) (fun hd => ?_) (fun hd => ?_)
    ·clear hd
     (repeat refine ZQ ?_); refine ZR fun K hK => ?_; simp (maxSteps := 1000000) [ty37, ty23]; refine hK _ ?_; clear hK K
     (repeat refine ZQ ?_); refine awp_ret ?_; refine And.intro (Or.inr rfl) ?_
     simp [retC, resC, viewC, mapO, hz, hV, ty23]
    ·simp [hz] at hd
   ·rw [h1, h2] at hkn hz
    simp only [Bool.and_self] at hkn hz ⊢
    refine ZF (fn := Tryz.f47) [.cell 6 23, .tmp 7] ⟨Tryz.func47, rfl, by kernel_rfl⟩ fun x hx hσ => ?_
    (repeat refine ZQ ?_); refine ZR fun K hK => ?_; simp (maxSteps := 1000000) [ty28, ty37, ty23]; refine hK _ ?_; clear hK K
    (repeat refine ZQ ?_); refine ZD [] [0, 1, 2, 3, 4, 5, 6, 7, 8, 9, 10, 11, 12, 13] fun K hK => ?_; simp (maxSteps := 1000000) [ty28, ty3, ty4]
    refine ZE (q_isDay86 w day) ?_; simp (maxSteps := 1000000) [ty28, ty3, ty4, h1]
    refine ZE (q_isArea93 a) ?_; simp (maxSteps := 1000000) [ty28, ty3, ty4, h2]
    refine ZE (hkn) ?_; simp (maxSteps := 1000000) [ty110]
    refine hK _ ?_; clear hK K
    (repeat refine ZQ ?_); refine ZR fun K hK => ?_; simp (maxSteps := 1000000) [ty37]; refine hK _ ?_; clear hK K
    (repeat refine ZQ ?_); refine ZC (hc := by simp [hz]; rfl) (fun hd => ?_) (fun hd => ?_)
    ·clear hd
     (repeat refine ZQ ?_); refine ZR fun K hK => ?_; simp (maxSteps := 1000000) [ty37, ty23]; refine hK _ ?_; clear hK K
     (repeat refine ZQ ?_); refine awp_ret ?_; refine And.intro (Or.inr rfl) ?_
     simp [retC, resC, viewC, mapO, hz, hV, ty23]
    ·simp [hz] at hd


theorem q_real49 (w : Ws) (day s : Int) (hn : WsLen w) (hsm : checkW w = 0 → SmallW w) : Pure Tryz.prog 49 [encWs w, encI day, encI s] (.tup [.sl (realW w day s).isEmpty (openW w (dayB w day && countB s) != 0) ((realW w day s).map cI), encI (openW w (dayB w day && countB s))]) := by
 by_cases hz : openW w (dayB w day && countB s) = 0
 ·obtain ⟨hok, his, hcan⟩ := openW_ok hz
  simp only [Bool.and_eq_true] at his
  obtain ⟨h1, h2⟩ := his
  obtain ⟨hkn, hon, hne, hln, hmem, hd1⟩ := day_on hn hsm hz h1
  have hL : realW w day s = fixTo (fun a => (onC (co w (gl w)) day []).any fun g => seenA a g == s) 9001 := if_pos hz
  rw [hz]
  rw [h1, h2] at hkn
  simp only [Bool.and_self] at hkn
  generalize onC (co w (gl w)) day [] = G at *
  obtain ⟨A, hA⟩ : ∃ A : Nat → List Int, ∀ i, A i = fixTo (fun a => G.any fun g => seenA a g == s) i := ⟨_, fun _ => rfl⟩
  have hA0 : A 0 = [] := hA 0
  have hAl : ∀ i, (A i).length ≤ i := fun i => by rw [hA]; exact fixTo_len _ _
  have hAs : ∀ i : Nat, A (i + 1) = if (G.any fun g => seenA i g == s) then A i ++ [(i : Int)] else A i := fun i => by rw [hA, hA]; rfl
  rw [← hA] at hL
  clear hA
  rw [hL]
  generalize tlW w = T at *
  refine ZF (fn := Tryz.f49) [.tmp 6, .tmp 7] ⟨Tryz.func49, rfl, by kernel_rfl⟩ fun x hx hσ => ?_
  (repeat refine ZQ ?_); refine ZR fun K hK => ?_; simp (maxSteps := 1000000) [ty28, ty37, ty29]; refine hK _ ?_; clear hK K
  (repeat refine ZQ ?_); refine ZD [] [0, 1, 2, 3, 4, 5, 6, 7, 8, 9, 10, 11, 12, 13] fun K hK => ?_; simp (maxSteps := 1000000) [ty28, ty3, ty4]
  refine ZE (q_isDay86 w day) ?_; simp (maxSteps := 1000000) [ty28, ty3, ty4, h1]
  refine ZE (q_isCount94 s) ?_; simp (maxSteps := 1000000) [ty28, ty3, ty4, h2]
  refine ZE (hkn) ?_; simp (maxSteps := 1000000) [ty110]
  refine hK _ ?_; clear hK K
  (repeat refine ZQ ?_); refine ZR fun K hK => ?_; simp (maxSteps := 1000000) [ty37]; refine hK _ ?_; clear hK K
  (repeat refine ZQ ?_); refine ZC (fun hd => ?_) (fun hd => ?_)
  ·simp at hd
  ·clear hd
   refine awp_skip ?_
   (repeat refine ZQ ?_); refine ZR fun K hK => ?_; simp (maxSteps := 1000000) [ty28, ty110, ty3]
   refine callP hon (by simp [purel, C.isPure]) ?_
   simp [ty29]
   refine hK _ ?_; clear hK K
   (repeat refine ZQ ?_); refine ZR fun K hK => ?_; simp (maxSteps := 1000000) [ty29]; refine hK _ ?_; clear hK K
   (repeat refine ZQ ?_); refine ZR fun K hK => ?_; simp (maxSteps := 1000000) [ty3]; refine hK _ ?_; clear hK K
   (repeat refine ZQ ?_); refine awp_block ?_
   refine AWP.weak ?_ (wk_nil 11 11 1 (fu := true) (by simp) (by simp))
   refine awp_loop (fun i : Nat => ⟨ofL [(2, encI s), (10, .sl false false (G.map cI)), (11, .own 11 1 0 (A i).length), (12, encI i)], stoT [(11, 11, .live ⟨(A i).isEmpty, false, 1, (A i).map cI⟩)]⟩)
    (fun i => i ≤ 9001) (fun i => 9001 - i) 0 (Nat.zero_le _) ?_ ?_
   ·rw [hA0]
    exact ZW
   ·intro i hi
    have hl := hAl i
    have hst := hAs i
    have hwi : IntKind.i64.wrap ((i : Int) + 1) = ((i + 1 : Nat) : Int) := by rw [wrap_id (by omega) (by omega)]; rfl
    generalize hacc : A i = acc at *
    by_cases hq : (i : Int) ≤ 9000
    ·(repeat refine ZQ ?_); refine ZR fun K hK => ?_; simp (maxSteps := 1000000) [ty3, hq]; refine hK _ ?_; clear hK K
     (repeat refine ZQ ?_); refine ZC (hc := by simp [hq]; rfl) (fun hd => ?_) (fun hd => ?_)
     ·clear hd
      refine awp_skip ?_
      (repeat refine ZQ ?_); refine awp_block ?_
      (repeat refine ZQ ?_); refine ZR fun K hK => ?_; simp (maxSteps := 1000000) [ty3]; refine hK _ ?_; clear hK K
      (repeat refine ZQ ?_); refine awp_block ?_
      refine awp_loop (fun j : Nat => ⟨ofL [(2, encI s), (10, .sl false false (G.map cI)), (11, .own 11 1 0 acc.length), (12, encI i), (13, encI j)], stoT [(11, 11, .live ⟨acc.isEmpty, false, 1, acc.map cI⟩)]⟩)
       (fun j => j ≤ G.length ∧ ∀ j' (h : j' < G.length), j' < j → (seenA i G[j'] == s) = false) (fun j => G.length - j) 0 ⟨Nat.zero_le _, fun j' _ h => by omega⟩ ?_ ?_
      ·exact ZW
      ·rintro j ⟨hj, hno⟩
       (repeat refine ZQ ?_); refine ZR fun K hK => ?_; simp (maxSteps := 1000000) [ty29, ty3]; refine hK _ ?_; clear hK K
       (repeat refine ZQ ?_); refine ZC (fun hc2 => ?_) (fun hc2 => ?_)
       ·simp at hc2
        refine awp_skip ?_
        (repeat refine ZQ ?_); refine awp_block ?_
        (repeat refine ZQ ?_); refine ZR fun K hK => ?_; simp (maxSteps := 1000000) [ty29, ty3, hc2]
        refine ZP (q_seen25 i G[j] ⟨by omega, by omega⟩ (hmem _ (List.getElem_mem hc2))) ?_; simp (maxSteps := 1000000) [ty3]
        refine hK _ ?_; clear hK K; (first | show AWP _ _ _ _ _ | show ∃ _, _ | skip)
        cases hb : seenA i G[j] == s
        ·(repeat refine ZQ ?_); refine ZC (hc := by simp [hb]; rfl) (fun hd => ?_) (fun hd => ?_)
         ·exact absurd hd (by simp [hb])
         ·clear hd
          refine awp_skip ?_
          (repeat refine ZQ ?_); refine ZR fun K hK => ?_; simp (maxSteps := 1000000) [ty3]; refine hK _ ?_; clear hK K; (first | show AWP _ _ _ _ _ | show ∃ _, _ | skip)
          rw [wrap_id (z := (j : Int) + 1) (by omega) (by omega)]
          refine ⟨j + 1, ⟨by omega, fun j' h1 h2 => ?_⟩, by omega, ?_⟩
          ·by_cases e : j' = j
           ·subst e; exact hb
           ·exact hno j' h1 (by omega)
          ·exact ZW
        ·have hany : (G.any fun g => seenA i g == s) = true := List.any_eq_true.2 ⟨_, List.getElem_mem hc2, hb⟩
         rw [hany] at hst
         simp at hst
         (repeat refine ZQ ?_); refine ZC (hc := by simp [hb]; rfl) (fun hd => ?_) (fun hd => ?_)
         ·clear hd
          (repeat refine ZQ ?_); refine ZR fun K hK => ?_; simp (maxSteps := 1000000) [ty29, ty3]
          refine ⟨by omega, ?_⟩
          refine hK _ ?_; clear hK K
          (repeat refine ZQ ?_); refine awp_exit ?_
          (repeat refine ZQ ?_); refine ZR fun K hK => ?_; simp (maxSteps := 1000000) [ty3]; refine hK _ ?_; clear hK K; (first | show AWP _ _ _ _ _ | show ∃ _, _ | skip)
          refine ⟨i + 1, by omega, by omega, ?_⟩
          rw [hst, hwi]
          refine wk_shape2 [(11, 54, .live ⟨(acc ++ [(i : Int)]).isEmpty, false, 1, (acc ++ [(i : Int)]).map cI⟩)] (by first | rfl | (simp only [if_pos, if_true]; rfl)) (shp0 hσ (by simp) (by simp) ?_) ?_
          ·simp [SlotOk] <;> (repeat' (first | (refine RowsOk.same ?_; simp [purel, C.isPure]; done) | (refine rowsCons ?_; simp [mtl, mtc, mT, mH, C.isPure, purel]; done) | (refine rowsCons ?_; simp [mtl, mtc, mT, mH, C.isPure, purel]) | refine And.intro ?_ ?_))
          ·simp [mtc, mtl, mT, C.isPure, purel] <;> (try simp (disch := omega) [wrap_id]) <;> (try omega)
         ·exact absurd hd (by simp [hb])
       ·simp at hc2
        (repeat refine ZQ ?_); refine awp_exit ?_; (first | show AWP _ _ _ _ _ | show ∃ _, _ | skip)
        have hany : (G.any fun g => seenA i g == s) = false := by
         rw [List.any_eq_false]
         intro g hg
         obtain ⟨j', h1, rfl⟩ := List.getElem_of_mem hg
         rw [hno j' h1 (by omega)]
         decide
        rw [hany] at hst
        simp at hst
        (repeat refine ZQ ?_); refine ZR fun K hK => ?_; simp (maxSteps := 1000000) [ty3]; refine hK _ ?_; clear hK K; (first | show AWP _ _ _ _ _ | show ∃ _, _ | skip)
        refine ⟨i + 1, by omega, by omega, ?_⟩
        rw [hst, hwi]
        exact ZW
     ·simp [hq] at hd
    ·(repeat refine ZQ ?_); refine ZR fun K hK => ?_; simp (maxSteps := 1000000) [ty3, hq]; refine hK _ ?_; clear hK K
     (repeat refine ZQ ?_); refine ZC (hc := by simp [hq]; rfl) (fun hd => ?_) (fun hd => ?_)
     ·simp [hq] at hd
     ·clear hd
      (repeat refine ZQ ?_); refine awp_exit ?_; (first | show AWP _ _ _ _ _ | show ∃ _, _ | skip)
      have hin : i = 9001 := by omega
      rw [← hin, hacc]
      (repeat refine ZQ ?_); refine ZR fun K hK => ?_; simp (maxSteps := 1000000) [ty29, ty37]; refine hK _ ?_; clear hK K
      (repeat refine ZQ ?_); refine awp_ret ?_; refine And.intro (Or.inr rfl) ?_
      simp [retC, resC, viewC, mapO, purel, C.isPure]
 ·have hV : realW w day s = [] := if_neg hz
  have hkn := known_no (is := dayB w day && countB s) hn hsm hz
  cases h1 : dayB w day
  ·rw [h1] at hkn hz
   simp only [Bool.false_and] at hkn hz ⊢
   refine ZF (fn := Tryz.f49) [.tmp 6, .tmp 7] ⟨Tryz.func49, rfl, by kernel_rfl⟩ fun x hx hσ => ?_
   (repeat refine ZQ ?_); refine ZR fun K hK => ?_; simp (maxSteps := 1000000) [ty28, ty37, ty29]; refine hK _ ?_; clear hK K
   (repeat refine ZQ ?_); refine ZD [] [0, 1, 2, 3, 4, 5, 6, 7, 8, 9, 10, 11, 12, 13] fun K hK => ?_; simp (maxSteps := 1000000) [ty28, ty3, ty4]
   refine ZE (q_isDay86 w day) ?_; simp (maxSteps := 1000000) [ty28, ty3, ty4, h1]
   refine ZE (hkn) ?_; simp (maxSteps := 1000000) [ty110]
   refine hK _ ?_; clear hK K
   (repeat refine ZQ ?_); refine ZR fun K hK => ?_; simp (maxSteps := 1000000) [ty37]; refine hK _ ?_; clear hK K
   (repeat refine ZQ ?_); refine ZC (hc := by simp [hz]; rfl) (fun hd => ?_) (fun hd => ?_)
   ·clear hd
    (repeat refine ZQ ?_); refine ZR fun K hK => ?_; simp (maxSteps := 1000000) [ty37, ty29]; refine hK _ ?_; clear hK K
    (repeat refine ZQ ?_); refine awp_ret ?_; refine And.intro (Or.inr rfl) ?_
    simp [retC, resC, viewC, mapO, hz, hV]
   ·simp [hz] at hd
  ·cases h2 : countB s
   ·rw [h1, h2] at hkn hz
    simp only [Bool.and_false] at hkn hz ⊢
    refine ZF (fn := Tryz.f49) [.tmp 6, .tmp 7] ⟨Tryz.func49, rfl, by kernel_rfl⟩ fun x hx hσ => ?_
    (repeat refine ZQ ?_); refine ZR fun K hK => ?_; simp (maxSteps := 1000000) [ty28, ty37, ty29]; refine hK _ ?_; clear hK K
    (repeat refine ZQ ?_); refine ZD [] [0, 1, 2, 3, 4, 5, 6, 7, 8, 9, 10, 11, 12, 13] fun K hK => ?_; simp (maxSteps := 1000000) [ty28, ty3, ty4]
    refine ZE (q_isDay86 w day) ?_; simp (maxSteps := 1000000) [ty28, ty3, ty4, h1]
    refine ZE (q_isCount94 s) ?_; simp (maxSteps := 1000000) [ty28, ty3, ty4, h2]
    refine ZE (hkn) ?_; simp (maxSteps := 1000000) [ty110]
    refine hK _ ?_; clear hK K
    (repeat refine ZQ ?_); refine ZR fun K hK => ?_; simp (maxSteps := 1000000) [ty37]; refine hK _ ?_; clear hK K
    (repeat refine ZQ ?_); refine ZC (hc := by simp [hz]; rfl) (fun hd => ?_) (fun hd => ?_)
    ·clear hd
     (repeat refine ZQ ?_); refine ZR fun K hK => ?_; simp (maxSteps := 1000000) [ty37, ty29]; refine hK _ ?_; clear hK K
     (repeat refine ZQ ?_); refine awp_ret ?_; refine And.intro (Or.inr rfl) ?_
     simp [retC, resC, viewC, mapO, hz, hV]
    ·simp [hz] at hd
   ·rw [h1, h2] at hkn hz
    simp only [Bool.and_self] at hkn hz ⊢
    refine ZF (fn := Tryz.f49) [.tmp 6, .tmp 7] ⟨Tryz.func49, rfl, by kernel_rfl⟩ fun x hx hσ => ?_
    (repeat refine ZQ ?_); refine ZR fun K hK => ?_; simp (maxSteps := 1000000) [ty28, ty37, ty29]; refine hK _ ?_; clear hK K
    (repeat refine ZQ ?_); refine ZD [] [0, 1, 2, 3, 4, 5, 6, 7, 8, 9, 10, 11, 12, 13] fun K hK => ?_; simp (maxSteps := 1000000) [ty28, ty3, ty4]
    refine ZE (q_isDay86 w day) ?_; simp (maxSteps := 1000000) [ty28, ty3, ty4, h1]
    refine ZE (q_isCount94 s) ?_; simp (maxSteps := 1000000) [ty28, ty3, ty4, h2]
    refine ZE (hkn) ?_; simp (maxSteps := 1000000) [ty110]
    refine hK _ ?_; clear hK K
    (repeat refine ZQ ?_); refine ZR fun K hK => ?_; simp (maxSteps := 1000000) [ty37]; refine hK _ ?_; clear hK K
    (repeat refine ZQ ?_); refine ZC (hc := by simp [hz]; rfl) (fun hd => ?_) (fun hd => ?_)
    ·clear hd
     (repeat refine ZQ ?_); refine ZR fun K hK => ?_; simp (maxSteps := 1000000) [ty37, ty29]; refine hK _ ?_; clear hK K
     (repeat refine ZQ ?_); refine awp_ret ?_; refine And.intro (Or.inr rfl) ?_
     simp [retC, resC, viewC, mapO, hz, hV]
    ·simp [hz] at hd

set_option maxHeartbeats 8000000
set_option maxRecDepth 20000

-- Blame of the reference

theorem count_step {α : Type} (f : α → Bool) {T : List α} {i : Nat} (hi : i < T.length) : (T.take (i + 1)).countP f = (T.take i).countP f + if f T[i] then 1 else 0 := by
 rw [List.take_succ_eq_append_getElem hi, List.countP_append]
 cases h : f T[i] <;> simp [h]


theorem q_blame51 (w : Ws) (day a s : Int) (hn : WsLen w) (hsm : checkW w = 0 → SmallW w) : Pure Tryz.prog 51 [encWs w, encI day, encI a, encI s] (.tup [encI (blameW w day a s), encI (openW w (dayB w day && areaB a && countB s))]) := by
 by_cases hz : openW w (dayB w day && areaB a && countB s) = 0
 ·obtain ⟨hok, his, hcan⟩ := openW_ok hz
  simp only [Bool.and_eq_true] at his
  obtain ⟨⟨h1, h2⟩, h3⟩ := his
  have hkn := known_ok (is := dayB w day && areaB a && countB s) hn hsm hz
  have ha := areaB_iff.1 h2
  have hlen := tlW_len hok (hsm (checkW_ok.2 hok))
  have hdd : 0 ≤ day ∧ day ≤ w.last := by simpa [dayB] using h1
  have hB : blameW w day a s = blameL (onC (co w (gl w)) day []) a s := if_pos hz
  rw [hB, hz]
  clear hB
  have hgn := hok.num.gain
  obtain ⟨d, rfl⟩ : ∃ d : Nat, day = d := ⟨day.toNat, by omega⟩
  have hdl : d ≤ w.last.toNat := by omega
  rw [count_tl hok hdl]
  have hlT : ∀ l ∈ tlW w, d < l.length := fun l hl => by have := ((mem_tlW hok).1 hl).1; omega
  have hbT : ∀ l ∈ tlW w, -50 ≤ pF l d ∧ pF l d ≤ 50 := fun l hl => by have := tlW_bd hok hl hdl; omega
  rw [h1, h2, h3] at hkn
  simp only [Bool.and_self] at hkn
  have hpp := rowP_pure (tlW w)
  generalize tlW w = T at *
  obtain ⟨f, hf⟩ : ∃ f : List Int → Bool, f = fun l => seenA a (pF l d) == s := ⟨_, rfl⟩
  rw [← hf]
  have hcs := fun i (hi : i < T.length) => count_step f hi
  have hc0 : (T.take 0).countP f = 0 := rfl
  have hcN : (T.take T.length).countP f = T.countP f := by rw [List.take_length]
  have hcl : ∀ i, i ≤ T.length → (T.take i).countP f ≤ i := fun i hi => Nat.le_trans List.countP_le_length (by rw [List.length_take]; omega)
  have hcT : T.countP f ≤ T.length := List.countP_le_length
  obtain ⟨n, hn⟩ : ∃ n : Nat → Nat, ∀ i, (T.take i).countP f = n i := ⟨_, fun _ => rfl⟩
  simp only [hn] at hcs hc0 hcN hcl
  rw [← hcN] at hcT ⊢
  refine ZF (fn := Tryz.f51) [.tmp 8, .tmp 9] ⟨Tryz.func51, rfl, by kernel_rfl⟩ fun x hx hσ => ?_
  (repeat refine ZQ ?_); refine ZR fun K hK => ?_; simp (maxSteps := 1000000) [ty28, ty37, ty3]; refine hK _ ?_; clear hK K
  (repeat refine ZQ ?_); refine ZD [] [0, 1, 2, 3, 4, 5, 6, 7, 8, 9, 10, 11, 12, 13, 14, 15, 16, 17] fun K hK => ?_; simp (maxSteps := 1000000) [ty28, ty3, ty4]
  refine ZE (q_isDay86 w d) ?_; simp (maxSteps := 1000000) [ty28, ty3, ty4, h1]
  refine ZE (q_isArea93 a) ?_; simp (maxSteps := 1000000) [ty28, ty3, ty4, h2]
  refine ZE (q_isCount94 s) ?_; simp (maxSteps := 1000000) [ty28, ty3, ty4, h3]
  refine ZE (hkn) ?_; simp (maxSteps := 1000000) [ty110]
  refine hK _ ?_; clear hK K
  (repeat refine ZQ ?_); refine ZR fun K hK => ?_; simp (maxSteps := 1000000) [ty37]; refine hK _ ?_; clear hK K
  (repeat refine ZQ ?_); refine ZC (fun hd => ?_) (fun hd => ?_)
  ·simp at hd
  ·clear hd
   refine awp_skip ?_
   (repeat refine ZQ ?_); refine ZR fun K hK => ?_; simp (maxSteps := 1000000) [ty3]; refine hK _ ?_; clear hK K
   (repeat refine ZQ ?_); refine ZR fun K hK => ?_; simp (maxSteps := 1000000) [ty3]; refine hK _ ?_; clear hK K
   (repeat refine ZQ ?_); refine awp_block ?_
   refine awp_loop (fun i : Nat => ⟨ofL [(1, encI d), (2, encI a), (3, encI s), (10, .sl false false (T.map rowP)), (12, encI (n i)), (13, encI i)], stoT []⟩)
    (fun i => i ≤ T.length) (fun i => T.length - i) 0 (Nat.zero_le _) ?_ ?_
   ·rw [hc0]
    exact ZW
   ·intro i hi
    (repeat refine ZQ ?_); refine ZR fun K hK => ?_; simp (maxSteps := 1000000) [ty110, ty3]; refine hK _ ?_; clear hK K
    (repeat refine ZQ ?_); refine ZC (fun hc => ?_) (fun hc => ?_)
    ·simp at hc
     have hwi : IntKind.i64.wrap ((i : Int) + 1) = ((i + 1 : Nat) : Int) := by rw [wrap_id (by omega) (by omega)]; rfl
     have hst := hcs i hc
     have hni := hcl i (by omega)
     have hdl2 := hlT _ (List.getElem_mem hc)
     have hbg := hbT _ (List.getElem_mem hc)
     have hpk := pF_at hdl2
     rw [hf] at hst
     simp only at hst
     rw [hpk] at hbg
     simp only [hpk] at hst
     have hwn : IntKind.i64.wrap ((n i : Int) + 1) = ((n i + 1 : Nat) : Int) := by rw [wrap_id (by omega) (by omega)]; rfl
     refine awp_skip ?_
     (repeat refine ZQ ?_); refine awp_block ?_
     (repeat refine ZQ ?_); refine ZR fun K hK => ?_; simp (maxSteps := 1000000) [ty110, ty29, ty3, hc, hdl2]
     refine ZP (q_seen25 a T[i][d] ha hbg) ?_; simp (maxSteps := 1000000) [ty3]
     refine hK _ ?_; clear hK K; (first | show AWP _ _ _ _ _ | show ∃ _, _ | skip)
     cases hb : seenA a T[i][d] == s
     ·rw [hb] at hst
      simp at hst
      (repeat refine ZQ ?_); refine ZC (hc := by simp [hb]; rfl) (fun hd => ?_) (fun hd => ?_)
      ·simp [hb] at hd
      ·clear hd
       refine awp_skip ?_
       (repeat refine ZQ ?_); refine ZR fun K hK => ?_; simp (maxSteps := 1000000) [ty3]; refine hK _ ?_; clear hK K; (first | show AWP _ _ _ _ _ | show ∃ _, _ | skip)
       refine ⟨i + 1, by omega, by omega, ?_⟩
       rw [hst, hwi]
       exact ZW
     ·rw [hb] at hst
      simp at hst
      (repeat refine ZQ ?_); refine ZC (hc := by simp [hb]; rfl) (fun hd => ?_) (fun hd => ?_)
      ·clear hd
       (repeat refine ZQ ?_); refine ZR fun K hK => ?_; simp (maxSteps := 1000000) [ty3]; refine hK _ ?_; clear hK K
       (repeat refine ZQ ?_); refine ZR fun K hK => ?_; simp (maxSteps := 1000000) [ty3]; refine hK _ ?_; clear hK K; (first | show AWP _ _ _ _ _ | show ∃ _, _ | skip)
       refine ⟨i + 1, by omega, by omega, ?_⟩
       rw [hst, hwi, ← hwn]
       exact ZW
      ·simp [hb] at hd
    ·simp at hc
     (repeat refine ZQ ?_); refine awp_exit ?_; (first | show AWP _ _ _ _ _ | show ∃ _, _ | skip)
     have hiN : i = T.length := by omega
     rw [hiN]
     generalize n T.length = m at *
     (repeat refine ZQ ?_); refine ZR fun K hK => ?_; simp (maxSteps := 1000000) [ty3]; refine hK _ ?_; clear hK K
     (repeat refine ZQ ?_); refine awp_block ?_
     by_cases hm : m = T.length
     ·have hm2 : (m : Int) = T.length := by omega
      (repeat refine ZQ ?_); refine ZR fun K hK => ?_; simp (maxSteps := 1000000) [ty110, ty3, hm2]; refine hK _ ?_; clear hK K
      (repeat refine ZQ ?_); refine ZC (fun hd => ?_) (fun hd => ?_)
      ·clear hd
       (repeat refine ZQ ?_); refine ZR fun K hK => ?_; simp (maxSteps := 1000000) [ty3, ty37]; refine hK _ ?_; clear hK K
       (repeat refine ZQ ?_); refine awp_ret ?_; refine And.intro (Or.inr rfl) ?_
       simp [retC, resC, viewC, mapO, hm]
      ·simp at hd
     ·have hm2 : ((m : Int) == T.length) = false := by rw [beq_eq_false_iff_ne]; omega
      (repeat refine ZQ ?_); refine ZR fun K hK => ?_; simp (maxSteps := 1000000) [ty110, ty3, hm2]; refine hK _ ?_; clear hK K
      (repeat refine ZQ ?_); refine ZC (hc := by simp [hm2]; rfl) (fun hd => ?_) (fun hd => ?_)
      ·simp [hm2] at hd
      ·clear hd
       by_cases h0 : m = 0
       ·subst h0
        (repeat refine ZQ ?_); refine ZR fun K hK => ?_; simp (maxSteps := 1000000) [ty3]; refine hK _ ?_; clear hK K
        (repeat refine ZQ ?_); refine ZC (fun hd => ?_) (fun hd => ?_)
        ·clear hd
         (repeat refine ZQ ?_); refine ZR fun K hK => ?_; simp (maxSteps := 1000000) [ty3, ty37]; refine hK _ ?_; clear hK K
         (repeat refine ZQ ?_); refine awp_ret ?_; refine And.intro (Or.inr rfl) ?_
         simp [retC, resC, viewC, mapO]
         exact hm
        ·simp at hd
       ·have h02 : ((m : Int) == 0) = false := by rw [beq_eq_false_iff_ne]; omega
        (repeat refine ZQ ?_); refine ZR fun K hK => ?_; simp (maxSteps := 1000000) [ty3, h02]; refine hK _ ?_; clear hK K
        (repeat refine ZQ ?_); refine ZC (hc := by simp [h02]; rfl) (fun hd => ?_) (fun hd => ?_)
        ·simp [h02] at hd
        ·clear hd
         refine awp_skip ?_
         (repeat refine ZQ ?_); refine ZR fun K hK => ?_; simp (maxSteps := 1000000) [ty3, ty37]; refine hK _ ?_; clear hK K
         (repeat refine ZQ ?_); refine awp_ret ?_; refine And.intro (Or.inr rfl) ?_
         simp [retC, resC, viewC, mapO, hm, h0]
 ·have hV : blameW w day a s = 0 := if_neg hz
  have hkn := known_no (is := dayB w day && areaB a && countB s) hn hsm hz
  cases h1 : dayB w day
  ·rw [h1] at hkn hz
   simp only [Bool.false_and] at hkn hz ⊢
   refine ZF (fn := Tryz.f51) [.tmp 8, .tmp 9] ⟨Tryz.func51, rfl, by kernel_rfl⟩ fun x hx hσ => ?_
   (repeat refine ZQ ?_); refine ZR fun K hK => ?_; simp (maxSteps := 1000000) [ty28, ty37, ty3]; refine hK _ ?_; clear hK K
   (repeat refine ZQ ?_); refine ZD [] [0, 1, 2, 3, 4, 5, 6, 7, 8, 9, 10, 11, 12, 13, 14, 15, 16, 17] fun K hK => ?_; simp (maxSteps := 1000000) [ty28, ty3, ty4]
   refine ZE (q_isDay86 w day) ?_; simp (maxSteps := 1000000) [ty28, ty3, ty4, h1]
   refine ZE (hkn) ?_; simp (maxSteps := 1000000) [ty110]
   refine hK _ ?_; clear hK K
   (repeat refine ZQ ?_); refine ZR fun K hK => ?_; simp (maxSteps := 1000000) [ty37]; refine hK _ ?_; clear hK K
   (repeat refine ZQ ?_); refine ZC (hc := by simp [hz]; rfl) (fun hd => ?_) (fun hd => ?_)
   ·clear hd
    (repeat refine ZQ ?_); refine ZR fun K hK => ?_; simp (maxSteps := 1000000) [ty37, ty3]; refine hK _ ?_; clear hK K
    (repeat refine ZQ ?_); refine awp_ret ?_; refine And.intro (Or.inr rfl) ?_
    simp [retC, resC, viewC, mapO, hz, hV]
   ·simp [hz] at hd
  ·cases h2 : areaB a
   ·rw [h1, h2] at hkn hz
    simp only [Bool.and_false, Bool.false_and] at hkn hz ⊢
    refine ZF (fn := Tryz.f51) [.tmp 8, .tmp 9] ⟨Tryz.func51, rfl, by kernel_rfl⟩ fun x hx hσ => ?_
    (repeat refine ZQ ?_); refine ZR fun K hK => ?_; simp (maxSteps := 1000000) [ty28, ty37, ty3]; refine hK _ ?_; clear hK K
    (repeat refine ZQ ?_); refine ZD [] [0, 1, 2, 3, 4, 5, 6, 7, 8, 9, 10, 11, 12, 13, 14, 15, 16, 17] fun K hK => ?_; simp (maxSteps := 1000000) [ty28, ty3, ty4]
    refine ZE (q_isDay86 w day) ?_; simp (maxSteps := 1000000) [ty28, ty3, ty4, h1]
    refine ZE (q_isArea93 a) ?_; simp (maxSteps := 1000000) [ty28, ty3, ty4, h2]
    refine ZE (hkn) ?_; simp (maxSteps := 1000000) [ty110]
    refine hK _ ?_; clear hK K
    (repeat refine ZQ ?_); refine ZR fun K hK => ?_; simp (maxSteps := 1000000) [ty37]; refine hK _ ?_; clear hK K
    (repeat refine ZQ ?_); refine ZC (hc := by simp [hz]; rfl) (fun hd => ?_) (fun hd => ?_)
    ·clear hd
     (repeat refine ZQ ?_); refine ZR fun K hK => ?_; simp (maxSteps := 1000000) [ty37, ty3]; refine hK _ ?_; clear hK K
     (repeat refine ZQ ?_); refine awp_ret ?_; refine And.intro (Or.inr rfl) ?_
     simp [retC, resC, viewC, mapO, hz, hV]
    ·simp [hz] at hd
   ·cases h3 : countB s
    ·rw [h1, h2, h3] at hkn hz
     simp only [Bool.and_self, Bool.and_false] at hkn hz ⊢
     refine ZF (fn := Tryz.f51) [.tmp 8, .tmp 9] ⟨Tryz.func51, rfl, by kernel_rfl⟩ fun x hx hσ => ?_
     (repeat refine ZQ ?_); refine ZR fun K hK => ?_; simp (maxSteps := 1000000) [ty28, ty37, ty3]; refine hK _ ?_; clear hK K
     (repeat refine ZQ ?_); refine ZD [] [0, 1, 2, 3, 4, 5, 6, 7, 8, 9, 10, 11, 12, 13, 14, 15, 16, 17] fun K hK => ?_; simp (maxSteps := 1000000) [ty28, ty3, ty4]
     refine ZE (q_isDay86 w day) ?_; simp (maxSteps := 1000000) [ty28, ty3, ty4, h1]
     refine ZE (q_isArea93 a) ?_; simp (maxSteps := 1000000) [ty28, ty3, ty4, h2]
     refine ZE (q_isCount94 s) ?_; simp (maxSteps := 1000000) [ty28, ty3, ty4, h3]
     refine ZE (hkn) ?_; simp (maxSteps := 1000000) [ty110]
     refine hK _ ?_; clear hK K
     (repeat refine ZQ ?_); refine ZR fun K hK => ?_; simp (maxSteps := 1000000) [ty37]; refine hK _ ?_; clear hK K
     (repeat refine ZQ ?_); refine ZC (hc := by simp [hz]; rfl) (fun hd => ?_) (fun hd => ?_)
     ·clear hd
      (repeat refine ZQ ?_); refine ZR fun K hK => ?_; simp (maxSteps := 1000000) [ty37, ty3]; refine hK _ ?_; clear hK K
      (repeat refine ZQ ?_); refine awp_ret ?_; refine And.intro (Or.inr rfl) ?_
      simp [retC, resC, viewC, mapO, hz, hV]
     ·simp [hz] at hd
    ·rw [h1, h2, h3] at hkn hz
     simp only [Bool.and_self] at hkn hz ⊢
     refine ZF (fn := Tryz.f51) [.tmp 8, .tmp 9] ⟨Tryz.func51, rfl, by kernel_rfl⟩ fun x hx hσ => ?_
     (repeat refine ZQ ?_); refine ZR fun K hK => ?_; simp (maxSteps := 1000000) [ty28, ty37, ty3]; refine hK _ ?_; clear hK K
     (repeat refine ZQ ?_); refine ZD [] [0, 1, 2, 3, 4, 5, 6, 7, 8, 9, 10, 11, 12, 13, 14, 15, 16, 17] fun K hK => ?_; simp (maxSteps := 1000000) [ty28, ty3, ty4]
     refine ZE (q_isDay86 w day) ?_; simp (maxSteps := 1000000) [ty28, ty3, ty4, h1]
     refine ZE (q_isArea93 a) ?_; simp (maxSteps := 1000000) [ty28, ty3, ty4, h2]
     refine ZE (q_isCount94 s) ?_; simp (maxSteps := 1000000) [ty28, ty3, ty4, h3]
     refine ZE (hkn) ?_; simp (maxSteps := 1000000) [ty110]
     refine hK _ ?_; clear hK K
     (repeat refine ZQ ?_); refine ZR fun K hK => ?_; simp (maxSteps := 1000000) [ty37]; refine hK _ ?_; clear hK K
     (repeat refine ZQ ?_); refine ZC (hc := by simp [hz]; rfl) (fun hd => ?_) (fun hd => ?_)
     ·clear hd
      (repeat refine ZQ ?_); refine ZR fun K hK => ?_; simp (maxSteps := 1000000) [ty37, ty3]; refine hK _ ?_; clear hK K
      (repeat refine ZQ ?_); refine awp_ret ?_; refine And.intro (Or.inr rfl) ?_
      simp [retC, resC, viewC, mapO, hz, hV]
     ·simp [hz] at hd

set_option maxHeartbeats 16000000
set_option maxRecDepth 20000

-- Errs, Real and Blame are what the document specifies

theorem copyW_err (w : Ws) (d a : Int) : errW (copyW w) d a = errW w d a := by unfold errW; rw [copyW_open, copyW_co]; rfl
theorem copyW_real (w : Ws) (d s : Int) : realW (copyW w) d s = realW w d s := by unfold realW; rw [copyW_open, copyW_co]; rfl
theorem copyW_blame (w : Ws) (d a s : Int) : blameW (copyW w) d a s = blameW w d a s := by unfold blameW; rw [copyW_open, copyW_co]; rfl
theorem copyW_day (w : Ws) (d : Int) : dayB (copyW w) d = dayB w d := rfl

theorem law10 (w : Ws) (x : As) : Pure Tryz.prog 10 [encWs w, encAs x] (.bool true) := by
 obtain ⟨f, hF, hf⟩ := far30 w
 cases f
 ·have hnear := hf rfl
  have hlen := hnear.len
  have hsm : checkW w = 0 → SmallW w := fun h => ⟨(hnear.small h).1, (hnear.small h).2.1, (hnear.small h).2.2⟩
  have c0 := q_copy23 w hlen
  have hlc := copyW_len hlen
  have c1 := w_errs46 (copyW w) x.a x.area hlc
  have c2 := q_errs47 w x.a x.area hlen hsm
  have c3 := w_real48 (copyW w) x.a x.seen hlc
  have c4 := q_real49 w x.a x.seen hlen hsm
  have c5 := w_blame50 (copyW w) x.a x.area x.seen hlc
  have c6 := q_blame51 w x.a x.area x.seen hlen hsm
  have c7 := l_same39 w hlen
  rw [copyW_day] at c1 c3 c5
  rw [copyW_err, copyW_open] at c1
  rw [copyW_real, copyW_open] at c3
  rw [copyW_blame, copyW_open] at c5
  have hRl : (realW w x.a x.seen).length ≤ 9001 := by
   unfold realW; split
   ·exact fixTo_len _ _
   ·simp
  obtain ⟨e1, he1⟩ : ∃ e, openW w (dayB w x.a && areaB x.area) = e := ⟨_, rfl⟩
  obtain ⟨e2, he2⟩ : ∃ e, openW w (dayB w x.a && countB x.seen) = e := ⟨_, rfl⟩
  obtain ⟨e3, he3⟩ : ∃ e, openW w (dayB w x.a && areaB x.area && countB x.seen) = e := ⟨_, rfl⟩
  rw [he1] at c1 c2
  rw [he2] at c3 c4
  rw [he3] at c5 c6
  clear he1 he2 he3
  generalize copyW w = s at *
  generalize errW w x.a x.area = p at *
  generalize realW w x.a x.seen = A at *
  generalize blameW w x.a x.area x.seen = b at *
  have s1 := same29 A.isEmpty (e2 != 0) A.isEmpty (e2 != 0) A A (by omega) (by omega)
  simp only [decide_true] at s1
  have hbb : ∀ n : Int, (n == n) = true := fun n => by simp
  have hee : eqInts [.i64, .i64] [.int .i64 p.1, .int .i64 p.2] [.int .i64 p.1, .int .i64 p.2] = some true := by simp [eqInts]
  refine ZF (fn := Tryz.f10) [.tmp 4] ⟨Tryz.func10, rfl, by kernel_rfl⟩ fun x hx hσ => ?_
  (repeat refine ZQ ?_); refine ZR fun K hK => ?_; simp (maxSteps := 1000000) [ty28, ty47, ty4]; refine hK _ ?_; clear hK K
  (repeat refine ZQ ?_); refine ZR fun K hK => ?_; simp (maxSteps := 1000000) [ty28]
  refine ZP (hF) ?_; simp (maxSteps := 1000000) [ty4]
  refine hK _ ?_; clear hK K
  (repeat refine ZQ ?_); refine ZC (fun hd => ?_) (fun hd => ?_)
  ·simp at hd
  ·clear hd
   refine awp_skip ?_
   (repeat refine ZQ ?_); refine ZR fun K hK => ?_; simp (maxSteps := 1000000) [ty28]
   refine ZP (c0) ?_; simp (maxSteps := 1000000) [ty28]
   refine hK _ ?_; clear hK K
   (repeat refine ZQ ?_); refine ZR fun K hK => ?_; simp (maxSteps := 1000000) [ty28, ty47, ty3]
   refine ZP (c1) ?_; simp (maxSteps := 1000000) [ty23]
   refine hK _ ?_; clear hK K
   (repeat refine ZQ ?_); refine ZR fun K hK => ?_; simp (maxSteps := 1000000) [ty28, ty47, ty3]
   refine ZP (c2) ?_; simp (maxSteps := 1000000) [ty23]
   refine hK _ ?_; clear hK K
   (repeat refine ZQ ?_); refine ZR fun K hK => ?_; simp (maxSteps := 1000000) [ty28, ty47, ty3]
   refine ZP (c3) ?_; simp (maxSteps := 1000000) [ty29]
   refine hK _ ?_; clear hK K
   (repeat refine ZQ ?_); refine ZR fun K hK => ?_; simp (maxSteps := 1000000) [ty28, ty47, ty3]
   refine ZP (c4) ?_; simp (maxSteps := 1000000) [ty29]
   refine hK _ ?_; clear hK K
   (repeat refine ZQ ?_); refine ZR fun K hK => ?_; simp (maxSteps := 1000000) [ty28, ty47, ty3]
   refine ZP (c5) ?_; simp (maxSteps := 1000000)
   refine hK _ ?_; clear hK K
   (repeat refine ZQ ?_); refine ZR fun K hK => ?_; simp (maxSteps := 1000000) [ty28, ty47, ty3]
   refine ZP (c6) ?_; simp (maxSteps := 1000000)
   refine hK _ ?_; clear hK K
   (repeat refine ZQ ?_); refine ZR fun K hK => ?_; simp (maxSteps := 1000000) [ty3, ty4, ty37, ty28, ty29, ty23, fe23, hee, hbb]
   refine ZP (s1) ?_; simp (maxSteps := 1000000) [ty4, ty3, ty37, ty28, hbb]
   refine ZP (c7) ?_; simp (maxSteps := 1000000) [ty4]
   refine ZP (works15) ?_; simp (maxSteps := 1000000) [ty4]
   refine hK _ ?_; clear hK K
   (repeat refine ZQ ?_); refine awp_ret ?_; refine And.intro (Or.inr rfl) ?_
   simp [retC, resC, viewC, mapO]
 ·refine ZF (fn := Tryz.f10) [.tmp 4] ⟨Tryz.func10, rfl, by kernel_rfl⟩ fun x hx hσ => ?_
  (repeat refine ZQ ?_); refine ZR fun K hK => ?_; simp (maxSteps := 1000000) [ty28, ty47, ty4]; refine hK _ ?_; clear hK K
  (repeat refine ZQ ?_); refine ZR fun K hK => ?_; simp (maxSteps := 1000000) [ty28]
  refine ZP (hF) ?_; simp (maxSteps := 1000000) [ty4]
  refine hK _ ?_; clear hK K
  (repeat refine ZQ ?_); refine ZC (fun hd => ?_) (fun hd => ?_)
  ·clear hd
   (repeat refine ZQ ?_); refine ZR fun K hK => ?_; simp (maxSteps := 1000000) [ty4]
   refine ZP (works15) ?_; simp (maxSteps := 1000000)
   refine hK _ ?_; clear hK K
   (repeat refine ZQ ?_); refine awp_ret ?_; refine And.intro (Or.inr rfl) ?_
   simp [retC, resC, viewC, mapO]
  ·simp at hd

open Go.ChangeShapes Go.WideShapes Go.ChangeAt Go.RowKit

set_option maxRecDepth 100000 in
theorem wearErrs_lifted (os : Os) (started : os.Started) (H : Type) (enc : TypeId × Value → H) :
  ReturnsInHanded {} Tryz.checked os 10 .any (Rows.wearErrsSpec.pre6 enc Tryz.prog Tryz.f10 Rows.wearErrsRow.domain false) (Rows.wearErrsSpec.post enc Tryz.prog Tryz.f10 false true false false) := by
 refine returnsInHanded_of_change (C := Tryz.checked) J.own started (by kernel_rfl) Tryz.func10
  (ChangeSpec.witness6 (enc := enc) (C := Tryz.checked) false ⟨#[], #[.agg #[.int .i64 0, .int .i64 0, .int .i64 0, .int .i64 0, .int .i64 0, .int .i64 0, .int .i64 0, .int .i64 0, .int .i64 0, .int .i64 0, .int .i64 0, .slice none 0 0, .int .i64 0], .agg #[.int .i64 0, .int .i64 0, .int .i64 0, .int .i64 0]], []⟩ 8 (by kernel_rfl) (by kernel_rfl) (by kernel_rfl) (by kernel_rfl)) ?_
 intro W base args ds gs before hval hW _ _
 refine law_contract (P := Tryz.prog) (tb := 4) (by kernel_rfl) J.ub rfl (fun ds hl => ?_) J.laid J.maps J.sized (by kernel_rfl) (by kernel_rfl) (fun cargs hc => ?_) W base args ds gs before hval hW
 ·have h2 : ds.length = 2 := hl
  match ds, h2 with
  | [_, _], _ => rfl
 ·rw [Tryz.params10] at hc
  obtain ⟨w, r, rfl, hc1⟩ := argWear hc
  obtain ⟨x, r1, rfl, hc2⟩ := argAsk hc1
  obtain rfl := arg_end hc2
  exact law10 w x

theorem wearErrs_holds : Rows.WearErrsSaid :=
 OpenClaim.holds_of_wide 10 Tryz.f10 rfl rfl rfl rfl rfl rfl rfl ⟨rfl, rfl, rfl, rfl, rfl⟩ rfl rfl rfl rfl rfl (by kernel_rfl) Tryz.func10 (by kernel_rfl)
  (of_decide_eq_true (by kernel_rfl)) (by unfold Func.isWrapper; first | (rw [if_pos (by decide +kernel)]; kernel_rfl) | (rw [if_neg (by decide +kernel)]; exact ⟨rfl, rfl⟩))
  (fun os started H enc _ => wearErrs_lifted os started H enc)
#print axioms wearErrs_holds
end Go.Proofs.YtknoachjpoibaaaGreat

