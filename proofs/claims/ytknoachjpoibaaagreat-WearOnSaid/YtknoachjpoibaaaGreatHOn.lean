/- For every input the law WearOn returns true, and each argument reads afterwards as it read before. No condition. -/
import Derived.Test.YtknoachjpoibaaaGreatB5

set_option linter.unusedSimpArgs false
set_option linter.unusedVariables false
set_option linter.constructorNameAsVariable false

namespace Go.Proofs.YtknoachjpoibaaaGreat
open Go Go.Abs

set_option maxHeartbeats 8000000
set_option maxRecDepth 20000

-- a copy is the same instrument

theorem l_same39 (w : Ws) (hl : WsLen w) : Pure Tryz.prog 39 [encWs (copyW w), encWs w] (.bool true) := by
 have hlt := hl.vs
 obtain ⟨s, hs⟩ : ∃ s, s = copyW w := ⟨_, rfl⟩
 have hsw : s.w = w.w := by rw [hs]; rfl
 have hsg : s.gain = w.gain := by rw [hs]; rfl
 have hsa : s.last = w.last := by rw [hs]; rfl
 have hsd : s.drop = w.drop := by rw [hs]; rfl
 have hsr : s.wrong = w.wrong := by rw [hs]; rfl
 have hsl : s.vs.length = w.vs.length := by rw [hs]; simp [copyW]
 have hsy : ∀ i (h : i < w.vs.length), s.vs[i]'(by omega) = copyV w.vs[i] := fun i h => by subst hs; simp [copyW]
 rw [← hs]
 clear hs
 refine ZF (fn := Tryz.f39) [.tmp 4] ⟨Tryz.func39, rfl, by kernel_rfl⟩ fun x hx hσ => ?_
 (repeat refine ZQ ?_); refine ZR fun K hK => ?_; simp (maxSteps := 1000000) [ty28, ty4]; refine hK _ ?_; clear hK K; (first | show AWP _ _ _ _ _ | show ∃ _, _ | skip)
 have he := cIs_same w.w
 simp only [encI] at he
 (repeat refine ZQ ?_); refine ZR fun K hK => ?_; simp (maxSteps := 1000000) [ty28, ty25, ty26, ty3, fe25, de25, hsw, hsg, hsa, hsd, hsr, hsl, he]; refine hK _ ?_; clear hK K
 (repeat refine ZQ ?_); refine ZC (fun hd => ?_) (fun hd => ?_)
 ·simp at hd
 ·clear hd
  refine awp_skip ?_
  (repeat refine ZQ ?_); refine ZR fun K hK => ?_; simp (maxSteps := 1000000) [ty3]; refine hK _ ?_; clear hK K
  (repeat refine ZQ ?_); refine awp_block ?_
  refine awp_loop (fun i : Nat => ⟨ofL [(2, .ptr 2 13 0 0), (3, .ptr 3 13 0 0), (5, encI i)], stoT [(2, 2, .live (obWs s)), (3, 3, .live (obWs w))]⟩)
   (fun i => i ≤ w.vs.length) (fun i => w.vs.length - i) 0 (Nat.zero_le _) ?_ ?_
  ·refine wk_shape (shp0 hσ (by simp) (by simp) ?_) ?_
   ·simp [SlotOk, hsw, hsg, hsa, hsd, hsr] <;> (repeat' (first | (refine RowsOk.same ?_; simp [purel, C.isPure]; done) | (refine rowsCons ?_; simp [mtl, mtc, mT, mH, C.isPure, purel]; done) | (refine rowsCons ?_; simp [mtl, mtc, mT, mH, C.isPure, purel]) | refine And.intro ?_ ?_))
   ·simp [mtc, mtl, mT, C.isPure, purel, hsw, hsg, hsa, hsd, hsr] <;> (try simp (disch := omega) [wrap_id]) <;> (try omega)
  ·intro i hi
   (repeat refine ZQ ?_); refine ZR fun K hK => ?_; simp (maxSteps := 1000000) [ty28, ty26, ty3, hsl]; refine hK _ ?_; clear hK K
   (repeat refine ZQ ?_); refine ZC (fun hc => ?_) (fun hc => ?_)
   ·simp at hc
    refine awp_skip ?_
    (repeat refine ZQ ?_); refine awp_block ?_
    have hyi := hsy i hc
    have hci : i < s.vs.length := by omega
    have hln := hl.l _ (List.getElem_mem hc)
    have hwi : IntKind.i64.wrap ((i : Int) + 1) = ((i + 1 : Nat) : Int) := by rw [wrap_id (by omega) (by omega)]; rfl
    obtain ⟨v, hv⟩ : ∃ v, v = w.vs[i] := ⟨_, rfl⟩
    rw [← hv] at hyi hln
    simp only [copyV] at hyi
    have hlts := hln.ts
    have hltl := hln.l
    simp only [tiV] at hlts hltl
    have hlen0 : ((v.ts.length : Int) != (v.ts.length : Int)) = false := by simp
    (repeat refine ZQ ?_); refine ZD [2012, 10006, 1006, 1009] [0, 1, 2, 3, 4, 5, 6, 7, 8, 9, 10, 11, 12, 13] fun K hK => ?_; simp (maxSteps := 1000000) [ty28, ty26, ty53, ty3, hc, hci, hyi, ← hv]; refine hK _ ?_; clear hK K
    (repeat refine ZQ ?_); refine ZR fun K hK => ?_; simp (maxSteps := 1000000) [ty53, ty51, ty3]; refine hK _ ?_; clear hK K
    (repeat refine ZQ ?_); refine ZC (fun hd => ?_) (fun hd => ?_)
    ·simp at hd
    ·clear hd
     refine awp_skip ?_
     (repeat refine ZQ ?_); refine ZR fun K hK => ?_; simp (maxSteps := 1000000) [ty3]; refine hK _ ?_; clear hK K
     (repeat refine ZQ ?_); refine awp_block ?_
     refine awp_loop (fun j : Nat => ⟨ofL [(2, .ptr 2 13 0 0), (3, .ptr 3 13 0 0), (5, encI i), (6, .ptr 6 2 0 0), (7, .ptr 7 2 0 0), (8, encI j)], stoT [(2, 2, .live (obWs s)), (3, 3, .live (obWs w)), (6, 6, .live ⟨false, false, 2, [cVs ⟨v.day, v.ts.isEmpty, false, v.ts.map copyY⟩]⟩), (7, 7, .live ⟨false, false, 2, [cVs v]⟩)]⟩)
      (fun j => j ≤ v.ts.length) (fun j => v.ts.length - j) 0 (Nat.zero_le _) ?_ ?_
     ·exact ZW
     ·intro j hj
      (repeat refine ZQ ?_); refine ZR fun K hK => ?_; simp (maxSteps := 1000000) [ty53, ty51, ty3]; refine hK _ ?_; clear hK K
      (repeat refine ZQ ?_); refine ZC (fun hc2 => ?_) (fun hc2 => ?_)
      ·simp at hc2
       refine awp_skip ?_
       (repeat refine ZQ ?_); refine awp_block ?_
       have hwj : IntKind.i64.wrap ((j : Int) + 1) = ((j + 1 : Nat) : Int) := by rw [wrap_id (by omega) (by omega)]; rfl
       have hlj := hltl _ (List.getElem_mem hc2)
       obtain ⟨y, hy⟩ : ∃ y, y = v.ts[j] := ⟨_, rfl⟩
       rw [← hy] at hlj
       (repeat refine ZQ ?_); refine ZD [] [0, 1, 2, 3, 4, 5, 6, 7, 8, 9, 10, 11, 12, 13, 14, 15, 16, 17, 18, 19, 20, 21, 22, 23, 24, 25, 26, 27, 28, 29] fun K hK => ?_; simp (maxSteps := 1000000) [copyY, ty53, ty51, ty119, ty117, ty3, hc2, ← hy]; refine hK _ ?_; clear hK K
       (repeat refine ZQ ?_); refine ZC (fun hd => ?_) (fun hd => ?_)
       ·simp at hd
       ·clear hd
        refine awp_skip ?_
        (repeat refine ZQ ?_); refine ZR fun K hK => ?_; simp (maxSteps := 1000000) [ty3]; refine hK _ ?_; clear hK K
        (repeat refine ZQ ?_); refine awp_block ?_
        refine awp_loop (fun k : Nat => ⟨ofL [(2, .ptr 2 13 0 0), (3, .ptr 3 13 0 0), (5, encI i), (6, .ptr 6 2 0 0), (7, .ptr 7 2 0 0), (8, encI j), (9, encI k)], stoT [(2, 2, .live (obWs s)), (3, 3, .live (obWs w)), (6, 6, .live ⟨false, false, 2, [cVs ⟨v.day, v.ts.isEmpty, false, v.ts.map copyY⟩]⟩), (7, 7, .live ⟨false, false, 2, [cVs v]⟩)]⟩)
         (fun k => k ≤ y.l.length) (fun k => y.l.length - k) 0 (Nat.zero_le _) ?_ ?_
        ·exact ZW
        ·intro k hk
         (repeat refine ZQ ?_); refine ZR fun K hK => ?_; simp (maxSteps := 1000000) [copyY, ty53, ty51, ty119, ty117, ty3, hc2, ← hy]; refine hK _ ?_; clear hK K
         (repeat refine ZQ ?_); refine ZC (fun hc3 => ?_) (fun hc3 => ?_)
         ·simp at hc3
          refine awp_skip ?_
          (repeat refine ZQ ?_); refine awp_block ?_
          have he5 := eqI5 y.l[k]
          simp only [cWl, encI] at he5
          have hwk : IntKind.i64.wrap ((k : Int) + 1) = ((k + 1 : Nat) : Int) := by rw [wrap_id (by omega) (by omega)]; rfl
          (repeat refine ZQ ?_); refine ZD [] [0, 1, 2, 3, 4, 5, 6, 7, 8, 9, 10, 11, 12, 13, 14, 15, 16, 17, 18] fun K hK => ?_; simp (maxSteps := 1000000) [copyY, ty53, ty51, ty119, ty117, ty121, fe121, ty3, hc2, hc3, ← hy, he5]; refine hK _ ?_; clear hK K
          (repeat refine ZQ ?_); refine ZC (fun hd => ?_) (fun hd => ?_)
          ·simp at hd
          ·clear hd
           refine awp_skip ?_
           (repeat refine ZQ ?_); refine ZR fun K hK => ?_; simp (maxSteps := 1000000) [ty3]; refine hK _ ?_; clear hK K; (first | show AWP _ _ _ _ _ | show ∃ _, _ | skip)
           refine ⟨k + 1, by omega, by omega, ?_⟩
           rw [hwk]
           exact ZW
         ·simp at hc3
          (repeat refine ZQ ?_); refine awp_exit ?_
          (repeat refine ZQ ?_); refine ZR fun K hK => ?_; simp (maxSteps := 1000000) [ty3]; refine hK _ ?_; clear hK K; (first | show AWP _ _ _ _ _ | show ∃ _, _ | skip)
          refine ⟨j + 1, by omega, by omega, ?_⟩
          rw [hwj]
          exact ZW
      ·simp at hc2
       (repeat refine ZQ ?_); refine awp_exit ?_
       (repeat refine ZQ ?_); refine ZR fun K hK => ?_; simp (maxSteps := 1000000) [ty3]; refine hK _ ?_; clear hK K; (first | show AWP _ _ _ _ _ | show ∃ _, _ | skip)
       refine ⟨i + 1, by omega, by omega, ?_⟩
       rw [hwi]
       exact ZW
   ·simp at hc
    (repeat refine ZQ ?_); refine awp_exit ?_
    (repeat refine ZQ ?_); refine ZR fun K hK => ?_; simp (maxSteps := 1000000); refine hK _ ?_; clear hK K
    (repeat refine ZQ ?_); refine awp_ret ?_; refine And.intro (Or.inr rfl) ?_
    simp [retC, resC, viewC, mapO]

set_option maxHeartbeats 8000000

-- the reference's search over all gains

def allP (c : Co) : Nat → List Int → List (List Int)
 | 0, f => if isSoC c f then [f] else []
 | n + 1, f => if isSoC c f then (seqI (-c.gain) c.gain).flatMap fun g => allP c n (f ++ [g]) else []

theorem isSoC_prefix {c : Co} {f l : List Int} (h : f <+: l) (hl : isSoC c l = true) : isSoC c f = true := by
 obtain ⟨t, rfl⟩ := h
 rw [isSoC_iff] at hl ⊢
 refine ⟨fun i hi => ?_, fun i hi => ?_⟩
 ·have := hl.1 i (by simp; omega)
  rwa [List.getElem_append_left hi] at this
 ·have := hl.2 i (by simp; omega)
  rwa [List.getElem_append_left hi, List.getElem_append_left (by omega : i < f.length)] at this

theorem mem_allP (c : Co) : ∀ (n : Nat) (f l : List Int), l ∈ allP c n f ↔ l.length = f.length + n ∧ f <+: l ∧ isSoC c l = true
 | 0, f, l => by
  unfold allP
  constructor
  ·intro h
   split at h
   ·rename_i hs
    simp only [List.mem_singleton] at h
    subst h
    exact ⟨rfl, List.prefix_refl _, hs⟩
   ·simp at h
  ·rintro ⟨h1, h2, h3⟩
   have e : f = l := h2.eq_of_length (by omega)
   subst e
   rw [if_pos h3]; simp
 | n + 1, f, l => by
  unfold allP
  constructor
  ·intro h
   split at h
   ·obtain ⟨g, _, hm⟩ := List.mem_flatMap.1 h
    obtain ⟨h1, h2, h3⟩ := (mem_allP c n (f ++ [g]) l).1 hm
    simp only [List.length_append, List.length_singleton] at h1
    exact ⟨by omega, (List.prefix_append f [g]).trans h2, h3⟩
   ·simp at h
  ·rintro ⟨h1, h2, h3⟩
   rw [if_pos (isSoC_prefix h2 h3)]
   obtain ⟨t, rfl⟩ := h2
   cases t with
   | nil => simp at h1
   | cons g t =>
    refine List.mem_flatMap.2 ⟨g, ?_, (mem_allP c n (f ++ [g]) _).2 ⟨?_, ?_, h3⟩⟩
    ·have := (isSoC_iff.1 h3).1 f.length (by simp)
     simp at this
     exact mem_seqI.2 this
    ·simp at h1 ⊢; omega
    ·exact ⟨t, by simp⟩

theorem flat_bd {α β : Type} {f : α → List β} {b : Nat} : ∀ (L : List α), (∀ x ∈ L, (f x).length ≤ b) → (L.flatMap f).length ≤ L.length * b
 | [], _ => by simp
 | a :: L, h => by
  have h1 := h a (by simp)
  have h2 := flat_bd L fun x hx => h x (by simp [hx])
  rw [List.flatMap_cons, List.length_append, List.length_cons, Nat.succ_mul]
  omega

theorem allP_len {c : Co} {m : Nat} (hm : (seqI (-c.gain) c.gain).length ≤ m) (h1 : 1 ≤ m) : ∀ (n : Nat) (f : List Int), (allP c n f).length ≤ m ^ n
 | 0, f => by unfold allP; split <;> simp
 | n + 1, f => by
  unfold allP
  split
  ·have h := flat_bd (f := fun g => allP c n (f ++ [g])) (b := m ^ n) (seqI (-c.gain) c.gain) fun g _ => allP_len hm h1 n (f ++ [g])
   have h2 := Nat.mul_le_mul_right (m ^ n) hm
   rw [Nat.pow_succ, Nat.mul_comm (m ^ n) m]
   omega
  ·simp

@[simp] abbrev rowP (l : List Int) : List C := [.sl false false (l.map cI)]
theorem rowP_pure (X : List (List Int)) : (X.map rowP).all purel = true := all_purel_map fun _ => rfl

theorem q_all81 (w : Ws) (G : List (Int × List Int)) (hg : 0 ≤ w.gain ∧ w.gain ≤ 3) (hl : 1 ≤ w.last ∧ w.last ≤ 5) : ∀ (n : Nat) (f : List Int) (nl fu : Bool), (f.length + n : Int) = w.last + 1 → (n = 0 → nl = false ∧ fu = false) →
  ∃ a b, Pure Tryz.prog 81 [encWs w, .sl nl fu (f.map cI)] (.sl a b ((allP (co w G) n f).map rowP)) := by
 have hwl : IntKind.i64.wrap (w.last + 1) = w.last + 1 := wrap_id (by omega) (by omega)
 have hwg : IntKind.i64.wrap (-w.gain) = -w.gain := wrap_id (by omega) (by omega)
 intro n
 induction n with
 | zero =>
  intro f nl fu hf h0
  obtain ⟨rfl, rfl⟩ := h0 rfl
  have hso := q_isSo65 w G false false f (by omega) (by omega)
  cases hb : isSoC (co w G) f
  ·rw [hb] at hso
   have hA : allP (co w G) 0 f = [] := if_neg (by rw [hb]; simp)
   refine ⟨true, true, ?_⟩
   rw [hA]
   refine ZF (fn := Tryz.f81) [.tmp 4] ⟨Tryz.func81, rfl, by kernel_rfl⟩ fun x hx hσ => ?_
   (repeat refine ZQ ?_); refine ZR fun K hK => ?_; simp (maxSteps := 1000000) [ty28, ty110]; refine hK _ ?_; clear hK K
   (repeat refine ZQ ?_); refine ZR fun K hK => ?_; simp (maxSteps := 1000000) [ty28]
   refine ZP (hso) ?_; simp (maxSteps := 1000000) [ty4]
   refine hK _ ?_; clear hK K
   (repeat refine ZQ ?_); refine ZC (fun hd => ?_) (fun hd => ?_)
   ·clear hd
    (repeat refine ZQ ?_); refine ZR fun K hK => ?_; simp (maxSteps := 1000000) [ty110]; refine hK _ ?_; clear hK K
    (repeat refine ZQ ?_); refine awp_ret ?_; refine And.intro (Or.inr rfl) ?_
    simp [retC, resC, viewC, mapO]
   ·simp at hd
  ·rw [hb] at hso
   have hA : allP (co w G) 0 f = [f] := if_pos hb
   have hfl : ((f.length : Int) == w.last + 1) = true := by rw [beq_iff_eq]; omega
   refine ⟨false, true, ?_⟩
   rw [hA]
   refine ZF (fn := Tryz.f81) [.tmp 4] ⟨Tryz.func81, rfl, by kernel_rfl⟩ fun x hx hσ => ?_
   (repeat refine ZQ ?_); refine ZR fun K hK => ?_; simp (maxSteps := 1000000) [ty28, ty110]; refine hK _ ?_; clear hK K
   (repeat refine ZQ ?_); refine ZR fun K hK => ?_; simp (maxSteps := 1000000) [ty28]
   refine ZP (hso) ?_; simp (maxSteps := 1000000) [ty4]
   refine hK _ ?_; clear hK K
   (repeat refine ZQ ?_); refine ZC (fun hd => ?_) (fun hd => ?_)
   ·simp at hd
   ·clear hd
    refine awp_skip ?_
    (repeat refine ZQ ?_); refine ZR fun K hK => ?_; simp (maxSteps := 1000000) [ty29, ty28, ty3, hwl, hfl]; refine hK _ ?_; clear hK K
    (repeat refine ZQ ?_); refine ZC (fun hd => ?_) (fun hd => ?_)
    ·clear hd
     (repeat refine ZQ ?_); refine ZR fun K hK => ?_; simp (maxSteps := 1000000) [ty110, ty29]; refine hK _ ?_; clear hK K
     (repeat refine ZQ ?_); refine awp_ret ?_; refine And.intro (Or.inr rfl) ?_
     simp [retC, resC, viewC, mapO]
    ·simp at hd
 | succ n ih =>
  intro f nl fu hf _
  have hso := q_isSo65 w G nl fu f (by omega) (by omega)
  cases hb : isSoC (co w G) f
  ·rw [hb] at hso
   have hA : allP (co w G) (n + 1) f = [] := if_neg (by rw [hb]; simp)
   refine ⟨true, true, ?_⟩
   rw [hA]
   refine ZF (fn := Tryz.f81) [.tmp 4] ⟨Tryz.func81, rfl, by kernel_rfl⟩ fun x hx hσ => ?_
   (repeat refine ZQ ?_); refine ZR fun K hK => ?_; simp (maxSteps := 1000000) [ty28, ty110]; refine hK _ ?_; clear hK K
   (repeat refine ZQ ?_); refine ZR fun K hK => ?_; simp (maxSteps := 1000000) [ty28]
   refine ZP (hso) ?_; simp (maxSteps := 1000000) [ty4]
   refine hK _ ?_; clear hK K
   (repeat refine ZQ ?_); refine ZC (fun hd => ?_) (fun hd => ?_)
   ·clear hd
    (repeat refine ZQ ?_); refine ZR fun K hK => ?_; simp (maxSteps := 1000000) [ty110]; refine hK _ ?_; clear hK K
    (repeat refine ZQ ?_); refine awp_ret ?_; refine And.intro (Or.inr rfl) ?_
    simp [retC, resC, viewC, mapO]
   ·simp at hd
  ·rw [hb] at hso
   have hfl : ((f.length : Int) == w.last + 1) = false := by rw [beq_eq_false_iff_ne]; omega
   obtain ⟨m, hm⟩ : ∃ m : Nat, (w.gain - -w.gain + 1).toNat = m := ⟨_, rfl⟩
   have hm' : (m : Int) = 2 * w.gain + 1 := by omega
   have hex : ∀ x : Nat, ∃ r : Bool × Bool, Pure Tryz.prog 81 [encWs w, .sl false false ((f ++ [-w.gain + (x : Int)]).map cI)] (.sl r.1 r.2 ((allP (co w G) n (f ++ [-w.gain + (x : Int)])).map rowP)) := fun x => by
    obtain ⟨a, b, h⟩ := ih (f ++ [-w.gain + (x : Int)]) false false (by simp; omega) fun _ => ⟨rfl, rfl⟩
    exact ⟨(a, b), h⟩
   obtain ⟨F, hF⟩ := Classical.axiomOfChoice hex
   obtain ⟨A, hA⟩ : ∃ A : Nat → List (List Int), ∀ x, ((seqN (-w.gain) x).flatMap fun g => allP (co w G) n (f ++ [g])) = A x := ⟨_, fun _ => rfl⟩
   have hA0 : A 0 = [] := by rw [← hA]; rfl
   have hAs : ∀ x : Nat, A (x + 1) = A x ++ allP (co w G) n (f ++ [-w.gain + (x : Int)]) := fun x => by rw [← hA, ← hA, seqN_step, List.flatMap_append]; simp
   have hAN : allP (co w G) (n + 1) f = A m := by
    rw [← hA]
    show (if isSoC (co w G) f then _ else _) = _
    rw [if_pos hb]
    unfold seqI
    rw [show ((co w G).gain - -(co w G).gain + 1).toNat = m by simp only; omega]
   have hsl : (seqI (-(co w G).gain) (co w G).gain).length ≤ 7 := by
    have : (seqI (-(co w G).gain) (co w G).gain).length = ((co w G).gain - -(co w G).gain + 1).toNat := seqN_len _ _
    simp only at this ⊢; omega
   have hpow : ∀ k : Nat, k ≤ 6 → 7 ^ k ≤ 117649 := fun k hk => Nat.le_trans (Nat.pow_le_pow_right (by decide) hk) (by decide)
   have hPl : ∀ g, (allP (co w G) n (f ++ [g])).length ≤ 117649 := fun g => Nat.le_trans (allP_len hsl (by decide) n _) (hpow n (by omega))
   have hAl : ∀ x, x ≤ m → (A x).length ≤ 823543 := fun x hx => by
    rw [← hA]
    have h := flat_bd (f := fun g => allP (co w G) n (f ++ [g])) (b := 117649) (seqN (-w.gain) x) fun g _ => hPl g
    rw [seqN_len] at h
    have : x * 117649 ≤ 7 * 117649 := Nat.mul_le_mul_right _ (by omega)
    omega
   refine ⟨(A m).isEmpty, false, ?_⟩
   rw [hAN]
   clear hA hAN hex hsl hpow
   refine ZF (fn := Tryz.f81) [.tmp 4] ⟨Tryz.func81, rfl, by kernel_rfl⟩ fun x hx hσ => ?_
   (repeat refine ZQ ?_); refine ZR fun K hK => ?_; simp (maxSteps := 1000000) [ty28, ty110]; refine hK _ ?_; clear hK K
   (repeat refine ZQ ?_); refine ZR fun K hK => ?_; simp (maxSteps := 1000000) [ty28]
   refine ZP (hso) ?_; simp (maxSteps := 1000000) [ty4]
   refine hK _ ?_; clear hK K
   (repeat refine ZQ ?_); refine ZC (fun hd => ?_) (fun hd => ?_)
   ·simp at hd
   ·clear hd
    refine awp_skip ?_
    (repeat refine ZQ ?_); refine ZR fun K hK => ?_; simp (maxSteps := 1000000) [ty29, ty28, ty3, hwl, hfl]; refine hK _ ?_; clear hK K
    (repeat refine ZQ ?_); refine ZC (fun hd => ?_) (fun hd => ?_)
    ·simp at hd
    ·clear hd
     refine awp_skip ?_
     (repeat refine ZQ ?_); refine ZR fun K hK => ?_; simp (maxSteps := 1000000) [ty110]; refine hK _ ?_; clear hK K
     (repeat refine ZQ ?_); refine ZR fun K hK => ?_; simp (maxSteps := 1000000) [ty28, ty3, hwg]; refine hK _ ?_; clear hK K
     (repeat refine ZQ ?_); refine awp_block ?_
     refine AWP.weak ?_ (wk_nil 5 5 1 (fu := true) (by simp) (by simp))
     refine awp_loop (fun x : Nat => ⟨ofL [(1, .sl nl fu (f.map cI)), (2, .ptr 2 13 0 0), (5, .own 5 1 0 (A x).length), (6, encI (-w.gain + (x : Int)))], stoT [(2, 2, .live (obWs w)), (5, 5, .live ⟨(A x).isEmpty, false, 1, (A x).map rowP⟩)]⟩)
      (fun x => x ≤ m) (fun x => m - x) 0 (Nat.zero_le _) ?_ ?_
     ·rw [hA0]
      exact ZW
     ·intro x hx0
      have hlx := hAl x hx0
      have hst := hAs x
      have hPx := hPl (-w.gain + (x : Int))
      have hFx := hF x
      (repeat refine ZQ ?_); refine ZR fun K hK => ?_; simp (maxSteps := 1000000) [ty28, ty3]; refine hK _ ?_; clear hK K
      (repeat refine ZQ ?_); refine ZC (fun hc => ?_) (fun hc => ?_)
      ·simp at hc
       have hxm : x < m := by omega
       have hwx : IntKind.i64.wrap (-w.gain + (x : Int) + 1) = -w.gain + ((x + 1 : Nat) : Int) := by rw [wrap_id (by omega) (by omega)]; omega
       generalize allP (co w G) n (f ++ [-w.gain + (x : Int)]) = Z at *
       generalize hacc : A x = acc at *
       refine awp_skip ?_
       (repeat refine ZQ ?_); refine awp_block ?_
       (repeat refine ZQ ?_); refine ZD [4, 1001, 5007, 4008, 10032] [0, 1, 2, 3, 4, 5, 6, 7, 8, 9, 10] fun K hK => ?_; simp (maxSteps := 1000000) [ty28, ty29, ty110, ty3]
       refine ⟨⟨by omega, by omega⟩, ⟨by omega, by omega⟩, ?_⟩
       refine doesD (does_frz 35 (args' := [encWs w, .sl false false ((f ++ [-w.gain + (x : Int)]).map cI)]) (by simp; rfl) ?_ (.cons (.inl rfl) (.cons ?_ .nil)) ?_ hFx ?_) ?_
       ·simp [purel, C.isPure]
       ·have := fz_own (k := 35) (sz := 1) (n := f.length + 1) (b := false) (o := ⟨false, true, 1, f.map cI ++ [[encI (-w.gain + (x : Int))]]⟩) rfl (by simp) rfl
        simpa using this
       ·simp [purel, C.isPure]
       ·simp [C.isPure]
       simp [ty110, ty28, ty29]
       refine ⟨⟨by omega, by omega⟩, ?_⟩
       refine hK _ ?_; clear hK K
       (repeat refine ZQ ?_); refine ZR fun K hK => ?_; simp (maxSteps := 1000000) [ty3, hwx]; refine hK _ ?_; clear hK K; (first | show AWP _ _ _ _ _ | show ∃ _, _ | skip)
       refine ⟨x + 1, by omega, by omega, ?_⟩
       rw [hst]
       refine wk_shape (T := [(2, 2, .live (obWs w)), (5, 37, .live ⟨(acc ++ Z).isEmpty, false, 1, (acc ++ Z).map rowP⟩)]) (shp0 hσ (by simp) (by simp) ?_) ?_
       ·simp [SlotOk]
        exact ⟨.same (by simp [purel, C.isPure]), by cases acc <;> simp, .same (by rw [← List.map_append]; exact rowP_pure _)⟩
       ·simp [mtc, mtl, mT, C.isPure, purel]
      ·simp at hc
       (repeat refine ZQ ?_); refine awp_exit ?_; (first | show AWP _ _ _ _ _ | show ∃ _, _ | skip)
       obtain rfl : x = m := by omega
       (repeat refine ZQ ?_); refine ZR fun K hK => ?_; simp (maxSteps := 1000000) [ty110]; refine hK _ ?_; clear hK K
       (repeat refine ZQ ?_); refine awp_ret ?_; refine And.intro (Or.inr rfl) ?_
       refine ⟨_, by simp [retC, resC]; rfl, ?_⟩
       refine (viewC_own (o := ⟨(A x).isEmpty, false, 1, (A x).map rowP⟩) (by simp) rfl (by simp) (rowP_pure _)).trans ?_
       simp

set_option maxHeartbeats 8000000

-- all truths, as the reference has them

/-- All truths of a valid instrument. -/
def tlW (w : Ws) : List (List Int) := (allP (co w (gl w)) (w.last + 1).toNat []).filter fun l => decide ((wrL (gl w) (pF l) : Int) ≤ w.wrong)

theorem mem_tlW {w : Ws} (hok : WsOk w) {l : List Int} : l ∈ tlW w ↔ l.length = w.last.toNat + 1 ∧ Tru (co w (gl w)) (pF l) := by
 have hl := hok.last
 rw [← isTruB_iff hok]
 unfold tlW isTruB
 rw [List.mem_filter, mem_allP]
 simp only [Bool.and_eq_true, decide_eq_true_eq, List.length_nil, Nat.zero_add, List.nil_prefix, true_and]
 constructor
 ·rintro ⟨⟨h1, h2⟩, h3⟩; exact ⟨⟨by omega, h2⟩, h3⟩
 ·rintro ⟨⟨h1, h2⟩, h3⟩; exact ⟨⟨by omega, h2⟩, h3⟩

/-- The list of a path. -/
def lstP (p : Nat → Int) (n : Nat) : List Int := (List.range (n + 1)).map p
theorem lstP_at (p : Nat → Int) {n i : Nat} (h : i ≤ n) : pF (lstP p n) i = p i := by
 have hi : i < (lstP p n).length := by simp [lstP]; omega
 rw [pF_at hi]; simp [lstP]

theorem tru_congr {c : Co} {p q : Nat → Int} (h : ∀ i, i ≤ c.last.toNat → p i = q i) (hp : Tru c p) : Tru c q := ⟨hp.1.congr h, by rw [← wrs_congr h]; exact hp.2⟩

theorem lst_mem {w : Ws} (hok : WsOk w) {p : Nat → Int} (hp : Tru (co w (gl w)) p) : lstP p w.last.toNat ∈ tlW w :=
 (mem_tlW hok).2 ⟨by simp [lstP], tru_congr (fun i hi => (lstP_at p hi).symm) hp⟩

theorem tlW_nil {w : Ws} (hok : WsOk w) : tlW w = [] ↔ canC (co w (gl w)) [] = false := by
 rw [Bool.eq_false_iff, Ne, can_nil]
 constructor
 ·rintro h ⟨p, hp⟩
  have := lst_mem hok hp
  rw [h] at this; simp at this
 ·intro h
  refine List.eq_nil_iff_forall_not_mem.2 fun l hl => h ⟨_, ((mem_tlW hok).1 hl).2⟩

def knW (w : Ws) (is : Bool) : List (List Int) := if openW w is = 0 then tlW w else []

/-- Small enough for the reference. -/
structure SmallW (w : Ws) : Prop where
  gain : w.gain ≤ 3
  last : w.last ≤ 5
  vs : w.vs.length ≤ 3

theorem q_known84 (w : Ws) (is : Bool) (hn : WsLen w) (hsm : checkW w = 0 → SmallW w) : Pure Tryz.prog 84 [encWs w, .bool is] (.tup [.sl (knW w is).isEmpty (knW w is).isEmpty ((knW w is).map rowP), encI (openW w is)]) := by
 have hck := q_check32 w hn
 by_cases hz : checkW w = 0
 ·have hok := checkW_ok.1 hz
  have hs := hsm hz
  rw [hz] at hck
  cases is
  ·have ho : openW w false = 1 := by unfold openW; rw [if_neg (by simpa using hz), if_pos rfl]
   have hk : knW w false = [] := by unfold knW; rw [ho]; rfl
   rw [ho, hk]
   refine ZF (fn := Tryz.f84) [.tmp 4, .tmp 5] ⟨Tryz.func84, rfl, by kernel_rfl⟩ fun x hx hσ => ?_
   (repeat refine ZQ ?_); refine ZR fun K hK => ?_; simp (maxSteps := 1000000) [ty28, ty110, ty37]; refine hK _ ?_; clear hK K
   (repeat refine ZQ ?_); refine ZR fun K hK => ?_; simp (maxSteps := 1000000) [ty28]
   refine ZP (hck) ?_; simp (maxSteps := 1000000)
   refine hK _ ?_; clear hK K
   (repeat refine ZQ ?_); refine ZR fun K hK => ?_; simp (maxSteps := 1000000) [ty37]; refine hK _ ?_; clear hK K
   (repeat refine ZQ ?_); refine ZC (fun hd => ?_) (fun hd => ?_)
   ·simp at hd
   ·clear hd
    refine awp_skip ?_
    (repeat refine ZQ ?_); refine ZR fun K hK => ?_; simp (maxSteps := 1000000) [ty4]; refine hK _ ?_; clear hK K
    (repeat refine ZQ ?_); refine ZC (fun hd => ?_) (fun hd => ?_)
    ·clear hd
     (repeat refine ZQ ?_); refine ZR fun K hK => ?_; simp (maxSteps := 1000000) [ty110, ty37]; refine hK _ ?_; clear hK K
     (repeat refine ZQ ?_); refine awp_ret ?_; refine And.intro (Or.inr rfl) ?_
     simp [retC, resC, viewC, mapO]
    ·simp at hd
  ·have hla := hok.last
   have hgn := hok.num.gain
   obtain ⟨a, b, hall⟩ := q_all81 w (gl w) (by have := hs.gain; omega) (by have := hs.last; omega) (w.last + 1).toNat [] true true (by simp; omega) (fun h => by omega)
   have hgs := q_gains82 w hn
   have hT : knW w true = tlW w := by
    unfold knW
    split
    ·rfl
    ·rename_i h
     refine ((tlW_nil hok).2 ?_).symm
     rw [Bool.eq_false_iff]
     intro e
     exact h (openW_true' hz e)
   have hE : openW w true = if tlW w = [] then 3 else 0 := by
    split
    ·rename_i h
     have := (tlW_nil hok).1 h
     unfold openW
     rw [if_neg (by simpa using hz), if_neg (by simp), if_pos this]
    ·rename_i h
     refine openW_true' hz ?_
     cases hc : canC (co w (gl w)) []
     ·exact absurd ((tlW_nil hok).2 hc) h
     ·rfl
   rw [hT, hE]
   obtain ⟨L, hL⟩ : ∃ L, allP (co w (gl w)) (w.last + 1).toNat [] = L := ⟨_, rfl⟩
   have hLl : L.length ≤ 117649 := by
    have hsl : (seqI (-(co w (gl w)).gain) (co w (gl w)).gain).length ≤ 7 := by
     have : (seqI (-(co w (gl w)).gain) (co w (gl w)).gain).length = ((co w (gl w)).gain - -(co w (gl w)).gain + 1).toNat := seqN_len _ _
     have := hs.gain
     simp only at *; omega
    rw [← hL]
    exact Nat.le_trans (allP_len hsl (by decide) _ _) (Nat.le_trans (Nat.pow_le_pow_right (by decide) (by have := hs.last; omega : (w.last + 1).toNat ≤ 6)) (by decide))
   have hLm : ∀ l ∈ L, (l.length : Int) = w.last + 1 := fun l hl => by
    rw [← hL] at hl
    have := ((mem_allP _ _ _ _).1 hl).1
    simp at this; omega
   have htl : tlW w = L.filter fun l => decide ((wrL (gl w) (pF l) : Int) ≤ w.wrong) := by rw [← hL]; rfl
   rw [hL] at hall
   rw [htl]
   clear hL htl hT hE
   obtain ⟨q, hq⟩ : ∃ q : List Int → Bool, q = fun l => decide ((wrL (gl w) (pF l) : Int) ≤ w.wrong) := ⟨_, rfl⟩
   rw [← hq]
   obtain ⟨A, hA⟩ : ∃ A : Nat → List (List Int), ∀ i, (L.take i).filter q = A i := ⟨_, fun _ => rfl⟩
   have hA0 : A 0 = [] := by rw [← hA]; rfl
   have hAN : L.filter q = A L.length := by rw [← hA, List.take_length]
   have hAs : ∀ i (h : i < L.length), A (i + 1) = if q L[i] then A i ++ [L[i]] else A i := fun i h => by
    rw [← hA, ← hA, List.take_succ_eq_append_getElem h, List.filter_append]
    cases hb : q L[i] <;> simp [hb]
   have hAl : ∀ i, i ≤ L.length → (A i).length ≤ 117649 := fun i hi => by
    rw [← hA]
    refine Nat.le_trans (List.length_filter_le _ _) ?_
    rw [List.length_take]; omega
   have hLp : (L.map rowP).all purel = true := rowP_pure L
   have hwr := fun (l : List Int) (hl : l ∈ L) => q_wrongs83 w w.vs.isEmpty false false false l hn fun v hv => by
    obtain ⟨i, hi, rfl⟩ := List.getElem_of_mem hv
    have h1 := hok.day i hi
    have h2 := hLm l hl
    omega
   rw [hAN]
   have hgp := gsN_pure w
   generalize gsN w = GS at *
   refine ZF (fn := Tryz.f84) [.tmp 4, .tmp 5] ⟨Tryz.func84, rfl, by kernel_rfl⟩ fun x hx hσ => ?_
   (repeat refine ZQ ?_); refine ZR fun K hK => ?_; simp (maxSteps := 1000000) [ty28, ty110, ty37]; refine hK _ ?_; clear hK K
   (repeat refine ZQ ?_); refine ZR fun K hK => ?_; simp (maxSteps := 1000000) [ty28]
   refine ZP (hck) ?_; simp (maxSteps := 1000000)
   refine hK _ ?_; clear hK K
   (repeat refine ZQ ?_); refine ZR fun K hK => ?_; simp (maxSteps := 1000000) [ty37]; refine hK _ ?_; clear hK K
   (repeat refine ZQ ?_); refine ZC (fun hd => ?_) (fun hd => ?_)
   ·simp at hd
   ·clear hd
    refine awp_skip ?_
    (repeat refine ZQ ?_); refine ZR fun K hK => ?_; simp (maxSteps := 1000000) [ty4]; refine hK _ ?_; clear hK K
    (repeat refine ZQ ?_); refine ZC (fun hd => ?_) (fun hd => ?_)
    ·simp at hd
    ·clear hd
     refine awp_skip ?_
     (repeat refine ZQ ?_); refine ZR fun K hK => ?_; simp (maxSteps := 1000000) [ty110]; refine hK _ ?_; clear hK K
     (repeat refine ZQ ?_); refine ZD [] [0, 1, 2, 3, 4, 5] fun K hK => ?_; simp (maxSteps := 1000000) [ty28, ty110]
     refine ZE (hall) ?_; simp (maxSteps := 1000000) [ty28, ty110]
     refine ZE (hgs) ?_; simp (maxSteps := 1000000) [ty110]
     refine hK _ ?_; clear hK K
     (repeat refine ZQ ?_); refine ZR fun K hK => ?_; simp (maxSteps := 1000000) [ty3]; refine hK _ ?_; clear hK K
     (repeat refine ZQ ?_); refine awp_block ?_
     refine AWP.weak ?_ (wk_nil 7 7 1 (fu := true) (by simp) (by simp))
     refine awp_loop (fun i : Nat => ⟨ofL [(2, .ptr 2 13 0 0), (7, .own 7 1 0 (A i).length), (8, .sl a b (L.map rowP)), (9, .sl w.vs.isEmpty false GS), (10, encI i)], stoT [(2, 2, .live (obWs w)), (7, 7, .live ⟨(A i).isEmpty, false, 1, (A i).map rowP⟩)]⟩)
      (fun i => i ≤ L.length) (fun i => L.length - i) 0 (Nat.zero_le _) ?_ ?_
     ·rw [hA0]
      refine wk_shape (shp0 hσ (by simp) (by simp) ?_) ?_
      ·simp [SlotOk]
       exact .same (by simp [purel, C.isPure])
      ·simp [mtc, mtl, mT, C.isPure, purel]
     ·intro i hi
      have hli := hAl i hi
      (repeat refine ZQ ?_); refine ZR fun K hK => ?_; simp (maxSteps := 1000000) [ty110, ty3]; refine hK _ ?_; clear hK K
      (repeat refine ZQ ?_); refine ZC (fun hc => ?_) (fun hc => ?_)
      ·simp at hc
       have hwi : IntKind.i64.wrap ((i : Int) + 1) = ((i + 1 : Nat) : Int) := by rw [wrap_id (by omega) (by omega)]; rfl
       have hst := hAs i hc
       have hcal := hwr L[i] (List.getElem_mem hc)
       have hqi : q L[i] = decide ((wrL (gl w) (pF L[i]) : Int) ≤ w.wrong) := by rw [hq]
       generalize wrL (gl w) (pF L[i]) = nw at *
       generalize hacc : A i = acc at *
       refine awp_skip ?_
       (repeat refine ZQ ?_); refine awp_block ?_
       cases hb : q L[i]
       ·rw [hb] at hst hqi
        simp at hst
        have hnw : ¬ (nw : Int) ≤ w.wrong := of_decide_eq_false hqi.symm
        (repeat refine ZQ ?_); refine ZD [] [0, 1, 2, 3, 4, 5, 6, 7, 8, 9] fun K hK => ?_; simp (maxSteps := 1000000) [ty28, ty110, ty29, ty3, hc]
        refine callPD hcal (by simp [purel, C.isPure]) (by simp) ?_
        simp [ty28, ty3, hnw]
        refine hK _ ?_; clear hK K
        (repeat refine ZQ ?_); refine ZC (hc := by simp [hnw]; rfl) (fun hd => ?_) (fun hd => ?_)
        ·simp [hnw] at hd
        ·clear hd
         refine awp_skip ?_
         (repeat refine ZQ ?_); refine ZR fun K hK => ?_; simp (maxSteps := 1000000) [ty3]; refine hK _ ?_; clear hK K; (first | show AWP _ _ _ _ _ | show ∃ _, _ | skip)
         refine ⟨i + 1, by omega, by omega, ?_⟩
         rw [hst, hwi]
         refine wk_shape (shp0 hσ (by simp) (by simp) ?_) ?_
         ·simp [SlotOk]
          exact ⟨.same (by simp [purel, C.isPure]), .same (rowP_pure _)⟩
         ·simp [mtc, mtl, mT, C.isPure, purel]
       ·rw [hb] at hst hqi
        simp at hst
        have hnw : (nw : Int) ≤ w.wrong := of_decide_eq_true hqi.symm
        (repeat refine ZQ ?_); refine ZD [] [0, 1, 2, 3, 4, 5, 6, 7, 8, 9] fun K hK => ?_; simp (maxSteps := 1000000) [ty28, ty110, ty29, ty3, hc]
        refine callPD hcal (by simp [purel, C.isPure]) (by simp) ?_
        simp [ty28, ty3, hnw]
        refine hK _ ?_; clear hK K
        (repeat refine ZQ ?_); refine ZC (hc := by simp [hnw]; rfl) (fun hd => ?_) (fun hd => ?_)
        ·clear hd
         (repeat refine ZQ ?_); refine ZR fun K hK => ?_; simp (maxSteps := 1000000) [ty110, ty29, ty3, hc]
         refine ⟨by omega, ?_⟩
         refine hK _ ?_; clear hK K
         (repeat refine ZQ ?_); refine ZR fun K hK => ?_; simp (maxSteps := 1000000) [ty3]; refine hK _ ?_; clear hK K; (first | show AWP _ _ _ _ _ | show ∃ _, _ | skip)
         refine ⟨i + 1, by omega, by omega, ?_⟩
         rw [hst, hwi]
         refine wk_shape (T := [(2, 2, .live (obWs w)), (7, 44, .live ⟨(acc ++ [L[i]]).isEmpty, false, 1, (acc ++ [L[i]]).map rowP⟩)]) (shp0 hσ (by simp) (by simp) ?_) ?_
         ·simp [SlotOk]
          exact ⟨.same (by simp [purel, C.isPure]), .same (by
           have h1 := rowP_pure (acc ++ [L[i]])
           rw [List.map_append] at h1
           exact h1)⟩
         ·simp [mtc, mtl, mT, C.isPure, purel]
        ·simp [hnw] at hd
      ·simp at hc
       (repeat refine ZQ ?_); refine awp_exit ?_; (first | show AWP _ _ _ _ _ | show ∃ _, _ | skip)
       have hiN : i = L.length := by omega
       subst hiN
       generalize A L.length = T at *
       have hpT := rowP_pure T
       by_cases hT0 : T = []
       ·subst hT0
        (repeat refine ZQ ?_); refine ZR fun K hK => ?_; simp (maxSteps := 1000000) [ty110, ty3]; refine hK _ ?_; clear hK K
        (repeat refine ZQ ?_); refine ZC (fun hd => ?_) (fun hd => ?_)
        ·clear hd
         (repeat refine ZQ ?_); refine ZR fun K hK => ?_; simp (maxSteps := 1000000) [ty110, ty37]; refine hK _ ?_; clear hK K
         (repeat refine ZQ ?_); refine awp_ret ?_; refine And.intro (Or.inr rfl) ?_
         simp [retC, resC, viewC, mapO]
        ·simp at hd
       ·have hTl : ((T.length : Int) == 0) = false := by
         rw [beq_eq_false_iff_ne]; intro e; exact hT0 (List.eq_nil_of_length_eq_zero (by omega))
        have hTe : T.isEmpty = false := by cases T with
         | nil => exact absurd rfl hT0
         | cons a l => rfl
        (repeat refine ZQ ?_); refine ZR fun K hK => ?_; simp (maxSteps := 1000000) [ty110, ty3, hTl]; refine hK _ ?_; clear hK K
        (repeat refine ZQ ?_); refine ZC (hc := by simp [hTl]; rfl) (fun hd => ?_) (fun hd => ?_)
        ·simp [hTl] at hd
        ·clear hd
         refine awp_skip ?_
         (repeat refine ZQ ?_); refine ZR fun K hK => ?_; simp (maxSteps := 1000000) [ty110, ty37]; refine hK _ ?_; clear hK K
         (repeat refine ZQ ?_); refine awp_ret ?_; refine And.intro (Or.inr rfl) ?_
         refine ⟨_, by simp [retC, resC]; rfl, ?_⟩
         unfold viewC
         rw [if_neg (by simp [C.isPure, purel])]
         simp only [mapO]
         rw [viewC_own (o := ⟨T.isEmpty, false, 1, T.map rowP⟩) (by simp) rfl (by simp) hpT, viewC_self rfl]
         simp [hT0, hTe]
 ·have ho : openW w is = checkW w := if_pos hz
  have hk : knW w is = [] := by unfold knW; rw [ho, if_neg hz]
  rw [ho, hk]
  refine ZF (fn := Tryz.f84) [.tmp 4, .tmp 5] ⟨Tryz.func84, rfl, by kernel_rfl⟩ fun x hx hσ => ?_
  (repeat refine ZQ ?_); refine ZR fun K hK => ?_; simp (maxSteps := 1000000) [ty28, ty110, ty37]; refine hK _ ?_; clear hK K
  (repeat refine ZQ ?_); refine ZR fun K hK => ?_; simp (maxSteps := 1000000) [ty28]
  refine ZP (hck) ?_; simp (maxSteps := 1000000)
  refine hK _ ?_; clear hK K
  (repeat refine ZQ ?_); refine ZR fun K hK => ?_; simp (maxSteps := 1000000) [ty37]; refine hK _ ?_; clear hK K
  (repeat refine ZQ ?_); refine ZC (hc := by simp [hz]; rfl) (fun hd => ?_) (fun hd => ?_)
  ·clear hd
   (repeat refine ZQ ?_); refine ZR fun K hK => ?_; simp (maxSteps := 1000000) [ty110, ty37]; refine hK _ ?_; clear hK K
   (repeat refine ZQ ?_); refine awp_ret ?_; refine And.intro (Or.inr rfl) ?_
   simp [retC, resC, viewC, mapO]
  ·simp [hz] at hd

set_option maxHeartbeats 8000000

-- gains of a day in some truths, and their doubt, as the reference has them

def onR (c : Co) (X : List (List Int)) (d : Nat) : List Int := (seqI (-c.gain) c.gain).filter fun n => X.any fun l => pF l d == n
theorem onR_tl {w : Ws} (hok : WsOk w) {d : Nat} (hd : d ≤ w.last.toNat) : onR (co w (gl w)) (tlW w) d = onC (co w (gl w)) (d : Nat) [] := by
 unfold onR onC
 refine List.filter_congr fun n hn => ?_
 rw [Bool.eq_iff_iff]
 have h1 := on_nil (co w (gl w)) d hd n
 have h2 : n ∈ onC (co w (gl w)) (d : Nat) [] ↔ onB (co w (gl w)) d [] n = true := by
  unfold onC; rw [List.mem_filter]; exact ⟨fun h => h.2, fun h => ⟨hn, h⟩⟩
 rw [← h2, h1, List.any_eq_true]
 constructor
 ·rintro ⟨l, hl, he⟩
  exact ⟨_, ((mem_tlW hok).1 hl).2, by simpa using he⟩
 ·rintro ⟨p, hp, he⟩
  exact ⟨_, lst_mem hok hp, by rw [lstP_at p hd, he]; simp⟩

set_option maxHeartbeats 8000000

theorem q_on87 (w : Ws) (G : List (Int × List Int)) (nl fu : Bool) (X : List (List Int)) (d : Nat) (hg : 0 ≤ w.gain ∧ w.gain ≤ 50) (hX : X.length ≤ 1000000) (hl : ∀ l ∈ X, d < l.length) :
  Pure Tryz.prog 87 [encWs w, .sl nl fu (X.map rowP), encI d] (.sl (onR (co w G) X d).isEmpty false ((onR (co w G) X d).map cI)) := by
 have hwg : IntKind.i64.wrap (-w.gain) = -w.gain := wrap_id (by omega) (by omega)
 obtain ⟨N, hN⟩ : ∃ N : Nat, (w.gain - -w.gain + 1).toNat = N := ⟨_, rfl⟩
 have hN' : (N : Int) = w.gain - -w.gain + 1 := by omega
 obtain ⟨A, hA⟩ : ∃ A : Nat → List Int, ∀ i, ((seqN (-w.gain) i).filter fun n => X.any fun l => pF l d == n) = A i := ⟨_, fun _ => rfl⟩
 have hA0 : A 0 = [] := by rw [← hA]; rfl
 have hAN : onR (co w G) X d = A N := by
  rw [← hA]; unfold onR seqI
  rw [show ((co w G).gain - -(co w G).gain + 1).toNat = N by simp only; omega]
 have hAs : ∀ i : Nat, A (i + 1) = if (X.any fun l => pF l d == -w.gain + (i : Int)) = true then A i ++ [-w.gain + (i : Int)] else A i := fun i => by
  rw [← hA, ← hA, seqN_step, List.filter_append]
  cases hb : X.any fun l => pF l d == -w.gain + (i : Int) <;> simp [hb]
 have hAl : ∀ i, (A i).length ≤ i := fun i => by
  rw [← hA]
  refine Nat.le_trans (List.length_filter_le _ _) ?_
  rw [seqN_len]; omega
 rw [hAN]
 clear hA hAN
 have hpX := rowP_pure X
 refine ZF (fn := Tryz.f87) [.tmp 6] ⟨Tryz.func87, rfl, by kernel_rfl⟩ fun x hx hσ => ?_
 (repeat refine ZQ ?_); refine ZR fun K hK => ?_; simp (maxSteps := 1000000) [ty28, ty29]; refine hK _ ?_; clear hK K
 (repeat refine ZQ ?_); refine ZR fun K hK => ?_; simp (maxSteps := 1000000) [ty29]; refine hK _ ?_; clear hK K
 (repeat refine ZQ ?_); refine ZR fun K hK => ?_; simp (maxSteps := 1000000) [ty28, ty3, hwg]; refine hK _ ?_; clear hK K
 (repeat refine ZQ ?_); refine awp_block ?_
 refine AWP.weak ?_ (wk_nil 7 7 1 (fu := true) (by simp) (by simp))
 refine awp_loop (fun i : Nat => ⟨ofL [(1, .sl nl fu (X.map rowP)), (2, encI d), (3, .ptr 3 13 0 0), (7, .own 7 1 0 (A i).length), (8, encI (-w.gain + (i : Int)))], stoT [(3, 3, .live (obWs w)), (7, 7, .live ⟨(A i).isEmpty, false, 1, (A i).map cI⟩)]⟩)
  (fun i => i ≤ N) (fun i => N - i) 0 (Nat.zero_le _) ?_ ?_
 ·rw [hA0]
  exact ZW
 ·intro i hi
  have hli := hAl i
  (repeat refine ZQ ?_); refine ZR fun K hK => ?_; simp (maxSteps := 1000000) [ty28, ty3]; refine hK _ ?_; clear hK K
  (repeat refine ZQ ?_); refine ZC (fun hc => ?_) (fun hc => ?_)
  ·simp at hc
   have hiN : i < N := by omega
   have hwi : IntKind.i64.wrap (-w.gain + (i : Int) + 1) = -w.gain + ((i + 1 : Nat) : Int) := by rw [wrap_id (by omega) (by omega)]; omega
   have hst := hAs i
   obtain ⟨n, hn⟩ : ∃ n, -w.gain + (i : Int) = n := ⟨_, rfl⟩
   rw [hn] at hst hwi
   simp only [hn]
   generalize hacc : A i = acc at *
   refine awp_skip ?_
   (repeat refine ZQ ?_); refine awp_block ?_
   (repeat refine ZQ ?_); refine ZR fun K hK => ?_; simp (maxSteps := 1000000) [ty3]; refine hK _ ?_; clear hK K
   (repeat refine ZQ ?_); refine awp_block ?_
   refine awp_loop (fun k : Nat => ⟨ofL [(1, .sl nl fu (X.map rowP)), (2, encI d), (3, .ptr 3 13 0 0), (7, .own 7 1 0 acc.length), (8, encI n), (9, encI k)], stoT [(3, 3, .live (obWs w)), (7, 7, .live ⟨acc.isEmpty, false, 1, acc.map cI⟩)]⟩)
    (fun k => k ≤ X.length ∧ ∀ j, (h : j < X.length) → j < k → (pF X[j] d == n) = false) (fun k => X.length - k) 0 (by simp) ?_ ?_
   ·exact ZW
   ·intro k ⟨hk, hkm⟩
    (repeat refine ZQ ?_); refine ZR fun K hK => ?_; simp (maxSteps := 1000000) [ty110, ty3]; refine hK _ ?_; clear hK K
    (repeat refine ZQ ?_); refine ZC (fun hc2 => ?_) (fun hc2 => ?_)
    ·simp at hc2
     have hwk : IntKind.i64.wrap ((k : Int) + 1) = ((k + 1 : Nat) : Int) := by rw [wrap_id (by omega) (by omega)]; rfl
     have hdl := hl _ (List.getElem_mem hc2)
     have hpk := pF_at hdl
     refine awp_skip ?_
     (repeat refine ZQ ?_); refine awp_block ?_
     cases hb : X[k][d] == n
     ·(repeat refine ZQ ?_); refine ZR fun K hK => ?_; simp (maxSteps := 1000000) [ty110, ty29, ty3, hc2, hdl, hb]; refine hK _ ?_; clear hK K
      (repeat refine ZQ ?_); refine ZC (hc := by simp [hb]; rfl) (fun hd => ?_) (fun hd => ?_)
      ·simp [hb] at hd
      ·clear hd
       refine awp_skip ?_
       (repeat refine ZQ ?_); refine ZR fun K hK => ?_; simp (maxSteps := 1000000) [ty3]; refine hK _ ?_; clear hK K; (first | show AWP _ _ _ _ _ | show ∃ _, _ | skip)
       refine ⟨k + 1, ⟨by omega, fun j h1 h2 => ?_⟩, by omega, ?_⟩
       ·by_cases hjk : j = k
        ·subst hjk; rw [hpk]; exact hb
        ·exact hkm j h1 (by omega)
       ·rw [hwk]
        exact ZW
     ·have hany : (X.any fun l => pF l d == n) = true := List.any_eq_true.2 ⟨_, List.getElem_mem hc2, by rw [hpk]; exact hb⟩
      rw [if_pos hany] at hst
      (repeat refine ZQ ?_); refine ZR fun K hK => ?_; simp (maxSteps := 1000000) [ty110, ty29, ty3, hc2, hdl, hb]; refine hK _ ?_; clear hK K
      (repeat refine ZQ ?_); refine ZC (hc := by simp [hb]; rfl) (fun hd => ?_) (fun hd => ?_)
      ·clear hd
       (repeat refine ZQ ?_); refine ZR fun K hK => ?_; simp (maxSteps := 1000000) [ty29, ty3]
       refine ⟨by omega, ?_⟩
       refine hK _ ?_; clear hK K
       (repeat refine ZQ ?_); refine awp_exit ?_
       (repeat refine ZQ ?_); refine ZR fun K hK => ?_; simp (maxSteps := 1000000) [ty3]; refine hK _ ?_; clear hK K; (first | show AWP _ _ _ _ _ | show ∃ _, _ | skip)
       refine ⟨i + 1, by omega, by omega, ?_⟩
       rw [hwi]
       refine wk_shape (T := [(3, 3, .live (obWs w)), (7, 37, .live ⟨(A (i + 1)).isEmpty, false, 1, (A (i + 1)).map cI⟩)]) (shp0 hσ (by simp) (by simp) ?_) ?_
       ·simp [SlotOk, hst]
        exact ⟨.same (by simp [purel, C.isPure]), .same (by simp [purel, C.isPure])⟩
       ·simp [mtc, mtl, mT, C.isPure, purel, hst]
      ·simp [hb] at hd
    ·simp at hc2
     (repeat refine ZQ ?_); refine awp_exit ?_; (first | show AWP _ _ _ _ _ | show ∃ _, _ | skip)
     have hany : (X.any fun l => pF l d == n) = false := by
      rw [Bool.eq_false_iff]
      intro e
      obtain ⟨g, hg, h1⟩ := List.any_eq_true.1 e
      obtain ⟨m, hm, rfl⟩ := List.getElem_of_mem hg
      rw [hkm m hm (by omega)] at h1
      cases h1
     rw [if_neg (by rw [hany]; simp)] at hst
     (repeat refine ZQ ?_); refine ZR fun K hK => ?_; simp (maxSteps := 1000000) [ty3]; refine hK _ ?_; clear hK K; (first | show AWP _ _ _ _ _ | show ∃ _, _ | skip)
     refine ⟨i + 1, by omega, by omega, ?_⟩
     rw [hst, hwi]
     exact ZW
  ·simp at hc
   (repeat refine ZQ ?_); refine awp_exit ?_; (first | show AWP _ _ _ _ _ | show ∃ _, _ | skip)
   have hiN : i = N := by omega
   subst hiN
   generalize A i = T at *
   (repeat refine ZQ ?_); refine ZR fun K hK => ?_; simp (maxSteps := 1000000) [ty29]; refine hK _ ?_; clear hK K
   (repeat refine ZQ ?_); refine awp_ret ?_; refine And.intro (Or.inr rfl) ?_
   refine ⟨_, by simp [retC, resC]; rfl, ?_⟩
   refine (viewC_own (o := ⟨T.isEmpty, false, 1, T.map cI⟩) (by simp) rfl (by simp) (ints_pure _)).trans ?_
   simp

set_option maxHeartbeats 8000000

-- Left, Doubt and Due of the reference

theorem tlW_len {w : Ws} (hok : WsOk w) (hs : SmallW w) : (tlW w).length ≤ 117649 := by
 have hgn := hok.num.gain
 have hsl : (seqI (-(co w (gl w)).gain) (co w (gl w)).gain).length ≤ 7 := by
  have h1 : (seqI (-(co w (gl w)).gain) (co w (gl w)).gain).length = ((co w (gl w)).gain - -(co w (gl w)).gain + 1).toNat := seqN_len _ _
  have := hs.gain
  simp only at h1 ⊢; omega
 unfold tlW
 refine Nat.le_trans (List.length_filter_le _ _) ?_
 exact Nat.le_trans (allP_len hsl (by decide) _ _) (Nat.le_trans (Nat.pow_le_pow_right (by decide) (by have := hs.last; omega : (w.last + 1).toNat ≤ 6)) (by decide))

theorem tlW_bd {w : Ws} (hok : WsOk w) {l : List Int} (hl : l ∈ tlW w) {d : Nat} (hd : d ≤ w.last.toNat) : -w.gain ≤ pF l d ∧ pF l d ≤ w.gain := by
 obtain ⟨h1, h2⟩ := (mem_tlW hok).1 hl
 exact alC_bd (h2.1.1 d hd)

theorem known_ok {w : Ws} {is : Bool} (hn : WsLen w) (hsm : checkW w = 0 → SmallW w) (hz : openW w is = 0) : Pure Tryz.prog 84 [encWs w, .bool is] (.tup [.sl false false ((tlW w).map rowP), encI 0]) := by
 have h := q_known84 w is hn hsm
 have hk : knW w is = tlW w := if_pos hz
 have hok := (openW_ok hz).1
 have hne : (tlW w).isEmpty = false := by
  have hcan := (openW_ok hz).2.2
  cases h0 : tlW w with
  | nil => have := (tlW_nil hok).1 h0; rw [hcan] at this; cases this
  | cons a l => rfl
 rw [hk, hz, hne] at h
 exact h
theorem known_no {w : Ws} {is : Bool} (hn : WsLen w) (hsm : checkW w = 0 → SmallW w) (hz : openW w is ≠ 0) : Pure Tryz.prog 84 [encWs w, .bool is] (.tup [.sl true true [], encI (openW w is)]) := by
 have h := q_known84 w is hn hsm
 have hk : knW w is = [] := if_neg hz
 rw [hk] at h
 exact h

set_option maxHeartbeats 8000000
set_option maxRecDepth 20000

-- Due of the reference

set_option maxHeartbeats 8000000
set_option maxRecDepth 20000

-- Errs, Real and Blame of the reference

/-- What is known of a day of an open instrument. -/
theorem day_on {w : Ws} (hn : WsLen w) (hsm : checkW w = 0 → SmallW w) {day : Int} {is : Bool} (hz : openW w is = 0) (hd : dayB w day = true) :
    Pure Tryz.prog 84 [encWs w, .bool is] (.tup [.sl false false ((tlW w).map rowP), encI 0]) ∧
    Pure Tryz.prog 87 [encWs w, .sl false false ((tlW w).map rowP), encI day] (.sl false false ((onC (co w (gl w)) day []).map cI)) ∧
    onC (co w (gl w)) day [] ≠ [] ∧ (onC (co w (gl w)) day []).length ≤ 101 ∧ (∀ z ∈ onC (co w (gl w)) day [], -50 ≤ z ∧ z ≤ 50) ∧ 0 ≤ day ∧ day ≤ w.last := by
  obtain ⟨hok, his, hcan⟩ := openW_ok hz
  have hlen := tlW_len hok (hsm (checkW_ok.2 hok))
  have hdd : 0 ≤ day ∧ day ≤ w.last := by simpa [dayB] using hd
  obtain ⟨d, rfl⟩ : ∃ d : Nat, day = d := ⟨day.toNat, by omega⟩
  have hdl : d ≤ w.last.toNat := by omega
  have hgn := hok.num.gain
  have h := q_on87 w (gl w) false false (tlW w) d hgn (by omega) fun l hl => by have := ((mem_tlW hok).1 hl).1; omega
  rw [onR_tl hok hdl] at h
  have hne := on_ne_nil' hcan (d := d) (by simpa using hdl)
  have he : (onC (co w (gl w)) (d : Nat) []).isEmpty = false := by simpa using hne
  rw [he] at h
  refine ⟨known_ok hn hsm hz, h, hne, onC_len _ _ _ hgn, fun z hz' => ?_, hdd⟩
  have h1 := onC_bd hz'
  simp only at h1
  omega


set_option maxHeartbeats 8000000
set_option maxRecDepth 20000

-- Blame of the reference

theorem count_step {α : Type} (f : α → Bool) {T : List α} {i : Nat} (hi : i < T.length) : (T.take (i + 1)).countP f = (T.take i).countP f + if f T[i] then 1 else 0 := by
 rw [List.take_succ_eq_append_getElem hi, List.countP_append]
 cases h : f T[i] <;> simp [h]


set_option maxHeartbeats 16000000
set_option maxRecDepth 20000

-- Errs, Real and Blame are what the document specifies

theorem copyW_day (w : Ws) (d : Int) : dayB (copyW w) d = dayB w d := rfl

set_option maxHeartbeats 4000000

-- plain: the reference's Fewest, Strange and Drift

theorem foldl_take {α β : Type} (f : β → α → β) (b : β) {L : List α} {i : Nat} (hi : i < L.length) : (L.take (i + 1)).foldl f b = f ((L.take i).foldl f b) L[i] := by
 rw [List.take_succ_eq_append_getElem hi, List.foldl_append]; rfl

theorem drift_fst (P : Int → Prop) : ∀ (L : List Int) (f : Int → Int) (s : Int × Int), (s.1 < 0 ∨ (0 ≤ s.1 ∧ P s.1)) → (∀ z ∈ L, 0 ≤ f z ∧ P (f z)) →
  (L = [] ∧ L.foldl (fun s z => driftS s (f z)) s = s) ∨ (0 ≤ (L.foldl (fun s z => driftS s (f z)) s).1 ∧ P (L.foldl (fun s z => driftS s (f z)) s).1)
 | [], f, s, _, _ => .inl ⟨rfl, rfl⟩
 | a :: L, f, s, hs, hL => by
  right
  have ha := hL a (by simp)
  have hs' : 0 ≤ (driftS s (f a)).1 ∧ P (driftS s (f a)).1 := by
   unfold driftS
   simp only
   split
   ·exact ha
   ·rename_i h
    rcases hs with h1 | h1
    ·exact absurd (.inl h1) h
    ·exact h1
  simp only [List.foldl_cons]
  rcases drift_fst P L f (driftS s (f a)) (.inr hs') (fun z hz => hL z (by simp [hz])) with ⟨e, h⟩ | h
  ·rw [h]; exact hs'
  ·exact h

theorem drift_fst2 (P : Int → Prop) (c : Co) (a b : Int) : ∀ (L : List Int) (s : Int × Int), (s.1 < 0 ∨ (0 ≤ s.1 ∧ P s.1)) → (∀ g ∈ L, onC c b [(a, g)] ≠ [] ∧ ∀ z ∈ onC c b [(a, g)], 0 ≤ g - z ∧ P (g - z)) →
  (L = [] ∧ L.foldl (fun s g => driftIn c a b g s) s = s) ∨ (0 ≤ (L.foldl (fun s g => driftIn c a b g s) s).1 ∧ P (L.foldl (fun s g => driftIn c a b g s) s).1)
 | [], s, _, _ => .inl ⟨rfl, rfl⟩
 | g :: L, s, hs, hL => by
  right
  have hg := hL g (by simp)
  have hs' : 0 ≤ (driftIn c a b g s).1 ∧ P (driftIn c a b g s).1 := by
   rcases drift_fst P (onC c b [(a, g)]) (fun z => g - z) s hs hg.2 with ⟨e, _⟩ | h1
   ·exact absurd e hg.1
   ·exact h1
  simp only [List.foldl_cons]
  rcases drift_fst2 P c a b L (driftIn c a b g s) (.inr hs') (fun z hz => hL z (by simp [hz])) with ⟨_, h⟩ | h
  ·rw [h]; exact hs'
  ·exact h

/-- The ends of the drift are drifts of truths. -/
theorem drift_is {c : Co} (hcan : canC c [] = true) {a b : Nat} (hab : a ≤ b) (hb : b ≤ c.last.toNat) :
    (∃ p, Tru c p ∧ p a - p b = (driftL c a b).1) ∧ (∃ p, Tru c p ∧ p a - p b = (driftL c a b).2) := by
  have ha : a ≤ c.last.toNat := by omega
  have key : ∀ g ∈ onC c a [], onC c b [((a : Int), g)] ≠ [] ∧ ∀ z ∈ onC c b [((a : Int), g)], 0 ≤ g - z ∧ ∃ p, Tru c p ∧ p a - p b = g - z := fun g hg => by
    refine ⟨on_ne_one hg ha hb, fun z hz => ?_⟩
    obtain ⟨p, hp, e1, e2⟩ := (on_one c a b g ha hb z).1 hz
    have := tru_drop hp hab hb
    rw [e1, e2] at this
    exact ⟨this.1, p, hp, by rw [e1, e2]⟩
  have h1 : ∃ p, Tru c p ∧ p a - p b = (driftL c a b).1 := by
    rcases drift_fst2 (fun x => ∃ p, Tru c p ∧ p a - p b = x) c a b (onC c a []) (-1, 0) (.inl (by decide)) key with ⟨e, _⟩ | h
    · exact absurd e (on_ne_nil hcan ha)
    · exact h.2
  refine ⟨h1, ?_⟩
  obtain ⟨p, hp, hpe⟩ := h1
  have hpb := drift_has hp hab hb
  have hpd := tru_drop hp hab hb
  rcases drift_all (fun x => x = 0 ∨ ∃ p, Tru c p ∧ p a - p b = x) c a b (.inl rfl) (onC c a []) (-1, 0) (.inl rfl) (fun g hg => ⟨(key g hg).1, fun z hz => ⟨((key g hg).2 z hz).1, .inr ((key g hg).2 z hz).2⟩⟩) with ⟨e, _⟩ | h
  · exact absurd e (on_ne_nil hcan ha)
  · rcases h.2.2.1 with h0 | h0
    · have h0' : (driftL c a b).2 = 0 := h0
      exact ⟨p, hp, by omega⟩
    · exact h0

def dR (s : Int × Int) (n : Int) : Int × Int := (if n < s.1 then n else s.1, if s.2 < n then n else s.2)

theorem dR_spec {α : Type} (P : Int → Prop) (f : α → Int) : ∀ (T : List α) (s : Int × Int), P s.1 → P s.2 → (∀ l ∈ T, P (f l)) →
  P (T.foldl (fun s l => dR s (f l)) s).1 ∧ P (T.foldl (fun s l => dR s (f l)) s).2 ∧ (T.foldl (fun s l => dR s (f l)) s).1 ≤ s.1 ∧ s.2 ≤ (T.foldl (fun s l => dR s (f l)) s).2 ∧
  ∀ l ∈ T, (T.foldl (fun s l => dR s (f l)) s).1 ≤ f l ∧ f l ≤ (T.foldl (fun s l => dR s (f l)) s).2
 | [], s, h1, h2, _ => ⟨h1, h2, Int.le_refl _, Int.le_refl _, by simp⟩
 | a :: T, s, h1, h2, h => by
  have ha := h a (by simp)
  have k1 : P (dR s (f a)).1 := by unfold dR; simp only; split <;> assumption
  have k2 : P (dR s (f a)).2 := by unfold dR; simp only; split <;> assumption
  obtain ⟨i1, i2, i3, i4, i5⟩ := dR_spec P f T (dR s (f a)) k1 k2 fun l hl => h l (by simp [hl])
  simp only [List.foldl_cons]
  have k3 : (dR s (f a)).1 ≤ s.1 ∧ (dR s (f a)).1 ≤ f a := by unfold dR; simp only; split <;> omega
  have k4 : s.2 ≤ (dR s (f a)).2 ∧ f a ≤ (dR s (f a)).2 := by unfold dR; simp only; split <;> omega
  refine ⟨i1, i2, by omega, by omega, fun l hl => ?_⟩
  rcases List.mem_cons.1 hl with rfl | hl
  ·omega
  ·exact i5 l hl

theorem drift_ref {w : Ws} (hok : WsOk w) (hcan : canC (co w (gl w)) [] = true) {a b : Nat} (hab : a ≤ b) (hb : b ≤ w.last.toNat) (hp : 0 < (tlW w).length) :
  driftL (co w (gl w)) a b = (tlW w).foldl (fun s l => dR s (pF l a - pF l b)) (pF (tlW w)[0] a - pF (tlW w)[0] b, pF (tlW w)[0] a - pF (tlW w)[0] b) := by
 have hS : ∀ l ∈ tlW w, ∃ l' ∈ tlW w, pF l' a - pF l' b = pF l a - pF l b := fun l hl => ⟨l, hl, rfl⟩
 have h0 := hS _ (List.getElem_mem hp)
 obtain ⟨⟨l1, m1, e1⟩, ⟨l2, m2, e2⟩, _, _, hb2⟩ := dR_spec (fun x => ∃ l ∈ tlW w, pF l a - pF l b = x) (fun l => pF l a - pF l b) (tlW w) (pF (tlW w)[0] a - pF (tlW w)[0] b, pF (tlW w)[0] a - pF (tlW w)[0] b) h0 h0 hS
 obtain ⟨⟨p, hp1, hp2⟩, ⟨q, hq1, hq2⟩⟩ := drift_is hcan hab (by simpa using hb)
 have u1 := drift_has ((mem_tlW hok).1 m1).2 hab (by simpa using hb)
 have u2 := drift_has ((mem_tlW hok).1 m2).2 hab (by simpa using hb)
 have v1 := hb2 _ (lst_mem hok hp1)
 have v2 := hb2 _ (lst_mem hok hq1)
 rw [lstP_at p (by omega), lstP_at p hb] at v1
 rw [lstP_at q (by omega), lstP_at q hb] at v2
 generalize (tlW w).foldl (fun s l => dR s (pF l a - pF l b)) (pF (tlW w)[0] a - pF (tlW w)[0] b, pF (tlW w)[0] a - pF (tlW w)[0] b) = R at *
 refine Prod.ext ?_ ?_ <;> omega

theorem isAB_eq (w : Ws) (a b : Int) : (dayB w a && withinB b a w.last) = isAB w a b := by
 unfold isAB
 rw [Bool.eq_iff_iff]
 simp [dayB, withinB]
 omega

-- Fewest

theorem mn_spec {α : Type} (f : α → Int) : ∀ (T : List α) (m : Int), (T.foldl (fun m l => if f l < m then f l else m) m ≤ m ∧ ∀ l ∈ T, T.foldl (fun m l => if f l < m then f l else m) m ≤ f l) ∧ (T.foldl (fun m l => if f l < m then f l else m) m = m ∨ ∃ l ∈ T, T.foldl (fun m l => if f l < m then f l else m) m = f l)
 | [], m => ⟨⟨Int.le_refl _, by simp⟩, .inl rfl⟩
 | a :: T, m => by
  simp only [List.foldl_cons]
  obtain ⟨⟨h1, h2⟩, h3⟩ := mn_spec f T (if f a < m then f a else m)
  have h0 : (if f a < m then f a else m) ≤ m ∧ (if f a < m then f a else m) ≤ f a := by split <;> omega
  refine ⟨⟨by omega, fun l hl => ?_⟩, ?_⟩
  ·rcases List.mem_cons.1 hl with rfl | hl
   ·omega
   ·exact h2 l hl
  ·rcases h3 with h3 | ⟨l, hl, h3⟩
   ·rw [h3]
    split
    ·exact .inr ⟨a, by simp, rfl⟩
    ·exact .inl rfl
   ·exact .inr ⟨l, by simp [hl], h3⟩

theorem few_ref {w : Ws} (hok : WsOk w) : fewC (co w (gl w)) [] = (allP (co w (gl w)) (w.last + 1).toNat []).foldl (fun m l => if (wrL (gl w) (pF l) : Int) < m then (wrL (gl w) (pF l) : Int) else m) w.vs.length := by
 have hla := hok.last
 have hgn := hok.num.gain
 have hdr := hok.drop
 obtain ⟨g1, g2⟩ := glOk hok
 have hwr : ∀ p, (wrL (gl w) p : Int) = wrs (gl w) p w.last.toNat := fun p => wrL_wrs g1 fun q hq => by have := g2 q hq; omega
 have hmem : ∀ l, l ∈ allP (co w (gl w)) (w.last + 1).toNat [] ↔ l.length = w.last.toNat + 1 ∧ Good (co w (gl w)) [] (pF l) w.last.toNat := fun l => by
  rw [mem_allP]
  simp only [List.length_nil, Nat.zero_add, List.nil_prefix, true_and]
  constructor
  ·rintro ⟨h1, h2⟩; exact ⟨by omega, (isSo_good (by omega)).1 h2⟩
  ·rintro ⟨h1, h2⟩; exact ⟨by omega, (isSo_good h1).2 h2⟩
 have hlst : ∀ p, Good (co w (gl w)) [] p w.last.toNat → lstP p w.last.toNat ∈ allP (co w (gl w)) (w.last + 1).toNat [] ∧ (wrL (gl w) (pF (lstP p w.last.toNat)) : Int) = wrs (gl w) p w.last.toNat := fun p hp => by
  refine ⟨(hmem _).2 ⟨by simp [lstP], hp.congr fun i hi => (lstP_at p hi).symm⟩, ?_⟩
  rw [hwr]; exact wrs_congr fun i hi => lstP_at p hi
 obtain ⟨⟨h1, h2⟩, h3⟩ := mn_spec (fun l => (wrL (gl w) (pF l) : Int)) (allP (co w (gl w)) (w.last + 1).toNat []) w.vs.length
 have hz : Good (co w (gl w)) [] (fun _ => 0) w.last.toNat := ⟨fun i _ => by simp [alC, knB]; omega, fun i _ => by simp only; omega⟩
 rcases few_spec (co w (gl w)) [] with ⟨_, hn⟩ | ⟨k1, ⟨p, hp, hpe⟩, k2⟩
 ·exact absurd hz (hn _)
 ·obtain ⟨m1, m2⟩ := hlst p hp
  have hpe' : wrs (gl w) p w.last.toNat = fewC (co w (gl w)) [] := hpe
  have a1 := h2 _ m1
  simp only [m2] at a1
  rcases h3 with h3 | ⟨l, hl, h3⟩
  ·have hle : (wrL (gl w) p : Int) ≤ w.vs.length := by rw [wrL_gl]; exact_mod_cast List.countP_le_length
   rw [hwr] at hle
   rw [h3] at a1 ⊢
   omega
  ·have := k2 _ ((hmem l).1 hl).2
   have this' : fewC (co w (gl w)) [] ≤ wrs (gl w) (pF l) w.last.toNat := this
   rw [← hwr] at this'
   rw [h3] at a1 ⊢
   omega

-- Strange

theorem str_ref {w : Ws} (hok : WsOk w) {i : Nat} (hi : i < w.vs.length) : strW w i = !(tlW w).any fun l => decide (pF l w.vs[i].day.toNat ∈ numsT Tr.area (tiV w w.vs[i]) true) := by
 rw [strW_at hi]
 have hd : 0 ≤ w.vs[i].day ∧ w.vs[i].day ≤ w.last := (glOk hok).2 (glV w w.vs[i]) (List.mem_map.2 ⟨_, List.getElem_mem hi, rfl⟩)
 obtain ⟨d, hde⟩ : ∃ d : Nat, w.vs[i].day = d := ⟨w.vs[i].day.toNat, by omega⟩
 rw [hde] at hd ⊢
 congr 1
 rw [Bool.eq_iff_iff, List.any_eq_true, List.any_eq_true]
 simp only [Int.toNat_natCast, decide_eq_true_eq]
 constructor
 ·rintro ⟨g, hg, h⟩
  obtain ⟨p, hp, e⟩ := (can_one _ d g (by simp only; omega)).1 h
  exact ⟨_, lst_mem hok hp, by rw [lstP_at p (by omega), e]; exact hg⟩
 ·rintro ⟨l, hl, h⟩
  exact ⟨_, h, (can_one _ d _ (by simp only; omega)).2 ⟨pF l, ((mem_tlW hok).1 hl).2, rfl⟩⟩

set_option maxHeartbeats 8000000
set_option maxRecDepth 20000

-- Fewest, Strange, On and Drift of the reference


theorem q_on36 (w : Ws) (day : Int) (hn : WsLen w) (hsm : checkW w = 0 → SmallW w) : Pure Tryz.prog 36 [encWs w, encI day] (.tup [.sl (onW w day).isEmpty (openW w (dayB w day) != 0) ((onW w day).map cI), encI (openW w (dayB w day))]) := by
 by_cases hz : openW w (dayB w day) = 0
 ·obtain ⟨hok, his, hcan⟩ := openW_ok hz
  obtain ⟨hkn, hon, hne, hln, hmem, hd1⟩ := day_on hn hsm hz his
  have hV : onW w day = onC (co w (gl w)) day [] := if_pos hz
  rw [hV, hz]
  clear hV
  generalize onC (co w (gl w)) day [] = G at *
  generalize tlW w = T at *
  refine ZF (fn := Tryz.f36) [.tmp 4, .tmp 5] ⟨Tryz.func36, rfl, by kernel_rfl⟩ fun x hx hσ => ?_
  (repeat refine ZQ ?_); refine ZR fun K hK => ?_; simp (maxSteps := 1000000) [ty28, ty37, ty29]; refine hK _ ?_; clear hK K
  (repeat refine ZQ ?_); refine ZD [] [0, 1, 2, 3, 4, 5, 6, 7, 8, 9] fun K hK => ?_; simp (maxSteps := 1000000) [ty28, ty3, ty4]
  refine ZE (q_isDay86 w day) ?_; simp (maxSteps := 1000000) [ty28, ty3, ty4]
  refine ZE (hkn) ?_; simp (maxSteps := 1000000) [ty110]
  refine hK _ ?_; clear hK K
  (repeat refine ZQ ?_); refine ZR fun K hK => ?_; simp (maxSteps := 1000000) [ty37]; refine hK _ ?_; clear hK K
  (repeat refine ZQ ?_); refine ZC (fun hd => ?_) (fun hd => ?_)
  ·simp at hd
  ·clear hd
   refine awp_skip ?_
   (repeat refine ZQ ?_); refine ZR fun K hK => ?_; simp (maxSteps := 1000000) [ty28, ty110, ty3]
   refine callP hon (by simp [purel, C.isPure]) ?_
   simp [ty29, ty37]
   refine hK _ ?_; clear hK K
   (repeat refine ZQ ?_); refine awp_ret ?_; refine And.intro (Or.inr rfl) ?_
   simp [retC, resC, viewC, mapO, hne]
 ·have hV : onW w day = [] := if_neg hz
  have hkn := known_no (is := dayB w day) hn hsm hz
  refine ZF (fn := Tryz.f36) [.tmp 4, .tmp 5] ⟨Tryz.func36, rfl, by kernel_rfl⟩ fun x hx hσ => ?_
  (repeat refine ZQ ?_); refine ZR fun K hK => ?_; simp (maxSteps := 1000000) [ty28, ty37, ty29]; refine hK _ ?_; clear hK K
  (repeat refine ZQ ?_); refine ZD [] [0, 1, 2, 3, 4, 5, 6, 7, 8, 9] fun K hK => ?_; simp (maxSteps := 1000000) [ty28, ty3, ty4]
  refine ZE (q_isDay86 w day) ?_; simp (maxSteps := 1000000) [ty28, ty3, ty4]
  refine ZE (hkn) ?_; simp (maxSteps := 1000000) [ty110]
  refine hK _ ?_; clear hK K
  (repeat refine ZQ ?_); refine ZR fun K hK => ?_; simp (maxSteps := 1000000) [ty37]; refine hK _ ?_; clear hK K
  (repeat refine ZQ ?_); refine ZC (hc := by simp [hz]; rfl) (fun hd => ?_) (fun hd => ?_)
  ·clear hd
   (repeat refine ZQ ?_); refine ZR fun K hK => ?_; simp (maxSteps := 1000000) [ty37, ty29]; refine hK _ ?_; clear hK K
   (repeat refine ZQ ?_); refine awp_ret ?_; refine And.intro (Or.inr rfl) ?_
   simp [retC, resC, viewC, mapO, hz, hV]
  ·simp [hz] at hd


theorem q_drift37 (w : Ws) (a b : Int) (hn : WsLen w) (hsm : checkW w = 0 → SmallW w) : Pure Tryz.prog 37 [encWs w, encI a, encI b] (.tup [encP (driftW w a b), encI (openW w (isAB w a b))]) := by
 have hwt := q_within77 b a w.last
 by_cases hz : openW w (isAB w a b) = 0
 ·obtain ⟨hok, his, hcan⟩ := openW_ok hz
  have hkn := known_ok (is := isAB w a b) hn hsm hz
  have hlen := tlW_len hok (hsm (checkW_ok.2 hok))
  have hV : driftW w a b = driftL (co w (gl w)) a b := if_pos hz
  rw [hV, hz]
  clear hV
  have hgn := hok.num.gain
  have hla := hok.last
  have h12 := his
  rw [← isAB_eq, Bool.and_eq_true] at h12
  obtain ⟨h1, h2⟩ := h12
  rw [his] at hkn
  rw [h2] at hwt
  have hd : (0 ≤ a ∧ a ≤ b) ∧ b ≤ w.last := by
   simp [dayB, withinB] at h1 h2; omega
  obtain ⟨m, rfl⟩ : ∃ m : Nat, a = m := ⟨a.toNat, by omega⟩
  obtain ⟨n, rfl⟩ : ∃ n : Nat, b = n := ⟨b.toNat, by omega⟩
  have hne : tlW w ≠ [] := fun h => by rw [tlW_nil hok, hcan] at h; exact absurd h (by decide)
  have hp : 0 < (tlW w).length := List.length_pos_iff.2 hne
  rw [drift_ref hok hcan (show m ≤ n by omega) (by omega) hp]
  have hlT : ∀ d : Nat, d ≤ w.last.toNat → ∀ l ∈ tlW w, d < l.length := fun d hd l hl => by have := ((mem_tlW hok).1 hl).1; omega
  have hbT : ∀ d : Nat, d ≤ w.last.toNat → ∀ l ∈ tlW w, -50 ≤ pF l d ∧ pF l d ≤ 50 := fun d hd l hl => by have := tlW_bd hok hl hd; omega
  have hpp := rowP_pure (tlW w)
  generalize tlW w = T at *
  have hm0 := hlT m (by omega) _ (List.getElem_mem hp)
  have hn0 := hlT n (by omega) _ (List.getElem_mem hp)
  have hbm := hbT m (by omega) _ (List.getElem_mem hp)
  have hbn := hbT n (by omega) _ (List.getElem_mem hp)
  rw [pF_at hm0] at hbm ⊢
  rw [pF_at hn0] at hbn ⊢
  have w0 : IntKind.i64.wrap (T[0][m] - T[0][n]) = T[0][m] - T[0][n] := wrap_id (by omega) (by omega)
  obtain ⟨R, hR⟩ : ∃ R : Nat → Int × Int, ∀ i, (T.take i).foldl (fun s l => dR s (pF l m - pF l n)) (T[0][m] - T[0][n], T[0][m] - T[0][n]) = R i := ⟨_, fun _ => rfl⟩
  have hR0 : R 0 = (T[0][m] - T[0][n], T[0][m] - T[0][n]) := by rw [← hR]; rfl
  have hRs : ∀ i (hi : i < T.length), R (i + 1) = dR (R i) (pF T[i] m - pF T[i] n) := fun i hi => by rw [← hR, ← hR, foldl_take _ _ hi]
  have hRN : T.foldl (fun s l => dR s (pF l m - pF l n)) (T[0][m] - T[0][n], T[0][m] - T[0][n]) = R T.length := by rw [← hR, List.take_length]
  rw [hRN]
  clear hRN hR
  have hp2 : (0 : Int) < T.length := by omega
  have hd0 : ∃ y, T[0][m] - T[0][n] = y := ⟨_, rfl⟩
  refine ZF (fn := Tryz.f37) [.cell 6 23, .tmp 7] ⟨Tryz.func37, rfl, by kernel_rfl⟩ fun x hx hσ => ?_
  (repeat refine ZQ ?_); refine ZR fun K hK => ?_; simp (maxSteps := 1000000) [ty28, ty37, ty23]; refine hK _ ?_; clear hK K
  (repeat refine ZQ ?_); refine ZD [] [0, 1, 2, 3, 4, 5, 6, 7, 8, 9, 10, 11, 12, 13, 14, 15, 16] fun K hK => ?_; simp (maxSteps := 1000000) [ty28, ty3, ty4]
  refine ZE (q_isDay86 w m) ?_; simp (maxSteps := 1000000) [ty28, ty3, ty4, h1]
  refine ZE (hwt) ?_; simp (maxSteps := 1000000) [ty28, ty3, ty4]
  refine ZE (hkn) ?_; simp (maxSteps := 1000000) [ty110]
  refine hK _ ?_; clear hK K
  (repeat refine ZQ ?_); refine ZR fun K hK => ?_; simp (maxSteps := 1000000) [ty37]; refine hK _ ?_; clear hK K
  (repeat refine ZQ ?_); refine ZC (fun hd => ?_) (fun hd => ?_)
  ·simp at hd
  ·clear hd
   refine awp_skip ?_
   (repeat refine ZQ ?_); refine ZD [] [0, 1, 2, 3, 4, 5, 6, 7, 8, 9, 10, 11, 12, 13, 14, 15, 16, 17, 18, 19, 20, 21, 22, 23, 24, 25, 26, 27, 28] fun K hK => ?_; simp (maxSteps := 1000000) [ty110, ty29, ty3, ty23, hp, hne, hm0, hn0, w0]; refine hK _ ?_; clear hK K
   (repeat refine ZQ ?_); refine ZR fun K hK => ?_; simp (maxSteps := 1000000) [ty3]; refine hK _ ?_; clear hK K
   (repeat refine ZQ ?_); refine awp_block ?_
   refine awp_loop (fun i : Nat => ⟨ofL [(1, encI m), (2, encI n), (6, .ptr 6 2 0 0), (8, .sl false false (T.map rowP)), (10, .ptr 10 2 0 0), (11, encI i)], stoT [(6, 6, .live ⟨false, false, 2, [[encI 0, encI 0]]⟩), (10, 10, .live ⟨false, false, 2, [[encI (R i).1, encI (R i).2]]⟩)]⟩)
    (fun i => i ≤ T.length) (fun i => T.length - i) 0 (Nat.zero_le _) ?_ ?_
   ·rw [hR0]
    exact ZW
   ·intro i hi
    (repeat refine ZQ ?_); refine ZR fun K hK => ?_; simp (maxSteps := 1000000) [ty110, ty3]; refine hK _ ?_; clear hK K
    (repeat refine ZQ ?_); refine ZC (fun hc => ?_) (fun hc => ?_)
    ·simp at hc
     have hwi : IntKind.i64.wrap ((i : Int) + 1) = ((i + 1 : Nat) : Int) := by rw [wrap_id (by omega) (by omega)]; rfl
     have hst := hRs i hc
     have hmi := hlT m (by omega) _ (List.getElem_mem hc)
     have hni := hlT n (by omega) _ (List.getElem_mem hc)
     have hbm := hbT m (by omega) _ (List.getElem_mem hc)
     have hbn := hbT n (by omega) _ (List.getElem_mem hc)
     rw [pF_at hmi] at hbm
     rw [pF_at hni] at hbn
     simp only [pF_at hmi, pF_at hni] at hst
     have w1 : IntKind.i64.wrap (T[i][m] - T[i][n]) = T[i][m] - T[i][n] := wrap_id (by omega) (by omega)
     refine awp_skip ?_
     (repeat refine ZQ ?_); refine awp_block ?_
     (repeat refine ZQ ?_); refine ZD [] [0, 1, 2, 3, 4, 5, 6, 7, 8, 9, 10, 11, 12, 13, 14, 15] fun K hK => ?_; simp (maxSteps := 1000000) [ty110, ty29, ty3, hc, hmi, hni, w1]; refine hK _ ?_; clear hK K; (first | show AWP _ _ _ _ _ | show ∃ _, _ | skip)
     generalize T[i][m] - T[i][n] = y at *
     generalize R i = r at *
     by_cases c1 : y < r.1
     ·by_cases c2 : r.2 < y
      ·have hst2 : R (i + 1) = (y, y) := by rw [hst]; unfold dR; rw [if_pos c1, if_pos c2]
       (repeat refine ZQ ?_); refine ZR fun K hK => ?_; simp (maxSteps := 1000000) [ty23, ty3, c1, c2]; refine hK _ ?_; clear hK K
       (repeat refine ZQ ?_); refine ZR fun K hK => ?_; simp (maxSteps := 1000000) [ty3]; refine hK _ ?_; clear hK K; (first | show AWP _ _ _ _ _ | show ∃ _, _ | skip)
       refine ⟨i + 1, by omega, by omega, ?_⟩
       rw [hst2, hwi]
       exact ZW
      ·have hst2 : R (i + 1) = (y, r.2) := by rw [hst]; unfold dR; rw [if_pos c1, if_neg c2]
       (repeat refine ZQ ?_); refine ZR fun K hK => ?_; simp (maxSteps := 1000000) [ty23, ty3, c1, c2]; refine hK _ ?_; clear hK K
       (repeat refine ZQ ?_); refine ZR fun K hK => ?_; simp (maxSteps := 1000000) [ty3]; refine hK _ ?_; clear hK K; (first | show AWP _ _ _ _ _ | show ∃ _, _ | skip)
       refine ⟨i + 1, by omega, by omega, ?_⟩
       rw [hst2, hwi]
       exact ZW
     ·by_cases c2 : r.2 < y
      ·have hst2 : R (i + 1) = (r.1, y) := by rw [hst]; unfold dR; rw [if_neg c1, if_pos c2]
       (repeat refine ZQ ?_); refine ZR fun K hK => ?_; simp (maxSteps := 1000000) [ty23, ty3, c1, c2]; refine hK _ ?_; clear hK K
       (repeat refine ZQ ?_); refine ZR fun K hK => ?_; simp (maxSteps := 1000000) [ty3]; refine hK _ ?_; clear hK K; (first | show AWP _ _ _ _ _ | show ∃ _, _ | skip)
       refine ⟨i + 1, by omega, by omega, ?_⟩
       rw [hst2, hwi]
       exact ZW
      ·have hst2 : R (i + 1) = (r.1, r.2) := by rw [hst]; unfold dR; rw [if_neg c1, if_neg c2]
       (repeat refine ZQ ?_); refine ZR fun K hK => ?_; simp (maxSteps := 1000000) [ty23, ty3, c1, c2]; refine hK _ ?_; clear hK K
       (repeat refine ZQ ?_); refine ZR fun K hK => ?_; simp (maxSteps := 1000000) [ty3]; refine hK _ ?_; clear hK K; (first | show AWP _ _ _ _ _ | show ∃ _, _ | skip)
       refine ⟨i + 1, by omega, by omega, ?_⟩
       rw [hst2, hwi]
       exact ZW
    ·simp at hc
     (repeat refine ZQ ?_); refine awp_exit ?_; (first | show AWP _ _ _ _ _ | show ∃ _, _ | skip)
     have hiN : i = T.length := by omega
     rw [hiN]
     (repeat refine ZQ ?_); refine ZR fun K hK => ?_; simp (maxSteps := 1000000) [ty23, ty37]; refine hK _ ?_; clear hK K
     (repeat refine ZQ ?_); refine awp_ret ?_; refine And.intro (Or.inr rfl) ?_
     simp [retC, resC, viewC, mapO, ty23]
 ·have hV : driftW w a b = (0, 0) := if_neg hz
  have hkn := known_no (is := isAB w a b) hn hsm hz
  have he := isAB_eq w a b
  cases h1 : dayB w a
  ·rw [h1] at he
   simp only [Bool.false_and] at he
   rw [← he] at hkn hz ⊢
   refine ZF (fn := Tryz.f37) [.cell 6 23, .tmp 7] ⟨Tryz.func37, rfl, by kernel_rfl⟩ fun x hx hσ => ?_
   (repeat refine ZQ ?_); refine ZR fun K hK => ?_; simp (maxSteps := 1000000) [ty28, ty37, ty23]; refine hK _ ?_; clear hK K
   (repeat refine ZQ ?_); refine ZD [] [0, 1, 2, 3, 4, 5, 6, 7, 8, 9, 10, 11, 12, 13, 14, 15, 16] fun K hK => ?_; simp (maxSteps := 1000000) [ty28, ty3, ty4]
   refine ZE (q_isDay86 w a) ?_; simp (maxSteps := 1000000) [ty28, ty3, ty4, h1]
   refine ZE (hkn) ?_; simp (maxSteps := 1000000) [ty110]
   refine hK _ ?_; clear hK K
   (repeat refine ZQ ?_); refine ZR fun K hK => ?_; simp (maxSteps := 1000000) [ty37]; refine hK _ ?_; clear hK K
   (repeat refine ZQ ?_); refine ZC (hc := by simp [hz]; rfl) (fun hd => ?_) (fun hd => ?_)
   ·clear hd
    (repeat refine ZQ ?_); refine ZR fun K hK => ?_; simp (maxSteps := 1000000) [ty37, ty23]; refine hK _ ?_; clear hK K
    (repeat refine ZQ ?_); refine awp_ret ?_; refine And.intro (Or.inr rfl) ?_
    simp [retC, resC, viewC, mapO, hz, hV, ty23]
   ·simp [hz] at hd
  ·rw [h1] at he
   simp only [Bool.true_and] at he
   rw [he] at hwt
   refine ZF (fn := Tryz.f37) [.cell 6 23, .tmp 7] ⟨Tryz.func37, rfl, by kernel_rfl⟩ fun x hx hσ => ?_
   (repeat refine ZQ ?_); refine ZR fun K hK => ?_; simp (maxSteps := 1000000) [ty28, ty37, ty23]; refine hK _ ?_; clear hK K
   (repeat refine ZQ ?_); refine ZD [] [0, 1, 2, 3, 4, 5, 6, 7, 8, 9, 10, 11, 12, 13, 14, 15, 16] fun K hK => ?_; simp (maxSteps := 1000000) [ty28, ty3, ty4]
   refine ZE (q_isDay86 w a) ?_; simp (maxSteps := 1000000) [ty28, ty3, ty4, h1]
   refine ZE (hwt) ?_; simp (maxSteps := 1000000) [ty28, ty3, ty4]
   refine ZE (hkn) ?_; simp (maxSteps := 1000000) [ty110]
   refine hK _ ?_; clear hK K
   (repeat refine ZQ ?_); refine ZR fun K hK => ?_; simp (maxSteps := 1000000) [ty37]; refine hK _ ?_; clear hK K
   (repeat refine ZQ ?_); refine ZC (hc := by simp [hz]; rfl) (fun hd => ?_) (fun hd => ?_)
   ·clear hd
    (repeat refine ZQ ?_); refine ZR fun K hK => ?_; simp (maxSteps := 1000000) [ty37, ty23]; refine hK _ ?_; clear hK K
    (repeat refine ZQ ?_); refine awp_ret ?_; refine And.intro (Or.inr rfl) ?_
    simp [retC, resC, viewC, mapO, hz, hV, ty23]
   ·simp [hz] at hd

set_option maxHeartbeats 8000000
set_option maxRecDepth 20000

-- Fewest and Strange of the reference

theorem q_fewest34 (w : Ws) (hn : WsLen w) (hsm : checkW w = 0 → SmallW w) : Pure Tryz.prog 34 [encWs w] (.tup [encI (fewW w), encI (checkW w)]) := by
 have hck := q_check32 w hn
 by_cases hz : checkW w = 0
 ·have hok := checkW_ok.1 hz
  have hs := hsm hz
  have hla := hok.last
  have hgn := hok.num.gain
  have hV : fewW w = fewC (co w (gl w)) [] := if_pos hz
  have hvl : w.vs.length ≤ 1000 := hn.vs
  have hg82 := q_gains82 w hn
  have hgp := gsN_pure w
  obtain ⟨fa, fb, hall⟩ := q_all81 w (gl w) ⟨hgn.1, hs.gain⟩ ⟨hla.1, hs.last⟩ (w.last + 1).toNat [] true true (by simp; omega) (by omega)
  have hmem : ∀ l ∈ allP (co w (gl w)) (w.last + 1).toNat [], l.length = w.last.toNat + 1 := fun l hl => by
   have := ((mem_allP _ _ _ _).1 hl).1; simp at this; omega
  have hseq : (seqI (-(co w (gl w)).gain) (co w (gl w)).gain).length ≤ 7 := by
   have h2 : (seqI (-w.gain) w.gain).length = (w.gain - -w.gain + 1).toNat := seqN_len _ _
   have := hs.gain
   show (seqI (-w.gain) w.gain).length ≤ 7
   omega
  have hlen : (allP (co w (gl w)) (w.last + 1).toNat []).length ≤ 117649 := Nat.le_trans (allP_len hseq (by decide) _ _) (by
   have h1 : (w.last + 1).toNat ≤ 6 := by have := hs.last; omega
   exact Nat.le_trans (Nat.pow_le_pow_right (by decide) h1) (by decide))
  have hdv : ∀ v ∈ w.vs, 0 ≤ v.day ∧ v.day ≤ w.last := fun v hv => (glOk hok).2 (glV w v) (List.mem_map.2 ⟨_, hv, rfl⟩)
  have hwr := fun l (hl : l ∈ allP (co w (gl w)) (w.last + 1).toNat []) => q_wrongs83 w w.vs.isEmpty false false false l hn fun v hv => by have h1 := hmem l hl; have h2 := hdv v hv; omega
  rw [hV, few_ref hok, hz]
  rw [hz] at hck
  clear hV
  have hpp := rowP_pure (allP (co w (gl w)) (w.last + 1).toNat [])
  simp only [List.map_nil] at hall
  generalize allP (co w (gl w)) (w.last + 1).toNat [] = T at *
  obtain ⟨R, hR⟩ : ∃ R : Nat → Int, ∀ i, (T.take i).foldl (fun m l => if (wrL (gl w) (pF l) : Int) < m then (wrL (gl w) (pF l) : Int) else m) (w.vs.length : Int) = R i := ⟨_, fun _ => rfl⟩
  have hR0 : R 0 = w.vs.length := by rw [← hR]; rfl
  have hRs : ∀ i (hi : i < T.length), R (i + 1) = if (wrL (gl w) (pF T[i]) : Int) < R i then (wrL (gl w) (pF T[i]) : Int) else R i := fun i hi => by rw [← hR, ← hR, foldl_take _ _ hi]
  have hRN : T.foldl (fun m l => if (wrL (gl w) (pF l) : Int) < m then (wrL (gl w) (pF l) : Int) else m) (w.vs.length : Int) = R T.length := by rw [← hR, List.take_length]
  rw [hRN]
  clear hRN hR
  generalize gsN w = A at *
  have hpv : ∀ x ∈ A, purel x = true := fun x h => List.all_eq_true.1 hgp x h
  refine ZF (fn := Tryz.f34) [.tmp 2, .tmp 3] ⟨Tryz.func34, rfl, by kernel_rfl⟩ fun x hx hσ => ?_
  (repeat refine ZQ ?_); refine ZR fun K hK => ?_; simp (maxSteps := 1000000) [ty28, ty3, ty37]; refine hK _ ?_; clear hK K
  (repeat refine ZQ ?_); refine ZR fun K hK => ?_; simp (maxSteps := 1000000) [ty28]
  refine ZP (hck) ?_; simp (maxSteps := 1000000) [ty37]
  refine hK _ ?_; clear hK K
  (repeat refine ZQ ?_); refine ZR fun K hK => ?_; simp (maxSteps := 1000000) [ty37]; refine hK _ ?_; clear hK K
  (repeat refine ZQ ?_); refine ZC (fun hd => ?_) (fun hd => ?_)
  ·simp at hd
  ·clear hd
   refine awp_skip ?_
   (repeat refine ZQ ?_); refine ZR fun K hK => ?_; simp (maxSteps := 1000000) [ty28, ty26]; refine hK _ ?_; clear hK K
   (repeat refine ZQ ?_); refine ZD [] [0, 1, 2, 3, 4, 5] fun K hK => ?_; simp (maxSteps := 1000000) [ty28, ty110]
   refine ZE (hall) ?_; simp (maxSteps := 1000000) [ty28]
   refine ZE (hg82) ?_; simp (maxSteps := 1000000) [ty110]
   refine hK _ ?_; clear hK K
   (repeat refine ZQ ?_); refine ZR fun K hK => ?_; simp (maxSteps := 1000000) [ty3]; refine hK _ ?_; clear hK K
   (repeat refine ZQ ?_); refine awp_block ?_
   refine awp_loop (fun i : Nat => ⟨ofL [(1, .ptr 1 13 0 0), (5, encI (R i)), (6, .sl fa fb (T.map rowP)), (7, .sl w.vs.isEmpty false A), (8, encI i)], stoT [(1, 1, .live (obWs w))]⟩)
    (fun i => i ≤ T.length) (fun i => T.length - i) 0 (Nat.zero_le _) ?_ ?_
   ·rw [hR0]
    refine wk_shape (shp0 hσ (by simp) (by simp) ?_) ?_
    ·simp [SlotOk] <;> exact .same (by simp [purel, C.isPure])
    ·simp [mtc, mtl, mT, C.isPure, purel] <;> exact fun x hx => hpv x hx
   ·intro i hi
    (repeat refine ZQ ?_); refine ZR fun K hK => ?_; simp (maxSteps := 1000000) [ty110, ty3]; refine hK _ ?_; clear hK K
    (repeat refine ZQ ?_); refine ZC (fun hc => ?_) (fun hc => ?_)
    ·simp at hc
     have hwi : IntKind.i64.wrap ((i : Int) + 1) = ((i + 1 : Nat) : Int) := by rw [wrap_id (by omega) (by omega)]; rfl
     have hst := hRs i hc
     have hci := hwr _ (List.getElem_mem hc)
     generalize wrL (gl w) (pF T[i]) = n at *
     generalize R i = m at *
     refine awp_skip ?_
     (repeat refine ZQ ?_); refine awp_block ?_
     by_cases hlt : (n : Int) < m
     ·rw [if_pos hlt] at hst
      (repeat refine ZQ ?_); refine ZD [] [0, 1, 2, 3, 4, 5, 6, 7, 8, 9] fun K hK => ?_; simp (maxSteps := 1000000) [ty28, ty110, ty29, ty3, hc]
      refine callPD hci (by simp [purel, C.isPure, hpv]) (by simp) ?_
      simp [ty3, hlt]
      refine hK _ ?_; clear hK K
      (repeat refine ZQ ?_); refine ZR fun K hK => ?_; simp (maxSteps := 1000000) [ty3]; refine hK _ ?_; clear hK K; (first | show AWP _ _ _ _ _ | show ∃ _, _ | skip)
      refine ⟨i + 1, by omega, by omega, ?_⟩
      rw [hst, hwi]
      refine wk_shape (shp0 hσ (by simp) (by simp) ?_) ?_
      ·simp [SlotOk] <;> exact .same (by simp [purel, C.isPure])
      ·simp [mtc, mtl, mT, C.isPure, purel] <;> exact fun x hx => hpv x hx
     ·rw [if_neg hlt] at hst
      (repeat refine ZQ ?_); refine ZD [] [0, 1, 2, 3, 4, 5, 6, 7, 8, 9] fun K hK => ?_; simp (maxSteps := 1000000) [ty28, ty110, ty29, ty3, hc]
      refine callPD hci (by simp [purel, C.isPure, hpv]) (by simp) ?_
      simp [ty3, hlt]
      refine hK _ ?_; clear hK K
      (repeat refine ZQ ?_); refine ZR fun K hK => ?_; simp (maxSteps := 1000000) [ty3]; refine hK _ ?_; clear hK K; (first | show AWP _ _ _ _ _ | show ∃ _, _ | skip)
      refine ⟨i + 1, by omega, by omega, ?_⟩
      rw [hst, hwi]
      refine wk_shape (shp0 hσ (by simp) (by simp) ?_) ?_
      ·simp [SlotOk] <;> exact .same (by simp [purel, C.isPure])
      ·simp [mtc, mtl, mT, C.isPure, purel] <;> exact fun x hx => hpv x hx
    ·simp at hc
     (repeat refine ZQ ?_); refine awp_exit ?_; (first | show AWP _ _ _ _ _ | show ∃ _, _ | skip)
     have hiN : i = T.length := by omega
     rw [hiN]
     (repeat refine ZQ ?_); refine ZR fun K hK => ?_; simp (maxSteps := 1000000) [ty3, ty37]; refine hK _ ?_; clear hK K
     (repeat refine ZQ ?_); refine awp_ret ?_; refine And.intro (Or.inr rfl) ?_
     simp [retC, resC, viewC, mapO]
 ·have hV : fewW w = 0 := if_neg hz
  refine ZF (fn := Tryz.f34) [.tmp 2, .tmp 3] ⟨Tryz.func34, rfl, by kernel_rfl⟩ fun x hx hσ => ?_
  (repeat refine ZQ ?_); refine ZR fun K hK => ?_; simp (maxSteps := 1000000) [ty28, ty3, ty37]; refine hK _ ?_; clear hK K
  (repeat refine ZQ ?_); refine ZR fun K hK => ?_; simp (maxSteps := 1000000) [ty28]
  refine ZP (hck) ?_; simp (maxSteps := 1000000) [ty37]
  refine hK _ ?_; clear hK K
  (repeat refine ZQ ?_); refine ZR fun K hK => ?_; simp (maxSteps := 1000000) [ty37]; refine hK _ ?_; clear hK K
  (repeat refine ZQ ?_); refine ZC (hc := by simp [hz]; rfl) (fun hd => ?_) (fun hd => ?_)
  ·clear hd
   (repeat refine ZQ ?_); refine ZR fun K hK => ?_; simp (maxSteps := 1000000) [ty37, ty3]; refine hK _ ?_; clear hK K
   (repeat refine ZQ ?_); refine awp_ret ?_; refine And.intro (Or.inr rfl) ?_
   simp [retC, resC, viewC, mapO, hV]
  ·simp [hz] at hd

theorem q_strange35 (w : Ws) (hn : WsLen w) (hsm : checkW w = 0 → SmallW w) : Pure Tryz.prog 35 [encWs w] (.tup [.sl (strangeW w).isEmpty (openW w true != 0) ((strangeW w).map cI), encI (openW w true)]) := by
 by_cases hz : openW w true = 0
 ·obtain ⟨hok, his, hcan⟩ := openW_ok hz
  have hkn := known_ok (is := true) hn hsm hz
  have hlen := tlW_len hok (hsm (checkW_ok.2 hok))
  have hL : strangeW w = fixTo (strW w) w.vs.length := if_pos hz
  have hvl : w.vs.length ≤ 1000 := hn.vs
  have hg82 := q_gains82 w hn
  have hgp := gsN_pure w
  have hgg : ∀ i (hi : i < w.vs.length) (h2 : i < (gsN w).length), (gsN w)[i]'h2 = rowN (numsT Tr.area (tiV w w.vs[i]) true) := fun i hi _ => gsN_get w hi
  have hgl : (gsN w).length = w.vs.length := by simp [gsN]
  have hla := hok.last
  have hdv : ∀ v ∈ w.vs, 0 ≤ v.day ∧ v.day ≤ w.last := fun v hv => (glOk hok).2 (glV w v) (List.mem_map.2 ⟨_, hv, rfl⟩)
  have hlT : ∀ l ∈ tlW w, l.length = w.last.toNat + 1 := fun l hl => ((mem_tlW hok).1 hl).1
  have hsr := fun i (hi : i < w.vs.length) => str_ref hok hi
  rw [hz]
  obtain ⟨A, hA⟩ : ∃ A : Nat → List Int, ∀ i, A i = fixTo (strW w) i := ⟨_, fun _ => rfl⟩
  have hA0 : A 0 = [] := hA 0
  have hAl : ∀ i, (A i).length ≤ i := fun i => by rw [hA]; exact fixTo_len _ _
  have hAs : ∀ i : Nat, A (i + 1) = if strW w i then A i ++ [(i : Int)] else A i := fun i => by rw [hA, hA]; rfl
  rw [← hA] at hL
  clear hA
  rw [hL]
  clear hL
  have hpp := rowP_pure (tlW w)
  generalize tlW w = T at *
  generalize gsN w = B at *
  have hpv : ∀ x ∈ B, purel x = true := fun x h => List.all_eq_true.1 hgp x h
  refine ZF (fn := Tryz.f35) [.tmp 2, .tmp 3] ⟨Tryz.func35, rfl, by kernel_rfl⟩ fun x hx hσ => ?_
  (repeat refine ZQ ?_); refine ZR fun K hK => ?_; simp (maxSteps := 1000000) [ty28, ty29, ty37]; refine hK _ ?_; clear hK K
  (repeat refine ZQ ?_); refine ZR fun K hK => ?_; simp (maxSteps := 1000000) [ty28, ty4]
  refine ZP (hkn) ?_; simp (maxSteps := 1000000) [ty110]
  refine hK _ ?_; clear hK K
  (repeat refine ZQ ?_); refine ZR fun K hK => ?_; simp (maxSteps := 1000000) [ty37]; refine hK _ ?_; clear hK K
  (repeat refine ZQ ?_); refine ZC (fun hd => ?_) (fun hd => ?_)
  ·simp at hd
  ·clear hd
   refine awp_skip ?_
   (repeat refine ZQ ?_); refine ZR fun K hK => ?_; simp (maxSteps := 1000000) [ty28]
   refine ZP (hg82) ?_; simp (maxSteps := 1000000) [ty110]
   refine hK _ ?_; clear hK K
   (repeat refine ZQ ?_); refine ZR fun K hK => ?_; simp (maxSteps := 1000000) [ty29]; refine hK _ ?_; clear hK K
   (repeat refine ZQ ?_); refine ZR fun K hK => ?_; simp (maxSteps := 1000000) [ty3]; refine hK _ ?_; clear hK K
   (repeat refine ZQ ?_); refine awp_block ?_
   refine AWP.weak ?_ (wk_nil 7 7 1 (fu := true) (by simp) (by simp))
   refine awp_loop (fun i : Nat => ⟨ofL [(1, .ptr 1 13 0 0), (4, .sl false false (T.map rowP)), (6, .sl w.vs.isEmpty false B), (7, .own 7 1 0 (A i).length), (8, encI i)], stoT [(1, 1, .live (obWs w)), (7, 7, .live ⟨(A i).isEmpty, false, 1, (A i).map cI⟩)]⟩)
    (fun i => i ≤ w.vs.length) (fun i => w.vs.length - i) 0 (Nat.zero_le _) ?_ ?_
   ·rw [hA0]
    refine wk_shape (shp0 hσ (by simp) (by simp) ?_) ?_
    ·simp [SlotOk, hpv] <;> (repeat' (first | (refine RowsOk.same ?_; simp [purel, C.isPure]; done) | (refine rowsCons ?_; simp [mtl, mtc, mT, mH, C.isPure, purel]; done) | (refine rowsCons ?_; simp [mtl, mtc, mT, mH, C.isPure, purel]) | refine And.intro ?_ ?_))
    ·simp [mtc, mtl, mT, C.isPure, purel, hpv] <;> (try simp (disch := omega) [wrap_id]) <;> (try omega)
   ·intro i hi
    have hl := hAl i
    have hst := hAs i
    have hwi : IntKind.i64.wrap ((i : Int) + 1) = ((i + 1 : Nat) : Int) := by rw [wrap_id (by omega) (by omega)]; rfl
    generalize hacc : A i = acc at *
    (repeat refine ZQ ?_); refine ZR fun K hK => ?_; simp (maxSteps := 1000000) [ty28, ty26, ty3]; refine hK _ ?_; clear hK K
    (repeat refine ZQ ?_); refine ZC (fun hc => ?_) (fun hc => ?_)
    ·simp at hc
     have hci : i < B.length := by omega
     have hgi := hgg i hc hci
     have hsi := hsr i hc
     have hdi := hdv _ (List.getElem_mem hc)
     have hln := numsT_len Tr.area (tiV w w.vs[i]) true
     obtain ⟨d, hde⟩ : ∃ d : Nat, w.vs[i].day = d := ⟨w.vs[i].day.toNat, by omega⟩
     rw [hde] at hsi hdi
     simp only [Int.toNat_natCast] at hsi
     generalize numsT Tr.area (tiV w w.vs[i]) true = U at *
     have hin := fun n => q_in85 U.isEmpty false U n (by omega)
     refine awp_skip ?_
     (repeat refine ZQ ?_); refine awp_block ?_
     (repeat refine ZQ ?_); refine ZR fun K hK => ?_; simp (maxSteps := 1000000) [ty4]; refine hK _ ?_; clear hK K
     (repeat refine ZQ ?_); refine ZR fun K hK => ?_; simp (maxSteps := 1000000) [ty3]; refine hK _ ?_; clear hK K
     (repeat refine ZQ ?_); refine awp_block ?_
     obtain ⟨F, hF⟩ : ∃ F : Nat → Bool, ∀ j, ((T.take j).any fun l => decide (pF l d ∈ U)) = F j := ⟨_, fun _ => rfl⟩
     have hF0 : F 0 = false := by rw [← hF]; rfl
     have hFs : ∀ j (hj : j < T.length), F (j + 1) = (F j || decide (pF T[j] d ∈ U)) := fun j hj => by
      rw [← hF, ← hF, List.take_succ_eq_append_getElem hj, List.any_append]; simp
     have hFN : (T.any fun l => decide (pF l d ∈ U)) = F T.length := by rw [← hF, List.take_length]
     rw [hFN] at hsi
     clear hFN hF
     refine awp_loop (fun j : Nat => ⟨ofL [(1, .ptr 1 13 0 0), (4, .sl false false (T.map rowP)), (6, .sl w.vs.isEmpty false B), (7, .own 7 1 0 acc.length), (8, encI i), (9, .bool (F j)), (10, encI j)], stoT [(1, 1, .live (obWs w)), (7, 7, .live ⟨acc.isEmpty, false, 1, acc.map cI⟩)]⟩)
      (fun j => j ≤ T.length) (fun j => T.length - j) 0 (Nat.zero_le _) ?_ ?_
     ·rw [hF0]
      refine wk_shape (shp0 hσ (by simp) (by simp) ?_) ?_
      ·simp [SlotOk, hpv] <;> (repeat' (first | (refine RowsOk.same ?_; simp [purel, C.isPure]; done) | (refine rowsCons ?_; simp [mtl, mtc, mT, mH, C.isPure, purel]; done) | (refine rowsCons ?_; simp [mtl, mtc, mT, mH, C.isPure, purel]) | refine And.intro ?_ ?_))
      ·simp [mtc, mtl, mT, C.isPure, purel, hpv] <;> (try simp (disch := omega) [wrap_id]) <;> (try omega)
     ·intro j hj
      (repeat refine ZQ ?_); refine ZR fun K hK => ?_; simp (maxSteps := 1000000) [ty110, ty3]; refine hK _ ?_; clear hK K
      (repeat refine ZQ ?_); refine ZC (fun hc2 => ?_) (fun hc2 => ?_)
      ·simp at hc2
       have hwj : IntKind.i64.wrap ((j : Int) + 1) = ((j + 1 : Nat) : Int) := by rw [wrap_id (by omega) (by omega)]; rfl
       have hsj := hFs j hc2
       have hlj := hlT _ (List.getElem_mem hc2)
       have hdl : d < T[j].length := by omega
       rw [pF_at hdl] at hsj
       have hcal := hin (T[j][d])
       refine awp_skip ?_
       (repeat refine ZQ ?_); refine awp_block ?_
       cases hb : F j
       ·rw [hb] at hsj
        simp only [Bool.false_or] at hsj
        (repeat refine ZQ ?_); refine ZD [] [0, 1, 2, 3, 4, 5, 6, 7, 8, 9, 10, 11, 12, 13, 14, 15, 16, 17, 18, 19, 20] fun K hK => ?_; simp (maxSteps := 1000000) [ty28, ty26, ty53, ty110, ty29, ty3, ty4, hc, hci, hc2, hgi, hde, hdl]
        refine ZE (hcal) ?_; simp (maxSteps := 1000000) [ty4]
        refine hK _ ?_; clear hK K
        (repeat refine ZQ ?_); refine ZR fun K hK => ?_; simp (maxSteps := 1000000) [ty3]; refine hK _ ?_; clear hK K; (first | show AWP _ _ _ _ _ | show ∃ _, _ | skip)
        refine ⟨j + 1, by omega, by omega, ?_⟩
        rw [hsj, hwj]
        refine wk_shape (shp0 hσ (by simp) (by simp) ?_) ?_
        ·simp [SlotOk, hpv] <;> (repeat' (first | (refine RowsOk.same ?_; simp [purel, C.isPure]; done) | (refine rowsCons ?_; simp [mtl, mtc, mT, mH, C.isPure, purel]; done) | (refine rowsCons ?_; simp [mtl, mtc, mT, mH, C.isPure, purel]) | refine And.intro ?_ ?_))
        ·simp [mtc, mtl, mT, C.isPure, purel, hpv] <;> (try simp (disch := omega) [wrap_id]) <;> (try omega)
       ·rw [hb] at hsj
        simp only [Bool.true_or] at hsj
        (repeat refine ZQ ?_); refine ZD [] [0, 1, 2, 3, 4, 5, 6, 7, 8, 9, 10, 11, 12, 13, 14, 15, 16, 17, 18, 19, 20] fun K hK => ?_; simp (maxSteps := 1000000) [ty28, ty26, ty53, ty110, ty29, ty3, ty4]; refine hK _ ?_; clear hK K
        (repeat refine ZQ ?_); refine ZR fun K hK => ?_; simp (maxSteps := 1000000) [ty3]; refine hK _ ?_; clear hK K; (first | show AWP _ _ _ _ _ | show ∃ _, _ | skip)
        refine ⟨j + 1, by omega, by omega, ?_⟩
        rw [hsj, hwj]
        refine wk_shape (shp0 hσ (by simp) (by simp) ?_) ?_
        ·simp [SlotOk, hpv] <;> (repeat' (first | (refine RowsOk.same ?_; simp [purel, C.isPure]; done) | (refine rowsCons ?_; simp [mtl, mtc, mT, mH, C.isPure, purel]; done) | (refine rowsCons ?_; simp [mtl, mtc, mT, mH, C.isPure, purel]) | refine And.intro ?_ ?_))
        ·simp [mtc, mtl, mT, C.isPure, purel, hpv] <;> (try simp (disch := omega) [wrap_id]) <;> (try omega)
      ·simp at hc2
       (repeat refine ZQ ?_); refine awp_exit ?_; (first | show AWP _ _ _ _ _ | show ∃ _, _ | skip)
       have hjN : j = T.length := by omega
       rw [hjN]
       cases hb : F T.length
       ·rw [hb] at hsi
        rw [hsi] at hst
        simp at hst
        (repeat refine ZQ ?_); refine ZR fun K hK => ?_; simp (maxSteps := 1000000) [ty4]; refine hK _ ?_; clear hK K
        (repeat refine ZQ ?_); refine ZC (fun hd => ?_) (fun hd => ?_)
        ·clear hd
         (repeat refine ZQ ?_); refine ZR fun K hK => ?_; simp (maxSteps := 1000000) [ty29, ty3]
         refine ⟨by omega, ?_⟩
         refine hK _ ?_; clear hK K
         (repeat refine ZQ ?_); refine ZR fun K hK => ?_; simp (maxSteps := 1000000) [ty3]; refine hK _ ?_; clear hK K; (first | show AWP _ _ _ _ _ | show ∃ _, _ | skip)
         refine ⟨i + 1, by omega, by omega, ?_⟩
         rw [hst, hwi]
         refine wk_shape2 [(1, 1, .live (obWs w)), (7, 59, .live ⟨(acc ++ [(i : Int)]).isEmpty, false, 1, (acc ++ [(i : Int)]).map cI⟩)] (by first | rfl | (simp only [if_pos, if_true, hpv]; rfl)) (shp0 hσ (by simp) (by simp) ?_) ?_
         ·simp [SlotOk, hpv] <;> (repeat' (first | (refine RowsOk.same ?_; simp [purel, C.isPure]; done) | (refine rowsCons ?_; simp [mtl, mtc, mT, mH, C.isPure, purel]; done) | (refine rowsCons ?_; simp [mtl, mtc, mT, mH, C.isPure, purel]) | refine And.intro ?_ ?_))
         ·simp [mtc, mtl, mT, C.isPure, purel, hpv] <;> (try simp (disch := omega) [wrap_id]) <;> (try omega)
        ·simp at hd
       ·rw [hb] at hsi
        rw [hsi] at hst
        simp at hst
        (repeat refine ZQ ?_); refine ZR fun K hK => ?_; simp (maxSteps := 1000000) [ty4]; refine hK _ ?_; clear hK K
        (repeat refine ZQ ?_); refine ZC (fun hd => ?_) (fun hd => ?_)
        ·simp at hd
        ·clear hd
         refine awp_skip ?_
         (repeat refine ZQ ?_); refine ZR fun K hK => ?_; simp (maxSteps := 1000000) [ty3]; refine hK _ ?_; clear hK K; (first | show AWP _ _ _ _ _ | show ∃ _, _ | skip)
         refine ⟨i + 1, by omega, by omega, ?_⟩
         rw [hst, hwi]
         refine wk_shape (shp0 hσ (by simp) (by simp) ?_) ?_
         ·simp [SlotOk, hpv] <;> (repeat' (first | (refine RowsOk.same ?_; simp [purel, C.isPure]; done) | (refine rowsCons ?_; simp [mtl, mtc, mT, mH, C.isPure, purel]; done) | (refine rowsCons ?_; simp [mtl, mtc, mT, mH, C.isPure, purel]) | refine And.intro ?_ ?_))
         ·simp [mtc, mtl, mT, C.isPure, purel, hpv] <;> (try simp (disch := omega) [wrap_id]) <;> (try omega)
    ·simp at hc
     (repeat refine ZQ ?_); refine awp_exit ?_; (first | show AWP _ _ _ _ _ | show ∃ _, _ | skip)
     have hin : i = w.vs.length := by omega
     rw [← hin, hacc]
     (repeat refine ZQ ?_); refine ZR fun K hK => ?_; simp (maxSteps := 1000000) [ty29, ty37]; refine hK _ ?_; clear hK K
     (repeat refine ZQ ?_); refine awp_ret ?_; refine And.intro (Or.inr rfl) ?_
     simp [retC, resC, viewC, mapO, purel, C.isPure]
 ·have hV : strangeW w = [] := if_neg hz
  have hkn := known_no (is := true) hn hsm hz
  refine ZF (fn := Tryz.f35) [.tmp 2, .tmp 3] ⟨Tryz.func35, rfl, by kernel_rfl⟩ fun x hx hσ => ?_
  (repeat refine ZQ ?_); refine ZR fun K hK => ?_; simp (maxSteps := 1000000) [ty28, ty29, ty37]; refine hK _ ?_; clear hK K
  (repeat refine ZQ ?_); refine ZR fun K hK => ?_; simp (maxSteps := 1000000) [ty28, ty4]
  refine ZP (hkn) ?_; simp (maxSteps := 1000000) [ty110]
  refine hK _ ?_; clear hK K
  (repeat refine ZQ ?_); refine ZR fun K hK => ?_; simp (maxSteps := 1000000) [ty37]; refine hK _ ?_; clear hK K
  (repeat refine ZQ ?_); refine ZC (hc := by simp [hz]; rfl) (fun hd => ?_) (fun hd => ?_)
  ·clear hd
   (repeat refine ZQ ?_); refine ZR fun K hK => ?_; simp (maxSteps := 1000000) [ty37, ty29]; refine hK _ ?_; clear hK K
   (repeat refine ZQ ?_); refine awp_ret ?_; refine And.intro (Or.inr rfl) ?_
   simp [retC, resC, viewC, mapO, hz, hV]
  ·simp [hz] at hd

set_option maxHeartbeats 16000000
set_option maxRecDepth 20000

-- Check, Fewest, Strange, On and Drift are what the document specifies

theorem copyW_few (w : Ws) : fewW (copyW w) = fewW w := by unfold fewW; rw [copyW_check, copyW_co]
theorem copyW_onW (w : Ws) (d : Int) : onW (copyW w) d = onW w d := by unfold onW; rw [copyW_open, copyW_co]; rfl
theorem copyW_drift (w : Ws) (a b : Int) : driftW (copyW w) a b = driftW w a b := by unfold driftW; rw [copyW_open, copyW_co]; rfl
theorem copyW_isAB (w : Ws) (a b : Int) : isAB (copyW w) a b = isAB w a b := rfl
theorem copyW_str (w : Ws) (i : Nat) : strW (copyW w) i = strW w i := by
 by_cases h : i < w.vs.length
 ·have h2 : i < (copyW w).vs.length := by simp [copyW, h]
  rw [strW_at h, strW_at h2, copyW_co]
  have e : (copyW w).vs[i] = copyV w.vs[i] := by simp [copyW]
  rw [e, copyW_num]
  rfl
 ·have h2 : ¬ i < (copyW w).vs.length := by simp [copyW]; omega
  unfold strW
  rw [List.getElem?_eq_none (by omega), List.getElem?_eq_none (by omega)]
theorem copyW_strange (w : Ws) : strangeW (copyW w) = strangeW w := by
 unfold strangeW
 rw [copyW_open, show strW (copyW w) = strW w from funext fun i => copyW_str w i, show (copyW w).vs.length = w.vs.length by simp [copyW]]

theorem onW_len (w : Ws) (d : Int) : (onW w d).length ≤ 101 := by
 unfold onW
 split
 ·rename_i h
  exact onC_len _ _ _ (openW_ok h).1.num.gain
 ·simp

theorem law7 (w : Ws) (x : As) : Pure Tryz.prog 7 [encWs w, encAs x] (.bool true) := by
 obtain ⟨f, hF, hf⟩ := far30 w
 cases f
 ·have hnear := hf rfl
  have hlen := hnear.len
  have hsm : checkW w = 0 → SmallW w := fun h => ⟨(hnear.small h).1, (hnear.small h).2.1, (hnear.small h).2.2⟩
  have c0 := q_copy23 w hlen
  have hlc := copyW_len hlen
  have d1 := check31 (copyW w) hlc
  have d2 := q_check32 w hlen
  have c1 := fewest33 (copyW w) hlc
  have c2 := q_fewest34 w hlen hsm
  have c3 := w_strange28 (copyW w) hlc
  have c4 := q_strange35 w hlen hsm
  have c5 := w_on18 (copyW w) x.a hlc
  have c6 := q_on36 w x.a hlen hsm
  have c8 := w_drift22 (copyW w) x.a x.b hlc
  have c9 := q_drift37 w x.a x.b hlen hsm
  have c7 := l_same39 w hlen
  rw [copyW_day] at c5
  rw [copyW_isAB] at c8
  rw [copyW_check] at d1
  rw [copyW_few, copyW_check] at c1
  rw [copyW_strange, copyW_open] at c3
  rw [copyW_onW, copyW_open] at c5
  rw [copyW_drift, copyW_open] at c8
  have hSl : (strangeW w).length ≤ 1000 := by
   unfold strangeW; split
   ·exact Nat.le_trans (fixTo_len _ _) hlen.vs
   ·simp
  have hOl := onW_len w x.a
  obtain ⟨e1, he1⟩ : ∃ e, openW w true = e := ⟨_, rfl⟩
  obtain ⟨e2, he2⟩ : ∃ e, openW w (dayB w x.a) = e := ⟨_, rfl⟩
  obtain ⟨e3, he3⟩ : ∃ e, openW w (isAB w x.a x.b) = e := ⟨_, rfl⟩
  rw [he1] at c3 c4
  rw [he2] at c5 c6
  rw [he3] at c8 c9
  clear he1 he2 he3
  generalize copyW w = s at *
  generalize checkW w = e0 at *
  generalize fewW w = m at *
  generalize strangeW w = A at *
  generalize onW w x.a = B at *
  generalize driftW w x.a x.b = p at *
  have s1 := same29 A.isEmpty (e1 != 0) A.isEmpty (e1 != 0) A A (by omega) (by omega)
  have s2 := same29 B.isEmpty B.isEmpty B.isEmpty (e2 != 0) B B (by omega) (by omega)
  simp only [decide_true] at s1 s2
  have hbb : ∀ n : Int, (n == n) = true := fun n => by simp
  have hee : eqInts [.i64, .i64] [.int .i64 p.1, .int .i64 p.2] [.int .i64 p.1, .int .i64 p.2] = some true := by simp [eqInts]
  refine ZF (fn := Tryz.f7) [.tmp 4] ⟨Tryz.func7, rfl, by kernel_rfl⟩ fun x hx hσ => ?_
  (repeat refine ZQ ?_); refine ZR fun K hK => ?_; simp (maxSteps := 1000000) [ty28, ty47, ty4]; refine hK _ ?_; clear hK K
  (repeat refine ZQ ?_); refine ZR fun K hK => ?_; simp (maxSteps := 1000000) [ty28]
  refine ZP (hF) ?_; simp (maxSteps := 1000000) [ty4]
  refine hK _ ?_; clear hK K
  (repeat refine ZQ ?_); refine ZC (fun hd => ?_) (fun hd => ?_)
  ·simp at hd
  ·clear hd
   refine awp_skip ?_
   (repeat refine ZQ ?_); refine ZR fun K hK => ?_; simp (maxSteps := 1000000) [ty28]
   refine ZP (c0) ?_; simp (maxSteps := 1000000) [ty28]
   refine hK _ ?_; clear hK K
   (repeat refine ZQ ?_); refine ZD [] [0, 1, 2, 3, 4] fun K hK => ?_; simp (maxSteps := 1000000) [ty28, ty37]
   refine ZE (d1) ?_; simp (maxSteps := 1000000) [ty28, ty37]
   refine ZE (d2) ?_; simp (maxSteps := 1000000) [ty28, ty37, hbb]
   refine hK _ ?_; clear hK K
   (repeat refine ZQ ?_); refine ZC (fun hd => ?_) (fun hd => ?_)
   ·simp at hd
   ·clear hd
    refine awp_skip ?_
    (repeat refine ZQ ?_); refine ZR fun K hK => ?_; simp (maxSteps := 1000000) [ty28, ty3]
    refine ZP (c1) ?_; simp (maxSteps := 1000000) [ty37]
    refine hK _ ?_; clear hK K
    (repeat refine ZQ ?_); refine ZR fun K hK => ?_; simp (maxSteps := 1000000) [ty28, ty3]
    refine ZP (c2) ?_; simp (maxSteps := 1000000) [ty37]
    refine hK _ ?_; clear hK K
    (repeat refine ZQ ?_); refine ZR fun K hK => ?_; simp (maxSteps := 1000000) [ty28, ty29]
    refine ZP (c3) ?_; simp (maxSteps := 1000000) [ty29]
    refine hK _ ?_; clear hK K
    (repeat refine ZQ ?_); refine ZR fun K hK => ?_; simp (maxSteps := 1000000) [ty28, ty29]
    refine ZP (c4) ?_; simp (maxSteps := 1000000) [ty29]
    refine hK _ ?_; clear hK K
    (repeat refine ZQ ?_); refine ZR fun K hK => ?_; simp (maxSteps := 1000000) [ty28, ty47, ty3]
    refine ZP (c5) ?_; simp (maxSteps := 1000000) [ty29]
    refine hK _ ?_; clear hK K
    (repeat refine ZQ ?_); refine ZR fun K hK => ?_; simp (maxSteps := 1000000) [ty28, ty47, ty3]
    refine ZP (c6) ?_; simp (maxSteps := 1000000) [ty29]
    refine hK _ ?_; clear hK K
    (repeat refine ZQ ?_); refine ZR fun K hK => ?_; simp (maxSteps := 1000000) [ty28, ty47, ty3]
    refine ZP (c8) ?_; simp (maxSteps := 1000000) [ty23]
    refine hK _ ?_; clear hK K
    (repeat refine ZQ ?_); refine ZR fun K hK => ?_; simp (maxSteps := 1000000) [ty28, ty47, ty3]
    refine ZP (c9) ?_; simp (maxSteps := 1000000) [ty23]
    refine hK _ ?_; clear hK K
    (repeat refine ZQ ?_); refine ZR fun K hK => ?_; simp (maxSteps := 1000000) [ty3, ty4, ty37, ty28, ty29, ty23, fe23, hee, hbb]
    refine ZP (s1) ?_; simp (maxSteps := 1000000) [ty4, ty3, ty37, ty28, hbb]
    refine ZP (s2) ?_; simp (maxSteps := 1000000) [ty4, ty3, ty37, ty28, ty23, fe23, hee, hbb]
    refine ZP (c7) ?_; simp (maxSteps := 1000000) [ty4]
    refine ZP (works15) ?_; simp (maxSteps := 1000000) [ty4]
    refine hK _ ?_; clear hK K
    (repeat refine ZQ ?_); refine awp_ret ?_; refine And.intro (Or.inr rfl) ?_
    simp [retC, resC, viewC, mapO]
 ·refine ZF (fn := Tryz.f7) [.tmp 4] ⟨Tryz.func7, rfl, by kernel_rfl⟩ fun x hx hσ => ?_
  (repeat refine ZQ ?_); refine ZR fun K hK => ?_; simp (maxSteps := 1000000) [ty28, ty47, ty4]; refine hK _ ?_; clear hK K
  (repeat refine ZQ ?_); refine ZR fun K hK => ?_; simp (maxSteps := 1000000) [ty28]
  refine ZP (hF) ?_; simp (maxSteps := 1000000) [ty4]
  refine hK _ ?_; clear hK K
  (repeat refine ZQ ?_); refine ZC (fun hd => ?_) (fun hd => ?_)
  ·clear hd
   (repeat refine ZQ ?_); refine ZR fun K hK => ?_; simp (maxSteps := 1000000) [ty4]
   refine ZP (works15) ?_; simp (maxSteps := 1000000)
   refine hK _ ?_; clear hK K
   (repeat refine ZQ ?_); refine awp_ret ?_; refine And.intro (Or.inr rfl) ?_
   simp [retC, resC, viewC, mapO]
  ·simp at hd

open Go.ChangeShapes Go.WideShapes Go.ChangeAt Go.RowKit

set_option maxRecDepth 100000 in
theorem wearOn_lifted (os : Os) (started : os.Started) (H : Type) (enc : TypeId × Value → H) :
  ReturnsInHanded {} Tryz.checked os 7 .any (Rows.wearOnSpec.pre6 enc Tryz.prog Tryz.f7 Rows.wearOnRow.domain false) (Rows.wearOnSpec.post enc Tryz.prog Tryz.f7 false true false false) := by
 refine returnsInHanded_of_change (C := Tryz.checked) J.own started (by kernel_rfl) Tryz.func7
  (ChangeSpec.witness6 (enc := enc) (C := Tryz.checked) false ⟨#[], #[.agg #[.int .i64 0, .int .i64 0, .int .i64 0, .int .i64 0, .int .i64 0, .int .i64 0, .int .i64 0, .int .i64 0, .int .i64 0, .int .i64 0, .int .i64 0, .slice none 0 0, .int .i64 0], .agg #[.int .i64 0, .int .i64 0, .int .i64 0, .int .i64 0]], []⟩ 8 (by kernel_rfl) (by kernel_rfl) (by kernel_rfl) (by kernel_rfl)) ?_
 intro W base args ds gs before hval hW _ _
 refine law_contract (P := Tryz.prog) (tb := 4) (by kernel_rfl) J.ub rfl (fun ds hl => ?_) J.laid J.maps J.sized (by kernel_rfl) (by kernel_rfl) (fun cargs hc => ?_) W base args ds gs before hval hW
 ·have h2 : ds.length = 2 := hl
  match ds, h2 with
  | [_, _], _ => rfl
 ·rw [Tryz.params7] at hc
  obtain ⟨w, r, rfl, hc1⟩ := argWear hc
  obtain ⟨x, r1, rfl, hc2⟩ := argAsk hc1
  obtain rfl := arg_end hc2
  exact law7 w x

theorem wearOn_holds : Rows.WearOnSaid :=
 OpenClaim.holds_of_wide 7 Tryz.f7 rfl rfl rfl rfl rfl rfl rfl ⟨rfl, rfl, rfl, rfl, rfl⟩ rfl rfl rfl rfl rfl (by kernel_rfl) Tryz.func7 (by kernel_rfl)
  (of_decide_eq_true (by kernel_rfl)) (by unfold Func.isWrapper; first | (rw [if_pos (by decide +kernel)]; kernel_rfl) | (rw [if_neg (by decide +kernel)]; exact ⟨rfl, rfl⟩))
  (fun os started H enc _ => wearOn_lifted os started H enc)
#print axioms wearOn_holds
end Go.Proofs.YtknoachjpoibaaaGreat

