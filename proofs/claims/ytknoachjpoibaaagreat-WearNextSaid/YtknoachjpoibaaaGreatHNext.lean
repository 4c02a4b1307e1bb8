/- For every input the law WearNext returns true, and each argument reads afterwards as it read before. No condition. -/
import Derived.Test.YtknoachjpoibaaaGreatB5

set_option linter.unusedSimpArgs false
set_option linter.unusedVariables false
set_option linter.constructorNameAsVariable false

namespace Go.Proofs.YtknoachjpoibaaaGreat
open Go Go.Abs

set_option maxHeartbeats 8000000

-- the reference's search over all gains

def allP (c : Co) : Nat → List Int → List (List Int)
 | 0, f => if isSoC c f then [f] else []
 | n + 1, f => if isSoC c f then (seqI (-c.gain) c.gain).flatMap fun g => allP c n (f ++ [g]) else []

theorem isSoC_prefix {c : Co} {f l : List Int} (h : f <+: l) (hl : isSoC c l = true) : isSoC c f = true := by
 obtain ⟨t, rfl⟩ := h
 rw [isSoC_iff] at hl ⊢
 refine ⟨fun i hi => ?_, fun i hi => ?_⟩
 ·have := hl.1 i (by simp; omega)
  rwa [List.getElem_append_left hi] at this
 ·have := hl.2 i (by simp; omega)
  rwa [List.getElem_append_left hi, List.getElem_append_left (by omega : i < f.length)] at this

theorem mem_allP (c : Co) : ∀ (n : Nat) (f l : List Int), l ∈ allP c n f ↔ l.length = f.length + n ∧ f <+: l ∧ isSoC c l = true
 | 0, f, l => by
  unfold allP
  constructor
  ·intro h
   split at h
   ·rename_i hs
    simp only [List.mem_singleton] at h
    subst h
    exact ⟨rfl, List.prefix_refl _, hs⟩
   ·simp at h
  ·rintro ⟨h1, h2, h3⟩
   have e : f = l := h2.eq_of_length (by omega)
   subst e
   rw [if_pos h3]; simp
 | n + 1, f, l => by
  unfold allP
  constructor
  ·intro h
   split at h
   ·obtain ⟨g, _, hm⟩ := List.mem_flatMap.1 h
    obtain ⟨h1, h2, h3⟩ := (mem_allP c n (f ++ [g]) l).1 hm
    simp only [List.length_append, List.length_singleton] at h1
    exact ⟨by omega, (List.prefix_append f [g]).trans h2, h3⟩
   ·simp at h
  ·rintro ⟨h1, h2, h3⟩
   rw [if_pos (isSoC_prefix h2 h3)]
   obtain ⟨t, rfl⟩ := h2
   cases t with
   | nil => simp at h1
   | cons g t =>
    refine List.mem_flatMap.2 ⟨g, ?_, (mem_allP c n (f ++ [g]) _).2 ⟨?_, ?_, h3⟩⟩
    ·have := (isSoC_iff.1 h3).1 f.length (by simp)
     simp at this
     exact mem_seqI.2 this
    ·simp at h1 ⊢; omega
    ·exact ⟨t, by simp⟩

theorem flat_bd {α β : Type} {f : α → List β} {b : Nat} : ∀ (L : List α), (∀ x ∈ L, (f x).length ≤ b) → (L.flatMap f).length ≤ L.length * b
 | [], _ => by simp
 | a :: L, h => by
  have h1 := h a (by simp)
  have h2 := flat_bd L fun x hx => h x (by simp [hx])
  rw [List.flatMap_cons, List.length_append, List.length_cons, Nat.succ_mul]
  omega

theorem allP_len {c : Co} {m : Nat} (hm : (seqI (-c.gain) c.gain).length ≤ m) (h1 : 1 ≤ m) : ∀ (n : Nat) (f : List Int), (allP c n f).length ≤ m ^ n
 | 0, f => by unfold allP; split <;> simp
 | n + 1, f => by
  unfold allP
  split
  ·have h := flat_bd (f := fun g => allP c n (f ++ [g])) (b := m ^ n) (seqI (-c.gain) c.gain) fun g _ => allP_len hm h1 n (f ++ [g])
   have h2 := Nat.mul_le_mul_right (m ^ n) hm
   rw [Nat.pow_succ, Nat.mul_comm (m ^ n) m]
   omega
  ·simp

@[simp] abbrev rowP (l : List Int) : List C := [.sl false false (l.map cI)]
theorem rowP_pure (X : List (List Int)) : (X.map rowP).all purel = true := all_purel_map fun _ => rfl

theorem q_all81 (w : Ws) (G : List (Int × List Int)) (hg : 0 ≤ w.gain ∧ w.gain ≤ 3) (hl : 1 ≤ w.last ∧ w.last ≤ 5) : ∀ (n : Nat) (f : List Int) (nl fu : Bool), (f.length + n : Int) = w.last + 1 → (n = 0 → nl = false ∧ fu = false) →
  ∃ a b, Pure Tryz.prog 81 [encWs w, .sl nl fu (f.map cI)] (.sl a b ((allP (co w G) n f).map rowP)) := by
 have hwl : IntKind.i64.wrap (w.last + 1) = w.last + 1 := wrap_id (by omega) (by omega)
 have hwg : IntKind.i64.wrap (-w.gain) = -w.gain := wrap_id (by omega) (by omega)
 intro n
 induction n with
 | zero =>
  intro f nl fu hf h0
  obtain ⟨rfl, rfl⟩ := h0 rfl
  have hso := q_isSo65 w G false false f (by omega) (by omega)
  cases hb : isSoC (co w G) f
  ·rw [hb] at hso
   have hA : allP (co w G) 0 f = [] := if_neg (by rw [hb]; simp)
   refine ⟨true, true, ?_⟩
   rw [hA]
   refine ZF (fn := Tryz.f81) [.tmp 4] ⟨Tryz.func81, rfl, by kernel_rfl⟩ fun x hx hσ => ?_
   (repeat refine ZQ ?_); refine ZR fun K hK => ?_; simp (maxSteps := 1000000) [ty28, ty110]; refine hK _ ?_; clear hK K
   (repeat refine ZQ ?_); refine ZR fun K hK => ?_; simp (maxSteps := 1000000) [ty28]
   refine ZP (hso) ?_; simp (maxSteps := 1000000) [ty4]
   refine hK _ ?_; clear hK K
   (repeat refine ZQ ?_); refine ZC (fun hd => ?_) (fun hd => ?_)
   ·clear hd
    (repeat refine ZQ ?_); refine ZR fun K hK => ?_; simp (maxSteps := 1000000) [ty110]; refine hK _ ?_; clear hK K
    (repeat refine ZQ ?_); refine awp_ret ?_; refine And.intro (Or.inr rfl) ?_
    simp [retC, resC, viewC, mapO]
   ·simp at hd
  ·rw [hb] at hso
   have hA : allP (co w G) 0 f = [f] := if_pos hb
   have hfl : ((f.length : Int) == w.last + 1) = true := by rw [beq_iff_eq]; omega
   refine ⟨false, true, ?_⟩
   rw [hA]
   refine ZF (fn := Tryz.f81) [.tmp 4] ⟨Tryz.func81, rfl, by kernel_rfl⟩ fun x hx hσ => ?_
   (repeat refine ZQ ?_); refine ZR fun K hK => ?_; simp (maxSteps := 1000000) [ty28, ty110]; refine hK _ ?_; clear hK K
   (repeat refine ZQ ?_); refine ZR fun K hK => ?_; simp (maxSteps := 1000000) [ty28]
   refine ZP (hso) ?_; simp (maxSteps := 1000000) [ty4]
   refine hK _ ?_; clear hK K
   (repeat refine ZQ ?_); refine ZC (fun hd => ?_) (fun hd => ?_)
   ·simp at hd
   ·clear hd
    refine awp_skip ?_
    (repeat refine ZQ ?_); refine ZR fun K hK => ?_; simp (maxSteps := 1000000) [ty29, ty28, ty3, hwl, hfl]; refine hK _ ?_; clear hK K
    (repeat refine ZQ ?_); refine ZC (fun hd => ?_) (fun hd => ?_)
    ·clear hd
     (repeat refine ZQ ?_); refine ZR fun K hK => ?_; simp (maxSteps := 1000000) [ty110, ty29]; refine hK _ ?_; clear hK K
     (repeat refine ZQ ?_); refine awp_ret ?_; refine And.intro (Or.inr rfl) ?_
     simp [retC, resC, viewC, mapO]
    ·simp at hd
 | succ n ih =>
  intro f nl fu hf _
  have hso := q_isSo65 w G nl fu f (by omega) (by omega)
  cases hb : isSoC (co w G) f
  ·rw [hb] at hso
   have hA : allP (co w G) (n + 1) f = [] := if_neg (by rw [hb]; simp)
   refine ⟨true, true, ?_⟩
   rw [hA]
   refine ZF (fn := Tryz.f81) [.tmp 4] ⟨Tryz.func81, rfl, by kernel_rfl⟩ fun x hx hσ => ?_
   (repeat refine ZQ ?_); refine ZR fun K hK => ?_; simp (maxSteps := 1000000) [ty28, ty110]; refine hK _ ?_; clear hK K
   (repeat refine ZQ ?_); refine ZR fun K hK => ?_; simp (maxSteps := 1000000) [ty28]
   refine ZP (hso) ?_; simp (maxSteps := 1000000) [ty4]
   refine hK _ ?_; clear hK K
   (repeat refine ZQ ?_); refine ZC (fun hd => ?_) (fun hd => ?_)
   ·clear hd
    (repeat refine ZQ ?_); refine ZR fun K hK => ?_; simp (maxSteps := 1000000) [ty110]; refine hK _ ?_; clear hK K
    (repeat refine ZQ ?_); refine awp_ret ?_; refine And.intro (Or.inr rfl) ?_
    simp [retC, resC, viewC, mapO]
   ·simp at hd
  ·rw [hb] at hso
   have hfl : ((f.length : Int) == w.last + 1) = false := by rw [beq_eq_false_iff_ne]; omega
   obtain ⟨m, hm⟩ : ∃ m : Nat, (w.gain - -w.gain + 1).toNat = m := ⟨_, rfl⟩
   have hm' : (m : Int) = 2 * w.gain + 1 := by omega
   have hex : ∀ x : Nat, ∃ r : Bool × Bool, Pure Tryz.prog 81 [encWs w, .sl false false ((f ++ [-w.gain + (x : Int)]).map cI)] (.sl r.1 r.2 ((allP (co w G) n (f ++ [-w.gain + (x : Int)])).map rowP)) := fun x => by
    obtain ⟨a, b, h⟩ := ih (f ++ [-w.gain + (x : Int)]) false false (by simp; omega) fun _ => ⟨rfl, rfl⟩
    exact ⟨(a, b), h⟩
   obtain ⟨F, hF⟩ := Classical.axiomOfChoice hex
   obtain ⟨A, hA⟩ : ∃ A : Nat → List (List Int), ∀ x, ((seqN (-w.gain) x).flatMap fun g => allP (co w G) n (f ++ [g])) = A x := ⟨_, fun _ => rfl⟩
   have hA0 : A 0 = [] := by rw [← hA]; rfl
   have hAs : ∀ x : Nat, A (x + 1) = A x ++ allP (co w G) n (f ++ [-w.gain + (x : Int)]) := fun x => by rw [← hA, ← hA, seqN_step, List.flatMap_append]; simp
   have hAN : allP (co w G) (n + 1) f = A m := by
    rw [← hA]
    show (if isSoC (co w G) f then _ else _) = _
    rw [if_pos hb]
    unfold seqI
    rw [show ((co w G).gain - -(co w G).gain + 1).toNat = m by simp only; omega]
   have hsl : (seqI (-(co w G).gain) (co w G).gain).length ≤ 7 := by
    have : (seqI (-(co w G).gain) (co w G).gain).length = ((co w G).gain - -(co w G).gain + 1).toNat := seqN_len _ _
    simp only at this ⊢; omega
   have hpow : ∀ k : Nat, k ≤ 6 → 7 ^ k ≤ 117649 := fun k hk => Nat.le_trans (Nat.pow_le_pow_right (by decide) hk) (by decide)
   have hPl : ∀ g, (allP (co w G) n (f ++ [g])).length ≤ 117649 := fun g => Nat.le_trans (allP_len hsl (by decide) n _) (hpow n (by omega))
   have hAl : ∀ x, x ≤ m → (A x).length ≤ 823543 := fun x hx => by
    rw [← hA]
    have h := flat_bd (f := fun g => allP (co w G) n (f ++ [g])) (b := 117649) (seqN (-w.gain) x) fun g _ => hPl g
    rw [seqN_len] at h
    have : x * 117649 ≤ 7 * 117649 := Nat.mul_le_mul_right _ (by omega)
    omega
   refine ⟨(A m).isEmpty, false, ?_⟩
   rw [hAN]
   clear hA hAN hex hsl hpow
   refine ZF (fn := Tryz.f81) [.tmp 4] ⟨Tryz.func81, rfl, by kernel_rfl⟩ fun x hx hσ => ?_
   (repeat refine ZQ ?_); refine ZR fun K hK => ?_; simp (maxSteps := 1000000) [ty28, ty110]; refine hK _ ?_; clear hK K
   (repeat refine ZQ ?_); refine ZR fun K hK => ?_; simp (maxSteps := 1000000) [ty28]
   refine ZP (hso) ?_; simp (maxSteps := 1000000) [ty4]
   refine hK _ ?_; clear hK K
   (repeat refine ZQ ?_); refine ZC (fun hd => ?_) (fun hd => ?_)
   ·simp at hd
   ·clear hd
    refine awp_skip ?_
    (repeat refine ZQ ?_); refine ZR fun K hK => ?_; simp (maxSteps := 1000000) [ty29, ty28, ty3, hwl, hfl]; refine hK _ ?_; clear hK K
    (repeat refine ZQ ?_); refine ZC (fun hd => ?_) (fun hd => ?_)
    ·simp at hd
    ·clear hd
     refine awp_skip ?_
     (repeat refine ZQ ?_); refine ZR fun K hK => ?_; simp (maxSteps := 1000000) [ty110]; refine hK _ ?_; clear hK K
     (repeat refine ZQ ?_); refine ZR fun K hK => ?_; simp (maxSteps := 1000000) [ty28, ty3, hwg]; refine hK _ ?_; clear hK K
     (repeat refine ZQ ?_); refine awp_block ?_
     refine AWP.weak ?_ (wk_nil 5 5 1 (fu := true) (by simp) (by simp))
     refine awp_loop (fun x : Nat => ⟨ofL [(1, .sl nl fu (f.map cI)), (2, .ptr 2 13 0 0), (5, .own 5 1 0 (A x).length), (6, encI (-w.gain + (x : Int)))], stoT [(2, 2, .live (obWs w)), (5, 5, .live ⟨(A x).isEmpty, false, 1, (A x).map rowP⟩)]⟩)
      (fun x => x ≤ m) (fun x => m - x) 0 (Nat.zero_le _) ?_ ?_
     ·rw [hA0]
      exact ZW
     ·intro x hx0
      have hlx := hAl x hx0
      have hst := hAs x
      have hPx := hPl (-w.gain + (x : Int))
      have hFx := hF x
      (repeat refine ZQ ?_); refine ZR fun K hK => ?_; simp (maxSteps := 1000000) [ty28, ty3]; refine hK _ ?_; clear hK K
      (repeat refine ZQ ?_); refine ZC (fun hc => ?_) (fun hc => ?_)
      ·simp at hc
       have hxm : x < m := by omega
       have hwx : IntKind.i64.wrap (-w.gain + (x : Int) + 1) = -w.gain + ((x + 1 : Nat) : Int) := by rw [wrap_id (by omega) (by omega)]; omega
       generalize allP (co w G) n (f ++ [-w.gain + (x : Int)]) = Z at *
       generalize hacc : A x = acc at *
       refine awp_skip ?_
       (repeat refine ZQ ?_); refine awp_block ?_
       (repeat refine ZQ ?_); refine ZD [4, 1001, 5007, 4008, 10032] [0, 1, 2, 3, 4, 5, 6, 7, 8, 9, 10] fun K hK => ?_; simp (maxSteps := 1000000) [ty28, ty29, ty110, ty3]
       refine ⟨⟨by omega, by omega⟩, ⟨by omega, by omega⟩, ?_⟩
       refine doesD (does_frz 35 (args' := [encWs w, .sl false false ((f ++ [-w.gain + (x : Int)]).map cI)]) (by simp; rfl) ?_ (.cons (.inl rfl) (.cons ?_ .nil)) ?_ hFx ?_) ?_
       ·simp [purel, C.isPure]
       ·have := fz_own (k := 35) (sz := 1) (n := f.length + 1) (b := false) (o := ⟨false, true, 1, f.map cI ++ [[encI (-w.gain + (x : Int))]]⟩) rfl (by simp) rfl
        simpa using this
       ·simp [purel, C.isPure]
       ·simp [C.isPure]
       simp [ty110, ty28, ty29]
       refine ⟨⟨by omega, by omega⟩, ?_⟩
       refine hK _ ?_; clear hK K
       (repeat refine ZQ ?_); refine ZR fun K hK => ?_; simp (maxSteps := 1000000) [ty3, hwx]; refine hK _ ?_; clear hK K; (first | show AWP _ _ _ _ _ | show ∃ _, _ | skip)
       refine ⟨x + 1, by omega, by omega, ?_⟩
       rw [hst]
       refine wk_shape (T := [(2, 2, .live (obWs w)), (5, 37, .live ⟨(acc ++ Z).isEmpty, false, 1, (acc ++ Z).map rowP⟩)]) (shp0 hσ (by simp) (by simp) ?_) ?_
       ·simp [SlotOk]
        exact ⟨.same (by simp [purel, C.isPure]), by cases acc <;> simp, .same (by rw [← List.map_append]; exact rowP_pure _)⟩
       ·simp [mtc, mtl, mT, C.isPure, purel]
      ·simp at hc
       (repeat refine ZQ ?_); refine awp_exit ?_; (first | show AWP _ _ _ _ _ | show ∃ _, _ | skip)
       obtain rfl : x = m := by omega
       (repeat refine ZQ ?_); refine ZR fun K hK => ?_; simp (maxSteps := 1000000) [ty110]; refine hK _ ?_; clear hK K
       (repeat refine ZQ ?_); refine awp_ret ?_; refine And.intro (Or.inr rfl) ?_
       refine ⟨_, by simp [retC, resC]; rfl, ?_⟩
       refine (viewC_own (o := ⟨(A x).isEmpty, false, 1, (A x).map rowP⟩) (by simp) rfl (by simp) (rowP_pure _)).trans ?_
       simp

set_option maxHeartbeats 8000000

-- all truths, as the reference has them

/-- All truths of a valid instrument. -/
def tlW (w : Ws) : List (List Int) := (allP (co w (gl w)) (w.last + 1).toNat []).filter fun l => decide ((wrL (gl w) (pF l) : Int) ≤ w.wrong)

theorem mem_tlW {w : Ws} (hok : WsOk w) {l : List Int} : l ∈ tlW w ↔ l.length = w.last.toNat + 1 ∧ Tru (co w (gl w)) (pF l) := by
 have hl := hok.last
 rw [← isTruB_iff hok]
 unfold tlW isTruB
 rw [List.mem_filter, mem_allP]
 simp only [Bool.and_eq_true, decide_eq_true_eq, List.length_nil, Nat.zero_add, List.nil_prefix, true_and]
 constructor
 ·rintro ⟨⟨h1, h2⟩, h3⟩; exact ⟨⟨by omega, h2⟩, h3⟩
 ·rintro ⟨⟨h1, h2⟩, h3⟩; exact ⟨⟨by omega, h2⟩, h3⟩

/-- The list of a path. -/
def lstP (p : Nat → Int) (n : Nat) : List Int := (List.range (n + 1)).map p
theorem lstP_at (p : Nat → Int) {n i : Nat} (h : i ≤ n) : pF (lstP p n) i = p i := by
 have hi : i < (lstP p n).length := by simp [lstP]; omega
 rw [pF_at hi]; simp [lstP]

theorem tru_congr {c : Co} {p q : Nat → Int} (h : ∀ i, i ≤ c.last.toNat → p i = q i) (hp : Tru c p) : Tru c q := ⟨hp.1.congr h, by rw [← wrs_congr h]; exact hp.2⟩

theorem lst_mem {w : Ws} (hok : WsOk w) {p : Nat → Int} (hp : Tru (co w (gl w)) p) : lstP p w.last.toNat ∈ tlW w :=
 (mem_tlW hok).2 ⟨by simp [lstP], tru_congr (fun i hi => (lstP_at p hi).symm) hp⟩

theorem tlW_nil {w : Ws} (hok : WsOk w) : tlW w = [] ↔ canC (co w (gl w)) [] = false := by
 rw [Bool.eq_false_iff, Ne, can_nil]
 constructor
 ·rintro h ⟨p, hp⟩
  have := lst_mem hok hp
  rw [h] at this; simp at this
 ·intro h
  refine List.eq_nil_iff_forall_not_mem.2 fun l hl => h ⟨_, ((mem_tlW hok).1 hl).2⟩

def knW (w : Ws) (is : Bool) : List (List Int) := if openW w is = 0 then tlW w else []

/-- Small enough for the reference. -/
structure SmallW (w : Ws) : Prop where
  gain : w.gain ≤ 3
  last : w.last ≤ 5
  vs : w.vs.length ≤ 3

theorem q_known84 (w : Ws) (is : Bool) (hn : WsLen w) (hsm : checkW w = 0 → SmallW w) : Pure Tryz.prog 84 [encWs w, .bool is] (.tup [.sl (knW w is).isEmpty (knW w is).isEmpty ((knW w is).map rowP), encI (openW w is)]) := by
 have hck := q_check32 w hn
 by_cases hz : checkW w = 0
 ·have hok := checkW_ok.1 hz
  have hs := hsm hz
  rw [hz] at hck
  cases is
  ·have ho : openW w false = 1 := by unfold openW; rw [if_neg (by simpa using hz), if_pos rfl]
   have hk : knW w false = [] := by unfold knW; rw [ho]; rfl
   rw [ho, hk]
   refine ZF (fn := Tryz.f84) [.tmp 4, .tmp 5] ⟨Tryz.func84, rfl, by kernel_rfl⟩ fun x hx hσ => ?_
   (repeat refine ZQ ?_); refine ZR fun K hK => ?_; simp (maxSteps := 1000000) [ty28, ty110, ty37]; refine hK _ ?_; clear hK K
   (repeat refine ZQ ?_); refine ZR fun K hK => ?_; simp (maxSteps := 1000000) [ty28]
   refine ZP (hck) ?_; simp (maxSteps := 1000000)
   refine hK _ ?_; clear hK K
   (repeat refine ZQ ?_); refine ZR fun K hK => ?_; simp (maxSteps := 1000000) [ty37]; refine hK _ ?_; clear hK K
   (repeat refine ZQ ?_); refine ZC (fun hd => ?_) (fun hd => ?_)
   ·simp at hd
   ·clear hd
    refine awp_skip ?_
    (repeat refine ZQ ?_); refine ZR fun K hK => ?_; simp (maxSteps := 1000000) [ty4]; refine hK _ ?_; clear hK K
    (repeat refine ZQ ?_); refine ZC (fun hd => ?_) (fun hd => ?_)
    ·clear hd
     (repeat refine ZQ ?_); refine ZR fun K hK => ?_; simp (maxSteps := 1000000) [ty110, ty37]; refine hK _ ?_; clear hK K
     (repeat refine ZQ ?_); refine awp_ret ?_; refine And.intro (Or.inr rfl) ?_
     simp [retC, resC, viewC, mapO]
    ·simp at hd
  ·have hla := hok.last
   have hgn := hok.num.gain
   obtain ⟨a, b, hall⟩ := q_all81 w (gl w) (by have := hs.gain; omega) (by have := hs.last; omega) (w.last + 1).toNat [] true true (by simp; omega) (fun h => by omega)
   have hgs := q_gains82 w hn
   have hT : knW w true = tlW w := by
    unfold knW
    split
    ·rfl
    ·rename_i h
     refine ((tlW_nil hok).2 ?_).symm
     rw [Bool.eq_false_iff]
     intro e
     exact h (openW_true' hz e)
   have hE : openW w true = if tlW w = [] then 3 else 0 := by
    split
    ·rename_i h
     have := (tlW_nil hok).1 h
     unfold openW
     rw [if_neg (by simpa using hz), if_neg (by simp), if_pos this]
    ·rename_i h
     refine openW_true' hz ?_
     cases hc : canC (co w (gl w)) []
     ·exact absurd ((tlW_nil hok).2 hc) h
     ·rfl
   rw [hT, hE]
   obtain ⟨L, hL⟩ : ∃ L, allP (co w (gl w)) (w.last + 1).toNat [] = L := ⟨_, rfl⟩
   have hLl : L.length ≤ 117649 := by
    have hsl : (seqI (-(co w (gl w)).gain) (co w (gl w)).gain).length ≤ 7 := by
     have : (seqI (-(co w (gl w)).gain) (co w (gl w)).gain).length = ((co w (gl w)).gain - -(co w (gl w)).gain + 1).toNat := seqN_len _ _
     have := hs.gain
     simp only at *; omega
    rw [← hL]
    exact Nat.le_trans (allP_len hsl (by decide) _ _) (Nat.le_trans (Nat.pow_le_pow_right (by decide) (by have := hs.last; omega : (w.last + 1).toNat ≤ 6)) (by decide))
   have hLm : ∀ l ∈ L, (l.length : Int) = w.last + 1 := fun l hl => by
    rw [← hL] at hl
    have := ((mem_allP _ _ _ _).1 hl).1
    simp at this; omega
   have htl : tlW w = L.filter fun l => decide ((wrL (gl w) (pF l) : Int) ≤ w.wrong) := by rw [← hL]; rfl
   rw [hL] at hall
   rw [htl]
   clear hL htl hT hE
   obtain ⟨q, hq⟩ : ∃ q : List Int → Bool, q = fun l => decide ((wrL (gl w) (pF l) : Int) ≤ w.wrong) := ⟨_, rfl⟩
   rw [← hq]
   obtain ⟨A, hA⟩ : ∃ A : Nat → List (List Int), ∀ i, (L.take i).filter q = A i := ⟨_, fun _ => rfl⟩
   have hA0 : A 0 = [] := by rw [← hA]; rfl
   have hAN : L.filter q = A L.length := by rw [← hA, List.take_length]
   have hAs : ∀ i (h : i < L.length), A (i + 1) = if q L[i] then A i ++ [L[i]] else A i := fun i h => by
    rw [← hA, ← hA, List.take_succ_eq_append_getElem h, List.filter_append]
    cases hb : q L[i] <;> simp [hb]
   have hAl : ∀ i, i ≤ L.length → (A i).length ≤ 117649 := fun i hi => by
    rw [← hA]
    refine Nat.le_trans (List.length_filter_le _ _) ?_
    rw [List.length_take]; omega
   have hLp : (L.map rowP).all purel = true := rowP_pure L
   have hwr := fun (l : List Int) (hl : l ∈ L) => q_wrongs83 w w.vs.isEmpty false false false l hn fun v hv => by
    obtain ⟨i, hi, rfl⟩ := List.getElem_of_mem hv
    have h1 := hok.day i hi
    have h2 := hLm l hl
    omega
   rw [hAN]
   have hgp := gsN_pure w
   generalize gsN w = GS at *
   refine ZF (fn := Tryz.f84) [.tmp 4, .tmp 5] ⟨Tryz.func84, rfl, by kernel_rfl⟩ fun x hx hσ => ?_
   (repeat refine ZQ ?_); refine ZR fun K hK => ?_; simp (maxSteps := 1000000) [ty28, ty110, ty37]; refine hK _ ?_; clear hK K
   (repeat refine ZQ ?_); refine ZR fun K hK => ?_; simp (maxSteps := 1000000) [ty28]
   refine ZP (hck) ?_; simp (maxSteps := 1000000)
   refine hK _ ?_; clear hK K
   (repeat refine ZQ ?_); refine ZR fun K hK => ?_; simp (maxSteps := 1000000) [ty37]; refine hK _ ?_; clear hK K
   (repeat refine ZQ ?_); refine ZC (fun hd => ?_) (fun hd => ?_)
   ·simp at hd
   ·clear hd
    refine awp_skip ?_
    (repeat refine ZQ ?_); refine ZR fun K hK => ?_; simp (maxSteps := 1000000) [ty4]; refine hK _ ?_; clear hK K
    (repeat refine ZQ ?_); refine ZC (fun hd => ?_) (fun hd => ?_)
    ·simp at hd
    ·clear hd
     refine awp_skip ?_
     (repeat refine ZQ ?_); refine ZR fun K hK => ?_; simp (maxSteps := 1000000) [ty110]; refine hK _ ?_; clear hK K
     (repeat refine ZQ ?_); refine ZD [] [0, 1, 2, 3, 4, 5] fun K hK => ?_; simp (maxSteps := 1000000) [ty28, ty110]
     refine ZE (hall) ?_; simp (maxSteps := 1000000) [ty28, ty110]
     refine ZE (hgs) ?_; simp (maxSteps := 1000000) [ty110]
     refine hK _ ?_; clear hK K
     (repeat refine ZQ ?_); refine ZR fun K hK => ?_; simp (maxSteps := 1000000) [ty3]; refine hK _ ?_; clear hK K
     (repeat refine ZQ ?_); refine awp_block ?_
     refine AWP.weak ?_ (wk_nil 7 7 1 (fu := true) (by simp) (by simp))
     refine awp_loop (fun i : Nat => ⟨ofL [(2, .ptr 2 13 0 0), (7, .own 7 1 0 (A i).length), (8, .sl a b (L.map rowP)), (9, .sl w.vs.isEmpty false GS), (10, encI i)], stoT [(2, 2, .live (obWs w)), (7, 7, .live ⟨(A i).isEmpty, false, 1, (A i).map rowP⟩)]⟩)
      (fun i => i ≤ L.length) (fun i => L.length - i) 0 (Nat.zero_le _) ?_ ?_
     ·rw [hA0]
      refine wk_shape (shp0 hσ (by simp) (by simp) ?_) ?_
      ·simp [SlotOk]
       exact .same (by simp [purel, C.isPure])
      ·simp [mtc, mtl, mT, C.isPure, purel]
     ·intro i hi
      have hli := hAl i hi
      (repeat refine ZQ ?_); refine ZR fun K hK => ?_; simp (maxSteps := 1000000) [ty110, ty3]; refine hK _ ?_; clear hK K
      (repeat refine ZQ ?_); refine ZC (fun hc => ?_) (fun hc => ?_)
      ·simp at hc
       have hwi : IntKind.i64.wrap ((i : Int) + 1) = ((i + 1 : Nat) : Int) := by rw [wrap_id (by omega) (by omega)]; rfl
       have hst := hAs i hc
       have hcal := hwr L[i] (List.getElem_mem hc)
       have hqi : q L[i] = decide ((wrL (gl w) (pF L[i]) : Int) ≤ w.wrong) := by rw [hq]
       generalize wrL (gl w) (pF L[i]) = nw at *
       generalize hacc : A i = acc at *
       refine awp_skip ?_
       (repeat refine ZQ ?_); refine awp_block ?_
       cases hb : q L[i]
       ·rw [hb] at hst hqi
        simp at hst
        have hnw : ¬ (nw : Int) ≤ w.wrong := of_decide_eq_false hqi.symm
        (repeat refine ZQ ?_); refine ZD [] [0, 1, 2, 3, 4, 5, 6, 7, 8, 9] fun K hK => ?_; simp (maxSteps := 1000000) [ty28, ty110, ty29, ty3, hc]
        refine callPD hcal (by simp [purel, C.isPure]) (by simp) ?_
        simp [ty28, ty3, hnw]
        refine hK _ ?_; clear hK K
        (repeat refine ZQ ?_); refine ZC (hc := by simp [hnw]; rfl) (fun hd => ?_) (fun hd => ?_)
        ·simp [hnw] at hd
        ·clear hd
         refine awp_skip ?_
         (repeat refine ZQ ?_); refine ZR fun K hK => ?_; simp (maxSteps := 1000000) [ty3]; refine hK _ ?_; clear hK K; (first | show AWP _ _ _ _ _ | show ∃ _, _ | skip)
         refine ⟨i + 1, by omega, by omega, ?_⟩
         rw [hst, hwi]
         refine wk_shape (shp0 hσ (by simp) (by simp) ?_) ?_
         ·simp [SlotOk]
          exact ⟨.same (by simp [purel, C.isPure]), .same (rowP_pure _)⟩
         ·simp [mtc, mtl, mT, C.isPure, purel]
       ·rw [hb] at hst hqi
        simp at hst
        have hnw : (nw : Int) ≤ w.wrong := of_decide_eq_true hqi.symm
        (repeat refine ZQ ?_); refine ZD [] [0, 1, 2, 3, 4, 5, 6, 7, 8, 9] fun K hK => ?_; simp (maxSteps := 1000000) [ty28, ty110, ty29, ty3, hc]
        refine callPD hcal (by simp [purel, C.isPure]) (by simp) ?_
        simp [ty28, ty3, hnw]
        refine hK _ ?_; clear hK K
        (repeat refine ZQ ?_); refine ZC (hc := by simp [hnw]; rfl) (fun hd => ?_) (fun hd => ?_)
        ·clear hd
         (repeat refine ZQ ?_); refine ZR fun K hK => ?_; simp (maxSteps := 1000000) [ty110, ty29, ty3, hc]
         refine ⟨by omega, ?_⟩
         refine hK _ ?_; clear hK K
         (repeat refine ZQ ?_); refine ZR fun K hK => ?_; simp (maxSteps := 1000000) [ty3]; refine hK _ ?_; clear hK K; (first | show AWP _ _ _ _ _ | show ∃ _, _ | skip)
         refine ⟨i + 1, by omega, by omega, ?_⟩
         rw [hst, hwi]
         refine wk_shape (T := [(2, 2, .live (obWs w)), (7, 44, .live ⟨(acc ++ [L[i]]).isEmpty, false, 1, (acc ++ [L[i]]).map rowP⟩)]) (shp0 hσ (by simp) (by simp) ?_) ?_
         ·simp [SlotOk]
          exact ⟨.same (by simp [purel, C.isPure]), .same (by
           have h1 := rowP_pure (acc ++ [L[i]])
           rw [List.map_append] at h1
           exact h1)⟩
         ·simp [mtc, mtl, mT, C.isPure, purel]
        ·simp [hnw] at hd
      ·simp at hc
       (repeat refine ZQ ?_); refine awp_exit ?_; (first | show AWP _ _ _ _ _ | show ∃ _, _ | skip)
       have hiN : i = L.length := by omega
       subst hiN
       generalize A L.length = T at *
       have hpT := rowP_pure T
       by_cases hT0 : T = []
       ·subst hT0
        (repeat refine ZQ ?_); refine ZR fun K hK => ?_; simp (maxSteps := 1000000) [ty110, ty3]; refine hK _ ?_; clear hK K
        (repeat refine ZQ ?_); refine ZC (fun hd => ?_) (fun hd => ?_)
        ·clear hd
         (repeat refine ZQ ?_); refine ZR fun K hK => ?_; simp (maxSteps := 1000000) [ty110, ty37]; refine hK _ ?_; clear hK K
         (repeat refine ZQ ?_); refine awp_ret ?_; refine And.intro (Or.inr rfl) ?_
         simp [retC, resC, viewC, mapO]
        ·simp at hd
       ·have hTl : ((T.length : Int) == 0) = false := by
         rw [beq_eq_false_iff_ne]; intro e; exact hT0 (List.eq_nil_of_length_eq_zero (by omega))
        have hTe : T.isEmpty = false := by cases T with
         | nil => exact absurd rfl hT0
         | cons a l => rfl
        (repeat refine ZQ ?_); refine ZR fun K hK => ?_; simp (maxSteps := 1000000) [ty110, ty3, hTl]; refine hK _ ?_; clear hK K
        (repeat refine ZQ ?_); refine ZC (hc := by simp [hTl]; rfl) (fun hd => ?_) (fun hd => ?_)
        ·simp [hTl] at hd
        ·clear hd
         refine awp_skip ?_
         (repeat refine ZQ ?_); refine ZR fun K hK => ?_; simp (maxSteps := 1000000) [ty110, ty37]; refine hK _ ?_; clear hK K
         (repeat refine ZQ ?_); refine awp_ret ?_; refine And.intro (Or.inr rfl) ?_
         refine ⟨_, by simp [retC, resC]; rfl, ?_⟩
         unfold viewC
         rw [if_neg (by simp [C.isPure, purel])]
         simp only [mapO]
         rw [viewC_own (o := ⟨T.isEmpty, false, 1, T.map rowP⟩) (by simp) rfl (by simp) hpT, viewC_self rfl]
         simp [hT0, hTe]
 ·have ho : openW w is = checkW w := if_pos hz
  have hk : knW w is = [] := by unfold knW; rw [ho, if_neg hz]
  rw [ho, hk]
  refine ZF (fn := Tryz.f84) [.tmp 4, .tmp 5] ⟨Tryz.func84, rfl, by kernel_rfl⟩ fun x hx hσ => ?_
  (repeat refine ZQ ?_); refine ZR fun K hK => ?_; simp (maxSteps := 1000000) [ty28, ty110, ty37]; refine hK _ ?_; clear hK K
  (repeat refine ZQ ?_); refine ZR fun K hK => ?_; simp (maxSteps := 1000000) [ty28]
  refine ZP (hck) ?_; simp (maxSteps := 1000000)
  refine hK _ ?_; clear hK K
  (repeat refine ZQ ?_); refine ZR fun K hK => ?_; simp (maxSteps := 1000000) [ty37]; refine hK _ ?_; clear hK K
  (repeat refine ZQ ?_); refine ZC (hc := by simp [hz]; rfl) (fun hd => ?_) (fun hd => ?_)
  ·clear hd
   (repeat refine ZQ ?_); refine ZR fun K hK => ?_; simp (maxSteps := 1000000) [ty110, ty37]; refine hK _ ?_; clear hK K
   (repeat refine ZQ ?_); refine awp_ret ?_; refine And.intro (Or.inr rfl) ?_
   simp [retC, resC, viewC, mapO]
  ·simp [hz] at hd

set_option maxHeartbeats 8000000

-- gains of a day in some truths, and their doubt, as the reference has them

def onR (c : Co) (X : List (List Int)) (d : Nat) : List Int := (seqI (-c.gain) c.gain).filter fun n => X.any fun l => pF l d == n
def withL (X : List (List Int)) (d : Nat) (g : Int) : List (List Int) := X.filter fun l => pF l d == g
def doubtR (c : Co) (X : List (List Int)) : Nat → Int
 | 0 => 0
 | n + 1 => doubtR c X n + spanL (onR c X n)

theorem onR_tl {w : Ws} (hok : WsOk w) {d : Nat} (hd : d ≤ w.last.toNat) : onR (co w (gl w)) (tlW w) d = onC (co w (gl w)) (d : Nat) [] := by
 unfold onR onC
 refine List.filter_congr fun n hn => ?_
 rw [Bool.eq_iff_iff]
 have h1 := on_nil (co w (gl w)) d hd n
 have h2 : n ∈ onC (co w (gl w)) (d : Nat) [] ↔ onB (co w (gl w)) d [] n = true := by
  unfold onC; rw [List.mem_filter]; exact ⟨fun h => h.2, fun h => ⟨hn, h⟩⟩
 rw [← h2, h1, List.any_eq_true]
 constructor
 ·rintro ⟨l, hl, he⟩
  exact ⟨_, ((mem_tlW hok).1 hl).2, by simpa using he⟩
 ·rintro ⟨p, hp, he⟩
  exact ⟨_, lst_mem hok hp, by rw [lstP_at p hd, he]; simp⟩

theorem onR_with {w : Ws} (hok : WsOk w) {a d : Nat} (ha : a ≤ w.last.toNat) (hd : d ≤ w.last.toNat) (g : Int) : onR (co w (gl w)) (withL (tlW w) a g) d = onC (co w (gl w)) (d : Nat) [((a : Int), g)] := by
 unfold onR onC
 refine List.filter_congr fun n hn => ?_
 rw [Bool.eq_iff_iff]
 have h1 := on_one (co w (gl w)) a d g ha hd n
 have h2 : n ∈ onC (co w (gl w)) (d : Nat) [((a : Int), g)] ↔ onB (co w (gl w)) d [((a : Int), g)] n = true := by
  unfold onC; rw [List.mem_filter]; exact ⟨fun h => h.2, fun h => ⟨hn, h⟩⟩
 rw [← h2, h1, List.any_eq_true]
 unfold withL
 constructor
 ·rintro ⟨l, hl, he⟩
  obtain ⟨h3, h4⟩ := List.mem_filter.1 hl
  exact ⟨_, ((mem_tlW hok).1 h3).2, by simpa using he, by simpa using h4⟩
 ·rintro ⟨p, hp, e1, e2⟩
  exact ⟨_, List.mem_filter.2 ⟨lst_mem hok hp, by rw [lstP_at p ha, e2]; simp⟩, by rw [lstP_at p hd, e1]; simp⟩

theorem withL_nil {w : Ws} (hok : WsOk w) {a : Nat} (ha : a ≤ w.last.toNat) {g : Int} : withL (tlW w) a g ≠ [] ↔ g ∈ onC (co w (gl w)) (a : Nat) [] := by
 rw [on_nil _ a ha]
 constructor
 ·intro h
  obtain ⟨l, hl⟩ := List.exists_mem_of_ne_nil _ h
  obtain ⟨h3, h4⟩ := List.mem_filter.1 hl
  exact ⟨_, ((mem_tlW hok).1 h3).2, by simpa using h4⟩
 ·rintro ⟨p, hp, e⟩
  exact List.ne_nil_of_mem (List.mem_filter.2 ⟨lst_mem hok hp, by rw [lstP_at p ha, e]; simp⟩)

theorem doubtR_eq {c c' : Co} {X : List (List Int)} {M : List (Int × Int)} : ∀ n : Nat, (∀ d, d < n → onR c X d = onC c' (d : Nat) M) → doubtR c X n = doubtTo c' M n
 | 0, _ => rfl
 | n + 1, h => by
  simp only [doubtR, doubtTo]
  rw [doubtR_eq n fun d hd => h d (by omega), h n (by omega)]

theorem q_with89 (nl fu : Bool) (X : List (List Int)) (d : Nat) (g : Int) (hX : X.length ≤ 1000000) (hl : ∀ l ∈ X, d < l.length) : Pure Tryz.prog 89 [.sl nl fu (X.map rowP), encI d, encI g] (.sl (withL X d g).isEmpty false ((withL X d g).map rowP)) := by
 obtain ⟨A, hA⟩ : ∃ A : Nat → List (List Int), ∀ i, ((X.take i).filter fun l => pF l d == g) = A i := ⟨_, fun _ => rfl⟩
 have hA0 : A 0 = [] := by rw [← hA]; rfl
 have hAN : withL X d g = A X.length := by rw [← hA, List.take_length]; rfl
 have hAs : ∀ i (h : i < X.length), A (i + 1) = if (pF X[i] d == g) = true then A i ++ [X[i]] else A i := fun i h => by
  rw [← hA, ← hA, List.take_succ_eq_append_getElem h, List.filter_append]
  cases hb : pF X[i] d == g <;> simp [hb]
 have hAl : ∀ i, i ≤ X.length → (A i).length ≤ 1000000 := fun i hi => by
  rw [← hA]
  refine Nat.le_trans (List.length_filter_le _ _) ?_
  rw [List.length_take]; omega
 rw [hAN]
 clear hA hAN
 refine ZF (fn := Tryz.f89) [.tmp 6] ⟨Tryz.func89, rfl, by kernel_rfl⟩ fun x hx hσ => ?_
 (repeat refine ZQ ?_); refine ZR fun K hK => ?_; simp (maxSteps := 1000000) [ty110]; refine hK _ ?_; clear hK K
 (repeat refine ZQ ?_); refine ZR fun K hK => ?_; simp (maxSteps := 1000000) [ty110]; refine hK _ ?_; clear hK K
 (repeat refine ZQ ?_); refine ZR fun K hK => ?_; simp (maxSteps := 1000000) [ty3]; refine hK _ ?_; clear hK K
 (repeat refine ZQ ?_); refine awp_block ?_
 refine AWP.weak ?_ (wk_nil 7 7 1 (fu := true) (by simp) (by simp))
 refine awp_loop (fun i : Nat => ⟨ofL [(0, .sl nl fu (X.map rowP)), (1, encI d), (2, encI g), (7, .own 7 1 0 (A i).length), (8, encI i)], stoT [(7, 7, .live ⟨(A i).isEmpty, false, 1, (A i).map rowP⟩)]⟩)
  (fun i => i ≤ X.length) (fun i => X.length - i) 0 (Nat.zero_le _) ?_ ?_
 ·rw [hA0]
  exact ZW
 ·intro i hi
  have hli := hAl i hi
  (repeat refine ZQ ?_); refine ZR fun K hK => ?_; simp (maxSteps := 1000000) [ty110, ty3]; refine hK _ ?_; clear hK K
  (repeat refine ZQ ?_); refine ZC (fun hc => ?_) (fun hc => ?_)
  ·simp at hc
   have hwi : IntKind.i64.wrap ((i : Int) + 1) = ((i + 1 : Nat) : Int) := by rw [wrap_id (by omega) (by omega)]; rfl
   have hst := hAs i hc
   have hdl := hl _ (List.getElem_mem hc)
   rw [pF_at hdl] at hst
   generalize hacc : A i = acc at *
   refine awp_skip ?_
   (repeat refine ZQ ?_); refine awp_block ?_
   cases hb : X[i][d] == g
   ·rw [hb] at hst
    simp at hst
    (repeat refine ZQ ?_); refine ZR fun K hK => ?_; simp (maxSteps := 1000000) [ty110, ty29, ty3, hc, hdl, hb]; refine hK _ ?_; clear hK K
    (repeat refine ZQ ?_); refine ZC (hc := by simp [hb]; rfl) (fun hd => ?_) (fun hd => ?_)
    ·simp [hb] at hd
    ·clear hd
     refine awp_skip ?_
     (repeat refine ZQ ?_); refine ZR fun K hK => ?_; simp (maxSteps := 1000000) [ty3]; refine hK _ ?_; clear hK K; (first | show AWP _ _ _ _ _ | show ∃ _, _ | skip)
     refine ⟨i + 1, by omega, by omega, ?_⟩
     rw [hst, hwi]
     refine wk_shape (shp0 hσ (by simp) (by simp) ?_) ?_
     ·simp [SlotOk]
      exact .same (rowP_pure _)
     ·simp [mtc, mtl, mT, C.isPure, purel]
   ·rw [hb] at hst
    simp at hst
    (repeat refine ZQ ?_); refine ZR fun K hK => ?_; simp (maxSteps := 1000000) [ty110, ty29, ty3, hc, hdl, hb]; refine hK _ ?_; clear hK K
    (repeat refine ZQ ?_); refine ZC (hc := by simp [hb]; rfl) (fun hd => ?_) (fun hd => ?_)
    ·clear hd
     (repeat refine ZQ ?_); refine ZR fun K hK => ?_; simp (maxSteps := 1000000) [ty110, ty29, ty3, hc]
     refine ⟨by omega, ?_⟩
     refine hK _ ?_; clear hK K
     (repeat refine ZQ ?_); refine ZR fun K hK => ?_; simp (maxSteps := 1000000) [ty3]; refine hK _ ?_; clear hK K; (first | show AWP _ _ _ _ _ | show ∃ _, _ | skip)
     refine ⟨i + 1, by omega, by omega, ?_⟩
     rw [hst, hwi]
     refine wk_shape (T := [(7, 30, .live ⟨(acc ++ [X[i]]).isEmpty, false, 1, (acc ++ [X[i]]).map rowP⟩)]) (shp0 hσ (by simp) (by simp) ?_) ?_
     ·simp [SlotOk]
      exact .same (by
       have h1 := rowP_pure (acc ++ [X[i]])
       rw [List.map_append] at h1
       exact h1)
     ·simp [mtc, mtl, mT, C.isPure, purel]
    ·simp [hb] at hd
  ·simp at hc
   (repeat refine ZQ ?_); refine awp_exit ?_; (first | show AWP _ _ _ _ _ | show ∃ _, _ | skip)
   have hiN : i = X.length := by omega
   subst hiN
   generalize A X.length = T at *
   (repeat refine ZQ ?_); refine ZR fun K hK => ?_; simp (maxSteps := 1000000) [ty110]; refine hK _ ?_; clear hK K
   (repeat refine ZQ ?_); refine awp_ret ?_; refine And.intro (Or.inr rfl) ?_
   refine ⟨_, by simp [retC, resC]; rfl, ?_⟩
   refine (viewC_own (o := ⟨T.isEmpty, false, 1, T.map rowP⟩) (by simp) rfl (by simp) (rowP_pure _)).trans ?_
   simp

set_option maxHeartbeats 8000000

theorem q_on87 (w : Ws) (G : List (Int × List Int)) (nl fu : Bool) (X : List (List Int)) (d : Nat) (hg : 0 ≤ w.gain ∧ w.gain ≤ 50) (hX : X.length ≤ 1000000) (hl : ∀ l ∈ X, d < l.length) :
  Pure Tryz.prog 87 [encWs w, .sl nl fu (X.map rowP), encI d] (.sl (onR (co w G) X d).isEmpty false ((onR (co w G) X d).map cI)) := by
 have hwg : IntKind.i64.wrap (-w.gain) = -w.gain := wrap_id (by omega) (by omega)
 obtain ⟨N, hN⟩ : ∃ N : Nat, (w.gain - -w.gain + 1).toNat = N := ⟨_, rfl⟩
 have hN' : (N : Int) = w.gain - -w.gain + 1 := by omega
 obtain ⟨A, hA⟩ : ∃ A : Nat → List Int, ∀ i, ((seqN (-w.gain) i).filter fun n => X.any fun l => pF l d == n) = A i := ⟨_, fun _ => rfl⟩
 have hA0 : A 0 = [] := by rw [← hA]; rfl
 have hAN : onR (co w G) X d = A N := by
  rw [← hA]; unfold onR seqI
  rw [show ((co w G).gain - -(co w G).gain + 1).toNat = N by simp only; omega]
 have hAs : ∀ i : Nat, A (i + 1) = if (X.any fun l => pF l d == -w.gain + (i : Int)) = true then A i ++ [-w.gain + (i : Int)] else A i := fun i => by
  rw [← hA, ← hA, seqN_step, List.filter_append]
  cases hb : X.any fun l => pF l d == -w.gain + (i : Int) <;> simp [hb]
 have hAl : ∀ i, (A i).length ≤ i := fun i => by
  rw [← hA]
  refine Nat.le_trans (List.length_filter_le _ _) ?_
  rw [seqN_len]; omega
 rw [hAN]
 clear hA hAN
 have hpX := rowP_pure X
 refine ZF (fn := Tryz.f87) [.tmp 6] ⟨Tryz.func87, rfl, by kernel_rfl⟩ fun x hx hσ => ?_
 (repeat refine ZQ ?_); refine ZR fun K hK => ?_; simp (maxSteps := 1000000) [ty28, ty29]; refine hK _ ?_; clear hK K
 (repeat refine ZQ ?_); refine ZR fun K hK => ?_; simp (maxSteps := 1000000) [ty29]; refine hK _ ?_; clear hK K
 (repeat refine ZQ ?_); refine ZR fun K hK => ?_; simp (maxSteps := 1000000) [ty28, ty3, hwg]; refine hK _ ?_; clear hK K
 (repeat refine ZQ ?_); refine awp_block ?_
 refine AWP.weak ?_ (wk_nil 7 7 1 (fu := true) (by simp) (by simp))
 refine awp_loop (fun i : Nat => ⟨ofL [(1, .sl nl fu (X.map rowP)), (2, encI d), (3, .ptr 3 13 0 0), (7, .own 7 1 0 (A i).length), (8, encI (-w.gain + (i : Int)))], stoT [(3, 3, .live (obWs w)), (7, 7, .live ⟨(A i).isEmpty, false, 1, (A i).map cI⟩)]⟩)
  (fun i => i ≤ N) (fun i => N - i) 0 (Nat.zero_le _) ?_ ?_
 ·rw [hA0]
  exact ZW
 ·intro i hi
  have hli := hAl i
  (repeat refine ZQ ?_); refine ZR fun K hK => ?_; simp (maxSteps := 1000000) [ty28, ty3]; refine hK _ ?_; clear hK K
  (repeat refine ZQ ?_); refine ZC (fun hc => ?_) (fun hc => ?_)
  ·simp at hc
   have hiN : i < N := by omega
   have hwi : IntKind.i64.wrap (-w.gain + (i : Int) + 1) = -w.gain + ((i + 1 : Nat) : Int) := by rw [wrap_id (by omega) (by omega)]; omega
   have hst := hAs i
   obtain ⟨n, hn⟩ : ∃ n, -w.gain + (i : Int) = n := ⟨_, rfl⟩
   rw [hn] at hst hwi
   simp only [hn]
   generalize hacc : A i = acc at *
   refine awp_skip ?_
   (repeat refine ZQ ?_); refine awp_block ?_
   (repeat refine ZQ ?_); refine ZR fun K hK => ?_; simp (maxSteps := 1000000) [ty3]; refine hK _ ?_; clear hK K
   (repeat refine ZQ ?_); refine awp_block ?_
   refine awp_loop (fun k : Nat => ⟨ofL [(1, .sl nl fu (X.map rowP)), (2, encI d), (3, .ptr 3 13 0 0), (7, .own 7 1 0 acc.length), (8, encI n), (9, encI k)], stoT [(3, 3, .live (obWs w)), (7, 7, .live ⟨acc.isEmpty, false, 1, acc.map cI⟩)]⟩)
    (fun k => k ≤ X.length ∧ ∀ j, (h : j < X.length) → j < k → (pF X[j] d == n) = false) (fun k => X.length - k) 0 (by simp) ?_ ?_
   ·exact ZW
   ·intro k ⟨hk, hkm⟩
    (repeat refine ZQ ?_); refine ZR fun K hK => ?_; simp (maxSteps := 1000000) [ty110, ty3]; refine hK _ ?_; clear hK K
    (repeat refine ZQ ?_); refine ZC (fun hc2 => ?_) (fun hc2 => ?_)
    ·simp at hc2
     have hwk : IntKind.i64.wrap ((k : Int) + 1) = ((k + 1 : Nat) : Int) := by rw [wrap_id (by omega) (by omega)]; rfl
     have hdl := hl _ (List.getElem_mem hc2)
     have hpk := pF_at hdl
     refine awp_skip ?_
     (repeat refine ZQ ?_); refine awp_block ?_
     cases hb : X[k][d] == n
     ·(repeat refine ZQ ?_); refine ZR fun K hK => ?_; simp (maxSteps := 1000000) [ty110, ty29, ty3, hc2, hdl, hb]; refine hK _ ?_; clear hK K
      (repeat refine ZQ ?_); refine ZC (hc := by simp [hb]; rfl) (fun hd => ?_) (fun hd => ?_)
      ·simp [hb] at hd
      ·clear hd
       refine awp_skip ?_
       (repeat refine ZQ ?_); refine ZR fun K hK => ?_; simp (maxSteps := 1000000) [ty3]; refine hK _ ?_; clear hK K; (first | show AWP _ _ _ _ _ | show ∃ _, _ | skip)
       refine ⟨k + 1, ⟨by omega, fun j h1 h2 => ?_⟩, by omega, ?_⟩
       ·by_cases hjk : j = k
        ·subst hjk; rw [hpk]; exact hb
        ·exact hkm j h1 (by omega)
       ·rw [hwk]
        exact ZW
     ·have hany : (X.any fun l => pF l d == n) = true := List.any_eq_true.2 ⟨_, List.getElem_mem hc2, by rw [hpk]; exact hb⟩
      rw [if_pos hany] at hst
      (repeat refine ZQ ?_); refine ZR fun K hK => ?_; simp (maxSteps := 1000000) [ty110, ty29, ty3, hc2, hdl, hb]; refine hK _ ?_; clear hK K
      (repeat refine ZQ ?_); refine ZC (hc := by simp [hb]; rfl) (fun hd => ?_) (fun hd => ?_)
      ·clear hd
       (repeat refine ZQ ?_); refine ZR fun K hK => ?_; simp (maxSteps := 1000000) [ty29, ty3]
       refine ⟨by omega, ?_⟩
       refine hK _ ?_; clear hK K
       (repeat refine ZQ ?_); refine awp_exit ?_
       (repeat refine ZQ ?_); refine ZR fun K hK => ?_; simp (maxSteps := 1000000) [ty3]; refine hK _ ?_; clear hK K; (first | show AWP _ _ _ _ _ | show ∃ _, _ | skip)
       refine ⟨i + 1, by omega, by omega, ?_⟩
       rw [hwi]
       refine wk_shape (T := [(3, 3, .live (obWs w)), (7, 37, .live ⟨(A (i + 1)).isEmpty, false, 1, (A (i + 1)).map cI⟩)]) (shp0 hσ (by simp) (by simp) ?_) ?_
       ·simp [SlotOk, hst]
        exact ⟨.same (by simp [purel, C.isPure]), .same (by simp [purel, C.isPure])⟩
       ·simp [mtc, mtl, mT, C.isPure, purel, hst]
      ·simp [hb] at hd
    ·simp at hc2
     (repeat refine ZQ ?_); refine awp_exit ?_; (first | show AWP _ _ _ _ _ | show ∃ _, _ | skip)
     have hany : (X.any fun l => pF l d == n) = false := by
      rw [Bool.eq_false_iff]
      intro e
      obtain ⟨g, hg, h1⟩ := List.any_eq_true.1 e
      obtain ⟨m, hm, rfl⟩ := List.getElem_of_mem hg
      rw [hkm m hm (by omega)] at h1
      cases h1
     rw [if_neg (by rw [hany]; simp)] at hst
     (repeat refine ZQ ?_); refine ZR fun K hK => ?_; simp (maxSteps := 1000000) [ty3]; refine hK _ ?_; clear hK K; (first | show AWP _ _ _ _ _ | show ∃ _, _ | skip)
     refine ⟨i + 1, by omega, by omega, ?_⟩
     rw [hst, hwi]
     exact ZW
  ·simp at hc
   (repeat refine ZQ ?_); refine awp_exit ?_; (first | show AWP _ _ _ _ _ | show ∃ _, _ | skip)
   have hiN : i = N := by omega
   subst hiN
   generalize A i = T at *
   (repeat refine ZQ ?_); refine ZR fun K hK => ?_; simp (maxSteps := 1000000) [ty29]; refine hK _ ?_; clear hK K
   (repeat refine ZQ ?_); refine awp_ret ?_; refine And.intro (Or.inr rfl) ?_
   refine ⟨_, by simp [retC, resC]; rfl, ?_⟩
   refine (viewC_own (o := ⟨T.isEmpty, false, 1, T.map cI⟩) (by simp) rfl (by simp) (ints_pure _)).trans ?_
   simp

theorem onR_bd {c : Co} {X : List (List Int)} {d : Nat} {z : Int} (h : z ∈ onR c X d) : -c.gain ≤ z ∧ z ≤ c.gain := mem_seqI.1 (List.mem_filter.1 h).1
theorem onR_len (c : Co) (X : List (List Int)) (d : Nat) (hg : 0 ≤ c.gain ∧ c.gain ≤ 50) : (onR c X d).length ≤ 101 := by
 have h := List.length_filter_le (fun n => X.any fun l => pF l d == n) (seqI (-c.gain) c.gain)
 have h2 : (seqI (-c.gain) c.gain).length = (c.gain - -c.gain + 1).toNat := seqN_len _ _
 unfold onR
 omega
theorem onR_ne {c : Co} {X : List (List Int)} {d : Nat} (hX : X ≠ []) (hb : ∀ l ∈ X, -c.gain ≤ pF l d ∧ pF l d ≤ c.gain) : onR c X d ≠ [] := by
 obtain ⟨l, hl⟩ := List.exists_mem_of_ne_nil _ hX
 exact List.ne_nil_of_mem (List.mem_filter.2 ⟨mem_seqI.2 (hb l hl), List.any_eq_true.2 ⟨l, hl, by simp⟩⟩)

theorem q_doubt88 (w : Ws) (G : List (Int × List Int)) (nl fu : Bool) (X : List (List Int)) (hg : 0 ≤ w.gain ∧ w.gain ≤ 50) (hla : 1 ≤ w.last ∧ w.last ≤ 30) (hX : X.length ≤ 1000000) (hl : ∀ l ∈ X, l.length = w.last.toNat + 1) (hb : ∀ l ∈ X, ∀ d : Nat, d ≤ w.last.toNat → -w.gain ≤ pF l d ∧ pF l d ≤ w.gain) :
  Pure Tryz.prog 88 [encWs w, .sl nl fu (X.map rowP)] (encI (if X = [] then 0 else doubtR (co w G) X (w.last.toNat + 1))) := by
 have hpX := rowP_pure X
 have hbd : ∀ d : Nat, -100 * (d : Int) ≤ doubtR (co w G) X d ∧ doubtR (co w G) X d ≤ 100 * (d : Int) := by
  intro d
  induction d with
  | zero => simp [doubtR]
  | succ d ih =>
   have h1 : -100 ≤ spanL (onR (co w G) X d) ∧ spanL (onR (co w G) X d) ≤ 100 := by
    by_cases h0 : 0 < (onR (co w G) X d).length
    ·rw [← spanL_at h0]
     have h2 := onR_bd (List.getElem_mem (l := onR (co w G) X d) (n := (onR (co w G) X d).length - 1) (by omega))
     have h3 := onR_bd (List.getElem_mem (l := onR (co w G) X d) (n := 0) h0)
     simp only at h2 h3
     omega
    ·have : onR (co w G) X d = [] := List.eq_nil_of_length_eq_zero (by omega)
     rw [this]; simp [spanL]
   simp only [doubtR]
   omega
 by_cases hX0 : X = []
 ·subst hX0
  rw [if_pos rfl]
  have h0 : (0 : Int) ≤ w.last := by omega
  refine ZF (fn := Tryz.f88) [.tmp 4] ⟨Tryz.func88, rfl, by kernel_rfl⟩ fun x hx hσ => ?_
  (repeat refine ZQ ?_); refine ZR fun K hK => ?_; simp (maxSteps := 1000000) [ty28, ty3]; refine hK _ ?_; clear hK K
  (repeat refine ZQ ?_); refine ZR fun K hK => ?_; simp (maxSteps := 1000000) [ty3]; refine hK _ ?_; clear hK K
  (repeat refine ZQ ?_); refine ZR fun K hK => ?_; simp (maxSteps := 1000000) [ty3]; refine hK _ ?_; clear hK K
  (repeat refine ZQ ?_); refine awp_block ?_
  refine awp_loop (fun i : Nat => ⟨ofL [(1, .sl nl fu []), (2, .ptr 2 13 0 0), (5, encI 0), (6, encI 0)], stoT [(2, 2, .live (obWs w))]⟩)
   (fun i => i = 0) (fun i => 0) 0 rfl ?_ ?_
  ·exact Zw
  ·intro i hi
   (repeat refine ZQ ?_); refine ZR fun K hK => ?_; simp (maxSteps := 1000000) [ty28, ty3, ty4, ty110, h0]; refine hK _ ?_; clear hK K
   (repeat refine ZQ ?_); refine ZC (fun hd => ?_) (fun hd => ?_)
   ·simp at hd
   ·clear hd
    (repeat refine ZQ ?_); refine awp_exit ?_
    (repeat refine ZQ ?_); refine ZR fun K hK => ?_; simp (maxSteps := 1000000) [ty3]; refine hK _ ?_; clear hK K
    (repeat refine ZQ ?_); refine awp_ret ?_; refine And.intro (Or.inr rfl) ?_
    simp [retC, resC, viewC, mapO]
 ·rw [if_neg hX0]
  have hXl : (0 : Int) < X.length := by have := List.length_pos_iff.2 hX0; omega
  obtain ⟨N, hN⟩ : ∃ N : Nat, w.last.toNat + 1 = N := ⟨_, rfl⟩
  rw [hN]
  refine ZF (fn := Tryz.f88) [.tmp 4] ⟨Tryz.func88, rfl, by kernel_rfl⟩ fun x hx hσ => ?_
  (repeat refine ZQ ?_); refine ZR fun K hK => ?_; simp (maxSteps := 1000000) [ty28, ty3]; refine hK _ ?_; clear hK K
  (repeat refine ZQ ?_); refine ZR fun K hK => ?_; simp (maxSteps := 1000000) [ty3]; refine hK _ ?_; clear hK K
  (repeat refine ZQ ?_); refine ZR fun K hK => ?_; simp (maxSteps := 1000000) [ty3]; refine hK _ ?_; clear hK K
  (repeat refine ZQ ?_); refine awp_block ?_
  refine awp_loop (fun i : Nat => ⟨ofL [(1, .sl nl fu (X.map rowP)), (2, .ptr 2 13 0 0), (5, encI (doubtR (co w G) X i)), (6, encI i)], stoT [(2, 2, .live (obWs w))]⟩)
   (fun i => i ≤ N) (fun i => N - i) 0 (Nat.zero_le _) ?_ ?_
  ·simp only [doubtR]
   exact Zw
  ·intro i hi
   by_cases hil : (i : Int) ≤ w.last
   ·have hwi : IntKind.i64.wrap ((i : Int) + 1) = ((i + 1 : Nat) : Int) := by rw [wrap_id (by omega) (by omega)]; rfl
    have hb1 := hbd i
    have hb2 := hbd (i + 1)
    have hst : doubtR (co w G) X (i + 1) = doubtR (co w G) X i + spanL (onR (co w G) X i) := rfl
    have hnn : onR (co w G) X i ≠ [] := onR_ne hX0 fun l hl' => hb l hl' i (by omega)
    have hbb := fun z (hz : z ∈ onR (co w G) X i) => onR_bd hz
    have hcal := q_on87 w G nl fu X i hg hX fun l hl' => by have := hl l hl'; omega
    have hlen := onR_len (co w G) X i hg
    generalize onR (co w G) X i = L at *
    have h0 : 0 < L.length := List.length_pos_iff.2 hnn
    have hsp := spanL_at h0
    rw [← hsp] at hst
    have h2 := hbb _ (List.getElem_mem (show L.length - 1 < L.length by omega))
    have h3 := hbb _ (List.getElem_mem h0)
    simp only at h2 h3
    have hm1 : IntKind.i64.wrap ((L.length : Int) - 1) = ((L.length - 1 : Nat) : Int) := by rw [wrap_id (by omega) (by omega)]; omega
    have hlt : L.length - 1 < L.length := by omega
    have hws : IntKind.i64.wrap (L[L.length - 1] - L[0]) = L[L.length - 1] - L[0] := wrap_id (by omega) (by omega)
    have hwt : IntKind.i64.wrap (doubtR (co w G) X i + (L[L.length - 1] - L[0])) = doubtR (co w G) X (i + 1) := by rw [← hst]; exact wrap_id (by omega) (by omega)
    (repeat refine ZQ ?_); refine ZR fun K hK => ?_; simp (maxSteps := 1000000) [ty28, ty3, ty4, ty110, hil, hXl]; refine hK _ ?_; clear hK K
    (repeat refine ZQ ?_); refine ZC (hc := by simp [hXl, hX0]; rfl) (fun hd => ?_) (fun hd => ?_)
    ·clear hd
     refine awp_skip ?_
     (repeat refine ZQ ?_); refine awp_block ?_
     (repeat refine ZQ ?_); refine ZR fun K hK => ?_; simp (maxSteps := 1000000) [ty28, ty110, ty3]
     refine callP hcal (by simp [purel, C.isPure]) ?_
     simp
     refine hK _ ?_; clear hK K
     (repeat refine ZQ ?_); refine ZD [] [0, 1, 2, 3, 4, 5, 6, 7, 8, 9, 10, 11, 12] fun K hK => ?_; simp (maxSteps := 1000000) [ty29, ty3, hm1, h0, hlt, hws, hwt]; refine hK _ ?_; clear hK K
     (repeat refine ZQ ?_); refine ZR fun K hK => ?_; simp (maxSteps := 1000000) [ty3]; refine hK _ ?_; clear hK K; (first | show AWP _ _ _ _ _ | show ∃ _, _ | skip)
     refine ⟨i + 1, by omega, by omega, ?_⟩
     rw [hwi]
     exact Zw
    ·simp [hXl, hX0] at hd
   ·(repeat refine ZQ ?_); refine ZR fun K hK => ?_; simp (maxSteps := 1000000) [ty28, ty3, ty4, ty110, hil]; refine hK _ ?_; clear hK K
    (repeat refine ZQ ?_); refine ZC (hc := by simp [hil]; rfl) (fun hd => ?_) (fun hd => ?_)
    ·simp [hil] at hd
    ·clear hd
     (repeat refine ZQ ?_); refine awp_exit ?_; (first | show AWP _ _ _ _ _ | show ∃ _, _ | skip)
     have hiN : i = N := by omega
     rw [hiN]
     (repeat refine ZQ ?_); refine ZR fun K hK => ?_; simp (maxSteps := 1000000) [ty3]; refine hK _ ?_; clear hK K
     (repeat refine ZQ ?_); refine awp_ret ?_; refine And.intro (Or.inr rfl) ?_
     simp [retC, resC, viewC, mapO]

set_option maxHeartbeats 8000000

-- Left, Doubt and Due of the reference

theorem tlW_len {w : Ws} (hok : WsOk w) (hs : SmallW w) : (tlW w).length ≤ 117649 := by
 have hgn := hok.num.gain
 have hsl : (seqI (-(co w (gl w)).gain) (co w (gl w)).gain).length ≤ 7 := by
  have h1 : (seqI (-(co w (gl w)).gain) (co w (gl w)).gain).length = ((co w (gl w)).gain - -(co w (gl w)).gain + 1).toNat := seqN_len _ _
  have := hs.gain
  simp only at h1 ⊢; omega
 unfold tlW
 refine Nat.le_trans (List.length_filter_le _ _) ?_
 exact Nat.le_trans (allP_len hsl (by decide) _ _) (Nat.le_trans (Nat.pow_le_pow_right (by decide) (by have := hs.last; omega : (w.last + 1).toNat ≤ 6)) (by decide))

theorem tlW_bd {w : Ws} (hok : WsOk w) {l : List Int} (hl : l ∈ tlW w) {d : Nat} (hd : d ≤ w.last.toNat) : -w.gain ≤ pF l d ∧ pF l d ≤ w.gain := by
 obtain ⟨h1, h2⟩ := (mem_tlW hok).1 hl
 exact alC_bd (h2.1.1 d hd)

theorem known_ok {w : Ws} {is : Bool} (hn : WsLen w) (hsm : checkW w = 0 → SmallW w) (hz : openW w is = 0) : Pure Tryz.prog 84 [encWs w, .bool is] (.tup [.sl false false ((tlW w).map rowP), encI 0]) := by
 have h := q_known84 w is hn hsm
 have hk : knW w is = tlW w := if_pos hz
 have hok := (openW_ok hz).1
 have hne : (tlW w).isEmpty = false := by
  have hcan := (openW_ok hz).2.2
  cases h0 : tlW w with
  | nil => have := (tlW_nil hok).1 h0; rw [hcan] at this; cases this
  | cons a l => rfl
 rw [hk, hz, hne] at h
 exact h
theorem known_no {w : Ws} {is : Bool} (hn : WsLen w) (hsm : checkW w = 0 → SmallW w) (hz : openW w is ≠ 0) : Pure Tryz.prog 84 [encWs w, .bool is] (.tup [.sl true true [], encI (openW w is)]) := by
 have h := q_known84 w is hn hsm
 have hk : knW w is = [] := if_neg hz
 rw [hk] at h
 exact h

theorem q_with89n (nl fu : Bool) (d g : Int) : Pure Tryz.prog 89 [.sl nl fu [], encI d, encI g] (.sl true true []) := by
 refine ZF (fn := Tryz.f89) [.tmp 6] ⟨Tryz.func89, rfl, by kernel_rfl⟩ fun x hx hσ => ?_
 (repeat refine ZQ ?_); refine ZR fun K hK => ?_; simp (maxSteps := 1000000) [ty110]; refine hK _ ?_; clear hK K
 (repeat refine ZQ ?_); refine ZR fun K hK => ?_; simp (maxSteps := 1000000) [ty110]; refine hK _ ?_; clear hK K
 (repeat refine ZQ ?_); refine ZR fun K hK => ?_; simp (maxSteps := 1000000) [ty3]; refine hK _ ?_; clear hK K
 (repeat refine ZQ ?_); refine awp_block ?_
 refine awp_loop (fun i : Nat => ⟨ofL [(0, .sl nl fu []), (7, .sl true true []), (8, encI i)], stoT []⟩)
  (fun i => i = 0) (fun i => 0) 0 rfl ?_ ?_
 ·exact Zw
 ·intro i hi
  subst hi
  (repeat refine ZQ ?_); refine ZR fun K hK => ?_; simp (maxSteps := 1000000) [ty110, ty3]; refine hK _ ?_; clear hK K
  (repeat refine ZQ ?_); refine ZC (fun hd => ?_) (fun hd => ?_)
  ·simp at hd
  ·clear hd
   (repeat refine ZQ ?_); refine awp_exit ?_
   (repeat refine ZQ ?_); refine ZR fun K hK => ?_; simp (maxSteps := 1000000) [ty110]; refine hK _ ?_; clear hK K
   (repeat refine ZQ ?_); refine awp_ret ?_; refine And.intro (Or.inr rfl) ?_
   simp [retC, resC, viewC, mapO]

theorem q_doubt88n (w : Ws) (nl fu : Bool) : Pure Tryz.prog 88 [encWs w, .sl nl fu []] (encI 0) := by
 by_cases h0 : (0 : Int) ≤ w.last
 ·refine ZF (fn := Tryz.f88) [.tmp 4] ⟨Tryz.func88, rfl, by kernel_rfl⟩ fun x hx hσ => ?_
  (repeat refine ZQ ?_); refine ZR fun K hK => ?_; simp (maxSteps := 1000000) [ty28, ty3]; refine hK _ ?_; clear hK K
  (repeat refine ZQ ?_); refine ZR fun K hK => ?_; simp (maxSteps := 1000000) [ty3]; refine hK _ ?_; clear hK K
  (repeat refine ZQ ?_); refine ZR fun K hK => ?_; simp (maxSteps := 1000000) [ty3]; refine hK _ ?_; clear hK K
  (repeat refine ZQ ?_); refine awp_block ?_
  refine awp_loop (fun i : Nat => ⟨ofL [(1, .sl nl fu []), (2, .ptr 2 13 0 0), (5, encI 0), (6, encI 0)], stoT [(2, 2, .live (obWs w))]⟩)
   (fun i => i = 0) (fun i => 0) 0 rfl ?_ ?_
  ·exact Zw
  ·intro i hi
   (repeat refine ZQ ?_); refine ZR fun K hK => ?_; simp (maxSteps := 1000000) [ty28, ty3, ty4, ty110, h0]; refine hK _ ?_; clear hK K
   (repeat refine ZQ ?_); refine ZC (fun hd => ?_) (fun hd => ?_)
   ·simp at hd
   ·clear hd
    (repeat refine ZQ ?_); refine awp_exit ?_
    (repeat refine ZQ ?_); refine ZR fun K hK => ?_; simp (maxSteps := 1000000) [ty3]; refine hK _ ?_; clear hK K
    (repeat refine ZQ ?_); refine awp_ret ?_; refine And.intro (Or.inr rfl) ?_
    simp [retC, resC, viewC, mapO]
 ·refine ZF (fn := Tryz.f88) [.tmp 4] ⟨Tryz.func88, rfl, by kernel_rfl⟩ fun x hx hσ => ?_
  (repeat refine ZQ ?_); refine ZR fun K hK => ?_; simp (maxSteps := 1000000) [ty28, ty3]; refine hK _ ?_; clear hK K
  (repeat refine ZQ ?_); refine ZR fun K hK => ?_; simp (maxSteps := 1000000) [ty3]; refine hK _ ?_; clear hK K
  (repeat refine ZQ ?_); refine ZR fun K hK => ?_; simp (maxSteps := 1000000) [ty3]; refine hK _ ?_; clear hK K
  (repeat refine ZQ ?_); refine awp_block ?_
  refine awp_loop (fun i : Nat => ⟨ofL [(1, .sl nl fu []), (2, .ptr 2 13 0 0), (5, encI 0), (6, encI 0)], stoT [(2, 2, .live (obWs w))]⟩)
   (fun i => i = 0) (fun i => 0) 0 rfl ?_ ?_
  ·exact Zw
  ·intro i hi
   (repeat refine ZQ ?_); refine ZR fun K hK => ?_; simp (maxSteps := 1000000) [ty28, ty3, ty4, ty110, h0]; refine hK _ ?_; clear hK K
   (repeat refine ZQ ?_); refine ZC (hc := by simp [h0]; rfl) (fun hd => ?_) (fun hd => ?_)
   ·simp [h0] at hd
   ·clear hd
    (repeat refine ZQ ?_); refine awp_exit ?_
    (repeat refine ZQ ?_); refine ZR fun K hK => ?_; simp (maxSteps := 1000000) [ty3]; refine hK _ ?_; clear hK K
    (repeat refine ZQ ?_); refine awp_ret ?_; refine And.intro (Or.inr rfl) ?_
    simp [retC, resC, viewC, mapO]

theorem doubt_with {w : Ws} (hok : WsOk w) {a : Nat} (ha : a ≤ w.last.toNat) (g : Int) : doubtR (co w (gl w)) (withL (tlW w) a g) (w.last.toNat + 1) = doubtC (co w (gl w)) [((a : Int), g)] := by
 have hl := hok.last
 unfold doubtC
 rw [show ((co w (gl w)).last + 1).toNat = w.last.toNat + 1 by simp only; omega]
 exact doubtR_eq _ fun d hd => onR_with hok ha (by omega) g
theorem doubt_all {w : Ws} (hok : WsOk w) : doubtR (co w (gl w)) (tlW w) (w.last.toNat + 1) = doubtC (co w (gl w)) [] := by
 have hl := hok.last
 unfold doubtC
 rw [show ((co w (gl w)).last + 1).toNat = w.last.toNat + 1 by simp only; omega]
 exact doubtR_eq _ fun d hd => onR_tl hok (by omega)

theorem q_doubt41 (w : Ws) (hn : WsLen w) (hsm : checkW w = 0 → SmallW w) : Pure Tryz.prog 41 [encWs w] (.tup [encI (doubtW w), encI (openW w true)]) := by
 by_cases hz : openW w true = 0
 ·obtain ⟨hok, _, hcan⟩ := openW_ok hz
  have hkn := known_ok hn hsm hz
  have hs := hsm (checkW_ok.2 hok)
  have hlen := tlW_len hok hs
  have hd := q_doubt88 w (gl w) false false (tlW w) hok.num.gain hok.last (by omega) (fun l hl => ((mem_tlW hok).1 hl).1) fun l hl d hd => tlW_bd hok hl hd
  have hne : tlW w ≠ [] := fun e => by have := (tlW_nil hok).1 e; rw [hcan] at this; cases this
  rw [if_neg hne, doubt_all hok] at hd
  have hT : doubtW w = doubtC (co w (gl w)) [] := if_pos hz
  have hpp := rowP_pure (tlW w)
  rw [hT, hz]
  generalize (tlW w).map rowP = L at *
  refine ZF (fn := Tryz.f41) [.tmp 2, .tmp 3] ⟨Tryz.func41, rfl, by kernel_rfl⟩ fun x hx hσ => ?_
  (repeat refine ZQ ?_); refine ZR fun K hK => ?_; simp (maxSteps := 1000000) [ty28, ty37, ty3]; refine hK _ ?_; clear hK K
  (repeat refine ZQ ?_); refine ZR fun K hK => ?_; simp (maxSteps := 1000000) [ty28]
  refine ZP (hkn) ?_; simp (maxSteps := 1000000) [ty110]
  refine hK _ ?_; clear hK K
  (repeat refine ZQ ?_); refine ZR fun K hK => ?_; simp (maxSteps := 1000000) [ty28, ty110]
  refine callP hd (by simp [purel, C.isPure]) ?_
  simp [ty37, ty3]
  refine hK _ ?_; clear hK K
  (repeat refine ZQ ?_); refine awp_ret ?_; refine And.intro (Or.inr rfl) ?_
  simp [retC, resC, viewC, mapO]
 ·have hkn := known_no hn hsm hz
  have hT : doubtW w = 0 := if_neg hz
  rw [hT]
  have hd := q_doubt88n w true true
  refine ZF (fn := Tryz.f41) [.tmp 2, .tmp 3] ⟨Tryz.func41, rfl, by kernel_rfl⟩ fun x hx hσ => ?_
  (repeat refine ZQ ?_); refine ZR fun K hK => ?_; simp (maxSteps := 1000000) [ty28, ty37, ty3]; refine hK _ ?_; clear hK K
  (repeat refine ZQ ?_); refine ZR fun K hK => ?_; simp (maxSteps := 1000000) [ty28]
  refine ZP (hkn) ?_; simp (maxSteps := 1000000) [ty110]
  refine hK _ ?_; clear hK K
  (repeat refine ZQ ?_); refine ZR fun K hK => ?_; simp (maxSteps := 1000000) [ty28, ty110]
  refine ZP (hd) ?_; simp (maxSteps := 1000000) [ty37, ty3]
  refine hK _ ?_; clear hK K
  (repeat refine ZQ ?_); refine awp_ret ?_; refine And.intro (Or.inr rfl) ?_
  simp [retC, resC, viewC, mapO]

def leftB (w : Ws) (d g : Int) : Bool := (openW w (dayB w d) == 0) && decide (g ∈ onC (co w (gl w)) d [])
def leftV (w : Ws) (d g : Int) : Int := if leftB w d g = true then doubtC (co w (gl w)) [(d, g)] else 0

theorem q_left44 (w : Ws) (d g : Int) (hn : WsLen w) (hsm : checkW w = 0 → SmallW w) : Pure Tryz.prog 44 [encWs w, encI d, encI g] (.tup [encI (leftV w d g), .bool (leftB w d g)]) := by
 by_cases hz : openW w (dayB w d) = 0
 ·obtain ⟨hok, his, hcan⟩ := openW_ok hz
  have hkn := known_ok hn hsm hz
  have hs := hsm (checkW_ok.2 hok)
  have hlen := tlW_len hok hs
  have hla := hok.last
  obtain ⟨a, ha⟩ : ∃ a : Nat, d = a := ⟨d.toNat, by simp [dayB] at his; omega⟩
  have hal : a ≤ w.last.toNat := by simp [dayB] at his; omega
  have hwt := q_with89 false false (tlW w) a g (by omega) fun l hl => by have := ((mem_tlW hok).1 hl).1; omega
  have hpp := rowP_pure (tlW w)
  rw [← ha] at hwt
  have hwl : (withL (tlW w) a g).length ≤ 117649 := Nat.le_trans (List.length_filter_le _ _) hlen
  have hdb := q_doubt88 w (gl w) (withL (tlW w) a g).isEmpty false (withL (tlW w) a g) hok.num.gain hok.last (by omega) (fun l hl => ((mem_tlW hok).1 (List.mem_filter.1 hl).1).1) fun l hl d hd => tlW_bd hok (List.mem_filter.1 hl).1 hd
  have hwn := withL_nil hok hal (g := g)
  have hB : leftB w d g = decide (g ∈ onC (co w (gl w)) d []) := by unfold leftB; rw [hz]; rfl
  have hpw := rowP_pure (withL (tlW w) a g)
  by_cases hm : g ∈ onC (co w (gl w)) (a : Nat) []
  ·have hne := hwn.2 hm
   rw [if_neg hne, doubt_with hok hal] at hdb
   have hB1 : leftB w d g = true := by rw [hB, ha]; simpa using hm
   have hV : leftV w d g = doubtC (co w (gl w)) [((a : Int), g)] := by unfold leftV; rw [if_pos hB1, ha]
   rw [hB1, hV]
   have hpos : 0 < (withL (tlW w) a g).length := List.length_pos_iff.2 hne
   generalize withL (tlW w) a g = Z at *
   generalize (tlW w).map rowP = L at *
   have hzl : (0 : Int) < Z.length := by omega
   refine ZF (fn := Tryz.f44) [.tmp 6, .tmp 7] ⟨Tryz.func44, rfl, by kernel_rfl⟩ fun x hx hσ => ?_
   (repeat refine ZQ ?_); refine ZR fun K hK => ?_; simp (maxSteps := 1000000) [ty28, ty4, ty3]; refine hK _ ?_; clear hK K
   (repeat refine ZQ ?_); refine ZD [] [0, 1, 2, 3, 4, 5, 6, 7, 8, 9] fun K hK => ?_; simp (maxSteps := 1000000) [ty28, ty3]
   refine ZE (q_isDay86 w d) ?_; simp (maxSteps := 1000000) [ty28]
   refine ZE (hkn) ?_; simp (maxSteps := 1000000) [ty110]
   refine hK _ ?_; clear hK K
   (repeat refine ZQ ?_); refine ZR fun K hK => ?_; simp (maxSteps := 1000000) [ty110, ty3]
   refine callP hwt (by simp [purel, C.isPure]) ?_
   simp [ty110]
   refine hK _ ?_; clear hK K
   (repeat refine ZQ ?_); refine ZR fun K hK => ?_; simp (maxSteps := 1000000) [ty28, ty110]
   refine callP hdb (by simp [purel, C.isPure]) ?_
   simp [ty3, ty4, ty110, hzl, hne]
   refine hK _ ?_; clear hK K
   (repeat refine ZQ ?_); refine awp_ret ?_; refine And.intro (Or.inr rfl) ?_
   simp [retC, resC, viewC, mapO, hne]
   exact hpos
  ·have he : withL (tlW w) a g = [] := Classical.byContradiction fun h => hm (hwn.1 h)
   have hB1 : leftB w d g = false := by rw [hB, ha]; simpa using hm
   have hV : leftV w d g = 0 := by unfold leftV; rw [if_neg (by rw [hB1]; simp)]
   rw [hB1, hV]
   rw [he] at hwt
   have hdn := q_doubt88n w true false
   generalize (tlW w).map rowP = L at *
   refine ZF (fn := Tryz.f44) [.tmp 6, .tmp 7] ⟨Tryz.func44, rfl, by kernel_rfl⟩ fun x hx hσ => ?_
   (repeat refine ZQ ?_); refine ZR fun K hK => ?_; simp (maxSteps := 1000000) [ty28, ty4, ty3]; refine hK _ ?_; clear hK K
   (repeat refine ZQ ?_); refine ZD [] [0, 1, 2, 3, 4, 5, 6, 7, 8, 9] fun K hK => ?_; simp (maxSteps := 1000000) [ty28, ty3]
   refine ZE (q_isDay86 w d) ?_; simp (maxSteps := 1000000) [ty28]
   refine ZE (hkn) ?_; simp (maxSteps := 1000000) [ty110]
   refine hK _ ?_; clear hK K
   (repeat refine ZQ ?_); refine ZR fun K hK => ?_; simp (maxSteps := 1000000) [ty110, ty3]
   refine callP hwt (by simp [purel, C.isPure]) ?_
   simp [ty110]
   refine hK _ ?_; clear hK K
   (repeat refine ZQ ?_); refine ZR fun K hK => ?_; simp (maxSteps := 1000000) [ty28, ty110]
   refine ZP (hdn) ?_; simp (maxSteps := 1000000) [ty3, ty4, ty110]
   refine hK _ ?_; clear hK K
   (repeat refine ZQ ?_); refine awp_ret ?_; refine And.intro (Or.inr rfl) ?_
   simp [retC, resC, viewC, mapO]
 ·have hkn := known_no hn hsm hz
  have hB1 : leftB w d g = false := by unfold leftB; rw [show (openW w (dayB w d) == 0) = false by simpa using hz]; rfl
  have hV : leftV w d g = 0 := by unfold leftV; rw [if_neg (by rw [hB1]; simp)]
  rw [hB1, hV]
  refine ZF (fn := Tryz.f44) [.tmp 6, .tmp 7] ⟨Tryz.func44, rfl, by kernel_rfl⟩ fun x hx hσ => ?_
  (repeat refine ZQ ?_); refine ZR fun K hK => ?_; simp (maxSteps := 1000000) [ty28, ty4, ty3]; refine hK _ ?_; clear hK K
  (repeat refine ZQ ?_); refine ZD [] [0, 1, 2, 3, 4, 5, 6, 7, 8, 9] fun K hK => ?_; simp (maxSteps := 1000000) [ty28, ty3]
  refine ZE (q_isDay86 w d) ?_; simp (maxSteps := 1000000) [ty28]
  refine ZE (hkn) ?_; simp (maxSteps := 1000000) [ty110]
  refine hK _ ?_; clear hK K
  (repeat refine ZQ ?_); refine ZR fun K hK => ?_; simp (maxSteps := 1000000) [ty110, ty3]
  refine ZP (q_with89n true true d g) ?_; simp (maxSteps := 1000000) [ty110]
  refine hK _ ?_; clear hK K
  (repeat refine ZQ ?_); refine ZR fun K hK => ?_; simp (maxSteps := 1000000) [ty28, ty110]
  refine ZP (q_doubt88n w true true) ?_; simp (maxSteps := 1000000) [ty3, ty4, ty110]
  refine hK _ ?_; clear hK K
  (repeat refine ZQ ?_); refine awp_ret ?_; refine And.intro (Or.inr rfl) ?_
  simp [retC, resC, viewC, mapO]

set_option maxHeartbeats 8000000
set_option maxRecDepth 20000

-- Next of the reference

theorem q_next43 (w : Ws) (hn : WsLen w) (hsm : checkW w = 0 → SmallW w) : Pure Tryz.prog 43 [encWs w] (.tup [encI (nextV w), encI (nextE w)]) := by
 by_cases hz : openW w true = 0
 ·obtain ⟨hok, his, hcan⟩ := openW_ok hz
  have hkn := known_ok (is := true) hn hsm hz
  have hs := hsm (checkW_ok.2 hok)
  have hlen := tlW_len hok hs
  have hla := hok.last
  have hnum := hok.num
  obtain ⟨c, hc⟩ : ∃ c, co w (gl w) = c := ⟨_, rfl⟩
  have hcl : c.last = w.last := by rw [← hc]
  obtain ⟨N, hN⟩ : ∃ N : Nat, (w.last + 1).toNat = N := ⟨_, rfl⟩
  have hN' : (N : Int) = w.last + 1 := by omega
  have hE : nextE w = if nextC c < 0 then 3 else 0 := by unfold nextE; rw [if_neg (by simpa using hz), hc]
  have hV : nextV w = if 0 ≤ nextC c then nextC c else 0 := by
   unfold nextV; rw [hc]; simp only [hz, true_and]
  have hC : nextC c = (nextTo c N).1 := by unfold nextC; rw [hcl, hN]
  have hlT : ∀ d : Nat, d ≤ w.last.toNat → ∀ l ∈ tlW w, d < l.length := fun d hd l hl => by have := ((mem_tlW hok).1 hl).1; omega
  have hon : ∀ d : Nat, d ≤ w.last.toNat → Pure Tryz.prog 87 [encWs w, .sl false false ((tlW w).map rowP), encI d] (.sl (onC c (d : Nat) []).isEmpty false ((onC c (d : Nat) []).map cI)) := fun d hd => by
   have h := q_on87 w (gl w) false false (tlW w) d hnum.gain (by omega) (hlT d hd)
   rw [onR_tl hok hd, hc] at h
   exact h
  have hwt := fun (d : Nat) (hd : d ≤ w.last.toNat) g => q_with89 false false (tlW w) d g (by omega) (hlT d hd)
  have hdb : ∀ (d : Nat) (g : Int), d ≤ w.last.toNat → g ∈ onC c (d : Nat) [] → Pure Tryz.prog 88 [encWs w, .sl (withL (tlW w) d g).isEmpty false ((withL (tlW w) d g).map rowP)] (encI (doubtC c [((d : Int), g)])) := fun d g hd hg => by
   have hwl : (withL (tlW w) d g).length ≤ 117649 := Nat.le_trans (List.length_filter_le _ _) hlen
   have h := q_doubt88 w (gl w) (withL (tlW w) d g).isEmpty false (withL (tlW w) d g) hok.num.gain hok.last (by omega) (fun l hl => ((mem_tlW hok).1 (List.mem_filter.1 hl).1).1) fun l hl d hd => tlW_bd hok (List.mem_filter.1 hl).1 hd
   have hne : withL (tlW w) d g ≠ [] := (withL_nil hok hd).2 (by rw [hc]; exact hg)
   rw [if_neg hne, doubt_with hok hd, hc] at h
   exact h
  have hlon := fun d : Nat => onC_len c (d : Nat) [] (by rw [← hc]; exact hnum.gain)
  have hpp := rowP_pure (tlW w)
  rw [hE, hV, hC]
  clear hE hV hC
  generalize tlW w = T at *
  refine ZF (fn := Tryz.f43) [.tmp 2, .tmp 3] ⟨Tryz.func43, rfl, by kernel_rfl⟩ fun x hx hσ => ?_
  (repeat refine ZQ ?_); refine ZR fun K hK => ?_; simp (maxSteps := 1000000) [ty28, ty3, ty37]; refine hK _ ?_; clear hK K
  (repeat refine ZQ ?_); refine ZR fun K hK => ?_; simp (maxSteps := 1000000) [ty28, ty4]
  refine ZP (hkn) ?_; simp (maxSteps := 1000000) [ty110]
  refine hK _ ?_; clear hK K
  (repeat refine ZQ ?_); refine ZR fun K hK => ?_; simp (maxSteps := 1000000) [ty37]; refine hK _ ?_; clear hK K
  (repeat refine ZQ ?_); refine ZC (fun hd => ?_) (fun hd => ?_)
  ·simp at hd
  ·clear hd
   refine awp_skip ?_
   (repeat refine ZQ ?_); refine ZR fun K hK => ?_; simp (maxSteps := 1000000) [ty3]; refine hK _ ?_; clear hK K
   (repeat refine ZQ ?_); refine ZR fun K hK => ?_; simp (maxSteps := 1000000) [ty3]; refine hK _ ?_; clear hK K
   (repeat refine ZQ ?_); refine awp_block ?_
   refine awp_loop (fun i : Nat => ⟨ofL [(1, .ptr 1 13 0 0), (4, .sl false false (T.map rowP)), (6, encI (nextTo c i).1), (7, encI (nextTo c i).2), (8, encI i)], stoT [(1, 1, .live (obWs w))]⟩)
    (fun i => i ≤ N) (fun i => N - i) 0 (Nat.zero_le _) ?_ ?_
   ·simp only [nextTo]
    exact ZW
   ·intro i hi
    by_cases hiN : (i : Int) ≤ w.last
    ·(repeat refine ZQ ?_); refine ZR fun K hK => ?_; simp (maxSteps := 1000000) [ty28, ty3, hiN]; refine hK _ ?_; clear hK K
     (repeat refine ZQ ?_); refine ZC (hc := by simp [hiN]; rfl) (fun hc1 => ?_) (fun hc1 => ?_)
     ·clear hc1
      have hwi : IntKind.i64.wrap ((i : Int) + 1) = ((i + 1 : Nat) : Int) := by rw [wrap_id (by omega) (by omega)]; rfl
      have hst : nextTo c (i + 1) = if (onC c (i : Nat) []).length < 2 then nextTo c i else if (nextTo c i).1 < 0 ∨ worstC c (i : Nat) < (nextTo c i).2 then ((i : Nat), worstC c (i : Nat)) else nextTo c i := rfl
      have hco := hon i (by omega)
      have hw1 := hwt i (by omega)
      have hd1 := fun g hg => hdb i g (by omega) hg
      have hln := hlon i
      have hwc : worstC c (i : Nat) = mxD c (i : Nat) (onC c (i : Nat) []) := rfl
      rw [hwc] at hst
      generalize onC c (i : Nat) [] = L at *
      refine awp_skip ?_
      (repeat refine ZQ ?_); refine awp_block ?_
      (repeat refine ZQ ?_); refine ZR fun K hK => ?_; simp (maxSteps := 1000000) [ty28, ty110, ty3]
      refine callP hco (by simp [purel, C.isPure]) ?_
      simp [ty29]
      refine hK _ ?_; clear hK K; (first | show AWP _ _ _ _ _ | show ∃ _, _ | skip)
      by_cases h2 : L.length < 2
      ·rw [if_pos h2] at hst
       have h2' : (L.length : Int) < 2 := by omega
       (repeat refine ZQ ?_); refine ZR fun K hK => ?_; simp (maxSteps := 1000000) [ty29, ty3, h2']; refine hK _ ?_; clear hK K
       (repeat refine ZQ ?_); refine ZC (hc := by simp [h2']; rfl) (fun hd => ?_) (fun hd => ?_)
       ·clear hd
        (repeat refine ZQ ?_); refine awp_exit ?_
        (repeat refine ZQ ?_); refine ZR fun K hK => ?_; simp (maxSteps := 1000000) [ty3]; refine hK _ ?_; clear hK K; (first | show AWP _ _ _ _ _ | show ∃ _, _ | skip)
        refine ⟨i + 1, by omega, by omega, ?_⟩
        rw [hst, hwi]
        exact ZW
       ·simp [h2'] at hd
      ·rw [if_neg h2] at hst
       have h2' : ¬ (L.length : Int) < 2 := by omega
       (repeat refine ZQ ?_); refine ZR fun K hK => ?_; simp (maxSteps := 1000000) [ty29, ty3, h2']; refine hK _ ?_; clear hK K
       (repeat refine ZQ ?_); refine ZC (hc := by simp [h2']; rfl) (fun hd => ?_) (fun hd => ?_)
       ·simp [h2'] at hd
       ·clear hd
        refine awp_skip ?_
        (repeat refine ZQ ?_); refine ZR fun K hK => ?_; simp (maxSteps := 1000000) [ty3]; refine hK _ ?_; clear hK K
        (repeat refine ZQ ?_); refine ZR fun K hK => ?_; simp (maxSteps := 1000000) [ty3]; refine hK _ ?_; clear hK K
        (repeat refine ZQ ?_); refine awp_block ?_
        have hms := fun k (hk : k < L.length) => mxD_step c (i : Nat) hk
        have hm0 : mxD c (i : Nat) (L.take 0) = 0 := rfl
        have hmN : mxD c (i : Nat) (L.take L.length) = mxD c (i : Nat) L := by rw [List.take_length]
        refine awp_loop (fun k : Nat => ⟨ofL [(1, .ptr 1 13 0 0), (4, .sl false false (T.map rowP)), (6, encI (nextTo c i).1), (7, encI (nextTo c i).2), (8, encI i), (9, .sl L.isEmpty false (L.map cI)), (10, encI (mxD c (i : Nat) (L.take k))), (11, encI k)], stoT [(1, 1, .live (obWs w))]⟩)
         (fun k => k ≤ L.length) (fun k => L.length - k) 0 (Nat.zero_le _) ?_ ?_
        ·rw [hm0]
         exact ZW
        ·intro k hk
         (repeat refine ZQ ?_); refine ZR fun K hK => ?_; simp (maxSteps := 1000000) [ty29, ty3]; refine hK _ ?_; clear hK K
         (repeat refine ZQ ?_); refine ZC (fun hc2 => ?_) (fun hc2 => ?_)
         ·simp at hc2
          have hsk := hms k hc2
          have hd2 := hd1 L[k] (List.getElem_mem hc2)
          have hw2 := hw1 L[k]
          have hwk : IntKind.i64.wrap ((k : Int) + 1) = ((k + 1 : Nat) : Int) := by rw [wrap_id (by omega) (by omega)]; rfl
          have hpw := rowP_pure (withL T i L[k])
          generalize withL T i L[k] = Z at *
          refine awp_skip ?_
          (repeat refine ZQ ?_); refine awp_block ?_
          by_cases hlt : mxD c (i : Nat) (L.take k) < doubtC c [((i : Int), L[k])]
          ·rw [if_pos hlt] at hsk
           generalize mxD c (i : Nat) (L.take k) = m at *
           generalize doubtC c [((i : Int), L[k])] = dd at *
           (repeat refine ZQ ?_); refine ZD [] [0, 1, 2, 3, 4, 5, 6, 7, 8, 9, 10, 11] fun K hK => ?_; simp (maxSteps := 1000000) [ty28, ty29, ty110, ty3, hc2]
           refine callPD hw2 (by simp [purel, C.isPure]) (by simp) ?_
           simp [ty110]
           refine callPD hd2 (by simp [purel, C.isPure]) (by simp) ?_
           simp [ty3, hlt]
           refine hK _ ?_; clear hK K
           (repeat refine ZQ ?_); refine ZR fun K hK => ?_; simp (maxSteps := 1000000) [ty3]; refine hK _ ?_; clear hK K; (first | show AWP _ _ _ _ _ | show ∃ _, _ | skip)
           refine ⟨k + 1, by omega, by omega, ?_⟩
           rw [hsk, hwk]
           exact ZW
          ·rw [if_neg hlt] at hsk
           generalize mxD c (i : Nat) (L.take k) = m at *
           generalize doubtC c [((i : Int), L[k])] = dd at *
           (repeat refine ZQ ?_); refine ZD [] [0, 1, 2, 3, 4, 5, 6, 7, 8, 9, 10, 11] fun K hK => ?_; simp (maxSteps := 1000000) [ty28, ty29, ty110, ty3, hc2]
           refine callPD hw2 (by simp [purel, C.isPure]) (by simp) ?_
           simp [ty110]
           refine callPD hd2 (by simp [purel, C.isPure]) (by simp) ?_
           simp [ty3, hlt]
           refine hK _ ?_; clear hK K
           (repeat refine ZQ ?_); refine ZR fun K hK => ?_; simp (maxSteps := 1000000) [ty3]; refine hK _ ?_; clear hK K; (first | show AWP _ _ _ _ _ | show ∃ _, _ | skip)
           refine ⟨k + 1, by omega, by omega, ?_⟩
           rw [hsk, hwk]
           exact ZW
         ·simp at hc2
          (repeat refine ZQ ?_); refine awp_exit ?_; (first | show AWP _ _ _ _ _ | show ∃ _, _ | skip)
          have hkL : k = L.length := by omega
          rw [hkL, hmN]
          generalize mxD c (i : Nat) L = m at *
          by_cases h3 : (nextTo c i).1 < 0
          ·rw [if_pos (.inl h3)] at hst
           (repeat refine ZQ ?_); refine ZR fun K hK => ?_; simp (maxSteps := 1000000) [ty3, h3]; refine hK _ ?_; clear hK K
           (repeat refine ZQ ?_); refine ZC (fun hd => ?_) (fun hd => ?_)
           ·clear hd
            (repeat refine ZQ ?_); refine ZR fun K hK => ?_; simp (maxSteps := 1000000) [ty3]; refine hK _ ?_; clear hK K
            (repeat refine ZQ ?_); refine ZR fun K hK => ?_; simp (maxSteps := 1000000) [ty3]; refine hK _ ?_; clear hK K; (first | show AWP _ _ _ _ _ | show ∃ _, _ | skip)
            refine ⟨i + 1, by omega, by omega, ?_⟩
            rw [hst, hwi]
            exact ZW
           ·simp at hd
          ·by_cases h4 : m < (nextTo c i).2
           ·rw [if_pos (.inr h4)] at hst
            (repeat refine ZQ ?_); refine ZR fun K hK => ?_; simp (maxSteps := 1000000) [ty3, h3, h4]; refine hK _ ?_; clear hK K
            (repeat refine ZQ ?_); refine ZC (hc := by simp [h4]; rfl) (fun hd => ?_) (fun hd => ?_)
            ·clear hd
             (repeat refine ZQ ?_); refine ZR fun K hK => ?_; simp (maxSteps := 1000000) [ty3]; refine hK _ ?_; clear hK K
             (repeat refine ZQ ?_); refine ZR fun K hK => ?_; simp (maxSteps := 1000000) [ty3]; refine hK _ ?_; clear hK K; (first | show AWP _ _ _ _ _ | show ∃ _, _ | skip)
             refine ⟨i + 1, by omega, by omega, ?_⟩
             rw [hst, hwi]
             exact ZW
            ·simp [h4] at hd
           ·rw [if_neg (by rintro (h | h) <;> contradiction)] at hst
            (repeat refine ZQ ?_); refine ZR fun K hK => ?_; simp (maxSteps := 1000000) [ty3, h3, h4]; refine hK _ ?_; clear hK K
            (repeat refine ZQ ?_); refine ZC (hc := by simp [h4]; rfl) (fun hd => ?_) (fun hd => ?_)
            ·simp [h4] at hd
            ·clear hd
             refine awp_skip ?_
             (repeat refine ZQ ?_); refine ZR fun K hK => ?_; simp (maxSteps := 1000000) [ty3]; refine hK _ ?_; clear hK K; (first | show AWP _ _ _ _ _ | show ∃ _, _ | skip)
             refine ⟨i + 1, by omega, by omega, ?_⟩
             rw [hst, hwi]
             exact ZW
     ·simp [hiN] at hc1
    ·(repeat refine ZQ ?_); refine ZR fun K hK => ?_; simp (maxSteps := 1000000) [ty28, ty3, hiN]; refine hK _ ?_; clear hK K
     (repeat refine ZQ ?_); refine ZC (hc := by simp [hiN]; rfl) (fun hc1 => ?_) (fun hc1 => ?_)
     ·simp [hiN] at hc1
     ·clear hc1
      (repeat refine ZQ ?_); refine awp_exit ?_; (first | show AWP _ _ _ _ _ | show ∃ _, _ | skip)
      have hiN : i = N := by omega
      rw [hiN]
      by_cases h3 : (nextTo c N).1 < 0
      ·have h3' : ¬ 0 ≤ (nextTo c N).1 := by omega
       (repeat refine ZQ ?_); refine ZR fun K hK => ?_; simp (maxSteps := 1000000) [ty3, h3]; refine hK _ ?_; clear hK K
       (repeat refine ZQ ?_); refine ZC (hc := by simp [h3]; rfl) (fun hd => ?_) (fun hd => ?_)
       ·clear hd
        (repeat refine ZQ ?_); refine ZR fun K hK => ?_; simp (maxSteps := 1000000) [ty3, ty37]; refine hK _ ?_; clear hK K
        (repeat refine ZQ ?_); refine awp_ret ?_; refine And.intro (Or.inr rfl) ?_
        simp [retC, resC, viewC, mapO, h3, h3']
       ·simp [h3] at hd
      ·have h3' : 0 ≤ (nextTo c N).1 := by omega
       (repeat refine ZQ ?_); refine ZR fun K hK => ?_; simp (maxSteps := 1000000) [ty3, h3]; refine hK _ ?_; clear hK K
       (repeat refine ZQ ?_); refine ZC (hc := by simp [h3]; rfl) (fun hd => ?_) (fun hd => ?_)
       ·simp [h3] at hd
       ·clear hd
        refine awp_skip ?_
        (repeat refine ZQ ?_); refine ZR fun K hK => ?_; simp (maxSteps := 1000000) [ty3, ty37]; refine hK _ ?_; clear hK K
        (repeat refine ZQ ?_); refine awp_ret ?_; refine And.intro (Or.inr rfl) ?_
        simp [retC, resC, viewC, mapO, h3, h3']
 ·have hkn := known_no (is := true) hn hsm hz
  have hT : nextV w = 0 := if_neg fun h => hz h.1
  have hE : nextE w = openW w true := if_pos hz
  refine ZF (fn := Tryz.f43) [.tmp 2, .tmp 3] ⟨Tryz.func43, rfl, by kernel_rfl⟩ fun x hx hσ => ?_
  (repeat refine ZQ ?_); refine ZR fun K hK => ?_; simp (maxSteps := 1000000) [ty28, ty3, ty37]; refine hK _ ?_; clear hK K
  (repeat refine ZQ ?_); refine ZR fun K hK => ?_; simp (maxSteps := 1000000) [ty28, ty4]
  refine ZP (hkn) ?_; simp (maxSteps := 1000000) [ty110]
  refine hK _ ?_; clear hK K
  (repeat refine ZQ ?_); refine ZR fun K hK => ?_; simp (maxSteps := 1000000) [ty37]; refine hK _ ?_; clear hK K
  (repeat refine ZQ ?_); refine ZC (hc := by simp [hz]; rfl) (fun hd => ?_) (fun hd => ?_)
  ·clear hd
   (repeat refine ZQ ?_); refine ZR fun K hK => ?_; simp (maxSteps := 1000000) [ty37, ty3]; refine hK _ ?_; clear hK K
   (repeat refine ZQ ?_); refine awp_ret ?_; refine And.intro (Or.inr rfl) ?_
   simp [retC, resC, viewC, mapO, hT, hE]
  ·simp [hz] at hd

set_option maxHeartbeats 8000000
set_option maxRecDepth 20000

-- Due of the reference

theorem any_tl {w : Ws} (hok : WsOk w) {d : Nat} (hd : d ≤ w.last.toNat) (f : Int → Bool) : (onC (co w (gl w)) (d : Nat) []).any f = (tlW w).any fun l => f (pF l d) := by
 rw [← onR_tl hok hd, Bool.eq_iff_iff, List.any_eq_true, List.any_eq_true]
 constructor
 ·rintro ⟨g, hg, h⟩
  obtain ⟨l, hl, e⟩ := List.any_eq_true.1 (List.mem_filter.1 hg).2
  rw [beq_iff_eq] at e
  exact ⟨l, hl, by rw [e]; exact h⟩
 ·rintro ⟨l, hl, h⟩
  exact ⟨pF l d, List.mem_filter.2 ⟨mem_seqI.2 (tlW_bd hok hl hd), List.any_eq_true.2 ⟨l, hl, by simp⟩⟩, h⟩

theorem q_due40 (w : Ws) (k : Cl) (hn : WsLen w) (hsm : checkW w = 0 → SmallW w) : Pure Tryz.prog 40 [encWs w, encCl k] (.tup [encI (dueV w k), encI (dueE w k)]) := by
 have hcb : classB k = (areaB k.size && countB k.most) := rfl
 have hcls := q_isClass20 k
 by_cases hz : openW w (classB k) = 0
 ·obtain ⟨hok, his, hcan⟩ := openW_ok hz
  have hkn := known_ok (is := classB k) hn hsm hz
  have hs := hsm (checkW_ok.2 hok)
  have hlen := tlW_len hok hs
  have hla := hok.last
  have hnum := hok.num
  have hgn := hnum.gain
  have hV : dueV w k = (match dueO (co w (gl w)) k with | some d => (d : Int) | none => 0) := if_pos hz
  have hE : dueE w k = (match dueO (co w (gl w)) k with | some _ => 0 | none => 3) := if_pos hz
  rw [hV, hE]
  clear hV hE
  obtain ⟨N, hN⟩ : ∃ N : Nat, (w.last + 1).toNat = N := ⟨_, rfl⟩
  have hN' : (N : Int) = w.last + 1 := by omega
  have hsome := fun i hi => dueO_some (c := co w (gl w)) (k := k) (i := i) hN hi
  have hnone := dueO_none (c := co w (gl w)) (k := k) hN
  have hany := fun (d : Nat) (hd : d ≤ w.last.toNat) => any_tl hok hd (byC k)
  have hks : 0 ≤ k.size ∧ k.size ≤ 9000 := by
   have : (areaB k.size && countB k.most) = true := by rw [← hcb]; exact his
   rw [Bool.and_eq_true] at this
   simpa [areaB] using this.1
  have hby := fun g hg => q_beyond19 k g hks hg
  have hlT : ∀ d : Nat, d ≤ w.last.toNat → ∀ l ∈ tlW w, d < l.length := fun d hd l hl => by have := ((mem_tlW hok).1 hl).1; omega
  have hbT : ∀ d : Nat, d ≤ w.last.toNat → ∀ l ∈ tlW w, -50 ≤ pF l d ∧ pF l d ≤ 50 := fun d hd l hl => by have := tlW_bd hok hl hd; omega
  have hpp := rowP_pure (tlW w)
  generalize tlW w = T at *
  refine ZF (fn := Tryz.f40) [.tmp 4, .tmp 5] ⟨Tryz.func40, rfl, by kernel_rfl⟩ fun x hx hσ => ?_
  (repeat refine ZQ ?_); refine ZR fun K hK => ?_; simp (maxSteps := 1000000) [ty28, ty31, ty3, ty37]; refine hK _ ?_; clear hK K
  (repeat refine ZQ ?_); refine ZD [] [0, 1, 2, 3, 4, 5, 6, 7, 8] fun K hK => ?_; simp (maxSteps := 1000000) [ty28, ty31]
  refine ZE (hcls) ?_; simp (maxSteps := 1000000) [ty4]
  refine ZE (hkn) ?_; simp (maxSteps := 1000000) [ty110]
  refine hK _ ?_; clear hK K
  (repeat refine ZQ ?_); refine ZR fun K hK => ?_; simp (maxSteps := 1000000) [ty37]; refine hK _ ?_; clear hK K
  (repeat refine ZQ ?_); refine ZC (fun hd => ?_) (fun hd => ?_)
  ·simp at hd
  ·clear hd
   refine awp_skip ?_
   (repeat refine ZQ ?_); refine ZR fun K hK => ?_; simp (maxSteps := 1000000) [ty3]; refine hK _ ?_; clear hK K
   (repeat refine ZQ ?_); refine awp_block ?_
   refine awp_loop (fun i : Nat => ⟨ofL [(2, .ptr 2 13 0 0), (3, .ptr 3 2 0 0), (6, .sl false false (T.map rowP)), (8, encI i)], stoT [(2, 2, .live (obWs w)), (3, 3, .live ⟨false, false, 2, [[encI k.size, encI k.most]]⟩)]⟩)
    (fun i => i ≤ N ∧ ∀ d, d < i → (onC (co w (gl w)) (d : Nat) []).any (byC k) = false) (fun i => N - i) 0 (by simp) ?_ ?_
   ·exact ZW
   ·intro i ⟨hi, hbf⟩
    by_cases hiN : (i : Int) ≤ w.last
    ·(repeat refine ZQ ?_); refine ZR fun K hK => ?_; simp (maxSteps := 1000000) [ty28, ty3, hiN]; refine hK _ ?_; clear hK K
     (repeat refine ZQ ?_); refine ZC (hc := by simp [hiN]; rfl) (fun hc1 => ?_) (fun hc1 => ?_)
     ·clear hc1
      have hwi : IntKind.i64.wrap ((i : Int) + 1) = ((i + 1 : Nat) : Int) := by rw [wrap_id (by omega) (by omega)]; rfl
      have han := hany i (by omega)
      have hl1 := hlT i (by omega)
      have hb1 := hbT i (by omega)
      refine awp_skip ?_
      (repeat refine ZQ ?_); refine awp_block ?_
      (repeat refine ZQ ?_); refine ZR fun K hK => ?_; simp (maxSteps := 1000000) [ty3]; refine hK _ ?_; clear hK K
      (repeat refine ZQ ?_); refine awp_block ?_
      refine awp_loop (fun j : Nat => ⟨ofL [(2, .ptr 2 13 0 0), (3, .ptr 3 2 0 0), (6, .sl false false (T.map rowP)), (8, encI i), (9, encI j)], stoT [(2, 2, .live (obWs w)), (3, 3, .live ⟨false, false, 2, [[encI k.size, encI k.most]]⟩)]⟩)
       (fun j => j ≤ T.length ∧ ∀ m, (h : m < T.length) → m < j → byC k (pF T[m] i) = false) (fun j => T.length - j) 0 (by simp) ?_ ?_
      ·exact ZW
      ·intro j ⟨hj, hbj⟩
       (repeat refine ZQ ?_); refine ZR fun K hK => ?_; simp (maxSteps := 1000000) [ty110, ty3]; refine hK _ ?_; clear hK K
       (repeat refine ZQ ?_); refine ZC (fun hc2 => ?_) (fun hc2 => ?_)
       ·simp at hc2
        have hwj : IntKind.i64.wrap ((j : Int) + 1) = ((j + 1 : Nat) : Int) := by rw [wrap_id (by omega) (by omega)]; rfl
        have hdl := hl1 _ (List.getElem_mem hc2)
        have hpk := pF_at hdl
        have hbg := hb1 _ (List.getElem_mem hc2)
        rw [hpk] at hbg
        have hcal := hby _ hbg
        refine awp_skip ?_
        (repeat refine ZQ ?_); refine awp_block ?_
        cases hb : byC k T[j][i]
        ·rw [hb] at hcal
         (repeat refine ZQ ?_); refine ZD [] [0, 1, 2, 3, 4, 5, 6, 7, 8] fun K hK => ?_; simp (maxSteps := 1000000) [ty31, ty110, ty29, ty3, hc2, hdl]
         refine ZE (hcal) ?_; simp (maxSteps := 1000000) [ty4]
         refine hK _ ?_; clear hK K
         (repeat refine ZQ ?_); refine ZC (fun hd => ?_) (fun hd => ?_)
         ·simp at hd
         ·clear hd
          refine awp_skip ?_
          (repeat refine ZQ ?_); refine ZR fun K hK => ?_; simp (maxSteps := 1000000) [ty3]; refine hK _ ?_; clear hK K; (first | show AWP _ _ _ _ _ | show ∃ _, _ | skip)
          refine ⟨j + 1, ⟨by omega, fun m h1 h2 => ?_⟩, by omega, ?_⟩
          ·by_cases hmj : m = j
           ·subst hmj; rw [hpk]; exact hb
           ·exact hbj m h1 (by omega)
          ·rw [hwj]
           exact ZW
        ·have hd1 : dueO (co w (gl w)) k = some i := hsome i (by omega) hbf (by rw [han]; exact List.any_eq_true.2 ⟨_, List.getElem_mem hc2, by rw [hpk]; exact hb⟩)
         rw [hb] at hcal
         (repeat refine ZQ ?_); refine ZD [] [0, 1, 2, 3, 4, 5, 6, 7, 8] fun K hK => ?_; simp (maxSteps := 1000000) [ty31, ty110, ty29, ty3, hc2, hdl]
         refine ZE (hcal) ?_; simp (maxSteps := 1000000) [ty4]
         refine hK _ ?_; clear hK K
         (repeat refine ZQ ?_); refine ZC (fun hd => ?_) (fun hd => ?_)
         ·clear hd
          (repeat refine ZQ ?_); refine ZR fun K hK => ?_; simp (maxSteps := 1000000) [ty3, ty37]; refine hK _ ?_; clear hK K
          (repeat refine ZQ ?_); refine awp_ret ?_; refine And.intro (Or.inr rfl) ?_
          simp [retC, resC, viewC, mapO, hd1]
         ·simp at hd
       ·simp at hc2
        (repeat refine ZQ ?_); refine awp_exit ?_; (first | show AWP _ _ _ _ _ | show ∃ _, _ | skip)
        have han2 : (onC (co w (gl w)) (i : Nat) []).any (byC k) = false := by
         rw [han, List.any_eq_false]
         intro l hl
         obtain ⟨m, hm, e⟩ := List.getElem_of_mem hl
         rw [← e, hbj m hm (by omega)]; simp
        (repeat refine ZQ ?_); refine ZR fun K hK => ?_; simp (maxSteps := 1000000) [ty3]; refine hK _ ?_; clear hK K; (first | show AWP _ _ _ _ _ | show ∃ _, _ | skip)
        refine ⟨i + 1, ⟨by omega, fun d hd => ?_⟩, by omega, ?_⟩
        ·by_cases hdi : d = i
         ·subst hdi; exact han2
         ·exact hbf d (by omega)
        ·rw [hwi]
         exact ZW
     ·simp [hiN] at hc1
    ·(repeat refine ZQ ?_); refine ZR fun K hK => ?_; simp (maxSteps := 1000000) [ty28, ty3, hiN]; refine hK _ ?_; clear hK K
     (repeat refine ZQ ?_); refine ZC (hc := by simp [hiN]; rfl) (fun hc1 => ?_) (fun hc1 => ?_)
     ·simp [hiN] at hc1
     ·clear hc1
      (repeat refine ZQ ?_); refine awp_exit ?_; (first | show AWP _ _ _ _ _ | show ∃ _, _ | skip)
      have hiE : i = N := by omega
      have hd0 : dueO (co w (gl w)) k = none := hnone (by rw [← hiE]; exact hbf)
      (repeat refine ZQ ?_); refine ZR fun K hK => ?_; simp (maxSteps := 1000000) [ty3, ty37]; refine hK _ ?_; clear hK K
      (repeat refine ZQ ?_); refine awp_ret ?_; refine And.intro (Or.inr rfl) ?_
      simp [retC, resC, viewC, mapO, hd0]
 ·have hkn := known_no (is := classB k) hn hsm hz
  have hV : dueV w k = 0 := if_neg hz
  have hE : dueE w k = openW w (classB k) := if_neg hz
  refine ZF (fn := Tryz.f40) [.tmp 4, .tmp 5] ⟨Tryz.func40, rfl, by kernel_rfl⟩ fun x hx hσ => ?_
  (repeat refine ZQ ?_); refine ZR fun K hK => ?_; simp (maxSteps := 1000000) [ty28, ty31, ty3, ty37]; refine hK _ ?_; clear hK K
  (repeat refine ZQ ?_); refine ZD [] [0, 1, 2, 3, 4, 5, 6, 7, 8] fun K hK => ?_; simp (maxSteps := 1000000) [ty28, ty31]
  refine ZE (hcls) ?_; simp (maxSteps := 1000000) [ty4]
  refine ZE (hkn) ?_; simp (maxSteps := 1000000) [ty110]
  refine hK _ ?_; clear hK K
  (repeat refine ZQ ?_); refine ZR fun K hK => ?_; simp (maxSteps := 1000000) [ty37]; refine hK _ ?_; clear hK K
  (repeat refine ZQ ?_); refine ZC (hc := by simp [hz]; rfl) (fun hd => ?_) (fun hd => ?_)
  ·clear hd
   (repeat refine ZQ ?_); refine ZR fun K hK => ?_; simp (maxSteps := 1000000) [ty37, ty3]; refine hK _ ?_; clear hK K
   (repeat refine ZQ ?_); refine awp_ret ?_; refine And.intro (Or.inr rfl) ?_
   simp [retC, resC, viewC, mapO, hV, hE]
  ·simp [hz] at hd

set_option maxHeartbeats 8000000
set_option maxRecDepth 20000

-- a copy is the same instrument

theorem l_same39 (w : Ws) (hl : WsLen w) : Pure Tryz.prog 39 [encWs (copyW w), encWs w] (.bool true) := by
 have hlt := hl.vs
 obtain ⟨s, hs⟩ : ∃ s, s = copyW w := ⟨_, rfl⟩
 have hsw : s.w = w.w := by rw [hs]; rfl
 have hsg : s.gain = w.gain := by rw [hs]; rfl
 have hsa : s.last = w.last := by rw [hs]; rfl
 have hsd : s.drop = w.drop := by rw [hs]; rfl
 have hsr : s.wrong = w.wrong := by rw [hs]; rfl
 have hsl : s.vs.length = w.vs.length := by rw [hs]; simp [copyW]
 have hsy : ∀ i (h : i < w.vs.length), s.vs[i]'(by omega) = copyV w.vs[i] := fun i h => by subst hs; simp [copyW]
 rw [← hs]
 clear hs
 refine ZF (fn := Tryz.f39) [.tmp 4] ⟨Tryz.func39, rfl, by kernel_rfl⟩ fun x hx hσ => ?_
 (repeat refine ZQ ?_); refine ZR fun K hK => ?_; simp (maxSteps := 1000000) [ty28, ty4]; refine hK _ ?_; clear hK K; (first | show AWP _ _ _ _ _ | show ∃ _, _ | skip)
 have he := cIs_same w.w
 simp only [encI] at he
 (repeat refine ZQ ?_); refine ZR fun K hK => ?_; simp (maxSteps := 1000000) [ty28, ty25, ty26, ty3, fe25, de25, hsw, hsg, hsa, hsd, hsr, hsl, he]; refine hK _ ?_; clear hK K
 (repeat refine ZQ ?_); refine ZC (fun hd => ?_) (fun hd => ?_)
 ·simp at hd
 ·clear hd
  refine awp_skip ?_
  (repeat refine ZQ ?_); refine ZR fun K hK => ?_; simp (maxSteps := 1000000) [ty3]; refine hK _ ?_; clear hK K
  (repeat refine ZQ ?_); refine awp_block ?_
  refine awp_loop (fun i : Nat => ⟨ofL [(2, .ptr 2 13 0 0), (3, .ptr 3 13 0 0), (5, encI i)], stoT [(2, 2, .live (obWs s)), (3, 3, .live (obWs w))]⟩)
   (fun i => i ≤ w.vs.length) (fun i => w.vs.length - i) 0 (Nat.zero_le _) ?_ ?_
  ·refine wk_shape (shp0 hσ (by simp) (by simp) ?_) ?_
   ·simp [SlotOk, hsw, hsg, hsa, hsd, hsr] <;> (repeat' (first | (refine RowsOk.same ?_; simp [purel, C.isPure]; done) | (refine rowsCons ?_; simp [mtl, mtc, mT, mH, C.isPure, purel]; done) | (refine rowsCons ?_; simp [mtl, mtc, mT, mH, C.isPure, purel]) | refine And.intro ?_ ?_))
   ·simp [mtc, mtl, mT, C.isPure, purel, hsw, hsg, hsa, hsd, hsr] <;> (try simp (disch := omega) [wrap_id]) <;> (try omega)
  ·intro i hi
   (repeat refine ZQ ?_); refine ZR fun K hK => ?_; simp (maxSteps := 1000000) [ty28, ty26, ty3, hsl]; refine hK _ ?_; clear hK K
   (repeat refine ZQ ?_); refine ZC (fun hc => ?_) (fun hc => ?_)
   ·simp at hc
    refine awp_skip ?_
    (repeat refine ZQ ?_); refine awp_block ?_
    have hyi := hsy i hc
    have hci : i < s.vs.length := by omega
    have hln := hl.l _ (List.getElem_mem hc)
    have hwi : IntKind.i64.wrap ((i : Int) + 1) = ((i + 1 : Nat) : Int) := by rw [wrap_id (by omega) (by omega)]; rfl
    obtain ⟨v, hv⟩ : ∃ v, v = w.vs[i] := ⟨_, rfl⟩
    rw [← hv] at hyi hln
    simp only [copyV] at hyi
    have hlts := hln.ts
    have hltl := hln.l
    simp only [tiV] at hlts hltl
    have hlen0 : ((v.ts.length : Int) != (v.ts.length : Int)) = false := by simp
    (repeat refine ZQ ?_); refine ZD [2012, 10006, 1006, 1009] [0, 1, 2, 3, 4, 5, 6, 7, 8, 9, 10, 11, 12, 13] fun K hK => ?_; simp (maxSteps := 1000000) [ty28, ty26, ty53, ty3, hc, hci, hyi, ← hv]; refine hK _ ?_; clear hK K
    (repeat refine ZQ ?_); refine ZR fun K hK => ?_; simp (maxSteps := 1000000) [ty53, ty51, ty3]; refine hK _ ?_; clear hK K
    (repeat refine ZQ ?_); refine ZC (fun hd => ?_) (fun hd => ?_)
    ·simp at hd
    ·clear hd
     refine awp_skip ?_
     (repeat refine ZQ ?_); refine ZR fun K hK => ?_; simp (maxSteps := 1000000) [ty3]; refine hK _ ?_; clear hK K
     (repeat refine ZQ ?_); refine awp_block ?_
     refine awp_loop (fun j : Nat => ⟨ofL [(2, .ptr 2 13 0 0), (3, .ptr 3 13 0 0), (5, encI i), (6, .ptr 6 2 0 0), (7, .ptr 7 2 0 0), (8, encI j)], stoT [(2, 2, .live (obWs s)), (3, 3, .live (obWs w)), (6, 6, .live ⟨false, false, 2, [cVs ⟨v.day, v.ts.isEmpty, false, v.ts.map copyY⟩]⟩), (7, 7, .live ⟨false, false, 2, [cVs v]⟩)]⟩)
      (fun j => j ≤ v.ts.length) (fun j => v.ts.length - j) 0 (Nat.zero_le _) ?_ ?_
     ·exact ZW
     ·intro j hj
      (repeat refine ZQ ?_); refine ZR fun K hK => ?_; simp (maxSteps := 1000000) [ty53, ty51, ty3]; refine hK _ ?_; clear hK K
      (repeat refine ZQ ?_); refine ZC (fun hc2 => ?_) (fun hc2 => ?_)
      ·simp at hc2
       refine awp_skip ?_
       (repeat refine ZQ ?_); refine awp_block ?_
       have hwj : IntKind.i64.wrap ((j : Int) + 1) = ((j + 1 : Nat) : Int) := by rw [wrap_id (by omega) (by omega)]; rfl
       have hlj := hltl _ (List.getElem_mem hc2)
       obtain ⟨y, hy⟩ : ∃ y, y = v.ts[j] := ⟨_, rfl⟩
       rw [← hy] at hlj
       (repeat refine ZQ ?_); refine ZD [] [0, 1, 2, 3, 4, 5, 6, 7, 8, 9, 10, 11, 12, 13, 14, 15, 16, 17, 18, 19, 20, 21, 22, 23, 24, 25, 26, 27, 28, 29] fun K hK => ?_; simp (maxSteps := 1000000) [copyY, ty53, ty51, ty119, ty117, ty3, hc2, ← hy]; refine hK _ ?_; clear hK K
       (repeat refine ZQ ?_); refine ZC (fun hd => ?_) (fun hd => ?_)
       ·simp at hd
       ·clear hd
        refine awp_skip ?_
        (repeat refine ZQ ?_); refine ZR fun K hK => ?_; simp (maxSteps := 1000000) [ty3]; refine hK _ ?_; clear hK K
        (repeat refine ZQ ?_); refine awp_block ?_
        refine awp_loop (fun k : Nat => ⟨ofL [(2, .ptr 2 13 0 0), (3, .ptr 3 13 0 0), (5, encI i), (6, .ptr 6 2 0 0), (7, .ptr 7 2 0 0), (8, encI j), (9, encI k)], stoT [(2, 2, .live (obWs s)), (3, 3, .live (obWs w)), (6, 6, .live ⟨false, false, 2, [cVs ⟨v.day, v.ts.isEmpty, false, v.ts.map copyY⟩]⟩), (7, 7, .live ⟨false, false, 2, [cVs v]⟩)]⟩)
         (fun k => k ≤ y.l.length) (fun k => y.l.length - k) 0 (Nat.zero_le _) ?_ ?_
        ·exact ZW
        ·intro k hk
         (repeat refine ZQ ?_); refine ZR fun K hK => ?_; simp (maxSteps := 1000000) [copyY, ty53, ty51, ty119, ty117, ty3, hc2, ← hy]; refine hK _ ?_; clear hK K
         (repeat refine ZQ ?_); refine ZC (fun hc3 => ?_) (fun hc3 => ?_)
         ·simp at hc3
          refine awp_skip ?_
          (repeat refine ZQ ?_); refine awp_block ?_
          have he5 := eqI5 y.l[k]
          simp only [cWl, encI] at he5
          have hwk : IntKind.i64.wrap ((k : Int) + 1) = ((k + 1 : Nat) : Int) := by rw [wrap_id (by omega) (by omega)]; rfl
          (repeat refine ZQ ?_); refine ZD [] [0, 1, 2, 3, 4, 5, 6, 7, 8, 9, 10, 11, 12, 13, 14, 15, 16, 17, 18] fun K hK => ?_; simp (maxSteps := 1000000) [copyY, ty53, ty51, ty119, ty117, ty121, fe121, ty3, hc2, hc3, ← hy, he5]; refine hK _ ?_; clear hK K
          (repeat refine ZQ ?_); refine ZC (fun hd => ?_) (fun hd => ?_)
          ·simp at hd
          ·clear hd
           refine awp_skip ?_
           (repeat refine ZQ ?_); refine ZR fun K hK => ?_; simp (maxSteps := 1000000) [ty3]; refine hK _ ?_; clear hK K; (first | show AWP _ _ _ _ _ | show ∃ _, _ | skip)
           refine ⟨k + 1, by omega, by omega, ?_⟩
           rw [hwk]
           exact ZW
         ·simp at hc3
          (repeat refine ZQ ?_); refine awp_exit ?_
          (repeat refine ZQ ?_); refine ZR fun K hK => ?_; simp (maxSteps := 1000000) [ty3]; refine hK _ ?_; clear hK K; (first | show AWP _ _ _ _ _ | show ∃ _, _ | skip)
          refine ⟨j + 1, by omega, by omega, ?_⟩
          rw [hwj]
          exact ZW
      ·simp at hc2
       (repeat refine ZQ ?_); refine awp_exit ?_
       (repeat refine ZQ ?_); refine ZR fun K hK => ?_; simp (maxSteps := 1000000) [ty3]; refine hK _ ?_; clear hK K; (first | show AWP _ _ _ _ _ | show ∃ _, _ | skip)
       refine ⟨i + 1, by omega, by omega, ?_⟩
       rw [hwi]
       exact ZW
   ·simp at hc
    (repeat refine ZQ ?_); refine awp_exit ?_
    (repeat refine ZQ ?_); refine ZR fun K hK => ?_; simp (maxSteps := 1000000); refine hK _ ?_; clear hK K
    (repeat refine ZQ ?_); refine awp_ret ?_; refine And.intro (Or.inr rfl) ?_
    simp [retC, resC, viewC, mapO]

set_option maxHeartbeats 16000000
set_option maxRecDepth 20000

-- Due, Doubt and Next are what the document specifies


theorem copyW_dueV (w : Ws) (k : Cl) : dueV (copyW w) k = dueV w k := by unfold dueV; rw [copyW_open, copyW_co]
theorem copyW_dueE (w : Ws) (k : Cl) : dueE (copyW w) k = dueE w k := by unfold dueE; rw [copyW_open, copyW_co]
theorem copyW_doubt (w : Ws) : doubtW (copyW w) = doubtW w := by unfold doubtW; rw [copyW_open, copyW_co]
theorem copyW_nextV (w : Ws) : nextV (copyW w) = nextV w := by unfold nextV; rw [copyW_open, copyW_co]
theorem copyW_nextE (w : Ws) : nextE (copyW w) = nextE w := by unfold nextE; rw [copyW_open, copyW_co]

theorem law8 (w : Ws) (k : Cl) : Pure Tryz.prog 8 [encWs w, encCl k] (.bool true) := by
 obtain ⟨f, hF, hf⟩ := far30 w
 cases f
 ·have hnear := hf rfl
  have hlen := hnear.len
  have hsm : checkW w = 0 → SmallW w := fun h => ⟨(hnear.small h).1, (hnear.small h).2.1, (hnear.small h).2.2⟩
  have c0 := q_copy23 w hlen
  have hlc := copyW_len hlen
  have c1 := w_due16 (copyW w) k hlc
  have c2 := q_due40 w k hlen hsm
  have c3 := w_doubt25 (copyW w) hlc
  have c4 := q_doubt41 w hlen hsm
  have c5 := w_next42 (copyW w) hlc
  have c6 := q_next43 w hlen hsm
  have c7 := l_same39 w hlen
  rw [copyW_dueV, copyW_dueE] at c1
  rw [copyW_doubt, copyW_open] at c3
  rw [copyW_nextV, copyW_nextE] at c5
  generalize copyW w = s at *
  generalize dueV w k = a1 at *
  generalize dueE w k = a2 at *
  generalize doubtW w = a3 at *
  generalize openW w true = a4 at *
  generalize nextV w = a5 at *
  generalize nextE w = a6 at *
  have hbb : ∀ n : Int, (n == n) = true := fun n => by simp
  refine ZF (fn := Tryz.f8) [.tmp 4] ⟨Tryz.func8, rfl, by kernel_rfl⟩ fun x hx hσ => ?_
  (repeat refine ZQ ?_); refine ZR fun K hK => ?_; simp (maxSteps := 1000000) [ty28, ty31, ty4]; refine hK _ ?_; clear hK K
  (repeat refine ZQ ?_); refine ZR fun K hK => ?_; simp (maxSteps := 1000000) [ty28]
  refine ZP (hF) ?_; simp (maxSteps := 1000000) [ty4]
  refine hK _ ?_; clear hK K
  (repeat refine ZQ ?_); refine ZC (fun hd => ?_) (fun hd => ?_)
  ·simp at hd
  ·clear hd
   refine awp_skip ?_
   (repeat refine ZQ ?_); refine ZR fun K hK => ?_; simp (maxSteps := 1000000) [ty28]
   refine ZP (c0) ?_; simp (maxSteps := 1000000) [ty28]
   refine hK _ ?_; clear hK K
   (repeat refine ZQ ?_); refine ZR fun K hK => ?_; simp (maxSteps := 1000000) [ty28, ty31]
   refine ZP (c1) ?_; simp (maxSteps := 1000000)
   refine hK _ ?_; clear hK K
   (repeat refine ZQ ?_); refine ZR fun K hK => ?_; simp (maxSteps := 1000000) [ty28, ty31]
   refine ZP (c2) ?_; simp (maxSteps := 1000000)
   refine hK _ ?_; clear hK K
   (repeat refine ZQ ?_); refine ZR fun K hK => ?_; simp (maxSteps := 1000000) [ty28]
   refine ZP (c3) ?_; simp (maxSteps := 1000000)
   refine hK _ ?_; clear hK K
   (repeat refine ZQ ?_); refine ZR fun K hK => ?_; simp (maxSteps := 1000000) [ty28]
   refine ZP (c4) ?_; simp (maxSteps := 1000000)
   refine hK _ ?_; clear hK K
   (repeat refine ZQ ?_); refine ZR fun K hK => ?_; simp (maxSteps := 1000000) [ty28]
   refine ZP (c5) ?_; simp (maxSteps := 1000000)
   refine hK _ ?_; clear hK K
   (repeat refine ZQ ?_); refine ZR fun K hK => ?_; simp (maxSteps := 1000000) [ty28]
   refine ZP (c6) ?_; simp (maxSteps := 1000000)
   refine hK _ ?_; clear hK K
   (repeat refine ZQ ?_); refine ZR fun K hK => ?_; simp (maxSteps := 1000000) [ty3, ty4, ty37, ty28, hbb]
   refine ZP (c7) ?_; simp (maxSteps := 1000000) [ty4]
   refine ZP (works15) ?_; simp (maxSteps := 1000000) [ty4]
   refine hK _ ?_; clear hK K
   (repeat refine ZQ ?_); refine awp_ret ?_; refine And.intro (Or.inr rfl) ?_
   simp [retC, resC, viewC, mapO]
 ·refine ZF (fn := Tryz.f8) [.tmp 4] ⟨Tryz.func8, rfl, by kernel_rfl⟩ fun x hx hσ => ?_
  (repeat refine ZQ ?_); refine ZR fun K hK => ?_; simp (maxSteps := 1000000) [ty28, ty31, ty4]; refine hK _ ?_; clear hK K
  (repeat refine ZQ ?_); refine ZR fun K hK => ?_; simp (maxSteps := 1000000) [ty28]
  refine ZP (hF) ?_; simp (maxSteps := 1000000) [ty4]
  refine hK _ ?_; clear hK K
  (repeat refine ZQ ?_); refine ZC (fun hd => ?_) (fun hd => ?_)
  ·clear hd
   (repeat refine ZQ ?_); refine ZR fun K hK => ?_; simp (maxSteps := 1000000) [ty4]
   refine ZP (works15) ?_; simp (maxSteps := 1000000)
   refine hK _ ?_; clear hK K
   (repeat refine ZQ ?_); refine awp_ret ?_; refine And.intro (Or.inr rfl) ?_
   simp [retC, resC, viewC, mapO]
  ·simp at hd

open Go.ChangeShapes Go.WideShapes Go.ChangeAt Go.RowKit

set_option maxRecDepth 100000 in
theorem wearNext_lifted (os : Os) (started : os.Started) (H : Type) (enc : TypeId × Value → H) :
  ReturnsInHanded {} Tryz.checked os 8 .any (Rows.wearNextSpec.pre6 enc Tryz.prog Tryz.f8 Rows.wearNextRow.domain false) (Rows.wearNextSpec.post enc Tryz.prog Tryz.f8 false true false false) := by
 refine returnsInHanded_of_change (C := Tryz.checked) J.own started (by kernel_rfl) Tryz.func8
  (ChangeSpec.witness6 (enc := enc) (C := Tryz.checked) false ⟨#[], #[.agg #[.int .i64 0, .int .i64 0, .int .i64 0, .int .i64 0, .int .i64 0, .int .i64 0, .int .i64 0, .int .i64 0, .int .i64 0, .int .i64 0, .int .i64 0, .slice none 0 0, .int .i64 0], .agg #[.int .i64 0, .int .i64 0]], []⟩ 8 (by kernel_rfl) (by kernel_rfl) (by kernel_rfl) (by kernel_rfl)) ?_
 intro W base args ds gs before hval hW _ _
 refine law_contract (P := Tryz.prog) (tb := 4) (by kernel_rfl) J.ub rfl (fun ds hl => ?_) J.laid J.maps J.sized (by kernel_rfl) (by kernel_rfl) (fun cargs hc => ?_) W base args ds gs before hval hW
 ·have h2 : ds.length = 2 := hl
  match ds, h2 with
  | [_, _], _ => rfl
 ·rw [Tryz.params8] at hc
  obtain ⟨w, r, rfl, hc1⟩ := argWear hc
  obtain ⟨k, r1, rfl, hc2⟩ := argClass hc1
  obtain rfl := arg_end hc2
  exact law8 w k

theorem wearNext_holds : Rows.WearNextSaid :=
 OpenClaim.holds_of_wide 8 Tryz.f8 rfl rfl rfl rfl rfl rfl rfl ⟨rfl, rfl, rfl, rfl, rfl⟩ rfl rfl rfl rfl rfl (by kernel_rfl) Tryz.func8 (by kernel_rfl)
  (of_decide_eq_true (by kernel_rfl)) (by unfold Func.isWrapper; first | (rw [if_pos (by decide +kernel)]; kernel_rfl) | (rw [if_neg (by decide +kernel)]; exact ⟨rfl, rfl⟩))
  (fun os started H enc _ => wearNext_lifted os started H enc)
#print axioms wearNext_holds
end Go.Proofs.YtknoachjpoibaaaGreat

