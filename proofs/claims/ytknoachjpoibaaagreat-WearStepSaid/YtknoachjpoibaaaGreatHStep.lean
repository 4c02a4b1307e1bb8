/- For every input the law WearStep returns true, and each argument reads afterwards as it read before. No condition. -/
import Derived.Test.YtknoachjpoibaaaGreatB5

set_option linter.unusedSimpArgs false
set_option linter.unusedVariables false
set_option linter.constructorNameAsVariable false

namespace Go.Proofs.YtknoachjpoibaaaGreat
open Go Go.Abs

set_option maxHeartbeats 16000000

-- THE THEOREM OF THE DAY TO COME BACK






theorem awp_mid {P : Program} {x : Ctx} {a b : Code} {s : AS} {Q : Exit → AS → Prop} (m : AS) (h1 : AWP P x a s (nextQ (fun s' => Wk x s' m) Q)) (h2 : AWP P x b m Q) : AWP P x (.seq a b) s Q := by
 refine awp_seq (AWP.mono h1 ?_)
 intro e s' h
 cases e with
 | normal => exact AWP.weak h2 h
 | _ => exact h

set_option maxHeartbeats 8000000

-- the reference's search over all gains

def allP (c : Co) : Nat → List Int → List (List Int)
 | 0, f => if isSoC c f then [f] else []
 | n + 1, f => if isSoC c f then (seqI (-c.gain) c.gain).flatMap fun g => allP c n (f ++ [g]) else []

theorem isSoC_prefix {c : Co} {f l : List Int} (h : f <+: l) (hl : isSoC c l = true) : isSoC c f = true := by
 obtain ⟨t, rfl⟩ := h
 rw [isSoC_iff] at hl ⊢
 refine ⟨fun i hi => ?_, fun i hi => ?_⟩
 ·have := hl.1 i (by simp; omega)
  rwa [List.getElem_append_left hi] at this
 ·have := hl.2 i (by simp; omega)
  rwa [List.getElem_append_left hi, List.getElem_append_left (by omega : i < f.length)] at this

theorem mem_allP (c : Co) : ∀ (n : Nat) (f l : List Int), l ∈ allP c n f ↔ l.length = f.length + n ∧ f <+: l ∧ isSoC c l = true
 | 0, f, l => by
  unfold allP
  constructor
  ·intro h
   split at h
   ·rename_i hs
    simp only [List.mem_singleton] at h
    subst h
    exact ⟨rfl, List.prefix_refl _, hs⟩
   ·simp at h
  ·rintro ⟨h1, h2, h3⟩
   have e : f = l := h2.eq_of_length (by omega)
   subst e
   rw [if_pos h3]; simp
 | n + 1, f, l => by
  unfold allP
  constructor
  ·intro h
   split at h
   ·obtain ⟨g, _, hm⟩ := List.mem_flatMap.1 h
    obtain ⟨h1, h2, h3⟩ := (mem_allP c n (f ++ [g]) l).1 hm
    simp only [List.length_append, List.length_singleton] at h1
    exact ⟨by omega, (List.prefix_append f [g]).trans h2, h3⟩
   ·simp at h
  ·rintro ⟨h1, h2, h3⟩
   rw [if_pos (isSoC_prefix h2 h3)]
   obtain ⟨t, rfl⟩ := h2
   cases t with
   | nil => simp at h1
   | cons g t =>
    refine List.mem_flatMap.2 ⟨g, ?_, (mem_allP c n (f ++ [g]) _).2 ⟨?_, ?_, h3⟩⟩
    ·have := (isSoC_iff.1 h3).1 f.length (by simp)
     simp at this
     exact mem_seqI.2 this
    ·simp at h1 ⊢; omega
    ·exact ⟨t, by simp⟩

theorem flat_bd {α β : Type} {f : α → List β} {b : Nat} : ∀ (L : List α), (∀ x ∈ L, (f x).length ≤ b) → (L.flatMap f).length ≤ L.length * b
 | [], _ => by simp
 | a :: L, h => by
  have h1 := h a (by simp)
  have h2 := flat_bd L fun x hx => h x (by simp [hx])
  rw [List.flatMap_cons, List.length_append, List.length_cons, Nat.succ_mul]
  omega

theorem allP_len {c : Co} {m : Nat} (hm : (seqI (-c.gain) c.gain).length ≤ m) (h1 : 1 ≤ m) : ∀ (n : Nat) (f : List Int), (allP c n f).length ≤ m ^ n
 | 0, f => by unfold allP; split <;> simp
 | n + 1, f => by
  unfold allP
  split
  ·have h := flat_bd (f := fun g => allP c n (f ++ [g])) (b := m ^ n) (seqI (-c.gain) c.gain) fun g _ => allP_len hm h1 n (f ++ [g])
   have h2 := Nat.mul_le_mul_right (m ^ n) hm
   rw [Nat.pow_succ, Nat.mul_comm (m ^ n) m]
   omega
  ·simp

@[simp] abbrev rowP (l : List Int) : List C := [.sl false false (l.map cI)]
theorem rowP_pure (X : List (List Int)) : (X.map rowP).all purel = true := all_purel_map fun _ => rfl

theorem q_all81 (w : Ws) (G : List (Int × List Int)) (hg : 0 ≤ w.gain ∧ w.gain ≤ 3) (hl : 1 ≤ w.last ∧ w.last ≤ 5) : ∀ (n : Nat) (f : List Int) (nl fu : Bool), (f.length + n : Int) = w.last + 1 → (n = 0 → nl = false ∧ fu = false) →
  ∃ a b, Pure Tryz.prog 81 [encWs w, .sl nl fu (f.map cI)] (.sl a b ((allP (co w G) n f).map rowP)) := by
 have hwl : IntKind.i64.wrap (w.last + 1) = w.last + 1 := wrap_id (by omega) (by omega)
 have hwg : IntKind.i64.wrap (-w.gain) = -w.gain := wrap_id (by omega) (by omega)
 intro n
 induction n with
 | zero =>
  intro f nl fu hf h0
  obtain ⟨rfl, rfl⟩ := h0 rfl
  have hso := q_isSo65 w G false false f (by omega) (by omega)
  cases hb : isSoC (co w G) f
  ·rw [hb] at hso
   have hA : allP (co w G) 0 f = [] := if_neg (by rw [hb]; simp)
   refine ⟨true, true, ?_⟩
   rw [hA]
   refine ZF (fn := Tryz.f81) [.tmp 4] ⟨Tryz.func81, rfl, by kernel_rfl⟩ fun x hx hσ => ?_
   (repeat refine ZQ ?_); refine ZR fun K hK => ?_; simp (maxSteps := 1000000) [ty28, ty110]; refine hK _ ?_; clear hK K
   (repeat refine ZQ ?_); refine ZR fun K hK => ?_; simp (maxSteps := 1000000) [ty28]
   refine ZP (hso) ?_; simp (maxSteps := 1000000) [ty4]
   refine hK _ ?_; clear hK K
   (repeat refine ZQ ?_); refine ZC (fun hd => ?_) (fun hd => ?_)
   ·clear hd
    (repeat refine ZQ ?_); refine ZR fun K hK => ?_; simp (maxSteps := 1000000) [ty110]; refine hK _ ?_; clear hK K
    (repeat refine ZQ ?_); refine awp_ret ?_; refine And.intro (Or.inr rfl) ?_
    simp [retC, resC, viewC, mapO]
   ·simp at hd
  ·rw [hb] at hso
   have hA : allP (co w G) 0 f = [f] := if_pos hb
   have hfl : ((f.length : Int) == w.last + 1) = true := by rw [beq_iff_eq]; omega
   refine ⟨false, true, ?_⟩
   rw [hA]
   refine ZF (fn := Tryz.f81) [.tmp 4] ⟨Tryz.func81, rfl, by kernel_rfl⟩ fun x hx hσ => ?_
   (repeat refine ZQ ?_); refine ZR fun K hK => ?_; simp (maxSteps := 1000000) [ty28, ty110]; refine hK _ ?_; clear hK K
   (repeat refine ZQ ?_); refine ZR fun K hK => ?_; simp (maxSteps := 1000000) [ty28]
   refine ZP (hso) ?_; simp (maxSteps := 1000000) [ty4]
   refine hK _ ?_; clear hK K
   (repeat refine ZQ ?_); refine ZC (fun hd => ?_) (fun hd => ?_)
   ·simp at hd
   ·clear hd
    refine awp_skip ?_
    (repeat refine ZQ ?_); refine ZR fun K hK => ?_; simp (maxSteps := 1000000) [ty29, ty28, ty3, hwl, hfl]; refine hK _ ?_; clear hK K
    (repeat refine ZQ ?_); refine ZC (fun hd => ?_) (fun hd => ?_)
    ·clear hd
     (repeat refine ZQ ?_); refine ZR fun K hK => ?_; simp (maxSteps := 1000000) [ty110, ty29]; refine hK _ ?_; clear hK K
     (repeat refine ZQ ?_); refine awp_ret ?_; refine And.intro (Or.inr rfl) ?_
     simp [retC, resC, viewC, mapO]
    ·simp at hd
 | succ n ih =>
  intro f nl fu hf _
  have hso := q_isSo65 w G nl fu f (by omega) (by omega)
  cases hb : isSoC (co w G) f
  ·rw [hb] at hso
   have hA : allP (co w G) (n + 1) f = [] := if_neg (by rw [hb]; simp)
   refine ⟨true, true, ?_⟩
   rw [hA]
   refine ZF (fn := Tryz.f81) [.tmp 4] ⟨Tryz.func81, rfl, by kernel_rfl⟩ fun x hx hσ => ?_
   (repeat refine ZQ ?_); refine ZR fun K hK => ?_; simp (maxSteps := 1000000) [ty28, ty110]; refine hK _ ?_; clear hK K
   (repeat refine ZQ ?_); refine ZR fun K hK => ?_; simp (maxSteps := 1000000) [ty28]
   refine ZP (hso) ?_; simp (maxSteps := 1000000) [ty4]
   refine hK _ ?_; clear hK K
   (repeat refine ZQ ?_); refine ZC (fun hd => ?_) (fun hd => ?_)
   ·clear hd
    (repeat refine ZQ ?_); refine ZR fun K hK => ?_; simp (maxSteps := 1000000) [ty110]; refine hK _ ?_; clear hK K
    (repeat refine ZQ ?_); refine awp_ret ?_; refine And.intro (Or.inr rfl) ?_
    simp [retC, resC, viewC, mapO]
   ·simp at hd
  ·rw [hb] at hso
   have hfl : ((f.length : Int) == w.last + 1) = false := by rw [beq_eq_false_iff_ne]; omega
   obtain ⟨m, hm⟩ : ∃ m : Nat, (w.gain - -w.gain + 1).toNat = m := ⟨_, rfl⟩
   have hm' : (m : Int) = 2 * w.gain + 1 := by omega
   have hex : ∀ x : Nat, ∃ r : Bool × Bool, Pure Tryz.prog 81 [encWs w, .sl false false ((f ++ [-w.gain + (x : Int)]).map cI)] (.sl r.1 r.2 ((allP (co w G) n (f ++ [-w.gain + (x : Int)])).map rowP)) := fun x => by
    obtain ⟨a, b, h⟩ := ih (f ++ [-w.gain + (x : Int)]) false false (by simp; omega) fun _ => ⟨rfl, rfl⟩
    exact ⟨(a, b), h⟩
   obtain ⟨F, hF⟩ := Classical.axiomOfChoice hex
   obtain ⟨A, hA⟩ : ∃ A : Nat → List (List Int), ∀ x, ((seqN (-w.gain) x).flatMap fun g => allP (co w G) n (f ++ [g])) = A x := ⟨_, fun _ => rfl⟩
   have hA0 : A 0 = [] := by rw [← hA]; rfl
   have hAs : ∀ x : Nat, A (x + 1) = A x ++ allP (co w G) n (f ++ [-w.gain + (x : Int)]) := fun x => by rw [← hA, ← hA, seqN_step, List.flatMap_append]; simp
   have hAN : allP (co w G) (n + 1) f = A m := by
    rw [← hA]
    show (if isSoC (co w G) f then _ else _) = _
    rw [if_pos hb]
    unfold seqI
    rw [show ((co w G).gain - -(co w G).gain + 1).toNat = m by simp only; omega]
   have hsl : (seqI (-(co w G).gain) (co w G).gain).length ≤ 7 := by
    have : (seqI (-(co w G).gain) (co w G).gain).length = ((co w G).gain - -(co w G).gain + 1).toNat := seqN_len _ _
    simp only at this ⊢; omega
   have hpow : ∀ k : Nat, k ≤ 6 → 7 ^ k ≤ 117649 := fun k hk => Nat.le_trans (Nat.pow_le_pow_right (by decide) hk) (by decide)
   have hPl : ∀ g, (allP (co w G) n (f ++ [g])).length ≤ 117649 := fun g => Nat.le_trans (allP_len hsl (by decide) n _) (hpow n (by omega))
   have hAl : ∀ x, x ≤ m → (A x).length ≤ 823543 := fun x hx => by
    rw [← hA]
    have h := flat_bd (f := fun g => allP (co w G) n (f ++ [g])) (b := 117649) (seqN (-w.gain) x) fun g _ => hPl g
    rw [seqN_len] at h
    have : x * 117649 ≤ 7 * 117649 := Nat.mul_le_mul_right _ (by omega)
    omega
   refine ⟨(A m).isEmpty, false, ?_⟩
   rw [hAN]
   clear hA hAN hex hsl hpow
   refine ZF (fn := Tryz.f81) [.tmp 4] ⟨Tryz.func81, rfl, by kernel_rfl⟩ fun x hx hσ => ?_
   (repeat refine ZQ ?_); refine ZR fun K hK => ?_; simp (maxSteps := 1000000) [ty28, ty110]; refine hK _ ?_; clear hK K
   (repeat refine ZQ ?_); refine ZR fun K hK => ?_; simp (maxSteps := 1000000) [ty28]
   refine ZP (hso) ?_; simp (maxSteps := 1000000) [ty4]
   refine hK _ ?_; clear hK K
   (repeat refine ZQ ?_); refine ZC (fun hd => ?_) (fun hd => ?_)
   ·simp at hd
   ·clear hd
    refine awp_skip ?_
    (repeat refine ZQ ?_); refine ZR fun K hK => ?_; simp (maxSteps := 1000000) [ty29, ty28, ty3, hwl, hfl]; refine hK _ ?_; clear hK K
    (repeat refine ZQ ?_); refine ZC (fun hd => ?_) (fun hd => ?_)
    ·simp at hd
    ·clear hd
     refine awp_skip ?_
     (repeat refine ZQ ?_); refine ZR fun K hK => ?_; simp (maxSteps := 1000000) [ty110]; refine hK _ ?_; clear hK K
     (repeat refine ZQ ?_); refine ZR fun K hK => ?_; simp (maxSteps := 1000000) [ty28, ty3, hwg]; refine hK _ ?_; clear hK K
     (repeat refine ZQ ?_); refine awp_block ?_
     refine AWP.weak ?_ (wk_nil 5 5 1 (fu := true) (by simp) (by simp))
     refine awp_loop (fun x : Nat => ⟨ofL [(1, .sl nl fu (f.map cI)), (2, .ptr 2 13 0 0), (5, .own 5 1 0 (A x).length), (6, encI (-w.gain + (x : Int)))], stoT [(2, 2, .live (obWs w)), (5, 5, .live ⟨(A x).isEmpty, false, 1, (A x).map rowP⟩)]⟩)
      (fun x => x ≤ m) (fun x => m - x) 0 (Nat.zero_le _) ?_ ?_
     ·rw [hA0]
      exact ZW
     ·intro x hx0
      have hlx := hAl x hx0
      have hst := hAs x
      have hPx := hPl (-w.gain + (x : Int))
      have hFx := hF x
      (repeat refine ZQ ?_); refine ZR fun K hK => ?_; simp (maxSteps := 1000000) [ty28, ty3]; refine hK _ ?_; clear hK K
      (repeat refine ZQ ?_); refine ZC (fun hc => ?_) (fun hc => ?_)
      ·simp at hc
       have hxm : x < m := by omega
       have hwx : IntKind.i64.wrap (-w.gain + (x : Int) + 1) = -w.gain + ((x + 1 : Nat) : Int) := by rw [wrap_id (by omega) (by omega)]; omega
       generalize allP (co w G) n (f ++ [-w.gain + (x : Int)]) = Z at *
       generalize hacc : A x = acc at *
       refine awp_skip ?_
       (repeat refine ZQ ?_); refine awp_block ?_
       (repeat refine ZQ ?_); refine ZD [4, 1001, 5007, 4008, 10032] [0, 1, 2, 3, 4, 5, 6, 7, 8, 9, 10] fun K hK => ?_; simp (maxSteps := 1000000) [ty28, ty29, ty110, ty3]
       refine ⟨⟨by omega, by omega⟩, ⟨by omega, by omega⟩, ?_⟩
       refine doesD (does_frz 35 (args' := [encWs w, .sl false false ((f ++ [-w.gain + (x : Int)]).map cI)]) (by simp; rfl) ?_ (.cons (.inl rfl) (.cons ?_ .nil)) ?_ hFx ?_) ?_
       ·simp [purel, C.isPure]
       ·have := fz_own (k := 35) (sz := 1) (n := f.length + 1) (b := false) (o := ⟨false, true, 1, f.map cI ++ [[encI (-w.gain + (x : Int))]]⟩) rfl (by simp) rfl
        simpa using this
       ·simp [purel, C.isPure]
       ·simp [C.isPure]
       simp [ty110, ty28, ty29]
       refine ⟨⟨by omega, by omega⟩, ?_⟩
       refine hK _ ?_; clear hK K
       (repeat refine ZQ ?_); refine ZR fun K hK => ?_; simp (maxSteps := 1000000) [ty3, hwx]; refine hK _ ?_; clear hK K; (first | show AWP _ _ _ _ _ | show ∃ _, _ | skip)
       refine ⟨x + 1, by omega, by omega, ?_⟩
       rw [hst]
       refine wk_shape (T := [(2, 2, .live (obWs w)), (5, 37, .live ⟨(acc ++ Z).isEmpty, false, 1, (acc ++ Z).map rowP⟩)]) (shp0 hσ (by simp) (by simp) ?_) ?_
       ·simp [SlotOk]
        exact ⟨.same (by simp [purel, C.isPure]), by cases acc <;> simp, .same (by rw [← List.map_append]; exact rowP_pure _)⟩
       ·simp [mtc, mtl, mT, C.isPure, purel]
      ·simp at hc
       (repeat refine ZQ ?_); refine awp_exit ?_; (first | show AWP _ _ _ _ _ | show ∃ _, _ | skip)
       obtain rfl : x = m := by omega
       (repeat refine ZQ ?_); refine ZR fun K hK => ?_; simp (maxSteps := 1000000) [ty110]; refine hK _ ?_; clear hK K
       (repeat refine ZQ ?_); refine awp_ret ?_; refine And.intro (Or.inr rfl) ?_
       refine ⟨_, by simp [retC, resC]; rfl, ?_⟩
       refine (viewC_own (o := ⟨(A x).isEmpty, false, 1, (A x).map rowP⟩) (by simp) rfl (by simp) (rowP_pure _)).trans ?_
       simp

set_option maxHeartbeats 8000000

-- all truths, as the reference has them

/-- All truths of a valid instrument. -/
def tlW (w : Ws) : List (List Int) := (allP (co w (gl w)) (w.last + 1).toNat []).filter fun l => decide ((wrL (gl w) (pF l) : Int) ≤ w.wrong)

theorem mem_tlW {w : Ws} (hok : WsOk w) {l : List Int} : l ∈ tlW w ↔ l.length = w.last.toNat + 1 ∧ Tru (co w (gl w)) (pF l) := by
 have hl := hok.last
 rw [← isTruB_iff hok]
 unfold tlW isTruB
 rw [List.mem_filter, mem_allP]
 simp only [Bool.and_eq_true, decide_eq_true_eq, List.length_nil, Nat.zero_add, List.nil_prefix, true_and]
 constructor
 ·rintro ⟨⟨h1, h2⟩, h3⟩; exact ⟨⟨by omega, h2⟩, h3⟩
 ·rintro ⟨⟨h1, h2⟩, h3⟩; exact ⟨⟨by omega, h2⟩, h3⟩

/-- The list of a path. -/
def lstP (p : Nat → Int) (n : Nat) : List Int := (List.range (n + 1)).map p
theorem lstP_at (p : Nat → Int) {n i : Nat} (h : i ≤ n) : pF (lstP p n) i = p i := by
 have hi : i < (lstP p n).length := by simp [lstP]; omega
 rw [pF_at hi]; simp [lstP]

theorem tru_congr {c : Co} {p q : Nat → Int} (h : ∀ i, i ≤ c.last.toNat → p i = q i) (hp : Tru c p) : Tru c q := ⟨hp.1.congr h, by rw [← wrs_congr h]; exact hp.2⟩

theorem lst_mem {w : Ws} (hok : WsOk w) {p : Nat → Int} (hp : Tru (co w (gl w)) p) : lstP p w.last.toNat ∈ tlW w :=
 (mem_tlW hok).2 ⟨by simp [lstP], tru_congr (fun i hi => (lstP_at p hi).symm) hp⟩

theorem tlW_nil {w : Ws} (hok : WsOk w) : tlW w = [] ↔ canC (co w (gl w)) [] = false := by
 rw [Bool.eq_false_iff, Ne, can_nil]
 constructor
 ·rintro h ⟨p, hp⟩
  have := lst_mem hok hp
  rw [h] at this; simp at this
 ·intro h
  refine List.eq_nil_iff_forall_not_mem.2 fun l hl => h ⟨_, ((mem_tlW hok).1 hl).2⟩

def knW (w : Ws) (is : Bool) : List (List Int) := if openW w is = 0 then tlW w else []

/-- Small enough for the reference. -/
structure SmallW (w : Ws) : Prop where
  gain : w.gain ≤ 3
  last : w.last ≤ 5
  vs : w.vs.length ≤ 3

theorem q_known84 (w : Ws) (is : Bool) (hn : WsLen w) (hsm : checkW w = 0 → SmallW w) : Pure Tryz.prog 84 [encWs w, .bool is] (.tup [.sl (knW w is).isEmpty (knW w is).isEmpty ((knW w is).map rowP), encI (openW w is)]) := by
 have hck := q_check32 w hn
 by_cases hz : checkW w = 0
 ·have hok := checkW_ok.1 hz
  have hs := hsm hz
  rw [hz] at hck
  cases is
  ·have ho : openW w false = 1 := by unfold openW; rw [if_neg (by simpa using hz), if_pos rfl]
   have hk : knW w false = [] := by unfold knW; rw [ho]; rfl
   rw [ho, hk]
   refine ZF (fn := Tryz.f84) [.tmp 4, .tmp 5] ⟨Tryz.func84, rfl, by kernel_rfl⟩ fun x hx hσ => ?_
   (repeat refine ZQ ?_); refine ZR fun K hK => ?_; simp (maxSteps := 1000000) [ty28, ty110, ty37]; refine hK _ ?_; clear hK K
   (repeat refine ZQ ?_); refine ZR fun K hK => ?_; simp (maxSteps := 1000000) [ty28]
   refine ZP (hck) ?_; simp (maxSteps := 1000000)
   refine hK _ ?_; clear hK K
   (repeat refine ZQ ?_); refine ZR fun K hK => ?_; simp (maxSteps := 1000000) [ty37]; refine hK _ ?_; clear hK K
   (repeat refine ZQ ?_); refine ZC (fun hd => ?_) (fun hd => ?_)
   ·simp at hd
   ·clear hd
    refine awp_skip ?_
    (repeat refine ZQ ?_); refine ZR fun K hK => ?_; simp (maxSteps := 1000000) [ty4]; refine hK _ ?_; clear hK K
    (repeat refine ZQ ?_); refine ZC (fun hd => ?_) (fun hd => ?_)
    ·clear hd
     (repeat refine ZQ ?_); refine ZR fun K hK => ?_; simp (maxSteps := 1000000) [ty110, ty37]; refine hK _ ?_; clear hK K
     (repeat refine ZQ ?_); refine awp_ret ?_; refine And.intro (Or.inr rfl) ?_
     simp [retC, resC, viewC, mapO]
    ·simp at hd
  ·have hla := hok.last
   have hgn := hok.num.gain
   obtain ⟨a, b, hall⟩ := q_all81 w (gl w) (by have := hs.gain; omega) (by have := hs.last; omega) (w.last + 1).toNat [] true true (by simp; omega) (fun h => by omega)
   have hgs := q_gains82 w hn
   have hT : knW w true = tlW w := by
    unfold knW
    split
    ·rfl
    ·rename_i h
     refine ((tlW_nil hok).2 ?_).symm
     rw [Bool.eq_false_iff]
     intro e
     exact h (openW_true' hz e)
   have hE : openW w true = if tlW w = [] then 3 else 0 := by
    split
    ·rename_i h
     have := (tlW_nil hok).1 h
     unfold openW
     rw [if_neg (by simpa using hz), if_neg (by simp), if_pos this]
    ·rename_i h
     refine openW_true' hz ?_
     cases hc : canC (co w (gl w)) []
     ·exact absurd ((tlW_nil hok).2 hc) h
     ·rfl
   rw [hT, hE]
   obtain ⟨L, hL⟩ : ∃ L, allP (co w (gl w)) (w.last + 1).toNat [] = L := ⟨_, rfl⟩
   have hLl : L.length ≤ 117649 := by
    have hsl : (seqI (-(co w (gl w)).gain) (co w (gl w)).gain).length ≤ 7 := by
     have : (seqI (-(co w (gl w)).gain) (co w (gl w)).gain).length = ((co w (gl w)).gain - -(co w (gl w)).gain + 1).toNat := seqN_len _ _
     have := hs.gain
     simp only at *; omega
    rw [← hL]
    exact Nat.le_trans (allP_len hsl (by decide) _ _) (Nat.le_trans (Nat.pow_le_pow_right (by decide) (by have := hs.last; omega : (w.last + 1).toNat ≤ 6)) (by decide))
   have hLm : ∀ l ∈ L, (l.length : Int) = w.last + 1 := fun l hl => by
    rw [← hL] at hl
    have := ((mem_allP _ _ _ _).1 hl).1
    simp at this; omega
   have htl : tlW w = L.filter fun l => decide ((wrL (gl w) (pF l) : Int) ≤ w.wrong) := by rw [← hL]; rfl
   rw [hL] at hall
   rw [htl]
   clear hL htl hT hE
   obtain ⟨q, hq⟩ : ∃ q : List Int → Bool, q = fun l => decide ((wrL (gl w) (pF l) : Int) ≤ w.wrong) := ⟨_, rfl⟩
   rw [← hq]
   obtain ⟨A, hA⟩ : ∃ A : Nat → List (List Int), ∀ i, (L.take i).filter q = A i := ⟨_, fun _ => rfl⟩
   have hA0 : A 0 = [] := by rw [← hA]; rfl
   have hAN : L.filter q = A L.length := by rw [← hA, List.take_length]
   have hAs : ∀ i (h : i < L.length), A (i + 1) = if q L[i] then A i ++ [L[i]] else A i := fun i h => by
    rw [← hA, ← hA, List.take_succ_eq_append_getElem h, List.filter_append]
    cases hb : q L[i] <;> simp [hb]
   have hAl : ∀ i, i ≤ L.length → (A i).length ≤ 117649 := fun i hi => by
    rw [← hA]
    refine Nat.le_trans (List.length_filter_le _ _) ?_
    rw [List.length_take]; omega
   have hLp : (L.map rowP).all purel = true := rowP_pure L
   have hwr := fun (l : List Int) (hl : l ∈ L) => q_wrongs83 w w.vs.isEmpty false false false l hn fun v hv => by
    obtain ⟨i, hi, rfl⟩ := List.getElem_of_mem hv
    have h1 := hok.day i hi
    have h2 := hLm l hl
    omega
   rw [hAN]
   have hgp := gsN_pure w
   generalize gsN w = GS at *
   refine ZF (fn := Tryz.f84) [.tmp 4, .tmp 5] ⟨Tryz.func84, rfl, by kernel_rfl⟩ fun x hx hσ => ?_
   (repeat refine ZQ ?_); refine ZR fun K hK => ?_; simp (maxSteps := 1000000) [ty28, ty110, ty37]; refine hK _ ?_; clear hK K
   (repeat refine ZQ ?_); refine ZR fun K hK => ?_; simp (maxSteps := 1000000) [ty28]
   refine ZP (hck) ?_; simp (maxSteps := 1000000)
   refine hK _ ?_; clear hK K
   (repeat refine ZQ ?_); refine ZR fun K hK => ?_; simp (maxSteps := 1000000) [ty37]; refine hK _ ?_; clear hK K
   (repeat refine ZQ ?_); refine ZC (fun hd => ?_) (fun hd => ?_)
   ·simp at hd
   ·clear hd
    refine awp_skip ?_
    (repeat refine ZQ ?_); refine ZR fun K hK => ?_; simp (maxSteps := 1000000) [ty4]; refine hK _ ?_; clear hK K
    (repeat refine ZQ ?_); refine ZC (fun hd => ?_) (fun hd => ?_)
    ·simp at hd
    ·clear hd
     refine awp_skip ?_
     (repeat refine ZQ ?_); refine ZR fun K hK => ?_; simp (maxSteps := 1000000) [ty110]; refine hK _ ?_; clear hK K
     (repeat refine ZQ ?_); refine ZD [] [0, 1, 2, 3, 4, 5] fun K hK => ?_; simp (maxSteps := 1000000) [ty28, ty110]
     refine ZE (hall) ?_; simp (maxSteps := 1000000) [ty28, ty110]
     refine ZE (hgs) ?_; simp (maxSteps := 1000000) [ty110]
     refine hK _ ?_; clear hK K
     (repeat refine ZQ ?_); refine ZR fun K hK => ?_; simp (maxSteps := 1000000) [ty3]; refine hK _ ?_; clear hK K
     (repeat refine ZQ ?_); refine awp_block ?_
     refine AWP.weak ?_ (wk_nil 7 7 1 (fu := true) (by simp) (by simp))
     refine awp_loop (fun i : Nat => ⟨ofL [(2, .ptr 2 13 0 0), (7, .own 7 1 0 (A i).length), (8, .sl a b (L.map rowP)), (9, .sl w.vs.isEmpty false GS), (10, encI i)], stoT [(2, 2, .live (obWs w)), (7, 7, .live ⟨(A i).isEmpty, false, 1, (A i).map rowP⟩)]⟩)
      (fun i => i ≤ L.length) (fun i => L.length - i) 0 (Nat.zero_le _) ?_ ?_
     ·rw [hA0]
      refine wk_shape (shp0 hσ (by simp) (by simp) ?_) ?_
      ·simp [SlotOk]
       exact .same (by simp [purel, C.isPure])
      ·simp [mtc, mtl, mT, C.isPure, purel]
     ·intro i hi
      have hli := hAl i hi
      (repeat refine ZQ ?_); refine ZR fun K hK => ?_; simp (maxSteps := 1000000) [ty110, ty3]; refine hK _ ?_; clear hK K
      (repeat refine ZQ ?_); refine ZC (fun hc => ?_) (fun hc => ?_)
      ·simp at hc
       have hwi : IntKind.i64.wrap ((i : Int) + 1) = ((i + 1 : Nat) : Int) := by rw [wrap_id (by omega) (by omega)]; rfl
       have hst := hAs i hc
       have hcal := hwr L[i] (List.getElem_mem hc)
       have hqi : q L[i] = decide ((wrL (gl w) (pF L[i]) : Int) ≤ w.wrong) := by rw [hq]
       generalize wrL (gl w) (pF L[i]) = nw at *
       generalize hacc : A i = acc at *
       refine awp_skip ?_
       (repeat refine ZQ ?_); refine awp_block ?_
       cases hb : q L[i]
       ·rw [hb] at hst hqi
        simp at hst
        have hnw : ¬ (nw : Int) ≤ w.wrong := of_decide_eq_false hqi.symm
        (repeat refine ZQ ?_); refine ZD [] [0, 1, 2, 3, 4, 5, 6, 7, 8, 9] fun K hK => ?_; simp (maxSteps := 1000000) [ty28, ty110, ty29, ty3, hc]
        refine callPD hcal (by simp [purel, C.isPure]) (by simp) ?_
        simp [ty28, ty3, hnw]
        refine hK _ ?_; clear hK K
        (repeat refine ZQ ?_); refine ZC (hc := by simp [hnw]; rfl) (fun hd => ?_) (fun hd => ?_)
        ·simp [hnw] at hd
        ·clear hd
         refine awp_skip ?_
         (repeat refine ZQ ?_); refine ZR fun K hK => ?_; simp (maxSteps := 1000000) [ty3]; refine hK _ ?_; clear hK K; (first | show AWP _ _ _ _ _ | show ∃ _, _ | skip)
         refine ⟨i + 1, by omega, by omega, ?_⟩
         rw [hst, hwi]
         refine wk_shape (shp0 hσ (by simp) (by simp) ?_) ?_
         ·simp [SlotOk]
          exact ⟨.same (by simp [purel, C.isPure]), .same (rowP_pure _)⟩
         ·simp [mtc, mtl, mT, C.isPure, purel]
       ·rw [hb] at hst hqi
        simp at hst
        have hnw : (nw : Int) ≤ w.wrong := of_decide_eq_true hqi.symm
        (repeat refine ZQ ?_); refine ZD [] [0, 1, 2, 3, 4, 5, 6, 7, 8, 9] fun K hK => ?_; simp (maxSteps := 1000000) [ty28, ty110, ty29, ty3, hc]
        refine callPD hcal (by simp [purel, C.isPure]) (by simp) ?_
        simp [ty28, ty3, hnw]
        refine hK _ ?_; clear hK K
        (repeat refine ZQ ?_); refine ZC (hc := by simp [hnw]; rfl) (fun hd => ?_) (fun hd => ?_)
        ·clear hd
         (repeat refine ZQ ?_); refine ZR fun K hK => ?_; simp (maxSteps := 1000000) [ty110, ty29, ty3, hc]
         refine ⟨by omega, ?_⟩
         refine hK _ ?_; clear hK K
         (repeat refine ZQ ?_); refine ZR fun K hK => ?_; simp (maxSteps := 1000000) [ty3]; refine hK _ ?_; clear hK K; (first | show AWP _ _ _ _ _ | show ∃ _, _ | skip)
         refine ⟨i + 1, by omega, by omega, ?_⟩
         rw [hst, hwi]
         refine wk_shape (T := [(2, 2, .live (obWs w)), (7, 44, .live ⟨(acc ++ [L[i]]).isEmpty, false, 1, (acc ++ [L[i]]).map rowP⟩)]) (shp0 hσ (by simp) (by simp) ?_) ?_
         ·simp [SlotOk]
          exact ⟨.same (by simp [purel, C.isPure]), .same (by
           have h1 := rowP_pure (acc ++ [L[i]])
           rw [List.map_append] at h1
           exact h1)⟩
         ·simp [mtc, mtl, mT, C.isPure, purel]
        ·simp [hnw] at hd
      ·simp at hc
       (repeat refine ZQ ?_); refine awp_exit ?_; (first | show AWP _ _ _ _ _ | show ∃ _, _ | skip)
       have hiN : i = L.length := by omega
       subst hiN
       generalize A L.length = T at *
       have hpT := rowP_pure T
       by_cases hT0 : T = []
       ·subst hT0
        (repeat refine ZQ ?_); refine ZR fun K hK => ?_; simp (maxSteps := 1000000) [ty110, ty3]; refine hK _ ?_; clear hK K
        (repeat refine ZQ ?_); refine ZC (fun hd => ?_) (fun hd => ?_)
        ·clear hd
         (repeat refine ZQ ?_); refine ZR fun K hK => ?_; simp (maxSteps := 1000000) [ty110, ty37]; refine hK _ ?_; clear hK K
         (repeat refine ZQ ?_); refine awp_ret ?_; refine And.intro (Or.inr rfl) ?_
         simp [retC, resC, viewC, mapO]
        ·simp at hd
       ·have hTl : ((T.length : Int) == 0) = false := by
         rw [beq_eq_false_iff_ne]; intro e; exact hT0 (List.eq_nil_of_length_eq_zero (by omega))
        have hTe : T.isEmpty = false := by cases T with
         | nil => exact absurd rfl hT0
         | cons a l => rfl
        (repeat refine ZQ ?_); refine ZR fun K hK => ?_; simp (maxSteps := 1000000) [ty110, ty3, hTl]; refine hK _ ?_; clear hK K
        (repeat refine ZQ ?_); refine ZC (hc := by simp [hTl]; rfl) (fun hd => ?_) (fun hd => ?_)
        ·simp [hTl] at hd
        ·clear hd
         refine awp_skip ?_
         (repeat refine ZQ ?_); refine ZR fun K hK => ?_; simp (maxSteps := 1000000) [ty110, ty37]; refine hK _ ?_; clear hK K
         (repeat refine ZQ ?_); refine awp_ret ?_; refine And.intro (Or.inr rfl) ?_
         refine ⟨_, by simp [retC, resC]; rfl, ?_⟩
         unfold viewC
         rw [if_neg (by simp [C.isPure, purel])]
         simp only [mapO]
         rw [viewC_own (o := ⟨T.isEmpty, false, 1, T.map rowP⟩) (by simp) rfl (by simp) hpT, viewC_self rfl]
         simp [hT0, hTe]
 ·have ho : openW w is = checkW w := if_pos hz
  have hk : knW w is = [] := by unfold knW; rw [ho, if_neg hz]
  rw [ho, hk]
  refine ZF (fn := Tryz.f84) [.tmp 4, .tmp 5] ⟨Tryz.func84, rfl, by kernel_rfl⟩ fun x hx hσ => ?_
  (repeat refine ZQ ?_); refine ZR fun K hK => ?_; simp (maxSteps := 1000000) [ty28, ty110, ty37]; refine hK _ ?_; clear hK K
  (repeat refine ZQ ?_); refine ZR fun K hK => ?_; simp (maxSteps := 1000000) [ty28]
  refine ZP (hck) ?_; simp (maxSteps := 1000000)
  refine hK _ ?_; clear hK K
  (repeat refine ZQ ?_); refine ZR fun K hK => ?_; simp (maxSteps := 1000000) [ty37]; refine hK _ ?_; clear hK K
  (repeat refine ZQ ?_); refine ZC (hc := by simp [hz]; rfl) (fun hd => ?_) (fun hd => ?_)
  ·clear hd
   (repeat refine ZQ ?_); refine ZR fun K hK => ?_; simp (maxSteps := 1000000) [ty110, ty37]; refine hK _ ?_; clear hK K
   (repeat refine ZQ ?_); refine awp_ret ?_; refine And.intro (Or.inr rfl) ?_
   simp [retC, resC, viewC, mapO]
  ·simp [hz] at hd

set_option maxHeartbeats 8000000

-- gains of a day in some truths, and their doubt, as the reference has them

def onR (c : Co) (X : List (List Int)) (d : Nat) : List Int := (seqI (-c.gain) c.gain).filter fun n => X.any fun l => pF l d == n
def withL (X : List (List Int)) (d : Nat) (g : Int) : List (List Int) := X.filter fun l => pF l d == g
def doubtR (c : Co) (X : List (List Int)) : Nat → Int
 | 0 => 0
 | n + 1 => doubtR c X n + spanL (onR c X n)

theorem onR_tl {w : Ws} (hok : WsOk w) {d : Nat} (hd : d ≤ w.last.toNat) : onR (co w (gl w)) (tlW w) d = onC (co w (gl w)) (d : Nat) [] := by
 unfold onR onC
 refine List.filter_congr fun n hn => ?_
 rw [Bool.eq_iff_iff]
 have h1 := on_nil (co w (gl w)) d hd n
 have h2 : n ∈ onC (co w (gl w)) (d : Nat) [] ↔ onB (co w (gl w)) d [] n = true := by
  unfold onC; rw [List.mem_filter]; exact ⟨fun h => h.2, fun h => ⟨hn, h⟩⟩
 rw [← h2, h1, List.any_eq_true]
 constructor
 ·rintro ⟨l, hl, he⟩
  exact ⟨_, ((mem_tlW hok).1 hl).2, by simpa using he⟩
 ·rintro ⟨p, hp, he⟩
  exact ⟨_, lst_mem hok hp, by rw [lstP_at p hd, he]; simp⟩

theorem onR_with {w : Ws} (hok : WsOk w) {a d : Nat} (ha : a ≤ w.last.toNat) (hd : d ≤ w.last.toNat) (g : Int) : onR (co w (gl w)) (withL (tlW w) a g) d = onC (co w (gl w)) (d : Nat) [((a : Int), g)] := by
 unfold onR onC
 refine List.filter_congr fun n hn => ?_
 rw [Bool.eq_iff_iff]
 have h1 := on_one (co w (gl w)) a d g ha hd n
 have h2 : n ∈ onC (co w (gl w)) (d : Nat) [((a : Int), g)] ↔ onB (co w (gl w)) d [((a : Int), g)] n = true := by
  unfold onC; rw [List.mem_filter]; exact ⟨fun h => h.2, fun h => ⟨hn, h⟩⟩
 rw [← h2, h1, List.any_eq_true]
 unfold withL
 constructor
 ·rintro ⟨l, hl, he⟩
  obtain ⟨h3, h4⟩ := List.mem_filter.1 hl
  exact ⟨_, ((mem_tlW hok).1 h3).2, by simpa using he, by simpa using h4⟩
 ·rintro ⟨p, hp, e1, e2⟩
  exact ⟨_, List.mem_filter.2 ⟨lst_mem hok hp, by rw [lstP_at p ha, e2]; simp⟩, by rw [lstP_at p hd, e1]; simp⟩

theorem withL_nil {w : Ws} (hok : WsOk w) {a : Nat} (ha : a ≤ w.last.toNat) {g : Int} : withL (tlW w) a g ≠ [] ↔ g ∈ onC (co w (gl w)) (a : Nat) [] := by
 rw [on_nil _ a ha]
 constructor
 ·intro h
  obtain ⟨l, hl⟩ := List.exists_mem_of_ne_nil _ h
  obtain ⟨h3, h4⟩ := List.mem_filter.1 hl
  exact ⟨_, ((mem_tlW hok).1 h3).2, by simpa using h4⟩
 ·rintro ⟨p, hp, e⟩
  exact List.ne_nil_of_mem (List.mem_filter.2 ⟨lst_mem hok hp, by rw [lstP_at p ha, e]; simp⟩)

theorem doubtR_eq {c c' : Co} {X : List (List Int)} {M : List (Int × Int)} : ∀ n : Nat, (∀ d, d < n → onR c X d = onC c' (d : Nat) M) → doubtR c X n = doubtTo c' M n
 | 0, _ => rfl
 | n + 1, h => by
  simp only [doubtR, doubtTo]
  rw [doubtR_eq n fun d hd => h d (by omega), h n (by omega)]

theorem q_with89 (nl fu : Bool) (X : List (List Int)) (d : Nat) (g : Int) (hX : X.length ≤ 1000000) (hl : ∀ l ∈ X, d < l.length) : Pure Tryz.prog 89 [.sl nl fu (X.map rowP), encI d, encI g] (.sl (withL X d g).isEmpty false ((withL X d g).map rowP)) := by
 obtain ⟨A, hA⟩ : ∃ A : Nat → List (List Int), ∀ i, ((X.take i).filter fun l => pF l d == g) = A i := ⟨_, fun _ => rfl⟩
 have hA0 : A 0 = [] := by rw [← hA]; rfl
 have hAN : withL X d g = A X.length := by rw [← hA, List.take_length]; rfl
 have hAs : ∀ i (h : i < X.length), A (i + 1) = if (pF X[i] d == g) = true then A i ++ [X[i]] else A i := fun i h => by
  rw [← hA, ← hA, List.take_succ_eq_append_getElem h, List.filter_append]
  cases hb : pF X[i] d == g <;> simp [hb]
 have hAl : ∀ i, i ≤ X.length → (A i).length ≤ 1000000 := fun i hi => by
  rw [← hA]
  refine Nat.le_trans (List.length_filter_le _ _) ?_
  rw [List.length_take]; omega
 rw [hAN]
 clear hA hAN
 refine ZF (fn := Tryz.f89) [.tmp 6] ⟨Tryz.func89, rfl, by kernel_rfl⟩ fun x hx hσ => ?_
 (repeat refine ZQ ?_); refine ZR fun K hK => ?_; simp (maxSteps := 1000000) [ty110]; refine hK _ ?_; clear hK K
 (repeat refine ZQ ?_); refine ZR fun K hK => ?_; simp (maxSteps := 1000000) [ty110]; refine hK _ ?_; clear hK K
 (repeat refine ZQ ?_); refine ZR fun K hK => ?_; simp (maxSteps := 1000000) [ty3]; refine hK _ ?_; clear hK K
 (repeat refine ZQ ?_); refine awp_block ?_
 refine AWP.weak ?_ (wk_nil 7 7 1 (fu := true) (by simp) (by simp))
 refine awp_loop (fun i : Nat => ⟨ofL [(0, .sl nl fu (X.map rowP)), (1, encI d), (2, encI g), (7, .own 7 1 0 (A i).length), (8, encI i)], stoT [(7, 7, .live ⟨(A i).isEmpty, false, 1, (A i).map rowP⟩)]⟩)
  (fun i => i ≤ X.length) (fun i => X.length - i) 0 (Nat.zero_le _) ?_ ?_
 ·rw [hA0]
  exact ZW
 ·intro i hi
  have hli := hAl i hi
  (repeat refine ZQ ?_); refine ZR fun K hK => ?_; simp (maxSteps := 1000000) [ty110, ty3]; refine hK _ ?_; clear hK K
  (repeat refine ZQ ?_); refine ZC (fun hc => ?_) (fun hc => ?_)
  ·simp at hc
   have hwi : IntKind.i64.wrap ((i : Int) + 1) = ((i + 1 : Nat) : Int) := by rw [wrap_id (by omega) (by omega)]; rfl
   have hst := hAs i hc
   have hdl := hl _ (List.getElem_mem hc)
   rw [pF_at hdl] at hst
   generalize hacc : A i = acc at *
   refine awp_skip ?_
   (repeat refine ZQ ?_); refine awp_block ?_
   cases hb : X[i][d] == g
   ·rw [hb] at hst
    simp at hst
    (repeat refine ZQ ?_); refine ZR fun K hK => ?_; simp (maxSteps := 1000000) [ty110, ty29, ty3, hc, hdl, hb]; refine hK _ ?_; clear hK K
    (repeat refine ZQ ?_); refine ZC (hc := by simp [hb]; rfl) (fun hd => ?_) (fun hd => ?_)
    ·simp [hb] at hd
    ·clear hd
     refine awp_skip ?_
     (repeat refine ZQ ?_); refine ZR fun K hK => ?_; simp (maxSteps := 1000000) [ty3]; refine hK _ ?_; clear hK K; (first | show AWP _ _ _ _ _ | show ∃ _, _ | skip)
     refine ⟨i + 1, by omega, by omega, ?_⟩
     rw [hst, hwi]
     refine wk_shape (shp0 hσ (by simp) (by simp) ?_) ?_
     ·simp [SlotOk]
      exact .same (rowP_pure _)
     ·simp [mtc, mtl, mT, C.isPure, purel]
   ·rw [hb] at hst
    simp at hst
    (repeat refine ZQ ?_); refine ZR fun K hK => ?_; simp (maxSteps := 1000000) [ty110, ty29, ty3, hc, hdl, hb]; refine hK _ ?_; clear hK K
    (repeat refine ZQ ?_); refine ZC (hc := by simp [hb]; rfl) (fun hd => ?_) (fun hd => ?_)
    ·clear hd
     (repeat refine ZQ ?_); refine ZR fun K hK => ?_; simp (maxSteps := 1000000) [ty110, ty29, ty3, hc]
     refine ⟨by omega, ?_⟩
     refine hK _ ?_; clear hK K
     (repeat refine ZQ ?_); refine ZR fun K hK => ?_; simp (maxSteps := 1000000) [ty3]; refine hK _ ?_; clear hK K; (first | show AWP _ _ _ _ _ | show ∃ _, _ | skip)
     refine ⟨i + 1, by omega, by omega, ?_⟩
     rw [hst, hwi]
     refine wk_shape (T := [(7, 30, .live ⟨(acc ++ [X[i]]).isEmpty, false, 1, (acc ++ [X[i]]).map rowP⟩)]) (shp0 hσ (by simp) (by simp) ?_) ?_
     ·simp [SlotOk]
      exact .same (by
       have h1 := rowP_pure (acc ++ [X[i]])
       rw [List.map_append] at h1
       exact h1)
     ·simp [mtc, mtl, mT, C.isPure, purel]
    ·simp [hb] at hd
  ·simp at hc
   (repeat refine ZQ ?_); refine awp_exit ?_; (first | show AWP _ _ _ _ _ | show ∃ _, _ | skip)
   have hiN : i = X.length := by omega
   subst hiN
   generalize A X.length = T at *
   (repeat refine ZQ ?_); refine ZR fun K hK => ?_; simp (maxSteps := 1000000) [ty110]; refine hK _ ?_; clear hK K
   (repeat refine ZQ ?_); refine awp_ret ?_; refine And.intro (Or.inr rfl) ?_
   refine ⟨_, by simp [retC, resC]; rfl, ?_⟩
   refine (viewC_own (o := ⟨T.isEmpty, false, 1, T.map rowP⟩) (by simp) rfl (by simp) (rowP_pure _)).trans ?_
   simp

set_option maxHeartbeats 8000000

theorem q_on87 (w : Ws) (G : List (Int × List Int)) (nl fu : Bool) (X : List (List Int)) (d : Nat) (hg : 0 ≤ w.gain ∧ w.gain ≤ 50) (hX : X.length ≤ 1000000) (hl : ∀ l ∈ X, d < l.length) :
  Pure Tryz.prog 87 [encWs w, .sl nl fu (X.map rowP), encI d] (.sl (onR (co w G) X d).isEmpty false ((onR (co w G) X d).map cI)) := by
 have hwg : IntKind.i64.wrap (-w.gain) = -w.gain := wrap_id (by omega) (by omega)
 obtain ⟨N, hN⟩ : ∃ N : Nat, (w.gain - -w.gain + 1).toNat = N := ⟨_, rfl⟩
 have hN' : (N : Int) = w.gain - -w.gain + 1 := by omega
 obtain ⟨A, hA⟩ : ∃ A : Nat → List Int, ∀ i, ((seqN (-w.gain) i).filter fun n => X.any fun l => pF l d == n) = A i := ⟨_, fun _ => rfl⟩
 have hA0 : A 0 = [] := by rw [← hA]; rfl
 have hAN : onR (co w G) X d = A N := by
  rw [← hA]; unfold onR seqI
  rw [show ((co w G).gain - -(co w G).gain + 1).toNat = N by simp only; omega]
 have hAs : ∀ i : Nat, A (i + 1) = if (X.any fun l => pF l d == -w.gain + (i : Int)) = true then A i ++ [-w.gain + (i : Int)] else A i := fun i => by
  rw [← hA, ← hA, seqN_step, List.filter_append]
  cases hb : X.any fun l => pF l d == -w.gain + (i : Int) <;> simp [hb]
 have hAl : ∀ i, (A i).length ≤ i := fun i => by
  rw [← hA]
  refine Nat.le_trans (List.length_filter_le _ _) ?_
  rw [seqN_len]; omega
 rw [hAN]
 clear hA hAN
 have hpX := rowP_pure X
 refine ZF (fn := Tryz.f87) [.tmp 6] ⟨Tryz.func87, rfl, by kernel_rfl⟩ fun x hx hσ => ?_
 (repeat refine ZQ ?_); refine ZR fun K hK => ?_; simp (maxSteps := 1000000) [ty28, ty29]; refine hK _ ?_; clear hK K
 (repeat refine ZQ ?_); refine ZR fun K hK => ?_; simp (maxSteps := 1000000) [ty29]; refine hK _ ?_; clear hK K
 (repeat refine ZQ ?_); refine ZR fun K hK => ?_; simp (maxSteps := 1000000) [ty28, ty3, hwg]; refine hK _ ?_; clear hK K
 (repeat refine ZQ ?_); refine awp_block ?_
 refine AWP.weak ?_ (wk_nil 7 7 1 (fu := true) (by simp) (by simp))
 refine awp_loop (fun i : Nat => ⟨ofL [(1, .sl nl fu (X.map rowP)), (2, encI d), (3, .ptr 3 13 0 0), (7, .own 7 1 0 (A i).length), (8, encI (-w.gain + (i : Int)))], stoT [(3, 3, .live (obWs w)), (7, 7, .live ⟨(A i).isEmpty, false, 1, (A i).map cI⟩)]⟩)
  (fun i => i ≤ N) (fun i => N - i) 0 (Nat.zero_le _) ?_ ?_
 ·rw [hA0]
  exact ZW
 ·intro i hi
  have hli := hAl i
  (repeat refine ZQ ?_); refine ZR fun K hK => ?_; simp (maxSteps := 1000000) [ty28, ty3]; refine hK _ ?_; clear hK K
  (repeat refine ZQ ?_); refine ZC (fun hc => ?_) (fun hc => ?_)
  ·simp at hc
   have hiN : i < N := by omega
   have hwi : IntKind.i64.wrap (-w.gain + (i : Int) + 1) = -w.gain + ((i + 1 : Nat) : Int) := by rw [wrap_id (by omega) (by omega)]; omega
   have hst := hAs i
   obtain ⟨n, hn⟩ : ∃ n, -w.gain + (i : Int) = n := ⟨_, rfl⟩
   rw [hn] at hst hwi
   simp only [hn]
   generalize hacc : A i = acc at *
   refine awp_skip ?_
   (repeat refine ZQ ?_); refine awp_block ?_
   (repeat refine ZQ ?_); refine ZR fun K hK => ?_; simp (maxSteps := 1000000) [ty3]; refine hK _ ?_; clear hK K
   (repeat refine ZQ ?_); refine awp_block ?_
   refine awp_loop (fun k : Nat => ⟨ofL [(1, .sl nl fu (X.map rowP)), (2, encI d), (3, .ptr 3 13 0 0), (7, .own 7 1 0 acc.length), (8, encI n), (9, encI k)], stoT [(3, 3, .live (obWs w)), (7, 7, .live ⟨acc.isEmpty, false, 1, acc.map cI⟩)]⟩)
    (fun k => k ≤ X.length ∧ ∀ j, (h : j < X.length) → j < k → (pF X[j] d == n) = false) (fun k => X.length - k) 0 (by simp) ?_ ?_
   ·exact ZW
   ·intro k ⟨hk, hkm⟩
    (repeat refine ZQ ?_); refine ZR fun K hK => ?_; simp (maxSteps := 1000000) [ty110, ty3]; refine hK _ ?_; clear hK K
    (repeat refine ZQ ?_); refine ZC (fun hc2 => ?_) (fun hc2 => ?_)
    ·simp at hc2
     have hwk : IntKind.i64.wrap ((k : Int) + 1) = ((k + 1 : Nat) : Int) := by rw [wrap_id (by omega) (by omega)]; rfl
     have hdl := hl _ (List.getElem_mem hc2)
     have hpk := pF_at hdl
     refine awp_skip ?_
     (repeat refine ZQ ?_); refine awp_block ?_
     cases hb : X[k][d] == n
     ·(repeat refine ZQ ?_); refine ZR fun K hK => ?_; simp (maxSteps := 1000000) [ty110, ty29, ty3, hc2, hdl, hb]; refine hK _ ?_; clear hK K
      (repeat refine ZQ ?_); refine ZC (hc := by simp [hb]; rfl) (fun hd => ?_) (fun hd => ?_)
      ·simp [hb] at hd
      ·clear hd
       refine awp_skip ?_
       (repeat refine ZQ ?_); refine ZR fun K hK => ?_; simp (maxSteps := 1000000) [ty3]; refine hK _ ?_; clear hK K; (first | show AWP _ _ _ _ _ | show ∃ _, _ | skip)
       refine ⟨k + 1, ⟨by omega, fun j h1 h2 => ?_⟩, by omega, ?_⟩
       ·by_cases hjk : j = k
        ·subst hjk; rw [hpk]; exact hb
        ·exact hkm j h1 (by omega)
       ·rw [hwk]
        exact ZW
     ·have hany : (X.any fun l => pF l d == n) = true := List.any_eq_true.2 ⟨_, List.getElem_mem hc2, by rw [hpk]; exact hb⟩
      rw [if_pos hany] at hst
      (repeat refine ZQ ?_); refine ZR fun K hK => ?_; simp (maxSteps := 1000000) [ty110, ty29, ty3, hc2, hdl, hb]; refine hK _ ?_; clear hK K
      (repeat refine ZQ ?_); refine ZC (hc := by simp [hb]; rfl) (fun hd => ?_) (fun hd => ?_)
      ·clear hd
       (repeat refine ZQ ?_); refine ZR fun K hK => ?_; simp (maxSteps := 1000000) [ty29, ty3]
       refine ⟨by omega, ?_⟩
       refine hK _ ?_; clear hK K
       (repeat refine ZQ ?_); refine awp_exit ?_
       (repeat refine ZQ ?_); refine ZR fun K hK => ?_; simp (maxSteps := 1000000) [ty3]; refine hK _ ?_; clear hK K; (first | show AWP _ _ _ _ _ | show ∃ _, _ | skip)
       refine ⟨i + 1, by omega, by omega, ?_⟩
       rw [hwi]
       refine wk_shape (T := [(3, 3, .live (obWs w)), (7, 37, .live ⟨(A (i + 1)).isEmpty, false, 1, (A (i + 1)).map cI⟩)]) (shp0 hσ (by simp) (by simp) ?_) ?_
       ·simp [SlotOk, hst]
        exact ⟨.same (by simp [purel, C.isPure]), .same (by simp [purel, C.isPure])⟩
       ·simp [mtc, mtl, mT, C.isPure, purel, hst]
      ·simp [hb] at hd
    ·simp at hc2
     (repeat refine ZQ ?_); refine awp_exit ?_; (first | show AWP _ _ _ _ _ | show ∃ _, _ | skip)
     have hany : (X.any fun l => pF l d == n) = false := by
      rw [Bool.eq_false_iff]
      intro e
      obtain ⟨g, hg, h1⟩ := List.any_eq_true.1 e
      obtain ⟨m, hm, rfl⟩ := List.getElem_of_mem hg
      rw [hkm m hm (by omega)] at h1
      cases h1
     rw [if_neg (by rw [hany]; simp)] at hst
     (repeat refine ZQ ?_); refine ZR fun K hK => ?_; simp (maxSteps := 1000000) [ty3]; refine hK _ ?_; clear hK K; (first | show AWP _ _ _ _ _ | show ∃ _, _ | skip)
     refine ⟨i + 1, by omega, by omega, ?_⟩
     rw [hst, hwi]
     exact ZW
  ·simp at hc
   (repeat refine ZQ ?_); refine awp_exit ?_; (first | show AWP _ _ _ _ _ | show ∃ _, _ | skip)
   have hiN : i = N := by omega
   subst hiN
   generalize A i = T at *
   (repeat refine ZQ ?_); refine ZR fun K hK => ?_; simp (maxSteps := 1000000) [ty29]; refine hK _ ?_; clear hK K
   (repeat refine ZQ ?_); refine awp_ret ?_; refine And.intro (Or.inr rfl) ?_
   refine ⟨_, by simp [retC, resC]; rfl, ?_⟩
   refine (viewC_own (o := ⟨T.isEmpty, false, 1, T.map cI⟩) (by simp) rfl (by simp) (ints_pure _)).trans ?_
   simp

theorem onR_bd {c : Co} {X : List (List Int)} {d : Nat} {z : Int} (h : z ∈ onR c X d) : -c.gain ≤ z ∧ z ≤ c.gain := mem_seqI.1 (List.mem_filter.1 h).1
theorem onR_len (c : Co) (X : List (List Int)) (d : Nat) (hg : 0 ≤ c.gain ∧ c.gain ≤ 50) : (onR c X d).length ≤ 101 := by
 have h := List.length_filter_le (fun n => X.any fun l => pF l d == n) (seqI (-c.gain) c.gain)
 have h2 : (seqI (-c.gain) c.gain).length = (c.gain - -c.gain + 1).toNat := seqN_len _ _
 unfold onR
 omega
theorem onR_ne {c : Co} {X : List (List Int)} {d : Nat} (hX : X ≠ []) (hb : ∀ l ∈ X, -c.gain ≤ pF l d ∧ pF l d ≤ c.gain) : onR c X d ≠ [] := by
 obtain ⟨l, hl⟩ := List.exists_mem_of_ne_nil _ hX
 exact List.ne_nil_of_mem (List.mem_filter.2 ⟨mem_seqI.2 (hb l hl), List.any_eq_true.2 ⟨l, hl, by simp⟩⟩)

theorem q_doubt88 (w : Ws) (G : List (Int × List Int)) (nl fu : Bool) (X : List (List Int)) (hg : 0 ≤ w.gain ∧ w.gain ≤ 50) (hla : 1 ≤ w.last ∧ w.last ≤ 30) (hX : X.length ≤ 1000000) (hl : ∀ l ∈ X, l.length = w.last.toNat + 1) (hb : ∀ l ∈ X, ∀ d : Nat, d ≤ w.last.toNat → -w.gain ≤ pF l d ∧ pF l d ≤ w.gain) :
  Pure Tryz.prog 88 [encWs w, .sl nl fu (X.map rowP)] (encI (if X = [] then 0 else doubtR (co w G) X (w.last.toNat + 1))) := by
 have hpX := rowP_pure X
 have hbd : ∀ d : Nat, -100 * (d : Int) ≤ doubtR (co w G) X d ∧ doubtR (co w G) X d ≤ 100 * (d : Int) := by
  intro d
  induction d with
  | zero => simp [doubtR]
  | succ d ih =>
   have h1 : -100 ≤ spanL (onR (co w G) X d) ∧ spanL (onR (co w G) X d) ≤ 100 := by
    by_cases h0 : 0 < (onR (co w G) X d).length
    ·rw [← spanL_at h0]
     have h2 := onR_bd (List.getElem_mem (l := onR (co w G) X d) (n := (onR (co w G) X d).length - 1) (by omega))
     have h3 := onR_bd (List.getElem_mem (l := onR (co w G) X d) (n := 0) h0)
     simp only at h2 h3
     omega
    ·have : onR (co w G) X d = [] := List.eq_nil_of_length_eq_zero (by omega)
     rw [this]; simp [spanL]
   simp only [doubtR]
   omega
 by_cases hX0 : X = []
 ·subst hX0
  rw [if_pos rfl]
  have h0 : (0 : Int) ≤ w.last := by omega
  refine ZF (fn := Tryz.f88) [.tmp 4] ⟨Tryz.func88, rfl, by kernel_rfl⟩ fun x hx hσ => ?_
  (repeat refine ZQ ?_); refine ZR fun K hK => ?_; simp (maxSteps := 1000000) [ty28, ty3]; refine hK _ ?_; clear hK K
  (repeat refine ZQ ?_); refine ZR fun K hK => ?_; simp (maxSteps := 1000000) [ty3]; refine hK _ ?_; clear hK K
  (repeat refine ZQ ?_); refine ZR fun K hK => ?_; simp (maxSteps := 1000000) [ty3]; refine hK _ ?_; clear hK K
  (repeat refine ZQ ?_); refine awp_block ?_
  refine awp_loop (fun i : Nat => ⟨ofL [(1, .sl nl fu []), (2, .ptr 2 13 0 0), (5, encI 0), (6, encI 0)], stoT [(2, 2, .live (obWs w))]⟩)
   (fun i => i = 0) (fun i => 0) 0 rfl ?_ ?_
  ·exact Zw
  ·intro i hi
   (repeat refine ZQ ?_); refine ZR fun K hK => ?_; simp (maxSteps := 1000000) [ty28, ty3, ty4, ty110, h0]; refine hK _ ?_; clear hK K
   (repeat refine ZQ ?_); refine ZC (fun hd => ?_) (fun hd => ?_)
   ·simp at hd
   ·clear hd
    (repeat refine ZQ ?_); refine awp_exit ?_
    (repeat refine ZQ ?_); refine ZR fun K hK => ?_; simp (maxSteps := 1000000) [ty3]; refine hK _ ?_; clear hK K
    (repeat refine ZQ ?_); refine awp_ret ?_; refine And.intro (Or.inr rfl) ?_
    simp [retC, resC, viewC, mapO]
 ·rw [if_neg hX0]
  have hXl : (0 : Int) < X.length := by have := List.length_pos_iff.2 hX0; omega
  obtain ⟨N, hN⟩ : ∃ N : Nat, w.last.toNat + 1 = N := ⟨_, rfl⟩
  rw [hN]
  refine ZF (fn := Tryz.f88) [.tmp 4] ⟨Tryz.func88, rfl, by kernel_rfl⟩ fun x hx hσ => ?_
  (repeat refine ZQ ?_); refine ZR fun K hK => ?_; simp (maxSteps := 1000000) [ty28, ty3]; refine hK _ ?_; clear hK K
  (repeat refine ZQ ?_); refine ZR fun K hK => ?_; simp (maxSteps := 1000000) [ty3]; refine hK _ ?_; clear hK K
  (repeat refine ZQ ?_); refine ZR fun K hK => ?_; simp (maxSteps := 1000000) [ty3]; refine hK _ ?_; clear hK K
  (repeat refine ZQ ?_); refine awp_block ?_
  refine awp_loop (fun i : Nat => ⟨ofL [(1, .sl nl fu (X.map rowP)), (2, .ptr 2 13 0 0), (5, encI (doubtR (co w G) X i)), (6, encI i)], stoT [(2, 2, .live (obWs w))]⟩)
   (fun i => i ≤ N) (fun i => N - i) 0 (Nat.zero_le _) ?_ ?_
  ·simp only [doubtR]
   exact Zw
  ·intro i hi
   by_cases hil : (i : Int) ≤ w.last
   ·have hwi : IntKind.i64.wrap ((i : Int) + 1) = ((i + 1 : Nat) : Int) := by rw [wrap_id (by omega) (by omega)]; rfl
    have hb1 := hbd i
    have hb2 := hbd (i + 1)
    have hst : doubtR (co w G) X (i + 1) = doubtR (co w G) X i + spanL (onR (co w G) X i) := rfl
    have hnn : onR (co w G) X i ≠ [] := onR_ne hX0 fun l hl' => hb l hl' i (by omega)
    have hbb := fun z (hz : z ∈ onR (co w G) X i) => onR_bd hz
    have hcal := q_on87 w G nl fu X i hg hX fun l hl' => by have := hl l hl'; omega
    have hlen := onR_len (co w G) X i hg
    generalize onR (co w G) X i = L at *
    have h0 : 0 < L.length := List.length_pos_iff.2 hnn
    have hsp := spanL_at h0
    rw [← hsp] at hst
    have h2 := hbb _ (List.getElem_mem (show L.length - 1 < L.length by omega))
    have h3 := hbb _ (List.getElem_mem h0)
    simp only at h2 h3
    have hm1 : IntKind.i64.wrap ((L.length : Int) - 1) = ((L.length - 1 : Nat) : Int) := by rw [wrap_id (by omega) (by omega)]; omega
    have hlt : L.length - 1 < L.length := by omega
    have hws : IntKind.i64.wrap (L[L.length - 1] - L[0]) = L[L.length - 1] - L[0] := wrap_id (by omega) (by omega)
    have hwt : IntKind.i64.wrap (doubtR (co w G) X i + (L[L.length - 1] - L[0])) = doubtR (co w G) X (i + 1) := by rw [← hst]; exact wrap_id (by omega) (by omega)
    (repeat refine ZQ ?_); refine ZR fun K hK => ?_; simp (maxSteps := 1000000) [ty28, ty3, ty4, ty110, hil, hXl]; refine hK _ ?_; clear hK K
    (repeat refine ZQ ?_); refine ZC (hc := by simp [hXl, hX0]; rfl) (fun hd => ?_) (fun hd => ?_)
    ·clear hd
     refine awp_skip ?_
     (repeat refine ZQ ?_); refine awp_block ?_
     (repeat refine ZQ ?_); refine ZR fun K hK => ?_; simp (maxSteps := 1000000) [ty28, ty110, ty3]
     refine callP hcal (by simp [purel, C.isPure]) ?_
     simp
     refine hK _ ?_; clear hK K
     (repeat refine ZQ ?_); refine ZD [] [0, 1, 2, 3, 4, 5, 6, 7, 8, 9, 10, 11, 12] fun K hK => ?_; simp (maxSteps := 1000000) [ty29, ty3, hm1, h0, hlt, hws, hwt]; refine hK _ ?_; clear hK K
     (repeat refine ZQ ?_); refine ZR fun K hK => ?_; simp (maxSteps := 1000000) [ty3]; refine hK _ ?_; clear hK K; (first | show AWP _ _ _ _ _ | show ∃ _, _ | skip)
     refine ⟨i + 1, by omega, by omega, ?_⟩
     rw [hwi]
     exact Zw
    ·simp [hXl, hX0] at hd
   ·(repeat refine ZQ ?_); refine ZR fun K hK => ?_; simp (maxSteps := 1000000) [ty28, ty3, ty4, ty110, hil]; refine hK _ ?_; clear hK K
    (repeat refine ZQ ?_); refine ZC (hc := by simp [hil]; rfl) (fun hd => ?_) (fun hd => ?_)
    ·simp [hil] at hd
    ·clear hd
     (repeat refine ZQ ?_); refine awp_exit ?_; (first | show AWP _ _ _ _ _ | show ∃ _, _ | skip)
     have hiN : i = N := by omega
     rw [hiN]
     (repeat refine ZQ ?_); refine ZR fun K hK => ?_; simp (maxSteps := 1000000) [ty3]; refine hK _ ?_; clear hK K
     (repeat refine ZQ ?_); refine awp_ret ?_; refine And.intro (Or.inr rfl) ?_
     simp [retC, resC, viewC, mapO]

set_option maxHeartbeats 8000000

-- Left, Doubt and Due of the reference

theorem tlW_len {w : Ws} (hok : WsOk w) (hs : SmallW w) : (tlW w).length ≤ 117649 := by
 have hgn := hok.num.gain
 have hsl : (seqI (-(co w (gl w)).gain) (co w (gl w)).gain).length ≤ 7 := by
  have h1 : (seqI (-(co w (gl w)).gain) (co w (gl w)).gain).length = ((co w (gl w)).gain - -(co w (gl w)).gain + 1).toNat := seqN_len _ _
  have := hs.gain
  simp only at h1 ⊢; omega
 unfold tlW
 refine Nat.le_trans (List.length_filter_le _ _) ?_
 exact Nat.le_trans (allP_len hsl (by decide) _ _) (Nat.le_trans (Nat.pow_le_pow_right (by decide) (by have := hs.last; omega : (w.last + 1).toNat ≤ 6)) (by decide))

theorem tlW_bd {w : Ws} (hok : WsOk w) {l : List Int} (hl : l ∈ tlW w) {d : Nat} (hd : d ≤ w.last.toNat) : -w.gain ≤ pF l d ∧ pF l d ≤ w.gain := by
 obtain ⟨h1, h2⟩ := (mem_tlW hok).1 hl
 exact alC_bd (h2.1.1 d hd)

theorem known_ok {w : Ws} {is : Bool} (hn : WsLen w) (hsm : checkW w = 0 → SmallW w) (hz : openW w is = 0) : Pure Tryz.prog 84 [encWs w, .bool is] (.tup [.sl false false ((tlW w).map rowP), encI 0]) := by
 have h := q_known84 w is hn hsm
 have hk : knW w is = tlW w := if_pos hz
 have hok := (openW_ok hz).1
 have hne : (tlW w).isEmpty = false := by
  have hcan := (openW_ok hz).2.2
  cases h0 : tlW w with
  | nil => have := (tlW_nil hok).1 h0; rw [hcan] at this; cases this
  | cons a l => rfl
 rw [hk, hz, hne] at h
 exact h
theorem known_no {w : Ws} {is : Bool} (hn : WsLen w) (hsm : checkW w = 0 → SmallW w) (hz : openW w is ≠ 0) : Pure Tryz.prog 84 [encWs w, .bool is] (.tup [.sl true true [], encI (openW w is)]) := by
 have h := q_known84 w is hn hsm
 have hk : knW w is = [] := if_neg hz
 rw [hk] at h
 exact h

theorem q_with89n (nl fu : Bool) (d g : Int) : Pure Tryz.prog 89 [.sl nl fu [], encI d, encI g] (.sl true true []) := by
 refine ZF (fn := Tryz.f89) [.tmp 6] ⟨Tryz.func89, rfl, by kernel_rfl⟩ fun x hx hσ => ?_
 (repeat refine ZQ ?_); refine ZR fun K hK => ?_; simp (maxSteps := 1000000) [ty110]; refine hK _ ?_; clear hK K
 (repeat refine ZQ ?_); refine ZR fun K hK => ?_; simp (maxSteps := 1000000) [ty110]; refine hK _ ?_; clear hK K
 (repeat refine ZQ ?_); refine ZR fun K hK => ?_; simp (maxSteps := 1000000) [ty3]; refine hK _ ?_; clear hK K
 (repeat refine ZQ ?_); refine awp_block ?_
 refine awp_loop (fun i : Nat => ⟨ofL [(0, .sl nl fu []), (7, .sl true true []), (8, encI i)], stoT []⟩)
  (fun i => i = 0) (fun i => 0) 0 rfl ?_ ?_
 ·exact Zw
 ·intro i hi
  subst hi
  (repeat refine ZQ ?_); refine ZR fun K hK => ?_; simp (maxSteps := 1000000) [ty110, ty3]; refine hK _ ?_; clear hK K
  (repeat refine ZQ ?_); refine ZC (fun hd => ?_) (fun hd => ?_)
  ·simp at hd
  ·clear hd
   (repeat refine ZQ ?_); refine awp_exit ?_
   (repeat refine ZQ ?_); refine ZR fun K hK => ?_; simp (maxSteps := 1000000) [ty110]; refine hK _ ?_; clear hK K
   (repeat refine ZQ ?_); refine awp_ret ?_; refine And.intro (Or.inr rfl) ?_
   simp [retC, resC, viewC, mapO]

theorem q_doubt88n (w : Ws) (nl fu : Bool) : Pure Tryz.prog 88 [encWs w, .sl nl fu []] (encI 0) := by
 by_cases h0 : (0 : Int) ≤ w.last
 ·refine ZF (fn := Tryz.f88) [.tmp 4] ⟨Tryz.func88, rfl, by kernel_rfl⟩ fun x hx hσ => ?_
  (repeat refine ZQ ?_); refine ZR fun K hK => ?_; simp (maxSteps := 1000000) [ty28, ty3]; refine hK _ ?_; clear hK K
  (repeat refine ZQ ?_); refine ZR fun K hK => ?_; simp (maxSteps := 1000000) [ty3]; refine hK _ ?_; clear hK K
  (repeat refine ZQ ?_); refine ZR fun K hK => ?_; simp (maxSteps := 1000000) [ty3]; refine hK _ ?_; clear hK K
  (repeat refine ZQ ?_); refine awp_block ?_
  refine awp_loop (fun i : Nat => ⟨ofL [(1, .sl nl fu []), (2, .ptr 2 13 0 0), (5, encI 0), (6, encI 0)], stoT [(2, 2, .live (obWs w))]⟩)
   (fun i => i = 0) (fun i => 0) 0 rfl ?_ ?_
  ·exact Zw
  ·intro i hi
   (repeat refine ZQ ?_); refine ZR fun K hK => ?_; simp (maxSteps := 1000000) [ty28, ty3, ty4, ty110, h0]; refine hK _ ?_; clear hK K
   (repeat refine ZQ ?_); refine ZC (fun hd => ?_) (fun hd => ?_)
   ·simp at hd
   ·clear hd
    (repeat refine ZQ ?_); refine awp_exit ?_
    (repeat refine ZQ ?_); refine ZR fun K hK => ?_; simp (maxSteps := 1000000) [ty3]; refine hK _ ?_; clear hK K
    (repeat refine ZQ ?_); refine awp_ret ?_; refine And.intro (Or.inr rfl) ?_
    simp [retC, resC, viewC, mapO]
 ·refine ZF (fn := Tryz.f88) [.tmp 4] ⟨Tryz.func88, rfl, by kernel_rfl⟩ fun x hx hσ => ?_
  (repeat refine ZQ ?_); refine ZR fun K hK => ?_; simp (maxSteps := 1000000) [ty28, ty3]; refine hK _ ?_; clear hK K
  (repeat refine ZQ ?_); refine ZR fun K hK => ?_; simp (maxSteps := 1000000) [ty3]; refine hK _ ?_; clear hK K
  (repeat refine ZQ ?_); refine ZR fun K hK => ?_; simp (maxSteps := 1000000) [ty3]; refine hK _ ?_; clear hK K
  (repeat refine ZQ ?_); refine awp_block ?_
  refine awp_loop (fun i : Nat => ⟨ofL [(1, .sl nl fu []), (2, .ptr 2 13 0 0), (5, encI 0), (6, encI 0)], stoT [(2, 2, .live (obWs w))]⟩)
   (fun i => i = 0) (fun i => 0) 0 rfl ?_ ?_
  ·exact Zw
  ·intro i hi
   (repeat refine ZQ ?_); refine ZR fun K hK => ?_; simp (maxSteps := 1000000) [ty28, ty3, ty4, ty110, h0]; refine hK _ ?_; clear hK K
   (repeat refine ZQ ?_); refine ZC (hc := by simp [h0]; rfl) (fun hd => ?_) (fun hd => ?_)
   ·simp [h0] at hd
   ·clear hd
    (repeat refine ZQ ?_); refine awp_exit ?_
    (repeat refine ZQ ?_); refine ZR fun K hK => ?_; simp (maxSteps := 1000000) [ty3]; refine hK _ ?_; clear hK K
    (repeat refine ZQ ?_); refine awp_ret ?_; refine And.intro (Or.inr rfl) ?_
    simp [retC, resC, viewC, mapO]

theorem doubt_with {w : Ws} (hok : WsOk w) {a : Nat} (ha : a ≤ w.last.toNat) (g : Int) : doubtR (co w (gl w)) (withL (tlW w) a g) (w.last.toNat + 1) = doubtC (co w (gl w)) [((a : Int), g)] := by
 have hl := hok.last
 unfold doubtC
 rw [show ((co w (gl w)).last + 1).toNat = w.last.toNat + 1 by simp only; omega]
 exact doubtR_eq _ fun d hd => onR_with hok ha (by omega) g
theorem doubt_all {w : Ws} (hok : WsOk w) : doubtR (co w (gl w)) (tlW w) (w.last.toNat + 1) = doubtC (co w (gl w)) [] := by
 have hl := hok.last
 unfold doubtC
 rw [show ((co w (gl w)).last + 1).toNat = w.last.toNat + 1 by simp only; omega]
 exact doubtR_eq _ fun d hd => onR_tl hok (by omega)

theorem q_doubt41 (w : Ws) (hn : WsLen w) (hsm : checkW w = 0 → SmallW w) : Pure Tryz.prog 41 [encWs w] (.tup [encI (doubtW w), encI (openW w true)]) := by
 by_cases hz : openW w true = 0
 ·obtain ⟨hok, _, hcan⟩ := openW_ok hz
  have hkn := known_ok hn hsm hz
  have hs := hsm (checkW_ok.2 hok)
  have hlen := tlW_len hok hs
  have hd := q_doubt88 w (gl w) false false (tlW w) hok.num.gain hok.last (by omega) (fun l hl => ((mem_tlW hok).1 hl).1) fun l hl d hd => tlW_bd hok hl hd
  have hne : tlW w ≠ [] := fun e => by have := (tlW_nil hok).1 e; rw [hcan] at this; cases this
  rw [if_neg hne, doubt_all hok] at hd
  have hT : doubtW w = doubtC (co w (gl w)) [] := if_pos hz
  have hpp := rowP_pure (tlW w)
  rw [hT, hz]
  generalize (tlW w).map rowP = L at *
  refine ZF (fn := Tryz.f41) [.tmp 2, .tmp 3] ⟨Tryz.func41, rfl, by kernel_rfl⟩ fun x hx hσ => ?_
  (repeat refine ZQ ?_); refine ZR fun K hK => ?_; simp (maxSteps := 1000000) [ty28, ty37, ty3]; refine hK _ ?_; clear hK K
  (repeat refine ZQ ?_); refine ZR fun K hK => ?_; simp (maxSteps := 1000000) [ty28]
  refine ZP (hkn) ?_; simp (maxSteps := 1000000) [ty110]
  refine hK _ ?_; clear hK K
  (repeat refine ZQ ?_); refine ZR fun K hK => ?_; simp (maxSteps := 1000000) [ty28, ty110]
  refine callP hd (by simp [purel, C.isPure]) ?_
  simp [ty37, ty3]
  refine hK _ ?_; clear hK K
  (repeat refine ZQ ?_); refine awp_ret ?_; refine And.intro (Or.inr rfl) ?_
  simp [retC, resC, viewC, mapO]
 ·have hkn := known_no hn hsm hz
  have hT : doubtW w = 0 := if_neg hz
  rw [hT]
  have hd := q_doubt88n w true true
  refine ZF (fn := Tryz.f41) [.tmp 2, .tmp 3] ⟨Tryz.func41, rfl, by kernel_rfl⟩ fun x hx hσ => ?_
  (repeat refine ZQ ?_); refine ZR fun K hK => ?_; simp (maxSteps := 1000000) [ty28, ty37, ty3]; refine hK _ ?_; clear hK K
  (repeat refine ZQ ?_); refine ZR fun K hK => ?_; simp (maxSteps := 1000000) [ty28]
  refine ZP (hkn) ?_; simp (maxSteps := 1000000) [ty110]
  refine hK _ ?_; clear hK K
  (repeat refine ZQ ?_); refine ZR fun K hK => ?_; simp (maxSteps := 1000000) [ty28, ty110]
  refine ZP (hd) ?_; simp (maxSteps := 1000000) [ty37, ty3]
  refine hK _ ?_; clear hK K
  (repeat refine ZQ ?_); refine awp_ret ?_; refine And.intro (Or.inr rfl) ?_
  simp [retC, resC, viewC, mapO]

def leftB (w : Ws) (d g : Int) : Bool := (openW w (dayB w d) == 0) && decide (g ∈ onC (co w (gl w)) d [])
def leftV (w : Ws) (d g : Int) : Int := if leftB w d g = true then doubtC (co w (gl w)) [(d, g)] else 0

theorem q_left44 (w : Ws) (d g : Int) (hn : WsLen w) (hsm : checkW w = 0 → SmallW w) : Pure Tryz.prog 44 [encWs w, encI d, encI g] (.tup [encI (leftV w d g), .bool (leftB w d g)]) := by
 by_cases hz : openW w (dayB w d) = 0
 ·obtain ⟨hok, his, hcan⟩ := openW_ok hz
  have hkn := known_ok hn hsm hz
  have hs := hsm (checkW_ok.2 hok)
  have hlen := tlW_len hok hs
  have hla := hok.last
  obtain ⟨a, ha⟩ : ∃ a : Nat, d = a := ⟨d.toNat, by simp [dayB] at his; omega⟩
  have hal : a ≤ w.last.toNat := by simp [dayB] at his; omega
  have hwt := q_with89 false false (tlW w) a g (by omega) fun l hl => by have := ((mem_tlW hok).1 hl).1; omega
  have hpp := rowP_pure (tlW w)
  rw [← ha] at hwt
  have hwl : (withL (tlW w) a g).length ≤ 117649 := Nat.le_trans (List.length_filter_le _ _) hlen
  have hdb := q_doubt88 w (gl w) (withL (tlW w) a g).isEmpty false (withL (tlW w) a g) hok.num.gain hok.last (by omega) (fun l hl => ((mem_tlW hok).1 (List.mem_filter.1 hl).1).1) fun l hl d hd => tlW_bd hok (List.mem_filter.1 hl).1 hd
  have hwn := withL_nil hok hal (g := g)
  have hB : leftB w d g = decide (g ∈ onC (co w (gl w)) d []) := by unfold leftB; rw [hz]; rfl
  have hpw := rowP_pure (withL (tlW w) a g)
  by_cases hm : g ∈ onC (co w (gl w)) (a : Nat) []
  ·have hne := hwn.2 hm
   rw [if_neg hne, doubt_with hok hal] at hdb
   have hB1 : leftB w d g = true := by rw [hB, ha]; simpa using hm
   have hV : leftV w d g = doubtC (co w (gl w)) [((a : Int), g)] := by unfold leftV; rw [if_pos hB1, ha]
   rw [hB1, hV]
   have hpos : 0 < (withL (tlW w) a g).length := List.length_pos_iff.2 hne
   generalize withL (tlW w) a g = Z at *
   generalize (tlW w).map rowP = L at *
   have hzl : (0 : Int) < Z.length := by omega
   refine ZF (fn := Tryz.f44) [.tmp 6, .tmp 7] ⟨Tryz.func44, rfl, by kernel_rfl⟩ fun x hx hσ => ?_
   (repeat refine ZQ ?_); refine ZR fun K hK => ?_; simp (maxSteps := 1000000) [ty28, ty4, ty3]; refine hK _ ?_; clear hK K
   (repeat refine ZQ ?_); refine ZD [] [0, 1, 2, 3, 4, 5, 6, 7, 8, 9] fun K hK => ?_; simp (maxSteps := 1000000) [ty28, ty3]
   refine ZE (q_isDay86 w d) ?_; simp (maxSteps := 1000000) [ty28]
   refine ZE (hkn) ?_; simp (maxSteps := 1000000) [ty110]
   refine hK _ ?_; clear hK K
   (repeat refine ZQ ?_); refine ZR fun K hK => ?_; simp (maxSteps := 1000000) [ty110, ty3]
   refine callP hwt (by simp [purel, C.isPure]) ?_
   simp [ty110]
   refine hK _ ?_; clear hK K
   (repeat refine ZQ ?_); refine ZR fun K hK => ?_; simp (maxSteps := 1000000) [ty28, ty110]
   refine callP hdb (by simp [purel, C.isPure]) ?_
   simp [ty3, ty4, ty110, hzl, hne]
   refine hK _ ?_; clear hK K
   (repeat refine ZQ ?_); refine awp_ret ?_; refine And.intro (Or.inr rfl) ?_
   simp [retC, resC, viewC, mapO, hne]
   exact hpos
  ·have he : withL (tlW w) a g = [] := Classical.byContradiction fun h => hm (hwn.1 h)
   have hB1 : leftB w d g = false := by rw [hB, ha]; simpa using hm
   have hV : leftV w d g = 0 := by unfold leftV; rw [if_neg (by rw [hB1]; simp)]
   rw [hB1, hV]
   rw [he] at hwt
   have hdn := q_doubt88n w true false
   generalize (tlW w).map rowP = L at *
   refine ZF (fn := Tryz.f44) [.tmp 6, .tmp 7] ⟨Tryz.func44, rfl, by kernel_rfl⟩ fun x hx hσ => ?_
   (repeat refine ZQ ?_); refine ZR fun K hK => ?_; simp (maxSteps := 1000000) [ty28, ty4, ty3]; refine hK _ ?_; clear hK K
   (repeat refine ZQ ?_); refine ZD [] [0, 1, 2, 3, 4, 5, 6, 7, 8, 9] fun K hK => ?_; simp (maxSteps := 1000000) [ty28, ty3]
   refine ZE (q_isDay86 w d) ?_; simp (maxSteps := 1000000) [ty28]
   refine ZE (hkn) ?_; simp (maxSteps := 1000000) [ty110]
   refine hK _ ?_; clear hK K
   (repeat refine ZQ ?_); refine ZR fun K hK => ?_; simp (maxSteps := 1000000) [ty110, ty3]
   refine callP hwt (by simp [purel, C.isPure]) ?_
   simp [ty110]
   refine hK _ ?_; clear hK K
   (repeat refine ZQ ?_); refine ZR fun K hK => ?_; simp (maxSteps := 1000000) [ty28, ty110]
   refine ZP (hdn) ?_; simp (maxSteps := 1000000) [ty3, ty4, ty110]
   refine hK _ ?_; clear hK K
   (repeat refine ZQ ?_); refine awp_ret ?_; refine And.intro (Or.inr rfl) ?_
   simp [retC, resC, viewC, mapO]
 ·have hkn := known_no hn hsm hz
  have hB1 : leftB w d g = false := by unfold leftB; rw [show (openW w (dayB w d) == 0) = false by simpa using hz]; rfl
  have hV : leftV w d g = 0 := by unfold leftV; rw [if_neg (by rw [hB1]; simp)]
  rw [hB1, hV]
  refine ZF (fn := Tryz.f44) [.tmp 6, .tmp 7] ⟨Tryz.func44, rfl, by kernel_rfl⟩ fun x hx hσ => ?_
  (repeat refine ZQ ?_); refine ZR fun K hK => ?_; simp (maxSteps := 1000000) [ty28, ty4, ty3]; refine hK _ ?_; clear hK K
  (repeat refine ZQ ?_); refine ZD [] [0, 1, 2, 3, 4, 5, 6, 7, 8, 9] fun K hK => ?_; simp (maxSteps := 1000000) [ty28, ty3]
  refine ZE (q_isDay86 w d) ?_; simp (maxSteps := 1000000) [ty28]
  refine ZE (hkn) ?_; simp (maxSteps := 1000000) [ty110]
  refine hK _ ?_; clear hK K
  (repeat refine ZQ ?_); refine ZR fun K hK => ?_; simp (maxSteps := 1000000) [ty110, ty3]
  refine ZP (q_with89n true true d g) ?_; simp (maxSteps := 1000000) [ty110]
  refine hK _ ?_; clear hK K
  (repeat refine ZQ ?_); refine ZR fun K hK => ?_; simp (maxSteps := 1000000) [ty28, ty110]
  refine ZP (q_doubt88n w true true) ?_; simp (maxSteps := 1000000) [ty3, ty4, ty110]
  refine hK _ ?_; clear hK K
  (repeat refine ZQ ?_); refine awp_ret ?_; refine And.intro (Or.inr rfl) ?_
  simp [retC, resC, viewC, mapO]

set_option maxHeartbeats 4000000

-- plain laws of the day to find out

theorem span_le {c : Co} {a d : Nat} {g : Int} (ha : a ≤ c.last.toNat) (hd : d ≤ c.last.toNat) (hg : g ∈ onC c a []) : spanL (onC c d [((a : Int), g)]) ≤ spanL (onC c d []) := by
 have hcan : canC c [] = true := by
  obtain ⟨p, hp, _⟩ := (on_nil c a ha g).1 hg
  exact (can_nil c).2 ⟨p, hp⟩
 obtain ⟨h1, h2, h3⟩ := sorted_ends (onC_sorted c d [((a : Int), g)]) (on_ne_one hg ha hd)
 obtain ⟨g1, g2, g3⟩ := sorted_ends (onC_sorted c d []) (on_ne_nil hcan hd)
 have sub : ∀ z ∈ onC c d [((a : Int), g)], z ∈ onC c d [] := fun z hz => by
  obtain ⟨p, hp, e, _⟩ := (on_one c a d g ha hd z).1 hz
  exact (on_nil c d hd z).2 ⟨p, hp, e⟩
 have k1 := g3 _ (sub _ h1)
 have k2 := g3 _ (sub _ h2)
 unfold spanL; omega

theorem doubt_le {c : Co} (hl : 0 ≤ c.last) {a : Nat} {g : Int} (ha : a ≤ c.last.toNat) (hg : g ∈ onC c a []) : doubtC c [((a : Int), g)] ≤ doubtC c [] := by
 have key : ∀ n : Nat, n ≤ c.last.toNat + 1 → doubtTo c [((a : Int), g)] n ≤ doubtTo c [] n := by
  intro n
  induction n with
  | zero => intro _; exact Int.le_refl _
  | succ n ih =>
   intro hn
   have h1 := ih (by omega)
   have h2 := span_le ha (show n ≤ c.last.toNat by omega) hg
   simp only [doubtTo]; omega
 exact key _ (by omega)

theorem mxD_le (c : Co) (day : Int) : ∀ (L : List Int) (m : Int), m ≤ L.foldl (fun m g => if m < doubtC c [(day, g)] then doubtC c [(day, g)] else m) m ∧ ∀ g ∈ L, doubtC c [(day, g)] ≤ L.foldl (fun m g => if m < doubtC c [(day, g)] then doubtC c [(day, g)] else m) m
 | [], m => ⟨Int.le_refl _, by simp⟩
 | a :: L, m => by
  simp only [List.foldl_cons]
  have ih := mxD_le c day L (if m < doubtC c [(day, a)] then doubtC c [(day, a)] else m)
  have h0 : m ≤ (if m < doubtC c [(day, a)] then doubtC c [(day, a)] else m) ∧ doubtC c [(day, a)] ≤ (if m < doubtC c [(day, a)] then doubtC c [(day, a)] else m) := by split <;> omega
  refine ⟨Int.le_trans h0.1 ih.1, fun g hg => ?_⟩
  rcases List.mem_cons.1 hg with rfl | hg
  ·exact Int.le_trans h0.2 ih.1
  ·exact ih.2 g hg

/-- What the best day is. -/
theorem next_spec (c : Co) : ∀ n : Nat, ((nextTo c n).1 < 0 ∧ ∀ d, d < n → (onC c (d : Nat) []).length < 2) ∨
    ∃ b : Nat, b < n ∧ nextTo c n = ((b : Int), worstC c b) ∧ 2 ≤ (onC c (b : Nat) []).length ∧ ∀ d, d < n → 2 ≤ (onC c (d : Nat) []).length → worstC c b ≤ worstC c (d : Nat)
  | 0 => .inl ⟨by simp [nextTo], fun d hd => by omega⟩
  | n + 1 => by
    have hst : nextTo c (n + 1) = if (onC c (n : Nat) []).length < 2 then nextTo c n else if (nextTo c n).1 < 0 ∨ worstC c (n : Nat) < (nextTo c n).2 then ((n : Nat), worstC c (n : Nat)) else nextTo c n := rfl
    by_cases h2 : (onC c (n : Nat) []).length < 2
    · rw [hst, if_pos h2]
      rcases next_spec c n with ⟨h3, h4⟩ | ⟨b, h3, h4, h5, h6⟩
      · refine .inl ⟨h3, fun d hd => ?_⟩
        by_cases e : d = n
        · subst e; exact h2
        · exact h4 d (by omega)
      · refine .inr ⟨b, by omega, h4, h5, fun d hd hd2 => ?_⟩
        by_cases e : d = n
        · subst e; omega
        · exact h6 d (by omega) hd2
    · rw [hst, if_neg h2]
      rcases next_spec c n with ⟨h3, h4⟩ | ⟨b, h3, h4, h5, h6⟩
      · rw [if_pos (.inl h3)]
        refine .inr ⟨n, by omega, rfl, by omega, fun d hd hd2 => ?_⟩
        by_cases e : d = n
        · subst e; exact Int.le_refl _
        · have := h4 d (by omega); omega
      · by_cases hlt : worstC c (n : Nat) < worstC c b
        · rw [h4, if_pos (.inr hlt)]
          refine .inr ⟨n, by omega, rfl, by omega, fun d hd hd2 => ?_⟩
          by_cases e : d = n
          · subst e; exact Int.le_refl _
          · have := h6 d (by omega) hd2; omega
        · rw [h4, if_neg (by rintro (h | h); · simp only at h; omega
                             · exact hlt h)]
          refine .inr ⟨b, by omega, rfl, h5, fun d hd hd2 => ?_⟩
          by_cases e : d = n
          · subst e; omega
          · exact h6 d (by omega) hd2

theorem doubt_pos {c : Co} (hcan : canC c [] = true) (hl : 0 ≤ c.last) : 0 < doubtC c [] ↔ ∃ d, d < c.last.toNat + 1 ∧ 2 ≤ (onC c (d : Nat) []).length := by
 have h1 := doubt_one hcan hl
 have h2 := doubt_nn c (c.last + 1).toNat
 have h2 : 0 ≤ doubtC c [] := h2
 have hne := fun d (hd : d ≤ c.last.toNat) => List.length_pos_iff.2 (on_ne_nil hcan hd)
 constructor
 ·intro h
  refine Classical.byContradiction fun hn => ?_
  have : (List.range (c.last.toNat + 1)).all (fun d => (onC c (d : Nat) []).length == 1) = true := by
   rw [List.all_eq_true]
   intro d hd
   rw [List.mem_range] at hd
   have h3 := hne d (by omega)
   have h4 : ¬ 2 ≤ (onC c (d : Nat) []).length := fun h => hn ⟨d, hd, h⟩
   rw [beq_iff_eq]; omega
  rw [this, beq_iff_eq] at h1
  omega
 ·rintro ⟨d, hd, h3⟩
  refine Classical.byContradiction fun hn => ?_
  have h4 : (doubtC c [] == 0) = true := by rw [beq_iff_eq]; omega
  rw [h4] at h1
  have := List.all_eq_true.1 h1.symm d (List.mem_range.2 hd)
  rw [beq_iff_eq] at this
  omega

theorem next_is {c : Co} (hcan : canC c [] = true) (hl : 0 ≤ c.last) : (0 ≤ nextC c ↔ 0 < doubtC c []) ∧ (0 ≤ nextC c → ∃ b : Nat, nextC c = b ∧ b ≤ c.last.toNat ∧ ∀ d : Nat, d ≤ c.last.toNat → 2 ≤ (onC c (d : Nat) []).length → worstC c b ≤ worstC c (d : Nat)) := by
 have hN : (c.last + 1).toNat = c.last.toNat + 1 := by omega
 rw [doubt_pos hcan hl]
 unfold nextC
 rw [hN]
 rcases next_spec c (c.last.toNat + 1) with ⟨h3, h4⟩ | ⟨b, h3, h4, h5, h6⟩
 ·refine ⟨⟨fun h => by omega, ?_⟩, fun h => by omega⟩
  rintro ⟨d, hd, h5⟩
  have := h4 d hd; omega
 ·rw [h4]
  exact ⟨⟨fun _ => ⟨b, h3, h5⟩, fun _ => by simp only; omega⟩, fun _ => ⟨b, rfl, by omega, fun d hd h => h6 d (by omega) h⟩⟩

theorem worst_le {c : Co} {d : Nat} {g : Int} (hg : g ∈ onC c (d : Nat) []) : doubtC c [((d : Int), g)] ≤ worstC c (d : Nat) := (mxD_le c d (onC c (d : Nat) []) 0).2 g hg
set_option maxHeartbeats 4000000

-- plain facts for the law of the day to find out

def mxV (w : Ws) (a : Int) (L : List Int) : Int := L.foldl (fun m x => if m < leftV w a x then leftV w a x else m) 0

theorem mxV_step (w : Ws) (a : Int) {L : List Int} {i : Nat} (hi : i < L.length) : mxV w a (L.take (i + 1)) = if mxV w a (L.take i) < leftV w a L[i] then leftV w a L[i] else mxV w a (L.take i) := by
 unfold mxV
 rw [List.take_succ_eq_append_getElem hi, List.foldl_append]; rfl

theorem left_iff {w : Ws} {d g : Int} (hck : checkW w = 0) (hz : openW w true = 0) : leftB w d g = true ↔ dayB w d = true ∧ g ∈ onC (co w (gl w)) d [] := by
 unfold leftB
 simp only [Bool.and_eq_true, beq_iff_eq, decide_eq_true_eq]
 constructor
 ·rintro ⟨h1, h2⟩; exact ⟨(openW_ok h1).2.1, h2⟩
 ·rintro ⟨h1, h2⟩; exact ⟨by rw [h1]; exact hz, h2⟩

theorem mxV_eq {w : Ws} {a : Int} {L : List Int} (hL : ∀ x ∈ L, leftB w a x = true) : mxV w a L = mxD (co w (gl w)) a L := by
 have key : ∀ (L : List Int) (m : Int), (∀ x ∈ L, leftB w a x = true) → L.foldl (fun m x => if m < leftV w a x then leftV w a x else m) m = L.foldl (fun m g => if m < doubtC (co w (gl w)) [(a, g)] then doubtC (co w (gl w)) [(a, g)] else m) m := by
  intro L
  induction L with
  | nil => intro m _; rfl
  | cons x L ih =>
   intro m h
   have hx : leftV w a x = doubtC (co w (gl w)) [(a, x)] := if_pos (h x (by simp))
   simp only [List.foldl_cons, hx]
   exact ih _ fun y hy => h y (by simp [hy])
 exact key _ 0 hL

/-- What the law asks of Doubt, Next and what is left. -/
theorem step_facts {w : Ws} (hck : checkW w = 0) (hz : openW w true = 0) (hg : w.gain ≤ 3) (a g : Int) :
    ((nextE w = 0 ∧ 0 < doubtW w ∧ 0 ≤ nextV w ∧ nextV w ≤ w.last) ∨ (nextE w = 3 ∧ ¬ 0 < doubtW w)) ∧
    (leftB w a g = true → leftV w a g ≤ doubtW w ∧ openW w (dayB w a) = 0 ∧ g ∈ onW w a ∧ (onW w a).length ≤ 100 ∧ (∀ x ∈ onW w a, leftB w a x = true) ∧
      (nextE w = 0 → 2 ≤ (onW w a).length → ∀ z, leftB w (nextV w) z = true → leftV w (nextV w) z ≤ mxV w a (onW w a))) := by
  have hok := checkW_ok.1 hck
  have hla := hok.last
  have hcan := (openW_ok hz).2.2
  have hD : doubtW w = doubtC (co w (gl w)) [] := if_pos hz
  obtain ⟨n1, n2⟩ := next_is hcan (by simp only; omega)
  have hE : nextE w = if nextC (co w (gl w)) < 0 then 3 else 0 := by unfold nextE; rw [if_neg (by rw [hz]; simp)]
  refine ⟨?_, fun h => ?_⟩
  · by_cases hn : 0 ≤ nextC (co w (gl w))
    · obtain ⟨b, hb, hbl, _⟩ := n2 hn
      have hV : nextV w = nextC (co w (gl w)) := if_pos ⟨hz, hn⟩
      simp only at hbl
      exact .inl ⟨by rw [hE, if_neg (by omega)], by rw [hD]; exact n1.1 hn, by omega, by omega⟩
    · exact .inr ⟨by rw [hE, if_pos (by omega)], fun h => hn (n1.2 (by rw [← hD]; exact h))⟩
  · obtain ⟨h1, h2⟩ := (left_iff hck hz).1 h
    have hop : openW w (dayB w a) = 0 := by rw [h1]; exact hz
    have hon : onW w a = onC (co w (gl w)) a [] := if_pos hop
    have hV : leftV w a g = doubtC (co w (gl w)) [(a, g)] := if_pos h
    obtain ⟨n, hn⟩ : ∃ n : Nat, a = n := ⟨a.toNat, by simp [dayB] at h1; omega⟩
    have hnl : n ≤ w.last.toNat := by simp [dayB] at h1; omega
    have hall : ∀ x ∈ onW w a, leftB w a x = true := fun x hx => (left_iff hck hz).2 ⟨h1, by rw [← hon]; exact hx⟩
    refine ⟨?_, hop, by rw [hon]; exact h2, ?_, hall, fun he h3 z hz2 => ?_⟩
    · rw [hV, hD, hn]
      rw [hn] at h2
      exact doubt_le (by simp only; omega) (by simpa using hnl) h2
    · rw [hon]
      have := List.length_filter_le (onB (co w (gl w)) a []) (seqI (-w.gain) w.gain)
      have h2 : (seqI (-w.gain) w.gain).length = (w.gain - -w.gain + 1).toNat := seqN_len _ _
      have := hok.num.gain
      unfold onC
      simp only
      omega
    · have hnn : 0 ≤ nextC (co w (gl w)) := by
        refine Classical.byContradiction fun hc => ?_
        rw [hE, if_pos (by omega)] at he
        exact absurd he (by decide)
      obtain ⟨b, hb, hbl, hbd⟩ := n2 hnn
      have hVn : nextV w = b := (if_pos ⟨hz, hnn⟩ : nextV w = nextC (co w (gl w))).trans hb
      rw [hVn] at hz2 ⊢
      have hz3 := ((left_iff hck hz).1 hz2).2
      have hVz : leftV w (b : Int) z = doubtC (co w (gl w)) [((b : Int), z)] := if_pos hz2
      rw [hVz, mxV_eq hall, hon, hn]
      rw [hon, hn] at h3
      exact Int.le_trans (worst_le hz3) (hbd n (by simpa using hnl) h3)

set_option maxHeartbeats 16000000
set_option maxRecDepth 20000

-- THE THEOREM OF THE DAY TO FIND OUT




theorem law9 (w : Ws) (a g : Int) : Pure Tryz.prog 9 [encWs w, .agg [encI a, encI g]] (.bool true) := by
 obtain ⟨f, hF, hf⟩ := ready13 w
 cases f
 ·refine ZF (fn := Tryz.f9) [.tmp 4] ⟨Tryz.func9, rfl, by kernel_rfl⟩ fun x hx hσ => ?_
  (repeat refine ZQ ?_); refine ZR fun K hK => ?_; simp (maxSteps := 1000000) [ty28, ty71]; refine hK _ ?_; clear hK K
  (repeat refine ZQ ?_); refine ZR fun K hK => ?_; simp (maxSteps := 1000000) [ty28]
  refine ZP (hF) ?_; simp (maxSteps := 1000000) [ty4]
  refine hK _ ?_; clear hK K
  (repeat refine ZQ ?_); refine ZC (hc := by simp [hf]; rfl) (fun hd => ?_) (fun hd => ?_)
  ·clear hd
   (repeat refine ZQ ?_); refine ZR fun K hK => ?_; simp (maxSteps := 1000000)
   refine ZP (works15) ?_; simp (maxSteps := 1000000)
   refine hK _ ?_; clear hK K
   (repeat refine ZQ ?_); refine awp_ret ?_; refine And.intro (Or.inr rfl) ?_
   simp [retC, resC, viewC, mapO]
  ·simp [hf] at hd
 ·obtain ⟨hck, hnear⟩ := hf rfl
  have hok := checkW_ok.1 hck
  have hlen := hnear.len
  have hsm1 := hnear.small hck
  have hsm : checkW w = 0 → SmallW w := fun _ => ⟨hsm1.1, hsm1.2.1, hsm1.2.2⟩
  have hla := hok.last
  have hgn := hok.num.gain
  have c1 := w_doubt25 w hlen
  have c2 := w_next42 w hlen
  rcases openW_known hck with hz | hz
  ·have hkE := isKnown17 (openW w true)
   have hkN := isKnown17 (nextE w)
   obtain ⟨f1, f2⟩ := step_facts hck hz hsm1.1 a g
   have c3 := q_left44 w a g hlen hsm
   have con := w_on18 w a hlen
   have hin := fun (h : (onW w a).length ≤ 100) => l_in45 (onW w a).isEmpty (onW w a).isEmpty (onW w a) g (by omega)
   have cx := fun x => q_left44 w a x hlen hsm
   have cn := fun z => q_left44 w (nextV w) z hlen hsm
   have hm1 := fun i hi => mxV_step w a (L := onW w a) (i := i) hi
   have hm0 : mxV w a ((onW w a).take 0) = 0 := rfl
   have hwg : IntKind.i64.wrap (-w.gain) = -w.gain := wrap_id (by omega) (by omega)
   rw [hz] at c1 hkE
   have hkn2 : (nextE w == 0 || nextE w == 3) = true := by rcases f1 with ⟨h, _⟩ | ⟨h, _⟩ <;> rw [h] <;> rfl
   rw [hkn2] at hkN
   generalize doubtW w = D at *
   generalize nextV w = N at *
   generalize nextE w = NE at *
   clear hkn2
   refine ZF (fn := Tryz.f9) [.tmp 4] ⟨Tryz.func9, rfl, by kernel_rfl⟩ fun x hx hσ => ?_
   (repeat refine ZQ ?_); refine ZR fun K hK => ?_; simp (maxSteps := 1000000) [ty28, ty71]; refine hK _ ?_; clear hK K
   (repeat refine ZQ ?_); refine ZR fun K hK => ?_; simp (maxSteps := 1000000) [ty28]
   refine ZP (hF) ?_; simp (maxSteps := 1000000) [ty4]
   refine hK _ ?_; clear hK K; (first | show AWP _ _ _ _ _ | show ∃ _, _ | skip)
   repeat refine awp_seq ?_
   refine awp_cond (by simp [hla]; rfl) (by rw [hx]; simp) (fun hd => absurd hd (by simp [hla])) (fun hd => ?_)
   clear hd
   refine awp_skip ?_
   (repeat refine ZQ ?_); refine ZR fun K hK => ?_; simp (maxSteps := 1000000) [ty28]
   refine ZP (c1) ?_; simp (maxSteps := 1000000)
   refine hK _ ?_; clear hK K
   (repeat refine ZQ ?_); refine ZR fun K hK => ?_; simp (maxSteps := 1000000) [ty28]
   refine ZP (c2) ?_; simp (maxSteps := 1000000)
   refine hK _ ?_; clear hK K
   (repeat refine ZQ ?_); refine ZR fun K hK => ?_; simp (maxSteps := 1000000) [ty37]
   refine ZP (hkE) ?_; simp (maxSteps := 1000000) [ty4, ty37]
   refine ZP (hkN) ?_; simp (maxSteps := 1000000) [ty4]
   refine hK _ ?_; clear hK K; (first | show AWP _ _ _ _ _ | show ∃ _, _ | skip)
   repeat refine awp_seq ?_
   refine awp_cond (by simp [hla]; rfl) (by rw [hx]; simp) (fun hd => absurd hd (by simp [hla])) (fun hd => ?_)
   clear hd
   refine awp_skip ?_
   (repeat refine ZQ ?_); refine ZR fun K hK => ?_; simp (maxSteps := 1000000) [ty37]; refine hK _ ?_; clear hK K; (first | show AWP _ _ _ _ _ | show ∃ _, _ | skip)
   repeat refine awp_seq ?_
   refine awp_cond (by simp [hla]; rfl) (by rw [hx]; simp) (fun hd => absurd hd (by simp [hla])) (fun hd => ?_)
   clear hd
   refine awp_skip ?_
   refine awp_mid ⟨ofL [(2, .ptr 2 13 0 0), (3, .ptr 3 2 0 0), (5, encI D), (7, encI N), (8, encI NE)], stoT [(2, 2, .live (obWs w)), (3, 3, .live ⟨false, false, 2, [[encI a, encI g]]⟩)]⟩ ?_ ?_
   ·rcases f1 with ⟨e1, e2, e3, e4⟩ | ⟨e1, e2⟩
    ·subst e1
     have q1 : ¬ N < 0 := by omega
     have q2 : ¬ w.last < N := by omega
     (repeat refine ZQ ?_); refine ZR fun K hK => ?_; simp (maxSteps := 1000000) [ty37, ty3, ty4, ty28, e2, q1, q2]; refine hK _ ?_; clear hK K; (first | show AWP _ _ _ _ _ | show ∃ _, _ | skip)
     repeat refine awp_seq ?_
     refine awp_cond (by simp [e2]; rfl) (by rw [hx]; simp) (fun hd => absurd hd (by simp [e2])) (fun hd => ?_)
     clear hd
     refine awp_skip ?_; (first | show AWP _ _ _ _ _ | show ∃ _, _ | skip)
     exact ZW
    ·subst e1
     (repeat refine ZQ ?_); refine ZR fun K hK => ?_; simp (maxSteps := 1000000) [ty37, ty3, ty4, ty28, e2]; refine hK _ ?_; clear hK K; (first | show AWP _ _ _ _ _ | show ∃ _, _ | skip)
     repeat refine awp_seq ?_
     refine awp_cond (by simp [e2]; rfl) (by rw [hx]; simp) (fun hd => absurd hd (by simp [e2])) (fun hd => ?_)
     clear hd
     refine awp_skip ?_; (first | show AWP _ _ _ _ _ | show ∃ _, _ | skip)
     exact ZW
   cases hB : leftB w a g
   ·rw [hB] at c3
    (repeat refine ZQ ?_); refine ZR fun K hK => ?_; simp (maxSteps := 1000000) [ty28, ty71, ty3]
    refine ZP (c3) ?_; simp (maxSteps := 1000000) [ty3]
    refine hK _ ?_; clear hK K
    (repeat refine ZQ ?_); refine ZR fun K hK => ?_; simp (maxSteps := 1000000) [ty4]; refine hK _ ?_; clear hK K
    (repeat refine ZQ ?_); refine ZC (hc := by simp [hB]; rfl) (fun hd => ?_) (fun hd => ?_)
    ·clear hd
     (repeat refine ZQ ?_); refine ZR fun K hK => ?_; simp (maxSteps := 1000000)
     refine ZP (works15) ?_; simp (maxSteps := 1000000)
     refine hK _ ?_; clear hK K
     (repeat refine ZQ ?_); refine awp_ret ?_; refine And.intro (Or.inr rfl) ?_
     simp [retC, resC, viewC, mapO]
    ·simp [hB] at hd
   ·rw [hB] at c3
    obtain ⟨g1, g2, g3, g4, g5, g6⟩ := f2 hB
    rw [g2] at con
    have hin1 := hin g4
    have hmem : decide (g ∈ onW w a) = true := by simpa using g3
    rw [hmem] at hin1
    have q1 : ¬ D < leftV w a g := by omega
    generalize onW w a = L at *
    have q2 : ¬ (100 : Int) < L.length := by omega
    (repeat refine ZQ ?_); refine ZR fun K hK => ?_; simp (maxSteps := 1000000) [ty28, ty71, ty3]
    refine ZP (c3) ?_; simp (maxSteps := 1000000) [ty3]
    refine hK _ ?_; clear hK K
    (repeat refine ZQ ?_); refine ZR fun K hK => ?_; simp (maxSteps := 1000000) [ty4]; refine hK _ ?_; clear hK K; (first | show AWP _ _ _ _ _ | show ∃ _, _ | skip)
    repeat refine awp_seq ?_
    refine awp_cond (by simp [hB]; rfl) (by rw [hx]; simp) (fun hd => absurd hd (by simp [hB])) (fun hd => ?_)
    clear hd
    refine awp_skip ?_
    (repeat refine ZQ ?_); refine ZR fun K hK => ?_; simp (maxSteps := 1000000) [ty3, q1]; refine hK _ ?_; clear hK K; (first | show AWP _ _ _ _ _ | show ∃ _, _ | skip)
    repeat refine awp_seq ?_
    refine awp_cond (by simp [q1]; rfl) (by rw [hx]; simp) (fun hd => absurd hd (by simp [q1])) (fun hd => ?_)
    clear hd
    refine awp_skip ?_
    (repeat refine ZQ ?_); refine ZR fun K hK => ?_; simp (maxSteps := 1000000) [ty28, ty71, ty3]
    refine ZP (con) ?_; simp (maxSteps := 1000000) [ty29]
    refine hK _ ?_; clear hK K
    (repeat refine ZQ ?_); refine ZR fun K hK => ?_; simp (maxSteps := 1000000) [ty37, ty29, ty71, ty3]
    refine ZP (hin1) ?_; simp (maxSteps := 1000000) [ty4, ty29, ty3, q2]
    refine hK _ ?_; clear hK K; (first | show AWP _ _ _ _ _ | show ∃ _, _ | skip)
    repeat refine awp_seq ?_
    refine awp_cond (by simp [q2]; rfl) (by rw [hx]; simp) (fun hd => absurd hd (by simp [q2])) (fun hd => ?_)
    clear hd
    refine awp_skip ?_; (first | show AWP _ _ _ _ _ | show ∃ _, _ | skip)
    rcases f1 with ⟨e1, e2, e3, e4⟩ | ⟨e1, e2⟩
    ·subst e1
     by_cases h2 : L.length < 2
     ·have q3 : (L.length : Int) < 2 := by omega
      (repeat refine ZQ ?_); refine ZR fun K hK => ?_; simp (maxSteps := 1000000) [ty37, ty29, ty3, q3]; refine hK _ ?_; clear hK K
      (repeat refine ZQ ?_); refine ZC (hc := by simp [q3]; rfl) (fun hd => ?_) (fun hd => ?_)
      ·clear hd
       (repeat refine ZQ ?_); refine ZR fun K hK => ?_; simp (maxSteps := 1000000)
       refine ZP (works15) ?_; simp (maxSteps := 1000000)
       refine hK _ ?_; clear hK K
       (repeat refine ZQ ?_); refine awp_ret ?_; refine And.intro (Or.inr rfl) ?_
       simp [retC, resC, viewC, mapO]
      ·simp [q3] at hd
     ·have q3 : ¬ (L.length : Int) < 2 := by omega
      have g7 := g6 rfl (by omega)
      (repeat refine ZQ ?_); refine ZR fun K hK => ?_; simp (maxSteps := 1000000) [ty37, ty29, ty3, q3]; refine hK _ ?_; clear hK K; (first | show AWP _ _ _ _ _ | show ∃ _, _ | skip)
      repeat refine awp_seq ?_
      refine awp_cond (by simp [q3]; rfl) (by rw [hx]; simp) (fun hd => absurd hd (by simp [q3])) (fun hd => ?_)
      clear hd
      refine awp_skip ?_
      (repeat refine ZQ ?_); refine ZR fun K hK => ?_; simp (maxSteps := 1000000) [ty3]; refine hK _ ?_; clear hK K
      (repeat refine ZQ ?_); refine ZR fun K hK => ?_; simp (maxSteps := 1000000) [ty3]; refine hK _ ?_; clear hK K
      (repeat refine ZQ ?_); refine awp_block ?_
      refine awp_loop (fun i : Nat => ⟨ofL [(2, .ptr 2 13 0 0), (3, .ptr 3 2 0 0), (7, encI N), (11, slI L), (13, encI (mxV w a (L.take i))), (14, encI i)], stoT [(2, 2, .live (obWs w)), (3, 3, .live ⟨false, false, 2, [[encI a, encI g]]⟩)]⟩)
       (fun i => i ≤ L.length) (fun i => L.length - i) 0 (Nat.zero_le _) ?_ ?_
      ·rw [hm0]
       exact ZW
      ·intro i hi
       have hwi : IntKind.i64.wrap ((i : Int) + 1) = ((i + 1 : Nat) : Int) := by rw [wrap_id (by omega) (by omega)]; rfl
       (repeat refine ZQ ?_); refine ZR fun K hK => ?_; simp (maxSteps := 1000000) [ty29, ty3]; refine hK _ ?_; clear hK K
       (repeat refine ZQ ?_); refine ZC (fun hc => ?_) (fun hc => ?_)
       ·simp at hc
        have hst := hm1 i hc
        have hbi := g5 _ (List.getElem_mem hc)
        have hci := cx L[i]
        rw [hbi] at hci
        refine awp_skip ?_
        (repeat refine ZQ ?_); refine awp_block ?_
        (repeat refine ZQ ?_); refine ZD [] [0, 1, 2, 3, 4, 5, 6, 7, 8, 9, 10, 11, 12] fun K hK => ?_; simp (maxSteps := 1000000) [ty28, ty71, ty29, ty3, hc]
        refine ZE (hci) ?_; simp (maxSteps := 1000000) [ty3, ty4]
        refine hK _ ?_; clear hK K
        (repeat refine ZQ ?_); refine ZR fun K hK => ?_; simp (maxSteps := 1000000) [ty4]; refine hK _ ?_; clear hK K; (first | show AWP _ _ _ _ _ | show ∃ _, _ | skip)
        repeat refine awp_seq ?_
        refine awp_cond (by simp [hc]; rfl) (by rw [hx]; simp) (fun hd => absurd hd (by simp [hc])) (fun hd => ?_)
        clear hd
        refine awp_skip ?_; (first | show AWP _ _ _ _ _ | show ∃ _, _ | skip)
        generalize mxV w a (L.take i) = M at *
        generalize leftV w a L[i] = U at *
        by_cases hlt : M < U
        ·rw [if_pos hlt] at hst
         (repeat refine ZQ ?_); refine ZR fun K hK => ?_; simp (maxSteps := 1000000) [ty3, hlt]; refine hK _ ?_; clear hK K
         (repeat refine ZQ ?_); refine ZR fun K hK => ?_; simp (maxSteps := 1000000) [ty3]; refine hK _ ?_; clear hK K; (first | show AWP _ _ _ _ _ | show ∃ _, _ | skip)
         refine ⟨i + 1, by omega, by omega, ?_⟩
         rw [hst, hwi]
         exact ZW
        ·rw [if_neg hlt] at hst
         (repeat refine ZQ ?_); refine ZR fun K hK => ?_; simp (maxSteps := 1000000) [ty3, hlt]; refine hK _ ?_; clear hK K
         (repeat refine ZQ ?_); refine ZR fun K hK => ?_; simp (maxSteps := 1000000) [ty3]; refine hK _ ?_; clear hK K; (first | show AWP _ _ _ _ _ | show ∃ _, _ | skip)
         refine ⟨i + 1, by omega, by omega, ?_⟩
         rw [hst, hwi]
         exact ZW
       ·simp at hc
        (repeat refine ZQ ?_); refine awp_exit ?_; (first | show AWP _ _ _ _ _ | show ∃ _, _ | skip)
        have hiL : i = L.length := by omega
        rw [hiL, List.take_length]
        generalize mxV w a L = M at *
        (repeat refine ZQ ?_); refine ZR fun K hK => ?_; simp (maxSteps := 1000000) [ty28, ty3, hwg]; refine hK _ ?_; clear hK K
        (repeat refine ZQ ?_); refine awp_block ?_
        refine awp_loop (fun k : Nat => ⟨ofL [(2, .ptr 2 13 0 0), (7, encI N), (13, encI M), (17, encI (-w.gain + (k : Int)))], stoT [(2, 2, .live (obWs w))]⟩)
         (fun k => (k : Int) ≤ 2 * w.gain + 1) (fun k => (2 * w.gain + 1).toNat - k) 0 (by show ((0 : Nat) : Int) ≤ 2 * w.gain + 1; omega) ?_ ?_
        ·exact ZW
        ·intro k hk
         have hwk : IntKind.i64.wrap (-w.gain + (k : Int) + 1) = -w.gain + ((k + 1 : Nat) : Int) := by rw [wrap_id (by omega) (by omega)]; omega
         by_cases hkl : -w.gain + (k : Int) ≤ w.gain
         ·have hcz := cn (-w.gain + (k : Int))
          have hgz := g7 (-w.gain + (k : Int))
          generalize hz2 : -w.gain + (k : Int) = z at *
          (repeat refine ZQ ?_); refine ZR fun K hK => ?_; simp (maxSteps := 1000000) [ty28, ty3, hkl]; refine hK _ ?_; clear hK K
          (repeat refine ZQ ?_); refine ZC (hc := by simp [hkl]; rfl) (fun hc2 => ?_) (fun hc2 => ?_)
          ·clear hc2
           refine awp_skip ?_
           (repeat refine ZQ ?_); refine awp_block ?_
           (repeat refine ZQ ?_); refine ZR fun K hK => ?_; simp (maxSteps := 1000000) [ty28, ty3]
           refine ZP (hcz) ?_; simp (maxSteps := 1000000) [ty3, ty4]
           refine hK _ ?_; clear hK K; (first | show AWP _ _ _ _ _ | show ∃ _, _ | skip)
           cases hb : leftB w N z
           ·(repeat refine ZQ ?_); refine ZR fun K hK => ?_; simp (maxSteps := 1000000) [ty3, ty4, hb]; refine hK _ ?_; clear hK K; (first | show AWP _ _ _ _ _ | show ∃ _, _ | skip)
            repeat refine awp_seq ?_
            refine awp_cond (by simp [hb]; rfl) (by rw [hx]; simp) (fun hd => absurd hd (by simp [hb])) (fun hd => ?_)
            clear hd
            refine awp_skip ?_
            (repeat refine ZQ ?_); refine ZR fun K hK => ?_; simp (maxSteps := 1000000) [ty3]; refine hK _ ?_; clear hK K; (first | show AWP _ _ _ _ _ | show ∃ _, _ | skip)
            refine ⟨k + 1, by show ((k + 1 : Nat) : Int) ≤ 2 * w.gain + 1; omega, by omega, ?_⟩
            rw [hwk]
            exact ZW
           ·have hle := hgz hb
            have q5 : ¬ M < leftV w N z := by omega
            (repeat refine ZQ ?_); refine ZR fun K hK => ?_; simp (maxSteps := 1000000) [ty3, ty4, hb, q5]; refine hK _ ?_; clear hK K; (first | show AWP _ _ _ _ _ | show ∃ _, _ | skip)
            repeat refine awp_seq ?_
            refine awp_cond (by simp [q5]; rfl) (by rw [hx]; simp) (fun hd => absurd hd (by simp [q5])) (fun hd => ?_)
            clear hd
            refine awp_skip ?_
            (repeat refine ZQ ?_); refine ZR fun K hK => ?_; simp (maxSteps := 1000000) [ty3]; refine hK _ ?_; clear hK K; (first | show AWP _ _ _ _ _ | show ∃ _, _ | skip)
            refine ⟨k + 1, by show ((k + 1 : Nat) : Int) ≤ 2 * w.gain + 1; omega, by omega, ?_⟩
            rw [hwk]
            exact ZW
          ·simp [hkl] at hc2
         ·(repeat refine ZQ ?_); refine ZR fun K hK => ?_; simp (maxSteps := 1000000) [ty28, ty3, hkl]; refine hK _ ?_; clear hK K
          (repeat refine ZQ ?_); refine ZC (hc := by simp [hkl]; rfl) (fun hc2 => ?_) (fun hc2 => ?_)
          ·simp [hkl] at hc2
          ·clear hc2
           (repeat refine ZQ ?_); refine awp_exit ?_
           (repeat refine ZQ ?_); refine ZR fun K hK => ?_; simp (maxSteps := 1000000)
           refine ZP (works15) ?_; simp (maxSteps := 1000000)
           refine hK _ ?_; clear hK K
           (repeat refine ZQ ?_); refine awp_ret ?_; refine And.intro (Or.inr rfl) ?_
           simp [retC, resC, viewC, mapO]
    ·subst e1
     (repeat refine ZQ ?_); refine ZR fun K hK => ?_; simp (maxSteps := 1000000) [ty37]; refine hK _ ?_; clear hK K
     (repeat refine ZQ ?_); refine ZC (hc := by simp [e2]; rfl) (fun hd => ?_) (fun hd => ?_)
     ·clear hd
      (repeat refine ZQ ?_); refine ZR fun K hK => ?_; simp (maxSteps := 1000000)
      refine ZP (works15) ?_; simp (maxSteps := 1000000)
      refine hK _ ?_; clear hK K
      (repeat refine ZQ ?_); refine awp_ret ?_; refine And.intro (Or.inr rfl) ?_
      simp [retC, resC, viewC, mapO]
     ·simp [e2] at hd
  ·have hN : nextE w = 3 := by unfold nextE; rw [if_pos (by rw [hz]; decide), hz]
   have hkk := isKnown17 3
   rw [hz] at c1
   rw [hN] at c2
   refine ZF (fn := Tryz.f9) [.tmp 4] ⟨Tryz.func9, rfl, by kernel_rfl⟩ fun x hx hσ => ?_
   (repeat refine ZQ ?_); refine ZR fun K hK => ?_; simp (maxSteps := 1000000) [ty28, ty71]; refine hK _ ?_; clear hK K
   (repeat refine ZQ ?_); refine ZR fun K hK => ?_; simp (maxSteps := 1000000) [ty28]
   refine ZP (hF) ?_; simp (maxSteps := 1000000) [ty4]
   refine hK _ ?_; clear hK K; (first | show AWP _ _ _ _ _ | show ∃ _, _ | skip)
   repeat refine awp_seq ?_
   refine awp_cond (by simp [hla]; rfl) (by rw [hx]; simp) (fun hd => absurd hd (by simp [hla])) (fun hd => ?_)
   clear hd
   refine awp_skip ?_
   (repeat refine ZQ ?_); refine ZR fun K hK => ?_; simp (maxSteps := 1000000) [ty28]
   refine ZP (c1) ?_; simp (maxSteps := 1000000)
   refine hK _ ?_; clear hK K
   (repeat refine ZQ ?_); refine ZR fun K hK => ?_; simp (maxSteps := 1000000) [ty28]
   refine ZP (c2) ?_; simp (maxSteps := 1000000)
   refine hK _ ?_; clear hK K
   (repeat refine ZQ ?_); refine ZR fun K hK => ?_; simp (maxSteps := 1000000) [ty37]
   refine ZP (hkk) ?_; simp (maxSteps := 1000000) [ty4, ty37]
   refine ZP (hkk) ?_; simp (maxSteps := 1000000) [ty4]
   refine hK _ ?_; clear hK K; (first | show AWP _ _ _ _ _ | show ∃ _, _ | skip)
   repeat refine awp_seq ?_
   refine awp_cond (by simp [hla]; rfl) (by rw [hx]; simp) (fun hd => absurd hd (by simp [hla])) (fun hd => ?_)
   clear hd
   refine awp_skip ?_
   (repeat refine ZQ ?_); refine ZR fun K hK => ?_; simp (maxSteps := 1000000) [ty37]; refine hK _ ?_; clear hK K
   (repeat refine ZQ ?_); refine ZC (fun hd => ?_) (fun hd => ?_)
   ·clear hd
    (repeat refine ZQ ?_); refine ZR fun K hK => ?_; simp (maxSteps := 1000000) [ty37]
    refine ZP (works15) ?_; simp (maxSteps := 1000000) [ty4]
    refine hK _ ?_; clear hK K
    (repeat refine ZQ ?_); refine awp_ret ?_; refine And.intro (Or.inr rfl) ?_
    simp [retC, resC, viewC, mapO]
   ·simp at hd

open Go.ChangeShapes Go.WideShapes Go.ChangeAt Go.RowKit

set_option maxRecDepth 100000 in
theorem wearStep_lifted (os : Os) (started : os.Started) (H : Type) (enc : TypeId × Value → H) :
  ReturnsInHanded {} Tryz.checked os 9 .any (Rows.wearStepSpec.pre6 enc Tryz.prog Tryz.f9 Rows.wearStepRow.domain false) (Rows.wearStepSpec.post enc Tryz.prog Tryz.f9 false true false false) := by
 refine returnsInHanded_of_change (C := Tryz.checked) J.own started (by kernel_rfl) Tryz.func9
  (ChangeSpec.witness6 (enc := enc) (C := Tryz.checked) false ⟨#[], #[.agg #[.int .i64 0, .int .i64 0, .int .i64 0, .int .i64 0, .int .i64 0, .int .i64 0, .int .i64 0, .int .i64 0, .int .i64 0, .int .i64 0, .int .i64 0, .slice none 0 0, .int .i64 0], .agg #[.int .i64 0, .int .i64 0]], []⟩ 8 (by kernel_rfl) (by kernel_rfl) (by kernel_rfl) (by kernel_rfl)) ?_
 intro W base args ds gs before hval hW _ _
 refine law_contract (P := Tryz.prog) (tb := 4) (by kernel_rfl) J.ub rfl (fun ds hl => ?_) J.laid J.maps J.sized (by kernel_rfl) (by kernel_rfl) (fun cargs hc => ?_) W base args ds gs before hval hW
 ·have h2 : ds.length = 2 := hl
  match ds, h2 with
  | [_, _], _ => rfl
 ·rw [Tryz.params9] at hc
  obtain ⟨w, r, rfl, hc1⟩ := argWear hc
  obtain ⟨a, b, r1, rfl, hc2⟩ := argFound hc1
  obtain rfl := arg_end hc2
  exact law9 w a b

theorem wearStep_holds : Rows.WearStepSaid :=
 OpenClaim.holds_of_wide 9 Tryz.f9 rfl rfl rfl rfl rfl rfl rfl ⟨rfl, rfl, rfl, rfl, rfl⟩ rfl rfl rfl rfl rfl (by kernel_rfl) Tryz.func9 (by kernel_rfl)
  (of_decide_eq_true (by kernel_rfl)) (by unfold Func.isWrapper; first | (rw [if_pos (by decide +kernel)]; kernel_rfl) | (rw [if_neg (by decide +kernel)]; exact ⟨rfl, rfl⟩))
  (fun os started H enc _ => wearStep_lifted os started H enc)
#print axioms wearStep_holds
end Go.Proofs.YtknoachjpoibaaaGreat

