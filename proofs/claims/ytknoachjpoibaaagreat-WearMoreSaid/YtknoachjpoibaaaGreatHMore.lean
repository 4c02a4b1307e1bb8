/- For every input the law WearMore returns true, and each argument reads afterwards as it read before. No condition. -/
import Derived.Test.YtknoachjpoibaaaGreatB5

set_option linter.unusedSimpArgs false
set_option linter.unusedVariables false
set_option linter.constructorNameAsVariable false

namespace Go.Proofs.YtknoachjpoibaaaGreat
open Go Go.Abs

set_option maxHeartbeats 16000000

-- THE THEOREM OF THE DAY TO COME BACK






theorem awp_mid {P : Program} {x : Ctx} {a b : Code} {s : AS} {Q : Exit → AS → Prop} (m : AS) (h1 : AWP P x a s (nextQ (fun s' => Wk x s' m) Q)) (h2 : AWP P x b m Q) : AWP P x (.seq a b) s Q := by
 refine awp_seq (AWP.mono h1 ?_)
 intro e s' h
 cases e with
 | normal => exact AWP.weak h2 h
 | _ => exact h

theorem l_class14 (k : Cl) : Pure Tryz.prog 14 [encCl k] (.bool (classB k)) := q_isClass20 k

set_option maxHeartbeats 4000000

-- plain laws: one more visit, a greater fall, more wrong ones, a greater gain

structure Mo where
 v : Vs
 drop : Int
 wrong : Int
 gain : Int

theorem tru_sub {a b : Co} (hg : a.gain ≤ b.gain) (hl : a.last = b.last) (hd : a.drop ≤ b.drop) (hw : a.wrong ≤ b.wrong) (hG : ∀ d g, wrG b.G d g ≤ wrG a.G d g) (p : Nat → Int) (h : Tru a p) : Tru b p := by
 obtain ⟨⟨h1, h2⟩, h3⟩ := h
 have hs : ∀ d, wrs b.G p d ≤ wrs a.G p d := fun d => by
  induction d with
  | zero => exact hG _ _
  | succ d ih => simp only [wrs]; have := hG ((d + 1 : Nat) : Int) (p (d + 1)); omega
 rw [hl] at h1 h2 h3
 refine ⟨⟨fun i hi => ?_, fun i hi => ?_⟩, ?_⟩
 ·have := h1 i hi
  simp only [alC, Bool.and_eq_true, decide_eq_true_eq] at this ⊢
  exact ⟨⟨by omega, by omega⟩, this.2⟩
 ·have := h2 i hi; omega
 ·have := hs b.last.toNat; omega

theorem find_key {G : List (Int × List Int)} (hn : (G.map (·.1)).Nodup) {p : Int × List Int} (hp : p ∈ G) : G.find? (fun q => q.1 == p.1) = some p := by
 induction G with
 | nil => simp at hp
 | cons q G ih =>
  rw [List.map_cons, List.nodup_cons] at hn
  rcases List.mem_cons.1 hp with rfl | hp
  ·rw [List.find?_cons_of_pos]; simp
  ·have hne : ¬ (q.1 == p.1) = true := fun e => hn.1 (by rw [beq_iff_eq] at e; rw [e]; exact List.mem_map.2 ⟨p, hp, rfl⟩)
   rw [List.find?_cons_of_neg (p := fun x : Int × List Int => x.1 == p.1) hne]
   exact ih hn.2 hp

theorem wrG_sub {A B : List (Int × List Int)} (hn : (A.map (·.1)).Nodup) (hs : ∀ p ∈ B, p ∈ A) (d g : Int) : wrG B d g ≤ wrG A d g := by
  cases hf : B.find? (fun p => p.1 == d) with
  | none => have : wrG B d g = 0 := by unfold wrG; rw [hf]
            rw [this]; exact (wrG_bd A d g).1
  | some p =>
    have hm := hs p (List.mem_of_find?_eq_some hf)
    have he := List.find?_some hf
    simp only [beq_iff_eq] at he
    have := find_key hn hm
    rw [he] at this
    unfold wrG
    rw [hf, this]
    exact Int.le_refl _

/-- Each truth of the first instrument is one of the second. -/
structure SubW (a b : Ws) : Prop where
  ha : checkW a = 0
  hb : checkW b = 0
  last : a.last = b.last
  tru : ∀ p, Tru (co a (gl a)) p → Tru (co b (gl b)) p

theorem subW_op {a b : Ws} (h : SubW a b) (ho : openW a true = 0) : openW b true = 0 := by
 obtain ⟨_, _, hc⟩ := openW_ok ho
 obtain ⟨p, hp⟩ := (can_nil _).1 hc
 exact openW_true' h.hb ((can_nil _).2 ⟨p, h.tru p hp⟩)

theorem subW_onC {a b : Ws} (h : SubW a b) {d : Nat} (hd : (d : Int) ≤ a.last) : ∀ z ∈ onC (co a (gl a)) (d : Nat) [], z ∈ onC (co b (gl b)) (d : Nat) [] := fun z hz => by
 have hl := h.last
 obtain ⟨p, hp, e⟩ := (on_nil _ d (by show d ≤ a.last.toNat; omega) z).1 hz
 exact (on_nil _ d (by show d ≤ b.last.toNat; omega) z).2 ⟨p, h.tru p hp, e⟩

theorem subW_on {a b : Ws} (h : SubW a b) {d : Nat} (hd : (d : Int) ≤ a.last) : dayB a d = true ∧ dayB b d = true ∧ ∀ z ∈ onW a d, z ∈ onW b d := by
 have hl := h.last
 have e1 : dayB a d = true := by simp [dayB, withinB]; omega
 have e2 : dayB b d = true := by simp [dayB, withinB]; omega
 refine ⟨e1, e2, ?_⟩
 unfold onW
 rw [e1, e2]
 by_cases ho : openW a true = 0
 ·rw [if_pos ho, if_pos (subW_op h ho)]
  exact subW_onC h hd
 ·rw [if_neg ho]; intro z hz; simp at hz

theorem subW_due {a b : Ws} (h : SubW a b) {k : Cl} (hk : classB k = true) (hd : dueE a k = 0) : dueE b k = 0 ∧ dueV b k ≤ dueV a k := by
 have hl := h.last
 obtain ⟨h1, n, h2, h3⟩ := dueE_zero hd
 rw [hk] at h1
 have h4 := subW_op h h1
 obtain ⟨g1, g2, g3⟩ := due_some h2
 have g1' : n < (a.last + 1).toNat := g1
 have hany : (onC (co b (gl b)) (n : Nat) []).any (byC k) = true := by
  obtain ⟨g, hg, hb⟩ := List.any_eq_true.1 g2
  exact List.any_eq_true.2 ⟨g, subW_onC h (by omega) g hg, hb⟩
 rw [h3]
 cases hd : dueO (co b (gl b)) k with
 | none =>
  have := due_none hd n (by show n < (b.last + 1).toNat; omega)
  rw [hany] at this; cases this
 | some j =>
  have hj := due_some hd
  have hle : j ≤ n := Nat.le_of_not_lt fun hlt => by
   have := hj.2.2 n hlt
   rw [hany] at this; cases this
  have e1 : dueE b k = 0 := by unfold dueE; rw [hk, if_pos h4, hd]
  have e2 : dueV b k = j := by unfold dueV; rw [hk, if_pos h4, hd]
  exact ⟨e1, by rw [e2]; omega⟩

-- one more visit

/-- The visits up to a number, with one more in its place. -/
def insN (v : Vs) (L : List Vs) : Nat → List Vs
  | 0 => []
  | i + 1 => match L[i]? with
    | some u => (if (insN v L i).length = i ∧ v.day < u.day then insN v L i ++ [v] else insN v L i) ++ [u]
    | none => insN v L i
def insV (v : Vs) (L : List Vs) : List Vs := if (insN v L L.length).length = L.length then insN v L L.length ++ [v] else insN v L L.length

theorem insN_step (v : Vs) {L : List Vs} {i : Nat} (hi : i < L.length) : insN v L (i + 1) = (if (insN v L i).length = i ∧ v.day < L[i].day then insN v L i ++ [v] else insN v L i) ++ [L[i]] := by
 simp only [insN, List.getElem?_eq_getElem hi]

theorem insN_len (v : Vs) (L : List Vs) : ∀ i, i ≤ L.length → i ≤ (insN v L i).length ∧ (insN v L i).length ≤ i + 1
 | 0, _ => by simp [insN]
 | i + 1, h => by
  have := insN_len v L i (by omega)
  rw [insN_step v (by omega : i < L.length)]
  split <;> simp <;> omega

theorem insN_mem (v : Vs) (L : List Vs) : ∀ i, i ≤ L.length → ∀ u ∈ L.take i, u ∈ insN v L i
 | 0, _, u, hu => by simp at hu
 | i + 1, h, u, hu => by
  have hlt : i < L.length := by omega
  rw [List.take_succ_eq_append_getElem hlt] at hu
  rw [insN_step v hlt]
  rcases List.mem_append.1 hu with e | e
  ·have := insN_mem v L i (by omega) u e
   refine List.mem_append.2 (.inl ?_)
   split
   ·exact List.mem_append.2 (.inl this)
   ·exact this
  ·exact List.mem_append.2 (.inr e)

theorem insV_mem (v : Vs) (L : List Vs) : ∀ u ∈ L, u ∈ insV v L := fun u hu => by
 have := insN_mem v L L.length (Nat.le_refl _) u (by rw [List.take_length]; exact hu)
 unfold insV
 split
 ·exact List.mem_append.2 (.inl this)
 ·exact this

theorem insV_len (v : Vs) (L : List Vs) : (insV v L).length = L.length + 1 := by
 have := insN_len v L L.length (Nat.le_refl _)
 unfold insV
 split
 ·simp; omega
 ·omega

/-- The instrument with one more visit. -/
def addW (w : Ws) (v : Vs) : Ws := { w with nl := false, fu := false, vs := insV v w.vs }
/-- The instrument that falls more, has more wrong visits and a greater gain. -/
def wideW (w : Ws) (x : Mo) : Ws := { copyW w with drop := w.drop + x.drop, wrong := w.wrong + x.wrong, gain := w.gain + x.gain }

theorem add_subW {w : Ws} {v : Vs} (hw : checkW w = 0) (ho : checkW (addW w v) = 0) : SubW (addW w v) w := by
 refine ⟨ho, hw, rfl, tru_sub (Int.le_refl _) rfl (Int.le_refl _) (Int.le_refl _) fun d g => ?_⟩
 refine wrG_sub (glOk (checkW_ok.1 ho)).1 (fun p hp => ?_) d g
 obtain ⟨u, hu, rfl⟩ := List.mem_map.1 hp
 exact List.mem_map.2 ⟨u, insV_mem v w.vs u hu, rfl⟩

theorem nums_wide {t : Ti} {g : Int} (hg : 0 ≤ g) (h1 : checkT t = 0) (h2 : checkT (wideT t g) = 0) : ∀ z ∈ numsT Tr.area t true, z ∈ numsT Tr.area (wideT t g) true := by
 have hs := wide_sub t hg
 by_cases ho : openT t true = 0
 ·have ho2 : openT (wideT t g) true = 0 := by
   rw [openT_true h1] at ho
   rw [openT_true h2]
   split at ho
   ·omega
   ·rename_i hne
    obtain ⟨k, hk⟩ := List.exists_mem_of_ne_nil _ hne
    rw [if_neg (List.ne_nil_of_mem (hs k hk))]
  exact (nums_sub ho2 ho hs).1
 ·intro z hz
  rw [numsT_zero ho] at hz
  simp at hz

theorem wide_subW {w : Ws} {x : Mo} (hx : (0 ≤ x.drop ∧ 0 ≤ x.wrong) ∧ 0 ≤ x.gain) (hw : checkW w = 0) (ho : checkW (wideW w x) = 0) : SubW w (wideW w x) := by
 have hok := checkW_ok.1 hw
 have hok2 := checkW_ok.1 ho
 refine ⟨hw, ho, rfl, tru_sub (by show w.gain ≤ w.gain + x.gain; omega) rfl (by show w.drop ≤ w.drop + x.drop; omega) (by show w.wrong ≤ w.wrong + x.wrong; omega) fun d g => ?_⟩
 have he : gl (wideW w x) = w.vs.map fun v => (v.day, numsT Tr.area (wideT (tiV w v) x.gain) true) := by
  show ((w.vs.map copyV).map (glV (wideW w x))) = _
  rw [List.map_map]
  rfl
 show wrG (gl (wideW w x)) d g ≤ wrG (gl w) d g
 rw [he]
 have hch : ∀ v ∈ w.vs, ∀ z ∈ numsT Tr.area (tiV w v) true, z ∈ numsT Tr.area (wideT (tiV w v) x.gain) true := fun v hv =>
  nums_wide hx.2 (hok.chk v hv) (hok2.chk (copyV v) (List.mem_map.2 ⟨v, hv, rfl⟩))
 unfold gl
 clear he hok hok2 ho hw
 generalize w.vs = L at *
 induction L with
 | nil => exact Int.le_refl _
 | cons v L ih =>
  have h0 := hch v (by simp)
  by_cases hp : (v.day == d) = true
  ·have e1 : wrG ((v :: L).map (glV w)) d g = if g ∈ numsT Tr.area (tiV w v) true then 0 else 1 := by
    unfold wrG; rw [List.map_cons, List.find?_cons_of_pos (p := fun q : Int × List Int => q.1 == d) hp]; rfl
   have e2 : wrG ((v :: L).map fun v => (v.day, numsT Tr.area (wideT (tiV w v) x.gain) true)) d g = if g ∈ numsT Tr.area (wideT (tiV w v) x.gain) true then 0 else 1 := by
    unfold wrG; rw [List.map_cons, List.find?_cons_of_pos (p := fun q : Int × List Int => q.1 == d) hp]
   rw [e1, e2]
   by_cases hz : g ∈ numsT Tr.area (tiV w v) true
   ·rw [if_pos hz, if_pos (h0 g hz)]; exact Int.le_refl _
   ·rw [if_neg hz]; split <;> omega
  ·have e1 : wrG ((v :: L).map (glV w)) d g = wrG (L.map (glV w)) d g := by
    unfold wrG; rw [List.map_cons, List.find?_cons_of_neg (p := fun q : Int × List Int => q.1 == d) hp]
   have e2 : wrG ((v :: L).map fun v => (v.day, numsT Tr.area (wideT (tiV w v) x.gain) true)) d g = wrG (L.map fun v => (v.day, numsT Tr.area (wideT (tiV w v) x.gain) true)) d g := by
    unfold wrG; rw [List.map_cons, List.find?_cons_of_neg (p := fun q : Int × List Int => q.1 == d) hp]
   rw [e1, e2]
   exact ih fun v hv => hch v (by simp [hv])

set_option maxHeartbeats 16000000
set_option maxRecDepth 20000

-- THE THEOREM OF ONE MORE VISIT

theorem contC_args {P : Program} {Y : YRel} {ops : Array Oper} {l : List Oper} {K : AS → Prop} {s : AS} {d : Option Nat} {f : FuncId} {a b : List C} (h : a = b) (H : contC P Y ops l K s d f b) : contC P Y ops l K s d f a := h ▸ H
theorem contV_of {P : Program} {Y : YRel} {ops : Array Oper} {l : List Oper} {K : AS → Prop} {s : AS} {d : Option Nat} {r : Option C} {c : C} (h : r = some c) (H : evalL P Y ops l (s.put d c) K) : contV P Y ops l K s d r := by subst h; unfold contV; simpa [bindK] using H

theorem onW_le (w : Ws) (d : Int) : (onW w d).length ≤ 101 := by
 unfold onW
 split
 ·rename_i h
  exact onC_len _ _ _ (openW_ok h).1.num.gain
 ·simp

theorem onW_nodup (w : Ws) (d : Int) : (onW w d).Nodup := by
 unfold onW
 split
 ·exact (onC_sorted _ _ _).imp fun h => by omega
 ·exact List.nodup_nil



theorem l_fewer24 (a b : Ws) (k : Cl) (hna : WsLen a) (hnb : WsLen b) (h : SubW a b) (hk : classB k = true) : Pure Tryz.prog 24 [encWs a, encWs b, encCl k] (.bool true) := by
 have c1 := w_due16 a k hna
 have c2 := w_due16 b k hnb
 have hka := dueE_known h.ha hk
 have hkb := dueE_known h.hb hk
 have hdue : dueE a k = 0 → dueE b k = 0 ∧ dueV b k ≤ dueV a k := subW_due h hk
 have hla := (checkW_ok.1 h.ha).last
 have hon : ∀ d : Nat, (d : Int) ≤ a.last → Pure Tryz.prog 18 [encWs a, encI d] (.tup [slI (onW a d), encI (openW a true)]) ∧ Pure Tryz.prog 18 [encWs b, encI d] (.tup [slI (onW b d), encI (openW b true)]) ∧ Pure Tryz.prog 29 [slI (onW a d), slI (onW b d)] (.bool true) := fun d hd => by
  obtain ⟨e1, e2, hs⟩ := subW_on h hd
  have g1 := w_on18 a d hna
  have g2 := w_on18 b d hnb
  rw [e1] at g1
  rw [e2] at g2
  have l1 := onW_le a d
  have l2 := onW_le b d
  exact ⟨g1, g2, l_subset29 _ _ _ _ _ _ (by omega) (by omega) hs (sub_len _ _ (onW_nodup a d) hs)⟩
 have hoa := openW_known h.ha
 have hob := openW_known h.hb
 have hop : openW a true = 0 → openW b true = 0 := subW_op h
 have hAl := fun d : Nat => onW_le a d
 have hBl := fun d : Nat => onW_le b d
 generalize onW a = A at *
 generalize onW b = B at *
 generalize openW a true = oa at *
 generalize openW b true = ob at *
 generalize dueE a k = ea at *
 generalize dueE b k = eb at *
 generalize dueV a k = va at *
 generalize dueV b k = vb at *
 refine ZF (fn := Tryz.f24) [.tmp 6] ⟨Tryz.func24, rfl, by kernel_rfl⟩ fun x hx hσ => ?_
 (repeat refine ZQ ?_); refine ZR fun K hK => ?_; simp (maxSteps := 1000000) [ty28, ty31, ty4]; refine hK _ ?_; clear hK K
 (repeat refine ZQ ?_); refine ZR fun K hK => ?_; simp (maxSteps := 1000000) [ty28, ty31, ty3, ty37]
 refine ZP (c1) ?_; simp (maxSteps := 1000000) [ty3, ty37]
 refine hK _ ?_; clear hK K
 (repeat refine ZQ ?_); refine ZR fun K hK => ?_; simp (maxSteps := 1000000) [ty28, ty31, ty3, ty37]
 refine ZP (c2) ?_; simp (maxSteps := 1000000) [ty3, ty37]
 refine hK _ ?_; clear hK K
 refine awp_mid ⟨ofL [(3, .ptr 3 13 0 0), (4, .ptr 4 13 0 0)], stoT [(3, 3, .live (obWs a)), (4, 4, .live (obWs b))]⟩ ?_ ?_
 ·rcases hka with rfl | rfl
  ·obtain ⟨rfl, hv2⟩ := hdue rfl
   have hv : ¬ va < vb := by omega
   (repeat refine ZQ ?_); refine ZR fun K hK => ?_; simp (maxSteps := 1000000) [ty37, ty4, ty3]
   refine ZP (isKnown17 0) ?_; simp (maxSteps := 1000000) [ty37, ty4, ty3]
   refine ZP (isKnown17 0) ?_; simp (maxSteps := 1000000) [ty37, ty4, ty3, hv]
   refine hK _ ?_; clear hK K
   (repeat refine ZQ ?_); refine ZC (hc := by simp [hv]; rfl) (fun hd => ?_) (fun hd => ?_)
   ·simp [hv] at hd
   ·clear hd
    refine awp_skip ?_; (first | show AWP _ _ _ _ _ | show ∃ _, _ | skip)
    exact ZW
  ·have hv : True := trivial
   rcases hkb with rfl | rfl
   ·(repeat refine ZQ ?_); refine ZR fun K hK => ?_; simp (maxSteps := 1000000) [ty37, ty4, ty3]
    refine ZP (isKnown17 3) ?_; simp (maxSteps := 1000000) [ty37, ty4, ty3]
    refine ZP (isKnown17 0) ?_; simp (maxSteps := 1000000) [ty37, ty4, ty3, hv]
    refine hK _ ?_; clear hK K
    (repeat refine ZQ ?_); refine ZC (hc := by simp [hv]; rfl) (fun hd => ?_) (fun hd => ?_)
    ·simp [hv] at hd
    ·clear hd
     refine awp_skip ?_; (first | show AWP _ _ _ _ _ | show ∃ _, _ | skip)
     exact ZW
   ·(repeat refine ZQ ?_); refine ZR fun K hK => ?_; simp (maxSteps := 1000000) [ty37, ty4, ty3]
    refine ZP (isKnown17 3) ?_; simp (maxSteps := 1000000) [ty37, ty4, ty3]
    refine ZP (isKnown17 3) ?_; simp (maxSteps := 1000000) [ty37, ty4, ty3, hv]
    refine hK _ ?_; clear hK K
    (repeat refine ZQ ?_); refine ZC (hc := by simp [hv]; rfl) (fun hd => ?_) (fun hd => ?_)
    ·simp [hv] at hd
    ·clear hd
     refine awp_skip ?_; (first | show AWP _ _ _ _ _ | show ∃ _, _ | skip)
     exact ZW
 ·(repeat refine ZQ ?_); refine ZR fun K hK => ?_; simp (maxSteps := 1000000) [ty3]; refine hK _ ?_; clear hK K
  (repeat refine ZQ ?_); refine awp_block ?_
  refine awp_loop (fun d : Nat => ⟨ofL [(3, .ptr 3 13 0 0), (4, .ptr 4 13 0 0), (11, encI d)], stoT [(3, 3, .live (obWs a)), (4, 4, .live (obWs b))]⟩)
   (fun d => (d : Int) ≤ a.last + 1) (fun d => (a.last + 1).toNat - d) 0 (by omega) ?_ ?_
  ·exact ZW
  ·intro d hd
   by_cases hle : (d : Int) ≤ a.last
   ·obtain ⟨g1, g2, hsub⟩ := hon d hle
    obtain ⟨n1, hn1⟩ : ∃ n : Int, ((A d).length : Int) = n := ⟨_, rfl⟩
    obtain ⟨n2, hn2⟩ : ∃ n : Int, ((B d).length : Int) = n := ⟨_, rfl⟩
    have hl1 : ¬ (200 : Int) < n1 := by have := hAl d; omega
    have hl2 : ¬ (200 : Int) < n2 := by have := hBl d; omega
    have hwd : IntKind.i64.wrap ((d : Int) + 1) = ((d + 1 : Nat) : Int) := by rw [wrap_id (by omega) (by omega)]; rfl
    generalize A d = Ad at *
    generalize B d = Bd at *
    (repeat refine ZQ ?_); refine ZR fun K hK => ?_; simp (maxSteps := 1000000) [ty28, ty3, hle]; refine hK _ ?_; clear hK K
    (repeat refine ZQ ?_); refine ZC (hc := by simp [hle]; rfl) (fun hc => ?_) (fun hc => ?_)
    ·clear hc
     refine awp_skip ?_
     (repeat refine ZQ ?_); refine awp_block ?_
     (repeat refine ZQ ?_); refine ZR fun K hK => ?_; simp (maxSteps := 1000000) [ty28, ty3, ty29, ty37]
     refine ZP (g1) ?_; simp (maxSteps := 1000000) [ty29, ty37]
     refine hK _ ?_; clear hK K
     (repeat refine ZQ ?_); refine ZR fun K hK => ?_; simp (maxSteps := 1000000) [ty28, ty3, ty29, ty37]
     refine ZP (g2) ?_; simp (maxSteps := 1000000) [ty29, ty37]
     refine hK _ ?_; clear hK K; (first | show AWP _ _ _ _ _ | show ∃ _, _ | skip)
     refine AWP.weak (t := ⟨ofL [(3, .ptr 3 13 0 0), (4, .ptr 4 13 0 0), (11, encI d), (12, slI Ad), (13, encI oa), (14, slI Bd), (15, encI ob)], stoT [(3, 3, .live (obWs a)), (4, 4, .live (obWs b))]⟩) ?_ ?_
     rotate_left
     ·exact ZW
     rcases hoa with rfl | rfl
     ·obtain rfl := hop rfl
      (repeat refine ZQ ?_); refine ZR fun K hK => ?_; simp (maxSteps := 1000000) [ty37, ty4, ty29, ty3]
      refine ZP (isKnown17 0) ?_; simp (maxSteps := 1000000) [ty37, ty4, ty29, ty3]
      refine ZP (isKnown17 0) ?_; simp (maxSteps := 1000000) [ty37, ty4, ty29, ty3, hn1, hn2, hl1, hl2, -L_call]
      rw [L_call]
      refine contC_args (b := [slI Ad, slI Bd]) rfl ?_
      refine callP hsub (by simp [purel, C.isPure]) ?_
      simp only [L_unOp]
      refine contV_of (c := .bool false) rfl ?_
      simp only [L_pick]
      refine contV_of (c := .bool false) rfl ?_
      refine hK _ ?_
      clear hK K
      repeat refine awp_seq ?_
      refine awp_cond (b := false) rfl (by rw [hx]; simp) (fun hd => absurd hd (by decide)) (fun hd => ?_)
      clear hd
      refine awp_skip ?_; (first | show AWP _ _ _ _ _ | show ∃ _, _ | skip)
      refine AWP.weak (t := ⟨ofL [(3, .ptr 3 13 0 0), (4, .ptr 4 13 0 0), (11, encI d)], stoT [(3, 3, .live (obWs a)), (4, 4, .live (obWs b))]⟩) ?_ ?_
      rotate_left
      ·exact ZW
      (repeat refine ZQ ?_); refine ZR fun K hK => ?_; simp (maxSteps := 1000000) [ty3]; refine hK _ ?_; clear hK K; (first | show AWP _ _ _ _ _ | show ∃ _, _ | skip)
      refine ⟨d + 1, by omega, by omega, ?_⟩
      rw [hwd]
      exact ZW
     ·rcases hob with rfl | rfl
      ·(repeat refine ZQ ?_); refine ZR fun K hK => ?_; simp (maxSteps := 1000000) [ty37, ty4, ty29, ty3]
       refine ZP (isKnown17 3) ?_; simp (maxSteps := 1000000) [ty37, ty4, ty29, ty3]
       refine ZP (isKnown17 0) ?_; simp (maxSteps := 1000000) [ty37, ty4, ty29, ty3, hn1, hn2, hl1, hl2, -L_call]
       rw [L_call]
       refine contC_args (b := [slI Ad, slI Bd]) rfl ?_
       refine callP hsub (by simp [purel, C.isPure]) ?_
       simp only [L_unOp]
       refine contV_of (c := .bool false) rfl ?_
       simp only [L_pick]
       refine contV_of (c := .bool false) rfl ?_
       refine hK _ ?_
       clear hK K
       repeat refine awp_seq ?_
       refine awp_cond (b := false) rfl (by rw [hx]; simp) (fun hd => absurd hd (by decide)) (fun hd => ?_)
       clear hd
       refine awp_skip ?_; (first | show AWP _ _ _ _ _ | show ∃ _, _ | skip)
       refine AWP.weak (t := ⟨ofL [(3, .ptr 3 13 0 0), (4, .ptr 4 13 0 0), (11, encI d)], stoT [(3, 3, .live (obWs a)), (4, 4, .live (obWs b))]⟩) ?_ ?_
       rotate_left
       ·exact ZW
       (repeat refine ZQ ?_); refine ZR fun K hK => ?_; simp (maxSteps := 1000000) [ty3]; refine hK _ ?_; clear hK K; (first | show AWP _ _ _ _ _ | show ∃ _, _ | skip)
       refine ⟨d + 1, by omega, by omega, ?_⟩
       rw [hwd]
       exact ZW
      ·(repeat refine ZQ ?_); refine ZR fun K hK => ?_; simp (maxSteps := 1000000) [ty37, ty4, ty29, ty3]
       refine ZP (isKnown17 3) ?_; simp (maxSteps := 1000000) [ty37, ty4, ty29, ty3]
       refine ZP (isKnown17 3) ?_; simp (maxSteps := 1000000) [ty37, ty4, ty29, ty3, hn1, hn2, hl1, hl2, -L_call]
       rw [L_call]
       refine contC_args (b := [slI Ad, slI Bd]) rfl ?_
       refine callP hsub (by simp [purel, C.isPure]) ?_
       simp only [L_unOp]
       refine contV_of (c := .bool false) rfl ?_
       simp only [L_pick]
       refine contV_of (c := .bool false) rfl ?_
       refine hK _ ?_
       clear hK K
       repeat refine awp_seq ?_
       refine awp_cond (b := false) rfl (by rw [hx]; simp) (fun hd => absurd hd (by decide)) (fun hd => ?_)
       clear hd
       refine awp_skip ?_; (first | show AWP _ _ _ _ _ | show ∃ _, _ | skip)
       refine AWP.weak (t := ⟨ofL [(3, .ptr 3 13 0 0), (4, .ptr 4 13 0 0), (11, encI d)], stoT [(3, 3, .live (obWs a)), (4, 4, .live (obWs b))]⟩) ?_ ?_
       rotate_left
       ·exact ZW
       (repeat refine ZQ ?_); refine ZR fun K hK => ?_; simp (maxSteps := 1000000) [ty3]; refine hK _ ?_; clear hK K; (first | show AWP _ _ _ _ _ | show ∃ _, _ | skip)
       refine ⟨d + 1, by omega, by omega, ?_⟩
       rw [hwd]
       exact ZW
    ·simp [hle] at hc
   ·(repeat refine ZQ ?_); refine ZR fun K hK => ?_; simp (maxSteps := 1000000) [ty28, ty3, hle]; refine hK _ ?_; clear hK K
    (repeat refine ZQ ?_); refine ZC (hc := by simp [hle]; rfl) (fun hc => ?_) (fun hc => ?_)
    ·simp [hle] at hc
    ·clear hc
     (repeat refine ZQ ?_); refine awp_exit ?_
     (repeat refine ZQ ?_); refine ZR fun K hK => ?_; simp (maxSteps := 1000000) [ty4]; refine hK _ ?_; clear hK K
     (repeat refine ZQ ?_); refine awp_ret ?_; refine And.intro (Or.inr rfl) ?_
     simp [retC, resC, viewC, mapO]

set_option maxHeartbeats 16000000
set_option maxRecDepth 20000

-- THE THEOREM OF ONE MORE VISIT, the statement

@[simp] abbrev cWx (w : Ws) (g d r : Int) (c : C) : List C := [encI w.w.full, encI w.w.read, encI w.w.slip, encI w.w.skew, encI w.w.circle, encI w.w.glow, encI w.w.ghigh, encI w.w.wrong, encI g, encI w.last, encI d, c, encI r]
@[simp] abbrev obMo (v : Vs) (a b c : Int) : Ob := ⟨false, false, 5, [[encI v.day, sTs v.nl v.fu v.ts, encI a, encI b, encI c]]⟩




theorem law5 (w : Ws) (v : Vs) (a b c : Int) (k : Cl) : Pure Tryz.prog 5 [encWs w, .agg [encI v.day, sTs v.nl v.fu v.ts, encI a, encI b, encI c], encCl k] (.bool true) := by
 obtain ⟨f, hF, hf⟩ := ready13 w
 have hcl := l_class14 k
 cases f
 ·refine ZF (fn := Tryz.f5) [.tmp 6] ⟨Tryz.func5, rfl, by kernel_rfl⟩ fun x hx hσ => ?_
  (repeat refine ZQ ?_); refine ZR fun K hK => ?_; simp (maxSteps := 1000000) [ty28, ty55, ty31, ty4]; refine hK _ ?_; clear hK K
  (repeat refine ZQ ?_); refine ZR fun K hK => ?_; simp (maxSteps := 1000000) [ty28]
  refine ZP (hF) ?_; simp (maxSteps := 1000000) [ty4]
  refine hK _ ?_; clear hK K
  (repeat refine ZQ ?_); refine ZC (hc := by simp [hf]; rfl) (fun hd => ?_) (fun hd => ?_)
  ·clear hd
   (repeat refine ZQ ?_); refine ZR fun K hK => ?_; simp (maxSteps := 1000000)
   refine ZP (works15) ?_; simp (maxSteps := 1000000)
   refine hK _ ?_; clear hK K
   (repeat refine ZQ ?_); refine awp_ret ?_; refine And.intro (Or.inr rfl) ?_
   simp [retC, resC, viewC, mapO]
  ·simp [hf] at hd
 ·obtain ⟨hck, hnear⟩ := hf rfl
  have hok := checkW_ok.1 hck
  have hlen := hnear.len
  have hla := hok.last
  have hdr := hok.drop
  have hwr := hok.wrong
  have hgn := hok.num.gain
  have hvl := hnear.vs
  by_cases h20 : (20 : Int) < v.ts.length
  ·refine ZF (fn := Tryz.f5) [.tmp 6] ⟨Tryz.func5, rfl, by kernel_rfl⟩ fun x hx hσ => ?_
   (repeat refine ZQ ?_); refine ZR fun K hK => ?_; simp (maxSteps := 1000000) [ty28, ty55, ty31, ty4]; refine hK _ ?_; clear hK K
   (repeat refine ZQ ?_); refine ZR fun K hK => ?_; simp (maxSteps := 1000000) [ty28, ty55, ty53, ty51, ty3, ty4]
   refine ZP (hF) ?_; simp (maxSteps := 1000000) [ty4, ty28, ty55, ty53, ty51, ty3, h20]
   refine hK _ ?_; clear hK K
   (repeat refine ZQ ?_); refine ZC (hc := by simp [h20]; rfl) (fun hd => ?_) (fun hd => ?_)
   ·clear hd
    (repeat refine ZQ ?_); refine ZR fun K hK => ?_; simp (maxSteps := 1000000)
    refine ZP (works15) ?_; simp (maxSteps := 1000000)
    refine hK _ ?_; clear hK K
    (repeat refine ZQ ?_); refine awp_ret ?_; refine And.intro (Or.inr rfl) ?_
    simp [retC, resC, viewC, mapO]
   ·simp [h20] at hd
  ·cases hk : classB k
   ·rw [hk] at hcl
    refine ZF (fn := Tryz.f5) [.tmp 6] ⟨Tryz.func5, rfl, by kernel_rfl⟩ fun x hx hσ => ?_
    (repeat refine ZQ ?_); refine ZR fun K hK => ?_; simp (maxSteps := 1000000) [ty28, ty55, ty31, ty4]; refine hK _ ?_; clear hK K
    (repeat refine ZQ ?_); refine ZR fun K hK => ?_; simp (maxSteps := 1000000) [ty28, ty55, ty53, ty51, ty3, ty4]
    refine ZP (hF) ?_; simp (maxSteps := 1000000) [ty4, ty28, ty55, ty53, ty51, ty3, h20, ty31]
    refine ZP (hcl) ?_; simp (maxSteps := 1000000) [ty4]
    refine hK _ ?_; clear hK K
    (repeat refine ZQ ?_); refine ZC (hc := by simp [hk]; rfl) (fun hd => ?_) (fun hd => ?_)
    ·clear hd
     (repeat refine ZQ ?_); refine ZR fun K hK => ?_; simp (maxSteps := 1000000)
     refine ZP (works15) ?_; simp (maxSteps := 1000000)
     refine hK _ ?_; clear hK K
     (repeat refine ZQ ?_); refine awp_ret ?_; refine And.intro (Or.inr rfl) ?_
     simp [retC, resC, viewC, mapO]
    ·simp [hk] at hd
   ·rw [hk] at hcl
    by_cases hmn : (if c < (if b < a then b else a) then c else (if b < a then b else a)) < 0
    ·refine ZF (fn := Tryz.f5) [.tmp 6] ⟨Tryz.func5, rfl, by kernel_rfl⟩ fun x hx hσ => ?_
     (repeat refine ZQ ?_); refine ZR fun K hK => ?_; simp (maxSteps := 1000000) [ty28, ty55, ty31, ty4]; refine hK _ ?_; clear hK K
     (repeat refine ZQ ?_); refine ZR fun K hK => ?_; simp (maxSteps := 1000000) [ty28, ty55, ty53, ty51, ty3, ty4]
     refine ZP (hF) ?_; simp (maxSteps := 1000000) [ty4, ty28, ty55, ty53, ty51, ty3, h20, ty31]
     refine ZP (hcl) ?_; simp (maxSteps := 1000000) [ty4, ty55, ty3, hmn]
     refine hK _ ?_; clear hK K
     (repeat refine ZQ ?_); refine ZC (hc := by simp [hmn]; rfl) (fun hd => ?_) (fun hd => ?_)
     ·clear hd
      (repeat refine ZQ ?_); refine ZR fun K hK => ?_; simp (maxSteps := 1000000)
      refine ZP (works15) ?_; simp (maxSteps := 1000000)
      refine hK _ ?_; clear hK K
      (repeat refine ZQ ?_); refine awp_ret ?_; refine And.intro (Or.inr rfl) ?_
      simp [retC, resC, viewC, mapO]
     ·simp [hmn] at hd
    ·by_cases hmx : 50 < (if (if a < b then b else a) < c then c else (if a < b then b else a))
     ·refine ZF (fn := Tryz.f5) [.tmp 6] ⟨Tryz.func5, rfl, by kernel_rfl⟩ fun x hx hσ => ?_
      (repeat refine ZQ ?_); refine ZR fun K hK => ?_; simp (maxSteps := 1000000) [ty28, ty55, ty31, ty4]; refine hK _ ?_; clear hK K
      (repeat refine ZQ ?_); refine ZR fun K hK => ?_; simp (maxSteps := 1000000) [ty28, ty55, ty53, ty51, ty3, ty4]
      refine ZP (hF) ?_; simp (maxSteps := 1000000) [ty4, ty28, ty55, ty53, ty51, ty3, h20, ty31]
      refine ZP (hcl) ?_; simp (maxSteps := 1000000) [ty4, ty55, ty3, hmn, hmx]
      refine hK _ ?_; clear hK K
      (repeat refine ZQ ?_); refine ZC (hc := by simp [hmx]; rfl) (fun hd => ?_) (fun hd => ?_)
      ·clear hd
       (repeat refine ZQ ?_); refine ZR fun K hK => ?_; simp (maxSteps := 1000000)
       refine ZP (works15) ?_; simp (maxSteps := 1000000)
       refine hK _ ?_; clear hK K
       (repeat refine ZQ ?_); refine awp_ret ?_; refine And.intro (Or.inr rfl) ?_
       simp [retC, resC, viewC, mapO]
      ·simp [hmx] at hd
     ·have hbd : (0 ≤ a ∧ a ≤ 50) ∧ (0 ≤ b ∧ b ≤ 50) ∧ 0 ≤ c ∧ c ≤ 50 := by
       split at hmn <;> split at hmx <;> split at hmn <;> split at hmx <;> omega
      have wr1 : IntKind.i64.wrap (w.drop + a) = w.drop + a := wrap_id (by omega) (by omega)
      have wr2 : IntKind.i64.wrap (w.wrong + b) = w.wrong + b := wrap_id (by omega) (by omega)
      have wr3 : IntKind.i64.wrap (w.gain + c) = w.gain + c := wrap_id (by omega) (by omega)
      have hcp0 := q_copy23 w hlen
      obtain ⟨bo, hO0, ho0⟩ := ready13 (addW w v)
      obtain ⟨bp, hP0, hp0⟩ := ready13 (wideW w ⟨v, a, b, c⟩)
      have hfo0 : bo = true → Pure Tryz.prog 24 [encWs (addW w v), encWs w, encCl k] (.bool true) := fun h =>
       l_fewer24 _ _ k (ho0 h).2.len hlen (add_subW hck (ho0 h).1) hk
      have hfp0 : bp = true → Pure Tryz.prog 24 [encWs w, encWs (wideW w ⟨v, a, b, c⟩), encCl k] (.bool true) := fun h =>
       l_fewer24 _ _ k hlen (hp0 h).2.len (wide_subW ⟨⟨hbd.1.1, hbd.2.1.1⟩, hbd.2.2.1⟩ hck (hp0 h).1) hk
      obtain ⟨L, hL⟩ : ∃ L, L = insV v w.vs := ⟨_, rfl⟩
      obtain ⟨VC, hVC⟩ : ∃ VC, VC = w.vs.map copyV := ⟨_, rfl⟩
      have hcp : Pure Tryz.prog 23 [encWs w] (.agg (cWx w w.gain w.drop w.wrong (.sl w.vs.isEmpty false (VC.map cVs)))) := by rw [hVC]; exact hcp0
      have hO : Pure Tryz.prog 13 [.agg (cWx w w.gain w.drop w.wrong (.sl false false (L.map cVs)))] (.bool bo) := by rw [hL]; exact hO0
      have hP : Pure Tryz.prog 13 [.agg (cWx w (w.gain + c) (w.drop + a) (w.wrong + b) (.sl w.vs.isEmpty false (VC.map cVs)))] (.bool bp) := by rw [hVC]; exact hP0
      have hfo : bo = true → Pure Tryz.prog 24 [.agg (cWx w w.gain w.drop w.wrong (.sl false false (L.map cVs))), encWs w, encCl k] (.bool true) := by rw [hL]; exact hfo0
      have hfp : bp = true → Pure Tryz.prog 24 [encWs w, .agg (cWx w (w.gain + c) (w.drop + a) (w.wrong + b) (.sl w.vs.isEmpty false (VC.map cVs))), encCl k] (.bool true) := by rw [hVC]; exact hfp0
      clear hcp0 hO0 hP0 hfo0 hfp0 hVC ho0 hp0
      obtain ⟨U, hU⟩ : ∃ U : Nat → List Vs, ∀ i, U i = insN v w.vs i := ⟨_, fun _ => rfl⟩
      have hU0 : U 0 = [] := by rw [hU]; rfl
      have hUl : ∀ i, i ≤ w.vs.length → i ≤ (U i).length ∧ (U i).length ≤ i + 1 := fun i hi => by rw [hU]; exact insN_len v w.vs i hi
      have hUs : ∀ i (hi : i < w.vs.length), U (i + 1) = (if (U i).length = i ∧ v.day < w.vs[i].day then U i ++ [v] else U i) ++ [w.vs[i]] := fun i hi => by rw [hU, hU]; exact insN_step v hi
      have hLU : L = if (U w.vs.length).length = w.vs.length then U w.vs.length ++ [v] else U w.vs.length := by rw [hL, hU]; rfl
      have hLl : L.length = w.vs.length + 1 := by rw [hL]; exact insV_len v w.vs
      clear hU hL
      refine ZF (fn := Tryz.f5) [.tmp 6] ⟨Tryz.func5, rfl, by kernel_rfl⟩ fun x hx hσ => ?_
      (repeat refine ZQ ?_); refine ZR fun K hK => ?_; simp (maxSteps := 1000000) [ty28, ty55, ty31, ty4]; refine hK _ ?_; clear hK K
      (repeat refine ZQ ?_); refine ZR fun K hK => ?_; simp (maxSteps := 1000000) [ty28, ty55, ty53, ty51, ty3, ty4]
      refine ZP (hF) ?_; simp (maxSteps := 1000000) [ty4, ty28, ty55, ty53, ty51, ty3, h20, ty31]
      refine ZP (hcl) ?_; simp (maxSteps := 1000000) [ty4, ty55, ty3, hmn, hmx]
      refine hK _ ?_; clear hK K
      (repeat refine ZQ ?_); refine ZC (hc := by simp [hmx]; rfl) (fun hd => ?_) (fun hd => ?_)
      ·simp [hmx] at hd
      ·clear hd
       refine awp_skip ?_
       (repeat refine ZQ ?_); refine ZD [] [0, 1, 2, 3, 4, 5, 6, 7] fun K hK => ?_; simp (maxSteps := 1000000) [ty28]
       refine ZE (hcp) ?_; simp (maxSteps := 1000000) [ty28]
       refine ZE (hcp) ?_; simp (maxSteps := 1000000) [ty28]
       refine hK _ ?_; clear hK K
       (repeat refine ZQ ?_); refine ZR fun K hK => ?_; simp (maxSteps := 1000000) [ty28, ty26]; refine hK _ ?_; clear hK K
       (repeat refine ZQ ?_); refine ZR fun K hK => ?_; simp (maxSteps := 1000000) [ty3]; refine hK _ ?_; clear hK K
       (repeat refine ZQ ?_); refine awp_block ?_
       refine AWP.weak ?_ (wk_nilCell 7 0 11 1000 2 (o := ⟨false, false, 13, [cWx w w.gain w.drop w.wrong (.sl true true [])]⟩) (row := cWx w w.gain w.drop w.wrong (.sl true true [])) (fu := true) (by simp) rfl rfl rfl (by simp) (by decide))
       refine awp_loop (fun i : Nat => ⟨ofL [(3, .ptr 3 13 0 0), (4, .ptr 4 5 0 0), (5, .ptr 5 2 0 0), (7, .ptr 7 13 0 0), (8, .ptr 8 13 0 0), (9, encI i)],
         stoT [(3, 3, .live (obWs w)), (4, 4, .live (obMo v a b c)), (5, 5, .live ⟨false, false, 2, [[encI k.size, encI k.most]]⟩), (7, 7, .live ⟨false, false, 13, [cWx w w.gain w.drop w.wrong (.own 1000 2 0 (U i).length)]⟩), (8, 8, .live ⟨false, false, 13, [cWx w w.gain w.drop w.wrong (.sl w.vs.isEmpty false (VC.map cVs))]⟩), (1000, 1000, .live ⟨(U i).isEmpty, false, 2, (U i).map cVs⟩)]⟩)
        (fun i => i ≤ w.vs.length) (fun i => w.vs.length - i) 0 (Nat.zero_le _) ?_ ?_
       ·refine wk_shape (shp0 hσ (by simp) (by simp) ?_) ?_
        ·simp [SlotOk, hU0] <;> (repeat' (first | (refine RowsOk.same ?_; simp [purel, C.isPure]; done) | (refine rowsCons ?_; simp [mtl, mtc, mT, mH, C.isPure, purel]; done) | (refine rowsCons ?_; simp [mtl, mtc, mT, mH, C.isPure, purel]) | refine And.intro ?_ ?_))
        ·simp [mtc, mtl, mT, C.isPure, purel, hU0] <;> (try simp (disch := omega) [wrap_id]) <;> (try omega)
       ·intro i hi
        have hUi := hUl i hi
        (repeat refine ZQ ?_); refine ZR fun K hK => ?_; simp (maxSteps := 1000000) [ty28, ty26, ty3]; refine hK _ ?_; clear hK K
        (repeat refine ZQ ?_); refine ZC (fun hc => ?_) (fun hc => ?_)
        ·simp at hc
         refine awp_skip ?_
         (repeat refine ZQ ?_); refine awp_block ?_
         have hst := hUs i hc
         have hwi : IntKind.i64.wrap ((i : Int) + 1) = ((i + 1 : Nat) : Int) := by rw [wrap_id (by omega) (by omega)]; rfl
         generalize U i = V at *
         obtain ⟨u, hu⟩ : ∃ u, w.vs[i] = u := ⟨_, rfl⟩
         have hud : cVs w.vs[i] = cVs u := by rw [hu]
         rw [hu] at hst
         by_cases hl : V.length = i
         ·have hlt : (V.length = i) = True := eq_true hl
          have hlb : ((V.length : Int) == i) = true := by rw [hl]; simp
          by_cases hd : v.day < u.day
          ·rw [if_pos ⟨hl, hd⟩] at hst
           (repeat refine ZQ ?_); refine ZD [] [0, 1, 2, 3, 4, 5, 6, 7, 8, 9, 10, 11, 12, 13, 14, 15, 16] fun K hK => ?_; simp (maxSteps := 1000000) [ty28, ty26, ty3, ty55, ty53, hc, hlt, hlb, hu, hd]; refine hK _ ?_; clear hK K
           (repeat refine ZQ ?_); refine ZC (hc := by simp [hd]; rfl) (fun hq => ?_) (fun hq => ?_)
           ·clear hq
            (repeat refine ZQ ?_); refine ZR fun K hK => ?_; simp (maxSteps := 1000000) [ty28, ty26, ty55, ty53]
            refine ⟨by omega, ?_⟩
            refine hK _ ?_; clear hK K
            (repeat refine ZQ ?_); refine ZD [] [0, 1, 2, 3, 4, 5, 6, 7, 8, 9, 10] fun K hK => ?_; simp (maxSteps := 1000000) [ty28, ty26, ty3, ty53, hc, hu]
            refine ⟨by omega, ?_⟩
            refine hK _ ?_; clear hK K
            (repeat refine ZQ ?_); refine ZR fun K hK => ?_; simp (maxSteps := 1000000) [ty3]; refine hK _ ?_; clear hK K; (first | show AWP _ _ _ _ _ | show ∃ _, _ | skip)
            refine ⟨i + 1, by omega, by omega, ?_⟩
            rw [hst, hwi]
            refine wk_shape2 [(3, 3, .live (obWs w)), (4, 4, .live (obMo v a b c)), (5, 5, .live ⟨false, false, 2, [[encI k.size, encI k.most]]⟩), (7, 7, .live ⟨false, false, 13, [cWx w w.gain w.drop w.wrong (.own 1000 2 0 (V ++ [v] ++ [u]).length)]⟩), (8, 8, .live ⟨false, false, 13, [cWx w w.gain w.drop w.wrong (.sl w.vs.isEmpty false (VC.map cVs))]⟩), (1000, 90, .live ⟨(V ++ [v] ++ [u]).isEmpty, false, 2, (V ++ [v] ++ [u]).map cVs⟩)] (by first | rfl | (simp only [if_pos, if_true]; rfl)) (shp0 hσ (by simp) (by simp) ?_) ?_
            ·simp [SlotOk] <;> (repeat' (first | (refine RowsOk.same ?_; simp [purel, C.isPure]; done) | (refine rowsCons ?_; simp [mtl, mtc, mT, mH, C.isPure, purel]; done) | (refine rowsCons ?_; simp [mtl, mtc, mT, mH, C.isPure, purel]) | refine And.intro ?_ ?_))
            ·simp [mtc, mtl, mT, C.isPure, purel] <;> (try simp (disch := omega) [wrap_id]) <;> (try omega)
           ·simp [hd] at hq
          ·rw [if_neg (fun h => hd h.2)] at hst
           (repeat refine ZQ ?_); refine ZD [] [0, 1, 2, 3, 4, 5, 6, 7, 8, 9, 10, 11, 12, 13, 14, 15, 16] fun K hK => ?_; simp (maxSteps := 1000000) [ty28, ty26, ty3, ty55, ty53, hc, hlt, hlb, hu, hd]; refine hK _ ?_; clear hK K
           (repeat refine ZQ ?_); refine ZC (hc := by simp [hd]; rfl) (fun hq => ?_) (fun hq => ?_)
           ·simp [hd] at hq
           ·clear hq
            refine awp_skip ?_
            (repeat refine ZQ ?_); refine ZD [] [0, 1, 2, 3, 4, 5, 6, 7, 8, 9, 10] fun K hK => ?_; simp (maxSteps := 1000000) [ty28, ty26, ty3, ty53, hc, hu]
            refine ⟨by omega, ?_⟩
            refine hK _ ?_; clear hK K
            (repeat refine ZQ ?_); refine ZR fun K hK => ?_; simp (maxSteps := 1000000) [ty3]; refine hK _ ?_; clear hK K; (first | show AWP _ _ _ _ _ | show ∃ _, _ | skip)
            refine ⟨i + 1, by omega, by omega, ?_⟩
            rw [hst, hwi]
            refine wk_shape2 [(3, 3, .live (obWs w)), (4, 4, .live (obMo v a b c)), (5, 5, .live ⟨false, false, 2, [[encI k.size, encI k.most]]⟩), (7, 7, .live ⟨false, false, 13, [cWx w w.gain w.drop w.wrong (.own 1000 2 0 (V ++ [u]).length)]⟩), (8, 8, .live ⟨false, false, 13, [cWx w w.gain w.drop w.wrong (.sl w.vs.isEmpty false (VC.map cVs))]⟩), (1000, 90, .live ⟨(V ++ [u]).isEmpty, false, 2, (V ++ [u]).map cVs⟩)] (by first | rfl | (simp only [if_pos, if_true]; rfl)) (shp0 hσ (by simp) (by simp) ?_) ?_
            ·simp [SlotOk] <;> (repeat' (first | (refine RowsOk.same ?_; simp [purel, C.isPure]; done) | (refine rowsCons ?_; simp [mtl, mtc, mT, mH, C.isPure, purel]; done) | (refine rowsCons ?_; simp [mtl, mtc, mT, mH, C.isPure, purel]) | refine And.intro ?_ ?_))
            ·simp [mtc, mtl, mT, C.isPure, purel] <;> (try simp (disch := omega) [wrap_id]) <;> (try omega)
         ·rw [if_neg (fun h => hl h.1)] at hst
          have hlt : (V.length = i) = False := eq_false hl
          have hlb : ((V.length : Int) == i) = false := by rw [beq_eq_false_iff_ne]; omega
          (repeat refine ZQ ?_); refine ZD [] [0, 1, 2, 3, 4, 5, 6, 7, 8, 9, 10, 11, 12, 13, 14, 15, 16] fun K hK => ?_; simp (maxSteps := 1000000) [ty28, ty26, ty3, ty55, ty53, hc, hlt, hlb, hu]; refine hK _ ?_; clear hK K
          (repeat refine ZQ ?_); refine ZC (hc := by simp [hl]; rfl) (fun hq => ?_) (fun hq => ?_)
          ·simp [hl] at hq
          ·clear hq
           refine awp_skip ?_
           (repeat refine ZQ ?_); refine ZD [] [0, 1, 2, 3, 4, 5, 6, 7, 8, 9, 10] fun K hK => ?_; simp (maxSteps := 1000000) [ty28, ty26, ty3, ty53, hc, hu]
           refine ⟨by omega, ?_⟩
           refine hK _ ?_; clear hK K
           (repeat refine ZQ ?_); refine ZR fun K hK => ?_; simp (maxSteps := 1000000) [ty3]; refine hK _ ?_; clear hK K; (first | show AWP _ _ _ _ _ | show ∃ _, _ | skip)
           refine ⟨i + 1, by omega, by omega, ?_⟩
           rw [hst, hwi]
           refine wk_shape2 [(3, 3, .live (obWs w)), (4, 4, .live (obMo v a b c)), (5, 5, .live ⟨false, false, 2, [[encI k.size, encI k.most]]⟩), (7, 7, .live ⟨false, false, 13, [cWx w w.gain w.drop w.wrong (.own 1000 2 0 (V ++ [u]).length)]⟩), (8, 8, .live ⟨false, false, 13, [cWx w w.gain w.drop w.wrong (.sl w.vs.isEmpty false (VC.map cVs))]⟩), (1000, 90, .live ⟨(V ++ [u]).isEmpty, false, 2, (V ++ [u]).map cVs⟩)] (by first | rfl | (simp only [if_pos, if_true]; rfl)) (shp0 hσ (by simp) (by simp) ?_) ?_
           ·simp [SlotOk] <;> (repeat' (first | (refine RowsOk.same ?_; simp [purel, C.isPure]; done) | (refine rowsCons ?_; simp [mtl, mtc, mT, mH, C.isPure, purel]; done) | (refine rowsCons ?_; simp [mtl, mtc, mT, mH, C.isPure, purel]) | refine And.intro ?_ ?_))
           ·simp [mtc, mtl, mT, C.isPure, purel] <;> (try simp (disch := omega) [wrap_id]) <;> (try omega)
        ·simp at hc
         (repeat refine ZQ ?_); refine awp_exit ?_; (first | show AWP _ _ _ _ _ | show ∃ _, _ | skip)
         have hin : i = w.vs.length := by omega
         rw [hin] at hUi ⊢
         generalize U w.vs.length = V at *
         refine awp_mid ⟨ofL [(3, .ptr 3 13 0 0), (4, .ptr 4 5 0 0), (5, .ptr 5 2 0 0), (7, .ptr 7 13 0 0), (8, .ptr 8 13 0 0)],
          stoT [(3, 3, .live (obWs w)), (4, 4, .live (obMo v a b c)), (5, 5, .live ⟨false, false, 2, [[encI k.size, encI k.most]]⟩), (7, 7, .live ⟨false, false, 13, [cWx w w.gain w.drop w.wrong (.own 1000 2 0 L.length)]⟩), (8, 8, .live ⟨false, false, 13, [cWx w w.gain w.drop w.wrong (.sl w.vs.isEmpty false (VC.map cVs))]⟩), (1000, 1000, .live ⟨false, false, 2, L.map cVs⟩)]⟩ ?_ ?_
         ·by_cases hl : V.length = w.vs.length
          ·have hlt : (V.length = w.vs.length) = True := eq_true hl
           have hlb : ((V.length : Int) == w.vs.length) = true := by rw [hl]; simp
           rw [if_pos hl] at hLU
           (repeat refine ZQ ?_); refine ZR fun K hK => ?_; simp (maxSteps := 1000000) [ty28, ty26, ty3, hlt, hlb]; refine hK _ ?_; clear hK K
           (repeat refine ZQ ?_); refine ZC (fun hq => ?_) (fun hq => ?_)
           ·clear hq
            (repeat refine ZQ ?_); refine ZR fun K hK => ?_; simp (maxSteps := 1000000) [ty28, ty26, ty55, ty53]
            refine ⟨by omega, ?_⟩
            refine hK _ ?_; clear hK K; (first | show AWP _ _ _ _ _ | show ∃ _, _ | skip)
            rw [hLU]
            refine wk_shape2 [(3, 3, .live (obWs w)), (4, 4, .live (obMo v a b c)), (5, 5, .live ⟨false, false, 2, [[encI k.size, encI k.most]]⟩), (7, 7, .live ⟨false, false, 13, [cWx w w.gain w.drop w.wrong (.own 1000 2 0 (V ++ [v]).length)]⟩), (8, 8, .live ⟨false, false, 13, [cWx w w.gain w.drop w.wrong (.sl w.vs.isEmpty false (VC.map cVs))]⟩), (1000, 104, .live ⟨false, false, 2, (V ++ [v]).map cVs⟩)] (by first | rfl | (simp only [if_pos, if_true]; rfl)) (shp0 hσ (by simp) (by simp) ?_) ?_
            ·simp [SlotOk] <;> (repeat' (first | (refine RowsOk.same ?_; simp [purel, C.isPure]; done) | (refine rowsCons ?_; simp [mtl, mtc, mT, mH, C.isPure, purel]; done) | (refine rowsCons ?_; simp [mtl, mtc, mT, mH, C.isPure, purel]) | refine And.intro ?_ ?_))
            ·simp [mtc, mtl, mT, C.isPure, purel] <;> (try simp (disch := omega) [wrap_id]) <;> (try omega)
           ·simp at hq
          ·have hlt : (V.length = w.vs.length) = False := eq_false hl
           have hlb : ((V.length : Int) == w.vs.length) = false := by rw [beq_eq_false_iff_ne]; omega
           rw [if_neg hl] at hLU
           have hem : V.isEmpty = false := by
            cases V with
            | nil => rw [hLU] at hLl; simp at hLl
            | cons _ _ => rfl
           rw [hLU]
           (repeat refine ZQ ?_); refine ZR fun K hK => ?_; simp (maxSteps := 1000000) [ty28, ty26, ty3, hlt, hlb]; refine hK _ ?_; clear hK K
           (repeat refine ZQ ?_); refine ZC (fun hq => ?_) (fun hq => ?_)
           ·simp at hq
           ·clear hq
            refine awp_skip ?_; (first | show AWP _ _ _ _ _ | show ∃ _, _ | skip)
            refine wk_shape (shp0 hσ (by simp) (by simp) ?_) ?_
            ·simp [SlotOk, hem] <;> (repeat' (first | (refine RowsOk.same ?_; simp [purel, C.isPure]; done) | (refine rowsCons ?_; simp [mtl, mtc, mT, mH, C.isPure, purel]; done) | (refine rowsCons ?_; simp [mtl, mtc, mT, mH, C.isPure, purel]) | refine And.intro ?_ ?_))
            ·simp [mtc, mtl, mT, C.isPure, purel, hem] <;> (try simp (disch := omega) [wrap_id]) <;> (try omega)
         ·refine AWP.weak ?_ (wk_frzCell 1000 7 0 11 (o := ⟨false, false, 2, L.map cVs⟩) (oq := ⟨false, false, 13, [cWx w w.gain w.drop w.wrong (.own 1000 2 0 L.length)]⟩) (row := cWx w w.gain w.drop w.wrong (.own 1000 2 0 L.length)) (c := .own 1000 2 0 L.length) (c' := .sl false false (L.map cVs)) (by simp) (all_purel_map fun _ => rfl) (by simp) (by decide) rfl rfl rfl (fz_own rfl (by simp) (by simp)) rfl)
          (repeat refine ZQ ?_); refine ZR fun K hK => ?_; simp (maxSteps := 1000000) [ty28, ty55, ty3, wr1]; refine hK _ ?_; clear hK K
          (repeat refine ZQ ?_); refine ZR fun K hK => ?_; simp (maxSteps := 1000000) [ty28, ty55, ty3, wr2]; refine hK _ ?_; clear hK K
          (repeat refine ZQ ?_); refine ZR fun K hK => ?_; simp (maxSteps := 1000000) [ty28, ty55, ty3, wr3]; refine hK _ ?_; clear hK K; (first | show AWP _ _ _ _ _ | show ∃ _, _ | skip)
          cases bo
          ·cases bp
           ·(repeat refine ZQ ?_); refine ZR fun K hK => ?_; simp (maxSteps := 1000000) [ty28, ty31, ty4]
            refine ZP (hO) ?_; simp (maxSteps := 1000000) [ty28, ty31, ty4]
            refine ZP (hP) ?_; simp (maxSteps := 1000000) [ty28, ty31, ty4]
            refine ZP (works15) ?_; simp (maxSteps := 1000000) [ty4]
            refine hK _ ?_; clear hK K
            (repeat refine ZQ ?_); refine awp_ret ?_; refine And.intro (Or.inr rfl) ?_
            simp [retC, resC, viewC, mapO]
           ·(repeat refine ZQ ?_); refine ZR fun K hK => ?_; simp (maxSteps := 1000000) [ty28, ty31, ty4]
            refine ZP (hO) ?_; simp (maxSteps := 1000000) [ty28, ty31, ty4]
            refine ZP (hP) ?_; simp (maxSteps := 1000000) [ty28, ty31, ty4]
            refine ZP (hfp rfl) ?_; simp (maxSteps := 1000000) [ty4]
            refine ZP (works15) ?_; simp (maxSteps := 1000000) [ty4]
            refine hK _ ?_; clear hK K
            (repeat refine ZQ ?_); refine awp_ret ?_; refine And.intro (Or.inr rfl) ?_
            simp [retC, resC, viewC, mapO]
          ·cases bp
           ·(repeat refine ZQ ?_); refine ZR fun K hK => ?_; simp (maxSteps := 1000000) [ty28, ty31, ty4]
            refine ZP (hO) ?_; simp (maxSteps := 1000000) [ty28, ty31, ty4]
            refine ZP (hfo rfl) ?_; simp (maxSteps := 1000000) [ty28, ty31, ty4]
            refine ZP (hP) ?_; simp (maxSteps := 1000000) [ty28, ty31, ty4]
            refine ZP (works15) ?_; simp (maxSteps := 1000000) [ty4]
            refine hK _ ?_; clear hK K
            (repeat refine ZQ ?_); refine awp_ret ?_; refine And.intro (Or.inr rfl) ?_
            simp [retC, resC, viewC, mapO]
           ·(repeat refine ZQ ?_); refine ZR fun K hK => ?_; simp (maxSteps := 1000000) [ty28, ty31, ty4]
            refine ZP (hO) ?_; simp (maxSteps := 1000000) [ty28, ty31, ty4]
            refine ZP (hfo rfl) ?_; simp (maxSteps := 1000000) [ty28, ty31, ty4]
            refine ZP (hP) ?_; simp (maxSteps := 1000000) [ty28, ty31, ty4]
            refine ZP (hfp rfl) ?_; simp (maxSteps := 1000000) [ty4]
            refine ZP (works15) ?_; simp (maxSteps := 1000000) [ty4]
            refine hK _ ?_; clear hK K
            (repeat refine ZQ ?_); refine awp_ret ?_; refine And.intro (Or.inr rfl) ?_
            simp [retC, resC, viewC, mapO]

open Go.ChangeShapes Go.WideShapes Go.ChangeAt Go.RowKit

set_option maxRecDepth 100000 in
theorem wearMore_lifted (os : Os) (started : os.Started) (H : Type) (enc : TypeId × Value → H) :
  ReturnsInHanded {} Tryz.checked os 5 .any (Rows.wearMoreSpec.pre6 enc Tryz.prog Tryz.f5 Rows.wearMoreRow.domain false) (Rows.wearMoreSpec.post enc Tryz.prog Tryz.f5 false true false false) := by
 refine returnsInHanded_of_change (C := Tryz.checked) J.own started (by kernel_rfl) Tryz.func5
  (ChangeSpec.witness6 (enc := enc) (C := Tryz.checked) false ⟨#[], #[.agg #[.int .i64 0, .int .i64 0, .int .i64 0, .int .i64 0, .int .i64 0, .int .i64 0, .int .i64 0, .int .i64 0, .int .i64 0, .int .i64 0, .int .i64 0, .slice none 0 0, .int .i64 0], .agg #[.int .i64 0, .slice none 0 0, .int .i64 0, .int .i64 0, .int .i64 0], .agg #[.int .i64 0, .int .i64 0]], []⟩ 8 (by kernel_rfl) (by kernel_rfl) (by kernel_rfl) (by kernel_rfl)) ?_
 intro W base args ds gs before hval hW _ _
 refine law_contract (P := Tryz.prog) (tb := 4) (by kernel_rfl) J.ub rfl (fun ds hl => ?_) J.laid J.maps J.sized (by kernel_rfl) (by kernel_rfl) (fun cargs hc => ?_) W base args ds gs before hval hW
 ·have h2 : ds.length = 3 := hl
  match ds, h2 with
  | [_, _, _], _ => rfl
 ·rw [Tryz.params5] at hc
  obtain ⟨w, r, rfl, hc1⟩ := argWear hc
  obtain ⟨v, a, b, c, r1, rfl, hc2⟩ := argMore hc1
  obtain ⟨k, r2, rfl, hc3⟩ := argClass hc2
  obtain rfl := arg_end hc3
  exact law5 w v a b c k

theorem wearMore_holds : Rows.WearMoreSaid :=
 OpenClaim.holds_of_wide 5 Tryz.f5 rfl rfl rfl rfl rfl rfl rfl ⟨rfl, rfl, rfl, rfl, rfl⟩ rfl rfl rfl rfl rfl (by kernel_rfl) Tryz.func5 (by kernel_rfl)
  (of_decide_eq_true (by kernel_rfl)) (by unfold Func.isWrapper; first | (rw [if_pos (by decide +kernel)]; kernel_rfl) | (rw [if_neg (by decide +kernel)]; exact ⟨rfl, rfl⟩))
  (fun os started H enc _ => wearMore_lifted os started H enc)
#print axioms wearMore_holds
end Go.Proofs.YtknoachjpoibaaaGreat

