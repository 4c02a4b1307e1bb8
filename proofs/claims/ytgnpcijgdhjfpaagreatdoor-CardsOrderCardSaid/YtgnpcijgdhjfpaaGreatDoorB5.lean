/- The machine of abstract values and the contracts of the functions of the program, which the statements of this seat share. No condition. -/
import Derived.Test.YtgnpcijgdhjfpaaGreatDoorB4
import Derived.ProofKit
import Derived.OpenShut
import Derived.ChangeStays
import Derived.Test.YtgnpcijgdhjfpaaGreatDoorCards
import Derived.Test.YtgnpcijgdhjfpaaGreatDoorTie
import Derived.WalkKit
import Derived.Deep.DeepHandedRow
import Derived.LaidLaws
import Derived.Shelf.Vars

set_option linter.unusedSimpArgs false
set_option linter.unusedVariables false
set_option linter.constructorNameAsVariable false

namespace Go.Proofs.YtgnpcijgdhjfpaaGreatDoor
open Go Go.Abs

set_option maxHeartbeats 4000000
set_option maxRecDepth 20000

-- cards, in plain words: a hand of lines that are all cards of one pack

/-- The rows of the cards that are there. -/
def rowsP (T pre : List (List UInt8)) : List (List UInt8) := (List.range T.length).map fun i => if cardAt T i ∈ pre then rowB (T.getD i []) (longB T) else []
def sumP (T pre : List (List UInt8)) (wt : Bool) : List UInt8 := if sumL T wt ∈ pre then sumR T wt else []
structure HI (T pre : List (List UInt8)) (s : HS) : Prop where
 rows : s.rows = rowsP T pre
 a : s.a = sumP T pre false
 b : s.b = sumP T pre true
 long : s.long = (longB T + 2 : Nat)
 many : s.many = T.length
 known : ∀ o ∈ s.known, ∃ c ∈ cardsB T, o = parseC c
def HJ (T pre : List (List UInt8)) (s : HS) : Prop := (s = zHS ∧ ∀ c ∈ cardsB T, c ∉ pre) ∨ (HI T pre s ∧ s.known ≠ [])
/-- Each good line is a card of the pack. -/
def Sub (ls T : List (List UInt8)) : Prop := ∀ l ∈ ls, parseOk l = true → l ∈ cardsB T

theorem card_i {T : List (List UInt8)} {i : Nat} (hi : i < T.length) : cardAt T i ∈ cardsB T := mem_cards.2 (.inl ⟨i, hi, rfl⟩)
theorem card_s {T : List (List UInt8)} (wt : Bool) : sumL T wt ∈ cardsB T := by
 cases wt
 ·exact mem_cards.2 (.inr (.inl rfl))
 ·exact mem_cards.2 (.inr (.inr rfl))
theorem card_ij {T : List (List UInt8)} (h : PackOk T) {i j : Nat} (hi : i < T.length) (hj : j < T.length) (e : cardAt T i = cardAt T j) : i = j := by
 have h1 := congrArg (fun c => (parseC c).num.toNat) e
 simp only [(cardAt_ok h hi).2.1, (cardAt_ok h hj).2.1, cnum_at h hi, cnum_at h hj] at h1
 omega
theorem card_is {T : List (List UInt8)} (h : PackOk T) {i : Nat} (hi : i < T.length) (wt : Bool) : cardAt T i ≠ sumL T wt := by
 intro e
 have h8 := h.many
 have h1 := congrArg (fun c => (parseC c).num.toNat) e
 simp only [(cardAt_ok h hi).2.1, (sumL_ok h wt).2.1, cnum_at h hi] at h1
 cases wt <;> simp [sumC] at h1 <;> omega
theorem card_ab {T : List (List UInt8)} (h : PackOk T) {v w : Bool} (e : sumL T v = sumL T w) : v = w := by
 have h1 := congrArg (fun c => (parseC c).num.toNat) e
 simp only [(sumL_ok h v).2.1, (sumL_ok h w).2.1] at h1
 cases v <;> cases w <;> simp [sumC] at h1 <;> rfl

theorem rowsP_len (T pre : List (List UInt8)) : (rowsP T pre).length = T.length := by simp [rowsP]

theorem beg_HI {T pre : List (List UInt8)} {s : HS} (h : PackOk T) (hj : HJ T pre s) {c : List UInt8} (hc : c ∈ cardsB T) : HI T pre (begH s (parseC c)) := by
 obtain ⟨_, c2, c3⟩ := cards_parse h hc
 rcases hj with ⟨rfl, h2⟩ | ⟨h1, h2⟩
 ·unfold begH
  rw [if_pos (show zHS.rows.isEmpty = true from rfl)]
  refine ⟨?_, ?_, ?_, ?_, c2, fun o ho => by simp [zHS] at ho⟩
  ·simp only [c2, Int.toNat_natCast]
   unfold rowsP
   refine List.ext_getElem (by simp) fun i g1 g2 => ?_
   simp only [List.length_replicate] at g1
   simp only [List.getElem_replicate, List.getElem_map, List.getElem_range]
   rw [if_neg (h2 _ (card_i g1))]
  ·unfold sumP; rw [if_neg (h2 _ (card_s false))]; rfl
  ·unfold sumP; rw [if_neg (h2 _ (card_s true))]; rfl
  ·simp only [c3]
 ·have hne : s.rows.isEmpty = false := by
   rw [h1.rows]
   have := rowsP_len T pre
   have h8 := h.many
   cases hq : rowsP T pre with
   | nil => rw [hq] at this; simp at this; omega
   | cons a b => rfl
  unfold begH
  rw [hne, if_neg (by simp)]
  exact h1

theorem no_clash {T pre : List (List UInt8)} {s : HS} (h : PackOk T) (hi : HI T pre s) {c : List UInt8} (hc : c ∈ cardsB T) : clash s (parseC c) = false := by
 obtain ⟨_, c2, c3⟩ := cards_parse h hc
 unfold clash
 rw [hi.many, hi.long, c2, c3]
 simp only [bne_self_eq_false, Bool.or_false]
 cases hq : lookN (parseC c).num s.known with
 | none => rfl
 | some o =>
  simp only
  obtain ⟨d, hd, rfl⟩ := hi.known o (List.mem_of_find?_eq_some hq)
  have hn : (parseC d).num = (parseC c).num := by simpa using List.find?_some hq
  rw [card_num h hd hc hn]
  simp [cdEq]

theorem put_HI {T pre : List (List UInt8)} {s : HS} (h : PackOk T) (hi : HI T pre s) {c : List UInt8} (hc : c ∈ cardsB T) : HI T (pre ++ [c]) (putH s (parseC c)) ∧ (putH s (parseC c)).known ≠ [] := by
 have hkn : ∀ o ∈ (putH s (parseC c)).known, ∃ c ∈ cardsB T, o = parseC c := by
  intro o ho
  unfold putH at ho
  simp only at ho
  split at ho
  ·exact hi.known o ho
  ·rcases List.mem_append.1 ho with ho | ho
   ·exact hi.known o ho
   ·simp at ho; exact ⟨c, hc, ho⟩
 have hk0 : (putH s (parseC c)).known ≠ [] := by
  unfold putH
  simp only
  split
  ·rename_i hq
   intro e
   rw [e] at hq; simp [lookN] at hq
  ·simp
 refine ⟨?_, hk0⟩
 have h8 := h.many
 rcases mem_cards.1 hc with ⟨i, hil, rfl⟩ | hs
 ·obtain ⟨_, p2, _⟩ := cardAt_ok h hil
  have hn := cnum_at h hil
  have hsn : sumN (cAt T i).num = false := by
   unfold sumN
   simp only [Bool.or_eq_false_iff, beq_eq_false_iff_ne]
   constructor <;> (intro e; have := congrArg UInt8.toNat e; rw [hn] at this; simp at this; omega)
  have hna : ((cAt T i).num == 97) = false := by unfold sumN at hsn; simp only [Bool.or_eq_false_iff] at hsn; exact hsn.1
  have hnb : ((cAt T i).num == 98) = false := by unfold sumN at hsn; simp only [Bool.or_eq_false_iff] at hsn; exact hsn.2
  refine ⟨?_, ?_, ?_, hi.long, hi.many, hkn⟩
  ·unfold putH
   simp only [p2, hsn, Bool.false_eq_true, if_false, hn, hi.rows]
   refine List.ext_getElem (by simp [rowsP]) fun j g1 g2 => ?_
   have hjl : j < T.length := by simpa [rowsP] using g2
   simp only [rowsP, List.getElem_set, List.getElem_map, List.getElem_range, List.mem_append, List.mem_singleton]
   by_cases hji : 49 + i - 49 = j
   ·have : i = j := by omega
    subst this
    rw [if_pos hji, if_pos (.inr rfl)]; rfl
   ·rw [if_neg hji]
    have : ¬ cardAt T j = cardAt T i := fun e => hji (by have := card_ij h hjl hil e; omega)
    simp only [this, or_false]
  ·unfold putH sumP
   simp only [p2, hna, Bool.false_eq_true, if_false, hi.a, List.mem_append, List.mem_singleton]
   have : ¬ sumL T false = cardAt T i := fun e => card_is h hil false e.symm
   simp only [this, or_false]; rfl
  ·unfold putH sumP
   simp only [p2, hnb, Bool.false_eq_true, if_false, hi.b, List.mem_append, List.mem_singleton]
   have : ¬ sumL T true = cardAt T i := fun e => card_is h hil true e.symm
   simp only [this, or_false]; rfl
 ·obtain ⟨wt, rfl⟩ : ∃ wt, c = sumL T wt := by rcases hs with h | h <;> exact ⟨_, h⟩
  obtain ⟨_, p2, _⟩ := sumL_ok h wt
  have hsn : sumN (sumC T wt).num = true := by cases wt <;> rfl
  have hR : ∀ i, i < T.length → (cardAt T i ∈ pre ++ [sumL T wt] ↔ cardAt T i ∈ pre) := fun i hil => by
   have := card_is h hil wt
   simp only [List.mem_append, List.mem_singleton, this, or_false]
  refine ⟨?_, ?_, ?_, hi.long, hi.many, hkn⟩
  ·unfold putH
   simp only [p2, hsn, if_true, hi.rows]
   unfold rowsP
   refine List.map_congr_left fun i hil => ?_
   simp only [hR i (List.mem_range.1 hil)]
  ·unfold putH
   simp only [p2, hi.a]
   cases wt
   ·have : (sumC T false).num == 97 := rfl
    rw [if_pos this]; unfold sumP; rw [if_pos (by simp)]; rfl
   ·have : ¬ ((sumC T true).num == 97) = true := by simp [sumC]
    rw [if_neg this]
    have hne : ¬ sumL T false = sumL T true := fun e => by cases card_ab h e
    unfold sumP
    simp only [List.mem_append, List.mem_singleton, hne, or_false]
  ·unfold putH
   simp only [p2, hi.b]
   cases wt
   ·have : ¬ ((sumC T false).num == 98) = true := by simp [sumC]
    rw [if_neg this]
    have hne : ¬ sumL T true = sumL T false := fun e => by cases card_ab h e
    unfold sumP
    simp only [List.mem_append, List.mem_singleton, hne, or_false]
   ·have : (sumC T true).num == 98 := rfl
    rw [if_pos this]; unfold sumP; rw [if_pos (by simp)]; rfl

theorem skip_HJ {T pre : List (List UInt8)} {s : HS} (h : PackOk T) (hj : HJ T pre s) {l : List UInt8} (hl : l ∉ cardsB T) : HJ T (pre ++ [l]) s := by
 have hR : ∀ c ∈ cardsB T, (c ∈ pre ++ [l] ↔ c ∈ pre) := fun c hc => by
  have : ¬ c = l := fun e => hl (e ▸ hc)
  simp only [List.mem_append, List.mem_singleton, this, or_false]
 rcases hj with ⟨h1, h2⟩ | ⟨h1, h2⟩
 ·exact .inl ⟨h1, fun c hc => by rw [hR c hc]; exact h2 c hc⟩
 ·refine .inr ⟨⟨?_, ?_, ?_, h1.long, h1.many, h1.known⟩, h2⟩
  ·rw [h1.rows]; unfold rowsP
   refine List.map_congr_left fun i hil => ?_
   simp only [hR _ (card_i (List.mem_range.1 hil))]
  ·rw [h1.a]; unfold sumP; simp only [hR _ (card_s false)]
  ·rw [h1.b]; unfold sumP; simp only [hR _ (card_s true)]

theorem srt_HJ {T : List (List UInt8)} (h : PackOk T) : ∀ (ls pre : List (List UInt8)) (s : HS), Sub ls T → HJ T pre s → ∃ s', srt ls s = (s', !s'.known.isEmpty) ∧ HJ T (pre ++ ls) s'
 | [], pre, s, _, hj => ⟨s, rfl, by simpa using hj⟩
 | l :: r, pre, s, hs, hj => by
  have e : pre ++ (l :: r) = (pre ++ [l]) ++ r := by simp
  have hs' : Sub r T := fun x hx => hs x (by simp [hx])
  unfold srt
  by_cases hp : parseOk l = true
  ·have hc := hs l (by simp) hp
   have hb := beg_HI h hj hc
   rw [if_pos hp, no_clash h hb hc, if_neg (by simp), e]
   exact srt_HJ h r _ _ hs' (.inr (put_HI h hb hc))
  ·rw [if_neg hp, e]
   refine srt_HJ h r _ _ hs' (skip_HJ h hj fun hc => hp (cards_parse h hc).1)

/-- The hand, once all is read. -/
theorem srt_all {T ls : List (List UInt8)} (h : PackOk T) (hs : Sub ls T) (hg : ∃ l ∈ ls, parseOk l = true) : (srt ls zHS).2 = true ∧ HI T ls (srt ls zHS).1 := by
  obtain ⟨s', e, hj⟩ := srt_HJ h ls [] zHS hs (.inl ⟨rfl, by simp⟩)
  rw [e]
  rw [List.nil_append] at hj
  rcases hj with ⟨_, h2⟩ | ⟨h1, h2⟩
  · obtain ⟨l, hl, hp⟩ := hg
    exact absurd hl (h2 l (hs l hl hp))
  · exact ⟨by simpa using h2, h1⟩

set_option maxHeartbeats 4000000
set_option maxRecDepth 20000

-- cards, in plain words: what is missing is found

def valR (T : List (List UInt8)) (k i : Nat) : Int := valB (atB (rowsB T) i k)

theorem valR_bd {T : List (List UInt8)} (h : PackOk T) {k i : Nat} (hi : i < T.length) (hk : k < longB T + 2) : 0 ≤ valR T k i ∧ valR T k i ≤ 94 := by
 obtain ⟨_, h1, h2⟩ := (at_val h.rows.2.2 (by simpa [rowsB] using hi) hk).2
 exact ⟨h1, h2⟩

theorem sumsTo_take (R : List (List UInt8)) (wt : Bool) : ∀ n k, k ≤ n → (sumsTo R wt n).take (2 * k) = sumsTo R wt k
  | 0, k, h => by obtain rfl : k = 0 := by omega
                  rfl
  | n + 1, k, h => by
    by_cases e : k = n + 1
    · subst e; exact List.take_of_length_le (by rw [sumsTo_len]; omega)
    · simp only [sumsTo]
      rw [List.take_append_of_le_length (by rw [sumsTo_len]; omega)]
      exact sumsTo_take R wt n k (by omega)

theorem numV_two {n : Nat} (h : n < 100) : numV (twoB n) = n := by
 have hp := (dig_plain (twoB_pl h)).2
 unfold numV numOk
 rw [hp]
 have : ((twoB n).length == 2 && true) = true := rfl
 rw [if_pos this]
 unfold numAt twoB
 simp only [List.getD_cons_zero, List.getD_cons_succ, UInt8.toNat_ofNat']
 omega

theorem numV_sum {T : List (List UInt8)} (h : PackOk T) (wt : Bool) {k : Nat} (hk : k < longB T + 2) : (numV (((sumR T wt).take (2 * k + 2)).drop (2 * k)) : Int) = colS (rowsB T) wt k T.length % 97 := by
 have hR := h.rows.2.2
 have hh : ((rowsB T).headD []).length = longB T + 2 := by
  have hpos := hR.many.1
  cases hq : rowsB T with
  | nil => rw [hq] at hpos; simp at hpos
  | cons a r => exact hR.len a (by rw [hq]; simp)
 have hl : (rowsB T).length = T.length := by simp [rowsB]
 unfold sumR sumsB
 rw [hh, show 2 * k + 2 = 2 * (k + 1) by omega, sumsTo_take _ _ _ _ (by omega)]
 simp only [sumsTo]
 rw [List.drop_left' (sumsTo_len _ _ _), numV_two (by omega), hl]
 omega

/-- What is missing at a place. -/
def gapTo (T ls : List (List UInt8)) (wt : Bool) (k : Nat) : Nat → Int
  | 0 => 0
  | i + 1 => gapTo T ls wt k i + (if cardAt T i ∈ ls then 0 else valR T k i * wgt wt i)

theorem rowsP_at {T ls : List (List UInt8)} {i : Nat} (hi : i < T.length) : (rowsP T ls).getD i [] = if cardAt T i ∈ ls then rowB (T.getD i []) (longB T) else [] := by
 unfold rowsP
 simp [List.getD_eq_getElem?_getD, hi]

theorem row_ne {T : List (List UInt8)} (h : PackOk T) {i : Nat} (hi : i < T.length) : rowB (T.getD i []) (longB T) ≠ [] := fun e => by
 have := (row_at_ok h hi).1
 rw [e] at this; simp at this

theorem rowsP_nil {T ls : List (List UInt8)} (h : PackOk T) {i : Nat} (hi : i < T.length) : (rowsP T ls).getD i [] = [] ↔ cardAt T i ∉ ls := by
 rw [rowsP_at hi]
 split
 ·rename_i hc
  exact ⟨fun e => absurd e (row_ne h hi), fun hn => absurd hc hn⟩
 ·rename_i hc
  exact ⟨fun _ => hc, fun _ => rfl⟩

theorem left_gap {T ls : List (List UInt8)} (h : PackOk T) (wt : Bool) (k : Nat) : ∀ i, i ≤ T.length → leftTo (rowsP T ls) k wt i + gapTo T ls wt k i = colS (rowsB T) wt k i
 | 0, _ => rfl
 | i + 1, hi => by
  have ih := left_gap (ls := ls) h wt k i (by omega)
  have e1 : atB (rowsP T ls) i k = ((rowsP T ls).getD i []).getD k 0 := rfl
  have e2 : atB (rowsB T) i k = ((rowsB T).getD i []).getD k 0 := rfl
  simp only [leftTo, gapTo, colS, valR]
  rw [rows_at (by omega)] at e2
  by_cases hc : cardAt T i ∈ ls
  ·rw [rowsP_at (by omega), if_pos hc] at e1
   rw [if_pos hc, if_neg (fun e => absurd hc ((rowsP_nil h (by omega)).1 e)), e1, e2]
   omega
  ·rw [if_neg hc, if_pos ((rowsP_nil h (by omega)).2 hc)]
   omega

theorem gap_sum {T ls : List (List UInt8)} (h : PackOk T) (wt : Bool) (k : Nat) : ∀ i, i ≤ T.length → gapTo T ls wt k i = ((missTo (rowsP T ls) i).map fun z => valR T k z.toNat * wgt wt z.toNat).sum
 | 0, _ => rfl
 | i + 1, hi => by
  have ih := gap_sum (ls := ls) h wt k i (by omega)
  have hlt : i < (rowsP T ls).length := by rw [rowsP_len]; omega
  have e : (rowsP T ls)[i] = (rowsP T ls).getD i [] := by simp [List.getD_eq_getElem?_getD, List.getElem?_eq_getElem hlt]
  rw [missTo_succ _ hlt, e]
  simp only [gapTo]
  by_cases hc : cardAt T i ∈ ls
  ·rw [if_pos hc, if_neg (fun e => absurd hc ((rowsP_nil h (by omega)).1 e)), ih]; omega
  ·rw [if_neg hc, if_pos ((rowsP_nil h (by omega)).2 hc), ih, List.map_append, List.sum_append]
   simp

theorem left_eq {T ls : List (List UInt8)} (h : PackOk T) (wt : Bool) {k : Nat} (hk : k < longB T + 2) : leftN (rowsP T ls) (sumR T wt) k wt = ((missB (rowsP T ls)).map fun z => valR T k z.toNat * wgt wt z.toNat).sum % 97 := by
 have h1 := left_gap (ls := ls) h wt k T.length (Nat.le_refl _)
 have h2 := gap_sum (ls := ls) h wt k T.length (Nat.le_refl _)
 have h3 := numV_sum h wt hk
 unfold leftN missB
 rw [rowsP_len, h3, ← h2]
 omega

theorem inv_cancel {w v : Int} {d : Nat} (h1 : 1 ≤ d) (h8 : d ≤ 8) (hv : 0 ≤ v ∧ v ≤ 96) (hw : w % 97 = v * d % 97) : w * invN d % 97 = v := by
 obtain ⟨_, _, h3, _⟩ := inv_ok ⟨d, by omega⟩ h1
 simp only at h3
 have h4 : ((invN d : Int) * d) % 97 = 1 := by omega
 have h5 : w * invN d % 97 = (v * d) * invN d % 97 := by rw [Int.mul_emod, hw, ← Int.mul_emod]
 rw [h5, Int.mul_assoc, Int.mul_comm (d : Int), Int.mul_emod, h4]
 omega

/-- What is found is what was there. -/
theorem found_eq {T ls : List (List UInt8)} {s : HS} (h : PackOk T) (hi : HI T ls s) (hs : (missB s.rows).length ≤ sumsN s) {k : Nat} (hk : k < longB T + 2) :
    foundB s k = (missB s.rows).map fun z => valR T k z.toNat := by
  have hrl : s.rows.length = T.length := by rw [hi.rows, rowsP_len]
  have h8 := h.many
  have hA : ∀ wt, sumR T wt ≠ [] := fun wt e => by have := (sumR_ok h wt).1; rw [e] at this; simp at this
  have ha : s.a ≠ [] → s.a = sumR T false := by
    rw [hi.a]; unfold sumP; split
    · exact fun _ => rfl
    · exact fun h => absurd rfl h
  have hb : s.b ≠ [] → s.b = sumR T true := by
    rw [hi.b]; unfold sumP; split
    · exact fun _ => rfl
    · exact fun h => absurd rfl h
  have la := left_eq (ls := ls) h false hk
  have lb := left_eq (ls := ls) h true hk
  rw [← hi.rows] at la lb
  have hL : ∀ j (hj : j < (missB s.rows).length), lostAt s j < T.length ∧ (missB s.rows)[j] = (lostAt s j : Int) := fun j hj => by
    obtain ⟨h1, h2⟩ := lost_lt hj
    exact ⟨by omega, h2⟩
  have hasc := lost_asc (s := s)
  have hna : s.a = [] → nzN s.a = 0 := fun e => if_pos e
  have hnb : s.b = [] → nzN s.b = 0 := fun e => if_pos e
  have hu : nzN s.a ≤ 1 ∧ nzN s.b ≤ 1 := by unfold nzN; constructor <;> split <;> omega
  unfold sumsN at hs
  unfold foundB
  generalize hM : missB s.rows = M at *
  match M with
  | [] => simp
  | [z] =>
    obtain ⟨h1, h2⟩ := hL 0 (by simp)
    simp only [List.getElem_cons_zero] at h2
    subst h2
    generalize lostAt s 0 = i at *
    obtain ⟨v1, v2⟩ := valR_bd h h1 hk
    simp only [List.map_cons, List.map_nil, List.sum_cons, List.sum_nil, Int.toNat_natCast, wgt, Bool.false_eq_true, if_false, if_true] at la lb ⊢
    by_cases h0 : s.a = []
    · have hb0 : s.b ≠ [] := fun e => by have := hna h0; have := hnb e; simp at hs; omega
      rw [if_neg (by simp [h0]), if_pos (by simp), hb hb0, lb]
      congr 1
      refine inv_cancel (by omega) (by omega) ⟨v1, by omega⟩ ?_
      simp
    · rw [if_pos ⟨by simp, h0⟩, ha h0, la]
      congr 1
      omega
  | [y, z] =>
    have hlt := hasc rfl
    obtain ⟨h1, h2⟩ := hL 0 (by simp)
    obtain ⟨h3, h4⟩ := hL 1 (by simp)
    simp only [List.getElem_cons_zero, List.getElem_cons_succ] at h2 h4
    subst h2; subst h4
    generalize lostAt s 0 = i at *
    generalize lostAt s 1 = j at *
    obtain ⟨v1, v2⟩ := valR_bd h h1 hk
    obtain ⟨w1, w2⟩ := valR_bd h h3 hk
    simp only [List.length_cons, List.length_nil] at hs
    have ha0 : s.a ≠ [] := fun e => by have := hna e; omega
    have hb0 : s.b ≠ [] := fun e => by have := hnb e; omega
    simp only [List.map_cons, List.map_nil, List.sum_cons, List.sum_nil, Int.toNat_natCast, wgt, Bool.false_eq_true, if_false, if_true] at la lb ⊢
    rw [if_neg (by simp), if_neg (by simp), if_pos (by simp), ha ha0, hb hb0, la, lb]
    generalize valR T k i = v at *
    generalize valR T k j = w at *
    have hx : ((v * ((i : Int) + 1) + (w * ((j : Int) + 1) + 0)) % 97 - (v * 1 + (w * 1 + 0)) % 97 * ((i : Int) + 1)) * invN (j - i) % 97 = w := by
      refine inv_cancel (by omega) (by omega) ⟨w1, by omega⟩ ?_
      obtain ⟨d, rfl⟩ : ∃ d, j = i + d := ⟨j - i, by omega⟩
      rw [Int.sub_emod, Int.emod_emod, Int.mul_emod ((v * 1 + (w * 1 + 0)) % 97), Int.emod_emod, ← Int.mul_emod, ← Int.sub_emod]
      have : i + d - i = d := by omega
      rw [this]
      congr 1
      rw [Int.natCast_add]
      simp only [Int.mul_add, Int.add_mul, Int.mul_one, Int.one_mul, Int.add_zero]
      omega
    rw [hx]
    have hy : ((v * 1 + (w * 1 + 0)) % 97 - w) % 97 = v := by omega
    rw [hy]
  | _ :: _ :: _ :: _ => simp at hs; omega

set_option maxHeartbeats 4000000
set_option maxRecDepth 20000

-- cards, in plain words: what unpack says

def fam (m : Nat) (g : Nat → List UInt8) : List (List UInt8) := (List.range m).map g

theorem fam_congr {m : Nat} {g h : Nat → List UInt8} (e : ∀ i, i < m → g i = h i) : fam m g = fam m h := List.map_congr_left fun i hi => e i (List.mem_range.1 hi)
theorem fam_at {m : Nat} {g : Nat → List UInt8} {i : Nat} (hi : i < m) : (fam m g).getD i [] = g i := by
 unfold fam
 simp [List.getD_eq_getElem?_getD, hi]

theorem fam_set {m : Nat} {g : Nat → List UInt8} {z : Nat} (v : List UInt8) : (fam m g).set z v = fam m fun i => if i = z then v else g i := by
 unfold fam
 refine List.ext_getElem (by simp) fun i h1 h2 => ?_
 simp only [List.getElem_set, List.getElem_map, List.getElem_range]
 by_cases h : z = i
 ·rw [if_pos h, if_pos h.symm]
 ·rw [if_neg h, if_neg fun e => h e.symm]

theorem rowsP_fam (T ls : List (List UInt8)) : rowsP T ls = fam T.length fun i => if cardAt T i ∈ ls then rowB (T.getD i []) (longB T) else [] := rfl
theorem rowsB_fam (T : List (List UInt8)) : rowsB T = fam T.length fun i => rowB (T.getD i []) (longB T) := by
 unfold rowsB fam
 refine List.ext_getElem (by simp) fun i h1 h2 => ?_
 have : i < T.length := by simpa using h1
 simp [List.getD_eq_getElem?_getD, List.getElem?_eq_getElem this]

theorem val_byte {T : List (List UInt8)} (h : PackOk T) {k i : Nat} (hi : i < T.length) (hk : k < longB T + 2) : (rowB (T.getD i []) (longB T)).take k ++ [UInt8.ofNat (valR T k i + 32).toNat] = (rowB (T.getD i []) (longB T)).take (k + 1) := by
 have hl := (row_at_ok h hi).1
 have hk' : k < (rowB (T.getD i []) (longB T)).length := by omega
 have hv := valR_bd h hi hk
 rw [List.take_succ_eq_append_getElem hk']
 congr 2
 have e : atB (rowsB T) i k = (rowB (T.getD i []) (longB T))[k] := by
  unfold atB
  rw [rows_at hi, List.getD_eq_getElem?_getD, List.getElem?_eq_getElem hk', Option.getD_some]
 have e2 : (valR T k i + 32).toNat = (atB (rowsB T) i k).toNat := by
  unfold valR valB at hv ⊢
  omega
 rw [e2, e]
 simp

theorem add_fam {T ls : List (List UInt8)} {s : HS} (h : PackOk T) (hi : HI T ls s) (hs : (missB s.rows).length ≤ sumsN s) {k : Nat} (hk : k < longB T + 2) : ∀ n, n ≤ (missB s.rows).length →
  addTo s (foundB s k) (fam T.length fun i => if cardAt T i ∈ ls then rowB (T.getD i []) (longB T) else (rowB (T.getD i []) (longB T)).take k) n =
   fam T.length fun i => if cardAt T i ∈ ls then rowB (T.getD i []) (longB T) else if ∃ j, j < n ∧ lostAt s j = i then (rowB (T.getD i []) (longB T)).take (k + 1) else (rowB (T.getD i []) (longB T)).take k
 | 0, _ => by
  simp only [addTo]
  refine fam_congr fun i _ => ?_
  split
  ·rfl
  ·rw [if_neg (by rintro ⟨j, hj, _⟩; omega)]
 | n + 1, hn => by
  have ih := add_fam h hi hs hk n (by omega)
  have hu : sumsN s ≤ 2 := by unfold sumsN nzN; split <;> split <;> omega
  obtain ⟨l1, l2⟩ := lost_lt (s := s) (k := n) (by omega)
  have hlm : lostAt s n < T.length := by rw [hi.rows, rowsP_len] at l1; exact l1
  have hnc : cardAt T (lostAt s n) ∉ ls := by
   have hm : (lostAt s n : Int) ∈ missB s.rows := by rw [← l2]; exact List.getElem_mem _
   unfold missB missTo at hm
   obtain ⟨z, hz, e⟩ := List.mem_map.1 hm
   have e : z = lostAt s n := Int.ofNat.inj e
   subst e
   have := (List.mem_filter.1 hz).2
   rw [hi.rows] at this
   exact (rowsP_nil h hlm).1 (by simpa using this)
  have hv : (foundB s k).getD n 0 = valR T k (lostAt s n) := by
   rw [found_eq h hi hs hk, List.getD_eq_getElem?_getD, List.getElem?_map, List.getElem?_eq_getElem (by omega), l2]
   simp
  simp only [addTo]
  rw [ih]
  unfold setB
  rw [hv, fam_at hlm, fam_set]
  refine fam_congr fun i hil => ?_
  by_cases e : i = lostAt s n
  ·subst e
   have hno : ¬ ∃ j, j < n ∧ lostAt s j = lostAt s n := by
    rintro ⟨j, hj, he⟩
    have h2 : (missB s.rows).length = 2 := by omega
    have := lost_asc h2
    obtain rfl : j = 0 := by omega
    obtain rfl : n = 1 := by omega
    omega
   rw [if_pos rfl, if_neg hnc, if_neg hno, if_neg hnc, if_pos ⟨n, by omega, rfl⟩]
   exact val_byte h hlm hk
  ·rw [if_neg e]
   have : (∃ j, j < n + 1 ∧ lostAt s j = i) ↔ ∃ j, j < n ∧ lostAt s j = i := by
    constructor
    ·rintro ⟨j, hj, he⟩
     by_cases hjn : j = n
     ·subst hjn; exact absurd he.symm e
     ·exact ⟨j, by omega, he⟩
    ·rintro ⟨j, hj, he⟩; exact ⟨j, by omega, he⟩
   simp only [this]

theorem fill_fam {T ls : List (List UInt8)} {s : HS} (h : PackOk T) (hi : HI T ls s) (hs : (missB s.rows).length ≤ sumsN s) : ∀ k, k ≤ longB T + 2 →
  fillTo s k = fam T.length fun i => if cardAt T i ∈ ls then rowB (T.getD i []) (longB T) else (rowB (T.getD i []) (longB T)).take k
 | 0, _ => by
  simp only [fillTo, hi.rows, rowsP_fam, List.take_zero]
 | k + 1, hk => by
  simp only [fillTo]
  rw [fill_fam h hi hs k (by omega), found_len hs, add_fam h hi hs (by omega) _ (Nat.le_refl _)]
  refine fam_congr fun i hil => ?_
  by_cases hc : cardAt T i ∈ ls
  ·rw [if_pos hc, if_pos hc]
  ·rw [if_neg hc, if_neg hc, if_pos]
   exact miss_has (by rw [hi.rows, rowsP_len]; exact hil) (by rw [hi.rows]; exact (rowsP_nil h hil).2 hc)

theorem fill_all {T ls : List (List UInt8)} {s : HS} (h : PackOk T) (hi : HI T ls s) : fillB s = if sumsN s < (missB s.rows).length then none else some (rowsB T) := by
 unfold fillB
 by_cases hs : sumsN s < (missB s.rows).length
 ·rw [if_pos hs, if_pos hs]
 ·rw [if_neg hs, if_neg hs, hi.long]
  have hs' : (missB s.rows).length ≤ sumsN s := by omega
  rw [if_pos]
  ·rw [Int.toNat_natCast, fill_fam h hi hs' _ (Nat.le_refl _), rowsB_fam]
   refine congrArg some (fam_congr fun i hil => ?_)
   split
   ·rfl
   ·exact List.take_of_length_le (by rw [(row_at_ok h hil).1]; omega)
  ·rw [List.all_eq_true]
   intro k hk
   have hk := List.mem_range.1 hk
   rw [Int.toNat_natCast] at hk
   unfold okF
   rw [found_eq h hi hs' hk, List.all_eq_true]
   intro v hv
   obtain ⟨z, hz, rfl⟩ := List.mem_map.1 hv
   obtain ⟨j, hj, rfl⟩ := List.getElem_of_mem hz
   obtain ⟨l1, l2⟩ := lost_lt hj
   rw [hi.rows, rowsP_len] at l1
   rw [l2]
   exact decide_eq_true (valR_bd h l1 hk).2

theorem textOf_row {T : List (List UInt8)} (h : PackOk T) {t : List UInt8} (ht : t ∈ T) : textOfB (rowB t (longB T)) = some t ∧ textB t = true := by
 obtain ⟨h1, h2, _⟩ := h.rows
 have htl := h2 t ht
 have hx := h.text t ht
 refine ⟨?_, hx⟩
 have hr : rowB t (longB T) = twoB t.length ++ (t ++ List.replicate (longB T - t.length) 32) := by simp [rowB]
 have hd := (dig_plain (twoB_pl (by omega : t.length < 100))).2
 have htk : (rowB t (longB T)).take 2 = twoB t.length := by rw [hr]; exact List.take_left' rfl
 have hn : numAt (rowB t (longB T)) = t.length := by
  rw [hr]
  unfold numAt twoB
  simp only [List.cons_append, List.getD_cons_zero, List.getD_cons_succ, UInt8.toNat_ofNat']
  omega
 have hlen : (rowB t (longB T)).length = longB T + 2 := by
  rw [hr]; simp [twoB]; omega
 unfold textOfB
 rw [htk, hd, if_pos rfl, hn, hlen, if_pos (by omega)]
 congr 1
 rw [hr, show 2 + t.length = (twoB t.length).length + t.length by rfl, List.take_length_add_append, List.take_left' rfl]
 exact List.drop_left' rfl

theorem texts_rows {T : List (List UInt8)} (h : PackOk T) : textsOf (rowsB T) = some T := by
 rw [textsOf_ok]
 ·congr 1
  unfold rowsB
  rw [List.map_map]
  conv => rhs; rw [← List.map_id T]
  refine List.map_congr_left fun t ht => ?_
  simp only [Function.comp, (textOf_row h ht).1, Option.getD_some, id]
 ·intro r hr
  unfold rowsB at hr
  obtain ⟨t, ht, rfl⟩ := List.mem_map.1 hr
  exact ⟨t, (textOf_row h ht).1, (textOf_row h ht).2⟩

/-- The numbers of the texts whose cards are not there; how many of the cards with sums are. -/
def missL (T ls : List (List UInt8)) : List Int := ((List.range T.length).filter fun i => decide (cardAt T i ∉ ls)).map Int.ofNat
def knowN (T ls : List (List UInt8)) : Nat := (if sumL T false ∈ ls then 1 else 0) + if sumL T true ∈ ls then 1 else 0

theorem miss_HI {T ls : List (List UInt8)} {s : HS} (h : PackOk T) (hi : HI T ls s) : missB s.rows = missL T ls ∧ sumsN s = knowN T ls := by
 have hA : ∀ wt, sumR T wt ≠ [] := fun wt e => by have := (sumR_ok h wt).1; rw [e] at this; simp at this
 constructor
 ·unfold missB missTo missL
  rw [hi.rows, rowsP_len]
  congr 1
  refine List.filter_congr fun i hil => ?_
  have hil := List.mem_range.1 hil
  rw [Bool.eq_iff_iff, beq_iff_eq, decide_eq_true_eq]
  exact rowsP_nil h hil
 ·unfold sumsN knowN nzN
  rw [hi.a, hi.b]
  unfold sumP
  have e : ∀ wt, (if (if sumL T wt ∈ ls then sumR T wt else []) = [] then 0 else 1) = if sumL T wt ∈ ls then 1 else 0 := by
   intro wt
   by_cases hc : sumL T wt ∈ ls
   ·rw [if_pos hc, if_pos hc, if_neg (hA wt)]
   ·rw [if_neg hc, if_neg hc, if_pos rfl]
  rw [e, e]

theorem strange_Sub {T ls : List (List UInt8)} : strange T ls = false ↔ Sub ls T := by
 unfold strange Sub
 rw [List.any_eq_false]
 constructor
 ·intro h l hl hp
  have := h l hl
  rw [hp] at this
  simp only [Bool.true_and, Bool.not_eq_true, Bool.not_eq_false', List.any_eq_true, beq_iff_eq] at this
  obtain ⟨c, hc, rfl⟩ := this
  exact hc
 ·intro h l hl
  cases hp : parseOk l
  ·simp
  ·have := h l hl hp
   simp only [Bool.true_and, Bool.not_eq_true, Bool.not_eq_false', List.any_eq_true, beq_iff_eq]
   exact ⟨l, this, rfl⟩

/-- What unpack says where each good line is a card of one pack. -/
theorem unpack_sub {T ls : List (List UInt8)} (h : PackOk T) (hs : Sub ls T) (hg : ∃ l ∈ ls, parseOk l = true) : unpackB ls = if knowN T ls < (missL T ls).length then none else some (T, missL T ls) := by
  obtain ⟨h1, hi⟩ := srt_all h hs hg
  obtain ⟨m1, m2⟩ := miss_HI h hi
  unfold unpackB
  rw [if_pos h1, fill_all h hi, m1, m2]
  split
  · rename_i R hq
    split at hq
    · cases hq
    · rename_i hk
      cases hq
      rw [if_neg hk, texts_rows h]
      simp only
      rw [strange_Sub.2 hs, if_neg (by simp)]
  · rename_i hq
    split at hq
    · rename_i hk; rw [if_pos hk]
    · cases hq

set_option maxHeartbeats 4000000
set_option maxRecDepth 20000

-- cards, in plain words: how a file is cut

abbrev Ls := List (List UInt8)
/-- The packs of a file, and whether it is one. -/
def cutS : List UInt8 → List Ls → Ls → List UInt8 → List Ls × Bool
  | [], out, pack, line => (out, decide (pack = [] ∧ line = []))
  | c :: r, out, pack, line =>
    if c = 10 then (if line ≠ [] then cutS r out (pack ++ [line]) [] else if pack = [] then ([], false) else cutS r (out ++ [pack]) [] []) else cutS r out pack (line ++ [c])
def cutV (l : List UInt8) : List Ls × Bool := cutS l [] [] []
def packL (p : Ls) : List UInt8 := p.flatMap lineB ++ [10]
def wrL (P : List Ls) : List UInt8 := P.flatMap packL
def LineOk (l : List UInt8) : Prop := l ≠ [] ∧ (10 : UInt8) ∉ l
def PkOk (p : Ls) : Prop := p ≠ [] ∧ ∀ l ∈ p, LineOk l
def PsOk (P : List Ls) : Prop := ∀ p ∈ P, PkOk p

theorem cutS_line : ∀ (l : List UInt8) (r : List UInt8) (out : List Ls) (pack : Ls) (line : List UInt8), (10 : UInt8) ∉ l → cutS (l ++ r) out pack line = cutS r out pack (line ++ l)
 | [], r, out, pack, line, _ => by simp
 | c :: l, r, out, pack, line, h => by
  simp only [List.mem_cons, not_or] at h
  rw [List.cons_append]
  simp only [cutS]
  rw [if_neg (Ne.symm h.1), cutS_line l r out pack (line ++ [c]) h.2]
  simp

theorem cutS_lines : ∀ (p : Ls) (r : List UInt8) (out : List Ls) (pack : Ls), (∀ l ∈ p, LineOk l) → cutS (p.flatMap lineB ++ r) out pack [] = cutS r out (pack ++ p) []
 | [], r, out, pack, _ => by simp
 | l :: p, r, out, pack, h => by
  obtain ⟨h1, h2⟩ := h l (by simp)
  have e : (l :: p).flatMap lineB ++ r = l ++ (10 :: (p.flatMap lineB ++ r)) := by simp [lineB]
  rw [e, cutS_line l _ _ _ _ h2]
  simp only [cutS, if_true]
  rw [List.nil_append, if_pos h1, cutS_lines p r out _ (fun x hx => h x (by simp [hx]))]
  simp

theorem cutS_packs : ∀ (P : List Ls) (r : List UInt8) (out : List Ls), PsOk P → cutS (wrL P ++ r) out [] [] = cutS r (out ++ P) [] []
 | [], r, out, _ => by simp [wrL]
 | p :: P, r, out, h => by
  obtain ⟨h1, h2⟩ := h p (by simp)
  have e : wrL (p :: P) ++ r = p.flatMap lineB ++ (10 :: (wrL P ++ r)) := by simp [wrL, packL]
  rw [e, cutS_lines p _ _ _ h2]
  simp only [cutS, if_true]
  rw [if_neg (by simp), List.nil_append, if_neg h1, cutS_packs P r _ (fun x hx => h x (by simp [hx]))]
  simp

/-- What is written is cut as it was. -/
theorem cutV_wr {P : List Ls} (h : PsOk P) : cutV (wrL P) = (P, true) := by
  have := cutS_packs P [] [] h
  simp only [List.append_nil, List.nil_append] at this
  unfold cutV
  rw [this]
  simp [cutS]
set_option maxHeartbeats 4000000
set_option maxRecDepth 20000

-- cards, in plain words: the program's way to cut a file is the same

theorem split_miss {s p : List UInt8} (h : Lib.index s p = -1) : Lib.split s p = [s] := by
 unfold Lib.split
 rw [Lib.count_miss h]; rfl
theorem split_hit {s p : List UInt8} {i : Nat} (hp : p ≠ []) (h : Lib.index s p = i) : Lib.split s p = s.take i :: Lib.split (s.drop (i + p.length)) p := by
 unfold Lib.split
 rw [Lib.count_hit hp h, Nat.add_comm 1]
 have hm : ¬ (Lib.index s p == -1) = true := fun e => by have := beq_iff_eq.1 e; omega
 have e : (Lib.index s p).toNat = i := by omega
 rw [Lib.splitK, if_neg hm, e]
 rfl
theorem splitL_eq (p l : List UInt8) : splitL p l = Lib.split l p := by
 unfold splitL
 rw [Lib.splitB_data]
 rw [S_list, S_list]
 rfl

def shI (n : Nat) (z : Int) : Int := if z = -1 then -1 else z + n
theorem shI_shI (m n : Nat) (z : Int) (hz : -1 ≤ z) : shI m (shI n z) = shI (m + n) z := by
 unfold shI
 by_cases h : z = -1
 ·rw [if_pos h, if_pos rfl, if_pos h]
 ·rw [if_neg h, if_neg (by omega), if_neg h]; omega

theorem ix_cons {c : UInt8} {X w : List UInt8} (h : w.isPrefixOf (c :: X) = false) : Lib.index (c :: X) w = shI 1 (Lib.index X w) := by
 rw [Lib.index, h]
 unfold shI
 by_cases e : Lib.index X w = -1
 ·rw [e]; rfl
 ·rw [if_neg e]
  have : (Lib.index X w == -1) = false := by simpa using e
  rw [this]; simp
theorem ix_line {w : List UInt8} : ∀ (l X : List UInt8), (10 : UInt8) ∉ l → Lib.index (l ++ X) (10 :: w) = shI l.length (Lib.index X (10 :: w))
 | [], X, _ => by
  have := Lib.index_ge X (10 :: w)
  unfold shI; simp only [List.nil_append, List.length_nil]
  split
  ·assumption
  ·omega
 | c :: l, X, h => by
  simp only [List.mem_cons, not_or] at h
  have hp : (10 :: w).isPrefixOf (c :: (l ++ X)) = false := by simp [List.isPrefixOf, h.1]
  rw [List.cons_append, ix_cons hp, ix_line l X h.2, shI_shI _ _ _ (Lib.index_ge _ _), List.length_cons, Nat.add_comm]

/-- The lines of a pack with line feeds between. -/
def joinN : Ls → List UInt8
  | [] => []
  | [l] => l
  | l :: m :: p => l ++ 10 :: joinN (m :: p)

theorem joinN_head : ∀ {p : Ls}, PkOk p → ∃ c r, joinN p = c :: r ∧ c ≠ 10
 | [], h => absurd rfl h.1
 | l :: p, h => by
  obtain ⟨h1, h2⟩ := h.2 l (by simp)
  obtain ⟨c, r, rfl⟩ : ∃ c r, l = c :: r := by cases l with | nil => exact absurd rfl h1 | cons c r => exact ⟨c, r, rfl⟩
  have hc : c ≠ 10 := fun e => h2 (by simp [e])
  cases p with
  | nil => exact ⟨c, r, rfl, hc⟩
  | cons m p => exact ⟨c, r ++ 10 :: joinN (m :: p), rfl, hc⟩

theorem joinN_flat : ∀ {p : Ls}, p ≠ [] → p.flatMap lineB = joinN p ++ [10]
 | [], h => absurd rfl h
 | [l], _ => by simp [joinN, lineB]
 | l :: m :: p, _ => by
  have ih := joinN_flat (p := m :: p) (by simp)
  rw [List.flatMap_cons, ih]
  simp [joinN, lineB]

theorem PkOk.tail {l m : List UInt8} {p : Ls} (h : PkOk (l :: m :: p)) : PkOk (m :: p) := ⟨by simp, fun x hx => h.2 x (by simp [List.mem_cons.1 hx])⟩

theorem split_lines : ∀ {p : Ls}, PkOk p → Lib.split (joinN p) [10] = p
 | [], h => absurd rfl h.1
 | [l], h => by
  have hl := (h.2 l (by simp)).2
  have := ix_line (w := []) l [] hl
  rw [List.append_nil] at this
  exact split_miss this
 | l :: m :: p, h => by
  have hl := (h.2 l (by simp)).2
  have hx : Lib.index (l ++ 10 :: joinN (m :: p)) [10] = (l.length : Nat) := by
   rw [ix_line l _ hl]
   have : Lib.index (10 :: joinN (m :: p)) [10] = 0 := by rw [Lib.index]; simp [List.isPrefixOf]
   rw [this]; simp [shI]
  rw [joinN, split_hit (by simp) hx, List.take_left' rfl]
  have hd : (l ++ 10 :: joinN (m :: p)).drop (l.length + [(10 : UInt8)].length) = joinN (m :: p) := by
   rw [← List.drop_drop, List.drop_left' rfl]; rfl
  rw [hd, split_lines h.tail]

theorem ix_join {w : List UInt8} : ∀ {p : Ls}, PkOk p → ∀ X, Lib.index (joinN p ++ X) (10 :: 10 :: w) = shI (joinN p).length (Lib.index X (10 :: 10 :: w))
 | [], h, _ => absurd rfl h.1
 | [l], h, X => ix_line l X (h.2 l (by simp)).2
 | l :: m :: p, h, X => by
  have hl := (h.2 l (by simp)).2
  have hge := Lib.index_ge X (10 :: 10 :: w)
  obtain ⟨c, r, e, hc⟩ := joinN_head h.tail
  have hp : (10 :: 10 :: w).isPrefixOf (10 :: (joinN (m :: p) ++ X)) = false := by
   rw [e]; simp [List.isPrefixOf, Ne.symm hc]
  have e2 : joinN (l :: m :: p) ++ X = l ++ (10 :: (joinN (m :: p) ++ X)) := by simp [joinN]
  rw [e2, ix_line l _ hl, ix_cons hp, ix_join h.tail X]
  have h1 : -1 ≤ shI (joinN (m :: p)).length (Lib.index X (10 :: 10 :: w)) := by unfold shI; split <;> omega
  rw [shI_shI _ _ _ h1, shI_shI _ _ _ hge]
  congr 1
  simp [joinN]; omega

/-- All but the last two line feeds. -/
def trimN : List Ls → List UInt8
  | [] => []
  | [p] => joinN p
  | p :: q :: P => joinN p ++ 10 :: 10 :: trimN (q :: P)

theorem PsOk.tail {p : Ls} {P : List Ls} (h : PsOk (p :: P)) : PsOk P := fun x hx => h x (by simp [hx])

theorem trimN_wr : ∀ {P : List Ls}, PsOk P → P ≠ [] → wrL P = trimN P ++ [10, 10]
 | [], _, h => absurd rfl h
 | [p], h, _ => by
  have := joinN_flat (h p (by simp)).1
  simp [wrL, packL, trimN, this]
 | p :: q :: P, h, _ => by
  have := joinN_flat (h p (by simp)).1
  have ih := trimN_wr h.tail (by simp)
  have e : wrL (p :: q :: P) = packL p ++ wrL (q :: P) := by simp [wrL]
  rw [e, ih]
  simp [packL, this, trimN]

theorem trimN_head {p : Ls} {P : List Ls} (h : PsOk (p :: P)) : ∃ c r, trimN (p :: P) = c :: r ∧ c ≠ 10 := by
 obtain ⟨c, r, e, hc⟩ := joinN_head (h p (by simp))
 cases P with
 | nil => exact ⟨c, r, e, hc⟩
 | cons q P => exact ⟨c, r ++ 10 :: 10 :: trimN (q :: P), by simp [trimN, e], hc⟩

theorem split_packs : ∀ {P : List Ls}, PsOk P → P ≠ [] → Lib.split (trimN P) [10, 10] = P.map joinN
 | [], _, h => absurd rfl h
 | [p], h, _ => by
  have := ix_join (w := []) (h p (by simp)) []
  rw [List.append_nil] at this
  exact split_miss this
 | p :: q :: P, h, _ => by
  have hx : Lib.index (joinN p ++ 10 :: 10 :: trimN (q :: P)) [10, 10] = ((joinN p).length : Nat) := by
   rw [ix_join (h p (by simp))]
   have : Lib.index (10 :: 10 :: trimN (q :: P)) [10, 10] = 0 := by rw [Lib.index]; simp [List.isPrefixOf]
   rw [this]; simp [shI]
  rw [trimN, split_hit (by simp) hx, List.take_left' rfl]
  have hd : (joinN p ++ 10 :: 10 :: trimN (q :: P)).drop ((joinN p).length + [(10 : UInt8), 10].length) = trimN (q :: P) := by
   rw [← List.drop_drop, List.drop_left' rfl]; rfl
  rw [hd, split_packs h.tail (by simp)]
  rfl

theorem no_three : ∀ {P : List Ls}, PsOk P → P ≠ [] → Lib.index (trimN P ++ [10, 10]) [10, 10, 10] = -1
 | [], _, h => absurd rfl h
 | [p], h, _ => by
  rw [trimN, ix_join (h p (by simp))]
  have : Lib.index [10, 10] [10, 10, 10] = -1 := by decide
  rw [this]; rfl
 | p :: q :: P, h, _ => by
  obtain ⟨c, r, e, hc⟩ := trimN_head h.tail
  have ih := no_three h.tail (by simp)
  have e2 : trimN (p :: q :: P) ++ [10, 10] = joinN p ++ 10 :: 10 :: (trimN (q :: P) ++ [10, 10]) := by simp [trimN]
  rw [e2, ix_join (h p (by simp)), ix_cons (by rw [e]; simp [List.isPrefixOf, Ne.symm hc]), ix_cons (by rw [e]; simp [List.isPrefixOf, Ne.symm hc]), ih]
  rfl

theorem cutB_wr {P : List Ls} (h : PsOk P) : cutB (wrL P) = some (P.map fun p => ⟨false, true, p⟩) := by
 by_cases h0 : P = []
 ·subst h0; rfl
 ·have hw := trimN_wr h h0
  obtain ⟨p, Q, rfl⟩ : ∃ p Q, P = p :: Q := by cases P with | nil => exact absurd rfl h0 | cons p Q => exact ⟨p, Q, rfl⟩
  obtain ⟨c, r, e, hc⟩ := trimN_head h
  have hne : wrL (p :: Q) ≠ [] := by rw [hw, e]; simp
  have hsf : Lib.hasSuffix (wrL (p :: Q)) [10, 10] = true := by
   unfold Lib.hasSuffix
   exact List.isSuffixOf_iff_suffix.2 ⟨_, hw.symm⟩
  have hb : badF (wrL (p :: Q)) = false := by
   unfold badF
   rw [hsf]
   have h3 : Lib.contains (wrL (p :: Q)) [10, 10, 10] = false := by
    unfold Lib.contains
    rw [hw, no_three h h0]; rfl
   rw [h3, hw, e]
   simp [hc]
  have ht : Lib.trimSuffix (wrL (p :: Q)) [10, 10] = trimN (p :: Q) := by
   unfold Lib.trimSuffix
   rw [if_pos hsf, hw]
   simp
  unfold cutB
  rw [if_neg hne, hb, if_neg (by simp)]
  unfold cutP
  rw [ht, splitL_eq, split_packs h h0, List.map_map]
  refine congrArg some (List.map_congr_left fun x hx => ?_)
  simp only [Function.comp, splitL_eq, split_lines (h x hx)]

set_option maxHeartbeats 4000000
set_option maxRecDepth 20000

-- cards, in plain words: what is read of packs whose texts are known

theorem byte_nl {x : UInt8} (h : 32 ≤ x.toNat) : x ≠ 10 := fun e => by
 rw [e] at h; simp at h

theorem parse_line {l : List UInt8} (h : parseOk l = true) : LineOk l := by
 obtain ⟨_, h1, _⟩ := parse_ok h
 unfold bad1 at h1
 simp only [Bool.or_eq_false_iff, decide_eq_false_iff_not, Bool.not_eq_false'] at h1
 exact ⟨fun e => by rw [e] at h1; simp at h1, fun hm => byte_nl (plain_ge h1.2 10 hm) rfl⟩

theorem cards_line {T : List (List UInt8)} (h : PackOk T) {c : List UInt8} (hc : c ∈ cardsB T) : LineOk c := parse_line (cards_parse h hc).1

theorem cards_pack {T : List (List UInt8)} (h : PackOk T) : PkOk (cardsB T) := ⟨fun e => by have := (cards_len h).1; rw [e] at this; simp at this, fun _ hc => cards_line h hc⟩

/-- All cards are there. -/
theorem unpack_full {T ls : List (List UInt8)} (h : PackOk T) (hs : Sub ls T) (ha : ∀ c ∈ cardsB T, c ∈ ls) : unpackB ls = some (T, []) := by
  have hm : missL T ls = [] := by
    unfold missL
    rw [List.map_eq_nil_iff, List.filter_eq_nil_iff]
    intro i hi
    have := ha _ (card_i (List.mem_range.1 hi))
    simpa using this
  rw [unpack_sub h hs ⟨sumL T false, ha _ (card_s false), (cards_parse h (card_s false)).1⟩, hm]
  simp

theorem wrL_file (L : List (List UInt8)) : fileB L = wrL ((chunksB L).map cardsB) := by
 unfold fileB wrL
 rw [List.flatMap_map]
 rfl

theorem take_8 (L : List (List UInt8)) (i : Nat) : L.take (8 * i) ++ chunkAt L i = L.take (8 * (i + 1)) := by
 unfold chunkAt
 rw [show 8 * (i + 1) = 8 * i + 8 by omega, List.take_add]

structure Rd (L : List (List UInt8)) (P : List Pk) (M : Nat → List Int) : Prop where
 len : P.length = (L.length + 7) / 8
 n : L.length ≤ 40
 un : ∀ i (hi : i < P.length), unpackB P[i].l = some (chunkAt L i, M i)

def lostTo (M : Nat → List Int) : Nat → List Int
 | 0 => []
 | i + 1 => lostTo M i ++ (M i).map fun n => ((8 * i : Nat) : Int) + n

theorem rd_at {P : List Pk} {i : Nat} (hi : i < P.length) : P.getD i ⟨false, false, []⟩ = P[i] := by simp [List.getD_eq_getElem?_getD, List.getElem?_eq_getElem hi]

theorem rd_T {L : List (List UInt8)} {P : List Pk} {M : Nat → List Int} (h : Rd L P M) : ∀ i, i ≤ P.length → rdT P i = L.take (8 * i)
 | 0, _ => by simp [rdT]
 | i + 1, hi => by
  have ih := rd_T h i (by omega)
  unfold rdT at ih ⊢
  rw [List.take_succ_eq_append_getElem (by omega), List.flatMap_append, ih, ← take_8]
  congr 1
  simp only [List.flatMap_cons, List.flatMap_nil, List.append_nil]
  unfold uT
  rw [h.un i (by omega)]; rfl

theorem rd_L {L : List (List UInt8)} {P : List Pk} {M : Nat → List Int} (h : Rd L P M) : ∀ i, i ≤ P.length → rdL P i = lostTo M i
 | 0, _ => rfl
 | i + 1, hi => by
  have hlen := h.len
  rw [rdL, lostTo, rd_L h i (by omega), rd_T h i (by omega), rd_at (by omega)]
  unfold uM
  rw [h.un i (by omega)]
  have : (L.take (8 * i)).length = 8 * i := by rw [List.length_take]; omega
  rw [this]; rfl

theorem rd_S {L : List (List UInt8)} {P : List Pk} {M : Nat → List Int} (h : Rd L P M) : ∀ i, i ≤ P.length → rdS P i = false
 | 0, _ => rfl
 | i + 1, hi => by
  have hlen := h.len
  rw [rdS, rd_S h i (by omega), rd_at (by omega)]
  have hu : uT P[i] = chunkAt L i := by unfold uT; rw [h.un i (by omega)]; rfl
  rw [hu]
  simp only [Bool.false_or, Bool.and_eq_false_iff, decide_eq_false_iff_not]
  by_cases hl : i + 1 < P.length
  ·right
   unfold chunkAt
   rw [List.length_take, List.length_drop]; omega
  ·exact .inl hl

theorem rd_E {L : List (List UInt8)} {P : List Pk} {M : Nat → List Int} (h : Rd L P M) : readE P = 0 ∧ rdT P P.length = L ∧ rdL P P.length = lostTo M P.length := by
 have h1 := rd_T h P.length (Nat.le_refl _)
 have hlen := h.len
 rw [List.take_of_length_le (by omega)] at h1
 refine ⟨?_, h1, rd_L h _ (Nat.le_refl _)⟩
 unfold readE
 rw [rd_S h _ (Nat.le_refl _), h1, if_pos]
 ·have := h.n
  simp; omega
 ·rw [List.all_eq_true]
  intro p hp
  obtain ⟨i, hi, rfl⟩ := List.getElem_of_mem hp
  rw [h.un i hi]; rfl

/-- What is read of a file of packs. -/
theorem read_wr {L : List (List UInt8)} {P : List Ls} {M : Nat → List Int} (hP : PsOk P) (hl : P.length = (L.length + 7) / 8) (hn : L.length ≤ 40) (hu : ∀ i (hi : i < P.length), unpackB P[i] = some (chunkAt L i, M i)) :
    rE (wrL P) = 0 ∧ rTx (wrL P) = L ∧ rLo (wrL P) = lostTo M P.length ∧ (cutB (wrL P)).isSome = true ∧ bdL (wrL P) = [] := by
  have hc := cutB_wr hP
  have hr : rP (wrL P) = P.map fun p => ⟨false, true, p⟩ := by unfold rP; rw [hc]; rfl
  have hrd : Rd L (rP (wrL P)) M := by
    rw [hr]
    refine ⟨by simpa using hl, hn, fun i hi => ?_⟩
    simp only [List.getElem_map]
    exact hu i (by simpa using hi)
  obtain ⟨g1, g2, g3⟩ := rd_E hrd
  refine ⟨?_, g2, ?_, by rw [hc]; rfl, ?_⟩
  · unfold rE; rw [hc, if_pos (by simp)]; exact g1
  · unfold rLo; rw [g3, hr]; simp
  · unfold bdL badTo
    rw [List.map_eq_nil_iff, List.filter_eq_nil_iff]
    intro i hi
    have hi := List.mem_range.1 hi
    rw [rd_at hi, hrd.un i hi]; simp

theorem lost_nil : ∀ i, lostTo (fun _ => []) i = []
 | 0 => rfl
 | i + 1 => by rw [lostTo, lost_nil i]; rfl

theorem chunks_at {L : List (List UInt8)} {i : Nat} (hi : i < (chunksB L).length) : (chunksB L)[i] = chunkAt L i := by simp [chunksB]

set_option maxHeartbeats 4000000
set_option maxRecDepth 20000

-- cards, in plain words: packs whose lines are mixed (law CardsOrder)

def turnTo (c : Ls) (b i : Nat) : Ls := (List.range i).map fun k => c.getD ((k + b) % c.length) []
def okT (c : Ls) (t : Int) : Bool := decide (0 ≤ t) && decide (t < (c.length : Int))
def twTo (c : Ls) (tw : List Int) (i : Nat) : Ls := ((tw.take i).filter (okT c)).map fun t => c.getD t.toNat []
def strL (st : List UInt8) : Ls := if st = [] then [] else [st]
def mixB (b : Nat) (tw : List Int) (st : List UInt8) (c : Ls) : Ls := turnTo c b c.length ++ twTo c tw tw.length ++ strL st

theorem turn_succ (c : Ls) (b i : Nat) : turnTo c b (i + 1) = turnTo c b i ++ [c.getD ((i + b) % c.length) []] := by
 unfold turnTo
 rw [List.range_succ, List.map_append]; rfl
theorem tw_succ (c : Ls) (tw : List Int) {i : Nat} (hi : i < tw.length) : twTo c tw (i + 1) = if okT c tw[i] = true then twTo c tw i ++ [c.getD tw[i].toNat []] else twTo c tw i := by
 unfold twTo
 rw [List.take_succ_eq_append_getElem hi, List.filter_append, List.map_append]
 by_cases h : okT c tw[i] = true
 ·rw [if_pos h]
  simp [List.filter_cons, h]
 ·rw [if_neg h]
  simp [List.filter_cons, h]

theorem getD_in {c : Ls} {i : Nat} (h : i < c.length) : c.getD i [] ∈ c := by
 rw [List.getD_eq_getElem?_getD, List.getElem?_eq_getElem h, Option.getD_some]
 exact List.getElem_mem h

theorem turn_mem {c : Ls} {b i : Nat} {x : List UInt8} (h0 : 0 < c.length) (hx : x ∈ turnTo c b i) : x ∈ c := by
 obtain ⟨k, _, rfl⟩ := List.mem_map.1 hx
 exact getD_in (Nat.mod_lt _ h0)
theorem tw_mem {c : Ls} {tw : List Int} {i : Nat} {x : List UInt8} (hx : x ∈ twTo c tw i) : x ∈ c := by
 obtain ⟨t, ht, rfl⟩ := List.mem_map.1 hx
 have := (List.mem_filter.1 ht).2
 unfold okT at this
 simp only [Bool.and_eq_true, decide_eq_true_eq] at this
 exact getD_in (by omega)
theorem str_mem {st x : List UInt8} (hx : x ∈ strL st) : x = st ∧ st ≠ [] := by
 unfold strL at hx
 split at hx
 ·simp at hx
 ·rename_i h
  exact ⟨by simpa using hx, h⟩
theorem mix_mem {b : Nat} {tw : List Int} {st : List UInt8} {c : Ls} {x : List UInt8} (h0 : 0 < c.length) (hx : x ∈ mixB b tw st c) : x ∈ c ∨ (x = st ∧ st ≠ []) := by
 unfold mixB at hx
 rcases List.mem_append.1 hx with hx | hx
 ·rcases List.mem_append.1 hx with hx | hx
  ·exact .inl (turn_mem h0 hx)
  ·exact .inl (tw_mem hx)
 ·exact .inr (str_mem hx)

theorem turn_all {c : Ls} {b : Nat} {x : List UInt8} (hx : x ∈ c) : x ∈ turnTo c b c.length := by
 obtain ⟨j, hj, rfl⟩ := List.getElem_of_mem hx
 have hn : 0 < c.length := by omega
 have hb := Nat.mod_lt b hn
 refine List.mem_map.2 ⟨(j + (c.length - b % c.length)) % c.length, List.mem_range.2 (Nat.mod_lt _ hn), ?_⟩
 have e : ((j + (c.length - b % c.length)) % c.length + b) % c.length = j := by
  rw [Nat.mod_add_mod, Nat.add_mod, Nat.add_mod j]
  have e2 : b = b % c.length + c.length * (b / c.length) := (Nat.mod_add_div b c.length).symm
  rw [← Nat.add_mod j, ← Nat.add_mod]
  conv => lhs; rw [e2]
  have e3 : j + (c.length - (b % c.length + c.length * (b / c.length)) % c.length) + (b % c.length + c.length * (b / c.length)) = j + c.length * (b / c.length + 1) := by
   rw [Nat.add_mul_mod_self_left, Nat.mod_mod, Nat.mul_add]; omega
  rw [e3, Nat.add_mul_mod_self_left, Nat.mod_eq_of_lt hj]
 rw [e]
 simp [List.getD_eq_getElem?_getD, List.getElem?_eq_getElem hj]

theorem mix_sub {T : Ls} (h : PackOk T) {b : Nat} {tw : List Int} {st : List UInt8} (hs : parseOk st = false) (h10 : (10 : UInt8) ∉ st) : unpackB (mixB b tw st (cardsB T)) = some (T, []) ∧ PkOk (mixB b tw st (cardsB T)) := by
 have hc := cards_len h
 have h0 : 0 < (cardsB T).length := by omega
 have ha : ∀ c ∈ cardsB T, c ∈ mixB b tw st (cardsB T) := fun c hc => by
  unfold mixB
  exact List.mem_append_left _ (List.mem_append_left _ (turn_all hc))
 refine ⟨unpack_full h (fun l hl hp => ?_) ha, fun e => ?_, fun l hl => ?_⟩
 ·rcases mix_mem h0 hl with hl | ⟨rfl, _⟩
  ·exact hl
  ·rw [hs] at hp; cases hp
 ·have := ha _ (getD_in h0)
  rw [e] at this; simp at this
 ·rcases mix_mem h0 hl with hl | ⟨rfl, hl⟩
  ·exact cards_line h hl
  ·exact ⟨hl, h10⟩

theorem mix_len (b : Nat) (tw : List Int) (st : List UInt8) (c : Ls) : (mixB b tw st c).length ≤ c.length + tw.length + 1 := by
 have h1 : (turnTo c b c.length).length = c.length := by simp [turnTo]
 have h2 : (twTo c tw tw.length).length ≤ tw.length := by
  unfold twTo
  rw [List.length_map]
  exact Nat.le_trans (List.length_filter_le _ _) (by simp)
 have h3 : (strL st).length ≤ 1 := by unfold strL; split <;> simp
 unfold mixB
 simp only [List.length_append]; omega

theorem lines_len {p : Ls} {n : Nat} (h : ∀ l ∈ p, l.length ≤ n) : (p.flatMap lineB).length ≤ p.length * (n + 1) := by
 induction p with
 | nil => simp
 | cons l p ih =>
  have h1 := h l (by simp)
  have h2 := ih fun x hx => h x (by simp [hx])
  simp only [List.flatMap_cons, List.length_append, List.length_cons, Nat.add_mul, lineB]
  simp only [List.length_nil]
  omega
theorem wr_len {P : List Ls} {n : Nat} (h : ∀ p ∈ P, (packL p).length ≤ n) : (wrL P).length ≤ P.length * n := by
 induction P with
 | nil => simp [wrL]
 | cons l p ih =>
  have h1 := h l (by simp)
  have h2 := ih fun x hx => h x (by simp [hx])
  unfold wrL at h2 ⊢
  simp only [List.flatMap_cons, List.length_append, List.length_cons, Nat.add_mul]
  omega

def mixF (b : Nat) (tw : List Int) (st : List UInt8) (L : Ls) : List Ls := (chunksB L).map fun T => mixB b tw st (cardsB T)

theorem mix_bd {T : Ls} (h : PackOk T) {b : Nat} {tw : List Int} {st : List UInt8} (h1 : tw.length ≤ 10) (h2 : st.length ≤ 200) : (packL (mixB b tw st (cardsB T))).length ≤ 5000 := by
 have hc := cards_len h
 have h8 := h.many
 have hm := mix_len b tw st (cardsB T)
 have := lines_len (p := mixB b tw st (cardsB T)) (n := 200) fun l hl => by
  rcases mix_mem (by omega) hl with hl | ⟨rfl, hl⟩
  ·have := hc.2 l hl; omega
  ·exact h2
 have h3 : (mixB b tw st (cardsB T)).length * (200 + 1) ≤ 21 * 201 := Nat.mul_le_mul (by omega) (by omega)
 unfold packL
 simp only [List.length_append, List.length_cons, List.length_nil]
 omega

/-- What is read of mixed lines. -/
theorem read_mix {L : Ls} (hn : L.length ≤ 40) (ha : L.all textB = true) {b : Nat} {tw : List Int} {st : List UInt8} (h1 : tw.length ≤ 10) (h2 : st.length ≤ 200) (hs : parseOk st = false) (h10 : (10 : UInt8) ∉ st) :
    rE (wrL (mixF b tw st L)) = 0 ∧ rTx (wrL (mixF b tw st L)) = L ∧ rLo (wrL (mixF b tw st L)) = [] ∧ (wrL (mixF b tw st L)).length ≤ 50000 := by
  have hok : ∀ p ∈ chunksB L, PackOk p := fun p hp => chunk_ok ha hp
  have hcl := chunks_len L
  obtain ⟨g1, g2, g3, _⟩ := read_wr (L := L) (P := mixF b tw st L) (M := fun _ => []) (fun p hp => by
    obtain ⟨q, hq, rfl⟩ := List.mem_map.1 hp
    exact (mix_sub (hok q hq) hs h10).2) (by unfold mixF; rw [List.length_map, hcl]) hn (fun i hi => by
    have hi' : i < (chunksB L).length := by simpa [mixF] using hi
    have e : (mixF b tw st L)[i] = mixB b tw st (cardsB (chunksB L)[i]) := by simp [mixF]
    rw [e, (mix_sub (hok _ (List.getElem_mem hi')) hs h10).1, chunks_at])
  refine ⟨g1, g2, by rw [g3, lost_nil], ?_⟩
  have := wr_len (P := mixF b tw st L) (n := 5000) fun p hp => by
    obtain ⟨q, hq, rfl⟩ := List.mem_map.1 hp
    exact mix_bd (hok q hq) h1 h2
  have hl : (mixF b tw st L).length = (L.length + 7) / 8 := by unfold mixF; rw [List.length_map, hcl]
  rw [hl] at this
  omega

set_option maxHeartbeats 8000000
set_option maxRecDepth 20000

-- laws of cards: texts that can be written

def areB (L : List (List UInt8)) : Bool := !farB L [] && (textsE L == 0)

theorem l_areTexts10 (nl fu : Bool) (L : List (List UInt8)) : Pure Tryz.prog 10 [sT nl fu L] (.bool (areB L)) := by
 have cF := l_far25 nl fu L [] ⟨#[]⟩ rfl
 unfold areB
 cases hf : farB L [] with
 | true =>
  rw [hf] at cF
  refine ZF (fn := Tryz.f10) [.tmp 2] ⟨Tryz.func10, rfl, by kernel_rfl⟩ fun x hx hσ => ?_
  (repeat refine ZQ ?_); refine ZR fun K hK => ?_; simp (maxSteps := 1000000) [ty4]; refine hK _ ?_; clear hK K
  (repeat refine ZQ ?_); refine ZR fun K hK => ?_; simp (maxSteps := 1000000) [ty22, ty9]
  refine ZP (cF) ?_; simp (maxSteps := 1000000) [ty4]
  refine hK _ ?_; clear hK K
  (repeat refine ZQ ?_); refine awp_ret ?_; refine And.intro (Or.inr rfl) ?_
  simp [retC, resC, viewC, mapO]
 | false =>
  rw [hf] at cF
  obtain ⟨h1, h2, h3⟩ := far_not hf
  have cT := q_areTexts31 nl fu L (fun l hl => by have := h2 l hl; omega)
  refine ZF (fn := Tryz.f10) [.tmp 2] ⟨Tryz.func10, rfl, by kernel_rfl⟩ fun x hx hσ => ?_
  (repeat refine ZQ ?_); refine ZR fun K hK => ?_; simp (maxSteps := 1000000) [ty4]; refine hK _ ?_; clear hK K
  (repeat refine ZQ ?_); refine ZR fun K hK => ?_; simp (maxSteps := 1000000) [ty22, ty9]
  refine ZP (cF) ?_; simp (maxSteps := 1000000) [ty4]
  refine ZP (cT) ?_; simp (maxSteps := 1000000) [ty4, ty26]
  refine hK _ ?_; clear hK K
  (repeat refine ZQ ?_); refine awp_ret ?_; refine And.intro (Or.inr rfl) ?_
  simp [retC, resC, viewC, mapO]

theorem are_ok {L : List (List UInt8)} (h : areB L = true) : L.length ≤ 40 ∧ L.all textB = true ∧ textsE L = 0 := by
 unfold areB at h
 simp only [Bool.and_eq_true, Bool.not_eq_true', beq_iff_eq] at h
 have h2 := h.2
 unfold textsE at h2
 split at h2
 ·simp at h2
 ·split at h2
  ·rename_i g1 g2
   exact ⟨by omega, g2, h.2⟩
  ·simp at h2

set_option maxHeartbeats 8000000
set_option maxRecDepth 20000

-- cards: how the reference cuts a file

/-- It stops early. -/
def cutE : List UInt8 → Ls → List UInt8 → Bool
  | [], _, _ => false
  | c :: r, pack, line => if c = 10 then (if line ≠ [] then cutE r (pack ++ [line]) [] else if pack = [] then true else cutE r [] []) else cutE r pack (line ++ [c])

theorem cutE_true : ∀ (l : List UInt8) (out : List Ls) (pack : Ls) (line : List UInt8), cutE l pack line = true → cutS l out pack line = ([], false)
 | [], _, _, _, h => by simp [cutE] at h
 | c :: r, out, pack, line, h => by
  unfold cutE at h
  unfold cutS
  by_cases hc : c = 10
  ·rw [if_pos hc] at h ⊢
   by_cases hl : line ≠ []
   ·rw [if_pos hl] at h ⊢
    exact cutE_true r _ _ _ h
   ·rw [if_neg hl] at h ⊢
    by_cases hp : pack = []
    ·rw [if_pos hp]
    ·rw [if_neg hp] at h ⊢
     exact cutE_true r _ _ _ h
  ·rw [if_neg hc] at h ⊢
   exact cutE_true r _ _ _ h

@[simp] abbrev cPl (p : Ls) : List C := [sT false false p]
@[simp] abbrev sPl (nl fu : Bool) (P : List Ls) : C := .sl nl fu (P.map cPl)
def encCut (l : List UInt8) : C := if cutE l [] [] = true then .tup [.sl true true [], .bool false] else .tup [sPl (cutV l).1.isEmpty false (cutV l).1, .bool (cutV l).2]

structure CutX where
 i : Nat
 out : List Ls
 pack : Ls
 line : List UInt8

theorem q_cut23 (l : List UInt8) (hn : l.length ≤ 1000000) : Pure Tryz.prog 23 [encS l] (encCut l) := by
 have hsz := S_size l
 have hE : cutE l [] [] = cutE (l.drop 0) [] [] := by rw [List.drop_zero]
 have hV : cutV l = cutS (l.drop 0) [] [] [] := by rw [List.drop_zero]; rfl
 unfold encCut
 generalize cutE l [] [] = E at *
 generalize cutV l = V at *
 refine ZF (fn := Tryz.f23) [.tmp 2, .tmp 3] ⟨Tryz.func23, rfl, by kernel_rfl⟩ fun x hx hσ => ?_
 (repeat refine ZQ ?_); refine ZR fun K hK => ?_; simp (maxSteps := 1000000) [ty42, ty4]; refine hK _ ?_; clear hK K
 (repeat refine ZQ ?_); refine ZR fun K hK => ?_; simp (maxSteps := 1000000) [ty42]; refine hK _ ?_; clear hK K
 (repeat refine ZQ ?_); refine ZR fun K hK => ?_; simp (maxSteps := 1000000) [ty22]; refine hK _ ?_; clear hK K
 (repeat refine ZQ ?_); refine ZR fun K hK => ?_; simp (maxSteps := 1000000) [ty9, ty4]; refine hK _ ?_; clear hK K
 (repeat refine ZQ ?_); refine ZR fun K hK => ?_; simp (maxSteps := 1000000) [ty3]; refine hK _ ?_; clear hK K
 (repeat refine ZQ ?_); refine awp_block ?_
 refine AWP.weak ?_ (wk_nil 4 4 1 (fu := true) (by simp) (by simp))
 refine AWP.weak ?_ (wk_nil 5 5 1 (fu := true) (by simp) (by simp))
 refine awp_loop (fun X : CutX => ⟨ofL [(0, encS l), (4, .own 4 1 0 X.out.length), (5, .own 5 1 0 X.pack.length), (6, encS X.line), (7, .bool (!decide (X.pack = [] ∧ X.line = []))), (8, encI X.i)],
  stoT [(4, 4, .live ⟨X.out.isEmpty, false, 1, X.out.map cPl⟩), (5, 5, .live ⟨X.pack.isEmpty, false, 1, X.pack.map cS⟩)]⟩)
  (fun X => X.i ≤ l.length ∧ X.out.length ≤ X.i ∧ X.pack.length ≤ X.i ∧ X.line.length ≤ X.i ∧ E = cutE (l.drop X.i) X.pack X.line ∧ V = cutS (l.drop X.i) X.out X.pack X.line) (fun X => l.length - X.i) ⟨0, [], [], []⟩ ⟨Nat.zero_le _, Nat.le_refl _, Nat.le_refl _, Nat.le_refl _, hE, hV⟩ ?_ ?_
 ·exact ZW
 ·rintro ⟨i, out, pack, line⟩ ⟨hi, ho, hp, hl, gE, gV⟩
  simp only at hi ho hp hl gE gV ⊢
  obtain ⟨i1, hi1⟩ : ∃ i1, i + 1 = i1 := ⟨_, rfl⟩
  have w1 : IntKind.i64.wrap ((i : Int) + 1) = (i1 : Int) := by rw [wrap_id (by omega) (by omega)]; omega
  (repeat refine ZQ ?_); refine ZR fun K hK => ?_; simp (maxSteps := 1000000) [ty9, ty3, hsz]; refine hK _ ?_; clear hK K; (first | show AWP _ _ _ _ _ | show ∃ _, _ | skip)
  by_cases hlt : i < l.length
  ·have hlt' : (i : Int) < l.length := by omega
   (repeat refine ZQ ?_); refine ZC (hc := by simp [hlt]; rfl) (fun hd => ?_) (fun hd => ?_)
   ·clear hd
    have g := S_at hlt
    have hx1 := S_ext l i i1
    have hle1 : i ≤ i1 := by omega
    have hle2 : i1 ≤ l.length := by omega
    have hx2 : (l.take i1).drop i = [l[i]] := by
     rw [← hi1, List.take_succ_eq_append_getElem hlt, List.drop_left' (by simp; omega)]
    rw [hx2] at hx1
    have hdr : l.drop i = l[i] :: l.drop i1 := hi1 ▸ List.drop_eq_getElem_cons hlt
    rw [hdr] at gE gV
    unfold cutE at gE
    unfold cutS at gV
    have hb := (l[i]).toNat_lt
    have ha := str_add (a := line) (b := [l[i]]) (by simp; omega)
    have hne : (((l[i]).toNat : Int) != 10) = !decide (l[i] = 10) := by
     rw [Bool.eq_iff_iff]
     simp only [bne_iff_ne, Bool.not_eq_true', decide_eq_false_iff_not]
     constructor
     ·rintro h rfl'; rw [rfl'] at h; exact h rfl
     ·intro h h2; exact h (UInt8.toNat_inj.1 (by show (l[i]).toNat = 10; omega))
    generalize l[i] = c at *
    generalize hr : l.drop i1 = r at *
    generalize hlc : [c] = lc at hx1 ha gE gV
    refine awp_skip ?_
    (repeat refine ZQ ?_); refine awp_block ?_
    by_cases hc : c = 10
    ·rw [if_pos hc] at gE gV
     rw [decide_eq_true hc] at hne
     (repeat refine ZQ ?_); refine ZR fun K hK => ?_; simp (maxSteps := 1000000) [ty9, ty3, ty5, hne, g]; refine hK _ ?_; clear hK K
     (repeat refine ZQ ?_); refine ZC (fun hd => ?_) (fun hd => ?_)
     ·simp at hd
     ·clear hd
      refine awp_skip ?_; (first | show AWP _ _ _ _ _ | show ∃ _, _ | skip)
      have hs := str_ne line []
      by_cases hl0 : line = []
      ·have hsn : (!(line == [])) = false := by rw [hl0]; rfl
       rw [hsn] at hs
       rw [if_neg (by simp [hl0])] at gE gV
       (repeat refine ZQ ?_); refine ZR fun K hK => ?_; simp (maxSteps := 1000000) [ty9, hs, -strBin]; refine hK _ ?_; clear hK K
       (repeat refine ZQ ?_); refine ZC (fun hd => ?_) (fun hd => ?_)
       ·simp at hd
       ·clear hd
        refine awp_skip ?_; (first | show AWP _ _ _ _ _ | show ∃ _, _ | skip)
        by_cases hp0 : pack = []
        ·rw [if_pos hp0] at gE gV
         rw [gE, if_pos rfl]
         (repeat refine ZQ ?_); refine ZR fun K hK => ?_; simp (maxSteps := 1000000) [ty22, ty3, hp0]; refine hK _ ?_; clear hK K
         (repeat refine ZQ ?_); refine ZC (fun hd => ?_) (fun hd => ?_)
         ·clear hd
          (repeat refine ZQ ?_); refine ZR fun K hK => ?_; simp (maxSteps := 1000000) [ty42, ty4]; refine hK _ ?_; clear hK K
          (repeat refine ZQ ?_); refine awp_ret ?_; refine And.intro (Or.inr rfl) ?_
          simp [retC, resC, viewC, mapO]
         ·simp at hd
        ·rw [if_neg hp0] at gE gV
         have hpl : 0 < pack.length := List.length_pos_iff.2 hp0
         have hpz : ((pack.length : Int) == 0) = false := by rw [beq_eq_false_iff_ne]; omega
         have hpe : pack.isEmpty = false := by simpa using hp0
         (repeat refine ZQ ?_); refine ZR fun K hK => ?_; simp (maxSteps := 1000000) [ty22, ty3, hpz]; refine hK _ ?_; clear hK K
         (repeat refine ZQ ?_); refine ZC (fun hd => ?_) (fun hd => ?_)
         ·simp at hd
         ·clear hd
          refine awp_skip ?_; (first | show AWP _ _ _ _ _ | show ∃ _, _ | skip)
          refine AWP.weak ?_ (wk_frz 5 5 (c := sT false false pack) (o := ⟨pack.isEmpty, false, 1, pack.map cS⟩) (by simp) (by simp [purel, C.isPure]) (by
           have := fz_own (k := 5) (sz := 1) (n := pack.length) (b := false) (o := ⟨pack.isEmpty, false, 1, pack.map cS⟩) rfl (by simp) (by simp [hp0])
           simpa using this))
          (repeat refine ZQ ?_); refine ZR fun K hK => ?_; simp (maxSteps := 1000000) [ty42, ty22, ty4]
          refine ⟨by omega, ?_⟩
          refine hK _ ?_; clear hK K
          (repeat refine ZQ ?_); refine ZR fun K hK => ?_; simp (maxSteps := 1000000) [ty3, w1]; refine hK _ ?_; clear hK K; (first | show AWP _ _ _ _ _ | show ∃ _, _ | skip)
          refine ⟨⟨i1, out ++ [pack], [], []⟩, ⟨by simp; omega, by simp; omega, by simp, by simp, by simp only [hr]; exact gE, by simp only [hr]; exact gV⟩, by simp; omega, ?_⟩
          refine Wk.trans (t := ⟨ofL [(0, encS l), (4, .own 4 1 0 (out ++ [pack]).length), (5, .sl true true []), (6, encS []), (7, .bool false), (8, encI i1)],
           stoT [(4, 4, .live ⟨(out ++ [pack]).isEmpty, false, 1, (out ++ [pack]).map cPl⟩)]⟩) ?_ (Wk.trans (wk_nil 5 5 1 (fu := true) (by simp) (by simp)) ?_)
          ·refine wk_shape2 [(4, 38, .live ⟨(out ++ [pack]).isEmpty, false, 1, (out ++ [pack]).map cPl⟩)] (by first | rfl | (simp only [if_pos, if_true, hl0]; rfl)) (shp0 hσ (by simp) (by simp) ?_) ?_
           ·simp [SlotOk, hl0] <;> (repeat' (first | (refine RowsOk.same ?_; simp [purel, C.isPure]; done) | (refine rowsCons ?_; simp [mtl, mtc, mT, mH, C.isPure, purel]; done) | (refine rowsCons ?_; simp [mtl, mtc, mT, mH, C.isPure, purel]) | refine And.intro ?_ ?_))
           ·simp [mtc, mtl, mT, C.isPure, purel, hl0] <;> (try simp (disch := omega) [wrap_id]) <;> (try omega)
          ·exact ZW
      ·have hsn : (!(line == [])) = true := by simpa using hl0
       rw [hsn] at hs
       rw [if_pos hl0] at gE gV
       (repeat refine ZQ ?_); refine ZR fun K hK => ?_; simp (maxSteps := 1000000) [ty9, hs, -strBin]; refine hK _ ?_; clear hK K
       (repeat refine ZQ ?_); refine ZC (fun hd => ?_) (fun hd => ?_)
       ·clear hd
        (repeat refine ZQ ?_); refine ZR fun K hK => ?_; simp (maxSteps := 1000000) [ty22, ty9]
        refine ⟨by omega, ?_⟩
        refine hK _ ?_; clear hK K
        (repeat refine ZQ ?_); refine awp_exit ?_
        (repeat refine ZQ ?_); refine ZR fun K hK => ?_; simp (maxSteps := 1000000) [ty3, w1]; refine hK _ ?_; clear hK K; (first | show AWP _ _ _ _ _ | show ∃ _, _ | skip)
        refine ⟨⟨i1, out, pack ++ [line], []⟩, ⟨by simp; omega, by simp; omega, by simp; omega, by simp, by simp only [hr]; exact gE, by simp only [hr]; exact gV⟩, by simp; omega, ?_⟩
        refine wk_shape2 [(4, 4, .live ⟨out.isEmpty, false, 1, out.map cPl⟩), (5, 31, .live ⟨(pack ++ [line]).isEmpty, false, 1, (pack ++ [line]).map cS⟩)] (by first | rfl | (simp only [if_pos, if_true, hl0]; rfl)) (shp0 hσ (by simp) (by simp) ?_) ?_
        ·simp [SlotOk, hl0] <;> (repeat' (first | (refine RowsOk.same ?_; simp [purel, C.isPure]; done) | (refine rowsCons ?_; simp [mtl, mtc, mT, mH, C.isPure, purel]; done) | (refine rowsCons ?_; simp [mtl, mtc, mT, mH, C.isPure, purel]) | refine And.intro ?_ ?_))
        ·simp [mtc, mtl, mT, C.isPure, purel, hl0] <;> (try simp (disch := omega) [wrap_id]) <;> (try omega)
       ·simp at hd
    ·rw [if_neg hc] at gE gV
     rw [decide_eq_false hc] at hne
     (repeat refine ZQ ?_); refine ZR fun K hK => ?_; simp (maxSteps := 1000000) [ty9, ty3, ty5, hne, g]; refine hK _ ?_; clear hK K
     (repeat refine ZQ ?_); refine ZC (fun hd => ?_) (fun hd => ?_)
     ·clear hd
      (repeat refine ZQ ?_); refine ZR fun K hK => ?_; simp (maxSteps := 1000000) [ty9, ty3, ty4, w1, hx1, ha, hsz, hle1, hle2, -strBin]; refine hK _ ?_; clear hK K
      (repeat refine ZQ ?_); refine awp_exit ?_
      (repeat refine ZQ ?_); refine ZR fun K hK => ?_; simp (maxSteps := 1000000) [ty3, w1]; refine hK _ ?_; clear hK K; (first | show AWP _ _ _ _ _ | show ∃ _, _ | skip)
      have hlcn : lc ≠ [] := by rw [← hlc]; simp
      refine ⟨⟨i1, out, pack, line ++ lc⟩, ⟨by simp; omega, by simp; omega, by simp; omega, by simp [← hlc]; omega, by simp only [hr]; exact gE, by simp only [hr]; exact gV⟩, by simp; omega, ?_⟩
      refine wk_shape (shp0 hσ (by simp) (by simp) ?_) ?_
      ·simp [SlotOk, hlcn] <;> (repeat' (first | (refine RowsOk.same ?_; simp [purel, C.isPure]; done) | (refine rowsCons ?_; simp [mtl, mtc, mT, mH, C.isPure, purel]; done) | (refine rowsCons ?_; simp [mtl, mtc, mT, mH, C.isPure, purel]) | refine And.intro ?_ ?_))
      ·simp [mtc, mtl, mT, C.isPure, purel, hlcn] <;> (try simp (disch := omega) [wrap_id]) <;> (try omega)
     ·simp at hd
   ·simp [hlt] at hd
  ·have hin : i = l.length := by omega
   subst hin
   rw [List.drop_length] at gE gV
   simp only [cutE] at gE
   simp only [cutS] at gV
   (repeat refine ZQ ?_); refine ZC (fun hd => ?_) (fun hd => ?_)
   ·simp at hd
   ·clear hd
    (repeat refine ZQ ?_); refine awp_exit ?_; (first | show AWP _ _ _ _ _ | show ∃ _, _ | skip)
    rw [gE, if_neg (by simp), gV]
    have hpu : (out.map cPl).all purel = true := all_purel_map fun _ => rfl
    have ht : List.take out.length (out.map cPl) = out.map cPl := List.take_of_length_le (by simp)
    (repeat refine ZQ ?_); refine ZR fun K hK => ?_; simp (maxSteps := 1000000) [ty42, ty4]; refine hK _ ?_; clear hK K
    (repeat refine ZQ ?_); refine awp_ret ?_; refine And.intro (Or.inr rfl) ?_
    simp [retC, resC, viewC, mapO, hpu, ht]

set_option maxHeartbeats 8000000
set_option maxRecDepth 20000

-- cards: which lines are good, in the reference

theorem within76 (n a b : Int) : Pure Tryz.prog 76 [encI n, encI a, encI b] (.bool (decide (a ≤ n) && decide (n ≤ b))) := by
 refine ZF (fn := Tryz.f76) [.tmp 6] ⟨Tryz.func76, rfl, by kernel_rfl⟩ fun x hx hσ => ?_
 (repeat refine ZQ ?_); refine ZR fun K hK => ?_; simp (maxSteps := 1000000) [ty4]; refine hK _ ?_; clear hK K; (first | show AWP _ _ _ _ _ | show ∃ _, _ | skip)
 by_cases h1 : a ≤ n
 ·(repeat refine ZQ ?_); refine ZR fun K hK => ?_; simp (maxSteps := 1000000) [ty3, ty4, h1]; refine hK _ ?_; clear hK K
  (repeat refine ZQ ?_); refine awp_ret ?_; refine And.intro (Or.inr rfl) ?_
  simp [retC, resC, viewC, mapO, h1]
 ·(repeat refine ZQ ?_); refine ZR fun K hK => ?_; simp (maxSteps := 1000000) [ty3, ty4, h1]; refine hK _ ?_; clear hK K
  (repeat refine ZQ ?_); refine awp_ret ?_; refine And.intro (Or.inr rfl) ?_
  simp [retC, resC, viewC, mapO, h1]
theorem within45 (n a b : Int) : Pure Tryz.prog 45 [encI n, encI a, encI b] (.bool (decide (a ≤ n) && decide (n ≤ b))) := by
 have c := within76 n a b
 refine ZF (fn := Tryz.f45) [.tmp 6] ⟨Tryz.func45, rfl, by kernel_rfl⟩ fun x hx hσ => ?_
 (repeat refine ZQ ?_); refine ZR fun K hK => ?_; simp (maxSteps := 1000000) [ty4]; refine hK _ ?_; clear hK K
 (repeat refine ZQ ?_); refine ZR fun K hK => ?_; simp (maxSteps := 1000000) [ty3]
 refine ZP (c) ?_; simp (maxSteps := 1000000) [ty4]
 refine hK _ ?_; clear hK K
 (repeat refine ZQ ?_); refine awp_ret ?_; refine And.intro (Or.inr rfl) ?_
 simp [retC, resC, viewC, mapO]

theorem parse_eq {l : List UInt8} (h : bad1 l = false) : parseOk l = ((checkB (l.take (l.length - 2)) == l.drop (l.length - 2)) && !decide ((headC l).many < 1) && !decide (8 < (headC l).many) && !bad3 (headC l) && decide (2 ≤ longN (headC l)) && decide (longN (headC l) ≤ 62)) := by
 unfold parseOk bad2
 rw [h]
 cases (checkB (l.take (l.length - 2)) == l.drop (l.length - 2)) <;> cases decide ((headC l).many < 1) <;> cases decide (8 < (headC l).many) <;> rfl


theorem q_isGood22 (l : List UInt8) (hn : l.length ≤ 100000) : Pure Tryz.prog 22 [encS l] (.bool (parseOk l)) := by
 have hsz := S_size l
 have cpl := q_plain44 l (by omega)
 by_cases h6 : l.length < 6
 ·have hP : parseOk l = false := by unfold parseOk bad1; rw [decide_eq_true h6]; rfl
  have h6' : (l.length : Int) < 6 := by omega
  rw [hP]
  refine ZF (fn := Tryz.f22) [.tmp 2] ⟨Tryz.func22, rfl, by kernel_rfl⟩ fun x hx hσ => ?_
  (repeat refine ZQ ?_); refine ZR fun K hK => ?_; simp (maxSteps := 1000000) [ty4]; refine hK _ ?_; clear hK K
  (repeat refine ZQ ?_); refine ZR fun K hK => ?_; simp (maxSteps := 1000000) [ty9, ty3, ty4, ty5, hsz, h6']; refine hK _ ?_; clear hK K
  (repeat refine ZQ ?_); refine ZC (hc := by simp [h6']; rfl) (fun hd => ?_) (fun hd => ?_)
  ·clear hd
   (repeat refine ZQ ?_); refine ZR fun K hK => ?_; simp (maxSteps := 1000000) [ty4]; refine hK _ ?_; clear hK K
   (repeat refine ZQ ?_); refine awp_ret ?_; refine And.intro (Or.inr rfl) ?_
   simp [retC, resC, viewC, mapO]
  ·simp [h6'] at hd
 ·have h6' : ¬ (l.length : Int) < 6 := by omega
  cases hpl : plainB l with
  | false =>
   have hP : parseOk l = false := by unfold parseOk bad1; rw [hpl, decide_eq_false h6]; rfl
   rw [hpl] at cpl
   rw [hP]
   refine ZF (fn := Tryz.f22) [.tmp 2] ⟨Tryz.func22, rfl, by kernel_rfl⟩ fun x hx hσ => ?_
   (repeat refine ZQ ?_); refine ZR fun K hK => ?_; simp (maxSteps := 1000000) [ty4]; refine hK _ ?_; clear hK K
   (repeat refine ZQ ?_); refine ZR fun K hK => ?_; simp (maxSteps := 1000000) [ty9, ty3, ty4, ty5, hsz, h6']
   refine ZP (cpl) ?_; simp (maxSteps := 1000000) [ty9, ty3, ty4, ty5, hsz, h6']
   refine hK _ ?_; clear hK K
   (repeat refine ZQ ?_); refine ZC (fun hd => ?_) (fun hd => ?_)
   ·clear hd
    (repeat refine ZQ ?_); refine ZR fun K hK => ?_; simp (maxSteps := 1000000) [ty4]; refine hK _ ?_; clear hK K
    (repeat refine ZQ ?_); refine awp_ret ?_; refine And.intro (Or.inr rfl) ?_
    simp [retC, resC, viewC, mapO]
   ·simp at hd
  | true =>
   have hb1 : bad1 l = false := by unfold bad1; rw [hpl, decide_eq_false h6]; rfl
   have f := lnF l hn hb1
   have hP := parse_eq hb1
   have hmb : (headC l).many = ((l.getD 1 0).toNat : Int) - 48 := rfl
   have cck := q_check47 (l.take (l.length - 2)) (by simp; omega) (sumB_nn _ _ fun x hx => plain_ge hpl x (List.mem_of_mem_take hx))
   have he := str_eq (checkB (l.take (l.length - 2))) (l.drop (l.length - 2))
   rw [hpl] at cpl
   generalize l.length - 2 = e at *
   generalize headC l = cd at *
   generalize l.getD 1 0 = b at *
   generalize (checkB (l.take e) == l.drop e) = ck at *
   generalize checkB (l.take e) = chk at *
   obtain ⟨_, _, _, wE, g0, g1, _, _, hx2, e2, eL, hx0, _, hxe, _, mb, rl, nb⟩ := f
   generalize l.take e = tk at *
   generalize l.drop e = dr at *
   by_cases hA : b.toNat < 49
   ·have hA' : (b.toNat : Int) < 49 := by omega
    have hPf : parseOk l = false := by rw [hP, decide_eq_true (by omega : cd.many < 1)]; simp
    rw [hPf]
    refine ZF (fn := Tryz.f22) [.tmp 2] ⟨Tryz.func22, rfl, by kernel_rfl⟩ fun x hx hσ => ?_
    (repeat refine ZQ ?_); refine ZR fun K hK => ?_; simp (maxSteps := 1000000) [ty4]; refine hK _ ?_; clear hK K
    (repeat refine ZQ ?_); refine ZR fun K hK => ?_; simp (maxSteps := 1000000) [ty9, ty3, ty4, ty5, hsz, h6', g1, hA']
    refine ZP (cpl) ?_; simp (maxSteps := 1000000) [ty9, ty3, ty4, ty5, hsz, h6', g1, hA']
    refine hK _ ?_; clear hK K
    (repeat refine ZQ ?_); refine ZC (fun hd => ?_) (fun hd => ?_)
    ·clear hd
     (repeat refine ZQ ?_); refine ZR fun K hK => ?_; simp (maxSteps := 1000000) [ty4]; refine hK _ ?_; clear hK K
     (repeat refine ZQ ?_); refine awp_ret ?_; refine And.intro (Or.inr rfl) ?_
     simp [retC, resC, viewC, mapO]
    ·simp at hd
   ·have hA' : ¬ (b.toNat : Int) < 49 := by omega
    by_cases hB : 56 < b.toNat
    ·have hB' : (56 : Int) < b.toNat := by omega
     have hPf : parseOk l = false := by rw [hP, decide_eq_true (by omega : 8 < cd.many)]; simp
     rw [hPf]
     refine ZF (fn := Tryz.f22) [.tmp 2] ⟨Tryz.func22, rfl, by kernel_rfl⟩ fun x hx hσ => ?_
     (repeat refine ZQ ?_); refine ZR fun K hK => ?_; simp (maxSteps := 1000000) [ty4]; refine hK _ ?_; clear hK K
     (repeat refine ZQ ?_); refine ZR fun K hK => ?_; simp (maxSteps := 1000000) [ty9, ty3, ty4, ty5, hsz, h6', g1, hA', hB']
     refine ZP (cpl) ?_; simp (maxSteps := 1000000) [ty9, ty3, ty4, ty5, hsz, h6', g1, hA', hB']
     refine hK _ ?_; clear hK K
     (repeat refine ZQ ?_); refine ZC (fun hd => ?_) (fun hd => ?_)
     ·clear hd
      (repeat refine ZQ ?_); refine ZR fun K hK => ?_; simp (maxSteps := 1000000) [ty4]; refine hK _ ?_; clear hK K
      (repeat refine ZQ ?_); refine awp_ret ?_; refine And.intro (Or.inr rfl) ?_
      simp [retC, resC, viewC, mapO]
     ·simp at hd
    ·have hB' : ¬ (56 : Int) < b.toNat := by omega
     rw [decide_eq_false (by omega : ¬ cd.many < 1), decide_eq_false (by omega : ¬ 8 < cd.many)] at hP
     have hszr := S_size cd.row
     have ea : ((cd.num.toNat : Int) == 97) = (cd.num == 97) := u8_eq cd.num 97 (by decide)
     have eb : ((cd.num.toNat : Int) == 98) = (cd.num == 98) := u8_eq cd.num 98 (by decide)
     rw [hP]
     clear hP
     refine ZF (fn := Tryz.f22) [.tmp 2] ⟨Tryz.func22, rfl, by kernel_rfl⟩ fun x hx hσ => ?_
     (repeat refine ZQ ?_); refine ZR fun K hK => ?_; simp (maxSteps := 1000000) [ty4]; refine hK _ ?_; clear hK K
     (repeat refine ZQ ?_); refine ZR fun K hK => ?_; simp (maxSteps := 1000000) [ty9, ty3, ty4, ty5, hsz, h6', g1, hA', hB']
     refine ZP (cpl) ?_; simp (maxSteps := 1000000) [ty9, ty3, ty4, ty5, hsz, h6', g1, hA', hB']
     refine hK _ ?_; clear hK K
     (repeat refine ZQ ?_); refine ZC (fun hd => ?_) (fun hd => ?_)
     ·simp at hd
     ·clear hd
      refine awp_skip ?_
      (repeat refine ZQ ?_); refine ZR fun K hK => ?_; simp (maxSteps := 1000000) [ty9, ty3, hsz, wE, hx2, e2, eL]; refine hK _ ?_; clear hK K; (first | show AWP _ _ _ _ _ | show ∃ _, _ | skip)
      cases hs : sumN cd.num
      ·have hs' := hs
       unfold sumN at hs'
       simp only [Bool.or_eq_false_iff] at hs'
       rw [hs'.1] at ea
       rw [hs'.2] at eb
       have hln : longN cd = cd.row.length := by unfold longN; rw [hs]; rfl
       unfold bad3
       rw [hs, if_neg (by simp), hln]
       have hmn : (cd.many < (cd.num.toNat : Int) - 48) = (b.toNat < cd.num.toNat) := propext (by omega)
       (repeat refine ZQ ?_); refine ZR fun K hK => ?_; simp (maxSteps := 1000000) [ty9, ty3, ty4, ty5, g0, ea, eb]; refine hK _ ?_; clear hK K
       (repeat refine ZQ ?_); refine ZC (fun hd => ?_) (fun hd => ?_)
       ·simp at hd
       ·clear hd
        by_cases hN : cd.num.toNat < 49
        ·have hN' : (cd.num.toNat : Int) < 49 := by omega
         (repeat refine ZQ ?_); refine ZD [] [0, 1, 2, 3, 4, 5, 6, 7, 8, 9, 10, 11, 12, 13, 14, 15] fun K hK => ?_; simp (maxSteps := 1000000) [ty9, ty3, ty4, ty5, g0, hN']; refine hK _ ?_; clear hK K; (first | show AWP _ _ _ _ _ | show ∃ _, _ | skip)
         rw [decide_eq_true hN]
         simp only [Bool.true_or, Bool.not_true, Bool.and_false, Bool.false_and]
         (repeat refine ZQ ?_); refine ZC (fun hd => ?_) (fun hd => ?_)
         ·clear hd
          (repeat refine ZQ ?_); refine ZR fun K hK => ?_; simp (maxSteps := 1000000) [ty4]; refine hK _ ?_; clear hK K
          (repeat refine ZQ ?_); refine awp_ret ?_; refine And.intro (Or.inr rfl) ?_
          simp [retC, resC, viewC, mapO]
         ·simp at hd
        ·have hN' : ¬ (cd.num.toNat : Int) < 49 := by omega
         rw [decide_eq_false hN]
         by_cases hM : b.toNat < cd.num.toNat
         ·have hM' : (b.toNat : Int) < cd.num.toNat := by omega
          (repeat refine ZQ ?_); refine ZD [] [0, 1, 2, 3, 4, 5, 6, 7, 8, 9, 10, 11, 12, 13, 14, 15] fun K hK => ?_; simp (maxSteps := 1000000) [ty9, ty3, ty4, ty5, g0, g1, hN', hM']; refine hK _ ?_; clear hK K; (first | show AWP _ _ _ _ _ | show ∃ _, _ | skip)
          rw [decide_eq_true (by omega : cd.many < (cd.num.toNat : Int) - 48)]
          simp only [Bool.or_true, Bool.not_true, Bool.and_false, Bool.false_and]
          (repeat refine ZQ ?_); refine ZC (fun hd => ?_) (fun hd => ?_)
          ·clear hd
           (repeat refine ZQ ?_); refine ZR fun K hK => ?_; simp (maxSteps := 1000000) [ty4]; refine hK _ ?_; clear hK K
           (repeat refine ZQ ?_); refine awp_ret ?_; refine And.intro (Or.inr rfl) ?_
           simp [retC, resC, viewC, mapO]
          ·simp at hd
         ·have hM' : ¬ (b.toNat : Int) < cd.num.toNat := by omega
          rw [decide_eq_false (by omega : ¬ cd.many < (cd.num.toNat : Int) - 48)]
          have cw := within45 cd.row.length 2 62
          have hw : (decide ((2 : Int) ≤ cd.row.length) && decide ((cd.row.length : Int) ≤ 62)) = (decide (2 ≤ cd.row.length) && decide (cd.row.length ≤ 62)) := by
           rw [Bool.eq_iff_iff]; simp only [Bool.and_eq_true, decide_eq_true_eq]; omega
          rw [hw] at cw
          rw [Bool.and_assoc, Bool.and_assoc]
          cases hww : (decide (2 ≤ cd.row.length) && decide (cd.row.length ≤ 62))
          ·rw [hww] at cw
           (repeat refine ZQ ?_); refine ZD [] [0, 1, 2, 3, 4, 5, 6, 7, 8, 9, 10, 11, 12, 13, 14, 15] fun K hK => ?_; simp (maxSteps := 1000000) [ty9, ty3, ty4, ty5, g0, g1, hN', hM', hszr]
           refine ZE (cw) ?_; simp (maxSteps := 1000000) [ty9, ty3, ty4, ty5, g0, g1, hN', hM', hszr]
           refine hK _ ?_; clear hK K; (first | show AWP _ _ _ _ _ | show ∃ _, _ | skip)
           simp only [Bool.and_false]
           (repeat refine ZQ ?_); refine ZC (fun hd => ?_) (fun hd => ?_)
           ·clear hd
            (repeat refine ZQ ?_); refine ZR fun K hK => ?_; simp (maxSteps := 1000000) [ty4]; refine hK _ ?_; clear hK K
            (repeat refine ZQ ?_); refine awp_ret ?_; refine And.intro (Or.inr rfl) ?_
            simp [retC, resC, viewC, mapO]
           ·simp at hd
          ·rw [hww] at cw
           (repeat refine ZQ ?_); refine ZD [] [0, 1, 2, 3, 4, 5, 6, 7, 8, 9, 10, 11, 12, 13, 14, 15] fun K hK => ?_; simp (maxSteps := 1000000) [ty9, ty3, ty4, ty5, g0, g1, hN', hM', hszr]
           refine ZE (cw) ?_; simp (maxSteps := 1000000) [ty9, ty3, ty4, ty5, g0, g1, hN', hM', hszr]
           refine hK _ ?_; clear hK K
           (repeat refine ZQ ?_); refine ZC (fun hd => ?_) (fun hd => ?_)
           ·simp at hd
           ·clear hd
            refine awp_skip ?_; (first | show AWP _ _ _ _ _ | show ∃ _, _ | skip)
            simp only [Bool.or_false, Bool.not_false, Bool.and_true]
            (repeat refine ZQ ?_); refine ZD [] [0, 1, 2, 3, 4, 5, 6, 7, 8, 9, 10, 11, 12] fun K hK => ?_; simp (maxSteps := 1000000) [ty9, ty3, hsz, wE, e2, eL, hx0, hxe]
            refine ZE (cck) ?_; simp (maxSteps := 1000000) [ty9, ty3, ty4, hsz, wE, e2, eL, hxe, he, -strBin]
            refine hK _ ?_; clear hK K
            (repeat refine ZQ ?_); refine awp_ret ?_; refine And.intro (Or.inr rfl) ?_
            simp [retC, resC, viewC, mapO]
      ·have hln : longN cd = cd.row.length / 2 := by unfold longN; rw [hs]; rfl
       unfold bad3
       rw [hs, if_pos rfl, hln]
       have cw := within45 ((cd.row.length / 2 : Nat) : Int) 2 62
       have hw : (decide ((2 : Int) ≤ ((cd.row.length / 2 : Nat) : Int)) && decide (((cd.row.length / 2 : Nat) : Int) ≤ 62)) = (decide (2 ≤ cd.row.length / 2) && decide (cd.row.length / 2 ≤ 62)) := by
        rw [Bool.eq_iff_iff]; simp only [Bool.and_eq_true, decide_eq_true_eq]; omega
       rw [hw] at cw
       have cdg := q_digits46 cd.row (by omega)
       have r1 : Int.tmod (cd.row.length : Int) 2 = ((cd.row.length % 2 : Nat) : Int) := rfl
       have r2 : Int.tdiv (cd.row.length : Int) 2 = ((cd.row.length / 2 : Nat) : Int) := rfl
       obtain ⟨hf, hhf⟩ : ∃ hf, cd.row.length / 2 = hf := ⟨_, rfl⟩
       have wd : IntKind.i64.wrap (hf : Int) = (hf : Int) := wrap_id (by omega) (by omega)
       rw [hhf] at cw hw r2 ⊢
       have hm4 : (cd.num == 97) = false → (cd.num == 98) = true := fun h => by unfold sumN at hs; rw [h] at hs; simpa using hs
       refine awp_seq ?_
       refine awp_mid ⟨ofL [(0, encS l), (3, encS cd.row), (34, .bool true)], stoT []⟩ ?_ ?_
       ·cases ha : cd.num == 97
        ·rw [ha] at ea
         rw [hm4 ha] at eb
         (repeat refine ZQ ?_); refine ZR fun K hK => ?_; simp (maxSteps := 1000000) [ty9, ty3, ty4, ty5, g0, ea, eb]; refine hK _ ?_; clear hK K; (first | show AWP _ _ _ _ _ | show ∃ _, _ | skip)
         exact ZW
        ·rw [ha] at ea
         (repeat refine ZQ ?_); refine ZR fun K hK => ?_; simp (maxSteps := 1000000) [ty9, ty3, ty4, ty5, g0, ea]; refine hK _ ?_; clear hK K; (first | show AWP _ _ _ _ _ | show ∃ _, _ | skip)
         exact ZW
       ·(repeat refine ZQ ?_); refine ZC (fun hd => ?_) (fun hd => ?_)
        ·clear hd
         by_cases hO : cd.row.length % 2 = 0
         ·rw [hO] at r1
          rw [hO]
          cases hww : (decide (2 ≤ hf) && decide (hf ≤ 62))
          ·rw [hww] at cw
           rw [Bool.and_assoc, hww, Bool.and_false]
           (repeat refine ZQ ?_); refine ZR fun K hK => ?_; simp (maxSteps := 1000000) [ty9, ty3, ty4, hszr, r1, r2, wd]
           refine ZP (cw) ?_; simp (maxSteps := 1000000) [ty9, ty3, ty4, hszr, r1, r2, wd]
           refine hK _ ?_; clear hK K
           (repeat refine ZQ ?_); refine ZC (fun hd => ?_) (fun hd => ?_)
           ·clear hd
            (repeat refine ZQ ?_); refine ZR fun K hK => ?_; simp (maxSteps := 1000000) [ty4]; refine hK _ ?_; clear hK K
            (repeat refine ZQ ?_); refine awp_ret ?_; refine And.intro (Or.inr rfl) ?_
            simp [retC, resC, viewC, mapO]
           ·simp at hd
          ·rw [hww] at cw
           rw [Bool.and_assoc, hww]
           cases hdg : digB cd.row
           ·rw [hdg] at cdg
            simp only [Bool.not_false, Bool.or_true, Bool.not_true, Bool.and_false, Bool.false_and]
            (repeat refine ZQ ?_); refine ZR fun K hK => ?_; simp (maxSteps := 1000000) [ty9, ty3, ty4, hszr, r1, r2, wd]
            refine ZP (cw) ?_; simp (maxSteps := 1000000) [ty9, ty3, ty4, hszr, r1, r2, wd]
            refine ZP (cdg) ?_; simp (maxSteps := 1000000) [ty9, ty3, ty4]
            refine hK _ ?_; clear hK K
            (repeat refine ZQ ?_); refine ZC (fun hd => ?_) (fun hd => ?_)
            ·clear hd
             (repeat refine ZQ ?_); refine ZR fun K hK => ?_; simp (maxSteps := 1000000) [ty4]; refine hK _ ?_; clear hK K
             (repeat refine ZQ ?_); refine awp_ret ?_; refine And.intro (Or.inr rfl) ?_
             simp [retC, resC, viewC, mapO]
            ·simp at hd
           ·rw [hdg] at cdg
            (repeat refine ZQ ?_); refine ZR fun K hK => ?_; simp (maxSteps := 1000000) [ty9, ty3, ty4, hszr, r1, r2, wd]
            refine ZP (cw) ?_; simp (maxSteps := 1000000) [ty9, ty3, ty4, hszr, r1, r2, wd]
            refine ZP (cdg) ?_; simp (maxSteps := 1000000) [ty9, ty3, ty4]
            refine hK _ ?_; clear hK K
            (repeat refine ZQ ?_); refine ZC (fun hd => ?_) (fun hd => ?_)
            ·simp at hd
            ·clear hd
             refine awp_skip ?_; (first | show AWP _ _ _ _ _ | show ∃ _, _ | skip)
             simp
             (repeat refine ZQ ?_); refine ZD [] [0, 1, 2, 3, 4, 5, 6, 7, 8, 9, 10, 11, 12] fun K hK => ?_; simp (maxSteps := 1000000) [ty9, ty3, hsz, wE, e2, eL, hx0, hxe]
             refine ZE (cck) ?_; simp (maxSteps := 1000000) [ty9, ty3, ty4, hsz, wE, e2, eL, hxe, he, -strBin]
             refine hK _ ?_; clear hK K
             (repeat refine ZQ ?_); refine awp_ret ?_; refine And.intro (Or.inr rfl) ?_
             simp [retC, resC, viewC, mapO]
         ·have hO1 : cd.row.length % 2 = 1 := by omega
          rw [hO1] at r1
          rw [hO1]
          simp only [beq_self_eq_true, Bool.true_or, Bool.not_true, Bool.and_false, Bool.false_and]
          (repeat refine ZQ ?_); refine ZR fun K hK => ?_; simp (maxSteps := 1000000) [ty9, ty3, ty4, hszr, r1]; refine hK _ ?_; clear hK K
          (repeat refine ZQ ?_); refine ZC (fun hd => ?_) (fun hd => ?_)
          ·clear hd
           (repeat refine ZQ ?_); refine ZR fun K hK => ?_; simp (maxSteps := 1000000) [ty4]; refine hK _ ?_; clear hK K
           (repeat refine ZQ ?_); refine awp_ret ?_; refine And.intro (Or.inr rfl) ?_
           simp [retC, resC, viewC, mapO]
          ·simp at hd
        ·simp at hd

set_option maxHeartbeats 8000000
set_option maxRecDepth 20000

-- law CardsOrder

def mixTo (b : Nat) (tw : List Int) (st : List UInt8) (P : List Ls) (i : Nat) : List Ls := (P.take i).map (mixB b tw st)
theorem mixTo_succ (b : Nat) (tw : List Int) (st : List UInt8) (P : List Ls) {i : Nat} (hi : i < P.length) : mixTo b tw st P (i + 1) = mixTo b tw st P i ++ [mixB b tw st P[i]] := by
 unfold mixTo
 rw [List.take_succ_eq_append_getElem hi, List.map_append]; rfl

def mkPk (p : Ls) : Pk := ⟨false, false, p⟩
theorem mk_rows (P : List Ls) : P.map cPl = (P.map mkPk).map cPk := by rw [List.map_map]; rfl
theorem mk_wr (P : List Ls) : writtenB (P.map mkPk) = wrL P := by
 unfold writtenB wrL
 rw [List.flatMap_map]; rfl


/-- What comes before the packs are mixed. -/
theorem law5_bad (nl fu : Bool) (L : Ls) (b : Int) (n2 : Bool) (tw : List Int) (st : List UInt8) (h : areB L = false ∨ b < 0 ∨ 100 < b ∨ 10 < tw.length ∨ 200 < st.length ∨ parseOk st = true) : Pure Tryz.prog 5 [sT nl fu L, .agg [encI b, .sl n2 false (tw.map cI), encS st]] (.bool true) := by
  have cA := l_areTexts10 nl fu L
  have cW := l_works11
  have hsz := S_size st
  cases hA : areB L with
  | false =>
    rw [hA] at cA
    refine ZF (fn := Tryz.f5) [.tmp 4] ⟨Tryz.func5, rfl, by kernel_rfl⟩ fun x hx hσ => ?_
    (repeat refine ZQ ?_); refine ZR fun K hK => ?_; simp (maxSteps := 1000000) [ty45, ty4]; refine hK _ ?_; clear hK K
    (repeat refine ZQ ?_); refine ZR fun K hK => ?_; simp (maxSteps := 1000000) [ty22, ty4, ty45, ty3, ty33, ty9, hsz]
    refine ZP (cA) ?_; simp (maxSteps := 1000000) [ty4, ty45, ty3, ty33, ty9, hsz]
    refine hK _ ?_; clear hK K
    (repeat refine ZQ ?_); refine ZC (fun hd => ?_) (fun hd => ?_)
    · clear hd
      (repeat refine ZQ ?_); refine ZR fun K hK => ?_; simp (maxSteps := 1000000) [ty4]
      refine ZP (cW) ?_; simp (maxSteps := 1000000) [ty4]
      refine hK _ ?_; clear hK K
      (repeat refine ZQ ?_); refine awp_ret ?_; refine And.intro (Or.inr rfl) ?_
      simp [retC, resC, viewC, mapO]
    · simp at hd
  | true =>
    rw [hA] at cA
    by_cases h1 : b < 0
    · refine ZF (fn := Tryz.f5) [.tmp 4] ⟨Tryz.func5, rfl, by kernel_rfl⟩ fun x hx hσ => ?_
      (repeat refine ZQ ?_); refine ZR fun K hK => ?_; simp (maxSteps := 1000000) [ty45, ty4]; refine hK _ ?_; clear hK K
      (repeat refine ZQ ?_); refine ZR fun K hK => ?_; simp (maxSteps := 1000000) [ty22, ty4, ty45, ty3, ty33, ty9, hsz, h1]
      refine ZP (cA) ?_; simp (maxSteps := 1000000) [ty4, ty45, ty3, ty33, ty9, hsz, h1]
      refine hK _ ?_; clear hK K
      (repeat refine ZQ ?_); refine ZC (fun hd => ?_) (fun hd => ?_)
      · clear hd
        (repeat refine ZQ ?_); refine ZR fun K hK => ?_; simp (maxSteps := 1000000) [ty4]
        refine ZP (cW) ?_; simp (maxSteps := 1000000) [ty4]
        refine hK _ ?_; clear hK K
        (repeat refine ZQ ?_); refine awp_ret ?_; refine And.intro (Or.inr rfl) ?_
        simp [retC, resC, viewC, mapO]
      · simp at hd
    · by_cases h2 : 100 < b
      · refine ZF (fn := Tryz.f5) [.tmp 4] ⟨Tryz.func5, rfl, by kernel_rfl⟩ fun x hx hσ => ?_
        (repeat refine ZQ ?_); refine ZR fun K hK => ?_; simp (maxSteps := 1000000) [ty45, ty4]; refine hK _ ?_; clear hK K
        (repeat refine ZQ ?_); refine ZR fun K hK => ?_; simp (maxSteps := 1000000) [ty22, ty4, ty45, ty3, ty33, ty9, hsz, h1, h2]
        refine ZP (cA) ?_; simp (maxSteps := 1000000) [ty4, ty45, ty3, ty33, ty9, hsz, h1, h2]
        refine hK _ ?_; clear hK K
        (repeat refine ZQ ?_); refine ZC (fun hd => ?_) (fun hd => ?_)
        · clear hd
          (repeat refine ZQ ?_); refine ZR fun K hK => ?_; simp (maxSteps := 1000000) [ty4]
          refine ZP (cW) ?_; simp (maxSteps := 1000000) [ty4]
          refine hK _ ?_; clear hK K
          (repeat refine ZQ ?_); refine awp_ret ?_; refine And.intro (Or.inr rfl) ?_
          simp [retC, resC, viewC, mapO]
        · simp at hd
      · by_cases h3 : 10 < tw.length
        · have h3' : (10 : Int) < tw.length := by omega
          refine ZF (fn := Tryz.f5) [.tmp 4] ⟨Tryz.func5, rfl, by kernel_rfl⟩ fun x hx hσ => ?_
          (repeat refine ZQ ?_); refine ZR fun K hK => ?_; simp (maxSteps := 1000000) [ty45, ty4]; refine hK _ ?_; clear hK K
          (repeat refine ZQ ?_); refine ZR fun K hK => ?_; simp (maxSteps := 1000000) [ty22, ty4, ty45, ty3, ty33, ty9, hsz, h1, h2, h3']
          refine ZP (cA) ?_; simp (maxSteps := 1000000) [ty4, ty45, ty3, ty33, ty9, hsz, h1, h2, h3']
          refine hK _ ?_; clear hK K
          (repeat refine ZQ ?_); refine ZC (fun hd => ?_) (fun hd => ?_)
          · clear hd
            (repeat refine ZQ ?_); refine ZR fun K hK => ?_; simp (maxSteps := 1000000) [ty4]
            refine ZP (cW) ?_; simp (maxSteps := 1000000) [ty4]
            refine hK _ ?_; clear hK K
            (repeat refine ZQ ?_); refine awp_ret ?_; refine And.intro (Or.inr rfl) ?_
            simp [retC, resC, viewC, mapO]
          · simp at hd
        · have h3' : ¬ (10 : Int) < tw.length := by omega
          by_cases h4 : 200 < st.length
          · have h4' : (200 : Int) < st.length := by omega
            refine ZF (fn := Tryz.f5) [.tmp 4] ⟨Tryz.func5, rfl, by kernel_rfl⟩ fun x hx hσ => ?_
            (repeat refine ZQ ?_); refine ZR fun K hK => ?_; simp (maxSteps := 1000000) [ty45, ty4]; refine hK _ ?_; clear hK K
            (repeat refine ZQ ?_); refine ZR fun K hK => ?_; simp (maxSteps := 1000000) [ty22, ty4, ty45, ty3, ty33, ty9, hsz, h1, h2, h3', h4']
            refine ZP (cA) ?_; simp (maxSteps := 1000000) [ty4, ty45, ty3, ty33, ty9, hsz, h1, h2, h3', h4']
            refine hK _ ?_; clear hK K
            (repeat refine ZQ ?_); refine ZC (fun hd => ?_) (fun hd => ?_)
            · clear hd
              (repeat refine ZQ ?_); refine ZR fun K hK => ?_; simp (maxSteps := 1000000) [ty4]
              refine ZP (cW) ?_; simp (maxSteps := 1000000) [ty4]
              refine hK _ ?_; clear hK K
              (repeat refine ZQ ?_); refine awp_ret ?_; refine And.intro (Or.inr rfl) ?_
              simp [retC, resC, viewC, mapO]
            · simp at hd
          · have h4' : ¬ (200 : Int) < st.length := by omega
            have hp : parseOk st = true := by
              rcases h with h | h | h | h | h | h
              · rw [hA] at h; cases h
              · exact absurd h h1
              · exact absurd h h2
              · exact absurd h h3
              · exact absurd h h4
              · exact h
            have cG := q_isGood22 st (by omega)
            rw [hp] at cG
            refine ZF (fn := Tryz.f5) [.tmp 4] ⟨Tryz.func5, rfl, by kernel_rfl⟩ fun x hx hσ => ?_
            (repeat refine ZQ ?_); refine ZR fun K hK => ?_; simp (maxSteps := 1000000) [ty45, ty4]; refine hK _ ?_; clear hK K
            (repeat refine ZQ ?_); refine ZR fun K hK => ?_; simp (maxSteps := 1000000) [ty22, ty4, ty45, ty3, ty33, ty9, hsz, h1, h2, h3', h4']
            refine ZP (cA) ?_; simp (maxSteps := 1000000) [ty4, ty45, ty3, ty33, ty9, hsz, h1, h2, h3', h4']
            refine ZP (cG) ?_; simp (maxSteps := 1000000) [ty4, ty45, ty3, ty33, ty9, hsz, h1, h2, h3', h4']
            refine hK _ ?_; clear hK K
            (repeat refine ZQ ?_); refine ZC (fun hd => ?_) (fun hd => ?_)
            · clear hd
              (repeat refine ZQ ?_); refine ZR fun K hK => ?_; simp (maxSteps := 1000000) [ty4]
              refine ZP (cW) ?_; simp (maxSteps := 1000000) [ty4]
              refine hK _ ?_; clear hK K
              (repeat refine ZQ ?_); refine awp_ret ?_; refine And.intro (Or.inr rfl) ?_
              simp [retC, resC, viewC, mapO]
            · simp at hd


theorem law5_ok (nl fu : Bool) (L : Ls) (b : Nat) (n2 : Bool) (tw : List Int) (st : List UInt8) (hA : areB L = true) (hb : b ≤ 100) (h3 : tw.length ≤ 10) (h4 : st.length ≤ 200) (hp : parseOk st = false) : Pure Tryz.prog 5 [sT nl fu L, .agg [encI b, .sl n2 false (tw.map cI), encS st]] (.bool true) := by
 have cA := l_areTexts10 nl fu L
 rw [hA] at cA
 have cW := l_works11
 have hsz := S_size st
 have h1 : ¬ (b : Int) < 0 := by omega
 have h2 : ¬ 100 < (b : Int) := by omega
 have h3' : ¬ (10 : Int) < tw.length := by omega
 have h4' : ¬ (200 : Int) < st.length := by omega
 have cG := q_isGood22 st (by omega)
 rw [hp] at cG
 obtain ⟨h40, hat, hE⟩ := are_ok hA
 have c12 := write12_ok nl fu L h40 hat
 have hok : ∀ p ∈ chunksB L, PackOk p := fun p hp => chunk_ok hat hp
 obtain ⟨P, hP⟩ : ∃ P, (chunksB L).map cardsB = P := ⟨_, rfl⟩
 have hPs : PsOk P := fun p hp => by
  rw [← hP] at hp
  obtain ⟨q, hq, rfl⟩ := List.mem_map.1 hp
  exact cards_pack (hok q hq)
 have hPn : ∀ p ∈ P, 0 < p.length ∧ p.length ≤ 100 := fun p hp => by
  rw [← hP] at hp
  obtain ⟨q, hq, rfl⟩ := List.mem_map.1 hp
  have := cards_len (hok q hq)
  have := (hok q hq).many
  omega
 have hPl : P.length ≤ 5 := by rw [← hP, List.length_map, chunks_len]; omega
 have hfile : fileB L = wrL P := by rw [wrL_file, hP]
 have hV := cutV_wr hPs
 have hmix : (chunksB L).map (fun T => mixB b tw st (cardsB T)) = mixTo b tw st P P.length := by
  unfold mixTo
  rw [List.take_length, ← hP, List.map_map]; rfl
 have hrd : (10 : UInt8) ∉ st → rE (wrL (mixTo b tw st P P.length)) = 0 ∧ rTx (wrL (mixTo b tw st P P.length)) = L ∧ rLo (wrL (mixTo b tw st P P.length)) = [] ∧ (wrL (mixTo b tw st P P.length)).length ≤ 50000 := fun h10 => by
  have := read_mix (L := L) h40 hat (b := b) h3 h4 hp h10
  unfold mixF at this
  rw [hmix] at this
  exact this
 have hfl : (fileB L).length ≤ 1000000 := by
  rw [hfile, ← hP]
  have := wr_len (P := (chunksB L).map cardsB) (n := 2000) fun p hp => by
   obtain ⟨q, hq, rfl⟩ := List.mem_map.1 hp
   have hc := cards_len (hok q hq)
   have hm := (hok q hq).many
   have := lines_len (p := cardsB q) (n := 130) hc.2
   unfold packL
   simp only [List.length_append, List.length_cons, List.length_nil]
   omega
  rw [hP] at this ⊢
  omega
 have c23 := q_cut23 (fileB L) hfl
 have hcE : cutE (fileB L) [] [] = false := by
  cases hc : cutE (fileB L) [] [] with
  | false => rfl
  | true =>
   have := cutE_true (fileB L) [] [] [] hc
   rw [hfile] at this
   unfold cutV at hV
   rw [hV] at this
   simp at this
 have hcut : encCut (fileB L) = .tup [sPl P.isEmpty false P, .bool true] := by
  unfold encCut
  rw [hcE, if_neg (by simp), hfile, hV]
 rw [hcut] at c23
 have hMs := fun i (hi : i < P.length) => mixTo_succ b tw st P hi
 have hM0 : mixTo b tw st P 0 = [] := rfl
 have c18 := l_sameT18 L.isEmpty false nl fu L L (by omega)
 rw [beq_self_eq_true] at c18
 generalize fileB L = F at *
 generalize mixTo b tw st P = M at *
 clear hfile hV hcE hcut hmix hP hfl
 refine ZF (fn := Tryz.f5) [.tmp 4] ⟨Tryz.func5, rfl, by kernel_rfl⟩ fun x hx hσ => ?_
 (repeat refine ZQ ?_); refine ZR fun K hK => ?_; simp (maxSteps := 1000000) [ty45, ty4]; refine hK _ ?_; clear hK K
 (repeat refine ZQ ?_); refine ZR fun K hK => ?_; simp (maxSteps := 1000000) [ty22, ty4, ty45, ty3, ty33, ty9, hsz, h1, h2, h3', h4']
 refine ZP (cA) ?_; simp (maxSteps := 1000000) [ty4, ty45, ty3, ty33, ty9, hsz, h1, h2, h3', h4']
 refine ZP (cG) ?_; simp (maxSteps := 1000000) [ty4, ty45, ty3, ty33, ty9, hsz, h1, h2, h3', h4']
 refine hK _ ?_; clear hK K
 (repeat refine ZQ ?_); refine ZC (fun hd => ?_) (fun hd => ?_)
 ·simp at hd
 ·clear hd
  refine awp_skip ?_
  (repeat refine ZQ ?_); refine ZR fun K hK => ?_; simp (maxSteps := 1000000) [ty3]; refine hK _ ?_; clear hK K
  (repeat refine ZQ ?_); refine awp_block ?_
  refine awp_loop (fun i : Nat => ⟨ofL [(0, sT nl fu L), (3, .ptr 3 3 0 0), (5, encI i)], stoT [(3, 3, .live ⟨false, false, 3, [[encI (b : Int), .sl n2 false (tw.map cI), encS st]]⟩)]⟩)
   (fun i => i ≤ st.length ∧ ∀ j (h : j < st.length), j < i → st[j] ≠ 10) (fun i => st.length - i) 0 (by simp) ?_ ?_
  ·exact ZW
  ·intro i ⟨hi, hno⟩
   have w1 : IntKind.i64.wrap ((i : Int) + 1) = ((i + 1 : Nat) : Int) := by rw [wrap_id (by omega) (by omega)]; rfl
   (repeat refine ZQ ?_); refine ZR fun K hK => ?_; simp (maxSteps := 1000000) [ty45, ty9, ty3, hsz]; refine hK _ ?_; clear hK K; (first | show AWP _ _ _ _ _ | show ∃ _, _ | skip)
   by_cases hlt : i < st.length
   ·have hlt' : (i : Int) < st.length := by omega
    (repeat refine ZQ ?_); refine ZC (hc := by simp [hlt]; rfl) (fun hd => ?_) (fun hd => ?_)
    ·clear hd
     have g := S_at hlt
     have he : (((st[i]).toNat : Int) == 10) = (st[i] == 10) := u8_eq st[i] 10 (by decide)
     refine awp_skip ?_
     (repeat refine ZQ ?_); refine awp_block ?_
     by_cases hc : st[i] = 10
     ·have he2 : (st[i] == 10) = true := by rw [hc]; rfl
      rw [he2] at he
      (repeat refine ZQ ?_); refine ZR fun K hK => ?_; simp (maxSteps := 1000000) [ty45, ty9, ty3, ty5, g, he]; refine hK _ ?_; clear hK K
      (repeat refine ZQ ?_); refine ZC (fun hd => ?_) (fun hd => ?_)
      ·clear hd
       (repeat refine ZQ ?_); refine ZR fun K hK => ?_; simp (maxSteps := 1000000) [ty4]
       refine ZP (cW) ?_; simp (maxSteps := 1000000) [ty4]
       refine hK _ ?_; clear hK K
       (repeat refine ZQ ?_); refine awp_ret ?_; refine And.intro (Or.inr rfl) ?_
       simp [retC, resC, viewC, mapO]
      ·simp at hd
     ·have he2 : (st[i] == 10) = false := by rw [beq_eq_false_iff_ne]; exact hc
      rw [he2] at he
      (repeat refine ZQ ?_); refine ZR fun K hK => ?_; simp (maxSteps := 1000000) [ty45, ty9, ty3, ty5, g, he]; refine hK _ ?_; clear hK K
      (repeat refine ZQ ?_); refine ZC (fun hd => ?_) (fun hd => ?_)
      ·simp at hd
      ·clear hd
       refine awp_skip ?_
       (repeat refine ZQ ?_); refine ZR fun K hK => ?_; simp (maxSteps := 1000000) [ty3, w1]; refine hK _ ?_; clear hK K; (first | show AWP _ _ _ _ _ | show ∃ _, _ | skip)
       refine ⟨i + 1, ⟨by omega, fun j h1 h2 => ?_⟩, by omega, ?_⟩
       ·by_cases hji : j = i
        ·subst hji; exact hc
        ·exact hno j h1 (by omega)
       ·exact ZW
    ·simp [hlt] at hd
   ·have hin : i = st.length := by omega
    subst hin
    have h10 : (10 : UInt8) ∉ st := fun hm => by
     obtain ⟨j, hj, e⟩ := List.getElem_of_mem hm
     exact hno j hj hj e
    obtain ⟨r1, r2, r3, r4⟩ := hrd h10
    (repeat refine ZQ ?_); refine ZC (fun hd => ?_) (fun hd => ?_)
    ·simp at hd
    ·clear hd
     (repeat refine ZQ ?_); refine awp_exit ?_
     (repeat refine ZQ ?_); refine ZR fun K hK => ?_; simp (maxSteps := 1000000) [ty22]
     refine ZP (c12) ?_; simp (maxSteps := 1000000) [ty9, ty26]
     refine hK _ ?_; clear hK K
     (repeat refine ZQ ?_); refine ZR fun K hK => ?_; simp (maxSteps := 1000000) [ty9]
     refine ZP (c23) ?_; simp (maxSteps := 1000000) [ty42, ty4]
     refine hK _ ?_; clear hK K
     (repeat refine ZQ ?_); refine ZR fun K hK => ?_; simp (maxSteps := 1000000) [ty26, ty4]; refine hK _ ?_; clear hK K
     (repeat refine ZQ ?_); refine ZC (fun hd => ?_) (fun hd => ?_)
     ·simp at hd
     ·clear hd
      refine awp_skip ?_; (first | show AWP _ _ _ _ _ | show ∃ _, _ | skip)
      have cW2 := q_written24 (M P.length).isEmpty false ((M P.length).map mkPk) (by rw [mk_wr]; omega)
      rw [mk_wr] at cW2
      have c16 := read16 (wrL (M P.length)) r4
      rw [r1, r2, r3] at c16
      simp only [encRd, if_true] at c16
      unfold sPk at cW2
      rw [← mk_rows] at cW2
      generalize wrL (M P.length) = W at *
      (repeat refine ZQ ?_); refine ZR fun K hK => ?_; simp (maxSteps := 1000000) [ty42]; refine hK _ ?_; clear hK K
      (repeat refine ZQ ?_); refine ZR fun K hK => ?_; simp (maxSteps := 1000000) [ty3]; refine hK _ ?_; clear hK K
      (repeat refine ZQ ?_); refine awp_block ?_
      refine AWP.weak ?_ (wk_nil 10 10 1 (fu := true) (by simp) (by simp))
      refine awp_loop (fun i : Nat => ⟨ofL [(0, sT nl fu L), (3, .ptr 3 3 0 0), (8, sPl P.isEmpty false P), (10, .own 10 1 0 (M i).length), (11, encI i)], stoT [(3, 3, .live ⟨false, false, 3, [[encI (b : Int), .sl n2 false (tw.map cI), encS st]]⟩), (10, 10, .live ⟨(M i).isEmpty, false, 1, (M i).map cPl⟩)]⟩)
       (fun i => i ≤ P.length ∧ (M i).length = i) (fun i => P.length - i) 0 ⟨Nat.zero_le _, by rw [hM0]; rfl⟩ ?_ ?_
      ·refine wk_shape (shp0 hσ (by simp) (by simp) ?_) ?_
       ·simp [SlotOk, hM0] <;> (repeat' (first | (refine RowsOk.same ?_; simp [purel, C.isPure]; done) | (refine rowsCons ?_; simp [mtl, mtc, mT, mH, C.isPure, purel]; done) | (refine rowsCons ?_; simp [mtl, mtc, mT, mH, C.isPure, purel]) | refine And.intro ?_ ?_))
       ·simp [mtc, mtl, mT, C.isPure, purel, hM0] <;> (try simp (disch := omega) [wrap_id]) <;> (try omega)
      ·intro i ⟨hi, hMl⟩
       have w1 : IntKind.i64.wrap ((i : Int) + 1) = ((i + 1 : Nat) : Int) := by rw [wrap_id (by omega) (by omega)]; rfl
       (repeat refine ZQ ?_); refine ZR fun K hK => ?_; simp (maxSteps := 1000000) [ty42, ty3]; refine hK _ ?_; clear hK K; (first | show AWP _ _ _ _ _ | show ∃ _, _ | skip)
       by_cases hlt : i < P.length
       ·have hlt' : (i : Int) < P.length := by omega
        (repeat refine ZQ ?_); refine ZC (hc := by simp [hlt]; rfl) (fun hd => ?_) (fun hd => ?_)
        ·clear hd
         have hcn := hPn _ (List.getElem_mem hlt)
         have hms := hMs i hlt
         have hmd : (M (i + 1)).length = i + 1 := by rw [hms]; simp [hMl]
         obtain ⟨c, hgP⟩ : ∃ c, P[i] = c := ⟨_, rfl⟩
         rw [hgP] at hcn hms
         have hxn : 0 < (mixB b tw st c).length ∧ (mixB b tw st c).length ≤ 200 := by
          have h1 := mix_len b tw st c
          have h2 : 0 < (turnTo c b c.length).length := by simp [turnTo]; omega
          refine ⟨?_, by omega⟩
          unfold mixB
          simp only [List.length_append]; omega
         have hTs := fun k => turn_succ c b k
         have hT0 : turnTo c b 0 = [] := rfl
         have hTl : ∀ k, (turnTo c b k).length = k := fun k => by simp [turnTo]
         have hWs := fun k (hk : k < tw.length) => tw_succ c tw hk
         have hW0 : twTo c tw 0 = [] := rfl
         have hWl : ∀ k, (twTo c tw k).length ≤ k := fun k => by
          unfold twTo
          rw [List.length_map]
          exact Nat.le_trans (List.length_filter_le _ _) (by simp; omega)
         have hmx : mixB b tw st c = turnTo c b c.length ++ twTo c tw tw.length ++ strL st := rfl
         generalize mixB b tw st c = X at *
         generalize turnTo c b = A at *
         generalize twTo c tw = B at *
         generalize hMi : M i = Mi at *
         generalize hMj : M (i + 1) = Mj at *
         refine awp_skip ?_
         (repeat refine ZQ ?_); refine awp_block ?_
         (repeat refine ZQ ?_); refine ZR fun K hK => ?_; simp (maxSteps := 1000000) [ty22]; refine hK _ ?_; clear hK K
         (repeat refine ZQ ?_); refine ZR fun K hK => ?_; simp (maxSteps := 1000000) [ty3]; refine hK _ ?_; clear hK K
         (repeat refine ZQ ?_); refine awp_block ?_
         refine AWP.weak ?_ (wk_nil 12 12 1 (fu := true) (by simp) (by simp))
         refine awp_loop (fun k : Nat => ⟨ofL [(0, sT nl fu L), (3, .ptr 3 3 0 0), (8, sPl P.isEmpty false P), (10, .own 10 1 0 Mi.length), (11, encI i), (12, .own 12 1 0 (A k).length), (13, encI k)],
          stoT [(3, 3, .live ⟨false, false, 3, [[encI (b : Int), .sl n2 false (tw.map cI), encS st]]⟩), (10, 10, .live ⟨Mi.isEmpty, false, 1, Mi.map cPl⟩), (12, 12, .live ⟨(A k).isEmpty, false, 1, (A k).map cS⟩)]⟩)
          (fun k => k ≤ c.length) (fun k => c.length - k) 0 (Nat.zero_le _) ?_ ?_
         ·refine wk_shape (shp0 hσ (by simp) (by simp) ?_) ?_
          ·simp [SlotOk, hT0] <;> (repeat' (first | (refine RowsOk.same ?_; simp [purel, C.isPure]; done) | (refine rowsCons ?_; simp [mtl, mtc, mT, mH, C.isPure, purel]; done) | (refine rowsCons ?_; simp [mtl, mtc, mT, mH, C.isPure, purel]) | refine And.intro ?_ ?_))
          ·simp [mtc, mtl, mT, C.isPure, purel, hT0] <;> (try simp (disch := omega) [wrap_id]) <;> (try omega)
         ·intro k hk
          have w2 : IntKind.i64.wrap ((k : Int) + 1) = ((k + 1 : Nat) : Int) := by rw [wrap_id (by omega) (by omega)]; rfl
          (repeat refine ZQ ?_); refine ZR fun K hK => ?_; simp (maxSteps := 1000000) [ty42, ty22, ty3, hlt, hgP]; refine hK _ ?_; clear hK K; (first | show AWP _ _ _ _ _ | show ∃ _, _ | skip)
          by_cases hkl : k < c.length
          ·have hkl' : (k : Int) < c.length := by omega
           (repeat refine ZQ ?_); refine ZC (hc := by simp [hkl]; rfl) (fun hd => ?_) (fun hd => ?_)
           ·clear hd
            refine awp_skip ?_
            (repeat refine ZQ ?_); refine awp_block ?_
            obtain ⟨s, hs⟩ : ∃ s, k + b = s := ⟨_, rfl⟩
            have ws : IntKind.i64.wrap ((k : Int) + b) = (s : Int) := by rw [wrap_id (by omega) (by omega)]; omega
            have hq0 : s % c.length < c.length := Nat.mod_lt _ (by omega)
            have htm : Int.tmod (s : Int) (c.length : Int) = ((s % c.length : Nat) : Int) := rfl
            have hTk := hTs k
            have hTkl := hTl k
            rw [hs] at hTk
            generalize hqq : s % c.length = q at *
            have hcz : ¬ c.length = 0 := by omega
            have wq : IntKind.i64.wrap (q : Int) = (q : Int) := wrap_id (by omega) (by omega)
            have hgq : c.getD q [] = c[q] := by simp [List.getD_eq_getElem?_getD, List.getElem?_eq_getElem hq0]
            rw [hgq] at hTk
            (repeat refine ZQ ?_); refine ZD [] [0, 1, 2, 3, 4, 5, 6, 7, 8, 9, 10, 11, 12, 13, 14, 15, 16, 17, 18, 19] fun K hK => ?_; simp (maxSteps := 1000000) [ty45, ty42, ty22, ty9, ty3, hlt, hgP, ws, htm, hcz, wq, hq0]
            refine ⟨by omega, ?_⟩
            refine hK _ ?_; clear hK K
            (repeat refine ZQ ?_); refine ZR fun K hK => ?_; simp (maxSteps := 1000000) [ty3, w2]; refine hK _ ?_; clear hK K; (first | show AWP _ _ _ _ _ | show ∃ _, _ | skip)
            refine ⟨k + 1, by omega, by omega, ?_⟩
            rw [hTk]
            refine wk_shape2 [(3, 3, .live ⟨false, false, 3, [[encI (b : Int), .sl n2 false (tw.map cI), encS st]]⟩), (10, 10, .live ⟨Mi.isEmpty, false, 1, Mi.map cPl⟩), (12, 111, .live ⟨(A k ++ [c[q]]).isEmpty, false, 1, (A k ++ [c[q]]).map cS⟩)] (by first | rfl | (simp only [if_pos, if_true]; rfl)) (shp0 hσ (by simp) (by simp) ?_) ?_
            ·simp [SlotOk] <;> (repeat' (first | (refine RowsOk.same ?_; simp [purel, C.isPure]; done) | (refine rowsCons ?_; simp [mtl, mtc, mT, mH, C.isPure, purel]; done) | (refine rowsCons ?_; simp [mtl, mtc, mT, mH, C.isPure, purel]) | refine And.intro ?_ ?_))
            ·simp [mtc, mtl, mT, C.isPure, purel] <;> (try simp (disch := omega) [wrap_id]) <;> (try omega)
           ·simp [hkl] at hd
          ·have hkn : k = c.length := by omega
           subst hkn
           (repeat refine ZQ ?_); refine ZC (fun hd => ?_) (fun hd => ?_)
           ·simp at hd
           ·clear hd
            (repeat refine ZQ ?_); refine awp_exit ?_; (first | show AWP _ _ _ _ _ | show ∃ _, _ | skip)
            have hAl := hTl c.length
            clear hTs hT0
            generalize A c.length = A1 at *
            clear hTl
            (repeat refine ZQ ?_); refine ZR fun K hK => ?_; simp (maxSteps := 1000000) [ty3]; refine hK _ ?_; clear hK K
            (repeat refine ZQ ?_); refine awp_block ?_
            refine awp_loop (fun k : Nat => ⟨ofL [(0, sT nl fu L), (3, .ptr 3 3 0 0), (8, sPl P.isEmpty false P), (10, .own 10 1 0 Mi.length), (11, encI i), (12, .own 12 1 0 (A1 ++ B k).length), (14, encI k)],
             stoT [(3, 3, .live ⟨false, false, 3, [[encI (b : Int), .sl n2 false (tw.map cI), encS st]]⟩), (10, 10, .live ⟨Mi.isEmpty, false, 1, Mi.map cPl⟩), (12, 12, .live ⟨(A1 ++ B k).isEmpty, false, 1, (A1 ++ B k).map cS⟩)]⟩)
             (fun k => k ≤ tw.length) (fun k => tw.length - k) 0 (Nat.zero_le _) ?_ ?_
            ·refine wk_shape (shp0 hσ (by simp) (by simp) ?_) ?_
             ·simp [SlotOk, hW0] <;> (repeat' (first | (refine RowsOk.same ?_; simp [purel, C.isPure]; done) | (refine rowsCons ?_; simp [mtl, mtc, mT, mH, C.isPure, purel]; done) | (refine rowsCons ?_; simp [mtl, mtc, mT, mH, C.isPure, purel]) | refine And.intro ?_ ?_))
             ·simp [mtc, mtl, mT, C.isPure, purel, hW0] <;> (try simp (disch := omega) [wrap_id]) <;> (try omega)
            ·intro k hk2
             have w3 : IntKind.i64.wrap ((k : Int) + 1) = ((k + 1 : Nat) : Int) := by rw [wrap_id (by omega) (by omega)]; rfl
             (repeat refine ZQ ?_); refine ZR fun K hK => ?_; simp (maxSteps := 1000000) [ty45, ty33, ty3]; refine hK _ ?_; clear hK K; (first | show AWP _ _ _ _ _ | show ∃ _, _ | skip)
             by_cases hkl : k < tw.length
             ·have hkl' : (k : Int) < tw.length := by omega
              (repeat refine ZQ ?_); refine ZC (hc := by simp [hkl]; rfl) (fun hd => ?_) (fun hd => ?_)
              ·clear hd
               refine awp_skip ?_
               (repeat refine ZQ ?_); refine awp_block ?_
               have hWk := hWs k hkl
               have hWkl := hWl k
               obtain ⟨t, hgt⟩ : ∃ t, tw[k] = t := ⟨_, rfl⟩
               rw [hgt] at hWk
               have hAB : (A1 ++ B k).length ≤ 200 := by simp; omega
               generalize hBk : B k = Bk at *
               generalize hBj : B (k + 1) = Bj at *
               unfold okT at hWk
               by_cases ht0 : 0 ≤ t
               ·by_cases htc : t < (c.length : Int)
                ·rw [decide_eq_true ht0, decide_eq_true htc, if_pos (by rfl)] at hWk
                 obtain ⟨q, rfl⟩ : ∃ q : Nat, t = q := ⟨t.toNat, by omega⟩
                 rw [Int.toNat_natCast] at hWk
                 have hq0 : q < c.length := by omega
                 have hgq : c.getD q [] = c[q] := by simp [List.getD_eq_getElem?_getD, List.getElem?_eq_getElem hq0]
                 rw [hgq] at hWk
                 (repeat refine ZQ ?_); refine ZD [] [0, 1, 2, 3, 4, 5, 6, 7, 8, 9, 10, 11, 12, 13, 14, 15, 16, 17, 18] fun K hK => ?_; simp (maxSteps := 1000000) [ty45, ty33, ty42, ty22, ty3, hkl, hgt, hlt, hgP, htc, ht0]; refine hK _ ?_; clear hK K
                 (repeat refine ZQ ?_); refine ZC (fun hd => ?_) (fun hd => ?_)
                 ·clear hd
                  (repeat refine ZQ ?_); refine ZD [] [0, 1, 2, 3, 4, 5, 6, 7, 8, 9, 10, 11, 12, 13, 14] fun K hK => ?_; simp (maxSteps := 1000000) [ty45, ty33, ty42, ty22, ty9, ty3, hkl, hgt, hlt, hgP, hq0]
                  refine ⟨by simp at hAB; omega, ?_⟩
                  refine hK _ ?_; clear hK K
                  (repeat refine ZQ ?_); refine ZR fun K hK => ?_; simp (maxSteps := 1000000) [ty3, w3]; refine hK _ ?_; clear hK K; (first | show AWP _ _ _ _ _ | show ∃ _, _ | skip)
                  refine ⟨k + 1, by omega, by omega, ?_⟩
                  rw [hBj, hWk]
                  refine wk_shape2 [(3, 3, .live ⟨false, false, 3, [[encI (b : Int), .sl n2 false (tw.map cI), encS st]]⟩), (10, 10, .live ⟨Mi.isEmpty, false, 1, Mi.map cPl⟩), (12, 151, .live ⟨(A1 ++ (Bk ++ [c[q]])).isEmpty, false, 1, (A1 ++ (Bk ++ [c[q]])).map cS⟩)] (by first | rfl | (simp only [if_pos, if_true]; rfl)) (shp0 hσ (by simp) (by simp) ?_) ?_
                  ·simp [SlotOk] <;> (repeat' (first | (refine RowsOk.same ?_; simp [purel, C.isPure]; done) | (refine rowsCons ?_; simp [mtl, mtc, mT, mH, C.isPure, purel]; done) | (refine rowsCons ?_; simp [mtl, mtc, mT, mH, C.isPure, purel]) | refine And.intro ?_ ?_))
                  ·simp [mtc, mtl, mT, C.isPure, purel] <;> (try simp (disch := omega) [wrap_id]) <;> (try omega)
                 ·simp at hd
                ·rw [decide_eq_true ht0, decide_eq_false htc, if_neg (by simp)] at hWk
                 (repeat refine ZQ ?_); refine ZD [] [0, 1, 2, 3, 4, 5, 6, 7, 8, 9, 10, 11, 12, 13, 14, 15, 16, 17, 18] fun K hK => ?_; simp (maxSteps := 1000000) [ty45, ty33, ty42, ty22, ty3, hkl, hgt, hlt, hgP, htc, ht0]; refine hK _ ?_; clear hK K
                 (repeat refine ZQ ?_); refine ZC (fun hd => ?_) (fun hd => ?_)
                 ·simp at hd
                 ·clear hd
                  refine awp_skip ?_
                  (repeat refine ZQ ?_); refine ZR fun K hK => ?_; simp (maxSteps := 1000000) [ty3, w3]; refine hK _ ?_; clear hK K; (first | show AWP _ _ _ _ _ | show ∃ _, _ | skip)
                  refine ⟨k + 1, by omega, by omega, ?_⟩
                  rw [hBj, hWk]
                  exact ZW
               ·rw [decide_eq_false ht0, if_neg (by simp)] at hWk
                (repeat refine ZQ ?_); refine ZD [] [0, 1, 2, 3, 4, 5, 6, 7, 8, 9, 10, 11, 12, 13, 14, 15, 16, 17, 18] fun K hK => ?_; simp (maxSteps := 1000000) [ty45, ty33, ty42, ty22, ty3, hkl, hgt, hlt, hgP, ht0]; refine hK _ ?_; clear hK K
                (repeat refine ZQ ?_); refine ZC (fun hd => ?_) (fun hd => ?_)
                ·simp at hd
                ·clear hd
                 refine awp_skip ?_
                 (repeat refine ZQ ?_); refine ZR fun K hK => ?_; simp (maxSteps := 1000000) [ty3, w3]; refine hK _ ?_; clear hK K; (first | show AWP _ _ _ _ _ | show ∃ _, _ | skip)
                 refine ⟨k + 1, by omega, by omega, ?_⟩
                 rw [hBj, hWk]
                 exact ZW
              ·simp [hkl] at hd
             ·have hkn : k = tw.length := by omega
              subst hkn
              (repeat refine ZQ ?_); refine ZC (fun hd => ?_) (fun hd => ?_)
              ·simp at hd
              ·clear hd
               (repeat refine ZQ ?_); refine awp_exit ?_; (first | show AWP _ _ _ _ _ | show ∃ _, _ | skip)
               have hAB : (A1 ++ B tw.length).length ≤ 200 := by have := hWl tw.length; simp; omega
               generalize B tw.length = B1 at *
               clear hWs hW0 hWl
               refine awp_mid ⟨ofL [(0, sT nl fu L), (3, .ptr 3 3 0 0), (8, sPl P.isEmpty false P), (10, .own 10 1 0 Mi.length), (11, encI i), (12, .own 12 1 0 X.length)],
                stoT [(3, 3, .live ⟨false, false, 3, [[encI (b : Int), .sl n2 false (tw.map cI), encS st]]⟩), (10, 10, .live ⟨Mi.isEmpty, false, 1, Mi.map cPl⟩), (12, 12, .live ⟨X.isEmpty, false, 1, X.map cS⟩)]⟩ ?_ ?_
               ·have hs := str_ne st []
                unfold strL at hmx
                by_cases hst : st = []
                ·have hsn : (!(st == [])) = false := by rw [hst]; rfl
                 rw [hsn] at hs
                 rw [if_pos hst, List.append_nil] at hmx
                 rw [hmx]
                 (repeat refine ZQ ?_); refine ZR fun K hK => ?_; simp (maxSteps := 1000000) [ty45, ty9, hs, -strBin]; refine hK _ ?_; clear hK K
                 (repeat refine ZQ ?_); refine ZC (fun hd => ?_) (fun hd => ?_)
                 ·simp at hd
                 ·clear hd
                  refine awp_skip ?_; (first | show AWP _ _ _ _ _ | show ∃ _, _ | skip)
                  exact ZW
                ·have hsn : (!(st == [])) = true := by simpa using hst
                 rw [hsn] at hs
                 rw [if_neg hst] at hmx
                 rw [hmx]
                 (repeat refine ZQ ?_); refine ZR fun K hK => ?_; simp (maxSteps := 1000000) [ty45, ty9, hs, -strBin]; refine hK _ ?_; clear hK K
                 (repeat refine ZQ ?_); refine ZC (fun hd => ?_) (fun hd => ?_)
                 ·clear hd
                  (repeat refine ZQ ?_); refine ZR fun K hK => ?_; simp (maxSteps := 1000000) [ty45, ty22, ty9]
                  refine ⟨by simp at hAB; omega, ?_⟩
                  refine hK _ ?_; clear hK K; (first | show AWP _ _ _ _ _ | show ∃ _, _ | skip)
                  refine wk_shape2 [(3, 3, .live ⟨false, false, 3, [[encI (b : Int), .sl n2 false (tw.map cI), encS st]]⟩), (10, 10, .live ⟨Mi.isEmpty, false, 1, Mi.map cPl⟩), (12, 159, .live ⟨(A1 ++ B1 ++ [st]).isEmpty, false, 1, (A1 ++ B1 ++ [st]).map cS⟩)] (by first | rfl | (simp only [if_pos, if_true]; rfl)) (shp0 hσ (by simp) (by simp) ?_) ?_
                  ·simp [SlotOk] <;> (repeat' (first | (refine RowsOk.same ?_; simp [purel, C.isPure]; done) | (refine rowsCons ?_; simp [mtl, mtc, mT, mH, C.isPure, purel]; done) | (refine rowsCons ?_; simp [mtl, mtc, mT, mH, C.isPure, purel]) | refine And.intro ?_ ?_))
                  ·simp [mtc, mtl, mT, C.isPure, purel] <;> (try simp (disch := omega) [wrap_id]) <;> (try omega)
                 ·simp at hd
               ·have hX0 : X ≠ [] := List.length_pos_iff.1 hxn.1
                refine AWP.weak ?_ (wk_frz 12 12 (c := sT false false X) (o := ⟨X.isEmpty, false, 1, X.map cS⟩) (by simp) (by simp [purel, C.isPure]) (by
                 have := fz_own (k := 12) (sz := 1) (n := X.length) (b := false) (o := ⟨X.isEmpty, false, 1, X.map cS⟩) rfl (by simp) (by simp [hX0])
                 simpa [hX0] using this))
                (repeat refine ZQ ?_); refine ZR fun K hK => ?_; simp (maxSteps := 1000000) [ty42, ty22]
                refine ⟨by omega, ?_⟩
                refine hK _ ?_; clear hK K
                (repeat refine ZQ ?_); refine ZR fun K hK => ?_; simp (maxSteps := 1000000) [ty3, w1]; refine hK _ ?_; clear hK K; (first | show AWP _ _ _ _ _ | show ∃ _, _ | skip)
                refine ⟨i + 1, ⟨by omega, by rw [hMj]; exact hmd⟩, by omega, ?_⟩
                rw [hMj, hms]
                refine wk_shape2 [(3, 3, .live ⟨false, false, 3, [[encI (b : Int), .sl n2 false (tw.map cI), encS st]]⟩), (10, 163, .live ⟨(Mi ++ [X]).isEmpty, false, 1, (Mi ++ [X]).map cPl⟩)] (by first | rfl | (simp only [if_pos, if_true]; rfl)) (shp0 hσ (by simp) (by simp) ?_) ?_
                ·simp [SlotOk] <;> (repeat' (first | (refine RowsOk.same ?_; simp [purel, C.isPure]; done) | (refine rowsCons ?_; simp [mtl, mtc, mT, mH, C.isPure, purel]; done) | (refine rowsCons ?_; simp [mtl, mtc, mT, mH, C.isPure, purel]) | refine And.intro ?_ ?_))
                ·simp [mtc, mtl, mT, C.isPure, purel] <;> (try simp (disch := omega) [wrap_id]) <;> (try omega)
        ·simp [hlt] at hd
       ·have hin : i = P.length := by omega
        subst hin
        (repeat refine ZQ ?_); refine ZC (fun hd => ?_) (fun hd => ?_)
        ·simp at hd
        ·clear hd
         (repeat refine ZQ ?_); refine awp_exit ?_; (first | show AWP _ _ _ _ _ | show ∃ _, _ | skip)
         generalize M P.length = Mn at *
         have hpu : (Mn.map cPl).all purel = true := all_purel_map fun _ => rfl
         have ht : List.take Mn.length (Mn.map cPl) = Mn.map cPl := List.take_of_length_le (by simp)
         (repeat refine ZQ ?_); refine ZR fun K hK => ?_; simp (maxSteps := 1000000) [ty42]
         refine callL cW2 (by simp [viewL, mapO, viewC, C.isPure, purel, ht, hpu]) (.inr rfl) ?_
         simp [ty9]
         refine ZP (c16) ?_; simp (maxSteps := 1000000) [ty22, ty33, ty26]
         refine hK _ ?_; clear hK K
         (repeat refine ZQ ?_); refine ZR fun K hK => ?_; simp (maxSteps := 1000000) [ty26, ty22, ty33, ty3, ty4]
         refine ZP (c18) ?_; simp (maxSteps := 1000000) [ty26, ty22, ty33, ty3, ty4]
         refine ZP (cW) ?_; simp (maxSteps := 1000000) [ty26, ty22, ty33, ty3, ty4]
         refine hK _ ?_; clear hK K
         (repeat refine ZQ ?_); refine awp_ret ?_; refine And.intro (Or.inr rfl) ?_
         simp [retC, resC, viewC, mapO]


theorem law5 (nl fu : Bool) (L : Ls) (b : Int) (n2 : Bool) (tw : List Int) (st : List UInt8) : Pure Tryz.prog 5 [sT nl fu L, .agg [encI b, .sl n2 false (tw.map cI), encS st]] (.bool true) := by
 by_cases h : areB L = false ∨ b < 0 ∨ 100 < b ∨ 10 < tw.length ∨ 200 < st.length ∨ parseOk st = true
 ·exact law5_bad nl fu L b n2 tw st h
 ·simp only [not_or, Bool.not_eq_false, Bool.not_eq_true] at h
  obtain ⟨h1, h2, h3, h4, h5, h6⟩ := h
  obtain ⟨c, rfl⟩ : ∃ c : Nat, b = c := ⟨b.toNat, by omega⟩
  exact law5_ok nl fu L c n2 tw st h1 (by omega) (by omega) (by omega) h6

end Go.Proofs.YtgnpcijgdhjfpaaGreatDoor

/- What comes in, as data; and how a law's statement follows from a contract of data. No condition. -/
namespace Go.Abs
open Go.ChangeShapes Go.WideShapes Go.ChangeAt Go.RowKit

/-- The make of a cell. -/
inductive Sh where
  | int (k : IntKind)
  | bool
  | str
  | sl (l : List Sh)

mutual
/-- A value of a make. -/
def Fit : Sh → C → Prop
  | .int k, c => ∃ n, c = .int k n ∧ (Lit.int k n).wf = true
  | .bool, c => ∃ b, c = .bool b
  | .str, c => ∃ s : ByteArray, c = .str s ∧ s.size ≤ maxLen
  | .sl l, c => ∃ nl rows, c = .sl nl false rows ∧ (nl = true → rows = []) ∧ rows.length ≤ maxLen ∧ ∀ row ∈ rows, FitL l row
def FitL : List Sh → List C → Prop
  | [], m => m = []
  | s :: l, m => ∃ c r, m = c :: r ∧ Fit s c ∧ FitL l r
end

def shFs (P : Program) (g : TypeId → Option (List Sh)) : Nat → List Field → Option (List Sh)
 | _, [] => some []
 | o, f :: fs => match g f.type, shFs P g (o + P.cellsOf f.type) fs with
  | some l, some m => if f.offset = o ∧ l.length = P.cellsOf f.type then some (l ++ m) else none
  | _, _ => none

/-- The makes of a type's cells. -/
def shT (P : Program) : Nat → TypeId → Option (List Sh)
  | 0, _ => none
  | n + 1, t => match P.underlying t with
    | some (.int k) => some [.int k]
    | some .bool => some [.bool]
    | some .string => some [.str]
    | some (.slice e) => match shT P n e with
      | some l => if l.length = P.cellsOf e ∧ 0 < l.length then some [.sl l] else none
      | none => none
    | some (.struct fs) => match shFs P (shT P n) 0 fs.toList with
      | some l => if l.length = P.cellsOf t then some l else none
      | none => none
    | _ => none

theorem FitL.len : ∀ {l : List Sh} {m : List C}, FitL l m → m.length = l.length
 | [], m, h => by simp only [FitL] at h; subst h; rfl
 | s :: l, m, h => by
  simp only [FitL] at h
  obtain ⟨c, r, rfl, _, h⟩ := h
  simp [FitL.len h]

theorem FitL.append : ∀ {l l' : List Sh} {m m' : List C}, FitL l m → FitL l' m' → FitL (l ++ l') (m ++ m')
 | [], l', m, m', h, h' => by simp only [FitL] at h; subst h; exact h'
 | s :: l, l', m, m', h, h' => by
  simp only [FitL] at h
  obtain ⟨c, r, rfl, h1, h2⟩ := h
  simp only [List.cons_append, FitL]
  exact ⟨c, r ++ m', rfl, h1, h2.append h'⟩

def anyG : Nat → Prop := fun _ => True

/-- Cells that stand for values. -/
def OpL (W : World) (m : List C) (cs : List Value) : Prop := m.length = cs.length ∧ ∀ (i : Nat) (c : C), m[i]? = some c → PR anyG W c (cs[i]?.getD undef) ∧ c.cell = true

theorem exists_list {α : Type} {Q : Nat → α → Prop} : ∀ {n : Nat}, (∀ i, i < n → ∃ x, Q i x) → ∃ l : List α, l.length = n ∧ ∀ i x, l[i]? = some x → Q i x
 | 0, _ => ⟨[], rfl, by simp⟩
 | n + 1, h => by
  obtain ⟨l, h1, h2⟩ := exists_list (n := n) fun i hi => h i (by omega)
  obtain ⟨x, hx⟩ := h n (by omega)
  refine ⟨l ++ [x], by simp [h1], fun i y hy => ?_⟩
  rcases Nat.lt_or_ge i l.length with hlt | hge
  ·rw [List.getElem?_append_left hlt] at hy
   exact h2 i y hy
  ·rw [List.getElem?_append_right hge] at hy
   have : i = n := by
    have := (List.getElem?_eq_some_iff.1 hy).1
    simp at this; omega
   subst this
   rw [h1, Nat.sub_self] at hy
   simp at hy
   subst hy; exact hx

section
variable {H : Type} {enc : TypeId × Value → H} {P : Program} {W : World}

theorem spot_of {a : Addr} {q n : Nat} {v : Value} (h : W.cell? ((a.add q).add n) = some v) (h0 : q = 0 ∧ n = 0) : a.spot = none := by
 obtain ⟨rfl, rfl⟩ := h0
 simp only [Addr.add, if_true] at h
 unfold World.cell? at h
 split at h
 ·split at h
  ·simp at h
  ·rename_i hs
   cases hsp : a.spot with
   | none => rfl
   | some z => simp [hsp] at hs
 ·simp at h

theorem addr_full {a : Addr} (h : a.spot = none) (q n : Nat) : (a.add q).add n = ⟨a.block, a.off + (q + n), none⟩ := by
 obtain ⟨b, o, s⟩ := a
 simp only at h
 subst h
 rw [addr_add, addr_add, Nat.add_assoc]

theorem cells_at {a : Addr} {n : Nat} {cs : List Value} (h : W.cells? 0 a n = some cs) : cs.length = n ∧ ∀ i, i < n → W.cell? (a.add i) = cs[i]? := by
 unfold World.cells? at h
 rw [if_pos (Nat.zero_le _)] at h
 refine ⟨by simpa using mapM_some_length h, fun i hi => ?_⟩
 exact mapM_some_get h i i (by rw [List.getElem?_range hi])

theorem block_lt {a : Addr} {v : Value} (h : W.cell? a = some v) : a.block < W.heap.size := by
 unfold World.cell? at h
 split at h
 ·rename_i hh; exact (Array.getElem?_eq_some_iff.1 hh).1
 ·simp at h

/-- WHAT IS READ IS DATA. -/
theorem open_sound : ∀ (n : Nat) {fuel : Nat} {t : TypeId} {cs : List Value} {x : DataW H × List MemPlace} {shs : List Sh}, shT P n t = some shs → DataW.trod enc P W 0 (fun _ => true) true fuel t cs = some x →
    ∃ m, FitL shs m ∧ OpL W m cs
  | 0, _, _, _, _, _, h, _ => by simp [shT] at h
  | n + 1, fuel, t, cs, x, shs, h, ht => by
    unfold shT at h
    split at h
    · rename_i k hk
      simp only [Option.some.injEq] at h
      subst h
      obtain ⟨z, rfl, _, hw⟩ := DataW.trod_int hk ht
      refine ⟨[.int k z], ⟨_, _, rfl, ⟨z, rfl, hw⟩, rfl⟩, rfl, fun i c hi => ?_⟩
      cases i with
      | zero => simp at hi; subst hi; exact ⟨.int _ _, rfl⟩
      | succ i => simp at hi
    · rename_i hk
      simp only [Option.some.injEq] at h
      subst h
      obtain ⟨z, rfl, _⟩ := DataW.trod_bool hk ht
      refine ⟨[.bool z], ⟨_, _, rfl, ⟨z, rfl⟩, rfl⟩, rfl, fun i c hi => ?_⟩
      cases i with
      | zero => simp at hi; subst hi; exact ⟨.bool _, rfl⟩
      | succ i => simp at hi
    · rename_i hk
      simp only [Option.some.injEq] at h
      subst h
      obtain ⟨z, rfl, _, hz⟩ := DataW.trod_string hk ht
      refine ⟨[.str z], ⟨_, _, rfl, ⟨z, rfl, hz⟩, rfl⟩, rfl, fun i c hi => ?_⟩
      cases i with
      | zero => simp at hi; subst hi; exact ⟨.str _, rfl⟩
      | succ i => simp at hi
    · rename_i e hk
      split at h
      · rename_i l hl
        split at h
        · rename_i hc
          obtain ⟨hc1, hc2⟩ := hc
          simp only [Option.some.injEq] at h
          subst h
          have one : ∀ {nl : Bool} {rows : List (List C)} {v : Value}, cs = [v] → (nl = true → rows = []) → rows.length ≤ maxLen → (∀ row ∈ rows, FitL l row) → PR anyG W (.sl nl false rows) v → ∃ m, FitL [.sl l] m ∧ OpL W m cs := by
            intro nl rows v hcs h1 h2 h3 h4
            subst hcs
            refine ⟨[.sl nl false rows], ⟨_, _, rfl, ⟨nl, rows, rfl, h1, h2, h3⟩, rfl⟩, rfl, fun i c hi => ?_⟩
            cases i with
            | zero => simp at hi; subst hi; exact ⟨h4, rfl⟩
            | succ i => simp at hi
          rcases DataW.trod_slice hk ht with ⟨rfl, _⟩ | ⟨a, len, cap, elems, rest, q, _, rfl, _, hb, hlc, hcm, hel, hat, hsp, _⟩
          · exact one rfl (fun _ => rfl) (by simp) (by simp) (.slnil _)
          · obtain ⟨hrl, hrat⟩ := hsp rfl
            by_cases hcap : cap = 0
            · have : len = 0 := by omega
              subst this
              subst hcap
              exact one (nl := false) (rows := []) rfl (by simp) (by simp) (by simp) (.slemp _ _)
            · have hspot : a.spot = none ∧ a.block < W.heap.size := by
                by_cases h0 : len = 0
                · have := hrat 0 (by omega)
                  rw [List.getElem?_eq_getElem (by omega), Option.bind_eq_some_iff] at this
                  obtain ⟨cs0, g1, _⟩ := this
                  obtain ⟨g2, g3⟩ := cells_at g1
                  have g4 := g3 0 (by omega)
                  rw [List.getElem?_eq_getElem (by omega), h0] at g4
                  have hs := spot_of g4 ⟨by simp, rfl⟩
                  refine ⟨hs, ?_⟩
                  have := block_lt g4
                  rw [addr_full hs] at this
                  exact this
                · have := hat 0 (by omega)
                  rw [List.getElem?_eq_getElem (by omega), Option.bind_eq_some_iff] at this
                  obtain ⟨cs0, g1, _⟩ := this
                  obtain ⟨g2, g3⟩ := cells_at g1
                  have g4 := g3 0 (by omega)
                  rw [List.getElem?_eq_getElem (by omega)] at g4
                  have hs := spot_of g4 ⟨by simp, rfl⟩
                  refine ⟨hs, ?_⟩
                  have := block_lt g4
                  rw [addr_full hs] at this
                  exact this
              obtain ⟨hs, hlt⟩ := hspot
              have hrow : ∀ i, i < len → ∃ row, FitL l row ∧ ∀ (j : Nat) (c : C), row[j]? = some c → ∃ v, W.cell? ⟨a.block, a.off + (i * P.cellsOf e + j), none⟩ = some v ∧ PR anyG W c v ∧ c.cell = true := by
                intro i hi
                have h1 := hat i hi
                rw [List.getElem?_eq_getElem (by omega), Option.bind_eq_some_iff] at h1
                obtain ⟨cs0, g1, g2⟩ := h1
                obtain ⟨g3, g4⟩ := cells_at g1
                obtain ⟨row, r1, r2, r3⟩ := open_sound n hl g2
                refine ⟨row, r1, fun j c hj => ?_⟩
                have hjl : j < row.length := (List.getElem?_eq_some_iff.1 hj).1
                have g5 := g4 j (by omega)
                rw [addr_full hs] at g5
                obtain ⟨r4, r5⟩ := r3 j c hj
                rw [List.getElem?_eq_getElem (by omega)] at g5 r4
                exact ⟨_, g5, r4, r5⟩
              obtain ⟨rows, w1, w2⟩ := exists_list hrow
              refine one (nl := false) (rows := rows) rfl (by simp) (by omega) (fun row hr => ?_) ?_
              · obtain ⟨i, hi, rfl⟩ := List.getElem_of_mem hr
                exact (w2 i _ (List.getElem?_eq_getElem hi)).1
              · obtain ⟨b, o, s⟩ := a
                simp only at hs hlt
                subst hs
                refine .sl (sz := P.cellsOf e) (fun i j => (W.cell? ⟨b, o + (i * P.cellsOf e + j), none⟩).getD undef) trivial hlt w1.symm (by simp) (by omega) ?_ ?_ ?_ ?_
                · intro i row hi
                  rw [(w2 i row hi).1.len, hc1]
                · intro i row hi j c hj
                  obtain ⟨v, q1, q2, q3⟩ := (w2 i row hi).2 j c hj
                  simp only at q1
                  rw [q1]; rfl
                · intro i row hi j c hj
                  obtain ⟨v, q1, q2, q3⟩ := (w2 i row hi).2 j c hj
                  exact q3
                · intro i row hi j c hj
                  obtain ⟨v, q1, q2, q3⟩ := (w2 i row hi).2 j c hj
                  simp only at q1
                  rw [q1]; exact q2
        · simp at h
      · simp at h
    · rename_i fs hk
      split at h
      · rename_i l hl
        split at h
        · rename_i hc
          simp only [Option.some.injEq] at h
          subst h
          obtain ⟨xs, q, _, _, hlen, hxl, hf⟩ := DataW.trod_struct hk ht
          have go : ∀ (fl : List Field) (o : Nat) (shs : List Sh), shFs P (shT P n) o fl = some shs → (∀ f ∈ fl, ∃ y, DataW.trod enc P W 0 (fun _ => true) true q f.type ((cs.drop f.offset).take (P.cellsOf f.type)) = some y) → o + shs.length ≤ cs.length →
              ∃ m, FitL shs m ∧ ∀ (i : Nat) (c : C), m[i]? = some c → PR anyG W c (cs[o + i]?.getD undef) ∧ c.cell = true := by
            intro fl
            induction fl with
            | nil =>
              intro o shs h1 _ _
              simp only [shFs, Option.some.injEq] at h1
              subst h1
              exact ⟨[], rfl, by simp⟩
            | cons f fl ih =>
              intro o shs h1 h2 h3
              unfold shFs at h1
              split at h1
              · rename_i l1 l2 e1 e2
                split at h1
                · rename_i hc2
                  obtain ⟨ho, hl1⟩ := hc2
                  simp only [Option.some.injEq] at h1
                  subst h1
                  simp only [List.length_append] at h3
                  obtain ⟨y, hy⟩ := h2 f (by simp)
                  obtain ⟨m1, p1, p2, p3⟩ := open_sound n e1 hy
                  obtain ⟨m2, p4, p5⟩ := ih (o + P.cellsOf f.type) l2 e2 (fun g hg => h2 g (by simp [hg])) (by omega)
                  have hm1 := p1.len
                  refine ⟨m1 ++ m2, p1.append p4, fun i c hi => ?_⟩
                  rcases Nat.lt_or_ge i m1.length with hlt | hge
                  · rw [List.getElem?_append_left hlt] at hi
                    have := p3 i c hi
                    rw [List.getElem?_take_of_lt (by omega), List.getElem?_drop, ho] at this
                    exact this
                  · rw [List.getElem?_append_right hge] at hi
                    have := p5 _ c hi
                    rw [show o + P.cellsOf f.type + (i - m1.length) = o + i by omega] at this
                    exact this
                · simp at h1
              · simp at h1
          obtain ⟨m, m1, m2⟩ := go fs.toList 0 l hl (fun f hfm => by
            obtain ⟨i, hi, rfl⟩ := List.getElem_of_mem hfm
            have := hf i fs.toList[i] (by simp)
            rw [List.getElem?_eq_getElem (by simp at hi; omega)] at this
            exact ⟨_, this⟩) (by omega)
          exact ⟨m, m1, by rw [m1.len]; omega, fun i c hi => by have := m2 i c hi; rwa [Nat.zero_add] at this⟩
        · simp at h
      · simp at h
    · simp at h

def isAggT (P : Program) (t : TypeId) : Bool :=
 match P.underlying t with
 | some (.struct _) => true
 | _ => false

/-- What the parameters stand for. -/
def ArgsFit (P : Program) : List TypeId → List C → Prop
  | [], cs => cs = []
  | t :: ts, cs => ∃ shs m c r, cs = c :: r ∧ shT P 9 t = some shs ∧ FitL shs m ∧ (if isAggT P t then c = .agg m else m = [c]) ∧ ArgsFit P ts r

theorem open_args : ∀ {ts : List TypeId} {vs : List Value} {ds : List (DataW H)} {ps : List MemPlace}, DataW.TrodAll enc P W 0 (fun _ => true) true ts vs ds ps →
  (∀ (j : Nat) t v, ts[j]? = some t → vs[j]? = some v → ∃ base, Value.okWide P W .any base t v) → (ts.all fun t => (shT P 9 t).isSome) = true →
  ∃ cargs, ArgsFit P ts cargs ∧ cargs.length = vs.length ∧ ∀ (i : Nat) (c : C), cargs[i]? = some c → PR anyG W c (vs[i]?.getD undef)
 | [], [], [], _, _, _, _ => ⟨[], rfl, rfl, by simp⟩
 | t :: ts, v :: vs, d :: ds, ps, h, hv, hs => by
  obtain ⟨p, q, ⟨fuel, h1⟩, h2, _⟩ := h
  simp only [List.all_cons, Bool.and_eq_true] at hs
  obtain ⟨hs1, hs2⟩ := hs
  rw [Option.isSome_iff_exists] at hs1
  obtain ⟨shs, hs1⟩ := hs1
  obtain ⟨m, m1, m2, m3⟩ := open_sound 9 hs1 h1
  obtain ⟨cargs, a1, a2, a3⟩ := open_args h2 (fun j t' v' e1 e2 => hv (j + 1) t' v' (by simpa using e1) (by simpa using e2)) hs2
  obtain ⟨base, hok⟩ := hv 0 t v rfl rfl
  have fin : ∀ c, (if isAggT P t then c = .agg m else m = [c]) → PR anyG W c v → ∃ cargs, ArgsFit P (t :: ts) cargs ∧ cargs.length = (v :: vs).length ∧ ∀ (i : Nat) (c : C), cargs[i]? = some c → PR anyG W c ((v :: vs)[i]?.getD undef) := by
   intro c hc hp
   refine ⟨c :: cargs, ⟨shs, m, c, cargs, rfl, hs1, m1, hc, a1⟩, by simp [a2], fun i c' hi => ?_⟩
   cases i with
   | zero => simp at hi; subst hi; simpa using hp
   | succ i => simp at hi ⊢; exact a3 i c' hi
  by_cases hag : isAggT P t = true
  ·have hag0 := hag
   unfold isAggT at hag
   split at hag
   ·rename_i fs hfs
    obtain ⟨cs, rfl, hcs⟩ := okWide_struct hfs hok
    refine fin (.agg m) (by rw [if_pos hag0]) (.agg (by rw [m2]; simp [Value.cells]) fun i c hi => ?_)
    have := (m3 i c hi).1
    simpa [Value.cells] using this
   ·simp at hag
  ·have hag0 := hag
   have hone : ∃ sh, shs = [sh] ∧ oneCell v = true := by
    unfold isAggT at hag
    unfold shT at hs1
    split at hs1
    ·rename_i k hk
     obtain ⟨n, rfl⟩ := okWide_int hk hok
     exact ⟨_, (by simpa using hs1.symm), rfl⟩
    ·rename_i hk
     obtain ⟨n, rfl⟩ := okWide_bool hk hok
     exact ⟨_, (by simpa using hs1.symm), rfl⟩
    ·rename_i hk
     obtain ⟨n, rfl⟩ := okWide_string hk hok
     exact ⟨_, (by simpa using hs1.symm), rfl⟩
    ·rename_i e hk
     obtain ⟨a, l, cp, rfl⟩ := okWide_slice hk hok
     split at hs1
     ·split at hs1
      ·exact ⟨_, (by simpa using hs1.symm), rfl⟩
      ·simp at hs1
     ·simp at hs1
    ·rename_i fs hk
     rw [hk] at hag; simp at hag
    ·simp at hs1
   obtain ⟨sh, rfl, hov⟩ := hone
   have hm := m1.len
   have hm1 : m.length = 1 := hm
   obtain ⟨c, rfl⟩ := List.length_eq_one_iff.1 hm1
   refine fin c (by rw [if_neg hag0]) ?_
   have := (m3 0 c rfl).1
   rw [cells_one hov] at this
   simpa using this
 | [], _ :: _, _, _, h, _, _ => h.elim
 | [], [], _ :: _, _, h, _, _ => h.elim
 | _ :: _, [], _, _, h, _, _ => h.elim
 | _ :: _, _ :: _, [], _, h, _, _ => h.elim

/-- No slice of things without size. -/
def noEmptyB (P : Program) : Bool := (List.range P.types.size).all fun t => match P.underlying t with
  | some (.slice e) => decide (0 < P.cellsOf e)
  | _ => true

theorem same_of {W' : World} (g : Grew W W') {p : MemPlace} (h : p.block < W.heap.size) : W.sameAt W' p := by
 cases p with
 | cell b off =>
  show W'.cell? _ = W.cell? _
  unfold World.cell?
  rw [g.heap b h]
 | map b => exact g.heap b h

theorem shut_args {W' : World} (hl : laidOutB P = true) (hm : mapsRowed P = true) (hz : noEmptyB P = true) (g : Grew W W') {sp : Nat → Bool} : ∀ {ts : List TypeId} {vs : List Value} {ds : List (DataW H)} {ps : List MemPlace},
  (ts.all fun t => decide (t < P.types.size)) = true → DataW.TrodAll enc P W 0 (fun _ => true) true ts vs ds ps → (∀ p ∈ ps, p.block < W.heap.size) → (∀ p ∈ ps, sp p.block = true) → DataW.TrodAll enc P W' 0 sp true ts vs ds ps
 | [], [], [], _, _, h, _, _ => h
 | t :: ts, v :: vs, d :: ds, ps, ht, h, hb, hs => by
  obtain ⟨p, q, ⟨fuel, h1⟩, h2, rfl⟩ := h
  simp only [List.all_cons, Bool.and_eq_true, decide_eq_true_eq] at ht
  refine ⟨p, q, ⟨fuel, ?_⟩, shut_args hl hm hz g ht.2 h2 (fun r hr => hb r (by simp [hr])) (fun r hr => hs r (by simp [hr])), rfl⟩
  refine DataW.trod_stays (T := (· < P.types.size)) (kids_rows hl hm) (fun {t e} h3 h4 => ?_) (fun h => by simp at h) ht.1 h1 (fun r hr => same_of g (hb r (by simp; exact .inl hr))) (fun r hr => hs r (by simp; exact .inl hr))
  unfold noEmptyB at hz
  rw [List.all_eq_true] at hz
  have := hz t (by simpa using h3)
  rw [h4] at this
  simpa using this
 | [], _ :: _, _, _, _, h, _, _ => h.elim
 | [], [], _ :: _, _, _, h, _, _ => h.elim
 | _ :: _, [], _, _, _, h, _, _ => h.elim
 | _ :: _, _ :: _, [], _, _, h, _, _ => h.elim

theorem kept_of {W' : World} (g : Grew W W') (may : MemPlace → Prop) : W.keptBut W' may := by
 refine ⟨g.os, g.output, fun i hi => ?_⟩
 rw [g.heap i hi]
 cases h : W.heap[i]? with
 | none => trivial
 | some o => cases o <;> simp

/-- A LAW's STATEMENT, from a contract of data. -/
theorem law_contract {f : FuncId} {fn : Func} {s : ChangeSpec} {tb : TypeId} (hrt : fn.resultTypes = #[tb]) (htb : P.underlying tb = some .bool) (hvars : s.vars = [])
    (hspec : ∀ (ds : List (DataW H)), ds.length = fn.params.toList.length → s.fn H ds = { results := [.lit (.bool true)], args := ds })
    (hl : laidOutB P = true) (hm : mapsRowed P = true) (hz : noEmptyB P = true) (ht : (fn.params.toList.all fun t => decide (t < P.types.size)) = true) (hsh : (fn.params.toList.all fun t => (shT P 9 t).isSome) = true)
    (hcall : ∀ cargs, ArgsFit P fn.params.toList cargs → Pure P f cargs (.bool true))
    (W : World) (hgk : Gk P W) (base : Nat) (args : Array Value) (ds gs : List (DataW H)) (before : List MemPlace) (hval : ∀ (j : Nat) t v, fn.params[j]? = some t → args[j]? = some v → Value.okWide P W .any base t v)
    (hW : DataW.Whole enc P fn.params.toList s.vars false W args.toList ds gs before) :
    Calls P f args W fun e W' => ∃ v, e = .returned v ∧ s.post enc P fn false true false false W args v W' := by
  have hW' := hW
  obtain ⟨p, q, hA, hV, rfl, hfz, hnd⟩ := hW
  rw [hvars] at hV
  obtain ⟨rfl, rfl⟩ := trodVars_none hV
  obtain ⟨cargs, c1, c2, c3⟩ := open_args hA (fun j t v e1 e2 => ⟨base, hval j t v (by simpa using e1) (by simpa using e2)⟩) hsh
  have hlen : ds.length = fn.params.toList.length := by
    have : ∀ {ts : List TypeId} {vs : List Value} {ds : List (DataW H)} {ps : List MemPlace}, DataW.TrodAll enc P W 0 (fun _ => true) true ts vs ds ps → ds.length = ts.length := by
      intro ts
      induction ts with
      | nil => intro vs ds ps h; cases vs <;> cases ds <;> first | rfl | exact h.elim
      | cons t ts ih =>
        intro vs ds ps h
        cases vs with
        | nil => exact h.elim
        | cons v vs =>
          cases ds with
          | nil => exact h.elim
          | cons d ds =>
            obtain ⟨_, _, _, h2, _⟩ := h
            simp [ih h2]
    exact this hA
  refine ((hcall cargs c1).calls anyG W args hgk ⟨by simpa using c2.symm, fun i c hi => by have := c3 i c hi; simpa using this⟩).mono ?_
  rintro e W' ⟨v, rfl, hr, g⟩
  cases hr
  refine ⟨_, rfl, ds, [], p, [], p, [], ?_, ?_, ?_, ?_, kept_of g _, by simp⟩
  · simpa using hW'
  · rw [hspec (ds ++ []) (by simpa using hlen), hrt]
    refine ⟨[], [], ⟨1, ?_⟩, rfl, rfl⟩
    simp [DataW.trod, htb, Value.cells]
  · rw [hspec (ds ++ []) (by simpa using hlen)]
    simp only [List.append_nil]
    have hlt := hW'.lt
    exact shut_args hl hm hz g ht hA (fun r hr => hlt r (by simpa using hr)) (fun r hr => by simpa using hlt r (by simpa using hr))
  · rw [hvars, hspec (ds ++ []) (by simpa using hlen)]
    rfl
end
end Go.Abs

namespace Go.Proofs.YtgnpcijgdhjfpaaGreatDoor
open Go Go.Abs

set_option maxHeartbeats 2000000
set_option maxRecDepth 100000

-- cards: what comes in

theorem S_inv (s : ByteArray) : ∃ l, s = S l := ⟨s.data.toList, by simp [S]⟩

theorem rows_map {α : Type} {f : α → List C} : ∀ {rows : List (List C)}, (∀ row ∈ rows, ∃ a, row = f a) → ∃ l : List α, rows = l.map f
 | [], _ => ⟨[], rfl⟩
 | r :: rows, h => by
  obtain ⟨a, rfl⟩ := h r (by simp)
  obtain ⟨l, rfl⟩ := rows_map (rows := rows) fun x hx => h x (by simp [hx])
  exact ⟨a :: l, rfl⟩

theorem arg_one {t : TypeId} {s : List Sh} (hs : shT Tryz.prog 9 t = some s) (ha : isAggT Tryz.prog t = false) {cs : List C} {ts : List TypeId} (h : ArgsFit Tryz.prog (t :: ts) cs) : ∃ (c : C) (r : List C), cs = c :: r ∧ FitL s [c] ∧ ArgsFit Tryz.prog ts r := by
 simp only [ArgsFit] at h
 obtain ⟨shs, m, c, r, rfl, h1, h2, h3, h4⟩ := h
 rw [hs] at h1
 cases h1
 rw [ha] at h3
 simp only [Bool.false_eq_true, if_false] at h3
 subst h3
 exact ⟨c, r, rfl, h2, h4⟩

theorem sh22 : shT Tryz.prog 9 22 = some [.sl [.str]] := by kernel_rfl
theorem ag22 : isAggT Tryz.prog 22 = false := by kernel_rfl

theorem fit_str {row : List C} (h : FitL [.str] row) : ∃ l, row = cS l := by
 simp only [FitL, Fit] at h
 obtain ⟨c, r, rfl, ⟨s, rfl, _⟩, rfl⟩ := h
 obtain ⟨l, rfl⟩ := S_inv s
 exact ⟨l, rfl⟩

theorem argT {cs : List C} {ts : List TypeId} (h : ArgsFit Tryz.prog (22 :: ts) cs) : ∃ nl L r, cs = sT nl false L :: r ∧ ArgsFit Tryz.prog ts r := by
 obtain ⟨c, r, rfl, h1, h2⟩ := arg_one sh22 ag22 h
 simp only [FitL, Fit] at h1
 obtain ⟨c', r', e, ⟨nl, rows, rfl, _, _, h5⟩, rfl⟩ := h1
 cases e
 obtain ⟨L, rfl⟩ := rows_map (f := cS) fun row hr => fit_str (h5 row hr)
 exact ⟨nl, L, r, rfl, h2⟩

theorem argEnd {cs : List C} (h : ArgsFit Tryz.prog [] cs) : cs = [] := h

end Go.Proofs.YtgnpcijgdhjfpaaGreatDoor

/- The facts of the program that every statement's join asks. No condition. -/
namespace Go.Proofs.YtgnpcijgdhjfpaaGreatDoor
open Go Go.Abs
open Go.ChangeShapes Go.WideShapes Go.ChangeAt Go.RowKit
set_option maxRecDepth 100000

theorem J.own : ownKnob Tryz.prog.godebug = none := by kernel_rfl
theorem J.laid : laidOutB Tryz.prog = true := by kernel_rfl
theorem J.maps : mapsRowed Tryz.prog = true := by kernel_rfl
theorem J.sized : noEmptyB Tryz.prog = true := by kernel_rfl
theorem J.ub : Tryz.prog.underlying 4 = some .bool := by kernel_rfl
theorem J.bld : Tryz.prog.buildable 3 = true := by kernel_rfl
theorem J.max0 : ((begin Tryz.prog (fun _ _ => 0) default).world.heap[0]?).bind Obj.row? = some (#[.int .i64 0], 3) := by kernel_rfl
theorem J.nglob : 0 < Tryz.prog.globals.size := of_decide_eq_true (by kernel_rfl)
theorem J.ct3 : Tryz.prog.cellTypes Tryz.prog.depth 3 = some [3] := by kernel_rfl
theorem J.ui : Tryz.prog.underlying 3 = some (.int .i64) := by kernel_rfl

/-- What the walks ask of a world. -/
theorem J.gk {W : World} (h : W.ShapedOpen Tryz.prog) : Gk Tryz.prog W := by
  intro g hg
  obtain rfl : 0 = g := Option.some.inj hg
  exact cell_of_shapedOpen_int h J.nglob J.max0 rfl J.bld J.ct3 J.ui

/-- A world for the witness: the settled one, with what the initialisers lay in the listed variables. -/
noncomputable def laidAt (b : Nat) (cs : Array Value) (h : Array Obj) : Array Obj := h.modify b fun
  | .cells _ t frozen => .cells cs t frozen
  | o => o
def acR : List Int := [128, 191, 160, 191, 128, 159, 144, 191, 128, 143, 0, 0, 0, 0, 0, 0, 0, 0, 0, 0, 0, 0, 0, 0, 0, 0, 0, 0, 0, 0, 0, 0]

noncomputable def laidWorld (os : Os) : World :=
 let w0 := World.holding Tryz.prog os ⟨#[], #[], []⟩
 { w0 with heap := laidAt 2 (acR.map (Value.int .u8)).toArray (laidAt 1 (Go.Pinned.utf8FirstZ.map fun (n : Nat) => Value.int .u8 n).toArray w0.heap) }
end Go.Proofs.YtgnpcijgdhjfpaaGreatDoor

namespace Go.Proofs.YtgnpcijgdhjfpaaGreatDoor
open Go Go.Abs

set_option maxHeartbeats 2000000
set_option maxRecDepth 100000

-- cards: what comes in, further

theorem arg_agg {t : TypeId} {s : List Sh} (hs : shT Tryz.prog 9 t = some s) (ha : isAggT Tryz.prog t = true) {cs : List C} {ts : List TypeId} (h : ArgsFit Tryz.prog (t :: ts) cs) : ∃ (m r : List C), cs = .agg m :: r ∧ FitL s m ∧ ArgsFit Tryz.prog ts r := by
 simp only [ArgsFit] at h
 obtain ⟨shs, m, c, r, rfl, h1, h2, h3, h4⟩ := h
 rw [hs] at h1
 cases h1
 rw [ha, if_pos rfl] at h3
 subst h3
 exact ⟨m, r, rfl, h2, h4⟩

theorem fit_int {l : List Sh} {m : List C} (h : FitL (.int .i64 :: l) m) : ∃ (n : Int) (r : List C), m = encI n :: r ∧ FitL l r := by
 simp only [FitL, Fit] at h
 obtain ⟨c, r, rfl, ⟨n, rfl, _⟩, h2⟩ := h
 exact ⟨n, r, rfl, h2⟩
theorem fit_ints {l : List Sh} {m : List C} (h : FitL (.sl [.int .i64] :: l) m) : ∃ (nl : Bool) (A : List Int) (r : List C), m = .sl nl false (A.map cI) :: r ∧ FitL l r := by
 simp only [FitL, Fit] at h
 obtain ⟨c, r, rfl, ⟨nl, rows, rfl, _, _, h5⟩, h6⟩ := h
 obtain ⟨A, rfl⟩ := rows_map (f := cI) fun row hr => by
  obtain ⟨n, q, rfl, hq⟩ := fit_int (l := []) (h5 row hr)
  simp only [FitL] at hq
  subst hq
  exact ⟨n, rfl⟩
 exact ⟨nl, A, r, rfl, h6⟩
theorem fit_strs {l : List Sh} {m : List C} (h : FitL (.str :: l) m) : ∃ (s : List UInt8) (r : List C), m = encS s :: r ∧ FitL l r := by
 simp only [FitL, Fit] at h
 obtain ⟨c, r, rfl, ⟨s, rfl, _⟩, h2⟩ := h
 obtain ⟨l, rfl⟩ := S_inv s
 exact ⟨l, r, rfl, h2⟩

theorem sh45 : shT Tryz.prog 9 45 = some [.int .i64, .sl [.int .i64], .str] := by kernel_rfl
theorem ag45 : isAggT Tryz.prog 45 = true := by kernel_rfl

theorem argMix {cs : List C} {ts : List TypeId} (h : ArgsFit Tryz.prog (45 :: ts) cs) : ∃ (b : Int) (nl : Bool) (tw : List Int) (st : List UInt8) (r : List C), cs = .agg [encI b, .sl nl false (tw.map cI), encS st] :: r ∧ ArgsFit Tryz.prog ts r := by
 obtain ⟨m, r, rfl, h1, h2⟩ := arg_agg sh45 ag45 h
 obtain ⟨b, m1, rfl, h3⟩ := fit_int h1
 obtain ⟨nl, tw, m2, rfl, h4⟩ := fit_ints h3
 obtain ⟨st, m3, rfl, h5⟩ := fit_strs h4
 simp only [FitL] at h5
 subst h5
 exact ⟨b, nl, tw, st, r, rfl, h2⟩

end Go.Proofs.YtgnpcijgdhjfpaaGreatDoor

