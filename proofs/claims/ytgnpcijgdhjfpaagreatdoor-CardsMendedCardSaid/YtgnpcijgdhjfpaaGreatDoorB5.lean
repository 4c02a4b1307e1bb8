/- The machine of abstract values and the contracts of the functions of the program, which the statements of this seat share. No condition. -/
import Derived.Test.YtgnpcijgdhjfpaaGreatDoorB4

set_option linter.unusedSimpArgs false
set_option linter.unusedVariables false
set_option linter.constructorNameAsVariable false

namespace Go.Proofs.YtgnpcijgdhjfpaaGreatDoor
open Go Go.Abs

set_option maxHeartbeats 4000000
set_option maxRecDepth 20000


def fam (m : Nat) (g : Nat → List UInt8) : List (List UInt8) := (List.range m).map g

theorem fam_congr {m : Nat} {g h : Nat → List UInt8} (e : ∀ i, i < m → g i = h i) : fam m g = fam m h := List.map_congr_left fun i hi => e i (List.mem_range.1 hi)
theorem fam_at {m : Nat} {g : Nat → List UInt8} {i : Nat} (hi : i < m) : (fam m g).getD i [] = g i := by
 unfold fam
 simp [List.getD_eq_getElem?_getD, hi]

theorem fam_set {m : Nat} {g : Nat → List UInt8} {z : Nat} (v : List UInt8) : (fam m g).set z v = fam m fun i => if i = z then v else g i := by
 unfold fam
 refine List.ext_getElem (by simp) fun i h1 h2 => ?_
 simp only [List.getElem_set, List.getElem_map, List.getElem_range]
 by_cases h : z = i
 ·rw [if_pos h, if_pos h.symm]
 ·rw [if_neg h, if_neg fun e => h e.symm]

theorem rowsP_fam (T ls : List (List UInt8)) : rowsP T ls = fam T.length fun i => if cardAt T i ∈ ls then rowB (T.getD i []) (longB T) else [] := rfl
theorem rowsB_fam (T : List (List UInt8)) : rowsB T = fam T.length fun i => rowB (T.getD i []) (longB T) := by
 unfold rowsB fam
 refine List.ext_getElem (by simp) fun i h1 h2 => ?_
 have : i < T.length := by simpa using h1
 simp [List.getD_eq_getElem?_getD, List.getElem?_eq_getElem this]

theorem val_byte {T : List (List UInt8)} (h : PackOk T) {k i : Nat} (hi : i < T.length) (hk : k < longB T + 2) : (rowB (T.getD i []) (longB T)).take k ++ [UInt8.ofNat (valR T k i + 32).toNat] = (rowB (T.getD i []) (longB T)).take (k + 1) := by
 have hl := (row_at_ok h hi).1
 have hk' : k < (rowB (T.getD i []) (longB T)).length := by omega
 have hv := valR_bd h hi hk
 rw [List.take_succ_eq_append_getElem hk']
 congr 2
 have e : atB (rowsB T) i k = (rowB (T.getD i []) (longB T))[k] := by
  unfold atB
  rw [rows_at hi, List.getD_eq_getElem?_getD, List.getElem?_eq_getElem hk', Option.getD_some]
 have e2 : (valR T k i + 32).toNat = (atB (rowsB T) i k).toNat := by
  unfold valR valB at hv ⊢
  omega
 rw [e2, e]
 simp

theorem add_fam {T ls : List (List UInt8)} {s : HS} (h : PackOk T) (hi : HI T ls s) (hs : (missB s.rows).length ≤ sumsN s) {k : Nat} (hk : k < longB T + 2) : ∀ n, n ≤ (missB s.rows).length →
  addTo s (foundB s k) (fam T.length fun i => if cardAt T i ∈ ls then rowB (T.getD i []) (longB T) else (rowB (T.getD i []) (longB T)).take k) n =
   fam T.length fun i => if cardAt T i ∈ ls then rowB (T.getD i []) (longB T) else if ∃ j, j < n ∧ lostAt s j = i then (rowB (T.getD i []) (longB T)).take (k + 1) else (rowB (T.getD i []) (longB T)).take k
 | 0, _ => by
  simp only [addTo]
  refine fam_congr fun i _ => ?_
  split
  ·rfl
  ·rw [if_neg (by rintro ⟨j, hj, _⟩; omega)]
 | n + 1, hn => by
  have ih := add_fam h hi hs hk n (by omega)
  have hu : sumsN s ≤ 2 := by unfold sumsN nzN; split <;> split <;> omega
  obtain ⟨l1, l2⟩ := lost_lt (s := s) (k := n) (by omega)
  have hlm : lostAt s n < T.length := by rw [hi.rows, rowsP_len] at l1; exact l1
  have hnc : cardAt T (lostAt s n) ∉ ls := by
   have hm : (lostAt s n : Int) ∈ missB s.rows := by rw [← l2]; exact List.getElem_mem _
   unfold missB missTo at hm
   obtain ⟨z, hz, e⟩ := List.mem_map.1 hm
   have e : z = lostAt s n := Int.ofNat.inj e
   subst e
   have := (List.mem_filter.1 hz).2
   rw [hi.rows] at this
   exact (rowsP_nil h hlm).1 (by simpa using this)
  have hv : (foundB s k).getD n 0 = valR T k (lostAt s n) := by
   rw [found_eq h hi hs hk, List.getD_eq_getElem?_getD, List.getElem?_map, List.getElem?_eq_getElem (by omega), l2]
   simp
  simp only [addTo]
  rw [ih]
  unfold setB
  rw [hv, fam_at hlm, fam_set]
  refine fam_congr fun i hil => ?_
  by_cases e : i = lostAt s n
  ·subst e
   have hno : ¬ ∃ j, j < n ∧ lostAt s j = lostAt s n := by
    rintro ⟨j, hj, he⟩
    have h2 : (missB s.rows).length = 2 := by omega
    have := lost_asc h2
    obtain rfl : j = 0 := by omega
    obtain rfl : n = 1 := by omega
    omega
   rw [if_pos rfl, if_neg hnc, if_neg hno, if_neg hnc, if_pos ⟨n, by omega, rfl⟩]
   exact val_byte h hlm hk
  ·rw [if_neg e]
   have : (∃ j, j < n + 1 ∧ lostAt s j = i) ↔ ∃ j, j < n ∧ lostAt s j = i := by
    constructor
    ·rintro ⟨j, hj, he⟩
     by_cases hjn : j = n
     ·subst hjn; exact absurd he.symm e
     ·exact ⟨j, by omega, he⟩
    ·rintro ⟨j, hj, he⟩; exact ⟨j, by omega, he⟩
   simp only [this]

theorem fill_fam {T ls : List (List UInt8)} {s : HS} (h : PackOk T) (hi : HI T ls s) (hs : (missB s.rows).length ≤ sumsN s) : ∀ k, k ≤ longB T + 2 →
  fillTo s k = fam T.length fun i => if cardAt T i ∈ ls then rowB (T.getD i []) (longB T) else (rowB (T.getD i []) (longB T)).take k
 | 0, _ => by
  simp only [fillTo, hi.rows, rowsP_fam, List.take_zero]
 | k + 1, hk => by
  simp only [fillTo]
  rw [fill_fam h hi hs k (by omega), found_len hs, add_fam h hi hs (by omega) _ (Nat.le_refl _)]
  refine fam_congr fun i hil => ?_
  by_cases hc : cardAt T i ∈ ls
  ·rw [if_pos hc, if_pos hc]
  ·rw [if_neg hc, if_neg hc, if_pos]
   exact miss_has (by rw [hi.rows, rowsP_len]; exact hil) (by rw [hi.rows]; exact (rowsP_nil h hil).2 hc)

theorem fill_all {T ls : List (List UInt8)} {s : HS} (h : PackOk T) (hi : HI T ls s) : fillB s = if sumsN s < (missB s.rows).length then none else some (rowsB T) := by
 unfold fillB
 by_cases hs : sumsN s < (missB s.rows).length
 ·rw [if_pos hs, if_pos hs]
 ·rw [if_neg hs, if_neg hs, hi.long]
  have hs' : (missB s.rows).length ≤ sumsN s := by omega
  rw [if_pos]
  ·rw [Int.toNat_natCast, fill_fam h hi hs' _ (Nat.le_refl _), rowsB_fam]
   refine congrArg some (fam_congr fun i hil => ?_)
   split
   ·rfl
   ·exact List.take_of_length_le (by rw [(row_at_ok h hil).1]; omega)
  ·rw [List.all_eq_true]
   intro k hk
   have hk := List.mem_range.1 hk
   rw [Int.toNat_natCast] at hk
   unfold okF
   rw [found_eq h hi hs' hk, List.all_eq_true]
   intro v hv
   obtain ⟨z, hz, rfl⟩ := List.mem_map.1 hv
   obtain ⟨j, hj, rfl⟩ := List.getElem_of_mem hz
   obtain ⟨l1, l2⟩ := lost_lt hj
   rw [hi.rows, rowsP_len] at l1
   rw [l2]
   exact decide_eq_true (valR_bd h l1 hk).2

theorem textOf_row {T : List (List UInt8)} (h : PackOk T) {t : List UInt8} (ht : t ∈ T) : textOfB (rowB t (longB T)) = some t ∧ textB t = true := by
 obtain ⟨h1, h2, _⟩ := h.rows
 have htl := h2 t ht
 have hx := h.text t ht
 refine ⟨?_, hx⟩
 have hr : rowB t (longB T) = twoB t.length ++ (t ++ List.replicate (longB T - t.length) 32) := by simp [rowB]
 have hd := (dig_plain (twoB_pl (by omega : t.length < 100))).2
 have htk : (rowB t (longB T)).take 2 = twoB t.length := by rw [hr]; exact List.take_left' rfl
 have hn : numAt (rowB t (longB T)) = t.length := by
  rw [hr]
  unfold numAt twoB
  simp only [List.cons_append, List.getD_cons_zero, List.getD_cons_succ, UInt8.toNat_ofNat']
  omega
 have hlen : (rowB t (longB T)).length = longB T + 2 := by
  rw [hr]; simp [twoB]; omega
 unfold textOfB
 rw [htk, hd, if_pos rfl, hn, hlen, if_pos (by omega)]
 congr 1
 rw [hr, show 2 + t.length = (twoB t.length).length + t.length by rfl, List.take_length_add_append, List.take_left' rfl]
 exact List.drop_left' rfl

theorem texts_rows {T : List (List UInt8)} (h : PackOk T) : textsOf (rowsB T) = some T := by
 rw [textsOf_ok]
 ·congr 1
  unfold rowsB
  rw [List.map_map]
  conv => rhs; rw [← List.map_id T]
  refine List.map_congr_left fun t ht => ?_
  simp only [Function.comp, (textOf_row h ht).1, Option.getD_some, id]
 ·intro r hr
  unfold rowsB at hr
  obtain ⟨t, ht, rfl⟩ := List.mem_map.1 hr
  exact ⟨t, (textOf_row h ht).1, (textOf_row h ht).2⟩

def missL (T ls : List (List UInt8)) : List Int := ((List.range T.length).filter fun i => decide (cardAt T i ∉ ls)).map Int.ofNat
def knowN (T ls : List (List UInt8)) : Nat := (if sumL T false ∈ ls then 1 else 0) + if sumL T true ∈ ls then 1 else 0

theorem miss_HI {T ls : List (List UInt8)} {s : HS} (h : PackOk T) (hi : HI T ls s) : missB s.rows = missL T ls ∧ sumsN s = knowN T ls := by
 have hA : ∀ wt, sumR T wt ≠ [] := fun wt e => by have := (sumR_ok h wt).1; rw [e] at this; simp at this
 constructor
 ·unfold missB missTo missL
  rw [hi.rows, rowsP_len]
  congr 1
  refine List.filter_congr fun i hil => ?_
  have hil := List.mem_range.1 hil
  rw [Bool.eq_iff_iff, beq_iff_eq, decide_eq_true_eq]
  exact rowsP_nil h hil
 ·unfold sumsN knowN nzN
  rw [hi.a, hi.b]
  unfold sumP
  have e : ∀ wt, (if (if sumL T wt ∈ ls then sumR T wt else []) = [] then 0 else 1) = if sumL T wt ∈ ls then 1 else 0 := by
   intro wt
   by_cases hc : sumL T wt ∈ ls
   ·rw [if_pos hc, if_pos hc, if_neg (hA wt)]
   ·rw [if_neg hc, if_neg hc, if_pos rfl]
  rw [e, e]

theorem strange_Sub {T ls : List (List UInt8)} : strange T ls = false ↔ Sub ls T := by
 unfold strange Sub
 rw [List.any_eq_false]
 constructor
 ·intro h l hl hp
  have := h l hl
  rw [hp] at this
  simp only [Bool.true_and, Bool.not_eq_true, Bool.not_eq_false', List.any_eq_true, beq_iff_eq] at this
  obtain ⟨c, hc, rfl⟩ := this
  exact hc
 ·intro h l hl
  cases hp : parseOk l
  ·simp
  ·have := h l hl hp
   simp only [Bool.true_and, Bool.not_eq_true, Bool.not_eq_false', List.any_eq_true, beq_iff_eq]
   exact ⟨l, this, rfl⟩

theorem unpack_sub {T ls : List (List UInt8)} (h : PackOk T) (hs : Sub ls T) (hg : ∃ l ∈ ls, parseOk l = true) : unpackB ls = if knowN T ls < (missL T ls).length then none else some (T, missL T ls) := by
 obtain ⟨h1, hi⟩ := srt_all h hs hg
 obtain ⟨m1, m2⟩ := miss_HI h hi
 unfold unpackB
 rw [if_pos h1, fill_all h hi, m1, m2]
 split
 ·rename_i R hq
  split at hq
  ·cases hq
  ·rename_i hk
   cases hq
   rw [if_neg hk, texts_rows h]
   simp only
   rw [strange_Sub.2 hs, if_neg (by simp)]
 ·rename_i hq
  split at hq
  ·rename_i hk; rw [if_pos hk]
  ·cases hq

set_option maxHeartbeats 4000000
set_option maxRecDepth 20000


abbrev Ls := List (List UInt8)
def cutS : List UInt8 → List Ls → Ls → List UInt8 → List Ls × Bool
 | [], out, pack, line => (out, decide (pack = [] ∧ line = []))
 | c :: r, out, pack, line =>
  if c = 10 then (if line ≠ [] then cutS r out (pack ++ [line]) [] else if pack = [] then ([], false) else cutS r (out ++ [pack]) [] []) else cutS r out pack (line ++ [c])
def cutV (l : List UInt8) : List Ls × Bool := cutS l [] [] []
def packL (p : Ls) : List UInt8 := p.flatMap lineB ++ [10]
def wrL (P : List Ls) : List UInt8 := P.flatMap packL
def LineOk (l : List UInt8) : Prop := l ≠ [] ∧ (10 : UInt8) ∉ l
def PkOk (p : Ls) : Prop := p ≠ [] ∧ ∀ l ∈ p, LineOk l
def PsOk (P : List Ls) : Prop := ∀ p ∈ P, PkOk p

theorem wrL_app (P Q : List Ls) : wrL (P ++ Q) = wrL P ++ wrL Q := by simp [wrL]

theorem cutS_inv : ∀ (l : List UInt8) (out : List Ls) (pack : Ls) (line : List UInt8) (P : List Ls), PsOk out → (∀ x ∈ pack, LineOk x) → (10 : UInt8) ∉ line → cutS l out pack line = (P, true) →
  PsOk P ∧ wrL P = wrL out ++ pack.flatMap lineB ++ line ++ l
 | [], out, pack, line, P, h1, h2, h3, h => by
  simp only [cutS, Prod.mk.injEq, decide_eq_true_eq] at h
  obtain ⟨rfl, rfl, rfl⟩ := h
  exact ⟨h1, by simp⟩
 | c :: r, out, pack, line, P, h1, h2, h3, h => by
  simp only [cutS] at h
  by_cases hc : c = 10
  ·subst hc
   rw [if_pos rfl] at h
   by_cases hl : line = []
   ·subst hl
    rw [if_neg (by simp)] at h
    by_cases hp : pack = []
    ·rw [if_pos hp] at h; simp at h
    ·rw [if_neg hp] at h
     obtain ⟨g1, g2⟩ := cutS_inv r _ [] [] P (fun p hpm => by
      rcases List.mem_append.1 hpm with hpm | hpm
      ·exact h1 p hpm
      ·simp at hpm; subst hpm; exact ⟨hp, h2⟩) (by simp) (by simp) h
     refine ⟨g1, ?_⟩
     rw [g2, wrL_app]
     simp [wrL, packL]
   ·rw [if_pos hl] at h
    obtain ⟨g1, g2⟩ := cutS_inv r out _ [] P h1 (fun x hx => by
     rcases List.mem_append.1 hx with hx | hx
     ·exact h2 x hx
     ·simp at hx; subst hx; exact ⟨hl, h3⟩) (by simp) h
    refine ⟨g1, ?_⟩
    rw [g2]
    simp [lineB]
  ·rw [if_neg hc] at h
   obtain ⟨g1, g2⟩ := cutS_inv r out pack _ P h1 h2 (by simp [h3, Ne.symm hc]) h
   refine ⟨g1, ?_⟩
   rw [g2]
   simp

theorem cutS_line : ∀ (l : List UInt8) (r : List UInt8) (out : List Ls) (pack : Ls) (line : List UInt8), (10 : UInt8) ∉ l → cutS (l ++ r) out pack line = cutS r out pack (line ++ l)
 | [], r, out, pack, line, _ => by simp
 | c :: l, r, out, pack, line, h => by
  simp only [List.mem_cons, not_or] at h
  rw [List.cons_append]
  simp only [cutS]
  rw [if_neg (Ne.symm h.1), cutS_line l r out pack (line ++ [c]) h.2]
  simp

theorem cutS_lines : ∀ (p : Ls) (r : List UInt8) (out : List Ls) (pack : Ls), (∀ l ∈ p, LineOk l) → cutS (p.flatMap lineB ++ r) out pack [] = cutS r out (pack ++ p) []
 | [], r, out, pack, _ => by simp
 | l :: p, r, out, pack, h => by
  obtain ⟨h1, h2⟩ := h l (by simp)
  have e : (l :: p).flatMap lineB ++ r = l ++ (10 :: (p.flatMap lineB ++ r)) := by simp [lineB]
  rw [e, cutS_line l _ _ _ _ h2]
  simp only [cutS, if_true]
  rw [List.nil_append, if_pos h1, cutS_lines p r out _ (fun x hx => h x (by simp [hx]))]
  simp

theorem cutS_packs : ∀ (P : List Ls) (r : List UInt8) (out : List Ls), PsOk P → cutS (wrL P ++ r) out [] [] = cutS r (out ++ P) [] []
 | [], r, out, _ => by simp [wrL]
 | p :: P, r, out, h => by
  obtain ⟨h1, h2⟩ := h p (by simp)
  have e : wrL (p :: P) ++ r = p.flatMap lineB ++ (10 :: (wrL P ++ r)) := by simp [wrL, packL]
  rw [e, cutS_lines p _ _ _ h2]
  simp only [cutS, if_true]
  rw [if_neg (by simp), List.nil_append, if_neg h1, cutS_packs P r _ (fun x hx => h x (by simp [hx]))]
  simp

theorem cutV_wr {P : List Ls} (h : PsOk P) : cutV (wrL P) = (P, true) := by
 have := cutS_packs P [] [] h
 simp only [List.append_nil, List.nil_append] at this
 unfold cutV
 rw [this]
 simp [cutS]
theorem cutV_inv {l : List UInt8} {P : List Ls} (h : cutV l = (P, true)) : PsOk P ∧ l = wrL P := by
 obtain ⟨h1, h2⟩ := cutS_inv l [] [] [] P (by intro p hp; simp at hp) (by simp) (by simp) h
 refine ⟨h1, ?_⟩
 rw [h2]; simp [wrL]

theorem wrL_end {P : List Ls} (h : PsOk P) (h0 : P ≠ []) : ∃ t, wrL P = t ++ [10, 10] := by
 obtain ⟨Q, p, rfl⟩ : ∃ Q p, P = Q ++ [p] := ⟨P.dropLast, P.getLast h0, (List.dropLast_concat_getLast h0).symm⟩
 obtain ⟨h1, h2⟩ := h p (by simp)
 obtain ⟨q, l, rfl⟩ : ∃ q l, p = q ++ [l] := ⟨p.dropLast, p.getLast h1, (List.dropLast_concat_getLast h1).symm⟩
 refine ⟨wrL Q ++ q.flatMap lineB ++ l, ?_⟩
 rw [wrL_app]
 simp [wrL, packL, lineB]

theorem occ_mid (t : List UInt8) (s r : List UInt8) : Lib.contains (t ++ s ++ r) s = true := by
 unfold Lib.contains
 rw [decide_eq_true_eq]
 refine Classical.byContradiction fun hn => ?_
 rcases Lib.index_spec (t ++ s ++ r) s with ⟨h1, h2⟩ | ⟨i, h1, _⟩
 ·have := h2 t.length (by simp)
  unfold Lib.occAt at this
  rw [List.append_assoc, List.drop_left' rfl] at this
  have h3 : s.isPrefixOf (s ++ r) = true := List.isPrefixOf_iff_prefix.2 (List.prefix_append _ _)
  rw [h3] at this; cases this
 ·omega

theorem cutS_some {L : List UInt8} (hd : L.headD 0 ≠ 10) (hc : Lib.contains L [10, 10, 10] = false) (he : ∃ t, L = t ++ [10, 10]) : ∀ (l : List UInt8) (out : List Ls) (pack : Ls) (line : List UInt8), PsOk out → (∀ x ∈ pack, LineOk x) → (10 : UInt8) ∉ line →
  L = wrL out ++ pack.flatMap lineB ++ line ++ l → (cutS l out pack line).2 = true
 | [], out, pack, line, h1, h2, h3, h => by
  obtain ⟨t, ht⟩ := he
  rw [List.append_nil] at h
  simp only [cutS, decide_eq_true_eq]
  have hL : ∀ (u : List UInt8) (c : UInt8), L = u ++ [c] → c = 10 ∧ u = t ++ [10] := fun u c e => by
   have : u ++ [c] = (t ++ [10]) ++ [10] := by rw [← e, ht]; simp
   have := List.append_inj' this rfl
   exact ⟨by simpa using this.2, this.1⟩
  by_cases hl : line = []
  ·subst hl
   refine ⟨Classical.byContradiction fun hp => ?_, rfl⟩
   obtain ⟨q, x, rfl⟩ : ∃ q x, pack = q ++ [x] := ⟨pack.dropLast, pack.getLast hp, (List.dropLast_concat_getLast hp).symm⟩
   obtain ⟨x0, x1⟩ := h2 x (by simp)
   obtain ⟨y, c, rfl⟩ : ∃ y c, x = y ++ [c] := ⟨x.dropLast, x.getLast x0, (List.dropLast_concat_getLast x0).symm⟩
   have e : L = (wrL out ++ q.flatMap lineB ++ y ++ [c]) ++ [10] := by rw [h]; simp [lineB]
   obtain ⟨_, e2⟩ := hL _ _ e
   have := (List.append_inj' e2 rfl).2
   simp at this
   subst this
   exact x1 (by simp)
  ·obtain ⟨y, c, rfl⟩ : ∃ y c, line = y ++ [c] := ⟨line.dropLast, line.getLast hl, (List.dropLast_concat_getLast hl).symm⟩
   have e : L = (wrL out ++ pack.flatMap lineB ++ y) ++ [c] := by rw [h]; simp
   obtain ⟨e1, _⟩ := hL _ _ e
   subst e1
   exact absurd (by simp) h3
 | c :: r, out, pack, line, h1, h2, h3, h => by
  simp only [cutS]
  by_cases hc10 : c = 10
  ·subst hc10
   rw [if_pos rfl]
   by_cases hl : line = []
   ·subst hl
    rw [if_neg (by simp)]
    by_cases hp : pack = []
    ·subst hp
     exfalso
     by_cases ho : out = []
     ·subst ho
      apply hd
      rw [h]; simp [wrL]
     ·obtain ⟨t, ht⟩ := wrL_end h1 ho
      have := occ_mid t [10, 10, 10] r
      have e : t ++ [10, 10, 10] ++ r = L := by rw [h, ht]; simp
      rw [e, hc] at this; cases this
    ·rw [if_neg hp]
     refine cutS_some hd hc he r _ [] [] (fun p hpm => by
      rcases List.mem_append.1 hpm with hpm | hpm
      ·exact h1 p hpm
      ·simp at hpm; subst hpm; exact ⟨hp, h2⟩) (by simp) (by simp) ?_
     rw [h, wrL_app]; simp [wrL, packL]
   ·rw [if_pos hl]
    refine cutS_some hd hc he r out _ [] h1 (fun x hx => by
     rcases List.mem_append.1 hx with hx | hx
     ·exact h2 x hx
     ·simp at hx; subst hx; exact ⟨hl, h3⟩) (by simp) ?_
    rw [h]; simp [lineB]
  ·rw [if_neg hc10]
   refine cutS_some hd hc he r out pack _ h1 h2 (by simp [h3, Ne.symm hc10]) ?_
   rw [h]; simp

theorem cutV_some {l : List UInt8} (h : badF l = false) : ∃ P, PsOk P ∧ l = wrL P := by
 unfold badF at h
 simp only [Bool.or_eq_false_iff, Bool.not_eq_false', beq_eq_false_iff_ne] at h
 obtain ⟨⟨h1, h2⟩, h3⟩ := h
 have he : ∃ t, l = t ++ [10, 10] := by
  unfold Lib.hasSuffix at h1
  obtain ⟨t, ht⟩ := List.isSuffixOf_iff_suffix.1 h1
  exact ⟨t, ht.symm⟩
 have := cutS_some h2 h3 he l [] [] [] (by intro p hp; simp at hp) (by simp) (by simp) (by simp [wrL])
 exact ⟨(cutV l).1, cutV_inv (by unfold cutV; rw [← this])⟩

set_option maxHeartbeats 4000000
set_option maxRecDepth 20000


theorem split_miss {s p : List UInt8} (h : Lib.index s p = -1) : Lib.split s p = [s] := by
 unfold Lib.split
 rw [Lib.count_miss h]; rfl
theorem split_hit {s p : List UInt8} {i : Nat} (hp : p ≠ []) (h : Lib.index s p = i) : Lib.split s p = s.take i :: Lib.split (s.drop (i + p.length)) p := by
 unfold Lib.split
 rw [Lib.count_hit hp h, Nat.add_comm 1]
 have hm : ¬ (Lib.index s p == -1) = true := fun e => by have := beq_iff_eq.1 e; omega
 have e : (Lib.index s p).toNat = i := by omega
 rw [Lib.splitK, if_neg hm, e]
 rfl
theorem splitL_eq (p l : List UInt8) : splitL p l = Lib.split l p := by
 unfold splitL
 rw [Lib.splitB_data]
 rw [S_list, S_list]
 rfl

def shI (n : Nat) (z : Int) : Int := if z = -1 then -1 else z + n
theorem shI_shI (m n : Nat) (z : Int) (hz : -1 ≤ z) : shI m (shI n z) = shI (m + n) z := by
 unfold shI
 by_cases h : z = -1
 ·rw [if_pos h, if_pos rfl, if_pos h]
 ·rw [if_neg h, if_neg (by omega), if_neg h]; omega

theorem ix_cons {c : UInt8} {X w : List UInt8} (h : w.isPrefixOf (c :: X) = false) : Lib.index (c :: X) w = shI 1 (Lib.index X w) := by
 rw [Lib.index, h]
 unfold shI
 by_cases e : Lib.index X w = -1
 ·rw [e]; rfl
 ·rw [if_neg e]
  have : (Lib.index X w == -1) = false := by simpa using e
  rw [this]; simp
theorem ix_line {w : List UInt8} : ∀ (l X : List UInt8), (10 : UInt8) ∉ l → Lib.index (l ++ X) (10 :: w) = shI l.length (Lib.index X (10 :: w))
 | [], X, _ => by
  have := Lib.index_ge X (10 :: w)
  unfold shI; simp only [List.nil_append, List.length_nil]
  split
  ·assumption
  ·omega
 | c :: l, X, h => by
  simp only [List.mem_cons, not_or] at h
  have hp : (10 :: w).isPrefixOf (c :: (l ++ X)) = false := by simp [List.isPrefixOf, h.1]
  rw [List.cons_append, ix_cons hp, ix_line l X h.2, shI_shI _ _ _ (Lib.index_ge _ _), List.length_cons, Nat.add_comm]

def joinN : Ls → List UInt8
 | [] => []
 | [l] => l
 | l :: m :: p => l ++ 10 :: joinN (m :: p)

theorem joinN_head : ∀ {p : Ls}, PkOk p → ∃ c r, joinN p = c :: r ∧ c ≠ 10
 | [], h => absurd rfl h.1
 | l :: p, h => by
  obtain ⟨h1, h2⟩ := h.2 l (by simp)
  obtain ⟨c, r, rfl⟩ : ∃ c r, l = c :: r := by cases l with | nil => exact absurd rfl h1 | cons c r => exact ⟨c, r, rfl⟩
  have hc : c ≠ 10 := fun e => h2 (by simp [e])
  cases p with
  | nil => exact ⟨c, r, rfl, hc⟩
  | cons m p => exact ⟨c, r ++ 10 :: joinN (m :: p), rfl, hc⟩

theorem joinN_flat : ∀ {p : Ls}, p ≠ [] → p.flatMap lineB = joinN p ++ [10]
 | [], h => absurd rfl h
 | [l], _ => by simp [joinN, lineB]
 | l :: m :: p, _ => by
  have ih := joinN_flat (p := m :: p) (by simp)
  rw [List.flatMap_cons, ih]
  simp [joinN, lineB]

theorem PkOk.tail {l m : List UInt8} {p : Ls} (h : PkOk (l :: m :: p)) : PkOk (m :: p) := ⟨by simp, fun x hx => h.2 x (by simp [List.mem_cons.1 hx])⟩

theorem split_lines : ∀ {p : Ls}, PkOk p → Lib.split (joinN p) [10] = p
 | [], h => absurd rfl h.1
 | [l], h => by
  have hl := (h.2 l (by simp)).2
  have := ix_line (w := []) l [] hl
  rw [List.append_nil] at this
  exact split_miss this
 | l :: m :: p, h => by
  have hl := (h.2 l (by simp)).2
  have hx : Lib.index (l ++ 10 :: joinN (m :: p)) [10] = (l.length : Nat) := by
   rw [ix_line l _ hl]
   have : Lib.index (10 :: joinN (m :: p)) [10] = 0 := by rw [Lib.index]; simp [List.isPrefixOf]
   rw [this]; simp [shI]
  rw [joinN, split_hit (by simp) hx, List.take_left' rfl]
  have hd : (l ++ 10 :: joinN (m :: p)).drop (l.length + [(10 : UInt8)].length) = joinN (m :: p) := by
   rw [← List.drop_drop, List.drop_left' rfl]; rfl
  rw [hd, split_lines h.tail]

theorem ix_join {w : List UInt8} : ∀ {p : Ls}, PkOk p → ∀ X, Lib.index (joinN p ++ X) (10 :: 10 :: w) = shI (joinN p).length (Lib.index X (10 :: 10 :: w))
 | [], h, _ => absurd rfl h.1
 | [l], h, X => ix_line l X (h.2 l (by simp)).2
 | l :: m :: p, h, X => by
  have hl := (h.2 l (by simp)).2
  have hge := Lib.index_ge X (10 :: 10 :: w)
  obtain ⟨c, r, e, hc⟩ := joinN_head h.tail
  have hp : (10 :: 10 :: w).isPrefixOf (10 :: (joinN (m :: p) ++ X)) = false := by
   rw [e]; simp [List.isPrefixOf, Ne.symm hc]
  have e2 : joinN (l :: m :: p) ++ X = l ++ (10 :: (joinN (m :: p) ++ X)) := by simp [joinN]
  rw [e2, ix_line l _ hl, ix_cons hp, ix_join h.tail X]
  have h1 : -1 ≤ shI (joinN (m :: p)).length (Lib.index X (10 :: 10 :: w)) := by unfold shI; split <;> omega
  rw [shI_shI _ _ _ h1, shI_shI _ _ _ hge]
  congr 1
  simp [joinN]; omega

def trimN : List Ls → List UInt8
 | [] => []
 | [p] => joinN p
 | p :: q :: P => joinN p ++ 10 :: 10 :: trimN (q :: P)

theorem PsOk.tail {p : Ls} {P : List Ls} (h : PsOk (p :: P)) : PsOk P := fun x hx => h x (by simp [hx])

theorem trimN_wr : ∀ {P : List Ls}, PsOk P → P ≠ [] → wrL P = trimN P ++ [10, 10]
 | [], _, h => absurd rfl h
 | [p], h, _ => by
  have := joinN_flat (h p (by simp)).1
  simp [wrL, packL, trimN, this]
 | p :: q :: P, h, _ => by
  have := joinN_flat (h p (by simp)).1
  have ih := trimN_wr h.tail (by simp)
  have e : wrL (p :: q :: P) = packL p ++ wrL (q :: P) := by simp [wrL]
  rw [e, ih]
  simp [packL, this, trimN]

theorem trimN_head {p : Ls} {P : List Ls} (h : PsOk (p :: P)) : ∃ c r, trimN (p :: P) = c :: r ∧ c ≠ 10 := by
 obtain ⟨c, r, e, hc⟩ := joinN_head (h p (by simp))
 cases P with
 | nil => exact ⟨c, r, e, hc⟩
 | cons q P => exact ⟨c, r ++ 10 :: 10 :: trimN (q :: P), by simp [trimN, e], hc⟩

theorem split_packs : ∀ {P : List Ls}, PsOk P → P ≠ [] → Lib.split (trimN P) [10, 10] = P.map joinN
 | [], _, h => absurd rfl h
 | [p], h, _ => by
  have := ix_join (w := []) (h p (by simp)) []
  rw [List.append_nil] at this
  exact split_miss this
 | p :: q :: P, h, _ => by
  have hx : Lib.index (joinN p ++ 10 :: 10 :: trimN (q :: P)) [10, 10] = ((joinN p).length : Nat) := by
   rw [ix_join (h p (by simp))]
   have : Lib.index (10 :: 10 :: trimN (q :: P)) [10, 10] = 0 := by rw [Lib.index]; simp [List.isPrefixOf]
   rw [this]; simp [shI]
  rw [trimN, split_hit (by simp) hx, List.take_left' rfl]
  have hd : (joinN p ++ 10 :: 10 :: trimN (q :: P)).drop ((joinN p).length + [(10 : UInt8), 10].length) = trimN (q :: P) := by
   rw [← List.drop_drop, List.drop_left' rfl]; rfl
  rw [hd, split_packs h.tail (by simp)]
  rfl

theorem no_three : ∀ {P : List Ls}, PsOk P → P ≠ [] → Lib.index (trimN P ++ [10, 10]) [10, 10, 10] = -1
 | [], _, h => absurd rfl h
 | [p], h, _ => by
  rw [trimN, ix_join (h p (by simp))]
  have : Lib.index [10, 10] [10, 10, 10] = -1 := by decide
  rw [this]; rfl
 | p :: q :: P, h, _ => by
  obtain ⟨c, r, e, hc⟩ := trimN_head h.tail
  have ih := no_three h.tail (by simp)
  have e2 : trimN (p :: q :: P) ++ [10, 10] = joinN p ++ 10 :: 10 :: (trimN (q :: P) ++ [10, 10]) := by simp [trimN]
  rw [e2, ix_join (h p (by simp)), ix_cons (by rw [e]; simp [List.isPrefixOf, Ne.symm hc]), ix_cons (by rw [e]; simp [List.isPrefixOf, Ne.symm hc]), ih]
  rfl

theorem cutB_wr {P : List Ls} (h : PsOk P) : cutB (wrL P) = some (P.map fun p => ⟨false, true, p⟩) := by
 by_cases h0 : P = []
 ·subst h0; rfl
 ·have hw := trimN_wr h h0
  obtain ⟨p, Q, rfl⟩ : ∃ p Q, P = p :: Q := by cases P with | nil => exact absurd rfl h0 | cons p Q => exact ⟨p, Q, rfl⟩
  obtain ⟨c, r, e, hc⟩ := trimN_head h
  have hne : wrL (p :: Q) ≠ [] := by rw [hw, e]; simp
  have hsf : Lib.hasSuffix (wrL (p :: Q)) [10, 10] = true := by
   unfold Lib.hasSuffix
   exact List.isSuffixOf_iff_suffix.2 ⟨_, hw.symm⟩
  have hb : badF (wrL (p :: Q)) = false := by
   unfold badF
   rw [hsf]
   have h3 : Lib.contains (wrL (p :: Q)) [10, 10, 10] = false := by
    unfold Lib.contains
    rw [hw, no_three h h0]; rfl
   rw [h3, hw, e]
   simp [hc]
  have ht : Lib.trimSuffix (wrL (p :: Q)) [10, 10] = trimN (p :: Q) := by
   unfold Lib.trimSuffix
   rw [if_pos hsf, hw]
   simp
  unfold cutB
  rw [if_neg hne, hb, if_neg (by simp)]
  unfold cutP
  rw [ht, splitL_eq, split_packs h h0, List.map_map]
  refine congrArg some (List.map_congr_left fun x hx => ?_)
  simp only [Function.comp, splitL_eq, split_lines (h x hx)]

theorem cutB_cutV (l : List UInt8) : cutB l = if (cutV l).2 = true then some ((cutV l).1.map fun p => ⟨false, true, p⟩) else none := by
 by_cases h : (cutV l).2 = true
 ·rw [if_pos h]
  obtain ⟨h1, h2⟩ := cutV_inv (l := l) (P := (cutV l).1) (by rw [← h])
  conv => lhs; rw [h2]
  exact cutB_wr h1
 ·rw [if_neg h]
  have key : ∀ P, PsOk P → l ≠ wrL P := fun P h1 h2 => by
   rw [h2, cutV_wr h1] at h; simp at h
  unfold cutB
  by_cases h0 : l = []
  ·exact absurd h0 (key [] (by intro p hp; simp at hp))
  ·rw [if_neg h0]
   cases hb : badF l
   ·obtain ⟨P, h1, h2⟩ := cutV_some hb
    exact absurd h2 (key P h1)
   ·rfl

set_option maxHeartbeats 8000000
set_option maxRecDepth 20000


def uT (p : Pk) : List (List UInt8) := ((unpackB p.l).map (·.1)).getD []
def uM (p : Pk) : List Int := ((unpackB p.l).map (·.2)).getD []
def rdT (P : List Pk) (i : Nat) : List (List UInt8) := (P.take i).flatMap uT
def rdL (P : List Pk) : Nat → List Int
 | 0 => []
 | i + 1 => rdL P i ++ (uM (P.getD i ⟨false, false, []⟩)).map fun n => ((rdT P i).length : Int) + n
def rdS (P : List Pk) : Nat → Bool
 | 0 => false
 | i + 1 => rdS P i || (decide (i + 1 < P.length) && decide ((uT (P.getD i ⟨false, false, []⟩)).length < 8))
def readE (P : List Pk) : Int :=
 if (P.all fun p => (unpackB p.l).isSome) = true then (if (rdS P P.length || decide (40 < (rdT P P.length).length)) = true then 142 else 0) else 141
@[simp] abbrev encRd (T : List (List UInt8)) (M : List Int) (e : Int) : C :=
 if e = 0 then .tup [.sl T.isEmpty false (T.map cS), .sl M.isEmpty false (M.map cI), encI 0] else .tup [.sl true true [], .sl true true [], encI e]

theorem textsOf_len : ∀ {R T : List (List UInt8)}, textsOf R = some T → T.length = R.length
 | [], T, h => by simp [textsOf] at h; subst h; rfl
 | r :: R, T, h => by
  rw [textsOf] at h
  split at h
  ·split at h
   ·obtain ⟨T', h1, rfl⟩ := Option.map_eq_some_iff.1 h
    simp [textsOf_len h1]
   ·cases h
  ·cases h

theorem unpack_bd {L T : List (List UInt8)} {M : List Int} (h : unpackB L = some (T, M)) : 1 ≤ T.length ∧ T.length ≤ 8 ∧ M.length ≤ 8 ∧ ∀ z ∈ M, 0 ≤ z ∧ z < 8 := by
 unfold unpackB at h
 split at h
 ·rename_i hg
  obtain ⟨lg, hfo, h2⟩ := srt_fok hg
  generalize (srt L zHS).1 = s at *
  split at h
  ·rename_i R hf
   obtain ⟨hR, _⟩ := fill_rows hfo hf
   split at h
   ·rename_i T' ht
    split at h
    ·cases h
    ·cases h
     have := textsOf_len ht
     have h8 := hfo.hi
     have h1 := hfo.lo
     refine ⟨by omega, by omega, ?_, fun z hz => ?_⟩
     ·have := missTo_len s.rows s.rows.length
      unfold missB; omega
     ·obtain ⟨i, rfl, hi⟩ := miss_mem _ _ hz
      omega
   ·cases h
  ·cases h
 ·cases h


theorem readAll42 (nl fu : Bool) (P : List Pk) (hn : P.length ≤ 100000) (hp : ∀ p ∈ P, p.l.length ≤ 100000 ∧ ∀ l ∈ p.l, l.length ≤ 100000) :
  Pure Tryz.prog 42 [sPk nl fu P] (encRd (rdT P P.length) (rdL P P.length) (readE P)) := by
 have hT0 : rdT P 0 = [] := rfl
 have hL0 : rdL P 0 = [] := rfl
 have hS0 : rdS P 0 = false := rfl
 have hge : ∀ i (hi : i < P.length), P.getD i ⟨false, false, []⟩ = P[i] := fun i hi => by simp [List.getD_eq_getElem?_getD, List.getElem?_eq_getElem hi]
 have hTs : ∀ i (hi : i < P.length), rdT P (i + 1) = rdT P i ++ uT P[i] := fun i hi => by
  unfold rdT
  rw [List.take_succ_eq_append_getElem hi, List.flatMap_append]; simp
 have hLs : ∀ i (hi : i < P.length), rdL P (i + 1) = rdL P i ++ (uM P[i]).map fun n => ((rdT P i).length : Int) + n := fun i hi => by rw [rdL, hge i hi]
 have hSs : ∀ i (hi : i < P.length), rdS P (i + 1) = (rdS P i || (decide (i + 1 < P.length) && decide ((uT P[i]).length < 8))) := fun i hi => by rw [rdS, hge i hi]
 have hE : readE P = if (P.all fun p => (unpackB p.l).isSome) = true then (if (rdS P P.length || decide (40 < (rdT P P.length).length)) = true then 142 else 0) else 141 := rfl
 rw [hE]
 clear hE
 generalize rdT P = T at *
 generalize rdL P = M at *
 generalize rdS P = Sh at *
 refine ZF (fn := Tryz.f42) [.tmp 2, .tmp 3, .tmp 4] ⟨Tryz.func42, rfl, by kernel_rfl⟩ fun x hx hσ => ?_
 (repeat refine ZQ ?_); refine ZR fun K hK => ?_; simp (maxSteps := 1000000) [ty22, ty33, ty26]; refine hK _ ?_; clear hK K
 (repeat refine ZQ ?_); refine ZR fun K hK => ?_; simp (maxSteps := 1000000) [ty4]; refine hK _ ?_; clear hK K
 (repeat refine ZQ ?_); refine ZR fun K hK => ?_; simp (maxSteps := 1000000) [ty42]; refine hK _ ?_; clear hK K
 (repeat refine ZQ ?_); refine awp_block ?_
 refine AWP.weak ?_ (wk_nil 2 2 1 (fu := true) (by simp) (by simp))
 refine AWP.weak ?_ (wk_nil 3 3 1 (fu := true) (by simp) (by simp))
 refine awp_loop (fun i : Nat => ⟨ofL [(0, sPk nl fu P), (2, .own 2 1 0 (T i).length), (3, .own 3 1 0 (M i).length), (5, .bool (Sh i)), (13, sPk nl fu P), (14, encI P.length), (15, encI i)],
  stoT [(2, 2, .live (lsO (T i))), (3, 3, .live ⟨(M i).isEmpty, false, 1, (M i).map cI⟩)]⟩)
  (fun i => i ≤ P.length ∧ (T i).length ≤ 8 * i ∧ (M i).length ≤ 8 * i ∧ ∀ j (hj : j < P.length), j < i → (unpackB P[j].l).isSome = true) (fun i => P.length - i) 0 ⟨Nat.zero_le _, by rw [hT0]; exact Nat.le_refl _, by rw [hL0]; exact Nat.le_refl _, fun j _ hj => absurd hj (by omega)⟩ ?_ ?_
 ·rw [hT0, hL0, hS0]
  exact ZW
 ·intro i ⟨hi, hTl, hMl, hJ⟩
  have w15 : IntKind.i64.wrap ((i : Int) + 1) = ((i + 1 : Nat) : Int) := by rw [wrap_id (by omega) (by omega)]; rfl
  (repeat refine ZQ ?_); refine ZR fun K hK => ?_; simp (maxSteps := 1000000) [ty3]; refine hK _ ?_; clear hK K
  (repeat refine ZQ ?_); refine ZC (fun hc => ?_) (fun hc => ?_)
  ·simp at hc
   obtain ⟨hp1, hp2⟩ := hp _ (List.getElem_mem hc)
   have cu := unpack43 P[i].nl P[i].fu P[i].l hp1 hp2
   have hts := hTs i hc
   have hls := hLs i hc
   have hss := hSs i hc
   refine awp_skip ?_
   (repeat refine ZQ ?_); refine awp_block ?_
   (repeat refine ZQ ?_); refine ZR fun K hK => ?_; simp (maxSteps := 1000000) [ty42, ty22, ty3, hc]; refine hK _ ?_; clear hK K; (first | show AWP _ _ _ _ _ | show ∃ _, _ | skip)
   cases hu : unpackB P[i].l with
   | none =>
    rw [hu] at cu
    have hna : ¬ (P.all fun p => (unpackB p.l).isSome) = true := fun hh => by
     have := List.all_eq_true.1 hh _ (List.getElem_mem hc)
     rw [hu] at this; cases this
    rw [if_neg hna]
    (repeat refine ZQ ?_); refine ZR fun K hK => ?_; simp (maxSteps := 1000000) [ty22]
    refine ZP (cu) ?_; simp (maxSteps := 1000000) [ty22, ty33, ty68, ty4]
    refine hK _ ?_; clear hK K
    (repeat refine ZQ ?_); refine ZR fun K hK => ?_; simp (maxSteps := 1000000) [ty4]; refine hK _ ?_; clear hK K
    (repeat refine ZQ ?_); refine ZC (fun hd => ?_) (fun hd => ?_)
    ·clear hd
     (repeat refine ZQ ?_); refine ZR fun K hK => ?_; simp (maxSteps := 1000000) [ty22, ty33, ty26]; refine hK _ ?_; clear hK K
     (repeat refine ZQ ?_); refine awp_ret ?_; refine And.intro (Or.inr rfl) ?_
     simp [retC, resC, viewC, mapO]
    ·simp at hd
   | some u =>
    obtain ⟨T1, M1⟩ := u
    rw [hu] at cu
    obtain ⟨b1, b2, b3, b4⟩ := unpack_bd hu
    have hut : uT P[i] = T1 := by unfold uT; rw [hu]; rfl
    have hum : uM P[i] = M1 := by unfold uM; rw [hu]; rfl
    rw [hut] at hts hss
    rw [hum] at hls
    have hTe : T1.isEmpty = false := by cases T1 <;> simp at b1 ⊢
    have hTe2 : T1 ≠ [] := by simpa using hTe
    have hJ3 : ∀ j (hj : j < P.length), j < i + 1 → (unpackB P[j].l).isSome = true := fun j h1 h2 => by
     by_cases hji : j = i
     ·subst hji; rw [hu]; rfl
     ·exact hJ j h1 (by omega)
    (repeat refine ZQ ?_); refine ZR fun K hK => ?_; simp (maxSteps := 1000000) [ty22]
    refine ZP (cu) ?_; simp (maxSteps := 1000000) [ty22, ty33, ty68, ty4]
    refine hK _ ?_; clear hK K
    (repeat refine ZQ ?_); refine ZR fun K hK => ?_; simp (maxSteps := 1000000) [ty4]; refine hK _ ?_; clear hK K
    (repeat refine ZQ ?_); refine ZC (fun hd => ?_) (fun hd => ?_)
    ·simp at hd
    ·clear hd
     refine awp_skip ?_
     (repeat refine ZQ ?_); refine ZR fun K hK => ?_; simp (maxSteps := 1000000) [ty33]; refine hK _ ?_; clear hK K
     (repeat refine ZQ ?_); refine awp_block ?_
     obtain ⟨A, hA⟩ : ∃ A : Nat → List Int, ∀ k, A k = M i ++ (M1.take k).map fun n => ((T i).length : Int) + n := ⟨_, fun _ => rfl⟩
     have hA0 : A 0 = M i := by rw [hA]; simp
     have hAl : ∀ k, k ≤ M1.length → (A k).length = (M i).length + k := fun k hk => by rw [hA]; simp; omega
     have hAs : ∀ k (hk : k < M1.length), A (k + 1) = A k ++ [((T i).length : Int) + M1[k]] := fun k hk => by
      rw [hA, hA, List.take_succ_eq_append_getElem hk, List.map_append, ← List.append_assoc]; rfl
     have hAn : M (i + 1) = A M1.length := by rw [hls, hA, List.take_length]
     clear hA hls
     refine awp_loop (fun k : Nat => ⟨ofL [(0, sPk nl fu P), (2, .own 2 1 0 (T i).length), (3, .own 3 1 0 (A k).length), (5, .bool (Sh i)), (6, encI i), (8, sT false false T1), (13, sPk nl fu P), (14, encI P.length), (15, encI i), (28, .sl M1.isEmpty false (M1.map cI)), (29, encI M1.length), (30, encI k)],
      stoT [(2, 2, .live (lsO (T i))), (3, 3, .live ⟨(A k).isEmpty, false, 1, (A k).map cI⟩)]⟩)
      (fun k => k ≤ M1.length) (fun k => M1.length - k) 0 (Nat.zero_le _) ?_ ?_
     ·rw [hA0]
      exact ZW
     ·intro k hk
      have wk : IntKind.i64.wrap ((k : Int) + 1) = ((k + 1 : Nat) : Int) := by rw [wrap_id (by omega) (by omega)]; rfl
      have hAk := hAl k hk
      (repeat refine ZQ ?_); refine ZR fun K hK => ?_; simp (maxSteps := 1000000) [ty3]; refine hK _ ?_; clear hK K
      (repeat refine ZQ ?_); refine ZC (fun hc2 => ?_) (fun hc2 => ?_)
      ·simp at hc2
       have hst := hAs k hc2
       have hz := b4 _ (List.getElem_mem hc2)
       have w38 : IntKind.i64.wrap (((T i).length : Int) + M1[k]) = ((T i).length : Int) + M1[k] := wrap_id (by omega) (by omega)
       generalize A k = Y at *
       refine awp_skip ?_
       (repeat refine ZQ ?_); refine awp_block ?_
       (repeat refine ZQ ?_); refine ZR fun K hK => ?_; simp (maxSteps := 1000000) [ty33, ty3, hc2]; refine hK _ ?_; clear hK K
       (repeat refine ZQ ?_); refine ZR fun K hK => ?_; simp (maxSteps := 1000000) [ty22, ty33, ty3, w38]
       refine ⟨by omega, ?_⟩
       refine hK _ ?_; clear hK K
       (repeat refine ZQ ?_); refine ZR fun K hK => ?_; simp (maxSteps := 1000000) [ty3, wk]; refine hK _ ?_; clear hK K; (first | show AWP _ _ _ _ _ | show ∃ _, _ | skip)
       refine ⟨k + 1, by omega, by omega, ?_⟩
       rw [hst]
       refine wk_shape2 [(2, 2, .live (lsO (T i))), (3, 40, .live ⟨(Y ++ [((T i).length : Int) + M1[k]]).isEmpty, false, 1, (Y ++ [((T i).length : Int) + M1[k]]).map cI⟩)] (by first | rfl | (simp only [if_pos, if_true]; rfl)) (shp0 hσ (by simp) (by simp) ?_) ?_
       ·simp [SlotOk] <;> (repeat' (first | (refine RowsOk.same ?_; simp [purel, C.isPure]; done) | (refine rowsCons ?_; simp [mtl, mtc, mT, mH, C.isPure, purel]; done) | (refine rowsCons ?_; simp [mtl, mtc, mT, mH, C.isPure, purel]) | refine And.intro ?_ ?_))
       ·simp [mtc, mtl, mT, C.isPure, purel] <;> (try simp (disch := omega) [wrap_id]) <;> (try omega)
      ·simp at hc2
       (repeat refine ZQ ?_); refine awp_exit ?_; (first | show AWP _ _ _ _ _ | show ∃ _, _ | skip)
       have hkn : k = M1.length := by omega
       rw [hkn, ← hAn] at hAk ⊢
       have hTn : (T (i + 1)).length = (T i).length + T1.length := by rw [hts]; simp
       (repeat refine ZQ ?_); refine ZR fun K hK => ?_; simp (maxSteps := 1000000) [ty22, ty68, ty9, hTe2, hTe]
       refine ⟨by omega, ?_⟩
       refine hK _ ?_; clear hK K; (first | show AWP _ _ _ _ _ | show ∃ _, _ | skip)
       have hi1 : i ≤ P.length := hi
       have w50 : IntKind.i64.wrap ((P.length : Int) - 1) = (P.length : Int) - 1 := wrap_id (by omega) (by omega)
       have hlen8 : ((T1.length : Int) < 8) = (T1.length < 8) := propext (by omega)
       have hlast : ((i : Int) < (P.length : Int) - 1) = (i + 1 < P.length) := propext (by omega)
       cases hsh : Sh i
       ·rw [hsh] at hss
        by_cases hla : i + 1 < P.length
        ·by_cases h8 : T1.length < 8
         ·rw [decide_eq_true hla, decide_eq_true h8] at hss
          (repeat refine ZQ ?_); refine ZR fun K hK => ?_; simp (maxSteps := 1000000) [ty42, ty68, ty3, ty4, hsh, w50, hlast, hlen8, hla, h8]; refine hK _ ?_; clear hK K
          (repeat refine ZQ ?_); refine ZR fun K hK => ?_; simp (maxSteps := 1000000) [ty3, w15]; refine hK _ ?_; clear hK K; (first | show AWP _ _ _ _ _ | show ∃ _, _ | skip)
          refine ⟨i + 1, ⟨by omega, by omega, by omega, hJ3⟩, by omega, ?_⟩
          rw [hss, hts]
          refine wk_shape2 [(2, 44, .live (lsO (T i ++ T1))), (3, 3, .live ⟨(M (i + 1)).isEmpty, false, 1, (M (i + 1)).map cI⟩)] (by first | rfl | (simp only [if_pos, if_true, hTe, hAk, hTe2]; rfl)) (shp0 hσ (by simp) (by simp) ?_) ?_
          ·simp [SlotOk, hTe, hAk, hTe2] <;> (repeat' (first | (refine RowsOk.same ?_; simp [purel, C.isPure]; done) | (refine rowsCons ?_; simp [mtl, mtc, mT, mH, C.isPure, purel]; done) | (refine rowsCons ?_; simp [mtl, mtc, mT, mH, C.isPure, purel]) | refine And.intro ?_ ?_))
          ·simp [mtc, mtl, mT, C.isPure, purel, hTe, hAk, hTe2] <;> (try simp (disch := omega) [wrap_id]) <;> (try omega)
         ·rw [decide_eq_true hla, decide_eq_false h8] at hss
          (repeat refine ZQ ?_); refine ZR fun K hK => ?_; simp (maxSteps := 1000000) [ty42, ty68, ty3, ty4, hsh, w50, hlast, hlen8, hla, h8]; refine hK _ ?_; clear hK K
          (repeat refine ZQ ?_); refine ZR fun K hK => ?_; simp (maxSteps := 1000000) [ty3, w15]; refine hK _ ?_; clear hK K; (first | show AWP _ _ _ _ _ | show ∃ _, _ | skip)
          refine ⟨i + 1, ⟨by omega, by omega, by omega, hJ3⟩, by omega, ?_⟩
          rw [hss, hts]
          refine wk_shape2 [(2, 44, .live (lsO (T i ++ T1))), (3, 3, .live ⟨(M (i + 1)).isEmpty, false, 1, (M (i + 1)).map cI⟩)] (by first | rfl | (simp only [if_pos, if_true, hTe, hAk, hTe2]; rfl)) (shp0 hσ (by simp) (by simp) ?_) ?_
          ·simp [SlotOk, hTe, hAk, hTe2] <;> (repeat' (first | (refine RowsOk.same ?_; simp [purel, C.isPure]; done) | (refine rowsCons ?_; simp [mtl, mtc, mT, mH, C.isPure, purel]; done) | (refine rowsCons ?_; simp [mtl, mtc, mT, mH, C.isPure, purel]) | refine And.intro ?_ ?_))
          ·simp [mtc, mtl, mT, C.isPure, purel, hTe, hAk, hTe2] <;> (try simp (disch := omega) [wrap_id]) <;> (try omega)
        ·rw [decide_eq_false hla] at hss
         (repeat refine ZQ ?_); refine ZR fun K hK => ?_; simp (maxSteps := 1000000) [ty42, ty68, ty3, ty4, hsh, w50, hlast, hlen8, hla]; refine hK _ ?_; clear hK K
         (repeat refine ZQ ?_); refine ZR fun K hK => ?_; simp (maxSteps := 1000000) [ty3, w15]; refine hK _ ?_; clear hK K; (first | show AWP _ _ _ _ _ | show ∃ _, _ | skip)
         refine ⟨i + 1, ⟨by omega, by omega, by omega, hJ3⟩, by omega, ?_⟩
         rw [hss, hts]
         refine wk_shape2 [(2, 44, .live (lsO (T i ++ T1))), (3, 3, .live ⟨(M (i + 1)).isEmpty, false, 1, (M (i + 1)).map cI⟩)] (by first | rfl | (simp only [if_pos, if_true, hTe, hAk, hTe2]; rfl)) (shp0 hσ (by simp) (by simp) ?_) ?_
         ·simp [SlotOk, hTe, hAk, hTe2] <;> (repeat' (first | (refine RowsOk.same ?_; simp [purel, C.isPure]; done) | (refine rowsCons ?_; simp [mtl, mtc, mT, mH, C.isPure, purel]; done) | (refine rowsCons ?_; simp [mtl, mtc, mT, mH, C.isPure, purel]) | refine And.intro ?_ ?_))
         ·simp [mtc, mtl, mT, C.isPure, purel, hTe, hAk, hTe2] <;> (try simp (disch := omega) [wrap_id]) <;> (try omega)
       ·rw [hsh] at hss
        (repeat refine ZQ ?_); refine ZR fun K hK => ?_; simp (maxSteps := 1000000) [ty42, ty68, ty3, ty4, hsh]; refine hK _ ?_; clear hK K
        (repeat refine ZQ ?_); refine ZR fun K hK => ?_; simp (maxSteps := 1000000) [ty3, w15]; refine hK _ ?_; clear hK K; (first | show AWP _ _ _ _ _ | show ∃ _, _ | skip)
        refine ⟨i + 1, ⟨by omega, by omega, by omega, hJ3⟩, by omega, ?_⟩
        rw [hss, hts]
        refine wk_shape2 [(2, 44, .live (lsO (T i ++ T1))), (3, 3, .live ⟨(M (i + 1)).isEmpty, false, 1, (M (i + 1)).map cI⟩)] (by first | rfl | (simp only [if_pos, if_true, hTe, hAk, hTe2]; rfl)) (shp0 hσ (by simp) (by simp) ?_) ?_
        ·simp [SlotOk, hTe, hAk, hTe2] <;> (repeat' (first | (refine RowsOk.same ?_; simp [purel, C.isPure]; done) | (refine rowsCons ?_; simp [mtl, mtc, mT, mH, C.isPure, purel]; done) | (refine rowsCons ?_; simp [mtl, mtc, mT, mH, C.isPure, purel]) | refine And.intro ?_ ?_))
        ·simp [mtc, mtl, mT, C.isPure, purel, hTe, hAk, hTe2] <;> (try simp (disch := omega) [wrap_id]) <;> (try omega)
  ·simp at hc
   (repeat refine ZQ ?_); refine awp_exit ?_; (first | show AWP _ _ _ _ _ | show ∃ _, _ | skip)
   have hin : i = P.length := by omega
   rw [hin] at hTl hMl hJ ⊢
   rw [if_pos (List.all_eq_true.2 fun p hp => by
    obtain ⟨j, hj, rfl⟩ := List.getElem_of_mem hp
    exact hJ j hj hj)]
   have htT : List.take (T P.length).length ((T P.length).map cS) = (T P.length).map cS := List.take_of_length_le (by simp)
   have htM : List.take (M P.length).length ((M P.length).map cI) = (M P.length).map cI := List.take_of_length_le (by simp)
   generalize T P.length = X at *
   generalize M P.length = Y at *
   generalize Sh P.length = b at *
   cases b
   ·by_cases h40 : 40 < X.length
    ·have h40' : (40 : Int) < X.length := by omega
     rw [if_pos (by simp [h40])]
     (repeat refine ZQ ?_); refine ZR fun K hK => ?_; simp (maxSteps := 1000000) [ty22, ty3, ty4, h40']; refine hK _ ?_; clear hK K
     (repeat refine ZQ ?_); refine ZC (hc := by simp [h40]; rfl) (fun hd => ?_) (fun hd => ?_)
     ·clear hd
      (repeat refine ZQ ?_); refine ZR fun K hK => ?_; simp (maxSteps := 1000000) [ty22, ty33, ty26]; refine hK _ ?_; clear hK K
      (repeat refine ZQ ?_); refine awp_ret ?_; refine And.intro (Or.inr rfl) ?_
      simp [retC, resC, viewC, mapO]
     ·simp [h40] at hd
    ·have h40' : ¬ (40 : Int) < X.length := by omega
     rw [if_neg (by simp [h40])]
     (repeat refine ZQ ?_); refine ZR fun K hK => ?_; simp (maxSteps := 1000000) [ty22, ty3, ty4, h40']; refine hK _ ?_; clear hK K
     (repeat refine ZQ ?_); refine ZC (hc := by simp [h40]; rfl) (fun hd => ?_) (fun hd => ?_)
     ·simp [h40] at hd
     ·clear hd
      refine awp_skip ?_
      (repeat refine ZQ ?_); refine ZR fun K hK => ?_; simp (maxSteps := 1000000) [ty22, ty33, ty26]; refine hK _ ?_; clear hK K
      (repeat refine ZQ ?_); refine awp_ret ?_; refine And.intro (Or.inr rfl) ?_
      simp [retC, resC, viewC, mapO, purel, C.isPure, htT, htM]
   ·rw [if_pos (by simp)]
    (repeat refine ZQ ?_); refine ZR fun K hK => ?_; simp (maxSteps := 1000000) [ty22, ty3, ty4]; refine hK _ ?_; clear hK K
    (repeat refine ZQ ?_); refine ZC (fun hd => ?_) (fun hd => ?_)
    ·clear hd
     (repeat refine ZQ ?_); refine ZR fun K hK => ?_; simp (maxSteps := 1000000) [ty22, ty33, ty26]; refine hK _ ?_; clear hK K
     (repeat refine ZQ ?_); refine awp_ret ?_; refine And.intro (Or.inr rfl) ?_
     simp [retC, resC, viewC, mapO]
    ·simp at hd

set_option maxHeartbeats 8000000
set_option maxRecDepth 20000


theorem cut_bd {l : List UInt8} (hn : l.length ≤ 50000) {p : Pk} (hp : p ∈ (cutB l).getD []) : p.l.length ≤ 100000 ∧ ∀ x ∈ p.l, x.length ≤ 100000 := by
 unfold cutB at hp
 split at hp
 ·simp at hp
 ·split at hp
  ·simp at hp
  ·simp only [Option.getD_some, cutP] at hp
   obtain ⟨t, ht, rfl⟩ := List.mem_map.1 hp
   have h1 := split_mem _ _ _ ht
   have h2 := trimSuffix_len l [10, 10]
   have h3 := split_len [10] t (by simp)
   exact ⟨by simp only; omega, fun x hx => by have := split_mem _ _ _ hx; omega⟩
theorem cut_len {l : List UInt8} (hn : l.length ≤ 50000) : ((cutB l).getD []).length ≤ 100000 := by
 unfold cutB
 split
 ·simp
 ·split
  ·simp
  ·simp only [Option.getD_some, cutP, List.length_map]
   have h2 := trimSuffix_len l [10, 10]
   have h3 := split_len [10, 10] (Lib.trimSuffix l [10, 10]) (by simp)
   omega

def rP (l : List UInt8) : List Pk := (cutB l).getD []
def rE (l : List UInt8) : Int := if (cutB l).isSome = true then readE (rP l) else 140
def rTx (l : List UInt8) : List (List UInt8) := rdT (rP l) (rP l).length
def rLo (l : List UInt8) : List Int := rdL (rP l) (rP l).length

theorem read16 (l : List UInt8) (hn : l.length ≤ 50000) : Pure Tryz.prog 16 [encS l] (encRd (rTx l) (rLo l) (rE l)) := by
 have c41 := cut41 l (by omega)
 have c42 := readAll42 (rP l).isEmpty (rP l).isEmpty (rP l) (cut_len hn) (fun p hp => cut_bd hn hp)
 unfold rE rTx rLo
 have hP : (cutB l).getD [] = rP l := rfl
 rw [hP] at c41
 generalize rP l = P at *
 generalize rdT P P.length = T at *
 generalize rdL P P.length = M at *
 generalize readE P = e at *
 cases hc : (cutB l).isSome
 ·rw [hc] at c41
  rw [if_neg (by simp)]
  refine ZF (fn := Tryz.f16) [.tmp 2, .tmp 3, .tmp 4] ⟨Tryz.func16, rfl, by kernel_rfl⟩ fun x hx hσ => ?_
  (repeat refine ZQ ?_); refine ZR fun K hK => ?_; simp (maxSteps := 1000000) [ty22, ty33, ty26]; refine hK _ ?_; clear hK K
  (repeat refine ZQ ?_); refine ZR fun K hK => ?_; simp (maxSteps := 1000000) [ty9]
  refine ZP (c41) ?_; simp (maxSteps := 1000000) [ty42, ty4]
  refine hK _ ?_; clear hK K
  (repeat refine ZQ ?_); refine ZR fun K hK => ?_; simp (maxSteps := 1000000) [ty4]; refine hK _ ?_; clear hK K
  (repeat refine ZQ ?_); refine ZC (fun hd => ?_) (fun hd => ?_)
  ·clear hd
   (repeat refine ZQ ?_); refine ZR fun K hK => ?_; simp (maxSteps := 1000000) [ty22, ty33, ty26]; refine hK _ ?_; clear hK K
   (repeat refine ZQ ?_); refine awp_ret ?_; refine And.intro (Or.inr rfl) ?_
   simp [retC, resC, viewC, mapO]
  ·simp at hd
 ·rw [hc] at c41
  rw [if_pos rfl]
  by_cases h0 : e = 0
  ·subst h0
   simp only [encRd, if_true] at c42
   refine ZF (fn := Tryz.f16) [.tmp 2, .tmp 3, .tmp 4] ⟨Tryz.func16, rfl, by kernel_rfl⟩ fun x hx hσ => ?_
   (repeat refine ZQ ?_); refine ZR fun K hK => ?_; simp (maxSteps := 1000000) [ty22, ty33, ty26]; refine hK _ ?_; clear hK K
   (repeat refine ZQ ?_); refine ZR fun K hK => ?_; simp (maxSteps := 1000000) [ty9]
   refine ZP (c41) ?_; simp (maxSteps := 1000000) [ty42, ty4]
   refine hK _ ?_; clear hK K
   (repeat refine ZQ ?_); refine ZR fun K hK => ?_; simp (maxSteps := 1000000) [ty4]; refine hK _ ?_; clear hK K
   (repeat refine ZQ ?_); refine ZC (fun hd => ?_) (fun hd => ?_)
   ·simp at hd
   ·clear hd
    refine awp_skip ?_
    (repeat refine ZQ ?_); refine ZR fun K hK => ?_; simp (maxSteps := 1000000) [ty42]
    refine ZP (c42) ?_; simp (maxSteps := 1000000) [ty22, ty33, ty26]
    refine hK _ ?_; clear hK K
    (repeat refine ZQ ?_); refine awp_ret ?_; refine And.intro (Or.inr rfl) ?_
    simp [retC, resC, viewC, mapO, purel, C.isPure]
  ·simp only [encRd, if_neg h0] at c42 ⊢
   refine ZF (fn := Tryz.f16) [.tmp 2, .tmp 3, .tmp 4] ⟨Tryz.func16, rfl, by kernel_rfl⟩ fun x hx hσ => ?_
   (repeat refine ZQ ?_); refine ZR fun K hK => ?_; simp (maxSteps := 1000000) [ty22, ty33, ty26]; refine hK _ ?_; clear hK K
   (repeat refine ZQ ?_); refine ZR fun K hK => ?_; simp (maxSteps := 1000000) [ty9]
   refine ZP (c41) ?_; simp (maxSteps := 1000000) [ty42, ty4]
   refine hK _ ?_; clear hK K
   (repeat refine ZQ ?_); refine ZR fun K hK => ?_; simp (maxSteps := 1000000) [ty4]; refine hK _ ?_; clear hK K
   (repeat refine ZQ ?_); refine ZC (fun hd => ?_) (fun hd => ?_)
   ·simp at hd
   ·clear hd
    refine awp_skip ?_
    (repeat refine ZQ ?_); refine ZR fun K hK => ?_; simp (maxSteps := 1000000) [ty42]
    refine ZP (c42) ?_; simp (maxSteps := 1000000) [ty22, ty33, ty26]
    refine hK _ ?_; clear hK K
    (repeat refine ZQ ?_); refine awp_ret ?_; refine And.intro (Or.inr rfl) ?_
    simp [retC, resC, viewC, mapO, purel, C.isPure]

def badTo (P : List Pk) (i : Nat) : List Int := ((List.range i).filter fun k => (unpackB (P.getD k ⟨false, false, []⟩).l).isNone).map Int.ofNat
theorem badTo_succ (P : List Pk) {i : Nat} (hi : i < P.length) : badTo P (i + 1) = if (unpackB P[i].l).isNone = true then badTo P i ++ [(i : Int)] else badTo P i := by
 have e : P.getD i ⟨false, false, []⟩ = P[i] := by simp [List.getD_eq_getElem?_getD, List.getElem?_eq_getElem hi]
 unfold badTo
 rw [List.range_succ, List.filter_append, List.map_append]
 by_cases h : (unpackB P[i].l).isNone = true
 ·rw [if_pos h]
  have hf : List.filter (fun k => (unpackB (P.getD k ⟨false, false, []⟩).l).isNone) [i] = [i] := by
   simp only [List.filter_cons, List.filter_nil, e, h]; rfl
  rw [hf]; rfl
 ·rw [if_neg h]
  have hf : List.filter (fun k => (unpackB (P.getD k ⟨false, false, []⟩).l).isNone) [i] = [] := by
   simp only [List.filter_cons, List.filter_nil, e]; rw [if_neg h]
  rw [hf]; simp
theorem badTo_len (P : List Pk) (i : Nat) : (badTo P i).length ≤ i := by
 unfold badTo
 rw [List.length_map]
 exact Nat.le_trans (List.length_filter_le _ _) (by simp)
def bdL (l : List UInt8) : List Int := badTo (rP l) (rP l).length
@[simp] abbrev encBd (o : Bool) (B : List Int) : C := if o = true then .tup [.sl B.isEmpty false (B.map cI), encI 0] else .tup [.sl true true [], encI 140]

theorem bad17 (l : List UInt8) (hn : l.length ≤ 50000) : Pure Tryz.prog 17 [encS l] (encBd (cutB l).isSome (bdL l)) := by
 have c41 := cut41 l (by omega)
 have hPl := cut_len hn
 have hPb := fun p => cut_bd hn (p := p)
 unfold bdL
 have hP : (cutB l).getD [] = rP l := rfl
 rw [hP] at c41 hPl hPb
 generalize rP l = P at *
 cases hc : (cutB l).isSome
 ·rw [hc] at c41
  refine ZF (fn := Tryz.f17) [.tmp 2, .tmp 3] ⟨Tryz.func17, rfl, by kernel_rfl⟩ fun x hx hσ => ?_
  (repeat refine ZQ ?_); refine ZR fun K hK => ?_; simp (maxSteps := 1000000) [ty33, ty26]; refine hK _ ?_; clear hK K
  (repeat refine ZQ ?_); refine ZR fun K hK => ?_; simp (maxSteps := 1000000) [ty9]
  refine ZP (c41) ?_; simp (maxSteps := 1000000) [ty42, ty4]
  refine hK _ ?_; clear hK K
  (repeat refine ZQ ?_); refine ZR fun K hK => ?_; simp (maxSteps := 1000000) [ty4]; refine hK _ ?_; clear hK K
  (repeat refine ZQ ?_); refine ZC (fun hd => ?_) (fun hd => ?_)
  ·clear hd
   (repeat refine ZQ ?_); refine ZR fun K hK => ?_; simp (maxSteps := 1000000) [ty33, ty26]; refine hK _ ?_; clear hK K
   (repeat refine ZQ ?_); refine awp_ret ?_; refine And.intro (Or.inr rfl) ?_
   simp [retC, resC, viewC, mapO]
  ·simp at hd
 ·rw [hc] at c41
  have hB0 : badTo P 0 = [] := rfl
  have hBs := fun i (hi : i < P.length) => badTo_succ P hi
  have hBl := badTo_len P
  generalize badTo P = B at *
  refine ZF (fn := Tryz.f17) [.tmp 2, .tmp 3] ⟨Tryz.func17, rfl, by kernel_rfl⟩ fun x hx hσ => ?_
  (repeat refine ZQ ?_); refine ZR fun K hK => ?_; simp (maxSteps := 1000000) [ty33, ty26]; refine hK _ ?_; clear hK K
  (repeat refine ZQ ?_); refine ZR fun K hK => ?_; simp (maxSteps := 1000000) [ty9]
  refine ZP (c41) ?_; simp (maxSteps := 1000000) [ty42, ty4]
  refine hK _ ?_; clear hK K
  (repeat refine ZQ ?_); refine ZR fun K hK => ?_; simp (maxSteps := 1000000) [ty4]; refine hK _ ?_; clear hK K
  (repeat refine ZQ ?_); refine ZC (fun hd => ?_) (fun hd => ?_)
  ·simp at hd
  ·clear hd
   refine awp_skip ?_
   (repeat refine ZQ ?_); refine ZR fun K hK => ?_; simp (maxSteps := 1000000) [ty33]; refine hK _ ?_; clear hK K
   (repeat refine ZQ ?_); refine ZR fun K hK => ?_; simp (maxSteps := 1000000) [ty42]; refine hK _ ?_; clear hK K
   (repeat refine ZQ ?_); refine awp_block ?_
   refine AWP.weak ?_ (wk_nil 6 6 1 (fu := true) (by simp) (by simp))
   refine awp_loop (fun i : Nat => ⟨ofL [(6, .own 6 1 0 (B i).length), (19, sPs P), (20, encI P.length), (21, encI i)], stoT [(6, 6, .live ⟨(B i).isEmpty, false, 1, (B i).map cI⟩)]⟩)
    (fun i => i ≤ P.length) (fun i => P.length - i) 0 (Nat.zero_le _) ?_ ?_
   ·rw [hB0]
    exact ZW
   ·intro i hi
    have w1 : IntKind.i64.wrap ((i : Int) + 1) = ((i + 1 : Nat) : Int) := by rw [wrap_id (by omega) (by omega)]; rfl
    have hBi := hBl i
    (repeat refine ZQ ?_); refine ZR fun K hK => ?_; simp (maxSteps := 1000000) [ty3]; refine hK _ ?_; clear hK K
    (repeat refine ZQ ?_); refine ZC (fun hc2 => ?_) (fun hc2 => ?_)
    ·simp at hc2
     obtain ⟨hp1, hp2⟩ := hPb _ (List.getElem_mem hc2)
     have cu := unpack43 P[i].nl P[i].fu P[i].l hp1 hp2
     have hst := hBs i hc2
     refine awp_skip ?_
     (repeat refine ZQ ?_); refine awp_block ?_
     (repeat refine ZQ ?_); refine ZR fun K hK => ?_; simp (maxSteps := 1000000) [ty42, ty22, ty3, hc2]; refine hK _ ?_; clear hK K; (first | show AWP _ _ _ _ _ | show ∃ _, _ | skip)
     cases hu : unpackB P[i].l with
     | none =>
      rw [hu] at cu hst
      simp only [Option.isNone_none, if_true] at hst
      generalize B i = X at *
      (repeat refine ZQ ?_); refine ZR fun K hK => ?_; simp (maxSteps := 1000000) [ty22]
      refine ZP (cu) ?_; simp (maxSteps := 1000000) [ty22, ty33, ty68, ty4]
      refine hK _ ?_; clear hK K
      (repeat refine ZQ ?_); refine ZR fun K hK => ?_; simp (maxSteps := 1000000) [ty4]; refine hK _ ?_; clear hK K
      (repeat refine ZQ ?_); refine ZC (fun hd => ?_) (fun hd => ?_)
      ·clear hd
       (repeat refine ZQ ?_); refine ZR fun K hK => ?_; simp (maxSteps := 1000000) [ty33, ty3]
       refine ⟨by omega, ?_⟩
       refine hK _ ?_; clear hK K
       (repeat refine ZQ ?_); refine ZR fun K hK => ?_; simp (maxSteps := 1000000) [ty3, w1]; refine hK _ ?_; clear hK K; (first | show AWP _ _ _ _ _ | show ∃ _, _ | skip)
       refine ⟨i + 1, by omega, by omega, ?_⟩
       rw [hst]
       refine wk_shape2 [(6, 37, .live ⟨(X ++ [(i : Int)]).isEmpty, false, 1, (X ++ [(i : Int)]).map cI⟩)] (by first | rfl | (simp only [if_pos, if_true]; rfl)) (shp0 hσ (by simp) (by simp) ?_) ?_
       ·simp [SlotOk] <;> (repeat' (first | (refine RowsOk.same ?_; simp [purel, C.isPure]; done) | (refine rowsCons ?_; simp [mtl, mtc, mT, mH, C.isPure, purel]; done) | (refine rowsCons ?_; simp [mtl, mtc, mT, mH, C.isPure, purel]) | refine And.intro ?_ ?_))
       ·simp [mtc, mtl, mT, C.isPure, purel] <;> (try simp (disch := omega) [wrap_id]) <;> (try omega)
      ·simp at hd
     | some u =>
      obtain ⟨T1, M1⟩ := u
      rw [hu] at cu hst
      simp only [Option.isNone_some, Bool.false_eq_true, if_false] at hst
      (repeat refine ZQ ?_); refine ZR fun K hK => ?_; simp (maxSteps := 1000000) [ty22]
      refine ZP (cu) ?_; simp (maxSteps := 1000000) [ty22, ty33, ty68, ty4]
      refine hK _ ?_; clear hK K
      (repeat refine ZQ ?_); refine ZR fun K hK => ?_; simp (maxSteps := 1000000) [ty4]; refine hK _ ?_; clear hK K
      (repeat refine ZQ ?_); refine ZC (fun hd => ?_) (fun hd => ?_)
      ·simp at hd
      ·clear hd
       refine awp_skip ?_
       (repeat refine ZQ ?_); refine ZR fun K hK => ?_; simp (maxSteps := 1000000) [ty3, w1]; refine hK _ ?_; clear hK K; (first | show AWP _ _ _ _ _ | show ∃ _, _ | skip)
       refine ⟨i + 1, by omega, by omega, ?_⟩
       rw [hst]
       exact ZW
    ·simp at hc2
     (repeat refine ZQ ?_); refine awp_exit ?_; (first | show AWP _ _ _ _ _ | show ∃ _, _ | skip)
     have hin : i = P.length := by omega
     rw [hin]
     have ht : List.take (B P.length).length ((B P.length).map cI) = (B P.length).map cI := List.take_of_length_le (by simp)
     (repeat refine ZQ ?_); refine ZR fun K hK => ?_; simp (maxSteps := 1000000) [ty33, ty26]; refine hK _ ?_; clear hK K
     (repeat refine ZQ ?_); refine awp_ret ?_; refine And.intro (Or.inr rfl) ?_
     simp [retC, resC, viewC, mapO, purel, C.isPure, ht]

set_option maxHeartbeats 4000000
set_option maxRecDepth 20000


theorem byte_nl {x : UInt8} (h : 32 ≤ x.toNat) : x ≠ 10 := fun e => by
 rw [e] at h; simp at h

theorem parse_line {l : List UInt8} (h : parseOk l = true) : LineOk l := by
 obtain ⟨_, h1, _⟩ := parse_ok h
 unfold bad1 at h1
 simp only [Bool.or_eq_false_iff, decide_eq_false_iff_not, Bool.not_eq_false'] at h1
 exact ⟨fun e => by rw [e] at h1; simp at h1, fun hm => byte_nl (plain_ge h1.2 10 hm) rfl⟩

theorem cards_line {T : List (List UInt8)} (h : PackOk T) {c : List UInt8} (hc : c ∈ cardsB T) : LineOk c := parse_line (cards_parse h hc).1

theorem cards_pack {T : List (List UInt8)} (h : PackOk T) : PkOk (cardsB T) := ⟨fun e => by have := (cards_len h).1; rw [e] at this; simp at this, fun _ hc => cards_line h hc⟩

theorem wrL_file (L : List (List UInt8)) : fileB L = wrL ((chunksB L).map cardsB) := by
 unfold fileB wrL
 rw [List.flatMap_map]
 rfl

theorem take_8 (L : List (List UInt8)) (i : Nat) : L.take (8 * i) ++ chunkAt L i = L.take (8 * (i + 1)) := by
 unfold chunkAt
 rw [show 8 * (i + 1) = 8 * i + 8 by omega, List.take_add]

structure Rd (L : List (List UInt8)) (P : List Pk) (M : Nat → List Int) : Prop where
 len : P.length = (L.length + 7) / 8
 n : L.length ≤ 40
 un : ∀ i (hi : i < P.length), unpackB P[i].l = some (chunkAt L i, M i)

def lostTo (M : Nat → List Int) : Nat → List Int
 | 0 => []
 | i + 1 => lostTo M i ++ (M i).map fun n => ((8 * i : Nat) : Int) + n

theorem rd_at {P : List Pk} {i : Nat} (hi : i < P.length) : P.getD i ⟨false, false, []⟩ = P[i] := by simp [List.getD_eq_getElem?_getD, List.getElem?_eq_getElem hi]

theorem rd_T {L : List (List UInt8)} {P : List Pk} {M : Nat → List Int} (h : Rd L P M) : ∀ i, i ≤ P.length → rdT P i = L.take (8 * i)
 | 0, _ => by simp [rdT]
 | i + 1, hi => by
  have ih := rd_T h i (by omega)
  unfold rdT at ih ⊢
  rw [List.take_succ_eq_append_getElem (by omega), List.flatMap_append, ih, ← take_8]
  congr 1
  simp only [List.flatMap_cons, List.flatMap_nil, List.append_nil]
  unfold uT
  rw [h.un i (by omega)]; rfl

theorem rd_L {L : List (List UInt8)} {P : List Pk} {M : Nat → List Int} (h : Rd L P M) : ∀ i, i ≤ P.length → rdL P i = lostTo M i
 | 0, _ => rfl
 | i + 1, hi => by
  have hlen := h.len
  rw [rdL, lostTo, rd_L h i (by omega), rd_T h i (by omega), rd_at (by omega)]
  unfold uM
  rw [h.un i (by omega)]
  have : (L.take (8 * i)).length = 8 * i := by rw [List.length_take]; omega
  rw [this]; rfl

theorem rd_S {L : List (List UInt8)} {P : List Pk} {M : Nat → List Int} (h : Rd L P M) : ∀ i, i ≤ P.length → rdS P i = false
 | 0, _ => rfl
 | i + 1, hi => by
  have hlen := h.len
  rw [rdS, rd_S h i (by omega), rd_at (by omega)]
  have hu : uT P[i] = chunkAt L i := by unfold uT; rw [h.un i (by omega)]; rfl
  rw [hu]
  simp only [Bool.false_or, Bool.and_eq_false_iff, decide_eq_false_iff_not]
  by_cases hl : i + 1 < P.length
  ·right
   unfold chunkAt
   rw [List.length_take, List.length_drop]; omega
  ·exact .inl hl

theorem rd_E {L : List (List UInt8)} {P : List Pk} {M : Nat → List Int} (h : Rd L P M) : readE P = 0 ∧ rdT P P.length = L ∧ rdL P P.length = lostTo M P.length := by
 have h1 := rd_T h P.length (Nat.le_refl _)
 have hlen := h.len
 rw [List.take_of_length_le (by omega)] at h1
 refine ⟨?_, h1, rd_L h _ (Nat.le_refl _)⟩
 unfold readE
 rw [rd_S h _ (Nat.le_refl _), h1, if_pos]
 ·have := h.n
  simp; omega
 ·rw [List.all_eq_true]
  intro p hp
  obtain ⟨i, hi, rfl⟩ := List.getElem_of_mem hp
  rw [h.un i hi]; rfl

theorem read_wr {L : List (List UInt8)} {P : List Ls} {M : Nat → List Int} (hP : PsOk P) (hl : P.length = (L.length + 7) / 8) (hn : L.length ≤ 40) (hu : ∀ i (hi : i < P.length), unpackB P[i] = some (chunkAt L i, M i)) :
  rE (wrL P) = 0 ∧ rTx (wrL P) = L ∧ rLo (wrL P) = lostTo M P.length ∧ (cutB (wrL P)).isSome = true ∧ bdL (wrL P) = [] := by
 have hc := cutB_wr hP
 have hr : rP (wrL P) = P.map fun p => ⟨false, true, p⟩ := by unfold rP; rw [hc]; rfl
 have hrd : Rd L (rP (wrL P)) M := by
  rw [hr]
  refine ⟨by simpa using hl, hn, fun i hi => ?_⟩
  simp only [List.getElem_map]
  exact hu i (by simpa using hi)
 obtain ⟨g1, g2, g3⟩ := rd_E hrd
 refine ⟨?_, g2, ?_, by rw [hc]; rfl, ?_⟩
 ·unfold rE; rw [hc, if_pos (by simp)]; exact g1
 ·unfold rLo; rw [g3, hr]; simp
 ·unfold bdL badTo
  rw [List.map_eq_nil_iff, List.filter_eq_nil_iff]
  intro i hi
  have hi := List.mem_range.1 hi
  rw [rd_at hi, hrd.un i hi]; simp

theorem chunks_at {L : List (List UInt8)} {i : Nat} (hi : i < (chunksB L).length) : (chunksB L)[i] = chunkAt L i := by simp [chunksB]

set_option maxHeartbeats 8000000
set_option maxRecDepth 20000


theorem l_sameT18 (n1 f1 n2 f2 : Bool) (A B : List (List UInt8)) (hn : A.length ≤ 100000) : Pure Tryz.prog 18 [sT n1 f1 A, sT n2 f2 B] (.bool (A == B)) := by
 by_cases hlen : A.length = B.length
 ·have hne : ((A.length : Int) != (B.length : Int)) = false := by rw [hlen]; simp
  refine ZF (fn := Tryz.f18) [.tmp 4] ⟨Tryz.func18, rfl, by kernel_rfl⟩ fun x hx hσ => ?_
  (repeat refine ZQ ?_); refine ZR fun K hK => ?_; simp (maxSteps := 1000000) [ty4]; refine hK _ ?_; clear hK K
  (repeat refine ZQ ?_); refine ZR fun K hK => ?_; simp (maxSteps := 1000000) [ty22, ty3, hne]; refine hK _ ?_; clear hK K
  (repeat refine ZQ ?_); refine ZC (fun hd => ?_) (fun hd => ?_)
  ·simp at hd
  ·clear hd
   refine awp_skip ?_
   (repeat refine ZQ ?_); refine ZR fun K hK => ?_; simp (maxSteps := 1000000) [ty3]; refine hK _ ?_; clear hK K
   (repeat refine ZQ ?_); refine awp_block ?_
   refine awp_loop (fun i : Nat => ⟨ofL [(0, sT n1 f1 A), (1, sT n2 f2 B), (5, encI i)], stoT []⟩)
    (fun i => i ≤ A.length ∧ ∀ j (h1 : j < A.length) (h2 : j < B.length), j < i → A[j] = B[j]) (fun i => A.length - i) 0 ⟨Nat.zero_le _, fun j _ _ hj => absurd hj (by omega)⟩ ?_ ?_
   ·exact ZW
   ·intro i ⟨hi, hp⟩
    have w1 : IntKind.i64.wrap ((i : Int) + 1) = ((i + 1 : Nat) : Int) := by rw [wrap_id (by omega) (by omega)]; rfl
    (repeat refine ZQ ?_); refine ZR fun K hK => ?_; simp (maxSteps := 1000000) [ty22, ty3]; refine hK _ ?_; clear hK K
    (repeat refine ZQ ?_); refine ZC (fun hc => ?_) (fun hc => ?_)
    ·simp at hc
     have hc2 : i < B.length := by omega
     have he := str_ne A[i] B[i]
     refine awp_skip ?_
     (repeat refine ZQ ?_); refine awp_block ?_
     cases hb : A[i] == B[i]
     ·rw [hb] at he
      have hV : (A == B) = false := by
       rw [beq_eq_false_iff_ne]
       rintro rfl
       simp at hb
      rw [hV]
      (repeat refine ZQ ?_); refine ZD [] [0, 1, 2, 3, 4, 5, 6, 7, 8] fun K hK => ?_; simp (maxSteps := 1000000) [ty22, ty9, ty3, hc, hc2, he, -strBin]; refine hK _ ?_; clear hK K
      (repeat refine ZQ ?_); refine ZC (fun hd => ?_) (fun hd => ?_)
      ·clear hd
       (repeat refine ZQ ?_); refine ZR fun K hK => ?_; simp (maxSteps := 1000000) [ty4]; refine hK _ ?_; clear hK K
       (repeat refine ZQ ?_); refine awp_ret ?_; refine And.intro (Or.inr rfl) ?_
       simp [retC, resC, viewC, mapO]
      ·simp at hd
     ·rw [hb] at he
      (repeat refine ZQ ?_); refine ZD [] [0, 1, 2, 3, 4, 5, 6, 7, 8] fun K hK => ?_; simp (maxSteps := 1000000) [ty22, ty9, ty3, hc, hc2, he, -strBin]; refine hK _ ?_; clear hK K
      (repeat refine ZQ ?_); refine ZC (fun hd => ?_) (fun hd => ?_)
      ·simp at hd
      ·clear hd
       refine awp_skip ?_
       (repeat refine ZQ ?_); refine ZR fun K hK => ?_; simp (maxSteps := 1000000) [ty3, w1]; refine hK _ ?_; clear hK K; (first | show AWP _ _ _ _ _ | show ∃ _, _ | skip)
       refine ⟨i + 1, ⟨by omega, fun j h1 h2 h3 => ?_⟩, by omega, ?_⟩
       ·by_cases hji : j = i
        ·subst hji; simpa using hb
        ·exact hp j h1 h2 (by omega)
       ·exact ZW
    ·simp at hc
     (repeat refine ZQ ?_); refine awp_exit ?_; (first | show AWP _ _ _ _ _ | show ∃ _, _ | skip)
     have hV : (A == B) = true := by
      rw [beq_iff_eq]
      exact List.ext_getElem hlen fun j h1 h2 => hp j h1 h2 (by omega)
     rw [hV]
     (repeat refine ZQ ?_); refine ZR fun K hK => ?_; simp (maxSteps := 1000000) [ty4]; refine hK _ ?_; clear hK K
     (repeat refine ZQ ?_); refine awp_ret ?_; refine And.intro (Or.inr rfl) ?_
     simp [retC, resC, viewC, mapO]
 ·have hne : ((A.length : Int) != (B.length : Int)) = true := by rw [bne_iff_ne]; omega
  have hV : (A == B) = false := by
   rw [beq_eq_false_iff_ne]
   rintro rfl
   exact hlen rfl
  rw [hV]
  refine ZF (fn := Tryz.f18) [.tmp 4] ⟨Tryz.func18, rfl, by kernel_rfl⟩ fun x hx hσ => ?_
  (repeat refine ZQ ?_); refine ZR fun K hK => ?_; simp (maxSteps := 1000000) [ty4]; refine hK _ ?_; clear hK K
  (repeat refine ZQ ?_); refine ZR fun K hK => ?_; simp (maxSteps := 1000000) [ty22, ty3, hne]; refine hK _ ?_; clear hK K
  (repeat refine ZQ ?_); refine ZC (fun hd => ?_) (fun hd => ?_)
  ·clear hd
   (repeat refine ZQ ?_); refine ZR fun K hK => ?_; simp (maxSteps := 1000000) [ty4]; refine hK _ ?_; clear hK K
   (repeat refine ZQ ?_); refine awp_ret ?_; refine And.intro (Or.inr rfl) ?_
   simp [retC, resC, viewC, mapO]
  ·simp at hd

theorem l_sameI19 (n1 f1 n2 f2 : Bool) (A B : List Int) (hn : A.length ≤ 100000) : Pure Tryz.prog 19 [.sl n1 f1 (A.map cI), .sl n2 f2 (B.map cI)] (.bool (A == B)) := by
 by_cases hlen : A.length = B.length
 ·have hne : ((A.length : Int) != (B.length : Int)) = false := by rw [hlen]; simp
  refine ZF (fn := Tryz.f19) [.tmp 4] ⟨Tryz.func19, rfl, by kernel_rfl⟩ fun x hx hσ => ?_
  (repeat refine ZQ ?_); refine ZR fun K hK => ?_; simp (maxSteps := 1000000) [ty4]; refine hK _ ?_; clear hK K
  (repeat refine ZQ ?_); refine ZR fun K hK => ?_; simp (maxSteps := 1000000) [ty33, ty3, hne]; refine hK _ ?_; clear hK K
  (repeat refine ZQ ?_); refine ZC (fun hd => ?_) (fun hd => ?_)
  ·simp at hd
  ·clear hd
   refine awp_skip ?_
   (repeat refine ZQ ?_); refine ZR fun K hK => ?_; simp (maxSteps := 1000000) [ty3]; refine hK _ ?_; clear hK K
   (repeat refine ZQ ?_); refine awp_block ?_
   refine awp_loop (fun i : Nat => ⟨ofL [(0, .sl n1 f1 (A.map cI)), (1, .sl n2 f2 (B.map cI)), (5, encI i)], stoT []⟩)
    (fun i => i ≤ A.length ∧ ∀ j (h1 : j < A.length) (h2 : j < B.length), j < i → A[j] = B[j]) (fun i => A.length - i) 0 ⟨Nat.zero_le _, fun j _ _ hj => absurd hj (by omega)⟩ ?_ ?_
   ·exact ZW
   ·intro i ⟨hi, hp⟩
    have w1 : IntKind.i64.wrap ((i : Int) + 1) = ((i + 1 : Nat) : Int) := by rw [wrap_id (by omega) (by omega)]; rfl
    (repeat refine ZQ ?_); refine ZR fun K hK => ?_; simp (maxSteps := 1000000) [ty33, ty3]; refine hK _ ?_; clear hK K
    (repeat refine ZQ ?_); refine ZC (fun hc => ?_) (fun hc => ?_)
    ·simp at hc
     have hc2 : i < B.length := by omega
     refine awp_skip ?_
     (repeat refine ZQ ?_); refine awp_block ?_
     cases hb : A[i] != B[i]
     ·(repeat refine ZQ ?_); refine ZD [] [0, 1, 2, 3, 4, 5, 6, 7, 8] fun K hK => ?_; simp (maxSteps := 1000000) [ty33, ty3, hc, hc2, hb]; refine hK _ ?_; clear hK K
      (repeat refine ZQ ?_); refine ZC (fun hd => ?_) (fun hd => ?_)
      ·simp at hd
      ·clear hd
       refine awp_skip ?_
       (repeat refine ZQ ?_); refine ZR fun K hK => ?_; simp (maxSteps := 1000000) [ty3, w1]; refine hK _ ?_; clear hK K; (first | show AWP _ _ _ _ _ | show ∃ _, _ | skip)
       refine ⟨i + 1, ⟨by omega, fun j h1 h2 h3 => ?_⟩, by omega, ?_⟩
       ·by_cases hji : j = i
        ·subst hji; simpa using hb
        ·exact hp j h1 h2 (by omega)
       ·exact ZW
     ·have hV : (A == B) = false := by
       rw [beq_eq_false_iff_ne]
       rintro rfl
       simp at hb
      rw [hV]
      (repeat refine ZQ ?_); refine ZD [] [0, 1, 2, 3, 4, 5, 6, 7, 8] fun K hK => ?_; simp (maxSteps := 1000000) [ty33, ty3, hc, hc2, hb]; refine hK _ ?_; clear hK K
      (repeat refine ZQ ?_); refine ZC (fun hd => ?_) (fun hd => ?_)
      ·clear hd
       (repeat refine ZQ ?_); refine ZR fun K hK => ?_; simp (maxSteps := 1000000) [ty4]; refine hK _ ?_; clear hK K
       (repeat refine ZQ ?_); refine awp_ret ?_; refine And.intro (Or.inr rfl) ?_
       simp [retC, resC, viewC, mapO]
      ·simp at hd
    ·simp at hc
     (repeat refine ZQ ?_); refine awp_exit ?_; (first | show AWP _ _ _ _ _ | show ∃ _, _ | skip)
     have hV : (A == B) = true := by
      rw [beq_iff_eq]
      exact List.ext_getElem hlen fun j h1 h2 => hp j h1 h2 (by omega)
     rw [hV]
     (repeat refine ZQ ?_); refine ZR fun K hK => ?_; simp (maxSteps := 1000000) [ty4]; refine hK _ ?_; clear hK K
     (repeat refine ZQ ?_); refine awp_ret ?_; refine And.intro (Or.inr rfl) ?_
     simp [retC, resC, viewC, mapO]
 ·have hne : ((A.length : Int) != (B.length : Int)) = true := by rw [bne_iff_ne]; omega
  have hV : (A == B) = false := by
   rw [beq_eq_false_iff_ne]
   rintro rfl
   exact hlen rfl
  rw [hV]
  refine ZF (fn := Tryz.f19) [.tmp 4] ⟨Tryz.func19, rfl, by kernel_rfl⟩ fun x hx hσ => ?_
  (repeat refine ZQ ?_); refine ZR fun K hK => ?_; simp (maxSteps := 1000000) [ty4]; refine hK _ ?_; clear hK K
  (repeat refine ZQ ?_); refine ZR fun K hK => ?_; simp (maxSteps := 1000000) [ty33, ty3, hne]; refine hK _ ?_; clear hK K
  (repeat refine ZQ ?_); refine ZC (fun hd => ?_) (fun hd => ?_)
  ·clear hd
   (repeat refine ZQ ?_); refine ZR fun K hK => ?_; simp (maxSteps := 1000000) [ty4]; refine hK _ ?_; clear hK K
   (repeat refine ZQ ?_); refine awp_ret ?_; refine And.intro (Or.inr rfl) ?_
   simp [retC, resC, viewC, mapO]
  ·simp at hd

def farB (L : List (List UInt8)) (f : List UInt8) : Bool := decide (45 < L.length) || decide (9000 < f.length) || L.any fun l => decide (200 < l.length)

theorem l_far25 (nl fu : Bool) (L : List (List UInt8)) (f : List UInt8) (fb : ByteArray) (hf : fb = S f) : Pure Tryz.prog 25 [sT nl fu L, .str fb] (.bool (farB L f)) := by
 subst hf
 have hsz := S_size f
 have hsL := fun l => S_size l
 unfold farB
 by_cases h1 : 45 < L.length
 ·have h1' : (45 : Int) < L.length := by omega
  rw [decide_eq_true h1]
  refine ZF (fn := Tryz.f25) [.tmp 4] ⟨Tryz.func25, rfl, by kernel_rfl⟩ fun x hx hσ => ?_
  (repeat refine ZQ ?_); refine ZR fun K hK => ?_; simp (maxSteps := 1000000) [ty4]; refine hK _ ?_; clear hK K
  (repeat refine ZQ ?_); refine ZR fun K hK => ?_; simp (maxSteps := 1000000) [ty22, ty9, ty3, ty4, h1']; refine hK _ ?_; clear hK K
  (repeat refine ZQ ?_); refine ZC (hc := by simp [h1]; rfl) (fun hd => ?_) (fun hd => ?_)
  ·clear hd
   (repeat refine ZQ ?_); refine ZR fun K hK => ?_; simp (maxSteps := 1000000) [ty4]; refine hK _ ?_; clear hK K
   (repeat refine ZQ ?_); refine awp_ret ?_; refine And.intro (Or.inr rfl) ?_
   simp [retC, resC, viewC, mapO]
  ·simp [h1] at hd
 ·have h1' : ¬ (45 : Int) < L.length := by omega
  rw [decide_eq_false h1]
  by_cases h2 : 9000 < f.length
  ·have h2' : (9000 : Int) < f.length := by omega
   rw [decide_eq_true h2]
   refine ZF (fn := Tryz.f25) [.tmp 4] ⟨Tryz.func25, rfl, by kernel_rfl⟩ fun x hx hσ => ?_
   (repeat refine ZQ ?_); refine ZR fun K hK => ?_; simp (maxSteps := 1000000) [ty4]; refine hK _ ?_; clear hK K
   (repeat refine ZQ ?_); refine ZR fun K hK => ?_; simp (maxSteps := 1000000) [ty22, ty9, ty3, ty4, h1', hsz, h2']; refine hK _ ?_; clear hK K
   (repeat refine ZQ ?_); refine ZC (hc := by simp [h2]; rfl) (fun hd => ?_) (fun hd => ?_)
   ·clear hd
    (repeat refine ZQ ?_); refine ZR fun K hK => ?_; simp (maxSteps := 1000000) [ty4]; refine hK _ ?_; clear hK K
    (repeat refine ZQ ?_); refine awp_ret ?_; refine And.intro (Or.inr rfl) ?_
    simp [retC, resC, viewC, mapO]
   ·simp [h2] at hd
  ·have h2' : ¬ (9000 : Int) < f.length := by omega
   rw [decide_eq_false h2]
   simp only [Bool.false_or]
   refine ZF (fn := Tryz.f25) [.tmp 4] ⟨Tryz.func25, rfl, by kernel_rfl⟩ fun x hx hσ => ?_
   (repeat refine ZQ ?_); refine ZR fun K hK => ?_; simp (maxSteps := 1000000) [ty4]; refine hK _ ?_; clear hK K
   (repeat refine ZQ ?_); refine ZR fun K hK => ?_; simp (maxSteps := 1000000) [ty22, ty9, ty3, ty4, h1', hsz, h2']; refine hK _ ?_; clear hK K
   (repeat refine ZQ ?_); refine ZC (hc := by simp [h2]; rfl) (fun hd => ?_) (fun hd => ?_)
   ·simp [h2] at hd
   ·clear hd
    refine awp_skip ?_
    (repeat refine ZQ ?_); refine ZR fun K hK => ?_; simp (maxSteps := 1000000) [ty3]; refine hK _ ?_; clear hK K
    (repeat refine ZQ ?_); refine awp_block ?_
    refine awp_loop (fun i : Nat => ⟨ofL [(0, sT nl fu L), (5, encI i)], stoT []⟩)
     (fun i => i ≤ L.length ∧ ∀ j (hj : j < L.length), j < i → L[j].length ≤ 200) (fun i => L.length - i) 0 ⟨Nat.zero_le _, fun j _ hj => absurd hj (by omega)⟩ ?_ ?_
    ·exact ZW
    ·intro i ⟨hi, hp⟩
     have w1 : IntKind.i64.wrap ((i : Int) + 1) = ((i + 1 : Nat) : Int) := by rw [wrap_id (by omega) (by omega)]; rfl
     (repeat refine ZQ ?_); refine ZR fun K hK => ?_; simp (maxSteps := 1000000) [ty22, ty3]; refine hK _ ?_; clear hK K
     (repeat refine ZQ ?_); refine ZC (fun hc => ?_) (fun hc => ?_)
     ·simp at hc
      refine awp_skip ?_
      (repeat refine ZQ ?_); refine awp_block ?_
      by_cases hb : 200 < L[i].length
      ·have hb' : (200 : Int) < L[i].length := by omega
       rw [List.any_eq_true.2 ⟨_, List.getElem_mem hc, decide_eq_true hb⟩]
       (repeat refine ZQ ?_); refine ZR fun K hK => ?_; simp (maxSteps := 1000000) [ty22, ty9, ty3, hc, hsL, hb']; refine hK _ ?_; clear hK K
       (repeat refine ZQ ?_); refine ZC (hc := by simp [hb]; rfl) (fun hd => ?_) (fun hd => ?_)
       ·clear hd
        (repeat refine ZQ ?_); refine ZR fun K hK => ?_; simp (maxSteps := 1000000) [ty4]; refine hK _ ?_; clear hK K
        (repeat refine ZQ ?_); refine awp_ret ?_; refine And.intro (Or.inr rfl) ?_
        simp [retC, resC, viewC, mapO]
       ·simp [hb] at hd
      ·have hb' : ¬ (200 : Int) < L[i].length := by omega
       (repeat refine ZQ ?_); refine ZR fun K hK => ?_; simp (maxSteps := 1000000) [ty22, ty9, ty3, hc, hsL, hb']; refine hK _ ?_; clear hK K
       (repeat refine ZQ ?_); refine ZC (hc := by simp [hb]; rfl) (fun hd => ?_) (fun hd => ?_)
       ·simp [hb] at hd
       ·clear hd
        refine awp_skip ?_
        (repeat refine ZQ ?_); refine ZR fun K hK => ?_; simp (maxSteps := 1000000) [ty3, w1]; refine hK _ ?_; clear hK K; (first | show AWP _ _ _ _ _ | show ∃ _, _ | skip)
        refine ⟨i + 1, ⟨by omega, fun j h1 h2 => ?_⟩, by omega, ?_⟩
        ·by_cases hji : j = i
         ·subst hji; omega
         ·exact hp j h1 (by omega)
        ·exact ZW
     ·simp at hc
      (repeat refine ZQ ?_); refine awp_exit ?_; (first | show AWP _ _ _ _ _ | show ∃ _, _ | skip)
      have hV : (L.any fun l => decide (200 < l.length)) = false := by
       rw [Bool.eq_false_iff]
       intro hh
       obtain ⟨l, hl, h3⟩ := List.any_eq_true.1 hh
       obtain ⟨j, hj, rfl⟩ := List.getElem_of_mem hl
       have := hp j hj (by omega)
       have := of_decide_eq_true h3
       omega
      rw [hV]
      (repeat refine ZQ ?_); refine ZR fun K hK => ?_; simp (maxSteps := 1000000) [ty4]; refine hK _ ?_; clear hK K
      (repeat refine ZQ ?_); refine awp_ret ?_; refine And.intro (Or.inr rfl) ?_
      simp [retC, resC, viewC, mapO]

set_option maxHeartbeats 8000000
set_option maxRecDepth 20000


def exF : List UInt8 := [49, 50, 48, 50, 97, 98, 50, 49, 10, 50, 50, 48, 49, 99, 32, 50, 48, 10, 97, 50, 51, 50, 51, 53, 51, 53, 54, 54, 48, 54, 10, 98, 50, 52, 56, 53, 50, 48, 53, 54, 54, 48, 53, 10, 10]
def exT : List (List UInt8) := [[97, 98], [99]]
def exR : List UInt8 := [97, 50, 51, 50, 51, 53, 51, 53, 54, 54, 48, 54, 10, 98, 50, 52, 56, 53, 50, 48, 53, 54, 54, 48, 53, 10, 10]

theorem ex_texts : textsE exT = 0 := by decide
theorem ex_file : fileB exT = exF := by kernel_rfl
def exL1 : List (List UInt8) := [[97, 50, 51, 50, 51, 53, 51, 53, 54, 54, 48, 54], [98, 50, 52, 56, 53, 50, 48, 53, 54, 54, 48, 53]]
def exL2 : List (List UInt8) := [[49, 50, 48, 50, 97, 98, 50, 49], [50, 50, 48, 49, 99, 32, 50, 48], [97, 50, 51, 50, 51, 53, 51, 53, 54, 54, 48, 54], [98, 50, 52, 56, 53, 50, 48, 53, 54, 54, 48, 53]]
theorem split_eq (p l : List UInt8) : splitL p l = Lib.split l p := by
 unfold splitL
 rw [Lib.splitB_data]
 rw [S_list, S_list]
 rfl
theorem ex_cut1 : cutB exR = some [⟨false, true, exL1⟩] := by
 unfold cutB cutP badF
 simp only [split_eq]
 kernel_rfl
theorem ex_cut2 : cutB exF = some [⟨false, true, exL2⟩] := by
 unfold cutB cutP badF
 simp only [split_eq]
 kernel_rfl
theorem ex_read : rE exR = 0 ∧ rTx exR = exT ∧ rLo exR = [0, 1] := by
 have h : rP exR = [⟨false, true, exL1⟩] := by unfold rP; rw [ex_cut1]; rfl
 unfold rE rTx rLo
 rw [h, ex_cut1]
 refine ⟨?_, ?_, ?_⟩ <;> kernel_rfl
theorem ex_bad : (cutB exF).isSome = true ∧ bdL exF = [] := by
 have h : rP exF = [⟨false, true, exL2⟩] := by unfold rP; rw [ex_cut2]; rfl
 unfold bdL
 rw [h, ex_cut2]
 refine ⟨rfl, ?_⟩
 kernel_rfl

theorem l_works11 : Pure Tryz.prog 11 [] (.bool true) := by
 have hW : writeB exT = .tup [encS exF, encI 0] := by unfold writeB; rw [ex_texts, if_pos rfl, ex_file]
 have c12 : Pure Tryz.prog 12 [.sl false true [[.str ⟨#[97, 98]⟩], [.str ⟨#[99]⟩]]] (.tup [encS exF, encI 0]) := hW ▸ write12 false true exT (by decide)
 have c16 := read16 exR (by decide)
 obtain ⟨r1, r2, r3⟩ := ex_read
 rw [r1, r2, r3] at c16
 have c16 : Pure Tryz.prog 16 [encS exR] (.tup [sT false false exT, .sl false false [[encI 0], [encI 1]], encI 0]) := c16
 have c17 := bad17 exF (by decide)
 obtain ⟨b1, b2⟩ := ex_bad
 rw [b1, b2] at c17
 have c17' : Pure Tryz.prog 17 [.str ⟨#[49, 50, 48, 50, 97, 98, 50, 49, 10, 50, 50, 48, 49, 99, 32, 50, 48, 10, 97, 50, 51, 50, 51, 53, 51, 53, 54, 54, 48, 54, 10, 98, 50, 52, 56, 53, 50, 48, 53, 54, 54, 48, 53, 10, 10]⟩] (.tup [.sl true false [], encI 0]) := c17
 have hq := str_eq exF exF
 rw [beq_self_eq_true] at hq
 have hq' : strBin .eql (S exF) ⟨#[49, 50, 48, 50, 97, 98, 50, 49, 10, 50, 50, 48, 49, 99, 32, 50, 48, 10, 97, 50, 51, 50, 51, 53, 51, 53, 54, 54, 48, 54, 10, 98, 50, 52, 56, 53, 50, 48, 53, 54, 54, 48, 53, 10, 10]⟩ = some (.bool true) := hq
 have c18 := l_sameT18 false false false true exT exT (by decide)
 rw [beq_self_eq_true] at c18
 have c18' : Pure Tryz.prog 18 [sT false false exT, .sl false true [[.str ⟨#[97, 98]⟩], [.str ⟨#[99]⟩]]] (.bool true) := c18
 have c19 := l_sameI19 false false false true [0, 1] [0, 1] (by decide)
 rw [show (([0, 1] : List Int) == [0, 1]) = true by decide] at c19
 have c19' : Pure Tryz.prog 19 [.sl false false [[encI 0], [encI 1]], .sl false true [[encI 0], [encI 1]]] (.bool true) := c19
 have hex : ByteArray.extract ⟨#[49, 50, 48, 50, 97, 98, 50, 49, 10, 50, 50, 48, 49, 99, 32, 50, 48, 10, 97, 50, 51, 50, 51, 53, 51, 53, 54, 54, 48, 54, 10, 98, 50, 52, 56, 53, 50, 48, 53, 54, 54, 48, 53, 10, 10]⟩ 18 (ByteArray.size ⟨#[49, 50, 48, 50, 97, 98, 50, 49, 10, 50, 50, 48, 49, 99, 32, 50, 48, 10, 97, 50, 51, 50, 51, 53, 51, 53, 54, 54, 48, 54, 10, 98, 50, 52, 56, 53, 50, 48, 53, 54, 54, 48, 53, 10, 10]⟩) = S exR := (S_ext exF 18 45).trans rfl
 have c16' : Pure Tryz.prog 16 [.str (ByteArray.extract ⟨#[49, 50, 48, 50, 97, 98, 50, 49, 10, 50, 50, 48, 49, 99, 32, 50, 48, 10, 97, 50, 51, 50, 51, 53, 51, 53, 54, 54, 48, 54, 10, 98, 50, 52, 56, 53, 50, 48, 53, 54, 54, 48, 53, 10, 10]⟩ 18 (ByteArray.size ⟨#[49, 50, 48, 50, 97, 98, 50, 49, 10, 50, 50, 48, 49, 99, 32, 50, 48, 10, 97, 50, 51, 50, 51, 53, 51, 53, 54, 54, 48, 54, 10, 98, 50, 52, 56, 53, 50, 48, 53, 54, 54, 48, 53, 10, 10]⟩))] (.tup [sT false false exT, .sl false false [[encI 0], [encI 1]], encI 0]) := by rw [hex]; exact c16
 clear hex c16 c17 hq c18 c19
 generalize exT = T at *
 generalize exR = R at *
 generalize exF = F at *
 refine ZF (fn := Tryz.f11) [.tmp 0] ⟨Tryz.func11, rfl, by kernel_rfl⟩ fun x hx hσ => ?_
 (repeat refine ZQ ?_); refine ZR fun K hK => ?_; simp (maxSteps := 1000000) [ty4]; refine hK _ ?_; clear hK K
 (repeat refine ZQ ?_); refine ZR fun K hK => ?_; simp (maxSteps := 1000000) [ty22, ty9]
 refine ZP (c12) ?_; simp (maxSteps := 1000000) [ty9, ty26]
 refine hK _ ?_; clear hK K
 (repeat refine ZQ ?_); refine ZR fun K hK => ?_; simp (maxSteps := 1000000) [ty9]
 refine ⟨by decide, ?_⟩
 refine ZP (c16') ?_; simp (maxSteps := 1000000) [ty22, ty33, ty26]
 refine hK _ ?_; clear hK K
 (repeat refine ZQ ?_); refine ZR fun K hK => ?_; simp (maxSteps := 1000000) [ty9]
 refine ZP (c17') ?_; simp (maxSteps := 1000000) [ty33, ty26]
 refine hK _ ?_; clear hK K
 (repeat refine ZQ ?_); refine ZR fun K hK => ?_; simp (maxSteps := 1000000) [ty26, ty9, ty22, ty33, ty3, ty4, hq', -strBin]
 refine ZP (c18') ?_; simp (maxSteps := 1000000) [ty26, ty9, ty22, ty33, ty3, ty4]
 refine ZP (c19') ?_; simp (maxSteps := 1000000) [ty26, ty9, ty22, ty33, ty3, ty4]
 refine hK _ ?_; clear hK K
 (repeat refine ZQ ?_); refine awp_ret ?_; refine And.intro (Or.inr rfl) ?_
 simp [retC, resC, viewC, mapO]

set_option maxHeartbeats 8000000
set_option maxRecDepth 20000


theorem far_not {L : List (List UInt8)} {f : List UInt8} (h : farB L f = false) : L.length ≤ 45 ∧ (∀ l ∈ L, l.length ≤ 200) ∧ f.length ≤ 9000 := by
 unfold farB at h
 simp only [Bool.or_eq_false_iff, decide_eq_false_iff_not, List.any_eq_false, decide_eq_true_eq] at h
 exact ⟨by omega, fun l hl => by have := h.2 l hl; omega, by omega⟩

set_option maxHeartbeats 4000000
set_option maxRecDepth 20000


def turnTo (c : Ls) (b i : Nat) : Ls := (List.range i).map fun k => c.getD ((k + b) % c.length) []
def okT (c : Ls) (t : Int) : Bool := decide (0 ≤ t) && decide (t < (c.length : Int))
def twTo (c : Ls) (tw : List Int) (i : Nat) : Ls := ((tw.take i).filter (okT c)).map fun t => c.getD t.toNat []
def strL (st : List UInt8) : Ls := if st = [] then [] else [st]
def mixB (b : Nat) (tw : List Int) (st : List UInt8) (c : Ls) : Ls := turnTo c b c.length ++ twTo c tw tw.length ++ strL st

theorem lines_len {p : Ls} {n : Nat} (h : ∀ l ∈ p, l.length ≤ n) : (p.flatMap lineB).length ≤ p.length * (n + 1) := by
 induction p with
 | nil => simp
 | cons l p ih =>
  have h1 := h l (by simp)
  have h2 := ih fun x hx => h x (by simp [hx])
  simp only [List.flatMap_cons, List.length_append, List.length_cons, Nat.add_mul, lineB]
  simp only [List.length_nil]
  omega
theorem wr_len {P : List Ls} {n : Nat} (h : ∀ p ∈ P, (packL p).length ≤ n) : (wrL P).length ≤ P.length * n := by
 induction P with
 | nil => simp [wrL]
 | cons l p ih =>
  have h1 := h l (by simp)
  have h2 := ih fun x hx => h x (by simp [hx])
  unfold wrL at h2 ⊢
  simp only [List.flatMap_cons, List.length_append, List.length_cons, Nat.add_mul]
  omega

def mixF (b : Nat) (tw : List Int) (st : List UInt8) (L : Ls) : List Ls := (chunksB L).map fun T => mixB b tw st (cardsB T)

set_option maxHeartbeats 8000000
set_option maxRecDepth 20000


def areB (L : List (List UInt8)) : Bool := !farB L [] && (textsE L == 0)

theorem l_areTexts10 (nl fu : Bool) (L : List (List UInt8)) : Pure Tryz.prog 10 [sT nl fu L] (.bool (areB L)) := by
 have cF := l_far25 nl fu L [] ⟨#[]⟩ rfl
 unfold areB
 cases hf : farB L [] with
 | true =>
  rw [hf] at cF
  refine ZF (fn := Tryz.f10) [.tmp 2] ⟨Tryz.func10, rfl, by kernel_rfl⟩ fun x hx hσ => ?_
  (repeat refine ZQ ?_); refine ZR fun K hK => ?_; simp (maxSteps := 1000000) [ty4]; refine hK _ ?_; clear hK K
  (repeat refine ZQ ?_); refine ZR fun K hK => ?_; simp (maxSteps := 1000000) [ty22, ty9]
  refine ZP (cF) ?_; simp (maxSteps := 1000000) [ty4]
  refine hK _ ?_; clear hK K
  (repeat refine ZQ ?_); refine awp_ret ?_; refine And.intro (Or.inr rfl) ?_
  simp [retC, resC, viewC, mapO]
 | false =>
  rw [hf] at cF
  obtain ⟨h1, h2, h3⟩ := far_not hf
  have cT := q_areTexts31 nl fu L (fun l hl => by have := h2 l hl; omega)
  refine ZF (fn := Tryz.f10) [.tmp 2] ⟨Tryz.func10, rfl, by kernel_rfl⟩ fun x hx hσ => ?_
  (repeat refine ZQ ?_); refine ZR fun K hK => ?_; simp (maxSteps := 1000000) [ty4]; refine hK _ ?_; clear hK K
  (repeat refine ZQ ?_); refine ZR fun K hK => ?_; simp (maxSteps := 1000000) [ty22, ty9]
  refine ZP (cF) ?_; simp (maxSteps := 1000000) [ty4]
  refine ZP (cT) ?_; simp (maxSteps := 1000000) [ty4, ty26]
  refine hK _ ?_; clear hK K
  (repeat refine ZQ ?_); refine awp_ret ?_; refine And.intro (Or.inr rfl) ?_
  simp [retC, resC, viewC, mapO]

theorem are_ok {L : List (List UInt8)} (h : areB L = true) : L.length ≤ 40 ∧ L.all textB = true ∧ textsE L = 0 := by
 unfold areB at h
 simp only [Bool.and_eq_true, Bool.not_eq_true', beq_iff_eq] at h
 have h2 := h.2
 unfold textsE at h2
 split at h2
 ·simp at h2
 ·split at h2
  ·rename_i g1 g2
   exact ⟨by omega, g2, h.2⟩
  ·simp at h2

set_option maxHeartbeats 4000000
set_option maxRecDepth 20000


set_option maxHeartbeats 8000000
set_option maxRecDepth 20000


def cutE : List UInt8 → Ls → List UInt8 → Bool
 | [], _, _ => false
 | c :: r, pack, line => if c = 10 then (if line ≠ [] then cutE r (pack ++ [line]) [] else if pack = [] then true else cutE r [] []) else cutE r pack (line ++ [c])

theorem cutE_true : ∀ (l : List UInt8) (out : List Ls) (pack : Ls) (line : List UInt8), cutE l pack line = true → cutS l out pack line = ([], false)
 | [], _, _, _, h => by simp [cutE] at h
 | c :: r, out, pack, line, h => by
  unfold cutE at h
  unfold cutS
  by_cases hc : c = 10
  ·rw [if_pos hc] at h ⊢
   by_cases hl : line ≠ []
   ·rw [if_pos hl] at h ⊢
    exact cutE_true r _ _ _ h
   ·rw [if_neg hl] at h ⊢
    by_cases hp : pack = []
    ·rw [if_pos hp]
    ·rw [if_neg hp] at h ⊢
     exact cutE_true r _ _ _ h
  ·rw [if_neg hc] at h ⊢
   exact cutE_true r _ _ _ h

@[simp] abbrev cPl (p : Ls) : List C := [sT false false p]
@[simp] abbrev sPl (nl fu : Bool) (P : List Ls) : C := .sl nl fu (P.map cPl)
def encCut (l : List UInt8) : C := if cutE l [] [] = true then .tup [.sl true true [], .bool false] else .tup [sPl (cutV l).1.isEmpty false (cutV l).1, .bool (cutV l).2]

structure CutX where
 i : Nat
 out : List Ls
 pack : Ls
 line : List UInt8

theorem q_cut23 (l : List UInt8) (hn : l.length ≤ 1000000) : Pure Tryz.prog 23 [encS l] (encCut l) := by
 have hsz := S_size l
 have hE : cutE l [] [] = cutE (l.drop 0) [] [] := by rw [List.drop_zero]
 have hV : cutV l = cutS (l.drop 0) [] [] [] := by rw [List.drop_zero]; rfl
 unfold encCut
 generalize cutE l [] [] = E at *
 generalize cutV l = V at *
 refine ZF (fn := Tryz.f23) [.tmp 2, .tmp 3] ⟨Tryz.func23, rfl, by kernel_rfl⟩ fun x hx hσ => ?_
 (repeat refine ZQ ?_); refine ZR fun K hK => ?_; simp (maxSteps := 1000000) [ty42, ty4]; refine hK _ ?_; clear hK K
 (repeat refine ZQ ?_); refine ZR fun K hK => ?_; simp (maxSteps := 1000000) [ty42]; refine hK _ ?_; clear hK K
 (repeat refine ZQ ?_); refine ZR fun K hK => ?_; simp (maxSteps := 1000000) [ty22]; refine hK _ ?_; clear hK K
 (repeat refine ZQ ?_); refine ZR fun K hK => ?_; simp (maxSteps := 1000000) [ty9, ty4]; refine hK _ ?_; clear hK K
 (repeat refine ZQ ?_); refine ZR fun K hK => ?_; simp (maxSteps := 1000000) [ty3]; refine hK _ ?_; clear hK K
 (repeat refine ZQ ?_); refine awp_block ?_
 refine AWP.weak ?_ (wk_nil 4 4 1 (fu := true) (by simp) (by simp))
 refine AWP.weak ?_ (wk_nil 5 5 1 (fu := true) (by simp) (by simp))
 refine awp_loop (fun X : CutX => ⟨ofL [(0, encS l), (4, .own 4 1 0 X.out.length), (5, .own 5 1 0 X.pack.length), (6, encS X.line), (7, .bool (!decide (X.pack = [] ∧ X.line = []))), (8, encI X.i)],
  stoT [(4, 4, .live ⟨X.out.isEmpty, false, 1, X.out.map cPl⟩), (5, 5, .live ⟨X.pack.isEmpty, false, 1, X.pack.map cS⟩)]⟩)
  (fun X => X.i ≤ l.length ∧ X.out.length ≤ X.i ∧ X.pack.length ≤ X.i ∧ X.line.length ≤ X.i ∧ E = cutE (l.drop X.i) X.pack X.line ∧ V = cutS (l.drop X.i) X.out X.pack X.line) (fun X => l.length - X.i) ⟨0, [], [], []⟩ ⟨Nat.zero_le _, Nat.le_refl _, Nat.le_refl _, Nat.le_refl _, hE, hV⟩ ?_ ?_
 ·exact ZW
 ·rintro ⟨i, out, pack, line⟩ ⟨hi, ho, hp, hl, gE, gV⟩
  simp only at hi ho hp hl gE gV ⊢
  obtain ⟨i1, hi1⟩ : ∃ i1, i + 1 = i1 := ⟨_, rfl⟩
  have w1 : IntKind.i64.wrap ((i : Int) + 1) = (i1 : Int) := by rw [wrap_id (by omega) (by omega)]; omega
  (repeat refine ZQ ?_); refine ZR fun K hK => ?_; simp (maxSteps := 1000000) [ty9, ty3, hsz]; refine hK _ ?_; clear hK K; (first | show AWP _ _ _ _ _ | show ∃ _, _ | skip)
  by_cases hlt : i < l.length
  ·have hlt' : (i : Int) < l.length := by omega
   (repeat refine ZQ ?_); refine ZC (hc := by simp [hlt]; rfl) (fun hd => ?_) (fun hd => ?_)
   ·clear hd
    have g := S_at hlt
    have hx1 := S_ext l i i1
    have hle1 : i ≤ i1 := by omega
    have hle2 : i1 ≤ l.length := by omega
    have hx2 : (l.take i1).drop i = [l[i]] := by
     rw [← hi1, List.take_succ_eq_append_getElem hlt, List.drop_left' (by simp; omega)]
    rw [hx2] at hx1
    have hdr : l.drop i = l[i] :: l.drop i1 := hi1 ▸ List.drop_eq_getElem_cons hlt
    rw [hdr] at gE gV
    unfold cutE at gE
    unfold cutS at gV
    have hb := (l[i]).toNat_lt
    have ha := str_add (a := line) (b := [l[i]]) (by simp; omega)
    have hne : (((l[i]).toNat : Int) != 10) = !decide (l[i] = 10) := by
     rw [Bool.eq_iff_iff]
     simp only [bne_iff_ne, Bool.not_eq_true', decide_eq_false_iff_not]
     constructor
     ·rintro h rfl'; rw [rfl'] at h; exact h rfl
     ·intro h h2; exact h (UInt8.toNat_inj.1 (by show (l[i]).toNat = 10; omega))
    generalize l[i] = c at *
    generalize hr : l.drop i1 = r at *
    generalize hlc : [c] = lc at hx1 ha gE gV
    refine awp_skip ?_
    (repeat refine ZQ ?_); refine awp_block ?_
    by_cases hc : c = 10
    ·rw [if_pos hc] at gE gV
     rw [decide_eq_true hc] at hne
     (repeat refine ZQ ?_); refine ZR fun K hK => ?_; simp (maxSteps := 1000000) [ty9, ty3, ty5, hne, g]; refine hK _ ?_; clear hK K
     (repeat refine ZQ ?_); refine ZC (fun hd => ?_) (fun hd => ?_)
     ·simp at hd
     ·clear hd
      refine awp_skip ?_; (first | show AWP _ _ _ _ _ | show ∃ _, _ | skip)
      have hs := str_ne line []
      by_cases hl0 : line = []
      ·have hsn : (!(line == [])) = false := by rw [hl0]; rfl
       rw [hsn] at hs
       rw [if_neg (by simp [hl0])] at gE gV
       (repeat refine ZQ ?_); refine ZR fun K hK => ?_; simp (maxSteps := 1000000) [ty9, hs, -strBin]; refine hK _ ?_; clear hK K
       (repeat refine ZQ ?_); refine ZC (fun hd => ?_) (fun hd => ?_)
       ·simp at hd
       ·clear hd
        refine awp_skip ?_; (first | show AWP _ _ _ _ _ | show ∃ _, _ | skip)
        by_cases hp0 : pack = []
        ·rw [if_pos hp0] at gE gV
         rw [gE, if_pos rfl]
         (repeat refine ZQ ?_); refine ZR fun K hK => ?_; simp (maxSteps := 1000000) [ty22, ty3, hp0]; refine hK _ ?_; clear hK K
         (repeat refine ZQ ?_); refine ZC (fun hd => ?_) (fun hd => ?_)
         ·clear hd
          (repeat refine ZQ ?_); refine ZR fun K hK => ?_; simp (maxSteps := 1000000) [ty42, ty4]; refine hK _ ?_; clear hK K
          (repeat refine ZQ ?_); refine awp_ret ?_; refine And.intro (Or.inr rfl) ?_
          simp [retC, resC, viewC, mapO]
         ·simp at hd
        ·rw [if_neg hp0] at gE gV
         have hpl : 0 < pack.length := List.length_pos_iff.2 hp0
         have hpz : ((pack.length : Int) == 0) = false := by rw [beq_eq_false_iff_ne]; omega
         have hpe : pack.isEmpty = false := by simpa using hp0
         (repeat refine ZQ ?_); refine ZR fun K hK => ?_; simp (maxSteps := 1000000) [ty22, ty3, hpz]; refine hK _ ?_; clear hK K
         (repeat refine ZQ ?_); refine ZC (fun hd => ?_) (fun hd => ?_)
         ·simp at hd
         ·clear hd
          refine awp_skip ?_; (first | show AWP _ _ _ _ _ | show ∃ _, _ | skip)
          refine AWP.weak ?_ (wk_frz 5 5 (c := sT false false pack) (o := ⟨pack.isEmpty, false, 1, pack.map cS⟩) (by simp) (by simp [purel, C.isPure]) (by
           have := fz_own (k := 5) (sz := 1) (n := pack.length) (b := false) (o := ⟨pack.isEmpty, false, 1, pack.map cS⟩) rfl (by simp) (by simp [hp0])
           simpa using this))
          (repeat refine ZQ ?_); refine ZR fun K hK => ?_; simp (maxSteps := 1000000) [ty42, ty22, ty4]
          refine ⟨by omega, ?_⟩
          refine hK _ ?_; clear hK K
          (repeat refine ZQ ?_); refine ZR fun K hK => ?_; simp (maxSteps := 1000000) [ty3, w1]; refine hK _ ?_; clear hK K; (first | show AWP _ _ _ _ _ | show ∃ _, _ | skip)
          refine ⟨⟨i1, out ++ [pack], [], []⟩, ⟨by simp; omega, by simp; omega, by simp, by simp, by simp only [hr]; exact gE, by simp only [hr]; exact gV⟩, by simp; omega, ?_⟩
          refine Wk.trans (t := ⟨ofL [(0, encS l), (4, .own 4 1 0 (out ++ [pack]).length), (5, .sl true true []), (6, encS []), (7, .bool false), (8, encI i1)],
           stoT [(4, 4, .live ⟨(out ++ [pack]).isEmpty, false, 1, (out ++ [pack]).map cPl⟩)]⟩) ?_ (Wk.trans (wk_nil 5 5 1 (fu := true) (by simp) (by simp)) ?_)
          ·refine wk_shape2 [(4, 38, .live ⟨(out ++ [pack]).isEmpty, false, 1, (out ++ [pack]).map cPl⟩)] (by first | rfl | (simp only [if_pos, if_true, hl0]; rfl)) (shp0 hσ (by simp) (by simp) ?_) ?_
           ·simp [SlotOk, hl0] <;> (repeat' (first | (refine RowsOk.same ?_; simp [purel, C.isPure]; done) | (refine rowsCons ?_; simp [mtl, mtc, mT, mH, C.isPure, purel]; done) | (refine rowsCons ?_; simp [mtl, mtc, mT, mH, C.isPure, purel]) | refine And.intro ?_ ?_))
           ·simp [mtc, mtl, mT, C.isPure, purel, hl0] <;> (try simp (disch := omega) [wrap_id]) <;> (try omega)
          ·exact ZW
      ·have hsn : (!(line == [])) = true := by simpa using hl0
       rw [hsn] at hs
       rw [if_pos hl0] at gE gV
       (repeat refine ZQ ?_); refine ZR fun K hK => ?_; simp (maxSteps := 1000000) [ty9, hs, -strBin]; refine hK _ ?_; clear hK K
       (repeat refine ZQ ?_); refine ZC (fun hd => ?_) (fun hd => ?_)
       ·clear hd
        (repeat refine ZQ ?_); refine ZR fun K hK => ?_; simp (maxSteps := 1000000) [ty22, ty9]
        refine ⟨by omega, ?_⟩
        refine hK _ ?_; clear hK K
        (repeat refine ZQ ?_); refine awp_exit ?_
        (repeat refine ZQ ?_); refine ZR fun K hK => ?_; simp (maxSteps := 1000000) [ty3, w1]; refine hK _ ?_; clear hK K; (first | show AWP _ _ _ _ _ | show ∃ _, _ | skip)
        refine ⟨⟨i1, out, pack ++ [line], []⟩, ⟨by simp; omega, by simp; omega, by simp; omega, by simp, by simp only [hr]; exact gE, by simp only [hr]; exact gV⟩, by simp; omega, ?_⟩
        refine wk_shape2 [(4, 4, .live ⟨out.isEmpty, false, 1, out.map cPl⟩), (5, 31, .live ⟨(pack ++ [line]).isEmpty, false, 1, (pack ++ [line]).map cS⟩)] (by first | rfl | (simp only [if_pos, if_true, hl0]; rfl)) (shp0 hσ (by simp) (by simp) ?_) ?_
        ·simp [SlotOk, hl0] <;> (repeat' (first | (refine RowsOk.same ?_; simp [purel, C.isPure]; done) | (refine rowsCons ?_; simp [mtl, mtc, mT, mH, C.isPure, purel]; done) | (refine rowsCons ?_; simp [mtl, mtc, mT, mH, C.isPure, purel]) | refine And.intro ?_ ?_))
        ·simp [mtc, mtl, mT, C.isPure, purel, hl0] <;> (try simp (disch := omega) [wrap_id]) <;> (try omega)
       ·simp at hd
    ·rw [if_neg hc] at gE gV
     rw [decide_eq_false hc] at hne
     (repeat refine ZQ ?_); refine ZR fun K hK => ?_; simp (maxSteps := 1000000) [ty9, ty3, ty5, hne, g]; refine hK _ ?_; clear hK K
     (repeat refine ZQ ?_); refine ZC (fun hd => ?_) (fun hd => ?_)
     ·clear hd
      (repeat refine ZQ ?_); refine ZR fun K hK => ?_; simp (maxSteps := 1000000) [ty9, ty3, ty4, w1, hx1, ha, hsz, hle1, hle2, -strBin]; refine hK _ ?_; clear hK K
      (repeat refine ZQ ?_); refine awp_exit ?_
      (repeat refine ZQ ?_); refine ZR fun K hK => ?_; simp (maxSteps := 1000000) [ty3, w1]; refine hK _ ?_; clear hK K; (first | show AWP _ _ _ _ _ | show ∃ _, _ | skip)
      have hlcn : lc ≠ [] := by rw [← hlc]; simp
      refine ⟨⟨i1, out, pack, line ++ lc⟩, ⟨by simp; omega, by simp; omega, by simp; omega, by simp [← hlc]; omega, by simp only [hr]; exact gE, by simp only [hr]; exact gV⟩, by simp; omega, ?_⟩
      refine wk_shape (shp0 hσ (by simp) (by simp) ?_) ?_
      ·simp [SlotOk, hlcn] <;> (repeat' (first | (refine RowsOk.same ?_; simp [purel, C.isPure]; done) | (refine rowsCons ?_; simp [mtl, mtc, mT, mH, C.isPure, purel]; done) | (refine rowsCons ?_; simp [mtl, mtc, mT, mH, C.isPure, purel]) | refine And.intro ?_ ?_))
      ·simp [mtc, mtl, mT, C.isPure, purel, hlcn] <;> (try simp (disch := omega) [wrap_id]) <;> (try omega)
     ·simp at hd
   ·simp [hlt] at hd
  ·have hin : i = l.length := by omega
   subst hin
   rw [List.drop_length] at gE gV
   simp only [cutE] at gE
   simp only [cutS] at gV
   (repeat refine ZQ ?_); refine ZC (fun hd => ?_) (fun hd => ?_)
   ·simp at hd
   ·clear hd
    (repeat refine ZQ ?_); refine awp_exit ?_; (first | show AWP _ _ _ _ _ | show ∃ _, _ | skip)
    rw [gE, if_neg (by simp), gV]
    have hpu : (out.map cPl).all purel = true := all_purel_map fun _ => rfl
    have ht : List.take out.length (out.map cPl) = out.map cPl := List.take_of_length_le (by simp)
    (repeat refine ZQ ?_); refine ZR fun K hK => ?_; simp (maxSteps := 1000000) [ty42, ty4]; refine hK _ ?_; clear hK K
    (repeat refine ZQ ?_); refine awp_ret ?_; refine And.intro (Or.inr rfl) ?_
    simp [retC, resC, viewC, mapO, hpu, ht]

set_option maxHeartbeats 8000000
set_option maxRecDepth 20000


set_option maxHeartbeats 4000000
set_option maxRecDepth 20000


theorem getD_mem {α : Type} {l : List α} {i : Nat} {d : α} (h : i < l.length) : l.getD i d ∈ l := by
 rw [List.getD_eq_getElem?_getD, List.getElem?_eq_getElem h, Option.getD_some]
 exact List.getElem_mem h

def manyG (l : List UInt8) : Nat := (l.getD 1 0).toNat - 48
def gd (ls : Ls) : Ls := ls.filter parseOk
theorem good_ok {l : List UInt8} (h : parseOk l = true) : 6 ≤ l.length ∧ l.length ≤ 129 ∧ parseC l = headC l ∧ 1 ≤ manyG l ∧ manyG l ≤ 8 ∧ ((headC l).many = manyG l) ∧ rowLenB l = longN (headC l) ∧ 2 ≤ rowLenB l ∧ rowLenB l ≤ 62 ∧ plainB l = true ∧
  (headC l).num = numB l ∧ (headC l).row = bodyB l ∧ bodyB l ≠ [] ∧ (isSumB l = true → digB (bodyB l) = true ∧ (bodyB l).length = 2 * rowLenB l) ∧ (isSumB l = false → (bodyB l).length = rowLenB l ∧ 49 ≤ (numB l).toNat ∧ (numB l).toNat ≤ 48 + manyG l) := by
 have h0 := h
 unfold parseOk at h
 simp only [Bool.and_eq_true, Bool.not_eq_true', decide_eq_true_eq] at h
 obtain ⟨⟨⟨⟨h1, h2⟩, h3⟩, h4⟩, h5⟩ := h
 have hC : parseC l = headC l := by unfold parseC; rw [h1, h2, h3]; rfl
 unfold bad1 at h1
 simp only [Bool.or_eq_false_iff, decide_eq_false_iff_not, Bool.not_eq_false'] at h1
 obtain ⟨h6, hp⟩ := h1
 have hl : (bodyB l).length = l.length - 4 := by unfold bodyB; simp; omega
 have hn : numB l = l.getD 0 0 := by
  unfold numB
  cases l <;> rfl
 have hs : sumN (headC l).num = isSumB l := by
  unfold isSumB; rw [hn]; rfl
 have hr : (headC l).row = bodyB l := rfl
 have hR : rowLenB l = longN (headC l) := by
  unfold rowLenB longN
  rw [hs, hr, hl]
 unfold bad2 at h2
 simp only [Bool.or_eq_false_iff, decide_eq_false_iff_not] at h2
 have hmm : (headC l).many = ((l.getD 1 0).toNat : Int) - 48 := rfl
 have hm1 : 1 ≤ manyG l ∧ manyG l ≤ 8 ∧ (headC l).many = manyG l := by unfold manyG; omega
 unfold bad3 at h3
 rw [hs, hr] at h3
 rw [← hR] at h4 h5
 have h7 := h5
 unfold rowLenB at h7
 refine ⟨by omega, ?_, hC, hm1.1, hm1.2.1, hm1.2.2, hR, h4, h5, hp, hn.symm, hr, fun e => ?_, fun hS => ?_, fun hS => ?_⟩
 ·split at h7 <;> omega
 ·rw [e] at hl; simp at hl; omega
 ·rw [hS, if_pos rfl] at h3
  simp only [Bool.or_eq_false_iff, Bool.not_eq_false', beq_eq_false_iff_ne] at h3
  refine ⟨h3.2, ?_⟩
  unfold rowLenB
  rw [hS, if_pos rfl]
  omega
 ·rw [hS] at h3
  simp only [Bool.false_eq_true, if_false, Bool.or_eq_false_iff, decide_eq_false_iff_not] at h3
  refine ⟨by unfold rowLenB; rw [hS, hl]; simp, ?_, ?_⟩
  ·have : (headC l).num = numB l := hn.symm
   rw [this] at h3; omega
  ·have : (headC l).num = numB l := hn.symm
   rw [this] at h3; omega

set_option maxHeartbeats 8000000
set_option maxRecDepth 20000


set_option maxHeartbeats 8000000
set_option maxRecDepth 20000


set_option maxHeartbeats 4000000
set_option maxRecDepth 20000


set_option maxHeartbeats 4000000
set_option maxRecDepth 20000


set_option maxHeartbeats 8000000
set_option maxRecDepth 20000


structure RsX where
 k : Nat
 F : Ls
structure RtX where
 i : Nat
 T : Ls

set_option maxHeartbeats 8000000
set_option maxRecDepth 20000


def mkPk (p : Ls) : Pk := ⟨false, false, p⟩
theorem mk_rows (P : List Ls) : P.map cPl = (P.map mkPk).map cPk := by rw [List.map_map]; rfl
theorem mk_wr (P : List Ls) : writtenB (P.map mkPk) = wrL P := by
 unfold writtenB wrL
 rw [List.flatMap_map]; rfl


set_option maxHeartbeats 8000000
set_option maxRecDepth 20000



def mk1 (p : Ls) : Pk := ⟨false, true, p⟩
section
variable {f g : Ls → Pk} (hf : ∀ p, (f p).l = p) (hg : ∀ p, (g p).l = p) (Q : List Ls)
include hf hg
end

def rQ (l : List UInt8) : List Ls := (cutV l).1
theorem cut_rP {l : List UInt8} (h : (cutV l).2 = true) : (cutB l).isSome = true ∧ rP l = (rQ l).map mk1 := by
 unfold rP rQ
 rw [cutB_cutV, if_pos h]
 exact ⟨rfl, rfl⟩
theorem encCut_ok {l : List UInt8} (h : (cutV l).2 = true) : encCut l = .tup [sPl (rQ l).isEmpty false (rQ l), .bool true] := by
 unfold encCut rQ
 rw [h]
 cases hc : cutE l [] [] with
 | false => rw [if_neg (by simp)]
 | true =>
  have := cutE_true l [] [] [] hc
  unfold cutV at h
  rw [this] at h; cases h
theorem cut_bdQ {l : List UInt8} (hn : l.length ≤ 50000) (h : (cutV l).2 = true) : (rQ l).length ≤ 100000 ∧ ∀ p ∈ rQ l, p.length ≤ 100000 ∧ ∀ x ∈ p, x.length ≤ 100000 := by
 obtain ⟨_, e⟩ := cut_rP h
 have h1 := cut_len hn
 have h2 := fun p => cut_bd hn (p := p)
 have e0 : (cutB l).getD [] = rP l := rfl
 rw [e0, e] at h1 h2
 refine ⟨by simpa using h1, fun p hp => ?_⟩
 exact h2 (mk1 p) (List.mem_map_of_mem hp)

set_option maxHeartbeats 8000000
set_option maxRecDepth 20000


theorem rowsOk_ix {m : Nat → Nat → Prop} : ∀ {r s : List (List C)}, s.length = r.length → (∀ i (h1 : i < r.length) (h2 : i < s.length), mtl m r[i] s[i] ∧ s[i].all C.cell = true) → RowsOk m r s
 | [], [], _, _ => .nil
 | [], _ :: _, h, _ => by simp at h
 | _ :: _, [], h, _ => by simp at h
 | a :: r, b :: s, h, hi => .cons (hi 0 (by simp) (by simp)).1 (hi 0 (by simp) (by simp)).2 (rowsOk_ix (by simpa using h) fun i h1 h2 => hi (i + 1) (by simpa using h1) (by simpa using h2))

noncomputable def pkR (P : List Ls) : List (List C) := (List.range P.length).map fun e => [.own (fk e) 1 0 (P.getD e []).length]
def pkM (P : List Ls) (e : Nat) : Slot := .live ⟨false, false, 1, (P.getD e []).map cS⟩
theorem pkR_len (P : List Ls) : (pkR P).length = P.length := by simp [pkR]
theorem pkR_get {P : List Ls} {e : Nat} (h : e < P.length) (h2 : e < (pkR P).length) : (pkR P)[e] = [.own (fk e) 1 0 (P.getD e []).length] := by simp [pkR]
theorem pkR_same {m : Nat → Nat → Prop} {P : List Ls} (h : ∀ e, e < P.length → m (fk e) (fk e)) : RowsOk m (pkR P) (pkR P) := by
 refine rowsOk_ix rfl fun i h1 h2 => ?_
 have hi : i < P.length := by simpa [pkR_len] using h1
 rw [pkR_get hi]
 exact ⟨⟨⟨h i hi, rfl, rfl, rfl⟩, trivial⟩, rfl⟩
theorem pkR_new {m : Nat → Nat → Prop} {P : List Ls} {p : Ls} {q : Nat} (hq : m (fk P.length) q) (h : ∀ e, e < P.length → m (fk e) (fk e)) : RowsOk m (pkR P ++ [[.own q 1 0 p.length]]) (pkR (P ++ [p])) := by
 refine rowsOk_ix (by simp [pkR_len]) fun i h1 h2 => ?_
 have hi : i < P.length + 1 := by simpa [pkR_len] using h2
 rw [pkR_get (by simpa using hi)]
 by_cases e : i < P.length
 ·rw [List.getElem_append_left (by simpa [pkR_len] using e), pkR_get e]
  have : (P ++ [p]).getD i [] = P.getD i [] := by simp [List.getD_eq_getElem?_getD, List.getElem?_append_left e]
  rw [this]
  exact ⟨⟨⟨h i e, rfl, rfl, rfl⟩, trivial⟩, rfl⟩
 ·have hie : i = P.length := by omega
  subst hie
  rw [List.getElem_append_right (by simp [pkR_len])]
  have : (P ++ [p]).getD P.length [] = p := by simp [List.getD_eq_getElem?_getD]
  rw [this]
  simp only [pkR_len, Nat.sub_self, List.getElem_cons_zero]
  exact ⟨⟨⟨hq, rfl, rfl, rfl⟩, trivial⟩, rfl⟩

theorem pkM_ok (m : Nat → Nat → Prop) (P : List Ls) (e : Nat) : SlotOk m (pkM P e) (pkM P e) := ⟨rfl, rfl, rfl, .same (all_purel_map fun _ => rfl)⟩

theorem stoT_O : ∀ {T : List (Nat × Nat × Slot)} {l : List (Nat × Ob)}, T.map (fun p => (p.1, p.2.2)) = l.map (fun p => (p.1, Slot.live p.2)) → stoT T = stoO l
 | [], [], _ => rfl
 | [], _ :: _, h => by simp at h
 | _ :: _, [], h => by simp at h
 | p :: T, q :: l, h => by
  simp only [List.map_cons, List.cons.injEq, Prod.mk.injEq] at h
  obtain ⟨⟨h1, h2⟩, h3⟩ := h
  have ih := stoT_O h3
  simp only [stoT, stoO, updO]
  rw [ih, h1, h2]

noncomputable def pkL (P : List Ls) : List (Nat × Ob) := (List.range P.length).map fun e => (fk e, (⟨false, false, 1, (P.getD e []).map cS⟩ : Ob))


theorem cutE23 (l : List UInt8) (hn : l.length ≤ 1000000) (hv2 : (cutV l).2 = true) (B : Nat) (hB : B < 3000000) : Eff Tryz.prog 23 [] [encS l] (.tup [.own B 1 0 (rQ l).length, .bool true]) ((B, ⟨(rQ l).isEmpty, false, 1, pkR (rQ l)⟩) :: pkL (rQ l)) := by
 have hsz := S_size l
 have hE0 : cutE l [] [] = false := by
  cases hc : cutE l [] [] with
  | false => rfl
  | true =>
   have := cutE_true l [] [] [] hc
   unfold cutV at hv2
   rw [this] at hv2; cases hv2
 have hE : false = cutE (l.drop 0) [] [] := by rw [List.drop_zero, hE0]
 have hV : cutV l = cutS (l.drop 0) [] [] [] := by rw [List.drop_zero]; rfl
 unfold rQ
 generalize cutV l = V at *
 clear hE0
 refine eff_of_body (fn := Tryz.f23) [.tmp 2, .tmp 3] ⟨Tryz.func23, rfl, by kernel_rfl⟩ (by kernel_rfl) (by kernel_rfl) (by kernel_rfl) ?_ ?_ fun x hx hσ => ?_
 ·simp [wil, C.wi]
 ·simp
 rw [show stoO ([] : List (Nat × Ob)) = freeS from rfl] at hσ ⊢
 (repeat refine ZQ ?_); refine ZR fun K hK => ?_; simp (maxSteps := 1000000) [ty42, ty4]; refine hK _ ?_; clear hK K
 (repeat refine ZQ ?_); refine ZR fun K hK => ?_; simp (maxSteps := 1000000) [ty42]; refine hK _ ?_; clear hK K
 (repeat refine ZQ ?_); refine ZR fun K hK => ?_; simp (maxSteps := 1000000) [ty22]; refine hK _ ?_; clear hK K
 (repeat refine ZQ ?_); refine ZR fun K hK => ?_; simp (maxSteps := 1000000) [ty9, ty4]; refine hK _ ?_; clear hK K
 (repeat refine ZQ ?_); refine ZR fun K hK => ?_; simp (maxSteps := 1000000) [ty3]; refine hK _ ?_; clear hK K
 (repeat refine ZQ ?_); refine awp_block ?_
 refine AWP.weak ?_ (wk_nil 4 4 1 (fu := true) (by simp) (by simp))
 refine AWP.weak ?_ (wk_nil 5 5 1 (fu := true) (by simp) (by simp))
 refine awp_loop (fun X : CutX => ⟨ofL [(0, encS l), (4, .own 4 1 0 X.out.length), (5, .own 5 1 0 X.pack.length), (6, encS X.line), (7, .bool (!decide (X.pack = [] ∧ X.line = []))), (8, encI X.i)],
  famS [(4, 4, .live ⟨X.out.isEmpty, false, 1, pkR X.out⟩), (5, 5, .live ⟨X.pack.isEmpty, false, 1, X.pack.map cS⟩)] X.out.length (pkM X.out)⟩)
  (fun X => X.i ≤ l.length ∧ X.out.length ≤ X.i ∧ X.pack.length ≤ X.i ∧ X.line.length ≤ X.i ∧ false = cutE (l.drop X.i) X.pack X.line ∧ V = cutS (l.drop X.i) X.out X.pack X.line) (fun X => l.length - X.i) ⟨0, [], [], []⟩ ⟨Nat.zero_le _, Nat.le_refl _, Nat.le_refl _, Nat.le_refl _, hE, hV⟩ ?_ ?_
 ·refine wk_fam fk (by simp) (by simp) (by simp) (fun e he => .inl rfl) ?_ ?_ ?_ fun k hk => absurd (by rw [hσ]; rfl) hk
  ·intro e he
   simp at he
  ·simp [SlotOk, pkR]
  ·simp [mtc, mtl, mT, mF, C.isPure, purel]
 ·rintro ⟨i, out, pack, line⟩ ⟨hi, ho, hp, hl, gE, gV⟩
  simp only at hi ho hp hl gE gV ⊢
  obtain ⟨i1, hi1⟩ : ∃ i1, i + 1 = i1 := ⟨_, rfl⟩
  have w1 : IntKind.i64.wrap ((i : Int) + 1) = (i1 : Int) := by rw [wrap_id (by omega) (by omega)]; omega
  (repeat refine ZQ ?_); refine ZR fun K hK => ?_; simp (maxSteps := 1000000) [ty9, ty3, hsz]; refine hK _ ?_; clear hK K; (first | show AWP _ _ _ _ _ | show ∃ _, _ | skip)
  by_cases hlt : i < l.length
  ·have hlt' : (i : Int) < l.length := by omega
   (repeat refine ZQ ?_); refine ZC (hc := by simp [hlt]; rfl) (fun hd => ?_) (fun hd => ?_)
   ·clear hd
    have g := S_at hlt
    have hx1 := S_ext l i i1
    have hle1 : i ≤ i1 := by omega
    have hle2 : i1 ≤ l.length := by omega
    have hx2 : (l.take i1).drop i = [l[i]] := by
     rw [← hi1, List.take_succ_eq_append_getElem hlt, List.drop_left' (by simp; omega)]
    rw [hx2] at hx1
    have hdr : l.drop i = l[i] :: l.drop i1 := hi1 ▸ List.drop_eq_getElem_cons hlt
    rw [hdr] at gE gV
    unfold cutE at gE
    unfold cutS at gV
    have hb := (l[i]).toNat_lt
    have ha := str_add (a := line) (b := [l[i]]) (by simp; omega)
    have hne : (((l[i]).toNat : Int) != 10) = !decide (l[i] = 10) := by
     rw [Bool.eq_iff_iff]
     simp only [bne_iff_ne, Bool.not_eq_true', decide_eq_false_iff_not]
     constructor
     ·rintro h rfl'; rw [rfl'] at h; exact h rfl
     ·intro h h2; exact h (UInt8.toNat_inj.1 (by show (l[i]).toNat = 10; omega))
    generalize l[i] = c at *
    generalize hr : l.drop i1 = r at *
    generalize hlc : [c] = lc at hx1 ha gE gV
    refine awp_skip ?_
    (repeat refine ZQ ?_); refine awp_block ?_
    by_cases hc : c = 10
    ·rw [if_pos hc] at gE gV
     rw [decide_eq_true hc] at hne
     (repeat refine ZQ ?_); refine ZR fun K hK => ?_; simp (maxSteps := 1000000) [ty9, ty3, ty5, hne, g]; refine hK _ ?_; clear hK K
     (repeat refine ZQ ?_); refine ZC (fun hd => ?_) (fun hd => ?_)
     ·simp at hd
     ·clear hd
      refine awp_skip ?_; (first | show AWP _ _ _ _ _ | show ∃ _, _ | skip)
      have hs := str_ne line []
      by_cases hl0 : line = []
      ·have hsn : (!(line == [])) = false := by rw [hl0]; rfl
       rw [hsn] at hs
       rw [if_neg (by simp [hl0])] at gE gV
       (repeat refine ZQ ?_); refine ZR fun K hK => ?_; simp (maxSteps := 1000000) [ty9, hs, -strBin]; refine hK _ ?_; clear hK K
       (repeat refine ZQ ?_); refine ZC (fun hd => ?_) (fun hd => ?_)
       ·simp at hd
       ·clear hd
        refine awp_skip ?_; (first | show AWP _ _ _ _ _ | show ∃ _, _ | skip)
        by_cases hp0 : pack = []
        ·rw [if_pos hp0] at gE
         cases gE
        ·rw [if_neg hp0] at gE gV
         have hpl : 0 < pack.length := List.length_pos_iff.2 hp0
         have hpz : ((pack.length : Int) == 0) = false := by rw [beq_eq_false_iff_ne]; omega
         have hpe : pack.isEmpty = false := by simpa using hp0
         have hRl := pkR_len out
         (repeat refine ZQ ?_); refine ZR fun K hK => ?_; simp (maxSteps := 1000000) [ty22, ty3, hpz]; refine hK _ ?_; clear hK K
         (repeat refine ZQ ?_); refine ZC (fun hd => ?_) (fun hd => ?_)
         ·simp at hd
         ·clear hd
          refine awp_skip ?_
          (repeat refine ZQ ?_); refine ZR fun K hK => ?_; simp (maxSteps := 1000000) [ty42, ty22, ty4, hRl]
          refine ⟨by omega, ?_⟩
          refine hK _ ?_; clear hK K
          (repeat refine ZQ ?_); refine ZR fun K hK => ?_; simp (maxSteps := 1000000) [ty3, w1]; refine hK _ ?_; clear hK K; (first | show AWP _ _ _ _ _ | show ∃ _, _ | skip)
          refine ⟨⟨i1, out ++ [pack], [], []⟩, ⟨by simp; omega, by simp; omega, by simp, by simp, by simp only [hr]; exact gE, by simp only [hr]; exact gV⟩, by simp; omega, ?_⟩
          refine Wk.trans (t := ⟨ofL [(0, encS l), (4, .own 4 1 0 (out ++ [pack]).length), (5, .sl true true []), (6, encS []), (7, .bool false), (8, encI i1)], famS [(4, 38, .live ⟨false, false, 1, pkR (out ++ [pack])⟩)] (out ++ [pack]).length (pkM (out ++ [pack]))⟩) ?_ (Wk.trans (wk_nil 5 5 1 (fu := true) (by simp) (by simp)) ?_)
          ·refine wk_fam (fun e => if e = out.length then 5 else fk e) (by simp) (by simp) (by simp) ?_ ?_ ?_ ?_ fun k hk => absurd (by rw [hσ]; rfl) hk
           ·intro e he
            by_cases hej : e = out.length
            ·subst hej
             refine .inr ⟨by simp, by simp, fun e' _ h => ?_⟩
             simp only [if_true] at h
             split at h
             ·assumption
             ·simp at h
            ·simp [hej]
           ·intro e he
            by_cases hej : e = out.length
            ·subst hej
             simp [pkM, SlotOk, hpe]
             exact .same (all_purel_map fun _ => rfl)
            ·have he2 : e < out.length := by simp at he; omega
             have hq : pkM (out ++ [pack]) e = pkM out e := by unfold pkM; simp [List.getD_eq_getElem?_getD, List.getElem?_append_left he2]
             simp [hej, he2, hq]
             exact pkM_ok _ _ _
           ·simp [SlotOk]
            exact pkR_new (mF_M (by first | omega | simp) (if_pos rfl)) fun e he => mF_M (by first | omega | (simp; omega)) (if_neg (by omega))
           ·simp [mtc, mtl, mT, mF, C.isPure, purel, hl0]
          ·refine wk_fam (T := [(4, 4, .live ⟨(out ++ [pack]).isEmpty, false, 1, pkR (out ++ [pack])⟩), (5, 5, .live ⟨true, false, 1, []⟩)]) fk (by simp) (by simp) (by simp) (fun e he => .inl rfl) ?_ ?_ ?_ fun k hk => absurd (by rw [hσ]; rfl) hk
           ·intro e he
            have he2 : e < out.length + 1 := by simpa using he
            simp [he2]
            exact pkM_ok _ _ _
           ·simp [SlotOk]
            exact pkR_same fun e he => mF_M (by first | omega | (simp at he ⊢; omega)) rfl
           ·simp [mtc, mtl, mT, mF, C.isPure, purel]
      ·have hsn : (!(line == [])) = true := by simpa using hl0
       rw [hsn] at hs
       rw [if_pos hl0] at gE gV
       (repeat refine ZQ ?_); refine ZR fun K hK => ?_; simp (maxSteps := 1000000) [ty9, hs, -strBin]; refine hK _ ?_; clear hK K
       (repeat refine ZQ ?_); refine ZC (fun hd => ?_) (fun hd => ?_)
       ·clear hd
        (repeat refine ZQ ?_); refine ZR fun K hK => ?_; simp (maxSteps := 1000000) [ty22, ty9]
        refine ⟨by omega, ?_⟩
        refine hK _ ?_; clear hK K
        (repeat refine ZQ ?_); refine awp_exit ?_
        (repeat refine ZQ ?_); refine ZR fun K hK => ?_; simp (maxSteps := 1000000) [ty3, w1]; refine hK _ ?_; clear hK K; (first | show AWP _ _ _ _ _ | show ∃ _, _ | skip)
        refine ⟨⟨i1, out, pack ++ [line], []⟩, ⟨by simp; omega, by simp; omega, by simp; omega, by simp, by simp only [hr]; exact gE, by simp only [hr]; exact gV⟩, by simp; omega, ?_⟩
        refine wk_fam (T := [(4, 4, .live ⟨out.isEmpty, false, 1, pkR out⟩), (5, 31, .live ⟨(pack ++ [line]).isEmpty, false, 1, (pack ++ [line]).map cS⟩)]) fk (by simp) (by simp) (by simp) (fun e he => .inl rfl) ?_ ?_ ?_ fun k hk => absurd (by rw [hσ]; rfl) hk
        ·intro e he
         simp [he]
         exact pkM_ok _ _ _
        ·simp [SlotOk]
         exact ⟨pkR_same fun e he => mF_M he rfl, .same (by simp [purel, C.isPure])⟩
        ·simp [mtc, mtl, mT, mF, C.isPure, purel, hl0]
       ·simp at hd
    ·rw [if_neg hc] at gE gV
     rw [decide_eq_false hc] at hne
     (repeat refine ZQ ?_); refine ZR fun K hK => ?_; simp (maxSteps := 1000000) [ty9, ty3, ty5, hne, g]; refine hK _ ?_; clear hK K
     (repeat refine ZQ ?_); refine ZC (fun hd => ?_) (fun hd => ?_)
     ·clear hd
      (repeat refine ZQ ?_); refine ZR fun K hK => ?_; simp (maxSteps := 1000000) [ty9, ty3, ty4, w1, hx1, ha, hsz, hle1, hle2, -strBin]; refine hK _ ?_; clear hK K
      (repeat refine ZQ ?_); refine awp_exit ?_
      (repeat refine ZQ ?_); refine ZR fun K hK => ?_; simp (maxSteps := 1000000) [ty3, w1]; refine hK _ ?_; clear hK K; (first | show AWP _ _ _ _ _ | show ∃ _, _ | skip)
      have hlcn : lc ≠ [] := by rw [← hlc]; simp
      refine ⟨⟨i1, out, pack, line ++ lc⟩, ⟨by simp; omega, by simp; omega, by simp; omega, by simp [← hlc]; omega, by simp only [hr]; exact gE, by simp only [hr]; exact gV⟩, by simp; omega, ?_⟩
      refine wk_fam (T := [(4, 4, .live ⟨out.isEmpty, false, 1, pkR out⟩), (5, 5, .live ⟨pack.isEmpty, false, 1, pack.map cS⟩)]) fk (by simp) (by simp) (by simp) (fun e he => .inl rfl) ?_ ?_ ?_ fun k hk => absurd (by rw [hσ]; rfl) hk
      ·intro e he
       simp [he]
       exact pkM_ok _ _ _
      ·simp [SlotOk]
       exact ⟨pkR_same fun e he => mF_M he rfl, .same (all_purel_map fun _ => rfl)⟩
      ·simp [mtc, mtl, mT, mF, C.isPure, purel, hlcn]
     ·simp at hd
   ·simp [hlt] at hd
  ·have hin : i = l.length := by omega
   subst hin
   rw [List.drop_length] at gE gV
   simp only [cutS] at gV
   (repeat refine ZQ ?_); refine ZC (fun hd => ?_) (fun hd => ?_)
   ·simp at hd
   ·clear hd
    (repeat refine ZQ ?_); refine awp_exit ?_
    (repeat refine ZQ ?_); refine ZR fun K hK => ?_; simp (maxSteps := 1000000) [ty42, ty4]; refine hK _ ?_; clear hK K
    (repeat refine ZQ ?_); refine awp_ret ?_; refine And.intro (Or.inr rfl) ?_
    have hV1 : V.1 = out := by rw [gV]
    have hV2 : pack = [] ∧ line = [] := by rw [gV] at hv2; simpa using hv2
    rw [hV1]
    obtain ⟨e1, e2⟩ := hV2
    refine ⟨.tup [.own 4 1 0 out.length, .bool true], (B, 4, .live ⟨out.isEmpty, false, 1, pkR out⟩) :: (List.range out.length).map (fun e => (fk e, fk e, pkM out e)), ?_, shp0 hσ ?_ ?_ ?_, ?_, stoT_O ?_⟩
    ·simp [retC, resC, viewC, mapO, e1, e2]
    ·simp only [List.map_cons, List.map_map, List.nodup_cons]
     refine ⟨?_, ?_⟩
     ·simp only [List.mem_map, not_exists, not_and]
      intro e _ h
      simp only [Function.comp] at h
      rw [fk_eq] at h; omega
     ·exact List.pairwise_map.2 (List.nodup_range.imp fun h e => h (by simpa using e))
    ·simp only [List.map_cons, List.map_map, List.nodup_cons]
     refine ⟨?_, ?_⟩
     ·simp only [List.mem_map, not_exists, not_and]
      intro e _ h
      simp only [Function.comp] at h
      rw [fk_eq] at h; omega
     ·exact List.pairwise_map.2 (List.nodup_range.imp fun h e => h (by simpa using e))
    ·intro q hq
     rcases List.mem_cons.1 hq with rfl | hq
     ·simp [SlotOk]
      exact pkR_same fun e he => mem_mT.2 ⟨pkM out e, List.mem_cons_of_mem _ (List.mem_map.2 ⟨e, List.mem_range.2 he, rfl⟩)⟩
     ·obtain ⟨e, he, rfl⟩ := List.mem_map.1 hq
      have he := List.mem_range.1 he
      simp [he]
      exact pkM_ok _ _ _
    ·simp [mtc, mtl, mT, C.isPure, purel]
    ·simp only [List.map_cons, List.map_map, pkL]
     rfl

set_option maxHeartbeats 4000000
set_option maxRecDepth 20000


structure Hm where
 pk : Int
 ln : Int
 at_ : Int
 by_ : UInt8
@[simp] abbrev cHm (h : Hm) : List C := [encI h.pk, encI h.ln, encI h.at_, .int .u8 (h.by_.toNat : Int)]

abbrev hasV (b : UInt8) : Bool := plain1 b
abbrev Lns := List (List Int)
def lineA (cur : List Ls) (h : Hm) : List UInt8 := (cur.getD h.pk.toNat []).getD h.ln.toNat []
def badP (cur : List Ls) (h : Hm) : Prop := h.pk < 0 ∨ (cur.length : Int) ≤ h.pk
def badL (cur : List Ls) (h : Hm) : Prop := h.ln < 0 ∨ ((cur.getD h.pk.toNat []).length : Int) ≤ h.ln
def badA (cur : List Ls) (h : Hm) : Prop := ((lineA cur h).length : Int) ≤ h.at_ ∨ hasV h.by_ = false ∨ (lineA cur h).getD h.at_.toNat 0 = h.by_
instance (cur : List Ls) (h : Hm) : Decidable (badP cur h) := inferInstanceAs (Decidable (_ ∨ _))
instance (cur : List Ls) (h : Hm) : Decidable (badL cur h) := inferInstanceAs (Decidable (_ ∨ _))
instance (cur : List Ls) (h : Hm) : Decidable (badA cur h) := inferInstanceAs (Decidable (_ ∨ _))
def newL (s : List UInt8) (a : Nat) (b : UInt8) : List UInt8 := s.take a ++ [b] ++ s.drop (a + 1)
def setP (cur : List Ls) (p q : Nat) (s : List UInt8) : List Ls := cur.set p ((cur.getD p []).set q s)
def addLn (ln : Lns) (h : Hm) : Lns := ln.set h.pk.toNat (ln.getD h.pk.toNat [] ++ [h.ln])

def harm1 (cur : List Ls) (ln : Lns) (h : Hm) : Option (List Ls × Lns) :=
 if badP cur h then none else if badL cur h then none else if h.ln ∈ ln.getD h.pk.toNat [] then none else
 if 0 ≤ h.at_ then (if badA cur h then none else some (setP cur h.pk.toNat h.ln.toNat (newL (lineA cur h) h.at_.toNat h.by_), addLn ln h))
 else some (cur, addLn ln h)
def harmL : List Ls → Lns → List Hm → Option (List Ls × Lns)
 | cur, ln, [] => some (cur, ln)
 | cur, ln, h :: r => match harm1 cur ln h with
  | none => none
  | some u => harmL u.1 u.2 r

def lostH (xs : List Hm) (i k : Nat) : Bool := xs.any fun h => (h.pk == (i : Int)) && ((h.ln == (k : Int)) && decide (h.at_ < 0))
def keepB (xs : List Hm) (i : Nat) (p : Ls) : Ls := ((List.range p.length).filter fun k => !lostH xs i k).map fun k => p.getD k []
def leftF (xs : List Hm) : Nat → List Ls → Option (List Ls)
 | _, [] => some []
 | i, p :: r => if keepB xs i p = [] then none else (leftF xs (i + 1) r).map (keepB xs i p :: ·)
def harmB (P : List Ls) (xs : List Hm) : Option (List Ls × Lns) :=
 if 40 < xs.length then none else
 match harmL P (List.replicate P.length []) xs with
 | none => none
 | some u => (leftF xs 0 u.1).map fun L => (L, u.2)

structure CurOk (n : Nat) (cur : List Ls) : Prop where
 len : cur.length = n
 pk : ∀ p ∈ cur, p ≠ [] ∧ p.length ≤ 20000
 ln : ∀ p ∈ cur, ∀ l ∈ p, l.length ≤ 20000

theorem newL_len {s : List UInt8} {a : Nat} {b : UInt8} (h : a < s.length) : (newL s a b).length = s.length := by
 unfold newL; simp; omega

theorem setP_ok {n : Nat} {cur : List Ls} (hc : CurOk n cur) {p q : Nat} {s : List UInt8} (hp : p < n) (hs : s.length ≤ 20000) : CurOk n (setP cur p q s) := by
 have hm := getD_mem (d := []) (show p < cur.length by rw [hc.len]; exact hp)
 refine ⟨by simp [setP, hc.len], fun x hx => ?_, fun x hx l hl => ?_⟩
 ·unfold setP at hx
  rcases List.mem_or_eq_of_mem_set hx with hx | rfl
  ·exact hc.pk x hx
  ·have := hc.pk _ hm
   refine ⟨fun e => this.1 ?_, by simpa using this.2⟩
   have := congrArg List.length e
   simpa using this
 ·unfold setP at hx
  rcases List.mem_or_eq_of_mem_set hx with hx | rfl
  ·exact hc.ln x hx l hl
  ·rcases List.mem_or_eq_of_mem_set hl with hl | rfl
   ·exact hc.ln _ hm l hl
   ·exact hs

theorem leftF_none {xs : List Hm} {i : Nat} {p : Ls} {r : List Ls} (h : keepB xs i p = []) : leftF xs i (p :: r) = none := by
 rw [leftF, if_pos h]
theorem leftF_some {xs : List Hm} {i : Nat} {p : Ls} {r : List Ls} (h : keepB xs i p ≠ []) : leftF xs i (p :: r) = (leftF xs (i + 1) r).map (keepB xs i p :: ·) := by
 rw [leftF, if_neg h]

def keepTo (xs : List Hm) (i : Nat) (p : Ls) (k : Nat) : Ls := ((List.range k).filter fun k => !lostH xs i k).map fun k => p.getD k []
theorem keepTo_succ (xs : List Hm) (i : Nat) (p : Ls) {k : Nat} (hk : k < p.length) : keepTo xs i p (k + 1) = if lostH xs i k = true then keepTo xs i p k else keepTo xs i p k ++ [p[k]] := by
 unfold keepTo
 rw [List.range_succ, List.filter_append, List.map_append]
 have e : p.getD k [] = p[k] := by simp [List.getD_eq_getElem?_getD, List.getElem?_eq_getElem hk]
 by_cases h : lostH xs i k = true
 ·rw [if_pos h]; simp [List.filter_cons, h]
 ·rw [if_neg h]
  have h2 : (!lostH xs i k) = true := by simpa using h
  simp only [List.filter_cons, List.filter_nil, h2, if_true, List.map_cons, List.map_nil, e]
theorem keepTo_len (xs : List Hm) (i : Nat) (p : Ls) (k : Nat) : (keepTo xs i p k).length ≤ k := by
 unfold keepTo
 rw [List.length_map]
 exact Nat.le_trans (List.length_filter_le _ _) (by simp)

def lostTo14 (xs : List Hm) (i k : Nat) (j : Nat) : Bool := (xs.take j).any fun h => (h.pk == (i : Int)) && ((h.ln == (k : Int)) && decide (h.at_ < 0))
theorem lostTo14_succ (xs : List Hm) (i k : Nat) {j : Nat} (hj : j < xs.length) : lostTo14 xs i k (j + 1) = (lostTo14 xs i k j || ((xs[j].pk == (i : Int)) && ((xs[j].ln == (k : Int)) && decide (xs[j].at_ < 0)))) := by
 unfold lostTo14
 rw [List.take_succ_eq_append_getElem hj, List.any_append]
 simp

theorem pack_fit {P : List Ls} (h : PsOk P) {p : Ls} (hp : p ∈ P) : p.length ≤ (wrL P).length ∧ ∀ x ∈ p, x.length ≤ (wrL P).length := by
 have e : (packL p).length ≤ (wrL P).length := by
  unfold wrL
  induction P with
  | nil => simp at hp
  | cons a r ih =>
   rw [List.flatMap_cons, List.length_append]
   rcases List.mem_cons.1 hp with rfl | hp
   ·omega
   ·have := ih (fun x hx => h x (by simp [hx])) hp; omega
 have e2 : ∀ (q : Ls), q.length ≤ (q.flatMap lineB).length ∧ ∀ x ∈ q, x.length ≤ (q.flatMap lineB).length := fun q => by
  induction q with
  | nil => simp
  | cons a r ih =>
   have hl : (lineB a).length = a.length + 1 := by simp [lineB]
   rw [List.flatMap_cons, List.length_append, List.length_cons, hl]
   refine ⟨by omega, fun x hx => ?_⟩
   rcases List.mem_cons.1 hx with rfl | hx
   ·omega
   ·have := ih.2 x hx; omega
 unfold packL at e
 rw [List.length_append] at e
 obtain ⟨g1, g2⟩ := e2 p
 exact ⟨by omega, fun x hx => by have := g2 x hx; omega⟩

theorem rQ_fit {l : List UInt8} (h : (cutV l).2 = true) : PsOk (rQ l) ∧ l = wrL (rQ l) := cutV_inv (l := l) (P := (cutV l).1) (by rw [← h])

end Go.Proofs.YtgnpcijgdhjfpaaGreatDoor

namespace Go.Abs
section
variable {P : Program} {x : Ctx}

def mG (T : List (Nat × Nat × Slot)) (N : Nat) (M : Nat → Slot) (old : Nat → Nat) : Nat → Nat → Prop := fun a b => mT T a b ∨ ∃ e, e < N ∧ M e ≠ .free ∧ a = fk e ∧ b = old e
theorem mG_T {T : List (Nat × Nat × Slot)} {N : Nat} {M : Nat → Slot} {old : Nat → Nat} {a b : Nat} (h : mT T a b) : mG T N M old a b := .inl h
theorem mG_M {T : List (Nat × Nat × Slot)} {N : Nat} {M : Nat → Slot} {old : Nat → Nat} {e b : Nat} (he : e < N) (hm : M e ≠ .free) (h : old e = b) : mG T N M old (fk e) b := .inr ⟨e, he, hm, rfl, h.symm⟩

theorem wk_famG {s : AS} {E : List (Nat × C)} {T : List (Nat × Nat × Slot)} {N : Nat} {M : Nat → Slot} (old : Nat → Nat) (hT : ∀ p ∈ T, p.1 < 3000000) (n1 : (T.map (·.1)).Nodup) (n2 : (T.map (·.2.1)).Nodup)
  (ho : ∀ e, e < N → M e ≠ .free → old e ∉ T.map (·.2.1) ∧ ∀ e', e' < N → M e' ≠ .free → old e' = old e → e' = e)
  (hm : ∀ e, e < N → M e ≠ .free → SlotOk (mG T N M old) (s.sto (old e)) (M e)) (ok : ∀ p ∈ T, SlotOk (mG T N M old) (s.sto p.2.1) p.2.2) (hE : ∀ p ∈ E, mtc (mG T N M old) (s.env p.1) p.2)
  (hx : ∀ k, x.σ k ≠ .free → (x.σ k ≠ .gh ∨ ∃ p ∈ x.lp, p.2.2.1 = k) → mG T N M old k k) : Wk x s ⟨ofL E, famS T N M⟩ := by
 have mTlt : ∀ {a b}, mT T a b → a < 3000000 := by
  intro a b h
  obtain ⟨q, hq⟩ := mem_mT.1 h
  exact hT _ hq
 have mTin : ∀ {a b}, mT T a b → b ∈ T.map (·.2.1) := by
  intro a b h
  obtain ⟨q, hq⟩ := mem_mT.1 h
  exact List.mem_map.2 ⟨_, hq, rfl⟩
 refine wk_shpG (m := mG T N M old) (old := fun a => if 3000000 ≤ a then old (a - 3000000) else oldT T a) ⟨fun a b h => ?_, fun a b k ha hb => ?_, fun a b h => ?_, fun a ha => ?_, hx⟩ hE
 ·rcases h with h | ⟨e, he, hn, rfl, rfl⟩
  ·have := mTlt h
   rw [if_neg (by omega)]
   obtain ⟨q, hq⟩ := mem_mT.1 h
   exact oldT_mem n1 hq
  ·have h1 : fk e - 3000000 = e := by rw [fk_eq]; omega
   rw [if_pos (by rw [fk_eq]; omega), h1]
 ·rcases ha with ha | ⟨e, he, hn, rfl, rfl⟩ <;> rcases hb with hb | ⟨e', he', hn', rfl, hb⟩
  ·obtain ⟨q, hq⟩ := mem_mT.1 ha
   obtain ⟨q', hq'⟩ := mem_mT.1 hb
   exact (Prod.mk.inj (nodup_snd n2 hq hq' rfl)).1
  ·subst hb; exact absurd (mTin ha) (ho e' he' hn').1
  ·exact absurd (mTin hb) (ho e he hn).1
  ·rw [(ho e' he' hn').2 e he hn hb]
 ·rcases h with h | ⟨e, he, hn, rfl, rfl⟩
  ·have hlt := mTlt h
   obtain ⟨q, hq⟩ := mem_mT.1 h
   have h1 := ok _ hq
   have h2 := stoT_mem n1 hq
   simp only at h1 h2
   have : ¬ (3000000 ≤ a ∧ a < N + 3000000) := by omega
   simp only [famS_apply, if_neg this]
   rw [h2]; exact h1
  ·have := hm e he hn
   rw [famS_fk, if_pos he]
   exact this
 ·simp only [famS_apply] at ha
  split at ha
  ·rename_i hk
   exact ⟨old (a - 3000000), .inr ⟨a - 3000000, by omega, ha, by rw [fk_eq]; omega, rfl⟩⟩
  ·obtain ⟨p, hp, rfl, hs⟩ := stoT_some ha
   exact ⟨p.2.1, .inl (mem_mT.2 ⟨p.2.2, hp⟩)⟩

theorem awp_midI {ι : Type} {a b : Code} {s : AS} {Q : Exit → AS → Prop} (p : ι → Prop) (m : ι → AS) (h1 : AWP P x a s (nextQ (fun s' => ∃ i, p i ∧ Wk x s' (m i)) Q)) (h2 : ∀ i, p i → AWP P x b (m i) Q) : AWP P x (.seq a b) s Q := by
 refine awp_seq (AWP.mono h1 ?_)
 intro e s' h
 cases e with
 | normal => obtain ⟨i, hp, hw⟩ := h; exact AWP.weak (h2 i hp) hw
 | _ => exact h
end
end Go.Abs
namespace Go.Proofs.YtgnpcijgdhjfpaaGreatDoor
open Go Go.Abs

set_option maxHeartbeats 8000000
set_option maxRecDepth 20000


noncomputable def lnC (n e : Nat) (r : List Int) : C := if r = [] then .sl true true [] else .own (fk (n + e)) 1 0 r.length
noncomputable def lnR (n : Nat) (ln : Lns) : List (List C) := (List.range n).map fun e => [lnC n e (ln.getD e [])]
def lnS (r : List Int) : Slot := if r = [] then .gh else .live ⟨false, false, 1, r.map cI⟩
def hmM (n : Nat) (cur : List Ls) (ln : Lns) (e : Nat) : Slot := if e < n then pkM cur e else lnS (ln.getD (e - n) [])

theorem lnR_len (n : Nat) (ln : Lns) : (lnR n ln).length = n := by simp [lnR]
theorem lnR_get {n : Nat} {ln : Lns} {e : Nat} (h : e < n) (h2 : e < (lnR n ln).length) : (lnR n ln)[e] = [lnC n e (ln.getD e [])] := by simp [lnR]
theorem lnC_cell (n e : Nat) (r : List Int) : C.cell (lnC n e r) = true := by unfold lnC; split <;> rfl
theorem lnC_mt {m : Nat → Nat → Prop} {n e : Nat} {r : List Int} (h : r ≠ [] → m (fk (n + e)) (fk (n + e))) : mtc m (lnC n e r) (lnC n e r) := by
 unfold lnC
 split
 ·simp [mtc, C.isPure, purel]
 ·rename_i hk; exact ⟨h hk, rfl, rfl, rfl⟩
theorem lnR_same {m : Nat → Nat → Prop} {n : Nat} {ln : Lns} (h : ∀ e, e < n → ln.getD e [] ≠ [] → m (fk (n + e)) (fk (n + e))) : RowsOk m (lnR n ln) (lnR n ln) := by
 refine rowsOk_ix rfl fun i h1 h2 => ?_
 have hi : i < n := by simpa [lnR_len] using h1
 rw [lnR_get hi]
 exact ⟨⟨lnC_mt (h i hi), trivial⟩, by simp only [List.all_cons, List.all_nil, lnC_cell, Bool.and_true]⟩
theorem lnS_ok (m : Nat → Nat → Prop) (r : List Int) : SlotOk m (lnS r) (lnS r) := by
 unfold lnS
 split
 ·rfl
 ·exact ⟨rfl, rfl, rfl, .same (all_purel_map fun _ => rfl)⟩
theorem lnS_nf (r : List Int) : lnS r ≠ .free := by unfold lnS; split <;> simp
theorem hmM_ok (m : Nat → Nat → Prop) (n : Nat) (cur : List Ls) (ln : Lns) (e : Nat) : SlotOk m (hmM n cur ln e) (hmM n cur ln e) := by
 unfold hmM
 split
 ·exact pkM_ok _ _ _
 ·exact lnS_ok _ _
theorem hmM_nf (n : Nat) (cur : List Ls) (ln : Lns) (e : Nat) : hmM n cur ln e ≠ .free := by
 unfold hmM
 split
 ·simp [pkM]
 ·exact lnS_nf _

def encLn (nl fu : Bool) (ln : Lns) : C := .sl nl fu (ln.map fun r => [.sl r.isEmpty r.isEmpty (r.map cI)])
def encHm : Option (List Ls × Lns) → C
 | none => .tup [encS [], .sl true true [], .bool false]
 | some u => .tup [encS (wrL u.1), encLn false false u.2, .bool true]

theorem stoO_pkL {Q : List Ls} {e : Nat} (h : e < Q.length) : stoO (pkL Q) (fk e) = pkM Q e := by
 have hm : fk e ∈ keysO (pkL Q) := List.mem_map.2 ⟨(fk e, ⟨false, false, 1, (Q.getD e []).map cS⟩), List.mem_map.2 ⟨e, List.mem_range.2 h, rfl⟩, rfl⟩
 obtain ⟨_, o, h1, h2⟩ := updO_in (σ := freeS) (τ := freeS) hm
 obtain ⟨e', _, h3⟩ := List.mem_map.1 h2
 simp only [Prod.mk.injEq, fk_inj] at h3
 obtain ⟨rfl, rfl⟩ := h3
 exact h1

theorem lnR_nil (n : Nat) : lnR n (List.replicate n []) = List.replicate n [.sl true true []] := by
 unfold lnR
 apply List.ext_getElem
 ·simp
 ·intro i h1 h2
  have hi : i < n := by simpa using h2
  simp [lnC, List.getD_eq_getElem?_getD, hi]
theorem replicate_getD (n e : Nat) : (List.replicate n ([] : List Int)).getD e [] = [] := by
 rw [List.getD_eq_getElem?_getD, List.getElem?_replicate]
 split <;> rfl

@[simp] noncomputable abbrev hmT (n : Nat) (cur : List Ls) (ln : Lns) : List (Nat × Nat × Slot) := [(5, 5, .live ⟨false, false, 1, lnR n ln⟩), (7, 7, .live ⟨false, false, 1, pkR cur⟩)]
@[simp] abbrev hmO (h : Hm) : Ob := ⟨false, false, 4, [cHm h]⟩

theorem setP_at {cur : List Ls} {p q : Nat} {s : List UInt8} (hp : p < cur.length) (e : Nat) : (setP cur p q s).getD e [] = if e = p then (cur.getD p []).set q s else cur.getD e [] := by
 unfold setP
 simp only [List.getD_eq_getElem?_getD, List.getElem?_set]
 by_cases h : p = e
 ·subst h; simp [hp]
 ·rw [if_neg h, if_neg (fun h2 => h h2.symm)]
theorem pkR_setP {cur : List Ls} {p q : Nat} {s : List UInt8} (hp : p < cur.length) : pkR (setP cur p q s) = pkR cur := by
 unfold pkR
 have hl : (setP cur p q s).length = cur.length := by simp [setP]
 rw [hl]
 refine List.map_congr_left fun e _ => ?_
 rw [setP_at hp]
 split
 ·rename_i h; subst h; simp
 ·rfl
theorem lnR_set {m : Nat → Nat → Prop} {n : Nat} {ln : Lns} {p k : Nat} {r : List Int} (hp : p < n) (hl : ln.length = n) (hr : r ≠ []) (hk : m (fk (n + p)) k) (h : ∀ e, e < n → e ≠ p → ln.getD e [] ≠ [] → m (fk (n + e)) (fk (n + e))) :
  RowsOk m ((lnR n ln).set p [.own k 1 0 r.length]) (lnR n (ln.set p r)) := by
 refine rowsOk_ix (by simp [lnR_len]) fun i h1 h2 => ?_
 have hi : i < n := by simpa [lnR_len] using h2
 rw [lnR_get hi, List.getElem_set]
 have e : (ln.set p r).getD i [] = if p = i then r else ln.getD i [] := by
  simp only [List.getD_eq_getElem?_getD, List.getElem?_set]
  by_cases q : p = i
  ·subst q; simp [hl, hp]
  ·simp [q]
 rw [e]
 by_cases q : p = i
 ·subst q
  rw [if_pos rfl, if_pos rfl]
  unfold lnC
  rw [if_neg hr]
  exact ⟨⟨⟨hk, rfl, rfl, rfl⟩, trivial⟩, rfl⟩
 ·rw [if_neg q, if_neg q, lnR_get hi]
  exact ⟨⟨lnC_mt (h i hi (fun x => q x.symm)), trivial⟩, by simp only [List.all_cons, List.all_nil, lnC_cell, Bool.and_true]⟩
theorem lnR_focus {m : Nat → Nat → Prop} {n : Nat} {ln : Lns} {p k : Nat} {r : List Int} (hp : p < n) (hg : ln.getD p [] = r) (hr : r ≠ []) (hk : m k (fk (n + p))) (h : ∀ e, e < n → e ≠ p → ln.getD e [] ≠ [] → m (fk (n + e)) (fk (n + e))) :
  RowsOk m (lnR n ln) ((lnR n ln).set p [.own k 1 0 r.length]) := by
 refine rowsOk_ix (by simp) fun i h1 h2 => ?_
 have hi : i < n := by simpa [lnR_len] using h1
 rw [List.getElem_set]
 by_cases q : p = i
 ·subst q
  rw [if_pos rfl, lnR_get hi, hg]
  unfold lnC
  rw [if_neg hr]
  exact ⟨⟨⟨hk, rfl, rfl, rfl⟩, trivial⟩, rfl⟩
 ·rw [if_neg q, lnR_get hi]
  exact ⟨⟨lnC_mt (h i hi (fun x => q x.symm)), trivial⟩, by simp only [List.all_cons, List.all_nil, lnC_cell, Bool.and_true]⟩
theorem hmM_set {n : Nat} {cur : List Ls} {ln : Lns} {p : Nat} {r : List Int} (hp : p < n) (hl : ln.length = n) (hr : r ≠ []) (e : Nat) : hmM n cur (ln.set p r) e = if e = n + p then .live ⟨false, false, 1, r.map cI⟩ else hmM n cur ln e := by
 unfold hmM
 by_cases h : e < n
 ·rw [if_pos h, if_neg (by omega), if_pos h]
 ·rw [if_neg h, if_neg h]
  by_cases q : e = n + p
  ·rw [if_pos q]
   have : e - n = p := by omega
   rw [this]
   unfold lnS
   simp [List.getD_eq_getElem?_getD, List.getElem?_set, hl, hp, hr]
  ·rw [if_neg q]
   have : (ln.set p r).getD (e - n) [] = ln.getD (e - n) [] := by
    simp only [List.getD_eq_getElem?_getD, List.getElem?_set]
    rw [if_neg (by omega)]
   rw [this]
theorem hmM_setP {n : Nat} {cur : List Ls} {ln : Lns} {p q : Nat} {s : List UInt8} (hp : p < n) (hl : cur.length = n) (e : Nat) : hmM n (setP cur p q s) ln e = if e = p then .live ⟨false, false, 1, ((cur.getD p []).set q s).map cS⟩ else hmM n cur ln e := by
 unfold hmM
 by_cases h : e < n
 ·rw [if_pos h, if_pos h]
  unfold pkM
  rw [setP_at (by omega)]
  split <;> rfl
 ·rw [if_neg h, if_neg h, if_neg (by omega)]

structure LfX where
 i : Nat
 left : List Ls

structure HmX where
 i : Nat
 cur : List Ls
 ln : Lns

theorem mapO_map {α β γ : Type} {f : α → Option β} {g : γ → α} {h : γ → β} : ∀ {L : List γ}, (∀ x ∈ L, f (g x) = some (h x)) → mapO f (L.map g) = some (L.map h)
 | [], _ => rfl
 | a :: L, hx => by
  simp only [List.map_cons, mapO]
  rw [hx a (by simp), mapO_map fun x hm => hx x (by simp [hm])]
theorem view_row {σ : Nat → Slot} {n e : Nat} {r : List Int} {d : Nat} (h : r ≠ [] → σ (fk (n + e)) = .live ⟨false, false, 1, r.map cI⟩) : mapO (viewC σ (d + 1)) [lnC n e r] = some [.sl r.isEmpty r.isEmpty (r.map cI)] := by
 have hv : viewC σ (d + 1) (lnC n e r) = some (.sl r.isEmpty r.isEmpty (r.map cI)) := by
  unfold lnC
  by_cases hr : r = []
  ·subst hr
   simp [viewC, C.isPure, purel]
  ·rw [if_neg hr, viewC_own (h hr) rfl (by simp) (all_purel_map fun _ => rfl)]
   have re : r.isEmpty = false := by simpa using hr
   rw [re]; rfl
 simp only [mapO]
 rw [hv]
theorem view_ln {σ : Nat → Slot} {n : Nat} {ln : Lns} (hl : ln.length = n) (h5 : σ 5 = .live ⟨false, false, 1, lnR n ln⟩) (h : ∀ e, e < n → ln.getD e [] ≠ [] → σ (fk (n + e)) = .live ⟨false, false, 1, (ln.getD e []).map cI⟩) (d : Nat) : viewC σ (d + 2) (.own 5 1 0 n) = some (encLn false false ln) := by
 have hE : (ln.map fun r => [C.sl r.isEmpty r.isEmpty (r.map cI)]) = (List.range n).map fun e => [C.sl (ln.getD e []).isEmpty (ln.getD e []).isEmpty ((ln.getD e []).map cI)] := by
  refine List.ext_getElem (by simp [hl]) fun i h1 h2 => ?_
  have hi : i < ln.length := by simpa using h1
  simp [List.getD_eq_getElem?_getD, List.getElem?_eq_getElem hi]
 have ht : ((lnR n ln).drop 0).take n = lnR n ln := by rw [List.drop_zero, List.take_of_length_le (by rw [lnR_len]; omega)]
 unfold viewC encLn
 rw [if_neg (by simp [C.isPure]), hE]
 simp only [h5]
 rw [if_pos ⟨by rw [lnR_len]; omega, trivial⟩, ht]
 by_cases hp : (lnR n ln).all purel = true
 ·rw [if_pos hp]
  have : lnR n ln = (List.range n).map fun e => [C.sl (ln.getD e []).isEmpty (ln.getD e []).isEmpty ((ln.getD e []).map cI)] := by
   unfold lnR
   refine List.map_congr_left fun e he => ?_
   have hm := List.all_eq_true.1 hp [lnC n e (ln.getD e [])] (List.mem_map.2 ⟨e, he, rfl⟩)
   by_cases hr : ln.getD e [] = []
   ·rw [hr]; rfl
   ·unfold lnC at hm
    rw [if_neg hr] at hm
    simp [purel, C.isPure] at hm
  rw [this]; rfl
 ·rw [if_neg hp]
  unfold lnR
  rw [mapO_map fun e he => view_row fun hr => h e (List.mem_range.1 he) hr]
  rfl







theorem q_harmed14 (l : List UInt8) (xn xf : Bool) (xs : List Hm) (hn : l.length ≤ 20000) (hv2 : (cutV l).2 = true) (hP0 : rQ l ≠ [])
  (hB : ∀ u L, harmL (rQ l) (List.replicate (rQ l).length []) xs = some u → leftF xs 0 u.1 = some L → (wrL L).length ≤ 100000) :
  Pure Tryz.prog 14 [encS l, .sl xn xf (xs.map cHm)] (encHm (harmB (rQ l) xs)) := by
 have cE := cutE23 l (by omega) hv2 7 (by decide)
 obtain ⟨oP, eP⟩ := rQ_fit hv2
 have hcur0 : CurOk (rQ l).length (rQ l) := ⟨rfl, fun p hp => by
  have := pack_fit oP hp
  rw [← eP] at this
  exact ⟨(oP p hp).1, by omega⟩, fun p hp x hx => by
  have := (pack_fit oP hp).2 x hx
  rw [← eP] at this; omega⟩
 have hnn : (rQ l).length ≤ 100000 := (cut_bdQ (l := l) (by omega) hv2).1
 obtain ⟨n, hnl⟩ : ∃ n, (rQ l).length = n := ⟨_, rfl⟩
 have hn0 : 0 < n := by have := List.length_pos_iff.2 hP0; omega
 have hPe : (rQ l).isEmpty = false := by simpa using hP0
 have hRlong : 40 < xs.length → harmB (rQ l) xs = none := fun h => by unfold harmB; rw [if_pos h]
 rw [hnl] at cE hcur0 hnn hB
 rw [hPe] at cE
 have hsto : ∀ e, e < n → stoO (pkL (rQ l)) (fk e) = pkM (rQ l) e := fun e he => stoO_pkL (by omega)
 have hsto2 : stoO (pkL (rQ l)) 7 = .free := by
  rw [stoO, updO_out]
  ·rfl
  ·intro hm
   obtain ⟨q, hq, h2⟩ := List.mem_map.1 hm
   obtain ⟨e, _, rfl⟩ := List.mem_map.1 hq
   simp only at h2
   rw [fk_eq] at h2; omega
 have hkey : ∀ k ∈ keysO ((7, (⟨false, false, 1, pkR (rQ l)⟩ : Ob)) :: pkL (rQ l)), True := fun _ _ => trivial
 generalize rQ l = P at *
 refine ZF (fn := Tryz.f14) [.tmp 4, .tmp 5, .tmp 6] ⟨Tryz.func14, rfl, by kernel_rfl⟩ fun x hx hσ => ?_
 (repeat refine ZQ ?_); refine ZR fun K hK => ?_; simp (maxSteps := 1000000) [ty9, ty29, ty4]; refine hK _ ?_; clear hK K
 (repeat refine ZQ ?_); refine ZR fun K hK => ?_; simp (maxSteps := 1000000) [ty9]
 refine doesL (cE.does (by simp [keysO]) (fun k hk => .inr rfl)) ?_
 simp [ty42, ty4]
 refine hK _ ?_; clear hK K; (first | show AWP _ _ _ _ _ | show ∃ _, _ | skip)
 have hst7 : ∀ σ : Nat → Slot, σ = updO freeS ((7, (⟨false, false, 1, pkR P⟩ : Ob)) :: pkL P) → σ 7 = .live ⟨false, false, 1, pkR P⟩ ∧ ∀ e, e < n → σ (fk e) = pkM P e := fun σ hs => by
  subst hs
  refine ⟨by simp [updO], fun e he => ?_⟩
  simp only [updO]
  rw [upd_ne _ _ (by rw [fk_eq]; omega)]
  exact hsto e he
 refine AWP.weak (t := ⟨ofL [(1, .sl xn xf (xs.map cHm)), (7, .own 7 1 0 n), (8, .bool true)], famS [(7, 7, .live ⟨false, false, 1, pkR P⟩)] n (pkM P)⟩) ?_ ?_
 ·by_cases h40 : 40 < xs.length
  ·have h40' : (40 : Int) < xs.length := by omega
   have hRn := hRlong h40
   (repeat refine ZQ ?_); refine ZR fun K hK => ?_; simp (maxSteps := 1000000) [ty4, ty23, ty3, h40']; refine hK _ ?_; clear hK K
   (repeat refine ZQ ?_); refine ZC (hc := by simp [h40]; rfl) (fun hd => ?_) (fun hd => ?_)
   ·clear hd
    (repeat refine ZQ ?_); refine ZR fun K hK => ?_; simp (maxSteps := 1000000) [ty9, ty29, ty4]; refine hK _ ?_; clear hK K; (first | show AWP _ _ _ _ _ | show ∃ _, _ | skip)
    rw [hRn]
    simp only [encHm]
    (repeat refine ZQ ?_); refine awp_ret ?_; refine And.intro (Or.inr rfl) ?_
    simp [retC, resC, viewC, mapO]
   ·simp [h40] at hd
  ·have h40' : ¬ (40 : Int) < xs.length := by omega
   (repeat refine ZQ ?_); refine ZR fun K hK => ?_; simp (maxSteps := 1000000) [ty4, ty23, ty3, h40']; refine hK _ ?_; clear hK K
   (repeat refine ZQ ?_); refine ZC (hc := by simp [h40]; rfl) (fun hd => ?_) (fun hd => ?_)
   ·simp [h40] at hd
   ·clear hd
    refine awp_skip ?_
    (repeat refine ZQ ?_); refine ZR fun K hK => ?_; simp (maxSteps := 1000000) [ty42, ty29, ty33, ty3]
    refine ⟨by omega, ?_⟩
    refine hK _ ?_; clear hK K
    (repeat refine ZQ ?_); refine ZR fun K hK => ?_; simp (maxSteps := 1000000) [ty3]; refine hK _ ?_; clear hK K
    (repeat refine ZQ ?_); refine awp_block ?_
    refine awp_loop (fun X : HmX => ⟨ofL [(1, .sl xn xf (xs.map cHm)), (5, .own 5 1 0 n), (7, .own 7 1 0 n), (9, encI X.i)], famS (hmT n X.cur X.ln) (2 * n) (hmM n X.cur X.ln)⟩)
     (fun X => X.i ≤ xs.length ∧ CurOk n X.cur ∧ X.ln.length = n ∧ (∀ e, (X.ln.getD e []).length ≤ X.i) ∧ harmL P (List.replicate n []) xs = harmL X.cur X.ln (xs.drop X.i)) (fun X => xs.length - X.i) ⟨0, P, List.replicate n []⟩
     ⟨Nat.zero_le _, hcur0, by simp, fun e => by rw [replicate_getD]; exact Nat.le_refl _, by rw [List.drop_zero]⟩ ?_ ?_
    ·refine Wk.trans (t := ⟨ofL [(1, .sl xn xf (xs.map cHm)), (5, .own 5 1 0 n), (7, .own 7 1 0 n), (9, encI (0 : Int))], famS [(5, 33, .live ⟨false, false, 1, List.replicate n [.sl true true []]⟩), (7, 7, .live ⟨false, false, 1, pkR P⟩)] n (pkM P)⟩) ?_ ?_
     ·refine wk_fam fk (by simp) (by simp) (by simp) (fun e he => .inl rfl) ?_ ?_ ?_ fun k hk => absurd (by rw [hσ]; rfl) hk
      ·intro e he
       simp [he]
       exact pkM_ok _ _ _
      ·simp [SlotOk]
       exact ⟨.same (by simp [purel, C.isPure]), pkR_same fun e he => mF_M (by omega) rfl⟩
      ·simp [mtc, mtl, mT, mF, C.isPure, purel]
     ·rw [← lnR_nil]
      refine wk_gh fun k => ?_
      have hT : ∀ N M, famS [(5, 33, Slot.live ⟨false, false, 1, lnR n (List.replicate n [])⟩), (7, 7, .live ⟨false, false, 1, pkR P⟩)] N M k = if 3000000 ≤ k ∧ k < N + 3000000 then M (k - 3000000) else stoT (hmT n P (List.replicate n [])) k := fun N M => rfl
      show famS (hmT n P (List.replicate n [])) (2 * n) (hmM n P (List.replicate n [])) k = _ ∨ _
      rw [hT, famS_apply]
      by_cases hk1 : 3000000 ≤ k
      ·by_cases hk2 : k < n + 3000000
       ·left
        rw [if_pos (by omega), if_pos (by omega), hmM, if_pos (by omega)]
       ·by_cases hk3 : k < 2 * n + 3000000
        ·right
         rw [if_neg (by omega), if_pos (by omega), hmM, if_neg (by omega), replicate_getD]
         refine ⟨?_, by simp [lnS]⟩
         have h1 : k ≠ 5 := by omega
         have h2 : k ≠ 7 := by omega
         simp [stoT, upd, h1, h2]
        ·left
         rw [if_neg (by omega), if_neg (by omega)]
      ·left
       rw [if_neg (by omega), if_neg (by omega)]
    ·rintro ⟨i, cur, ln⟩ ⟨hi, hcur, hlnl, hlni, hJ⟩
     simp only at hi hcur hlnl hlni hJ ⊢
     have hcl := hcur.len
     have w1 : IntKind.i64.wrap ((i : Int) + 1) = ((i + 1 : Nat) : Int) := by rw [wrap_id (by omega) (by omega)]; rfl
     (repeat refine ZQ ?_); refine ZR fun K hK => ?_; simp (maxSteps := 1000000) [ty23, ty3]; refine hK _ ?_; clear hK K; (first | show AWP _ _ _ _ _ | show ∃ _, _ | skip)
     by_cases hlt : i < xs.length
     ·have hlt' : (i : Int) < xs.length := by omega
      (repeat refine ZQ ?_); refine ZC (hc := by simp [hlt]; rfl) (fun hd => ?_) (fun hd => ?_)
      ·clear hd
       have hdr : xs.drop i = xs[i] :: xs.drop (i + 1) := List.drop_eq_getElem_cons hlt
       rw [hdr] at hJ
       obtain ⟨h, hgh⟩ : ∃ h, xs[i] = h := ⟨_, rfl⟩
       rw [hgh] at hJ
       have hfail : harm1 cur ln h = none → harmB P xs = none := fun e => by
        unfold harmB
        rw [if_neg h40, hnl, hJ, harmL, e]
       refine awp_skip ?_
       (repeat refine ZQ ?_); refine awp_block ?_
       (repeat refine ZQ ?_); refine ZR fun K hK => ?_; simp (maxSteps := 1000000) [ty77, ty23, hlt, hgh]
       refine hK _ ?_; clear hK K; (first | show AWP _ _ _ _ _ | show ∃ _, _ | skip)
       refine AWP.weak (t := ⟨ofL [(1, .sl xn xf (xs.map cHm)), (5, .own 5 1 0 n), (7, .own 7 1 0 n), (9, encI i), (10, .ptr 10 4 0 0)], famS ((10, 10, .live (hmO h)) :: hmT n cur ln) (2 * n) (hmM n cur ln)⟩) ?_ ?_
       ·by_cases a1 : h.pk < 0
        ·have hRn := hfail (by unfold harm1; rw [if_pos (.inl a1)])
         (repeat refine ZQ ?_); refine ZD [] [0, 1, 2, 3, 4, 5, 6, 7, 8, 9, 10, 11, 12, 13, 14, 15, 16, 17, 18, 19, 20, 21, 22, 23, 24, 25] fun K hK => ?_; simp (maxSteps := 1000000) [ty77, ty3, ty4, a1]; refine hK _ ?_; clear hK K
         (repeat refine ZQ ?_); refine ZC (fun hd => ?_) (fun hd => ?_)
         ·clear hd
          (repeat refine ZQ ?_); refine ZR fun K hK => ?_; simp (maxSteps := 1000000) [ty9, ty29, ty4]; refine hK _ ?_; clear hK K; (first | show AWP _ _ _ _ _ | show ∃ _, _ | skip)
          rw [hRn]
          simp only [encHm]
          (repeat refine ZQ ?_); refine awp_ret ?_; refine And.intro (Or.inr rfl) ?_
          simp [retC, resC, viewC, mapO]
         ·simp at hd
        ·by_cases a2 : (n : Int) ≤ h.pk
         ·have hRn := hfail (by unfold harm1; rw [if_pos (.inr (by rw [hcl]; exact a2))])
          (repeat refine ZQ ?_); refine ZD [] [0, 1, 2, 3, 4, 5, 6, 7, 8, 9, 10, 11, 12, 13, 14, 15, 16, 17, 18, 19, 20, 21, 22, 23, 24, 25] fun K hK => ?_; simp (maxSteps := 1000000) [ty77, ty3, ty4, ty42, a1, a2]; refine hK _ ?_; clear hK K
          (repeat refine ZQ ?_); refine ZC (fun hd => ?_) (fun hd => ?_)
          ·clear hd
           (repeat refine ZQ ?_); refine ZR fun K hK => ?_; simp (maxSteps := 1000000) [ty9, ty29, ty4]; refine hK _ ?_; clear hK K; (first | show AWP _ _ _ _ _ | show ∃ _, _ | skip)
           rw [hRn]
           simp only [encHm]
           (repeat refine ZQ ?_); refine awp_ret ?_; refine And.intro (Or.inr rfl) ?_
           simp [retC, resC, viewC, mapO]
          ·simp at hd
         ·obtain ⟨p, hpk⟩ : ∃ p : Nat, h.pk = p := ⟨h.pk.toNat, by omega⟩
          have hpn : p < n := by omega
          have hpt : h.pk.toNat = p := by omega
          have hpn3 : ¬ n ≤ p := by omega
          have hpz : ¬ (p : Int) < 0 := by omega
          have hp2 : p < 2 * n := by omega
          have hnp : n + p < 2 * n := by omega
          obtain ⟨c, hgc⟩ : ∃ c, cur.getD p [] = c := ⟨_, rfl⟩
          obtain ⟨r, hgr⟩ : ∃ r, ln.getD p [] = r := ⟨_, rfl⟩
          have hcm : c ∈ cur := by rw [← hgc]; exact getD_mem (by omega)
          have hck := hcur.pk c hcm
          have hrowP : ∀ hh, (pkR cur)[p]'hh = [.own (fk p) 1 0 c.length] := fun hh => by rw [pkR_get (by omega), hgc]
          have hM0 : hmM n cur ln p = .live ⟨false, false, 1, c.map cS⟩ := by unfold hmM pkM; rw [if_pos hpn, hgc]
          have hPl := pkR_len cur
          rw [hcl] at hPl
          have nb1 : ¬ badP cur h := by unfold badP; omega
          by_cases a3 : h.ln < 0
          ·have hRn := hfail (by unfold harm1; rw [if_neg nb1, if_pos (.inl a3)])
           (repeat refine ZQ ?_); refine ZD [] [0, 1, 2, 3, 4, 5, 6, 7, 8, 9, 10, 11, 12, 13, 14, 15, 16, 17, 18, 19, 20, 21, 22, 23, 24, 25] fun K hK => ?_; simp (maxSteps := 1000000) [ty77, ty3, ty4, ty42, hpk, hpz, hpn3, a3]; refine hK _ ?_; clear hK K
           (repeat refine ZQ ?_); refine ZC (fun hd => ?_) (fun hd => ?_)
           ·clear hd
            (repeat refine ZQ ?_); refine ZR fun K hK => ?_; simp (maxSteps := 1000000) [ty9, ty29, ty4]; refine hK _ ?_; clear hK K; (first | show AWP _ _ _ _ _ | show ∃ _, _ | skip)
            rw [hRn]
            simp only [encHm]
            (repeat refine ZQ ?_); refine awp_ret ?_; refine And.intro (Or.inr rfl) ?_
            simp [retC, resC, viewC, mapO]
           ·simp at hd
          ·by_cases a4 : (c.length : Int) ≤ h.ln
           ·have hRn := hfail (by unfold harm1; rw [if_neg nb1, if_pos (.inr (by rw [hpt, hgc]; exact a4))])
            (repeat refine ZQ ?_); refine ZD [] [0, 1, 2, 3, 4, 5, 6, 7, 8, 9, 10, 11, 12, 13, 14, 15, 16, 17, 18, 19, 20, 21, 22, 23, 24, 25] fun K hK => ?_; simp (maxSteps := 1000000) [ty77, ty3, ty4, ty42, ty22, hpk, hpz, hpn3, hpn, a3, hPl, hrowP, a4]; refine hK _ ?_; clear hK K
            (repeat refine ZQ ?_); refine ZC (fun hd => ?_) (fun hd => ?_)
            ·clear hd
             (repeat refine ZQ ?_); refine ZR fun K hK => ?_; simp (maxSteps := 1000000) [ty9, ty29, ty4]; refine hK _ ?_; clear hK K; (first | show AWP _ _ _ _ _ | show ∃ _, _ | skip)
             rw [hRn]
             simp only [encHm]
             (repeat refine ZQ ?_); refine awp_ret ?_; refine And.intro (Or.inr rfl) ?_
             simp [retC, resC, viewC, mapO]
            ·simp at hd
           ·obtain ⟨q, hqk⟩ : ∃ q : Nat, h.ln = q := ⟨h.ln.toNat, by omega⟩
            have hqc : q < c.length := by omega
            have hqt : h.ln.toNat = q := by omega
            have hqc3 : ¬ c.length ≤ q := by omega
            have hqz : ¬ (q : Int) < 0 := by omega
            have nb2 : ¬ badL cur h := by unfold badL; rw [hpt, hgc]; omega
            (repeat refine ZQ ?_); refine ZD [] [0, 1, 2, 3, 4, 5, 6, 7, 8, 9, 10, 11, 12, 13, 14, 15, 16, 17, 18, 19, 20, 21, 22, 23, 24, 25] fun K hK => ?_; simp (maxSteps := 1000000) [ty77, ty3, ty4, ty42, ty22, hpk, hpz, hpn3, hpn, hqk, hqz, hPl, hrowP, hqc3]; refine hK _ ?_; clear hK K
            (repeat refine ZQ ?_); refine ZC (fun hd => ?_) (fun hd => ?_)
            ·simp at hd
            ·clear hd
             refine awp_skip ?_; (first | show AWP _ _ _ _ _ | show ∃ _, _ | skip)
             have hLl := lnR_len n ln
             have hri : r.length ≤ i := by rw [← hgr]; exact hlni p
             refine awp_midI (fun _ : Unit => (q : Int) ∉ r) (fun _ => ⟨ofL [(1, .sl xn xf (xs.map cHm)), (5, .own 5 1 0 n), (7, .own 7 1 0 n), (9, encI i), (10, .ptr 10 4 0 0)], famS ((10, 10, .live (hmO h)) :: hmT n cur ln) (2 * n) (hmM n cur ln)⟩) ?_ ?_
             ·(repeat refine ZQ ?_); refine ZR fun K hK => ?_; simp (maxSteps := 1000000) [ty3]; refine hK _ ?_; clear hK K
              (repeat refine ZQ ?_); refine awp_block ?_
              refine awp_loop (fun k : Nat => ⟨ofL [(1, .sl xn xf (xs.map cHm)), (5, .own 5 1 0 n), (7, .own 7 1 0 n), (9, encI i), (10, .ptr 10 4 0 0), (11, encI k)], famS ((10, 10, .live (hmO h)) :: hmT n cur ln) (2 * n) (hmM n cur ln)⟩)
               (fun k => k ≤ r.length ∧ ∀ j (hj : j < r.length), j < k → r[j] ≠ h.ln) (fun k => r.length - k) 0 ⟨Nat.zero_le _, fun j _ hj => absurd hj (by omega)⟩ ?_ ?_
              ·refine wk_fam fk (by simp) (by simp) (by simp) (fun e he => .inl rfl) ?_ ?_ ?_ fun k hk => absurd (by rw [hσ]; rfl) hk
               ·intro e he
                simp [he]
                exact hmM_ok _ _ _ _ _
               ·simp [SlotOk, hpk, hqk]
                exact ⟨.same (by simp [purel, C.isPure]), lnR_same fun e he _ => mF_M (by omega) rfl, pkR_same fun e he => mF_M (by omega) rfl⟩
               ·simp [mtc, mtl, mT, mF, C.isPure, purel, hpk, hqk]
              ·intro k ⟨hkr, hno⟩
               have w2 : IntKind.i64.wrap ((k : Int) + 1) = ((k + 1 : Nat) : Int) := by rw [wrap_id (by omega) (by omega)]; rfl
               by_cases hkl : k < r.length
               ·have hr0 : r ≠ [] := fun e => by rw [e] at hkl; simp at hkl
                have hrowL : ∀ hh, (lnR n ln)[p]'hh = [.own (fk (n + p)) 1 0 r.length] := fun hh => by rw [lnR_get hpn, hgr]; unfold lnC; rw [if_neg hr0]
                have hM1 : hmM n cur ln (n + p) = .live ⟨false, false, 1, r.map cI⟩ := by unfold hmM lnS; rw [if_neg (by omega), show n + p - n = p by omega, hgr, if_neg hr0]
                have hkl' : (k : Int) < r.length := by omega
                (repeat refine ZQ ?_); refine ZR fun K hK => ?_; simp (maxSteps := 1000000) [ty77, ty29, ty33, ty3, hpk, hpn, hLl, hrowL]; refine hK _ ?_; clear hK K
                (repeat refine ZQ ?_); refine ZC (hc := by simp [hkl]; rfl) (fun hd => ?_) (fun hd => ?_)
                ·clear hd
                 refine awp_skip ?_
                 (repeat refine ZQ ?_); refine awp_block ?_
                 obtain ⟨z, hgz⟩ : ∃ z, r[k] = z := ⟨_, rfl⟩
                 by_cases hzz : z = (q : Int)
                 ·have hze : (z == (q : Int)) = true := by rw [hzz]; simp
                  have hRn := hfail (by
                   unfold harm1
                   rw [if_neg nb1, if_neg nb2, if_pos]
                   rw [hpt, hgr, hqk, ← hzz, ← hgz]
                   exact List.getElem_mem hkl)
                  (repeat refine ZQ ?_); refine ZD [] [0, 1, 2, 3, 4, 5, 6, 7, 8, 9, 10] fun K hK => ?_; simp (maxSteps := 1000000) [ty77, ty29, ty33, ty3, hpk, hqk, hpn, hLl, hrowL, hM1, hnp, hkl, hgz, hze]; refine hK _ ?_; clear hK K
                  (repeat refine ZQ ?_); refine ZC (fun hd => ?_) (fun hd => ?_)
                  ·clear hd
                   (repeat refine ZQ ?_); refine ZR fun K hK => ?_; simp (maxSteps := 1000000) [ty9, ty29, ty4]; refine hK _ ?_; clear hK K; (first | show AWP _ _ _ _ _ | show ∃ _, _ | skip)
                   rw [hRn]
                   simp only [encHm]
                   (repeat refine ZQ ?_); refine awp_ret ?_; refine And.intro (Or.inr rfl) ?_
                   simp [retC, resC, viewC, mapO]
                  ·simp [hzz] at hd
                 ·have hze : (z == (q : Int)) = false := by rw [beq_eq_false_iff_ne]; exact hzz
                  (repeat refine ZQ ?_); refine ZD [] [0, 1, 2, 3, 4, 5, 6, 7, 8, 9, 10] fun K hK => ?_; simp (maxSteps := 1000000) [ty77, ty29, ty33, ty3, hpk, hqk, hpn, hLl, hrowL, hM1, hnp, hkl, hgz, hze, hzz]; refine hK _ ?_; clear hK K
                  (repeat refine ZQ ?_); refine ZC (hc := by simp [hzz]; rfl) (fun hd => ?_) (fun hd => ?_)
                  ·simp [hzz] at hd
                  ·clear hd
                   refine awp_skip ?_
                   (repeat refine ZQ ?_); refine ZR fun K hK => ?_; simp (maxSteps := 1000000) [ty3, w2]; refine hK _ ?_; clear hK K; (first | show AWP _ _ _ _ _ | show ∃ _, _ | skip)
                   refine ⟨k + 1, ⟨by omega, fun j hj hjk => ?_⟩, by omega, ?_⟩
                   ·by_cases hjn : j = k
                    ·subst hjn; rw [hgz, hqk]; exact hzz
                    ·exact hno j hj (by omega)
                   ·refine wk_fam fk (by simp) (by simp) (by simp) (fun e he => .inl rfl) ?_ ?_ ?_ fun k hk => absurd (by rw [hσ]; rfl) hk
                    ·intro e he
                     simp [he]
                     exact hmM_ok _ _ _ _ _
                    ·simp [SlotOk, hpk, hqk]
                     exact ⟨.same (by simp [purel, C.isPure]), lnR_same fun e he _ => mF_M (by omega) rfl, pkR_same fun e he => mF_M (by omega) rfl⟩
                    ·simp [mtc, mtl, mT, mF, C.isPure, purel, hpk, hqk]
                ·simp [hkl] at hd
               ·have hkn : k = r.length := by omega
                subst hkn
                have hin : (q : Int) ∉ r := fun hm => by
                 obtain ⟨j, hj, e⟩ := List.getElem_of_mem hm
                 exact hno j hj hj (by rw [e, hqk])
                have hexit : ∀ hh, (lnR n ln)[p]'hh = [lnC n p r] := fun hh => by rw [lnR_get hpn, hgr]
                by_cases hr0 : r = []
                ·have hrowL : ∀ hh, (lnR n ln)[p]'hh = [.sl true true []] := fun hh => by rw [hexit, lnC, if_pos hr0]
                 have hrl0 : r.length = 0 := by rw [hr0]; rfl
                 (repeat refine ZQ ?_); refine ZR fun K hK => ?_; simp (maxSteps := 1000000) [ty77, ty29, ty33, ty3, hpk, hpn, hLl, hrowL, hrl0]; refine hK _ ?_; clear hK K
                 (repeat refine ZQ ?_); refine ZC (fun hd => ?_) (fun hd => ?_)
                 ·simp at hd
                 ·clear hd
                  (repeat refine ZQ ?_); refine awp_exit ?_; (first | show AWP _ _ _ _ _ | show ∃ _, _ | skip)
                  refine ⟨(), hin, ?_⟩
                  refine wk_fam fk (by simp) (by simp) (by simp) (fun e he => .inl rfl) ?_ ?_ ?_ fun k hk => absurd (by rw [hσ]; rfl) hk
                  ·intro e he
                   simp [he]
                   exact hmM_ok _ _ _ _ _
                  ·simp [SlotOk, hpk, hqk]
                   exact ⟨.same (by simp [purel, C.isPure]), lnR_same fun e he _ => mF_M (by omega) rfl, pkR_same fun e he => mF_M (by omega) rfl⟩
                  ·simp [mtc, mtl, mT, mF, C.isPure, purel, hpk, hqk]
                ·have hrowL : ∀ hh, (lnR n ln)[p]'hh = [.own (fk (n + p)) 1 0 r.length] := fun hh => by rw [hexit, lnC, if_neg hr0]
                 (repeat refine ZQ ?_); refine ZR fun K hK => ?_; simp (maxSteps := 1000000) [ty77, ty29, ty33, ty3, hpk, hpn, hLl, hrowL]; refine hK _ ?_; clear hK K
                 (repeat refine ZQ ?_); refine ZC (fun hd => ?_) (fun hd => ?_)
                 ·simp at hd
                 ·clear hd
                  (repeat refine ZQ ?_); refine awp_exit ?_; (first | show AWP _ _ _ _ _ | show ∃ _, _ | skip)
                  refine ⟨(), hin, ?_⟩
                  refine wk_fam fk (by simp) (by simp) (by simp) (fun e he => .inl rfl) ?_ ?_ ?_ fun k hk => absurd (by rw [hσ]; rfl) hk
                  ·intro e he
                   simp [he]
                   exact hmM_ok _ _ _ _ _
                  ·simp [SlotOk, hpk, hqk]
                   exact ⟨.same (by simp [purel, C.isPure]), lnR_same fun e he _ => mF_M (by omega) rfl, pkR_same fun e he => mF_M (by omega) rfl⟩
                  ·simp [mtc, mtl, mT, mF, C.isPure, purel, hpk, hqk]
             ·intro _ hin
              obtain ⟨s, hgs⟩ : ∃ s, c.getD q [] = s := ⟨_, rfl⟩
              have hcq : c[q] = s := by rw [← hgs]; simp [List.getD_eq_getElem?_getD, List.getElem?_eq_getElem hqc]
              have hsl : s.length ≤ 20000 := hcur.ln c hcm s (by rw [← hcq]; exact List.getElem_mem hqc)
              have hla : lineA cur h = s := by unfold lineA; rw [hpt, hqt, hgc, hgs]
              have nb3 : ¬ h.ln ∈ ln.getD h.pk.toNat [] := by rw [hpt, hgr, hqk]; exact hin
              (repeat refine ZQ ?_); refine ZD [] [0, 1, 2, 3, 4, 5, 6, 7, 8, 9] fun K hK => ?_; simp (maxSteps := 1000000) [ty77, ty42, ty22, ty9, ty3, hpk, hqk, hpn, hqc, hPl, hrowP, hM0, hp2, hcq]; refine hK _ ?_; clear hK K
              refine awp_midI (fun X : List Ls => harm1 cur ln h = some (X, addLn ln h) ∧ CurOk n X) (fun X => ⟨ofL [(1, .sl xn xf (xs.map cHm)), (5, .own 5 1 0 n), (7, .own 7 1 0 n), (9, encI i), (10, .ptr 10 4 0 0)], famS ((10, 10, .live (hmO h)) :: hmT n X ln) (2 * n) (hmM n X ln)⟩) ?_ ?_
              ·by_cases t0 : 0 ≤ h.at_
               ·obtain ⟨a, hak⟩ : ∃ a : Nat, h.at_ = a := ⟨h.at_.toNat, by omega⟩
                have hat : h.at_.toNat = a := by omega
                have haz : (0 : Int) ≤ (a : Int) := by omega
                have hsz := S_size s
                have c40 := q_has40 h.by_
                have hbf : badA cur h → harm1 cur ln h = none := fun hb => by unfold harm1; rw [if_neg nb1, if_neg nb2, if_neg nb3, if_pos t0, if_pos hb]
                (repeat refine ZQ ?_); refine ZR fun K hK => ?_; simp (maxSteps := 1000000) [ty77, ty3, hak, haz]; refine hK _ ?_; clear hK K
                (repeat refine ZQ ?_); refine ZC (fun hd => ?_) (fun hd => ?_)
                ·clear hd
                 by_cases g1 : s.length ≤ a
                 ·have hRn := hfail (hbf (.inl (by rw [hla, hak]; omega)))
                  (repeat refine ZQ ?_); refine ZD [] [0, 1, 2, 3, 4, 5, 6, 7, 8, 9, 10, 11, 12, 13, 14, 15, 16, 17, 18, 19] fun K hK => ?_; simp (maxSteps := 1000000) [ty77, ty3, ty9, ty4, ty5, hak, hsz, g1]; refine hK _ ?_; clear hK K
                  (repeat refine ZQ ?_); refine ZC (fun hd => ?_) (fun hd => ?_)
                  ·clear hd
                   (repeat refine ZQ ?_); refine ZR fun K hK => ?_; simp (maxSteps := 1000000) [ty9, ty29, ty4]; refine hK _ ?_; clear hK K; (first | show AWP _ _ _ _ _ | show ∃ _, _ | skip)
                   rw [hRn]
                   simp only [encHm]
                   (repeat refine ZQ ?_); refine awp_ret ?_; refine And.intro (Or.inr rfl) ?_
                   simp [retC, resC, viewC, mapO]
                  ·simp at hd
                 ·have hal : a < s.length := by omega
                  have hgS := S_at hal
                  cases hv : plain1 h.by_ with
                  | false =>
                   rw [hv] at c40
                   have hRn := hfail (hbf (.inr (.inl hv)))
                   (repeat refine ZQ ?_); refine ZD [] [0, 1, 2, 3, 4, 5, 6, 7, 8, 9, 10, 11, 12, 13, 14, 15, 16, 17, 18, 19] fun K hK => ?_; simp (maxSteps := 1000000) [ty77, ty3, ty9, ty4, ty5, hak, hsz, g1]
                   refine ZE (c40) ?_; simp (maxSteps := 1000000) [ty77, ty3, ty9, ty4, ty5, hak, hsz, g1]
                   refine hK _ ?_; clear hK K
                   (repeat refine ZQ ?_); refine ZC (fun hd => ?_) (fun hd => ?_)
                   ·clear hd
                    (repeat refine ZQ ?_); refine ZR fun K hK => ?_; simp (maxSteps := 1000000) [ty9, ty29, ty4]; refine hK _ ?_; clear hK K; (first | show AWP _ _ _ _ _ | show ∃ _, _ | skip)
                    rw [hRn]
                    simp only [encHm]
                    (repeat refine ZQ ?_); refine awp_ret ?_; refine And.intro (Or.inr rfl) ?_
                    simp [retC, resC, viewC, mapO]
                   ·simp at hd
                  | true =>
                   rw [hv] at c40
                   have hga : s.getD a 0 = s[a] := by simp [List.getD_eq_getElem?_getD, List.getElem?_eq_getElem hal]
                   by_cases g3 : s[a] = h.by_
                   ·have hRn := hfail (hbf (.inr (.inr (by rw [hla, hat, hga]; exact g3))))
                    have hbe : (((s[a]).toNat : Int) == (h.by_.toNat : Int)) = true := by rw [g3]; simp
                    (repeat refine ZQ ?_); refine ZD [] [0, 1, 2, 3, 4, 5, 6, 7, 8, 9, 10, 11, 12, 13, 14, 15, 16, 17, 18, 19] fun K hK => ?_; simp (maxSteps := 1000000) [ty77, ty3, ty9, ty4, ty5, hak, hsz, g1, hgS]
                    refine ZE (c40) ?_; simp (maxSteps := 1000000) [ty77, ty3, ty9, ty4, ty5, hak, hsz, g1, hgS, hbe, g3]
                    refine hK _ ?_; clear hK K
                    (repeat refine ZQ ?_); refine ZC (fun hd => ?_) (fun hd => ?_)
                    ·clear hd
                     (repeat refine ZQ ?_); refine ZR fun K hK => ?_; simp (maxSteps := 1000000) [ty9, ty29, ty4]; refine hK _ ?_; clear hK K; (first | show AWP _ _ _ _ _ | show ∃ _, _ | skip)
                     rw [hRn]
                     simp only [encHm]
                     (repeat refine ZQ ?_); refine awp_ret ?_; refine And.intro (Or.inr rfl) ?_
                     simp [retC, resC, viewC, mapO]
                    ·simp at hd
                   ·have hbe : (((s[a]).toNat : Int) == (h.by_.toNat : Int)) = false := by
                     rw [beq_eq_false_iff_ne]
                     intro e
                     exact g3 (UInt8.toNat_inj.1 (by omega))
                    have hnb : ¬ badA cur h := by
                     unfold badA
                     rw [hla, hat, hga]
                     rintro (h1 | h1 | h1)
                     ·omega
                     ·cases (hv.symm.trans h1 : true = false)
                     ·exact g3 h1
                    have hne : ¬ (s[a]).toNat = h.by_.toNat := fun e => g3 (UInt8.toNat_inj.1 e)
                    (repeat refine ZQ ?_); refine ZD [] [0, 1, 2, 3, 4, 5, 6, 7, 8, 9, 10, 11, 12, 13, 14, 15, 16, 17, 18, 19] fun K hK => ?_; simp (maxSteps := 1000000) [ty77, ty3, ty9, ty4, ty5, hak, hsz, g1, hgS]
                    refine ZE (c40) ?_; simp (maxSteps := 1000000) [ty77, ty3, ty9, ty4, ty5, hak, hsz, g1, hgS, hbe, hne]
                    refine hK _ ?_; clear hK K
                    (repeat refine ZQ ?_); refine ZC (fun hd => ?_) (fun hd => ?_)
                    ·simp at hd
                    ·clear hd
                     refine awp_skip ?_; (first | show AWP _ _ _ _ _ | show ∃ _, _ | skip)
                     have hy : 32 ≤ h.by_.toNat ∧ h.by_.toNat ≤ 126 := by unfold plain1 at hv; simpa using hv
                     have w4 : IntKind.i32.wrap (h.by_.toNat : Int) = h.by_.toNat := wrap_i32 (by omega) (by omega)
                     have e1 : Utf8.encode (h.by_.toNat : Int) = S [h.by_] := by rw [enc_ascii (by omega)]; simp
                     obtain ⟨a1, ha1⟩ : ∃ a1, a + 1 = a1 := ⟨_, rfl⟩
                     have w5 : IntKind.i64.wrap ((a : Int) + 1) = (a1 : Int) := by rw [wrap_id (by omega) (by omega)]; omega
                     have x1 := S_ext s 0 a
                     have x2 := S_ext s a1 s.length
                     simp only [List.drop_zero, List.take_length] at x1 x2
                     have hle1 : a ≤ s.length := by omega
                     have hle2 : a1 ≤ s.length := by omega
                     have s1 := str_add (a := s.take a) (b := [h.by_]) (by simp; omega)
                     have s2 := str_add (a := s.take a ++ [h.by_]) (b := s.drop a1) (by simp; omega)
                     have hnw : newL s a h.by_ = s.take a ++ [h.by_] ++ s.drop a1 := by unfold newL; rw [ha1]
                     rw [← hnw] at s2
                     have hnl2 := newL_len (b := h.by_) hal
                     obtain ⟨cn, hcn⟩ : ∃ cn, c.set q (newL s a h.by_) = cn := ⟨_, rfl⟩
                     have hmq : (c.map cS).set q [encS (newL s a h.by_)] = cn.map cS := by rw [← hcn, List.map_set]
                     generalize hnd : newL s a h.by_ = nd at *
                     generalize s.take a ++ [h.by_] = sb at *
                     generalize s.take a = sa at *
                     generalize s.drop a1 = sd at *
                     generalize hlb : [h.by_] = lb at *
                     (repeat refine ZQ ?_); refine ZD [] [0, 1, 2, 3, 4, 5, 6, 7, 8, 9, 10, 11, 12, 13, 14, 15, 16, 17, 18, 19, 20, 21, 22, 23] fun K hK => ?_; simp (maxSteps := 1000000) [ty77, ty42, ty22, ty9, ty3, ty5, ty21, hpk, hqk, hak, hpn, hqc, hPl, hrowP, hM0, hp2, hsz, w4, e1, w5, x1, x2, hle1, hle2, s1, s2, hmq, hla, -strBin]
                     refine hK _ ?_; clear hK K; (first | show AWP _ _ _ _ _ | show ∃ _, _ | skip)
                     refine ⟨setP cur p q nd, ⟨by unfold harm1; rw [if_neg nb1, if_neg nb2, if_neg nb3, if_pos t0, if_neg hnb, hpt, hqt, hla, hat, hnd], setP_ok hcur hpn (by omega)⟩, ?_⟩
                     rw [show hmT n (setP cur p q nd) ln = hmT n cur ln by simp only [hmT]; rw [pkR_setP (by omega)]]
                     refine wk_fam fk (by simp) (by simp) (by simp) (fun e he => .inl rfl) ?_ ?_ ?_ fun k hk => absurd (by rw [hσ]; rfl) hk
                     ·intro e he
                      rw [hmM_setP hpn hcl, hgc, hcn]
                      by_cases hep : e = p
                      ·subst hep
                       simp [he, SlotOk]
                       exact .same (all_purel_map fun _ => rfl)
                      ·simp [he, hep]
                       exact hmM_ok _ _ _ _ _
                     ·simp [SlotOk, hpk, hqk, hak]
                      exact ⟨.same (by simp [purel, C.isPure]), lnR_same fun e he _ => mF_M (by omega) rfl, pkR_same fun e he => mF_M (by omega) rfl⟩
                     ·simp [mtc, mtl, mT, mF, C.isPure, purel, hpk, hqk]
                ·simp at hd
               ·(repeat refine ZQ ?_); refine ZR fun K hK => ?_; simp (maxSteps := 1000000) [ty77, ty3, t0]; refine hK _ ?_; clear hK K
                (repeat refine ZQ ?_); refine ZC (hc := by simp [t0]; rfl) (fun hd => ?_) (fun hd => ?_)
                ·simp [t0] at hd
                ·clear hd
                 refine awp_skip ?_; (first | show AWP _ _ _ _ _ | show ∃ _, _ | skip)
                 refine ⟨cur, ⟨by unfold harm1; rw [if_neg nb1, if_neg nb2, if_neg nb3, if_neg t0], hcur⟩, ?_⟩
                 refine wk_fam fk (by simp) (by simp) (by simp) (fun e he => .inl rfl) ?_ ?_ ?_ fun k hk => absurd (by rw [hσ]; rfl) hk
                 ·intro e he
                  simp [he]
                  exact hmM_ok _ _ _ _ _
                 ·simp [SlotOk, hpk, hqk]
                  exact ⟨.same (by simp [purel, C.isPure]), lnR_same fun e he _ => mF_M (by omega) rfl, pkR_same fun e he => mF_M (by omega) rfl⟩
                 ·simp [mtc, mtl, mT, mF, C.isPure, purel, hpk, hqk]
              ·rintro X ⟨hX, hcX⟩
               have hXl := hcX.len
               have hnew : harmL cur ln (h :: xs.drop (i + 1)) = harmL X (addLn ln h) (xs.drop (i + 1)) := by rw [harmL, hX]
               rw [hnew] at hJ
               have had : addLn ln h = ln.set p (r ++ [(q : Int)]) := by unfold addLn; rw [hpt, hgr, hqk]
               rw [had] at hJ
               have hrn : r ++ [(q : Int)] ≠ [] := by simp
               have hJ2 : (ln.set p (r ++ [(q : Int)])).length = n ∧ ∀ e, ((ln.set p (r ++ [(q : Int)])).getD e []).length ≤ i + 1 := by
                refine ⟨by simp [hlnl], fun e => ?_⟩
                simp only [List.getD_eq_getElem?_getD, List.getElem?_set]
                by_cases hpe : p = e
                ·subst hpe
                 simp [hlnl, hpn]; omega
                ·rw [if_neg hpe, ← List.getD_eq_getElem?_getD]
                 have := hlni e; omega
               by_cases hr0 : r = []
               ·have hrowL : ∀ hh, (lnR n ln)[p]'hh = [.sl true true []] := fun hh => by rw [lnR_get hpn, hgr, lnC, if_pos hr0]
                (repeat refine ZQ ?_); refine ZD [11] [0, 1, 2, 3, 4, 5, 6, 7, 8, 9, 10, 11, 12, 13] fun K hK => ?_; simp (maxSteps := 1000000) [ty77, ty29, ty33, ty3, hpk, hqk, hpn, hLl, hrowL]
                refine hK _ ?_; clear hK K
                (repeat refine ZQ ?_); refine ZR fun K hK => ?_; simp (maxSteps := 1000000) [ty3, w1]; refine hK _ ?_; clear hK K; (first | show AWP _ _ _ _ _ | show ∃ _, _ | skip)
                subst hr0
                simp only [List.nil_append] at had hJ hJ2 hrn
                refine ⟨⟨i + 1, X, ln.set p [(q : Int)]⟩, ⟨by simp only; omega, hcX, hJ2.1, hJ2.2, hJ⟩, by simp only; omega, ?_⟩
                refine wk_fam (fun e => if e = n + p then 157 else fk e) (by simp) (by simp) (by simp) ?_ ?_ ?_ ?_ fun k hk => absurd (by rw [hσ]; rfl) hk
                ·intro e he
                 by_cases hej : e = n + p
                 ·subst hej
                  refine .inr ⟨by simp, by simp, fun e' _ h => ?_⟩
                  simp only [if_true] at h
                  split at h
                  ·assumption
                  ·simp at h
                 ·simp [hej]
                ·intro e he
                 rw [hmM_set hpn hlnl hrn]
                 by_cases hej : e = n + p
                 ·subst hej
                  simp [SlotOk]
                  exact .same (by simp [purel, C.isPure])
                 ·simp [hej, he]
                  exact hmM_ok _ _ _ _ _
                ·simp [SlotOk]
                 exact ⟨lnR_set (r := [(q : Int)]) hpn hlnl hrn (mF_M (by omega) (if_pos rfl)) (fun e he hne _ => mF_M (by omega) (if_neg (by omega))), pkR_same fun e he => mF_M (by omega) (if_neg (by omega))⟩
                ·simp [mtc, mtl, mT, mF, C.isPure, purel]
               ·have hrowL : ∀ hh, (lnR n ln)[p]'hh = [.own (fk (n + p)) 1 0 r.length] := fun hh => by rw [lnR_get hpn, hgr, lnC, if_neg hr0]
                have hM1X : hmM n X ln (n + p) = .live ⟨false, false, 1, r.map cI⟩ := by unfold hmM lnS; rw [if_neg (by omega), show n + p - n = p by omega, hgr, if_neg hr0]
                have hnf : ∀ e, e ≠ n + p → (if e = n + p then Slot.free else hmM n X ln e) ≠ .free := fun e he => by rw [if_neg he]; exact hmM_nf _ _ _ _
                refine AWP.weak (t := ⟨ofL [(1, .sl xn xf (xs.map cHm)), (5, .own 5 1 0 n), (7, .own 7 1 0 n), (9, encI i), (10, .ptr 10 4 0 0)], famS [(2000, fk (n + p), .live ⟨false, false, 1, r.map cI⟩), (10, 10, .live (hmO h)), (5, 5, .live ⟨false, false, 1, (lnR n ln).set p [.own 2000 1 0 r.length]⟩), (7, 7, .live ⟨false, false, 1, pkR X⟩)] (2 * n) (fun e => if e = n + p then .free else hmM n X ln e)⟩) ?_ ?_
                ·have hLl2 : ((lnR n ln).set p [C.own 2000 1 0 r.length]).length = n := by simp [hLl]
                 (repeat refine ZQ ?_); refine ZD [5011,12000,1002,1005,1007,1009] [0, 1, 2, 3, 4, 5, 6, 7, 8, 9, 10, 11, 12, 13] fun K hK => ?_; simp (maxSteps := 1000000) [ty77, ty29, ty33, ty3, hpk, hqk, hpn, hLl, hLl2]
                 refine ⟨by omega, ?_⟩
                 refine hK _ ?_; clear hK K
                 (repeat refine ZQ ?_); refine ZR fun K hK => ?_; simp (maxSteps := 1000000) [ty3, w1]; refine hK _ ?_; clear hK K; (first | show AWP _ _ _ _ _ | show ∃ _, _ | skip)
                 refine ⟨⟨i + 1, X, ln.set p (r ++ [(q : Int)])⟩, ⟨by simp only; omega, hcX, hJ2.1, hJ2.2, hJ⟩, by simp only; omega, ?_⟩
                 refine wk_famG (fun e => if e = n + p then 157 else fk e) (by simp) (by simp) (by simp) ?_ ?_ ?_ ?_ fun k hk => absurd (by rw [hσ]; rfl) hk
                 ·intro e he _
                  by_cases hej : e = n + p
                  ·subst hej
                   refine ⟨by simp, fun e' _ _ h => ?_⟩
                   simp only [if_true] at h
                   split at h
                   ·assumption
                   ·simp at h
                  ·refine ⟨by simp [hej], fun e' _ _ h => ?_⟩
                   simp only [if_neg hej] at h
                   split at h
                   ·simp at h
                   ·simpa using h
                 ·intro e he _
                  rw [hmM_set hpn hlnl hrn]
                  by_cases hej : e = n + p
                  ·subst hej
                   simp [SlotOk]
                   exact .same (by simp [purel, C.isPure])
                  ·simp [hej, he]
                   exact hmM_ok _ _ _ _ _
                 ·have hset := lnR_set (m := mG (hmT n X (ln.set p (r ++ [(q : Int)]))) (2 * n) (hmM n X (ln.set p (r ++ [(q : Int)]))) (fun e => if e = n + p then 157 else fk e)) (r := r ++ [(q : Int)]) (k := 157) hpn hlnl hrn (mG_M (by omega) (hmM_nf _ _ _ _) (if_pos rfl)) (fun e he hne _ => mG_M (by omega) (hmM_nf _ _ _ _) (if_neg (by omega)))
                  simp only [List.length_append, List.length_cons, List.length_nil] at hset
                  simp [SlotOk]
                  exact ⟨hset, pkR_same fun e he => mG_M (by omega) (hmM_nf _ _ _ _) (if_neg (by omega))⟩
                 ·simp [mtc, mtl, mT, mG, C.isPure, purel]
                ·refine wk_famG fk (by simp) (by simp) (by simp) ?_ ?_ ?_ ?_ fun k hk => absurd (by rw [hσ]; rfl) hk
                 ·intro e he hM
                  have hne : e ≠ n + p := fun h => hM (by simp [h])
                  exact ⟨by simp [hne], fun e' _ _ h => by simpa using h⟩
                 ·intro e he hM
                  have hne : e ≠ n + p := fun h => hM (by simp [h])
                  simp [hne, he]
                  exact hmM_ok _ _ _ _ _
                 ·simp [SlotOk, hnp, hM1X]
                  exact ⟨.same (by simp [purel, C.isPure]), .same (by simp [purel, C.isPure]), lnR_focus hpn hgr hr0 (mG_T (by simp [mT])) (fun e he hne _ => mG_M (by omega) (hnf _ (by omega)) rfl), pkR_same fun e he => mG_M (by omega) (hnf _ (by omega)) rfl⟩
                 ·simp [mtc, mtl, mT, mG, C.isPure, purel]
       ·refine wk_fam fk (by simp) (by simp) (by simp) (fun e he => .inl rfl) ?_ ?_ ?_ fun k hk => absurd (by rw [hσ]; rfl) hk
        ·intro e he
         simp [he]
         exact hmM_ok _ _ _ _ _
        ·simp [SlotOk]
         exact ⟨.same (by simp [purel, C.isPure]), lnR_same fun e he _ => mF_M (by omega) rfl, pkR_same fun e he => mF_M (by omega) rfl⟩
        ·simp [mtc, mtl, mT, mF, C.isPure, purel]
      ·simp [hlt] at hd
     ·have hin : i = xs.length := by omega
      subst hin
      rw [List.drop_length] at hJ
      simp only [harmL] at hJ
      have hR : harmB P xs = (leftF xs 0 cur).map fun L => (L, ln) := by
       unfold harmB
       rw [if_neg h40, hnl, hJ]
      have hB2 := fun L => hB (cur, ln) L hJ
      simp only at hB2
      (repeat refine ZQ ?_); refine ZC (fun hd => ?_) (fun hd => ?_)
      ·simp at hd
      ·clear hd
       (repeat refine ZQ ?_); refine awp_exit ?_
       (repeat refine ZQ ?_); refine ZR fun K hK => ?_; simp (maxSteps := 1000000) [ty42]; refine hK _ ?_; clear hK K
       (repeat refine ZQ ?_); refine ZR fun K hK => ?_; simp (maxSteps := 1000000) [ty3]; refine hK _ ?_; clear hK K
       (repeat refine ZQ ?_); refine awp_block ?_
       refine AWP.weak ?_ (wk_nil 13 13 1 (fu := true) (by simp) (by simp))
       refine awp_loop (fun X : LfX => ⟨ofL [(1, .sl xn xf (xs.map cHm)), (5, .own 5 1 0 n), (7, .own 7 1 0 n), (13, .own 13 1 0 X.left.length), (14, encI X.i)], famS ((13, 13, .live ⟨X.left.isEmpty, false, 1, X.left.map cPl⟩) :: hmT n cur ln) (2 * n) (hmM n cur ln)⟩)
        (fun X => X.i ≤ n ∧ X.left.length = X.i ∧ leftF xs 0 cur = (leftF xs X.i (cur.drop X.i)).map (X.left ++ ·)) (fun X => n - X.i) ⟨0, []⟩ ⟨Nat.zero_le _, rfl, by rw [List.drop_zero]; simp⟩ ?_ ?_
       ·refine wk_fam fk (by simp) (by simp) (by simp) (fun e he => .inl rfl) ?_ ?_ ?_ fun k hk => absurd (by rw [hσ]; rfl) hk
        ·intro e he
         simp [he]
         exact hmM_ok _ _ _ _ _
        ·simp [SlotOk]
         exact ⟨lnR_same fun e he _ => mF_M (by omega) rfl, pkR_same fun e he => mF_M (by omega) rfl⟩
        ·simp [mtc, mtl, mT, mF, C.isPure, purel]
       ·rintro ⟨a, left⟩ ⟨han, hll, hlf⟩
        simp only at han hll hlf ⊢
        have w1 : IntKind.i64.wrap ((a : Int) + 1) = ((a + 1 : Nat) : Int) := by rw [wrap_id (by omega) (by omega)]; rfl
        (repeat refine ZQ ?_); refine ZR fun K hK => ?_; simp (maxSteps := 1000000) [ty42, ty3]; refine hK _ ?_; clear hK K; (first | show AWP _ _ _ _ _ | show ∃ _, _ | skip)
        by_cases hlt : a < n
        ·have hlt' : (a : Int) < n := by omega
         (repeat refine ZQ ?_); refine ZC (hc := by simp [hlt]; rfl) (fun hd => ?_) (fun hd => ?_)
         ·clear hd
          have ha2 : a < 2 * n := by omega
          have hac : a < cur.length := by omega
          obtain ⟨c, hgc⟩ : ∃ c, cur.getD a [] = c := ⟨_, rfl⟩
          have hdr : cur.drop a = c :: cur.drop (a + 1) := by
           rw [List.drop_eq_getElem_cons hac, ← hgc]
           simp [List.getD_eq_getElem?_getD, List.getElem?_eq_getElem hac]
          rw [hdr] at hlf
          have hcm : c ∈ cur := by rw [← hgc]; exact getD_mem hac
          have hck := hcur.pk c hcm
          have hrowP : ∀ hh, (pkR cur)[a]'hh = [.own (fk a) 1 0 c.length] := fun hh => by rw [pkR_get hac, hgc]
          have hM0 : hmM n cur ln a = .live ⟨false, false, 1, c.map cS⟩ := by unfold hmM pkM; rw [if_pos hlt, hgc]
          have hPl := pkR_len cur
          rw [hcl] at hPl
          have hK0 : keepTo xs a c 0 = [] := rfl
          have hKs := fun k (hk : k < c.length) => keepTo_succ xs a c hk
          have hKl := fun k => keepTo_len xs a c k
          have hKe : keepTo xs a c c.length = keepB xs a c := rfl
          generalize keepTo xs a c = Kp at *
          refine awp_skip ?_
          (repeat refine ZQ ?_); refine awp_block ?_
          (repeat refine ZQ ?_); refine ZR fun K hK => ?_; simp (maxSteps := 1000000) [ty22]; refine hK _ ?_; clear hK K
          refine awp_mid ⟨ofL [(1, .sl xn xf (xs.map cHm)), (5, .own 5 1 0 n), (7, .own 7 1 0 n), (13, .own 13 1 0 left.length), (14, encI a), (15, .own 15 1 0 (keepB xs a c).length)], famS ((15, 15, .live ⟨(keepB xs a c).isEmpty, false, 1, (keepB xs a c).map cS⟩) :: (13, 13, .live ⟨left.isEmpty, false, 1, left.map cPl⟩) :: hmT n cur ln) (2 * n) (hmM n cur ln)⟩ ?_ ?_
          ·(repeat refine ZQ ?_); refine ZR fun K hK => ?_; simp (maxSteps := 1000000) [ty3]; refine hK _ ?_; clear hK K
           (repeat refine ZQ ?_); refine awp_block ?_
           refine AWP.weak ?_ (wk_nil 15 15 1 (fu := true) (by simp) (by simp))
           refine awp_loop (fun k : Nat => ⟨ofL [(1, .sl xn xf (xs.map cHm)), (5, .own 5 1 0 n), (7, .own 7 1 0 n), (13, .own 13 1 0 left.length), (14, encI a), (15, .own 15 1 0 (Kp k).length), (16, encI k)], famS ((15, 15, .live ⟨(Kp k).isEmpty, false, 1, (Kp k).map cS⟩) :: (13, 13, .live ⟨left.isEmpty, false, 1, left.map cPl⟩) :: hmT n cur ln) (2 * n) (hmM n cur ln)⟩)
            (fun k => k ≤ c.length) (fun k => c.length - k) 0 (Nat.zero_le _) ?_ ?_
           ·rw [hK0]
            refine wk_fam fk (by simp) (by simp) (by simp) (fun e he => .inl rfl) ?_ ?_ ?_ fun k hk => absurd (by rw [hσ]; rfl) hk
            ·intro e he
             simp [he]
             exact hmM_ok _ _ _ _ _
            ·simp [SlotOk]
             exact ⟨.same (all_purel_map fun _ => rfl), lnR_same fun e he _ => mF_M (by omega) rfl, pkR_same fun e he => mF_M (by omega) rfl⟩
            ·simp [mtc, mtl, mT, mF, C.isPure, purel]
           ·intro k hk
            have w2 : IntKind.i64.wrap ((k : Int) + 1) = ((k + 1 : Nat) : Int) := by rw [wrap_id (by omega) (by omega)]; rfl
            (repeat refine ZQ ?_); refine ZR fun K hK => ?_; simp (maxSteps := 1000000) [ty42, ty22, ty3, hlt, hPl, hrowP]; refine hK _ ?_; clear hK K; (first | show AWP _ _ _ _ _ | show ∃ _, _ | skip)
            by_cases hkl : k < c.length
            ·have hkl' : (k : Int) < c.length := by omega
             (repeat refine ZQ ?_); refine ZC (hc := by simp [hkl]; rfl) (fun hd => ?_) (fun hd => ?_)
             ·clear hd
              refine awp_skip ?_
              (repeat refine ZQ ?_); refine awp_block ?_
              have hks := hKs k hkl
              have hkk := hKl k
              have hL0 : lostTo14 xs a k 0 = false := rfl
              have hLs := fun j (hj : j < xs.length) => lostTo14_succ xs a k hj
              have hLe : lostTo14 xs a k xs.length = lostH xs a k := by unfold lostTo14 lostH; rw [List.take_length]
              generalize lostTo14 xs a k = Lo at *
              (repeat refine ZQ ?_); refine ZR fun K hK => ?_; simp (maxSteps := 1000000) [ty4]; refine hK _ ?_; clear hK K
              refine awp_mid ⟨ofL [(1, .sl xn xf (xs.map cHm)), (5, .own 5 1 0 n), (7, .own 7 1 0 n), (13, .own 13 1 0 left.length), (14, encI a), (15, .own 15 1 0 (Kp k).length), (16, encI k), (17, .bool (lostH xs a k))], famS ((15, 15, .live ⟨(Kp k).isEmpty, false, 1, (Kp k).map cS⟩) :: (13, 13, .live ⟨left.isEmpty, false, 1, left.map cPl⟩) :: hmT n cur ln) (2 * n) (hmM n cur ln)⟩ ?_ ?_
              ·(repeat refine ZQ ?_); refine ZR fun K hK => ?_; simp (maxSteps := 1000000) [ty3]; refine hK _ ?_; clear hK K
               (repeat refine ZQ ?_); refine awp_block ?_
               refine awp_loop (fun j : Nat => ⟨ofL [(1, .sl xn xf (xs.map cHm)), (5, .own 5 1 0 n), (7, .own 7 1 0 n), (13, .own 13 1 0 left.length), (14, encI a), (15, .own 15 1 0 (Kp k).length), (16, encI k), (17, .bool (Lo j)), (18, encI j)], famS ((15, 15, .live ⟨(Kp k).isEmpty, false, 1, (Kp k).map cS⟩) :: (13, 13, .live ⟨left.isEmpty, false, 1, left.map cPl⟩) :: hmT n cur ln) (2 * n) (hmM n cur ln)⟩)
                (fun j => j ≤ xs.length) (fun j => xs.length - j) 0 (Nat.zero_le _) ?_ ?_
               ·rw [hL0]
                refine wk_fam fk (by simp) (by simp) (by simp) (fun e he => .inl rfl) ?_ ?_ ?_ fun k hk => absurd (by rw [hσ]; rfl) hk
                ·intro e he
                 simp [he]
                 exact hmM_ok _ _ _ _ _
                ·simp [SlotOk]
                 exact ⟨.same (all_purel_map fun _ => rfl), .same (all_purel_map fun _ => rfl), lnR_same fun e he _ => mF_M (by omega) rfl, pkR_same fun e he => mF_M (by omega) rfl⟩
                ·simp [mtc, mtl, mT, mF, C.isPure, purel]
               ·intro j hj
                have w3 : IntKind.i64.wrap ((j : Int) + 1) = ((j + 1 : Nat) : Int) := by rw [wrap_id (by omega) (by omega)]; rfl
                (repeat refine ZQ ?_); refine ZR fun K hK => ?_; simp (maxSteps := 1000000) [ty23, ty3]; refine hK _ ?_; clear hK K; (first | show AWP _ _ _ _ _ | show ∃ _, _ | skip)
                by_cases hjl : j < xs.length
                ·have hjl' : (j : Int) < xs.length := by omega
                 (repeat refine ZQ ?_); refine ZC (hc := by simp [hjl]; rfl) (fun hd => ?_) (fun hd => ?_)
                 ·clear hd
                  have hls := hLs j hjl
                  obtain ⟨h, hgh⟩ : ∃ h, xs[j] = h := ⟨_, rfl⟩
                  rw [hgh] at hls
                  refine awp_skip ?_
                  (repeat refine ZQ ?_); refine awp_block ?_
                  cases hlo : Lo j
                  ·rw [hlo] at hls
                   cases hb1 : h.pk == (a : Int)
                   ·rw [hb1] at hls
                    have hn1 : ¬ h.pk = (a : Int) := by simpa using hb1
                    (repeat refine ZQ ?_); refine ZR fun K hK => ?_; simp (maxSteps := 1000000) [ty23, ty77, ty3, ty4, hjl, hgh, hlo, hb1, hn1]; refine hK _ ?_; clear hK K
                    (repeat refine ZQ ?_); refine ZR fun K hK => ?_; simp (maxSteps := 1000000) [ty3, w3]; refine hK _ ?_; clear hK K; (first | show AWP _ _ _ _ _ | show ∃ _, _ | skip)
                    refine ⟨j + 1, by omega, by omega, ?_⟩
                    rw [hls]
                    refine wk_fam fk (by simp) (by simp) (by simp) (fun e he => .inl rfl) ?_ ?_ ?_ fun k hk => absurd (by rw [hσ]; rfl) hk
                    ·intro e he
                     simp [he]
                     exact hmM_ok _ _ _ _ _
                    ·simp [SlotOk]
                     exact ⟨.same (all_purel_map fun _ => rfl), .same (all_purel_map fun _ => rfl), lnR_same fun e he _ => mF_M (by omega) rfl, pkR_same fun e he => mF_M (by omega) rfl⟩
                    ·simp [mtc, mtl, mT, mF, C.isPure, purel]
                   ·rw [hb1] at hls
                    have hn1 : h.pk = (a : Int) := by simpa using hb1
                    cases hb2 : h.ln == (k : Int)
                    ·rw [hb2] at hls
                     have hn2 : ¬ h.ln = (k : Int) := by simpa using hb2
                     (repeat refine ZQ ?_); refine ZR fun K hK => ?_; simp (maxSteps := 1000000) [ty23, ty77, ty3, ty4, hjl, hgh, hlo, hn1, hb2, hn2]; refine hK _ ?_; clear hK K
                     (repeat refine ZQ ?_); refine ZR fun K hK => ?_; simp (maxSteps := 1000000) [ty3, w3]; refine hK _ ?_; clear hK K; (first | show AWP _ _ _ _ _ | show ∃ _, _ | skip)
                     refine ⟨j + 1, by omega, by omega, ?_⟩
                     rw [hls]
                     refine wk_fam fk (by simp) (by simp) (by simp) (fun e he => .inl rfl) ?_ ?_ ?_ fun k hk => absurd (by rw [hσ]; rfl) hk
                     ·intro e he
                      simp [he]
                      exact hmM_ok _ _ _ _ _
                     ·simp [SlotOk]
                      exact ⟨.same (all_purel_map fun _ => rfl), .same (all_purel_map fun _ => rfl), lnR_same fun e he _ => mF_M (by omega) rfl, pkR_same fun e he => mF_M (by omega) rfl⟩
                     ·simp [mtc, mtl, mT, mF, C.isPure, purel]
                    ·rw [hb2] at hls
                     have hn2 : h.ln = (k : Int) := by simpa using hb2
                     by_cases hb3 : h.at_ < 0
                     ·rw [decide_eq_true hb3] at hls
                      (repeat refine ZQ ?_); refine ZR fun K hK => ?_; simp (maxSteps := 1000000) [ty23, ty77, ty3, ty4, hjl, hgh, hlo, hn1, hn2, hb3]; refine hK _ ?_; clear hK K
                      (repeat refine ZQ ?_); refine ZR fun K hK => ?_; simp (maxSteps := 1000000) [ty3, w3]; refine hK _ ?_; clear hK K; (first | show AWP _ _ _ _ _ | show ∃ _, _ | skip)
                      refine ⟨j + 1, by omega, by omega, ?_⟩
                      rw [hls]
                      refine wk_fam fk (by simp) (by simp) (by simp) (fun e he => .inl rfl) ?_ ?_ ?_ fun k hk => absurd (by rw [hσ]; rfl) hk
                      ·intro e he
                       simp [he]
                       exact hmM_ok _ _ _ _ _
                      ·simp [SlotOk]
                       exact ⟨.same (all_purel_map fun _ => rfl), .same (all_purel_map fun _ => rfl), lnR_same fun e he _ => mF_M (by omega) rfl, pkR_same fun e he => mF_M (by omega) rfl⟩
                      ·simp [mtc, mtl, mT, mF, C.isPure, purel]
                     ·rw [decide_eq_false hb3] at hls
                      (repeat refine ZQ ?_); refine ZR fun K hK => ?_; simp (maxSteps := 1000000) [ty23, ty77, ty3, ty4, hjl, hgh, hlo, hn1, hn2, hb3]; refine hK _ ?_; clear hK K
                      (repeat refine ZQ ?_); refine ZR fun K hK => ?_; simp (maxSteps := 1000000) [ty3, w3]; refine hK _ ?_; clear hK K; (first | show AWP _ _ _ _ _ | show ∃ _, _ | skip)
                      refine ⟨j + 1, by omega, by omega, ?_⟩
                      rw [hls]
                      refine wk_fam fk (by simp) (by simp) (by simp) (fun e he => .inl rfl) ?_ ?_ ?_ fun k hk => absurd (by rw [hσ]; rfl) hk
                      ·intro e he
                       simp [he]
                       exact hmM_ok _ _ _ _ _
                      ·simp [SlotOk]
                       exact ⟨.same (all_purel_map fun _ => rfl), .same (all_purel_map fun _ => rfl), lnR_same fun e he _ => mF_M (by omega) rfl, pkR_same fun e he => mF_M (by omega) rfl⟩
                      ·simp [mtc, mtl, mT, mF, C.isPure, purel]
                  ·rw [hlo] at hls
                   (repeat refine ZQ ?_); refine ZR fun K hK => ?_; simp (maxSteps := 1000000) [ty23, ty77, ty3, ty4, hjl, hgh, hlo]; refine hK _ ?_; clear hK K
                   (repeat refine ZQ ?_); refine ZR fun K hK => ?_; simp (maxSteps := 1000000) [ty3, w3]; refine hK _ ?_; clear hK K; (first | show AWP _ _ _ _ _ | show ∃ _, _ | skip)
                   refine ⟨j + 1, by omega, by omega, ?_⟩
                   rw [hls]
                   refine wk_fam fk (by simp) (by simp) (by simp) (fun e he => .inl rfl) ?_ ?_ ?_ fun k hk => absurd (by rw [hσ]; rfl) hk
                   ·intro e he
                    simp [he]
                    exact hmM_ok _ _ _ _ _
                   ·simp [SlotOk]
                    exact ⟨.same (all_purel_map fun _ => rfl), .same (all_purel_map fun _ => rfl), lnR_same fun e he _ => mF_M (by omega) rfl, pkR_same fun e he => mF_M (by omega) rfl⟩
                   ·simp [mtc, mtl, mT, mF, C.isPure, purel]
                 ·simp [hjl] at hd
                ·have hjn : j = xs.length := by omega
                 subst hjn
                 (repeat refine ZQ ?_); refine ZC (fun hd => ?_) (fun hd => ?_)
                 ·simp at hd
                 ·clear hd
                  (repeat refine ZQ ?_); refine awp_exit ?_; (first | show AWP _ _ _ _ _ | show ∃ _, _ | skip)
                  rw [← hLe]
                  refine wk_fam fk (by simp) (by simp) (by simp) (fun e he => .inl rfl) ?_ ?_ ?_ fun k hk => absurd (by rw [hσ]; rfl) hk
                  ·intro e he
                   simp [he]
                   exact hmM_ok _ _ _ _ _
                  ·simp [SlotOk]
                   exact ⟨.same (all_purel_map fun _ => rfl), .same (all_purel_map fun _ => rfl), lnR_same fun e he _ => mF_M (by omega) rfl, pkR_same fun e he => mF_M (by omega) rfl⟩
                  ·simp [mtc, mtl, mT, mF, C.isPure, purel]
              ·clear hLs hL0 hLe
               cases hlo : lostH xs a k
               ·rw [hlo, if_neg (by simp)] at hks
                obtain ⟨s, hgs⟩ : ∃ s, c[k] = s := ⟨_, rfl⟩
                rw [hgs] at hks
                (repeat refine ZQ ?_); refine ZR fun K hK => ?_; simp (maxSteps := 1000000) [ty4]; refine hK _ ?_; clear hK K
                (repeat refine ZQ ?_); refine ZC (fun hd => ?_) (fun hd => ?_)
                ·clear hd
                 (repeat refine ZQ ?_); refine ZR fun K hK => ?_; simp (maxSteps := 1000000) [ty42, ty22, ty9, hlt, hPl, hrowP, hM0, ha2, hkl, hgs]
                 refine ⟨by omega, ?_⟩
                 refine hK _ ?_; clear hK K
                 (repeat refine ZQ ?_); refine ZR fun K hK => ?_; simp (maxSteps := 1000000) [ty3, w2]; refine hK _ ?_; clear hK K; (first | show AWP _ _ _ _ _ | show ∃ _, _ | skip)
                 refine ⟨k + 1, by omega, by omega, ?_⟩
                 rw [hks]
                 refine wk_fam (T := (15, 218, .live ⟨(Kp k ++ [s]).isEmpty, false, 1, (Kp k ++ [s]).map cS⟩) :: (13, 13, .live ⟨left.isEmpty, false, 1, left.map cPl⟩) :: hmT n cur ln) fk (by simp) (by simp) (by simp) (fun e he => .inl rfl) ?_ ?_ ?_ fun k hk => absurd (by rw [hσ]; rfl) hk
                 ·intro e he
                  simp [he]
                  exact hmM_ok _ _ _ _ _
                 ·simp [SlotOk]
                  exact ⟨.same (by simp [purel, C.isPure]), .same (all_purel_map fun _ => rfl), lnR_same fun e he _ => mF_M (by omega) rfl, pkR_same fun e he => mF_M (by omega) rfl⟩
                 ·simp [mtc, mtl, mT, mF, C.isPure, purel]
                ·simp at hd
               ·rw [hlo, if_pos rfl] at hks
                (repeat refine ZQ ?_); refine ZR fun K hK => ?_; simp (maxSteps := 1000000) [ty4]; refine hK _ ?_; clear hK K
                (repeat refine ZQ ?_); refine ZC (fun hd => ?_) (fun hd => ?_)
                ·simp at hd
                ·clear hd
                 refine awp_skip ?_
                 (repeat refine ZQ ?_); refine ZR fun K hK => ?_; simp (maxSteps := 1000000) [ty3, w2]; refine hK _ ?_; clear hK K; (first | show AWP _ _ _ _ _ | show ∃ _, _ | skip)
                 refine ⟨k + 1, by omega, by omega, ?_⟩
                 rw [hks]
                 refine wk_fam fk (by simp) (by simp) (by simp) (fun e he => .inl rfl) ?_ ?_ ?_ fun k hk => absurd (by rw [hσ]; rfl) hk
                 ·intro e he
                  simp [he]
                  exact hmM_ok _ _ _ _ _
                 ·simp [SlotOk]
                  exact ⟨.same (all_purel_map fun _ => rfl), .same (all_purel_map fun _ => rfl), lnR_same fun e he _ => mF_M (by omega) rfl, pkR_same fun e he => mF_M (by omega) rfl⟩
                 ·simp [mtc, mtl, mT, mF, C.isPure, purel]
             ·simp [hkl] at hd
            ·have hkn : k = c.length := by omega
             subst hkn
             (repeat refine ZQ ?_); refine ZC (fun hd => ?_) (fun hd => ?_)
             ·simp at hd
             ·clear hd
              (repeat refine ZQ ?_); refine awp_exit ?_; (first | show AWP _ _ _ _ _ | show ∃ _, _ | skip)
              rw [← hKe]
              refine wk_fam fk (by simp) (by simp) (by simp) (fun e he => .inl rfl) ?_ ?_ ?_ fun k hk => absurd (by rw [hσ]; rfl) hk
              ·intro e he
               simp [he]
               exact hmM_ok _ _ _ _ _
              ·simp [SlotOk]
               exact ⟨.same (all_purel_map fun _ => rfl), .same (all_purel_map fun _ => rfl), lnR_same fun e he _ => mF_M (by omega) rfl, pkR_same fun e he => mF_M (by omega) rfl⟩
              ·simp [mtc, mtl, mT, mF, C.isPure, purel]
          ·have hkle : (keepB xs a c).length ≤ c.length := by rw [← hKe]; exact hKl _
           clear hKs hK0 hKl hKe
           by_cases hk0 : keepB xs a c = []
           ·rw [leftF_none hk0, Option.map_none] at hlf
            have hRn : harmB P xs = none := by rw [hR, hlf]; rfl
            (repeat refine ZQ ?_); refine ZR fun K hK => ?_; simp (maxSteps := 1000000) [ty22, ty3, hk0]; refine hK _ ?_; clear hK K
            (repeat refine ZQ ?_); refine ZC (fun hd => ?_) (fun hd => ?_)
            ·clear hd
             (repeat refine ZQ ?_); refine ZR fun K hK => ?_; simp (maxSteps := 1000000) [ty9, ty29, ty4]; refine hK _ ?_; clear hK K; (first | show AWP _ _ _ _ _ | show ∃ _, _ | skip)
             rw [hRn]
             simp only [encHm]
             (repeat refine ZQ ?_); refine awp_ret ?_; refine And.intro (Or.inr rfl) ?_
             simp [retC, resC, viewC, mapO]
            ·simp at hd
           ·rw [leftF_some hk0, Option.map_map] at hlf
            generalize keepB xs a c = kp at *
            have hkz : ((kp.length : Int) == 0) = false := by rw [beq_eq_false_iff_ne]; have := List.length_pos_iff.2 hk0; omega
            have hke : kp.isEmpty = false := by simpa using hk0
            (repeat refine ZQ ?_); refine ZR fun K hK => ?_; simp (maxSteps := 1000000) [ty22, ty3, hkz, hk0]; refine hK _ ?_; clear hK K
            (repeat refine ZQ ?_); refine ZC (fun hd => ?_) (fun hd => ?_)
            ·simp [hk0] at hd
            ·clear hd
             refine awp_skip ?_; (first | show AWP _ _ _ _ _ | show ∃ _, _ | skip)
             refine AWP.weak ?_ (wk_frz 15 15 (c := sT false false kp) (o := ⟨kp.isEmpty, false, 1, kp.map cS⟩) (by simp) (all_purel_map fun _ => rfl) (fz_own rfl (by simp) (by simp [hk0])))
             (repeat refine ZQ ?_); refine ZR fun K hK => ?_; simp (maxSteps := 1000000) [ty42, ty22]
             refine ⟨by omega, ?_⟩
             refine hK _ ?_; clear hK K
             (repeat refine ZQ ?_); refine ZR fun K hK => ?_; simp (maxSteps := 1000000) [ty3, w1]; refine hK _ ?_; clear hK K; (first | show AWP _ _ _ _ _ | show ∃ _, _ | skip)
             refine ⟨⟨a + 1, left ++ [kp]⟩, ⟨by simp only; omega, by simp; omega, by rw [hlf]; congr 1; funext L; simp⟩, by simp only; omega, ?_⟩
             refine wk_fam (T := (13, 225, .live ⟨(left ++ [kp]).isEmpty, false, 1, (left ++ [kp]).map cPl⟩) :: hmT n cur ln) fk (by simp) (by simp) (by simp) (fun e he => .inl rfl) ?_ ?_ ?_ fun k hk => absurd (by rw [hσ]; rfl) hk
             ·intro e he
              simp [he]
              exact hmM_ok _ _ _ _ _
             ·simp [SlotOk]
              exact ⟨.same (by simp [purel, C.isPure]), lnR_same fun e he _ => mF_M (by omega) rfl, pkR_same fun e he => mF_M (by omega) rfl⟩
             ·simp [mtc, mtl, mT, mF, C.isPure, purel]
         ·simp [hlt] at hd
        ·have hna : a = n := by omega
         subst hna
         have hdn : cur.drop a = [] := List.drop_of_length_le (by omega)
         rw [hdn] at hlf
         simp only [leftF, Option.map_some, List.append_nil] at hlf
         have hRs : harmB P xs = some (left, ln) := by rw [hR, hlf]; rfl
         have hb := hB2 left hlf
         have c24 := q_written24 left.isEmpty false (left.map mkPk) (by rw [mk_wr]; exact hb)
         rw [mk_wr] at c24
         unfold sPk at c24
         rw [← mk_rows] at c24
         rw [hRs]
         have hM2 : ∀ e, e < a → ln.getD e [] ≠ [] → hmM a cur ln (a + e) = .live ⟨false, false, 1, (ln.getD e []).map cI⟩ := fun e he hr => by
          unfold hmM lnS
          rw [if_neg (by omega), show a + e - a = e by omega, if_neg hr]
         (repeat refine ZQ ?_); refine ZC (fun hd => ?_) (fun hd => ?_)
         ·simp at hd
         ·clear hd
          (repeat refine ZQ ?_); refine awp_exit ?_; (first | show AWP _ _ _ _ _ | show ∃ _, _ | skip)
          refine AWP.weak ?_ (wk_frz 13 13 (c := sPl left.isEmpty false left) (o := ⟨left.isEmpty, false, 1, left.map cPl⟩) (by simp) (all_purel_map fun _ => rfl) (fz_own rfl (by simp) (by simp)))
          (repeat refine ZQ ?_); refine ZR fun K hK => ?_; simp (maxSteps := 1000000) [ty42]
          refine ZP (c24) ?_; simp (maxSteps := 1000000) [ty9, ty29, ty4]
          refine hK _ ?_; clear hK K
          (repeat refine ZQ ?_); refine awp_ret ?_; refine And.intro (Or.inr rfl) ?_
          refine ⟨.tup [encS (wrL left), .own 5 1 0 a, .bool true], by simp [retC, resC], ?_⟩
          have hv := view_ln (σ := upd (famS ((13, 13, .live ⟨left.isEmpty, false, 1, left.map cPl⟩) :: hmT a cur ln) (2 * a) (hmM a cur ln)) 13 .dead) hlnl (by simp [upd, stoT]) (fun e he hr => by
           have h1 : a + e < 2 * a := by omega
           simp [upd, h1, hM2 e he hr]) 3
          simp only [encHm]
          unfold viewC
          rw [if_neg (by simp [C.isPure, purel])]
          simp only [mapO]
          rw [hv]
          simp [viewC, C.isPure]
 ·refine wk_fam fk (by simp) (by simp) (by simp) (fun e he => .inl rfl) ?_ ?_ ?_ fun k hk => absurd (by rw [hσ]; rfl) hk
  ·intro e he
   show SlotOk _ (updO freeS ((7, (⟨false, false, 1, pkR P⟩ : Ob)) :: pkL P) (fk e)) _
   rw [(hst7 _ rfl).2 e he]
   exact pkM_ok _ _ _
  ·intro q hq
   obtain rfl : q = (7, 7, .live ⟨false, false, 1, pkR P⟩) := by simpa using hq
   show SlotOk _ (updO freeS ((7, (⟨false, false, 1, pkR P⟩ : Ob)) :: pkL P) 7) _
   rw [(hst7 _ rfl).1]
   exact ⟨rfl, rfl, rfl, pkR_same fun e he => mF_M (by omega) rfl⟩
  ·simp [mtc, mtl, mT, mF, C.isPure, purel]

set_option maxHeartbeats 8000000
set_option maxRecDepth 20000


@[simp] abbrev cLn (r : List Int) : List C := [.sl r.isEmpty r.isEmpty (r.map cI)]

def fewB (ln : Lns) (m : Int) : Bool := ln.all fun r => decide ((r.length : Int) ≤ m)

theorem l_few15 (nl fu : Bool) (ln : Lns) (m : Int) (hn : ln.length ≤ 100000) : Pure Tryz.prog 15 [.sl nl fu (ln.map cLn), encI m] (.bool (fewB ln m)) := by
 refine ZF (fn := Tryz.f15) [.tmp 4] ⟨Tryz.func15, rfl, by kernel_rfl⟩ fun x hx hσ => ?_
 (repeat refine ZQ ?_); refine ZR fun K hK => ?_; simp (maxSteps := 1000000) [ty4]; refine hK _ ?_; clear hK K
 (repeat refine ZQ ?_); refine ZR fun K hK => ?_; simp (maxSteps := 1000000) [ty3]; refine hK _ ?_; clear hK K
 (repeat refine ZQ ?_); refine awp_block ?_
 refine awp_loop (fun i : Nat => ⟨ofL [(0, .sl nl fu (ln.map cLn)), (1, encI m), (5, encI i)], stoT []⟩)
  (fun i => i ≤ ln.length ∧ ∀ j (h : j < ln.length), j < i → ((ln[j].length : Int) ≤ m)) (fun i => ln.length - i) 0 ⟨Nat.zero_le _, fun j _ hj => absurd hj (by omega)⟩ ?_ ?_
 ·exact ZW
 ·intro i ⟨hi, hp⟩
  have w1 : IntKind.i64.wrap ((i : Int) + 1) = ((i + 1 : Nat) : Int) := by rw [wrap_id (by omega) (by omega)]; rfl
  (repeat refine ZQ ?_); refine ZR fun K hK => ?_; simp (maxSteps := 1000000) [ty29, ty3]; refine hK _ ?_; clear hK K; (first | show AWP _ _ _ _ _ | show ∃ _, _ | skip)
  by_cases hlt : i < ln.length
  ·have hlt' : (i : Int) < ln.length := by omega
   (repeat refine ZQ ?_); refine ZC (hc := by simp [hlt]; rfl) (fun hd => ?_) (fun hd => ?_)
   ·clear hd
    have hmem := List.getElem_mem hlt
    have hnext : ((ln[i].length : Int) ≤ m) → ∀ j (h : j < ln.length), j < i + 1 → ((ln[j].length : Int) ≤ m) := fun hb j h hj => by
     by_cases e : j = i
     ·subst e; exact hb
     ·exact hp j h (by omega)
    obtain ⟨r, hgr⟩ : ∃ r, ln[i] = r := ⟨_, rfl⟩
    rw [hgr] at hmem hnext
    refine awp_skip ?_
    (repeat refine ZQ ?_); refine awp_block ?_
    by_cases hb : m < (r.length : Int)
    ·have hV : fewB ln m = false := by
      cases hf : fewB ln m with
      | false => rfl
      | true =>
       have := of_decide_eq_true (List.all_eq_true.1 hf r hmem)
       omega
     rw [hV]
     (repeat refine ZQ ?_); refine ZR fun K hK => ?_; simp (maxSteps := 1000000) [ty29, ty33, ty3, hlt, hgr, hb]; refine hK _ ?_; clear hK K
     (repeat refine ZQ ?_); refine ZC (fun hd => ?_) (fun hd => ?_)
     ·clear hd
      (repeat refine ZQ ?_); refine ZR fun K hK => ?_; simp (maxSteps := 1000000) [ty4]; refine hK _ ?_; clear hK K
      (repeat refine ZQ ?_); refine awp_ret ?_; refine And.intro (Or.inr rfl) ?_
      simp [retC, resC, viewC, mapO]
     ·simp at hd
    ·(repeat refine ZQ ?_); refine ZR fun K hK => ?_; simp (maxSteps := 1000000) [ty29, ty33, ty3, hlt, hgr, hb]; refine hK _ ?_; clear hK K
     (repeat refine ZQ ?_); refine ZC (hc := by simp [hb]; rfl) (fun hd => ?_) (fun hd => ?_)
     ·simp [hb] at hd
     ·clear hd
      refine awp_skip ?_
      (repeat refine ZQ ?_); refine ZR fun K hK => ?_; simp (maxSteps := 1000000) [ty3, w1]; refine hK _ ?_; clear hK K; (first | show AWP _ _ _ _ _ | show ∃ _, _ | skip)
      refine ⟨i + 1, ⟨by omega, hnext (by omega)⟩, by omega, ?_⟩
      exact ZW
   ·simp [hlt] at hd
  ·have hin : i = ln.length := by omega
   subst hin
   have hV : fewB ln m = true := List.all_eq_true.2 fun r hr => by
    obtain ⟨j, hj, rfl⟩ := List.getElem_of_mem hr
    exact decide_eq_true (hp j hj hj)
   rw [hV]
   (repeat refine ZQ ?_); refine ZC (fun hd => ?_) (fun hd => ?_)
   ·simp at hd
   ·clear hd
    (repeat refine ZQ ?_); refine awp_exit ?_
    (repeat refine ZQ ?_); refine ZR fun K hK => ?_; simp (maxSteps := 1000000) [ty4]; refine hK _ ?_; clear hK K
    (repeat refine ZQ ?_); refine awp_ret ?_; refine And.intro (Or.inr rfl) ?_
    simp [retC, resC, viewC, mapO]

def txK (ln : Lns) (t k : Nat) : List Int := (((ln.getD (t / 8) []).take k).filter fun z => z == ((t % 8 : Nat) : Int)).map fun _ => (t : Int)
def txTo (ln : Lns) (n : Nat) : List Int := (List.range n).flatMap fun t => txK ln t (ln.getD (t / 8) []).length
theorem txTo_succ (ln : Lns) (n : Nat) : txTo ln (n + 1) = txTo ln n ++ txK ln n (ln.getD (n / 8) []).length := by
 unfold txTo
 rw [List.range_succ, List.flatMap_append]; simp
theorem txK_succ (ln : Lns) (t : Nat) {k : Nat} (hk : k < (ln.getD (t / 8) []).length) : txK ln t (k + 1) = if (ln.getD (t / 8) [])[k] = ((t % 8 : Nat) : Int) then txK ln t k ++ [(t : Int)] else txK ln t k := by
 unfold txK
 rw [List.take_succ_eq_append_getElem hk, List.filter_append, List.map_append]
 by_cases h : (ln.getD (t / 8) [])[k] = ((t % 8 : Nat) : Int)
 ·rw [if_pos h]
  have : ((ln.getD (t / 8) [])[k] == ((t % 8 : Nat) : Int)) = true := beq_iff_eq.2 h
  simp only [List.filter_cons, List.filter_nil, this, if_true, List.map_cons, List.map_nil]
 ·rw [if_neg h]
  have : ((ln.getD (t / 8) [])[k] == ((t % 8 : Nat) : Int)) = false := beq_eq_false_iff_ne.2 h
  simp only [List.filter_cons, List.filter_nil, this]
  simp
theorem txK_len (ln : Lns) (t k : Nat) : (txK ln t k).length ≤ k := by
 unfold txK
 rw [List.length_map]
 exact Nat.le_trans (List.length_filter_le _ _) (by simp; omega)

theorem l_texted20 (n1 f1 nl fu : Bool) (L : Ls) (ln : Lns) (hL : L.length ≤ 1000) (hl : ∀ t, t < L.length → t / 8 < ln.length) (hr : ∀ r ∈ ln, r.length ≤ 100) : Pure Tryz.prog 20 [sT n1 f1 L, .sl nl fu (ln.map cLn)] (.sl (txTo ln L.length).isEmpty false ((txTo ln L.length).map cI)) := by
 have hT0 : txTo ln 0 = [] := rfl
 have hTs := fun t => txTo_succ ln t
 have hKs := fun t k (hk : k < (ln.getD (t / 8) []).length) => txK_succ ln t hk
 have hKl := fun t k => txK_len ln t k
 have hK0 : ∀ t, txK ln t 0 = [] := fun t => by unfold txK; simp
 generalize txTo ln = Tx at *
 generalize txK ln = Kx at *
 refine ZF (fn := Tryz.f20) [.tmp 4] ⟨Tryz.func20, rfl, by kernel_rfl⟩ fun x hx hσ => ?_
 (repeat refine ZQ ?_); refine ZR fun K hK => ?_; simp (maxSteps := 1000000) [ty33]; refine hK _ ?_; clear hK K
 (repeat refine ZQ ?_); refine ZR fun K hK => ?_; simp (maxSteps := 1000000) [ty33]; refine hK _ ?_; clear hK K
 (repeat refine ZQ ?_); refine ZR fun K hK => ?_; simp (maxSteps := 1000000) [ty3]; refine hK _ ?_; clear hK K
 (repeat refine ZQ ?_); refine awp_block ?_
 refine AWP.weak ?_ (wk_nil 5 5 1 (fu := true) (by simp) (by simp))
 refine awp_loop (fun t : Nat => ⟨ofL [(0, sT n1 f1 L), (1, .sl nl fu (ln.map cLn)), (5, .own 5 1 0 (Tx t).length), (6, encI t)], stoT [(5, 5, .live ⟨(Tx t).isEmpty, false, 1, (Tx t).map cI⟩)]⟩)
  (fun t => t ≤ L.length ∧ (Tx t).length ≤ 100 * t) (fun t => L.length - t) 0 ⟨Nat.zero_le _, by rw [hT0]; exact Nat.le_refl _⟩ ?_ ?_
 ·rw [hT0]
  exact ZW
 ·intro t ⟨ht, hTl⟩
  have w1 : IntKind.i64.wrap ((t : Int) + 1) = ((t + 1 : Nat) : Int) := by rw [wrap_id (by omega) (by omega)]; rfl
  (repeat refine ZQ ?_); refine ZR fun K hK => ?_; simp (maxSteps := 1000000) [ty22, ty3]; refine hK _ ?_; clear hK K; (first | show AWP _ _ _ _ _ | show ∃ _, _ | skip)
  by_cases hlt : t < L.length
  ·have hlt' : (t : Int) < L.length := by omega
   (repeat refine ZQ ?_); refine ZC (hc := by simp [hlt]; rfl) (fun hd => ?_) (fun hd => ?_)
   ·clear hd
    have hql := hl t hlt
    have hts := hTs t
    have hks := hKs t
    have hkl := hKl t
    have hk0 := hK0 t
    have hge : ln[t / 8] = ln.getD (t / 8) [] := by simp [List.getD_eq_getElem?_getD, List.getElem?_eq_getElem hql]
    have hrm := hr _ (List.getElem_mem hql)
    rw [hge] at hrm
    obtain ⟨r, hgr⟩ : ∃ r, ln.getD (t / 8) [] = r := ⟨_, rfl⟩
    rw [hgr] at hge hrm
    simp only [hgr] at hts hks
    have htd : Int.tdiv (t : Int) 8 = ((t / 8 : Nat) : Int) := rfl
    have htm : Int.tmod (t : Int) 8 = ((t % 8 : Nat) : Int) := rfl
    obtain ⟨u, hu⟩ : ∃ u, t / 8 = u := ⟨_, rfl⟩
    obtain ⟨v, hv⟩ : ∃ v, t % 8 = v := ⟨_, rfl⟩
    simp only [hu] at htd hge hql
    simp only [hv] at htm hks
    have wu : IntKind.i64.wrap (u : Int) = u := wrap_id (by omega) (by omega)
    have wv : IntKind.i64.wrap (v : Int) = v := wrap_id (by omega) (by omega)
    generalize Kx t = Kt at *
    refine awp_skip ?_
    (repeat refine ZQ ?_); refine awp_block ?_
    (repeat refine ZQ ?_); refine ZR fun K hK => ?_; simp (maxSteps := 1000000) [ty29, ty33, ty3, htd, wu, hql, hge]; refine hK _ ?_; clear hK K
    (repeat refine ZQ ?_); refine ZR fun K hK => ?_; simp (maxSteps := 1000000) [ty3]; refine hK _ ?_; clear hK K
    (repeat refine ZQ ?_); refine awp_block ?_
    refine awp_loop (fun k : Nat => ⟨ofL [(0, sT n1 f1 L), (1, .sl nl fu (ln.map cLn)), (5, .own 5 1 0 (Tx t ++ Kt k).length), (6, encI t), (7, .sl r.isEmpty r.isEmpty (r.map cI)), (8, encI k)], stoT [(5, 5, .live ⟨(Tx t ++ Kt k).isEmpty, false, 1, (Tx t ++ Kt k).map cI⟩)]⟩)
     (fun k => k ≤ r.length) (fun k => r.length - k) 0 (Nat.zero_le _) ?_ ?_
    ·rw [hk0]
     exact ZW
    ·intro k hk
     have w2 : IntKind.i64.wrap ((k : Int) + 1) = ((k + 1 : Nat) : Int) := by rw [wrap_id (by omega) (by omega)]; rfl
     (repeat refine ZQ ?_); refine ZR fun K hK => ?_; simp (maxSteps := 1000000) [ty33, ty3]; refine hK _ ?_; clear hK K; (first | show AWP _ _ _ _ _ | show ∃ _, _ | skip)
     by_cases hkr : k < r.length
     ·have hkr' : (k : Int) < r.length := by omega
      (repeat refine ZQ ?_); refine ZC (hc := by simp [hkr]; rfl) (fun hd => ?_) (fun hd => ?_)
      ·clear hd
       have hst := hks k hkr
       have hkk := hkl k
       obtain ⟨z, hgz⟩ : ∃ z, r[k] = z := ⟨_, rfl⟩
       rw [hgz] at hst
       refine awp_skip ?_
       (repeat refine ZQ ?_); refine awp_block ?_
       by_cases hz : z = (v : Int)
       ·rw [if_pos hz] at hst
        have hze : (z == (v : Int)) = true := beq_iff_eq.2 hz
        (repeat refine ZQ ?_); refine ZR fun K hK => ?_; simp (maxSteps := 1000000) [ty33, ty3, hkr, hgz, htm, wv, hze, hz]; refine hK _ ?_; clear hK K
        (repeat refine ZQ ?_); refine ZC (fun hd => ?_) (fun hd => ?_)
        ·clear hd
         (repeat refine ZQ ?_); refine ZR fun K hK => ?_; simp (maxSteps := 1000000) [ty33, ty3]
         refine ⟨by omega, ?_⟩
         refine hK _ ?_; clear hK K
         (repeat refine ZQ ?_); refine ZR fun K hK => ?_; simp (maxSteps := 1000000) [ty3, w2]; refine hK _ ?_; clear hK K; (first | show AWP _ _ _ _ _ | show ∃ _, _ | skip)
         refine ⟨k + 1, by omega, by omega, ?_⟩
         rw [hst]
         refine wk_shape2 [(5, 36, .live ⟨(Tx t ++ (Kt k ++ [(t : Int)])).isEmpty, false, 1, (Tx t ++ (Kt k ++ [(t : Int)])).map cI⟩)] (by first | rfl | (simp only [if_pos, if_true]; rfl)) (shp0 hσ (by simp) (by simp) ?_) ?_
         ·simp [SlotOk] <;> (repeat' (first | (refine RowsOk.same ?_; simp [purel, C.isPure]; done) | (refine rowsCons ?_; simp [mtl, mtc, mT, mH, C.isPure, purel]; done) | (refine rowsCons ?_; simp [mtl, mtc, mT, mH, C.isPure, purel]) | refine And.intro ?_ ?_))
         ·simp [mtc, mtl, mT, C.isPure, purel] <;> (try simp (disch := omega) [wrap_id]) <;> (try omega)
        ·simp [hz] at hd
       ·rw [if_neg hz] at hst
        have hze : (z == (v : Int)) = false := beq_eq_false_iff_ne.2 hz
        (repeat refine ZQ ?_); refine ZR fun K hK => ?_; simp (maxSteps := 1000000) [ty33, ty3, hkr, hgz, htm, wv, hze, hz]; refine hK _ ?_; clear hK K
        (repeat refine ZQ ?_); refine ZC (hc := by simp [hz]; rfl) (fun hd => ?_) (fun hd => ?_)
        ·simp [hz] at hd
        ·clear hd
         refine awp_skip ?_
         (repeat refine ZQ ?_); refine ZR fun K hK => ?_; simp (maxSteps := 1000000) [ty3, w2]; refine hK _ ?_; clear hK K; (first | show AWP _ _ _ _ _ | show ∃ _, _ | skip)
         refine ⟨k + 1, by omega, by omega, ?_⟩
         rw [hst]
         exact ZW
      ·simp [hkr] at hd
     ·have hkn : k = r.length := by omega
      subst hkn
      (repeat refine ZQ ?_); refine ZC (fun hd => ?_) (fun hd => ?_)
      ·simp at hd
      ·clear hd
       (repeat refine ZQ ?_); refine awp_exit ?_
       (repeat refine ZQ ?_); refine ZR fun K hK => ?_; simp (maxSteps := 1000000) [ty3, w1]; refine hK _ ?_; clear hK K; (first | show AWP _ _ _ _ _ | show ∃ _, _ | skip)
       have hle : (Tx (t + 1)).length ≤ 100 * (t + 1) := by
        rw [hts, List.length_append]
        have := hkl r.length
        omega
       refine ⟨t + 1, ⟨by omega, hle⟩, by omega, ?_⟩
       rw [hts]
       exact ZW
   ·simp [hlt] at hd
  ·have hin : t = L.length := by omega
   subst hin
   (repeat refine ZQ ?_); refine ZC (fun hd => ?_) (fun hd => ?_)
   ·simp at hd
   ·clear hd
    (repeat refine ZQ ?_); refine awp_exit ?_; (first | show AWP _ _ _ _ _ | show ∃ _, _ | skip)
    generalize Tx L.length = X at *
    have hpu : (X.map cI).all purel = true := all_purel_map fun _ => rfl
    have htx : List.take X.length (X.map cI) = X.map cI := List.take_of_length_le (by simp)
    (repeat refine ZQ ?_); refine ZR fun K hK => ?_; simp (maxSteps := 1000000) [ty33]; refine hK _ ?_; clear hK K
    (repeat refine ZQ ?_); refine awp_ret ?_; refine And.intro (Or.inr rfl) ?_
    simp [retC, resC, viewC, mapO, hpu, htx]

set_option maxHeartbeats 8000000
set_option maxRecDepth 20000


theorem harmed_nil0 (l : List UInt8) (xn xf : Bool) (hn : l.length ≤ 20000) (hv2 : (cutV l).2 = true) (hP0 : rQ l = []) : Pure Tryz.prog 14 [encS l, .sl xn xf []] (encHm (some ([], []))) := by
 have c23 := q_cut23 l (by omega)
 rw [encCut_ok hv2, hP0] at c23
 have c24 := q_written24 true true [] (by simp [writtenB])
 have w24 : writtenB [] = [] := rfl
 rw [w24] at c24
 have he : encHm (some ([], [])) = .tup [encS [], .sl false false [], .bool true] := rfl
 rw [he]
 refine ZF (fn := Tryz.f14) [.tmp 4, .tmp 5, .tmp 6] ⟨Tryz.func14, rfl, by kernel_rfl⟩ fun x hx hσ => ?_
 (repeat refine ZQ ?_); refine ZR fun K hK => ?_; simp (maxSteps := 1000000) [ty9, ty29, ty4]; refine hK _ ?_; clear hK K
 (repeat refine ZQ ?_); refine ZR fun K hK => ?_; simp (maxSteps := 1000000) [ty9]
 refine ZP (c23) ?_; simp (maxSteps := 1000000) [ty42, ty4]
 refine hK _ ?_; clear hK K
 (repeat refine ZQ ?_); refine ZR fun K hK => ?_; simp (maxSteps := 1000000) [ty4, ty23, ty3]; refine hK _ ?_; clear hK K
 (repeat refine ZQ ?_); refine ZC (fun hd => ?_) (fun hd => ?_)
 ·simp at hd
 ·clear hd
  refine awp_skip ?_
  (repeat refine ZQ ?_); refine ZR fun K hK => ?_; simp (maxSteps := 1000000) [ty42, ty29, ty33, ty3]
  refine hK _ ?_; clear hK K
  (repeat refine ZQ ?_); refine ZR fun K hK => ?_; simp (maxSteps := 1000000) [ty3]; refine hK _ ?_; clear hK K
  (repeat refine ZQ ?_); refine awp_block ?_
  refine awp_loop (fun i : Nat => ⟨ofL [(1, .sl xn xf []), (5, .own 5 1 0 0), (7, .sl true false []), (9, encI 0)], stoT [(5, 5, .live ⟨false, false, 1, []⟩)]⟩) (fun _ => True) (fun _ => 0) 0 trivial ?_ ?_
  ·refine wk_shape2 [(5, 33, .live ⟨false, false, 1, []⟩)] (by first | rfl | (simp only [if_pos, if_true]; rfl)) (shp0 hσ (by simp) (by simp) ?_) ?_
   ·simp [SlotOk] <;> (repeat' (first | (refine RowsOk.same ?_; simp [purel, C.isPure]; done) | (refine rowsCons ?_; simp [mtl, mtc, mT, mH, C.isPure, purel]; done) | (refine rowsCons ?_; simp [mtl, mtc, mT, mH, C.isPure, purel]) | refine And.intro ?_ ?_))
   ·simp [mtc, mtl, mT, C.isPure, purel] <;> (try simp (disch := omega) [wrap_id]) <;> (try omega)
  ·intro i _
   (repeat refine ZQ ?_); refine ZR fun K hK => ?_; simp (maxSteps := 1000000) [ty23, ty3]; refine hK _ ?_; clear hK K
   (repeat refine ZQ ?_); refine ZC (fun hd => ?_) (fun hd => ?_)
   ·simp at hd
   ·clear hd
    (repeat refine ZQ ?_); refine awp_exit ?_
    (repeat refine ZQ ?_); refine ZR fun K hK => ?_; simp (maxSteps := 1000000) [ty42]; refine hK _ ?_; clear hK K
    (repeat refine ZQ ?_); refine ZR fun K hK => ?_; simp (maxSteps := 1000000) [ty3]; refine hK _ ?_; clear hK K
    (repeat refine ZQ ?_); refine awp_block ?_
    refine awp_loop (fun i : Nat => ⟨ofL [(5, .own 5 1 0 0), (7, .sl true false []), (13, .sl true true []), (14, encI 0)], stoT [(5, 5, .live ⟨false, false, 1, []⟩)]⟩) (fun _ => True) (fun _ => 0) 0 trivial ?_ ?_
    ·exact ZW
    ·intro i _
     (repeat refine ZQ ?_); refine ZR fun K hK => ?_; simp (maxSteps := 1000000) [ty42, ty3]; refine hK _ ?_; clear hK K
     (repeat refine ZQ ?_); refine ZC (fun hd => ?_) (fun hd => ?_)
     ·simp at hd
     ·clear hd
      (repeat refine ZQ ?_); refine awp_exit ?_
      (repeat refine ZQ ?_); refine ZR fun K hK => ?_; simp (maxSteps := 1000000) [ty42]
      refine ZP (c24) ?_; simp (maxSteps := 1000000) [ty9, ty29, ty4]
      refine hK _ ?_; clear hK K
      (repeat refine ZQ ?_); refine awp_ret ?_; refine And.intro (Or.inr rfl) ?_
      simp [retC, resC, viewC, mapO]

theorem harmed_nil1 (l : List UInt8) (xn xf : Bool) (h : Hm) (xs : List Hm) (hn : l.length ≤ 20000) (hv2 : (cutV l).2 = true) (hP0 : rQ l = []) : Pure Tryz.prog 14 [encS l, .sl xn xf ((h :: xs).map cHm)] (encHm none) := by
 have c23 := q_cut23 l (by omega)
 rw [encCut_ok hv2, hP0] at c23
 have he : encHm none = .tup [encS [], .sl true true [], .bool false] := rfl
 rw [he]
 have hlen : ((h :: xs).length : Int) = (xs.length : Int) + 1 := by simp
 have hpos : (0 : Int) < (xs.length : Int) + 1 := by omega
 by_cases h40 : (40 : Int) < (xs.length : Int) + 1
 ·refine ZF (fn := Tryz.f14) [.tmp 4, .tmp 5, .tmp 6] ⟨Tryz.func14, rfl, by kernel_rfl⟩ fun x hx hσ => ?_
  (repeat refine ZQ ?_); refine ZR fun K hK => ?_; simp (maxSteps := 1000000) [ty9, ty29, ty4]; refine hK _ ?_; clear hK K
  (repeat refine ZQ ?_); refine ZR fun K hK => ?_; simp (maxSteps := 1000000) [ty9]
  refine ZP (c23) ?_; simp (maxSteps := 1000000) [ty42, ty4]
  refine hK _ ?_; clear hK K
  (repeat refine ZQ ?_); refine ZR fun K hK => ?_; simp (maxSteps := 1000000) [ty4, ty23, ty3, h40]; refine hK _ ?_; clear hK K
  (repeat refine ZQ ?_); refine ZC (fun hd => ?_) (fun hd => ?_)
  ·clear hd
   (repeat refine ZQ ?_); refine ZR fun K hK => ?_; simp (maxSteps := 1000000) [ty9, ty29, ty4]; refine hK _ ?_; clear hK K
   (repeat refine ZQ ?_); refine awp_ret ?_; refine And.intro (Or.inr rfl) ?_
   simp [retC, resC, viewC, mapO]
  ·simp at hd
 ·refine ZF (fn := Tryz.f14) [.tmp 4, .tmp 5, .tmp 6] ⟨Tryz.func14, rfl, by kernel_rfl⟩ fun x hx hσ => ?_
  (repeat refine ZQ ?_); refine ZR fun K hK => ?_; simp (maxSteps := 1000000) [ty9, ty29, ty4]; refine hK _ ?_; clear hK K
  (repeat refine ZQ ?_); refine ZR fun K hK => ?_; simp (maxSteps := 1000000) [ty9]
  refine ZP (c23) ?_; simp (maxSteps := 1000000) [ty42, ty4]
  refine hK _ ?_; clear hK K
  (repeat refine ZQ ?_); refine ZR fun K hK => ?_; simp (maxSteps := 1000000) [ty4, ty23, ty3, h40]; refine hK _ ?_; clear hK K
  (repeat refine ZQ ?_); refine ZC (fun hd => ?_) (fun hd => ?_)
  ·simp at hd
  ·clear hd
   refine awp_skip ?_
   (repeat refine ZQ ?_); refine ZR fun K hK => ?_; simp (maxSteps := 1000000) [ty42, ty29, ty33, ty3]
   refine hK _ ?_; clear hK K
   (repeat refine ZQ ?_); refine ZR fun K hK => ?_; simp (maxSteps := 1000000) [ty3]; refine hK _ ?_; clear hK K
   (repeat refine ZQ ?_); refine awp_block ?_
   refine awp_loop (fun i : Nat => ⟨ofL [(1, .sl xn xf ((h :: xs).map cHm)), (5, .own 5 1 0 0), (7, .sl true false []), (9, encI 0)], stoT [(5, 5, .live ⟨false, false, 1, []⟩)]⟩) (fun _ => True) (fun _ => 0) 0 trivial ?_ ?_
   ·refine wk_shape2 [(5, 33, .live ⟨false, false, 1, []⟩)] (by first | rfl | (simp only [if_pos, if_true]; rfl)) (shp0 hσ (by simp) (by simp) ?_) ?_
    ·simp [SlotOk] <;> (repeat' (first | (refine RowsOk.same ?_; simp [purel, C.isPure]; done) | (refine rowsCons ?_; simp [mtl, mtc, mT, mH, C.isPure, purel]; done) | (refine rowsCons ?_; simp [mtl, mtc, mT, mH, C.isPure, purel]) | refine And.intro ?_ ?_))
    ·simp [mtc, mtl, mT, C.isPure, purel] <;> (try simp (disch := omega) [wrap_id]) <;> (try omega)
   ·intro i _
    (repeat refine ZQ ?_); refine ZR fun K hK => ?_; simp (maxSteps := 1000000) [ty23, ty3, hpos]; refine hK _ ?_; clear hK K
    (repeat refine ZQ ?_); refine ZC (fun hd => ?_) (fun hd => ?_)
    ·clear hd
     refine awp_skip ?_
     (repeat refine ZQ ?_); refine awp_block ?_
     (repeat refine ZQ ?_); refine ZR fun K hK => ?_; simp (maxSteps := 1000000) [ty77, ty23]
     refine hK _ ?_; clear hK K; (first | show AWP _ _ _ _ _ | show ∃ _, _ | skip)
     by_cases a1 : h.pk < 0
     ·(repeat refine ZQ ?_); refine ZD [] [0, 1, 2, 3, 4, 5, 6, 7, 8, 9, 10, 11, 12, 13, 14, 15, 16, 17, 18, 19, 20, 21, 22, 23, 24, 25] fun K hK => ?_; simp (maxSteps := 1000000) [ty77, ty3, ty4, a1]; refine hK _ ?_; clear hK K
      (repeat refine ZQ ?_); refine ZC (fun hd => ?_) (fun hd => ?_)
      ·clear hd
       (repeat refine ZQ ?_); refine ZR fun K hK => ?_; simp (maxSteps := 1000000) [ty9, ty29, ty4]; refine hK _ ?_; clear hK K
       (repeat refine ZQ ?_); refine awp_ret ?_; refine And.intro (Or.inr rfl) ?_
       simp [retC, resC, viewC, mapO]
      ·simp at hd
     ·have a2 : (0 : Int) ≤ h.pk := by omega
      (repeat refine ZQ ?_); refine ZD [] [0, 1, 2, 3, 4, 5, 6, 7, 8, 9, 10, 11, 12, 13, 14, 15, 16, 17, 18, 19, 20, 21, 22, 23, 24, 25] fun K hK => ?_; simp (maxSteps := 1000000) [ty77, ty3, ty4, ty42, a1, a2]; refine hK _ ?_; clear hK K
      (repeat refine ZQ ?_); refine ZC (fun hd => ?_) (fun hd => ?_)
      ·clear hd
       (repeat refine ZQ ?_); refine ZR fun K hK => ?_; simp (maxSteps := 1000000) [ty9, ty29, ty4]; refine hK _ ?_; clear hK K
       (repeat refine ZQ ?_); refine awp_ret ?_; refine And.intro (Or.inr rfl) ?_
       simp [retC, resC, viewC, mapO]
      ·simp at hd
    ·simp at hd

theorem harmed14 (l : List UInt8) (xn xf : Bool) (xs : List Hm) (hn : l.length ≤ 20000) (hv2 : (cutV l).2 = true)
  (hB : ∀ u L, harmL (rQ l) (List.replicate (rQ l).length []) xs = some u → leftF xs 0 u.1 = some L → (wrL L).length ≤ 100000) :
  Pure Tryz.prog 14 [encS l, .sl xn xf (xs.map cHm)] (encHm (harmB (rQ l) xs)) := by
 by_cases hP0 : rQ l = []
 ·rw [hP0]
  cases xs with
  | nil => exact harmed_nil0 l xn xf hn hv2 hP0
  | cons h r =>
   have he : harmB [] (h :: r) = none := by
    unfold harmB
    split
    ·rfl
    ·rw [harmL]
     have : harm1 [] (List.replicate ([] : List Ls).length []) h = none := by
      unfold harm1
      rw [if_pos]
      unfold badP
      simp; omega
     rw [this]
   rw [he]
   exact harmed_nil1 l xn xf h r hn hv2 hP0
 ·exact q_harmed14 l xn xf xs hn hv2 hP0 hB

set_option maxHeartbeats 4000000
set_option maxRecDepth 20000


theorem inv97 : ∀ d : Fin 97, 0 < d.val → (d.val * (d.val ^ 95 % 97)) % 97 = 1 := by decide +kernel

theorem cancelP {x : Int} {d : Nat} (h1 : 1 ≤ d) (h2 : d ≤ 96) (hx : -96 ≤ x ∧ x ≤ 96) (h : x * d % 97 = 0) : x = 0 := by
 have hi := inv97 ⟨d, by omega⟩ h1
 simp only at hi
 generalize d ^ 95 % 97 = e at hi
 have h3 : x * d * e % 97 = 0 := by
  rw [Int.mul_emod, h]; simp
 rw [Int.mul_assoc, Int.mul_emod] at h3
 have h4 : ((d : Int) * (e : Int)) % 97 = 1 := by omega
 rw [h4] at h3
 omega

theorem twoB_inj {m n : Nat} (hm : m < 100) (hn : n < 100) (h : twoB m = twoB n) : m = n := by
 have h1 := numV_two hm
 have h2 := numV_two hn
 rw [h] at h1
 omega

theorem sumB_swap (b : UInt8) (r : List UInt8) : ∀ (l : List UInt8) (i : Nat) (x : UInt8), sumB (l ++ x :: r) i + (valB b - valB x) * (((i + l.length) % 96 : Nat) + 1 : Int) = sumB (l ++ b :: r) i
 | [], i, x => by
  simp only [List.nil_append, sumB, List.length_nil, Nat.add_zero]
  rw [Int.sub_mul]; omega
 | c :: l, i, x => by
  have ih := sumB_swap b r l (i + 1) x
  simp only [List.cons_append, sumB, List.length_cons]
  have e : i + 1 + l.length = i + (l.length + 1) := by omega
  rw [e] at ih
  omega

theorem take_mid (P R : List UInt8) (x : UInt8) (m : Nat) : (P ++ x :: R).take (P.length + (m + 1)) = P ++ x :: R.take m := by
 rw [List.take_length_add_append, List.take_succ_cons]
theorem drop_mid (P R : List UInt8) (x : UInt8) (m : Nat) : (P ++ x :: R).drop (P.length + (m + 1)) = R.drop m := by
 rw [← List.drop_drop, List.drop_left' rfl, List.drop_succ_cons]

theorem newL_bad {s : List UInt8} {a : Nat} {b : UInt8} (hp : parseOk s = true) (ha : a < s.length) (hb : plain1 b = true) (hne : s[a] ≠ b) : parseOk (newL s a b) = false := by
 cases hq : parseOk (newL s a b) with
 | false => rfl
 | true =>
  exfalso
  have hl := newL_len (b := b) ha
  have k1 : checkB (s.take (s.length - 2)) = s.drop (s.length - 2) := by
   obtain ⟨_, _, h2, _⟩ := parse_ok hp
   unfold bad2 at h2
   simp only [Bool.or_eq_false_iff, Bool.not_eq_false', beq_iff_eq] at h2
   exact h2.1.1
  have k2 : checkB ((newL s a b).take (s.length - 2)) = (newL s a b).drop (s.length - 2) := by
   obtain ⟨_, _, h2, _⟩ := parse_ok hq
   unfold bad2 at h2
   rw [hl] at h2
   simp only [Bool.or_eq_false_iff, Bool.not_eq_false', beq_iff_eq] at h2
   exact h2.1.1
  have h6 := (good_ok hp).1
  have hsp : plainB s = true := (good_ok hp).2.2.2.2.2.2.2.2.2.1
  have hs : s = s.take a ++ s[a] :: s.drop (a + 1) := by rw [← List.drop_eq_getElem_cons ha, List.take_append_drop]
  have hnw : newL s a b = s.take a ++ b :: s.drop (a + 1) := by unfold newL; simp
  have hta : (s.take a).length = a := by simp; omega
  by_cases hlt : a < s.length - 2
  ·obtain ⟨m, hm⟩ : ∃ m, s.length - 2 = (s.take a).length + (m + 1) := ⟨s.length - 2 - a - 1, by omega⟩
   have d1 : (newL s a b).drop (s.length - 2) = s.drop (s.length - 2) := by
    have x1 := drop_mid (s.take a) (s.drop (a + 1)) b m
    have x2 := drop_mid (s.take a) (s.drop (a + 1)) s[a] m
    rw [← hnw, ← hm] at x1
    rw [← hs, ← hm] at x2
    rw [x1, x2]
   have t1 : s.take (s.length - 2) = s.take a ++ s[a] :: (s.drop (a + 1)).take m := by
    have x2 := take_mid (s.take a) (s.drop (a + 1)) s[a] m
    rw [← hs, ← hm] at x2
    exact x2
   have t2 : (newL s a b).take (s.length - 2) = s.take a ++ b :: (s.drop (a + 1)).take m := by
    have x1 := take_mid (s.take a) (s.drop (a + 1)) b m
    rw [← hnw, ← hm] at x1
    exact x1
   rw [d1, ← k1, t1, t2] at k2
   have hsum := sumB_swap b ((s.drop (a + 1)).take m) (s.take a) 0 s[a]
   rw [hta, Nat.zero_add] at hsum
   unfold checkB at k2
   generalize sumB (s.take a ++ b :: (s.drop (a + 1)).take m) 0 = X at *
   generalize sumB (s.take a ++ s[a] :: (s.drop (a + 1)).take m) 0 = Y at *
   have hxy := twoB_inj (by omega) (by omega) k2
   have hva : 0 ≤ valB s[a] ∧ valB s[a] ≤ 94 := by
    have := List.all_eq_true.1 hsp s[a] (List.getElem_mem ha)
    simp only [Bool.and_eq_true, decide_eq_true_eq] at this
    unfold valB; omega
   have hvb : 0 ≤ valB b ∧ valB b ≤ 94 := by
    unfold plain1 at hb
    simp only [Bool.and_eq_true, decide_eq_true_eq] at hb
    unfold valB; omega
   have hc : (valB b - valB s[a]) * ((a % 96 + 1 : Nat) : Int) % 97 = 0 := by
    have e : ((a % 96 + 1 : Nat) : Int) = ((a % 96 : Nat) : Int) + 1 := by omega
    rw [e]
    omega
   have h0 := cancelP (by omega) (by omega) (by omega) hc
   apply hne
   apply UInt8.toNat_inj.1
   unfold valB at h0
   omega
  ·have t1 : (newL s a b).take (s.length - 2) = s.take (s.length - 2) := by
    rw [hnw]
    rw [List.take_append_of_le_length (by omega), List.take_take, Nat.min_eq_left (by omega)]
   rw [t1, k1] at k2
   have : newL s a b = s := by
    rw [← List.take_append_drop (s.length - 2) (newL s a b), t1, ← k2, List.take_append_drop]
   have h2 : (newL s a b)[a]'(by omega) = b := by
    simp only [hnw]
    rw [List.getElem_append_right (by omega)]
    simp [hta]
   apply hne
   rw [← h2]
   simp only [this]

set_option maxHeartbeats 4000000
set_option maxRecDepth 20000


structure HInv (P : List Ls) (xs : List Hm) (cur : List Ls) (ln : Lns) : Prop where
 len : cur.length = P.length
 lenk : ∀ e, (cur.getD e []).length = (P.getD e []).length
 lnl : ln.length = P.length
 nod : ∀ e, (ln.getD e []).Nodup
 rng : ∀ e, ∀ z ∈ ln.getD e [], 0 ≤ z ∧ z < ((P.getD e []).length : Int)
 out : ∀ e k : Nat, (k : Int) ∉ ln.getD e [] → (cur.getD e []).getD k [] = (P.getD e []).getD k [] ∧ lostH xs e k = false
 inn : ∀ e k : Nat, (k : Int) ∈ ln.getD e [] → lostH xs e k = true ∨ parseOk ((cur.getD e []).getD k []) = false

theorem getD_set {α : Type} {l : List α} {q k : Nat} {x d : α} (hq : q < l.length) : (l.set q x).getD k d = if k = q then x else l.getD k d := by
 simp only [List.getD_eq_getElem?_getD, List.getElem?_set]
 by_cases h : q = k
 ·subst h; simp [hq]
 ·rw [if_neg h, if_neg fun e => h e.symm]

theorem lostH_app (xs : List Hm) (h : Hm) (e k : Nat) : lostH (xs ++ [h]) e k = (lostH xs e k || ((h.pk == (e : Int)) && ((h.ln == (k : Int)) && decide (h.at_ < 0)))) := by
 unfold lostH
 rw [List.any_append]
 simp

theorem harm_step {P : List Ls} (hg : ∀ p ∈ P, ∀ c ∈ p, parseOk c = true) {xs : List Hm} {cur : List Ls} {ln : Lns} {h : Hm} {c' : List Ls} {l' : Lns} (hi : HInv P xs cur ln) (hh : harm1 cur ln h = some (c', l')) : HInv P (xs ++ [h]) c' l' := by
 unfold harm1 at hh
 split at hh
 ·cases hh
 ·rename_i b1
  split at hh
  ·cases hh
  ·rename_i b2
   split at hh
   ·cases hh
   ·rename_i b3
    unfold badP at b1
    unfold badL at b2
    obtain ⟨p, hp⟩ : ∃ p : Nat, h.pk = p := ⟨h.pk.toNat, by omega⟩
    obtain ⟨q, hq⟩ : ∃ q : Nat, h.ln = q := ⟨h.ln.toNat, by omega⟩
    have hpt : h.pk.toNat = p := by omega
    have hqt : h.ln.toNat = q := by omega
    rw [hpt] at b2 b3
    rw [hq] at b3
    have hpc : p < cur.length := by omega
    have hpl : p < ln.length := by rw [hi.lnl, ← hi.len]; exact hpc
    have hqc : q < (cur.getD p []).length := by omega
    have had : addLn ln h = ln.set p (ln.getD p [] ++ [(q : Int)]) := by unfold addLn; rw [hpt, hq]
    have hcq : (cur.getD p []).getD q [] = (P.getD p []).getD q [] := (hi.out p q b3).1
    have hLn : ∀ e, (addLn ln h).getD e [] = if e = p then ln.getD p [] ++ [(q : Int)] else ln.getD e [] := fun e => by rw [had, getD_set hpl]
    have hlost : ∀ e k : Nat, (e ≠ p ∨ k ≠ q) → lostH (xs ++ [h]) e k = lostH xs e k := fun e k hek => by
     rw [lostH_app, hp, hq]
     rcases hek with hek | hek
     ·have : ((p : Int) == (e : Int)) = false := by rw [beq_eq_false_iff_ne]; omega
      rw [this]; simp
     ·have : ((q : Int) == (k : Int)) = false := by rw [beq_eq_false_iff_ne]; omega
      rw [this]; simp
    have main : ∀ c2 : List Ls, c2.length = cur.length → (∀ e, (c2.getD e []).length = (cur.getD e []).length) → (∀ e k : Nat, (e ≠ p ∨ k ≠ q) → (c2.getD e []).getD k [] = (cur.getD e []).getD k []) →
      (lostH (xs ++ [h]) p q = true ∨ parseOk ((c2.getD p []).getD q []) = false) → HInv P (xs ++ [h]) c2 (addLn ln h) := fun c2 k1 k2 k3 k4 => by
     refine ⟨by rw [k1, hi.len], fun e => by rw [k2, hi.lenk], by rw [had, List.length_set]; exact hi.lnl, fun e => ?_, fun e z hz => ?_, fun e k hk => ?_, fun e k hk => ?_⟩
     ·rw [hLn]
      split
      ·refine List.nodup_append.2 ⟨hi.nod p, by simp, fun a ha b hb he => ?_⟩
       simp only [List.mem_cons, List.not_mem_nil, or_false] at hb
       rw [he, hb] at ha
       exact b3 ha
      ·exact hi.nod e
     ·rw [hLn] at hz
      split at hz
      ·rename_i hep
       subst hep
       rcases List.mem_append.1 hz with hz | hz
       ·exact hi.rng _ z hz
       ·simp only [List.mem_cons, List.not_mem_nil, or_false] at hz
        have := hi.lenk e
        omega
      ·exact hi.rng e z hz
     ·rw [hLn] at hk
      by_cases hep : e = p
      ·rw [if_pos hep] at hk
       simp only [List.mem_append, List.mem_cons, List.not_mem_nil, or_false, not_or] at hk
       have hkq : k ≠ q := fun h2 => hk.2 (by rw [h2])
       rw [k3 e k (.inr hkq), hlost e k (.inr hkq)]
       exact hi.out e k (by rw [hep]; exact hk.1)
      ·rw [if_neg hep] at hk
       rw [k3 e k (.inl hep), hlost e k (.inl hep)]
       exact hi.out e k hk
     ·rw [hLn] at hk
      by_cases hep : e = p
      ·rw [if_pos hep] at hk
       by_cases hkq : k = q
       ·rw [hep, hkq]; exact k4
       ·rw [k3 e k (.inr hkq), hlost e k (.inr hkq)]
        rcases List.mem_append.1 hk with hk | hk
        ·exact hi.inn e k (by rw [hep]; exact hk)
        ·simp only [List.mem_cons, List.not_mem_nil, or_false] at hk
         omega
      ·rw [if_neg hep] at hk
       rw [k3 e k (.inl hep), hlost e k (.inl hep)]
       exact hi.inn e k hk
    split at hh
    ·rename_i t0
     split at hh
     ·cases hh
     ·rename_i b4
      simp only [Option.some.injEq, Prod.mk.injEq] at hh
      obtain ⟨rfl, rfl⟩ := hh
      unfold badA at b4
      simp only [not_or, Bool.not_eq_false] at b4
      have hla : lineA cur h = (P.getD p []).getD q [] := by unfold lineA; rw [hpt, hqt, hcq]
      rw [hla] at b4 ⊢
      rw [hpt, hqt]
      have hpm : P.getD p [] ∈ P := getD_mem (by rw [← hi.len]; exact hpc)
      have hsm : (P.getD p []).getD q [] ∈ P.getD p [] := getD_mem (by rw [← hi.lenk]; exact hqc)
      have hok := hg _ hpm _ hsm
      generalize (P.getD p []).getD q [] = s at *
      have hal : h.at_.toNat < s.length := by omega
      have hbad := newL_bad (b := h.by_) hok hal b4.2.1 (fun e => b4.2.2 (by simp [List.getD_eq_getElem?_getD, List.getElem?_eq_getElem hal, e]))
      refine main _ (by simp [setP]) (fun e => ?_) (fun e k hek => ?_) (.inr ?_)
      ·rw [setP_at hpc]
       split
       ·rename_i he; subst he; simp
       ·rfl
      ·rw [setP_at hpc]
       split
       ·rename_i he
        subst he
        rw [getD_set hqc, if_neg]
        rcases hek with h1 | h1
        ·exact absurd rfl h1
        ·exact h1
       ·rfl
      ·rw [setP_at hpc, if_pos rfl, getD_set hqc, if_pos rfl]
       exact hbad
    ·rename_i t0
     simp only [Option.some.injEq, Prod.mk.injEq] at hh
     obtain ⟨rfl, rfl⟩ := hh
     refine main _ rfl (fun _ => rfl) (fun _ _ _ => rfl) (.inl ?_)
     rw [lostH_app, hp, hq]
     have : decide (h.at_ < 0) = true := decide_eq_true (by omega)
     rw [this]
     simp

theorem harm_inv {P : List Ls} (hg : ∀ p ∈ P, ∀ c ∈ p, parseOk c = true) : ∀ (ys xs : List Hm) (cur : List Ls) (ln : Lns) (u : List Ls × Lns), HInv P xs cur ln → harmL cur ln ys = some u → HInv P (xs ++ ys) u.1 u.2
 | [], xs, cur, ln, u, hi, h => by
  simp only [harmL, Option.some.injEq] at h
  subst h
  simpa using hi
 | y :: ys, xs, cur, ln, u, hi, h => by
  rw [harmL] at h
  cases hh : harm1 cur ln y with
  | none => rw [hh] at h; cases h
  | some v =>
   rw [hh] at h
   have := harm_inv hg ys (xs ++ [y]) v.1 v.2 u (harm_step hg hi hh) h
   simpa using this

theorem harm_all {P : List Ls} (hg : ∀ p ∈ P, ∀ c ∈ p, parseOk c = true) {xs : List Hm} {u : List Ls × Lns} (h : harmL P (List.replicate P.length []) xs = some u) : HInv P xs u.1 u.2 := by
 have h0 : HInv P [] P (List.replicate P.length []) := ⟨rfl, fun _ => rfl, by simp, fun e => by rw [replicate_getD]; simp, fun e z hz => by rw [replicate_getD] at hz; simp at hz, fun e k _ => ⟨rfl, rfl⟩, fun e k hk => by rw [replicate_getD] at hk; simp at hk⟩
 have := harm_inv hg xs [] _ _ u h0 h
 simpa using this

set_option maxHeartbeats 4000000
set_option maxRecDepth 20000


theorem filter_split {α : Type} {p q s : α → Bool} (h : ∀ z, p z = (q z || s z)) (hd : ∀ z, (q z && s z) = false) : ∀ r : List α, (r.filter p).length = (r.filter q).length + (r.filter s).length
 | [] => rfl
 | z :: r => by
  have ih := filter_split h hd r
  have h1 := h z
  have h2 := hd z
  simp only [List.filter_cons]
  cases hq : q z <;> cases hs : s z <;> rw [hq, hs] at h1 h2 <;> simp only [Bool.or_false, Bool.or_true, Bool.false_or, Bool.or_self, Bool.and_true] at h1 h2 <;> rw [h1] <;> simp [ih] <;> (first | omega | cases h2 | skip)

theorem count_in {r : List Int} (hn : r.Nodup) : ∀ N : Nat, ((List.range N).filter fun i : Nat => decide ((i : Int) ∈ r)).length = (r.filter fun z => decide (0 ≤ z) && decide (z < (N : Int))).length
 | 0 => by
  have : r.filter (fun z => decide (0 ≤ z) && decide (z < ((0 : Nat) : Int))) = [] := List.filter_eq_nil_iff.2 fun z _ h => by
   simp only [Bool.and_eq_true, decide_eq_true_eq] at h; omega
  rw [this]; rfl
 | N + 1 => by
  have ih := count_in hn N
  rw [List.range_succ, List.filter_append, List.length_append, ih]
  rw [filter_split (p := fun z => decide (0 ≤ z) && decide (z < ((N + 1 : Nat) : Int))) (q := fun z => decide (0 ≤ z) && decide (z < (N : Int))) (s := fun z => z == (N : Int)) (fun z => by
   rw [Bool.eq_iff_iff]
   simp only [Bool.and_eq_true, Bool.or_eq_true, decide_eq_true_eq, beq_iff_eq]
   omega) (fun z => by
   rw [← Bool.not_eq_true]
   simp only [Bool.and_eq_true, decide_eq_true_eq, beq_iff_eq]
   omega)]
  congr 1
  have hc := List.count_eq_length_filter (a := (N : Int)) (l := r)
  rw [← hc, hn.count]
  by_cases hm : (N : Int) ∈ r
  ·simp [hm]
  ·simp [hm]

theorem cards_at {T : Ls} {i : Nat} (hi : i < T.length) : (cardsB T).getD i [] = cardAt T i := by
 unfold cardsB cardsTo
 rw [List.getD_eq_getElem?_getD, List.getElem?_append_left (by simpa using hi)]
 simp [hi]
theorem cards_a (T : Ls) : (cardsB T).getD T.length [] = sumL T false := by
 unfold cardsB cardsTo
 rw [List.getD_eq_getElem?_getD, List.getElem?_append_right (by simp)]
 simp; rfl
theorem cards_b (T : Ls) : (cardsB T).getD (T.length + 1) [] = sumL T true := by
 unfold cardsB cardsTo
 rw [List.getD_eq_getElem?_getD, List.getElem?_append_right (by simp)]
 simp; rfl
theorem cards_inj {T : Ls} (h : PackOk T) {i j : Nat} (hi : i < T.length + 2) (hj : j < T.length + 2) (e : (cardsB T).getD i [] = (cardsB T).getD j []) : i = j := by
 rcases (by omega : i < T.length ∨ i = T.length ∨ i = T.length + 1) with a | a | a <;> rcases (by omega : j < T.length ∨ j = T.length ∨ j = T.length + 1) with b | b | b
 ·rw [cards_at a, cards_at b] at e; exact card_ij h a b e
 ·rw [cards_at a, b, cards_a] at e; exact absurd e (card_is h a false)
 ·rw [cards_at a, b, cards_b] at e; exact absurd e (card_is h a true)
 ·rw [a, cards_a, cards_at b] at e; exact absurd e.symm (card_is h b false)
 ·omega
 ·rw [a, b, cards_a, cards_b] at e; exact absurd (card_ab h e) (by simp)
 ·rw [a, cards_b, cards_at b] at e; exact absurd e.symm (card_is h b true)
 ·rw [a, b, cards_a, cards_b] at e; exact absurd (card_ab h e) (by simp)
 ·omega

theorem keep_mem {xs : List Hm} {e : Nat} {c : Ls} {x : List UInt8} : x ∈ keepB xs e c ↔ ∃ k, k < c.length ∧ lostH xs e k = false ∧ c.getD k [] = x := by
 unfold keepB
 simp only [List.mem_map, List.mem_filter, List.mem_range, Bool.not_eq_true']
 constructor
 ·rintro ⟨k, ⟨h1, h2⟩, h3⟩; exact ⟨k, h1, h2, h3⟩
 ·rintro ⟨k, h1, h2, h3⟩; exact ⟨k, ⟨h1, h2⟩, h3⟩

structure PInv (T : Ls) (xs : List Hm) (e : Nat) (c : Ls) (r : List Int) : Prop where
 ok : PackOk T
 len : c.length = T.length + 2
 nod : r.Nodup
 rng : ∀ z ∈ r, 0 ≤ z ∧ z < ((T.length + 2 : Nat) : Int)
 out : ∀ k : Nat, (k : Int) ∉ r → c.getD k [] = (cardsB T).getD k [] ∧ lostH xs e k = false
 inn : ∀ k : Nat, (k : Int) ∈ r → lostH xs e k = true ∨ parseOk (c.getD k []) = false

section
variable {T : Ls} {xs : List Hm} {e : Nat} {c : Ls} {r : List Int} (h : PInv T xs e c r)
include h
theorem keep_sub : Sub (keepB xs e c) T := fun l hl hp => by
 obtain ⟨k, h1, h2, rfl⟩ := keep_mem.1 hl
 by_cases hk : (k : Int) ∈ r
 ·rcases h.inn k hk with g | g
  ·rw [h2] at g; cases g
  ·rw [hp] at g; cases g
 ·rw [(h.out k hk).1]
  exact getD_mem (by rw [(cards_len h.ok).1, ← h.len]; exact h1)
theorem keep_card {k : Nat} (hk : k < T.length + 2) : (cardsB T).getD k [] ∈ keepB xs e c ↔ (k : Int) ∉ r := by
 have hcl := (cards_len h.ok).1
 constructor
 ·intro hm hr
  obtain ⟨k', h1, h2, h3⟩ := keep_mem.1 hm
  have hok := (cards_parse h.ok (getD_mem (d := []) (show k < (cardsB T).length by omega))).1
  by_cases hk' : (k' : Int) ∈ r
  ·rcases h.inn k' hk' with g | g
   ·rw [h2] at g; cases g
   ·rw [h3, hok] at g; cases g
  ·rw [(h.out k' hk').1] at h3
   have := cards_inj h.ok (by rw [← h.len]; exact h1) hk h3
   subst this
   exact hk' hr
 ·intro hr
  obtain ⟨g1, g2⟩ := h.out k hr
  exact keep_mem.2 ⟨k, by rw [h.len]; exact hk, g2, g1⟩
theorem keep_miss : missL T (keepB xs e c) = ((List.range T.length).filter fun i : Nat => decide ((i : Int) ∈ r)).map Int.ofNat := by
 unfold missL
 congr 1
 refine List.filter_congr fun i hi => ?_
 have hi := List.mem_range.1 hi
 have := keep_card h (show i < T.length + 2 by omega)
 rw [cards_at hi] at this
 by_cases hr : (i : Int) ∈ r
 ·simp [this, hr]
 ·simp [this, hr]
theorem keep_know : knowN T (keepB xs e c) = (if ((T.length : Nat) : Int) ∈ r then 0 else 1) + if ((T.length + 1 : Nat) : Int) ∈ r then 0 else 1 := by
 have ha := keep_card h (show T.length < T.length + 2 by omega)
 have hb := keep_card h (show T.length + 1 < T.length + 2 by omega)
 rw [cards_a] at ha
 rw [cards_b] at hb
 unfold knowN
 congr 1
 ·by_cases hr : ((T.length : Nat) : Int) ∈ r
  ·rw [if_pos hr, if_neg (fun g => ha.1 g hr)]
  ·rw [if_neg hr, if_pos (ha.2 hr)]
 ·by_cases hr : ((T.length + 1 : Nat) : Int) ∈ r
  ·rw [if_pos hr, if_neg (fun g => hb.1 g hr)]
  ·rw [if_neg hr, if_pos (hb.2 hr)]
theorem keep_count : r.length + knowN T (keepB xs e c) = (missL T (keepB xs e c)).length + 2 := by
 have hc := count_in h.nod (T.length + 2)
 have hall : r.filter (fun z => decide (0 ≤ z) && decide (z < ((T.length + 2 : Nat) : Int))) = r := List.filter_eq_self.2 fun z hz => by
  have := h.rng z hz
  simp only [Bool.and_eq_true, decide_eq_true_eq]; exact this
 rw [hall] at hc
 rw [keep_miss h, keep_know h, List.length_map]
 rw [show T.length + 2 = (T.length + 1) + 1 from rfl, List.range_succ, List.range_succ, List.filter_append, List.filter_append, List.length_append, List.length_append] at hc
 have f1 : ∀ k : Nat, ([k].filter fun i : Nat => decide ((i : Int) ∈ r)).length = if (k : Int) ∈ r then 1 else 0 := fun k => by
  by_cases hr : (k : Int) ∈ r
  ·simp [hr]
  ·simp [hr]
 rw [f1, f1] at hc
 rw [← hc]
 split <;> split <;> omega
theorem keep_good (hr : r.length < T.length + 2) : ∃ l ∈ keepB xs e c, parseOk l = true := by
 refine Classical.byContradiction fun hno => ?_
 have hall : ∀ k, k < T.length + 2 → (k : Int) ∈ r := fun k hk => Classical.byContradiction fun hk2 => hno
  ⟨_, (keep_card h hk).2 hk2, (cards_parse h.ok (getD_mem (by rw [(cards_len h.ok).1]; exact hk))).1⟩
 have hc := count_in h.nod (T.length + 2)
 have h1 : (List.range (T.length + 2)).filter (fun i : Nat => decide ((i : Int) ∈ r)) = List.range (T.length + 2) := List.filter_eq_self.2 fun i hi => decide_eq_true (hall i (List.mem_range.1 hi))
 rw [h1, List.length_range] at hc
 have := List.length_filter_le (fun z : Int => decide (0 ≤ z) && decide (z < ((T.length + 2 : Nat) : Int))) r
 omega

theorem keep_two (hr : r.length ≤ 2) : unpackB (keepB xs e c) = some (T, ((List.range T.length).filter fun i : Nat => decide ((i : Int) ∈ r)).map Int.ofNat) := by
 have h8 := h.ok.many
 have hc := keep_count h
 rw [unpack_sub h.ok (keep_sub h) (keep_good h (by omega)), if_neg (by omega), keep_miss h]
end

set_option maxHeartbeats 4000000
set_option maxRecDepth 20000


theorem leftF_get {xs : List Hm} : ∀ {ps : List Ls} {i : Nat} {Lf : List Ls}, leftF xs i ps = some Lf → Lf.length = ps.length ∧ ∀ e, e < ps.length → Lf.getD e [] = keepB xs (i + e) (ps.getD e []) ∧ Lf.getD e [] ≠ []
 | [], i, Lf, h => by simp [leftF] at h; subst h; simp
 | p :: ps, i, Lf, h => by
  rw [leftF] at h
  split at h
  ·cases h
  ·rename_i h0
   obtain ⟨L', h1, rfl⟩ := Option.map_eq_some_iff.1 h
   obtain ⟨g1, g2⟩ := leftF_get h1
   refine ⟨by simp [g1], fun e he => ?_⟩
   cases e with
   | zero => simpa using h0
   | succ e =>
    have := g2 e (by simpa using he)
    have e2 : i + (e + 1) = i + 1 + e := by omega
    rw [e2]
    simpa using this

theorem newL_line {s : List UInt8} {a : Nat} {b : UInt8} (hs : LineOk s) (hb : plain1 b = true) : LineOk (newL s a b) := by
 unfold newL
 refine ⟨by simp, fun hm => ?_⟩
 simp only [List.mem_append, List.mem_cons, List.not_mem_nil, or_false] at hm
 rcases hm with (hm | hm) | hm
 ·exact hs.2 (List.mem_of_mem_take hm)
 ·rw [← hm] at hb; exact absurd hb (by decide)
 ·exact hs.2 (List.mem_of_mem_drop hm)

def LinesOk (cur : List Ls) : Prop := ∀ p ∈ cur, ∀ l ∈ p, LineOk l ∧ l.length ≤ 130

theorem lines_step {cur : List Ls} {ln : Lns} {h : Hm} {v : List Ls × Lns} (hc : LinesOk cur) (hh : harm1 cur ln h = some v) : LinesOk v.1 := by
 unfold harm1 at hh
 split at hh
 ·cases hh
 ·rename_i b1
  split at hh
  ·cases hh
  ·rename_i b2
   split at hh
   ·cases hh
   ·split at hh
    ·split at hh
     ·cases hh
     ·rename_i b4
      simp only [Option.some.injEq] at hh
      subst hh
      unfold badP at b1
      unfold badL at b2
      unfold badA at b4
      simp only [not_or, Bool.not_eq_false] at b4
      have hpm : cur.getD h.pk.toNat [] ∈ cur := getD_mem (by omega)
      have hsm : lineA cur h ∈ cur.getD h.pk.toNat [] := getD_mem (by omega)
      have hs := hc _ hpm _ hsm
      have hal : h.at_.toNat < (lineA cur h).length ∨ h.at_ < 0 := by omega
      intro p hp l hl
      simp only [setP] at hp
      rcases List.mem_or_eq_of_mem_set hp with hp | rfl
      ·exact hc p hp l hl
      ·rcases List.mem_or_eq_of_mem_set hl with hl | rfl
       ·exact hc _ hpm l hl
       ·refine ⟨newL_line hs.1 b4.2.1, ?_⟩
        rcases hal with hal | hal
        ·rw [newL_len hal]; exact hs.2
        ·omega
    ·simp only [Option.some.injEq] at hh
     subst hh; exact hc

theorem lines_all : ∀ (xs : List Hm) {cur : List Ls} {ln : Lns} {u : List Ls × Lns}, LinesOk cur → harmL cur ln xs = some u → LinesOk u.1
 | [], cur, ln, u, hc, h => by
  simp only [harmL, Option.some.injEq] at h
  subst h; exact hc
 | y :: ys, cur, ln, u, hc, h => by
  rw [harmL] at h
  cases hh : harm1 cur ln y with
  | none => rw [hh] at h; cases h
  | some v =>
   rw [hh] at h
   exact lines_all ys (lines_step hc hh) h

def misE (L : Ls) (ln : Lns) (e : Nat) : List Int := ((List.range (chunkAt L e).length).filter fun i : Nat => decide ((i : Int) ∈ ln.getD e [])).map Int.ofNat

structure FInv (L : Ls) (xs : List Hm) (ln : Lns) (Lf : List Ls) : Prop where
 n : L.length ≤ 40
 len : Lf.length = (L.length + 7) / 8
 lnl : ln.length = (L.length + 7) / 8
 nod : ∀ e, (ln.getD e []).Nodup
 pk : ∀ e, e < Lf.length → ∃ c, PInv (chunkAt L e) xs e c (ln.getD e []) ∧ Lf.getD e [] = keepB xs e c
 ps : PsOk Lf
 bd : (wrL Lf).length ≤ 50000

theorem harm_file {L : Ls} (hn : L.length ≤ 40) (ha : L.all textB = true) {xs : List Hm} {u : List Ls × Lns} {Lf : List Ls} (h : harmL ((chunksB L).map cardsB) (List.replicate ((chunksB L).map cardsB).length []) xs = some u) (hl : leftF xs 0 u.1 = some Lf) : FInv L xs u.2 Lf := by
 have hok : ∀ p ∈ chunksB L, PackOk p := fun p hp => chunk_ok ha hp
 have hcl := chunks_len L
 have hg : ∀ p ∈ (chunksB L).map cardsB, ∀ c ∈ p, parseOk c = true := fun p hp c hc => by
  obtain ⟨q, hq, rfl⟩ := List.mem_map.1 hp
  exact (cards_parse (hok q hq) hc).1
 have hi := harm_all hg h
 have hlo := lines_all xs (cur := (chunksB L).map cardsB) (fun p hp l hl => by
  obtain ⟨q, hq, rfl⟩ := List.mem_map.1 hp
  exact ⟨cards_line (hok q hq) hl, (cards_len (hok q hq)).2 l hl⟩) h
 obtain ⟨g1, g2⟩ := leftF_get hl
 have hPl : ((chunksB L).map cardsB).length = (L.length + 7) / 8 := by rw [List.length_map, hcl]
 have hPe : ∀ e, e < (L.length + 7) / 8 → ((chunksB L).map cardsB).getD e [] = cardsB (chunkAt L e) ∧ PackOk (chunkAt L e) := fun e he => by
  have h1 : e < (chunksB L).length := by omega
  rw [List.getD_eq_getElem?_getD, List.getElem?_map, List.getElem?_eq_getElem h1, ← chunks_at h1]
  exact ⟨rfl, hok _ (List.getElem_mem h1)⟩
 have hul := hi.len
 have hlen : Lf.length = (L.length + 7) / 8 := by rw [g1, hul, hPl]
 have hpk : ∀ e, e < Lf.length → PInv (chunkAt L e) xs e (u.1.getD e []) (u.2.getD e []) ∧ Lf.getD e [] = keepB xs e (u.1.getD e []) := fun e he => by
  obtain ⟨k1, k2⟩ := hPe e (by omega)
  have hck := (cards_len k2).1
  refine ⟨⟨k2, by rw [hi.lenk, k1, hck], hi.nod e, fun z hz => ?_, fun k hk => ?_, hi.inn e⟩, ?_⟩
  ·have := hi.rng e z hz
   rw [k1, hck] at this; exact this
  ·have := hi.out e k hk
   rw [k1] at this; exact this
  ·have := (g2 e (by omega)).1
   rw [Nat.zero_add] at this; exact this
 have hln : ∀ p ∈ Lf, ∀ l ∈ p, LineOk l ∧ l.length ≤ 130 := fun p hp l hl2 => by
  obtain ⟨e, he, rfl⟩ := List.getElem_of_mem hp
  have e1 : Lf[e] = Lf.getD e [] := by simp [List.getD_eq_getElem?_getD, List.getElem?_eq_getElem he]
  rw [e1, (hpk e he).2] at hl2
  obtain ⟨k, h1, _, rfl⟩ := keep_mem.1 hl2
  exact hlo _ (getD_mem (by omega)) _ (getD_mem h1)
 refine ⟨hn, hlen, by rw [hi.lnl, hPl], hi.nod, fun e he => ⟨_, hpk e he⟩, fun p hp => ⟨?_, fun l hl2 => (hln p hp l hl2).1⟩, ?_⟩
 ·obtain ⟨e, he, rfl⟩ := List.getElem_of_mem hp
  have e1 : Lf[e] = Lf.getD e [] := by simp [List.getD_eq_getElem?_getD, List.getElem?_eq_getElem he]
  rw [e1]
  exact (g2 e (by omega)).2
 ·have := wr_len (P := Lf) (n := 2000) fun p hp => by
   obtain ⟨e, he, rfl⟩ := List.getElem_of_mem hp
   have e1 : Lf[e] = Lf.getD e [] := by simp [List.getD_eq_getElem?_getD, List.getElem?_eq_getElem he]
   have hl1 := lines_len (p := Lf[e]) (n := 130) fun l hl2 => (hln _ (List.getElem_mem he) l hl2).2
   obtain ⟨p1, p2⟩ := hpk e he
   have h8 := p1.ok.many
   have hk : (Lf[e]).length ≤ 10 := by
    rw [e1, p2]
    unfold keepB
    rw [List.length_map]
    have := List.length_filter_le (fun k => !lostH xs e k) (List.range (u.1.getD e []).length)
    have h2 := p1.len
    simp only [List.length_range] at this
    omega
   have h3 : (Lf[e]).length * (130 + 1) ≤ 10 * 131 := Nat.mul_le_mul hk (by omega)
   unfold packL
   simp only [List.length_append, List.length_cons, List.length_nil]
   omega
  rw [hlen] at this
  omega

set_option maxHeartbeats 4000000
set_option maxRecDepth 20000


theorem txK_all {ln : Lns} {e j : Nat} (hj : j < 8) (hn : (ln.getD e []).Nodup) : txK ln (8 * e + j) (ln.getD ((8 * e + j) / 8) []).length = if (j : Int) ∈ ln.getD e [] then [((8 * e + j : Nat) : Int)] else [] := by
 unfold txK
 have h1 : (8 * e + j) / 8 = e := by omega
 have h2 : (8 * e + j) % 8 = j := by omega
 rw [h1, h2, List.take_length]
 have hc := List.count_eq_length_filter (a := (j : Int)) (l := ln.getD e [])
 rw [hn.count] at hc
 by_cases hm : (j : Int) ∈ ln.getD e []
 ·rw [if_pos hm] at hc ⊢
  have hl : ((ln.getD e []).filter fun z => z == (j : Int)).length = 1 := hc.symm
  generalize (ln.getD e []).filter (fun z => z == (j : Int)) = X at *
  match X, hl with
  | [x], _ => rfl
 ·rw [if_neg hm] at hc ⊢
  have hl : ((ln.getD e []).filter fun z => z == (j : Int)).length = 0 := hc.symm
  rw [List.length_eq_zero_iff.1 hl]; rfl

theorem tx_add {ln : Lns} {e : Nat} (hn : (ln.getD e []).Nodup) : ∀ j, j ≤ 8 → txTo ln (8 * e + j) = txTo ln (8 * e) ++ ((List.range j).filter fun i : Nat => decide ((i : Int) ∈ ln.getD e [])).map fun i : Nat => ((8 * e + i : Nat) : Int)
 | 0, _ => by simp
 | j + 1, hj => by
  have ih := tx_add hn j (by omega)
  rw [← Nat.add_assoc, txTo_succ, ih, txK_all (by omega) hn, List.range_succ, List.filter_append, List.map_append, List.append_assoc]
  congr 2
  by_cases hm : (j : Int) ∈ ln.getD e []
  ·have hd : decide ((j : Int) ∈ ln.getD e []) = true := decide_eq_true hm
   rw [if_pos hm]
   simp only [List.filter_cons, List.filter_nil, hd, if_true, List.map_cons, List.map_nil]
  ·have hd : decide ((j : Int) ∈ ln.getD e []) = false := decide_eq_false hm
   rw [if_neg hm]
   simp only [List.filter_cons, List.filter_nil, hd, Bool.false_eq_true, if_false, List.map_nil]

theorem lost_tx {L : Ls} {ln : Lns} (hn : ∀ e, (ln.getD e []).Nodup) : ∀ e, e ≤ (L.length + 7) / 8 → lostTo (misE L ln) e = txTo ln (min (8 * e) L.length)
 | 0, _ => by simp [lostTo, txTo]
 | e + 1, he => by
  have ih := lost_tx (L := L) hn e (by omega)
  have h1 : min (8 * e) L.length = 8 * e := by omega
  have h2 : (chunkAt L e).length = min 8 (L.length - 8 * e) := by unfold chunkAt; rw [List.length_take, List.length_drop]
  have h3 : min (8 * (e + 1)) L.length = 8 * e + (chunkAt L e).length := by omega
  rw [lostTo, ih, h1, h3, tx_add (hn e) _ (by omega)]
  congr 1
  unfold misE
  rw [List.map_map]
  refine List.map_congr_left fun i _ => ?_
  simp only [Function.comp]
  show ((8 * e : Nat) : Int) + ((i : Nat) : Int) = _
  omega

theorem few_at {ln : Lns} {m : Nat} (h : fewB ln m = true) (e : Nat) : (ln.getD e []).length ≤ m := by
 by_cases he : e < ln.length
 ·have := of_decide_eq_true (List.all_eq_true.1 h _ (getD_mem (d := []) he))
  omega
 ·have : ln.getD e [] = [] := by rw [List.getD_eq_getElem?_getD, List.getElem?_eq_none (by omega)]; rfl
  rw [this]; simp

theorem read_two {L : Ls} {xs : List Hm} {ln : Lns} {Lf : List Ls} (h : FInv L xs ln Lf) (hf : fewB ln (2 : Nat) = true) : rE (wrL Lf) = 0 ∧ rTx (wrL Lf) = L ∧ rLo (wrL Lf) = txTo ln L.length ∧ (cutB (wrL Lf)).isSome = true ∧ bdL (wrL Lf) = [] := by
 obtain ⟨h1, h2, h3, h4, h5⟩ := read_wr (M := misE L ln) h.ps h.len h.n (fun i hi => by
  obtain ⟨c, p1, p2⟩ := h.pk i hi
  have e1 : Lf[i] = Lf.getD i [] := by simp [List.getD_eq_getElem?_getD, List.getElem?_eq_getElem hi]
  rw [e1, p2, keep_two p1 (few_at hf i)]
  rfl)
 refine ⟨h1, h2, ?_, h4, h5⟩
 rw [h3, lost_tx h.nod _ (by rw [h.len]; exact Nat.le_refl _)]
 congr 1
 have := h.len
 omega

set_option maxHeartbeats 8000000
set_option maxRecDepth 20000


theorem file_rQ {L : Ls} (ha : L.all textB = true) : (cutV (fileB L)).2 = true ∧ rQ (fileB L) = (chunksB L).map cardsB := by
 have hPs : PsOk ((chunksB L).map cardsB) := fun p hp => by
  obtain ⟨q, hq, rfl⟩ := List.mem_map.1 hp
  exact cards_pack (chunk_ok ha hq)
 have := cutV_wr hPs
 rw [← wrL_file] at this
 unfold rQ
 rw [this]; exact ⟨rfl, rfl⟩
theorem file_bd {L : Ls} (h : L.length ≤ 40) (ha : L.all textB = true) : (fileB L).length ≤ 20000 := by
 rw [wrL_file]
 have := wr_len (P := (chunksB L).map cardsB) (n := 2000) fun p hp => by
  obtain ⟨q, hq, rfl⟩ := List.mem_map.1 hp
  have hok := chunk_ok ha hq
  have hc := cards_len hok
  have hm := hok.many
  have := lines_len (p := cardsB q) (n := 130) hc.2
  unfold packL
  simp only [List.length_append, List.length_cons, List.length_nil]
  omega
 rw [List.length_map, chunks_len] at this
 omega

theorem harmB_some {P : List Ls} {xs : List Hm} {v : List Ls × Lns} (h : harmB P xs = some v) : ∃ u, harmL P (List.replicate P.length []) xs = some u ∧ leftF xs 0 u.1 = some v.1 ∧ v.2 = u.2 := by
 unfold harmB at h
 split at h
 ·cases h
 ·split at h
  ·cases h
  ·rename_i u hu
   obtain ⟨Lf, h1, rfl⟩ := Option.map_eq_some_iff.1 h
   exact ⟨u, hu, h1, rfl⟩

theorem txTo_len {ln : Lns} (h : ∀ e, (ln.getD e []).length ≤ 2) : ∀ n, (txTo ln n).length ≤ 2 * n
 | 0 => by simp [txTo]
 | n + 1 => by
  have ih := txTo_len h n
  have h1 := txK_len ln n (ln.getD (n / 8) []).length
  have h2 := h (n / 8)
  rw [txTo_succ, List.length_append]; omega

theorem law3 (nl fu : Bool) (L : Ls) (xn xf : Bool) (xs : List Hm) : Pure Tryz.prog 3 [sT nl fu L, .sl xn xf (xs.map cHm)] (.bool true) := by
 have cA := l_areTexts10 nl fu L
 have cW := l_works11
 cases hA : areB L with
 | false =>
  rw [hA] at cA
  refine ZF (fn := Tryz.f3) [.tmp 4] ⟨Tryz.func3, rfl, by kernel_rfl⟩ fun x hx hσ => ?_
  (repeat refine ZQ ?_); refine ZR fun K hK => ?_; simp (maxSteps := 1000000) [ty4]; refine hK _ ?_; clear hK K
  (repeat refine ZQ ?_); refine ZR fun K hK => ?_; simp (maxSteps := 1000000) [ty22, ty4]
  refine ZP (cA) ?_; simp (maxSteps := 1000000) [ty4]
  refine hK _ ?_; clear hK K
  (repeat refine ZQ ?_); refine ZC (fun hd => ?_) (fun hd => ?_)
  ·clear hd
   (repeat refine ZQ ?_); refine ZR fun K hK => ?_; simp (maxSteps := 1000000) [ty4]
   refine ZP (cW) ?_; simp (maxSteps := 1000000) [ty4]
   refine hK _ ?_; clear hK K
   (repeat refine ZQ ?_); refine awp_ret ?_; refine And.intro (Or.inr rfl) ?_
   simp [retC, resC, viewC, mapO]
  ·simp at hd
 | true =>
  rw [hA] at cA
  obtain ⟨h40, hat, hE⟩ := are_ok hA
  have c12 := write12_ok nl fu L h40 hat
  have c13 := q_write13 nl fu L (by omega) (fun l hl => by
   have := List.all_eq_true.1 hat l hl
   unfold textB at this
   simp only [Bool.and_eq_true, decide_eq_true_eq] at this
   omega)
  unfold writeB at c13
  rw [hE, if_pos rfl] at c13
  have hs := str_ne (fileB L) (fileB L)
  rw [beq_self_eq_true] at hs
  obtain ⟨hv2, hq⟩ := file_rQ hat
  have hbd := file_bd h40 hat
  have hFI : ∀ u Lf, harmL (rQ (fileB L)) (List.replicate (rQ (fileB L)).length []) xs = some u → leftF xs 0 u.1 = some Lf → FInv L xs u.2 Lf := fun u Lf h1 h2 => by
   rw [hq] at h1
   exact harm_file h40 hat h1 h2
  have c14 := harmed14 (fileB L) xn xf xs hbd hv2 (fun u Lf h1 h2 => by have := (hFI u Lf h1 h2).bd; omega)
  cases hH : harmB (rQ (fileB L)) xs with
  | none =>
   rw [hH] at c14
   simp only [encHm] at c14
   clear hFI
   generalize fileB L = F at *
   refine ZF (fn := Tryz.f3) [.tmp 4] ⟨Tryz.func3, rfl, by kernel_rfl⟩ fun x hx hσ => ?_
   (repeat refine ZQ ?_); refine ZR fun K hK => ?_; simp (maxSteps := 1000000) [ty4]; refine hK _ ?_; clear hK K
   (repeat refine ZQ ?_); refine ZR fun K hK => ?_; simp (maxSteps := 1000000) [ty22, ty4]
   refine ZP (cA) ?_; simp (maxSteps := 1000000) [ty4]
   refine hK _ ?_; clear hK K
   (repeat refine ZQ ?_); refine ZC (fun hd => ?_) (fun hd => ?_)
   ·simp at hd
   ·clear hd
    refine awp_skip ?_
    (repeat refine ZQ ?_); refine ZR fun K hK => ?_; simp (maxSteps := 1000000) [ty22]
    refine ZP (c12) ?_; simp (maxSteps := 1000000) [ty9, ty26]
    refine hK _ ?_; clear hK K
    (repeat refine ZQ ?_); refine ZR fun K hK => ?_; simp (maxSteps := 1000000) [ty22]
    refine ZP (c13) ?_; simp (maxSteps := 1000000) [ty9, ty26]
    refine hK _ ?_; clear hK K
    (repeat refine ZQ ?_); refine ZR fun K hK => ?_; simp (maxSteps := 1000000) [ty26, ty9, ty4, hs, -strBin]; refine hK _ ?_; clear hK K
    (repeat refine ZQ ?_); refine ZC (fun hd => ?_) (fun hd => ?_)
    ·simp at hd
    ·clear hd
     refine awp_skip ?_
     (repeat refine ZQ ?_); refine ZR fun K hK => ?_; simp (maxSteps := 1000000) [ty9, ty23]
     refine ZP (c14) ?_; simp (maxSteps := 1000000) [ty9, ty29, ty4]
     refine hK _ ?_; clear hK K
     (repeat refine ZQ ?_); refine ZR fun K hK => ?_; simp (maxSteps := 1000000) [ty29, ty4, ty3]; refine hK _ ?_; clear hK K
     (repeat refine ZQ ?_); refine ZC (fun hd => ?_) (fun hd => ?_)
     ·clear hd
      (repeat refine ZQ ?_); refine ZR fun K hK => ?_; simp (maxSteps := 1000000) [ty4]
      refine ZP (cW) ?_; simp (maxSteps := 1000000) [ty4]
      refine hK _ ?_; clear hK K
      (repeat refine ZQ ?_); refine awp_ret ?_; refine And.intro (Or.inr rfl) ?_
      simp [retC, resC, viewC, mapO]
     ·simp at hd
  | some v =>
   rw [hH] at c14
   obtain ⟨u, u1, u2, u3⟩ := harmB_some hH
   have hF := hFI u v.1 u1 u2
   rw [← u3] at hF
   have hel : encHm (some v) = .tup [encS (wrL v.1), .sl false false (v.2.map cLn), .bool true] := rfl
   rw [hel] at c14
   have c15 := l_few15 false false v.2 2 (by have := hF.lnl; omega)
   have hlnl := hF.lnl
   clear hFI u3 hel
   obtain ⟨Lf, ln⟩ := v
   simp only at hF c14 c15 hlnl
   generalize fileB L = F at *
   cases hfw : fewB ln 2 with
   | false =>
    rw [hfw] at c15
    generalize wrL Lf = W at *
    refine ZF (fn := Tryz.f3) [.tmp 4] ⟨Tryz.func3, rfl, by kernel_rfl⟩ fun x hx hσ => ?_
    (repeat refine ZQ ?_); refine ZR fun K hK => ?_; simp (maxSteps := 1000000) [ty4]; refine hK _ ?_; clear hK K
    (repeat refine ZQ ?_); refine ZR fun K hK => ?_; simp (maxSteps := 1000000) [ty22, ty4]
    refine ZP (cA) ?_; simp (maxSteps := 1000000) [ty4]
    refine hK _ ?_; clear hK K
    (repeat refine ZQ ?_); refine ZC (fun hd => ?_) (fun hd => ?_)
    ·simp at hd
    ·clear hd
     refine awp_skip ?_
     (repeat refine ZQ ?_); refine ZR fun K hK => ?_; simp (maxSteps := 1000000) [ty22]
     refine ZP (c12) ?_; simp (maxSteps := 1000000) [ty9, ty26]
     refine hK _ ?_; clear hK K
     (repeat refine ZQ ?_); refine ZR fun K hK => ?_; simp (maxSteps := 1000000) [ty22]
     refine ZP (c13) ?_; simp (maxSteps := 1000000) [ty9, ty26]
     refine hK _ ?_; clear hK K
     (repeat refine ZQ ?_); refine ZR fun K hK => ?_; simp (maxSteps := 1000000) [ty26, ty9, ty4, hs, -strBin]; refine hK _ ?_; clear hK K
     (repeat refine ZQ ?_); refine ZC (fun hd => ?_) (fun hd => ?_)
     ·simp at hd
     ·clear hd
      refine awp_skip ?_
      (repeat refine ZQ ?_); refine ZR fun K hK => ?_; simp (maxSteps := 1000000) [ty9, ty23]
      refine ZP (c14) ?_; simp (maxSteps := 1000000) [ty9, ty29, ty4]
      refine hK _ ?_; clear hK K
      (repeat refine ZQ ?_); refine ZR fun K hK => ?_; simp (maxSteps := 1000000) [ty29, ty4, ty3]
      refine ZP (c15) ?_; simp (maxSteps := 1000000) [ty29, ty4, ty3]
      refine hK _ ?_; clear hK K
      (repeat refine ZQ ?_); refine ZC (fun hd => ?_) (fun hd => ?_)
      ·clear hd
       (repeat refine ZQ ?_); refine ZR fun K hK => ?_; simp (maxSteps := 1000000) [ty4]
       refine ZP (cW) ?_; simp (maxSteps := 1000000) [ty4]
       refine hK _ ?_; clear hK K
       (repeat refine ZQ ?_); refine awp_ret ?_; refine And.intro (Or.inr rfl) ?_
       simp [retC, resC, viewC, mapO]
      ·simp at hd
   | true =>
    rw [hfw] at c15
    have hfw2 : fewB ln ((2 : Nat) : Int) = true := hfw
    obtain ⟨r1, r2, r3, r4, r5⟩ := read_two hF hfw2
    have c16 := read16 (wrL Lf) hF.bd
    have c17 := bad17 (wrL Lf) hF.bd
    rw [r1, r2, r3] at c16
    rw [r4, r5] at c17
    simp only [encRd, encBd, if_true] at c16 c17
    have c18 := l_sameT18 L.isEmpty false nl fu L L (by omega)
    rw [beq_self_eq_true] at c18
    have c20 := l_texted20 nl fu false false L ln (by omega) (fun t ht => by omega) (fun r hr => by
     obtain ⟨j, hj, rfl⟩ := List.getElem_of_mem hr
     have := few_at hfw2 j
     have e : ln.getD j [] = ln[j] := by simp [List.getD_eq_getElem?_getD, List.getElem?_eq_getElem hj]
     rw [e] at this; omega)
    have htl : (txTo ln L.length).length ≤ 100000 := by
     have := txTo_len (ln := ln) (fun e => few_at hfw2 e) L.length
     omega
    have c19 := l_sameI19 (txTo ln L.length).isEmpty false (txTo ln L.length).isEmpty false (txTo ln L.length) (txTo ln L.length) htl
    rw [beq_self_eq_true] at c19
    generalize txTo ln L.length = Tx at *
    generalize wrL Lf = W at *
    refine ZF (fn := Tryz.f3) [.tmp 4] ⟨Tryz.func3, rfl, by kernel_rfl⟩ fun x hx hσ => ?_
    (repeat refine ZQ ?_); refine ZR fun K hK => ?_; simp (maxSteps := 1000000) [ty4]; refine hK _ ?_; clear hK K
    (repeat refine ZQ ?_); refine ZR fun K hK => ?_; simp (maxSteps := 1000000) [ty22, ty4]
    refine ZP (cA) ?_; simp (maxSteps := 1000000) [ty4]
    refine hK _ ?_; clear hK K
    (repeat refine ZQ ?_); refine ZC (fun hd => ?_) (fun hd => ?_)
    ·simp at hd
    ·clear hd
     refine awp_skip ?_
     (repeat refine ZQ ?_); refine ZR fun K hK => ?_; simp (maxSteps := 1000000) [ty22]
     refine ZP (c12) ?_; simp (maxSteps := 1000000) [ty9, ty26]
     refine hK _ ?_; clear hK K
     (repeat refine ZQ ?_); refine ZR fun K hK => ?_; simp (maxSteps := 1000000) [ty22]
     refine ZP (c13) ?_; simp (maxSteps := 1000000) [ty9, ty26]
     refine hK _ ?_; clear hK K
     (repeat refine ZQ ?_); refine ZR fun K hK => ?_; simp (maxSteps := 1000000) [ty26, ty9, ty4, hs, -strBin]; refine hK _ ?_; clear hK K
     (repeat refine ZQ ?_); refine ZC (fun hd => ?_) (fun hd => ?_)
     ·simp at hd
     ·clear hd
      refine awp_skip ?_
      (repeat refine ZQ ?_); refine ZR fun K hK => ?_; simp (maxSteps := 1000000) [ty9, ty23]
      refine ZP (c14) ?_; simp (maxSteps := 1000000) [ty9, ty29, ty4]
      refine hK _ ?_; clear hK K
      (repeat refine ZQ ?_); refine ZR fun K hK => ?_; simp (maxSteps := 1000000) [ty29, ty4, ty3]
      refine ZP (c15) ?_; simp (maxSteps := 1000000) [ty29, ty4, ty3]
      refine hK _ ?_; clear hK K
      (repeat refine ZQ ?_); refine ZC (fun hd => ?_) (fun hd => ?_)
      ·simp at hd
      ·clear hd
       refine awp_skip ?_
       (repeat refine ZQ ?_); refine ZR fun K hK => ?_; simp (maxSteps := 1000000) [ty9]
       refine ZP (c16) ?_; simp (maxSteps := 1000000) [ty22, ty33, ty26]
       refine hK _ ?_; clear hK K
       (repeat refine ZQ ?_); refine ZR fun K hK => ?_; simp (maxSteps := 1000000) [ty9]
       refine ZP (c17) ?_; simp (maxSteps := 1000000) [ty33, ty26]
       refine hK _ ?_; clear hK K
       (repeat refine ZQ ?_); refine ZR fun K hK => ?_; simp (maxSteps := 1000000) [ty22, ty29, ty33, ty26, ty3, ty4]
       refine ZP (c18) ?_; simp (maxSteps := 1000000) [ty22, ty29, ty33, ty26, ty3, ty4]
       refine ZP (c20) ?_; simp (maxSteps := 1000000) [ty22, ty29, ty33, ty26, ty3, ty4]
       refine ZP (c19) ?_; simp (maxSteps := 1000000) [ty22, ty29, ty33, ty26, ty3, ty4]
       refine ZP (cW) ?_; simp (maxSteps := 1000000) [ty22, ty29, ty33, ty26, ty3, ty4]
       refine hK _ ?_; clear hK K
       (repeat refine ZQ ?_); refine awp_ret ?_; refine And.intro (Or.inr rfl) ?_
       simp [retC, resC, viewC, mapO]

end Go.Proofs.YtgnpcijgdhjfpaaGreatDoor

