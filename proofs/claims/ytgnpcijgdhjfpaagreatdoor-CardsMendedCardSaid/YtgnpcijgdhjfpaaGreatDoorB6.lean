/- The machine of abstract values and the contracts of the functions of the program, which the statements of this seat share. No condition. -/
import Derived.Test.YtgnpcijgdhjfpaaGreatDoorB5
import Derived.ProofKit
import Derived.OpenShut
import Derived.ChangeStays
import Derived.Test.YtgnpcijgdhjfpaaGreatDoorCards
import Derived.Test.YtgnpcijgdhjfpaaGreatDoorTie
import Derived.WalkKit
import Derived.Deep.DeepHandedRow
import Derived.LaidLaws
import Derived.Shelf.Vars

set_option linter.unusedSimpArgs false
set_option linter.unusedVariables false
set_option linter.constructorNameAsVariable false

/- What comes in, as data; and how a law's statement follows from a contract of data. No condition. -/
namespace Go.Abs
open Go.ChangeShapes Go.WideShapes Go.ChangeAt Go.RowKit

inductive Sh where
 | int (k : IntKind)
 | bool
 | str
 | sl (l : List Sh)

mutual
def Fit : Sh → C → Prop
 | .int k, c => ∃ n, c = .int k n ∧ (Lit.int k n).wf = true
 | .bool, c => ∃ b, c = .bool b
 | .str, c => ∃ s : ByteArray, c = .str s ∧ s.size ≤ maxLen
 | .sl l, c => ∃ nl rows, c = .sl nl false rows ∧ (nl = true → rows = []) ∧ rows.length ≤ maxLen ∧ ∀ row ∈ rows, FitL l row
def FitL : List Sh → List C → Prop
 | [], m => m = []
 | s :: l, m => ∃ c r, m = c :: r ∧ Fit s c ∧ FitL l r
end

def shFs (P : Program) (g : TypeId → Option (List Sh)) : Nat → List Field → Option (List Sh)
 | _, [] => some []
 | o, f :: fs => match g f.type, shFs P g (o + P.cellsOf f.type) fs with
  | some l, some m => if f.offset = o ∧ l.length = P.cellsOf f.type then some (l ++ m) else none
  | _, _ => none

def shT (P : Program) : Nat → TypeId → Option (List Sh)
 | 0, _ => none
 | n + 1, t => match P.underlying t with
  | some (.int k) => some [.int k]
  | some .bool => some [.bool]
  | some .string => some [.str]
  | some (.slice e) => match shT P n e with
   | some l => if l.length = P.cellsOf e ∧ 0 < l.length then some [.sl l] else none
   | none => none
  | some (.struct fs) => match shFs P (shT P n) 0 fs.toList with
   | some l => if l.length = P.cellsOf t then some l else none
   | none => none
  | _ => none

theorem FitL.len : ∀ {l : List Sh} {m : List C}, FitL l m → m.length = l.length
 | [], m, h => by simp only [FitL] at h; subst h; rfl
 | s :: l, m, h => by
  simp only [FitL] at h
  obtain ⟨c, r, rfl, _, h⟩ := h
  simp [FitL.len h]

theorem FitL.append : ∀ {l l' : List Sh} {m m' : List C}, FitL l m → FitL l' m' → FitL (l ++ l') (m ++ m')
 | [], l', m, m', h, h' => by simp only [FitL] at h; subst h; exact h'
 | s :: l, l', m, m', h, h' => by
  simp only [FitL] at h
  obtain ⟨c, r, rfl, h1, h2⟩ := h
  simp only [List.cons_append, FitL]
  exact ⟨c, r ++ m', rfl, h1, h2.append h'⟩

def anyG : Nat → Prop := fun _ => True

def OpL (W : World) (m : List C) (cs : List Value) : Prop := m.length = cs.length ∧ ∀ (i : Nat) (c : C), m[i]? = some c → PR anyG W c (cs[i]?.getD undef) ∧ c.cell = true

theorem exists_list {α : Type} {Q : Nat → α → Prop} : ∀ {n : Nat}, (∀ i, i < n → ∃ x, Q i x) → ∃ l : List α, l.length = n ∧ ∀ i x, l[i]? = some x → Q i x
 | 0, _ => ⟨[], rfl, by simp⟩
 | n + 1, h => by
  obtain ⟨l, h1, h2⟩ := exists_list (n := n) fun i hi => h i (by omega)
  obtain ⟨x, hx⟩ := h n (by omega)
  refine ⟨l ++ [x], by simp [h1], fun i y hy => ?_⟩
  rcases Nat.lt_or_ge i l.length with hlt | hge
  ·rw [List.getElem?_append_left hlt] at hy
   exact h2 i y hy
  ·rw [List.getElem?_append_right hge] at hy
   have : i = n := by
    have := (List.getElem?_eq_some_iff.1 hy).1
    simp at this; omega
   subst this
   rw [h1, Nat.sub_self] at hy
   simp at hy
   subst hy; exact hx

section
variable {H : Type} {enc : TypeId × Value → H} {P : Program} {W : World}

theorem spot_of {a : Addr} {q n : Nat} {v : Value} (h : W.cell? ((a.add q).add n) = some v) (h0 : q = 0 ∧ n = 0) : a.spot = none := by
 obtain ⟨rfl, rfl⟩ := h0
 simp only [Addr.add, if_true] at h
 unfold World.cell? at h
 split at h
 ·split at h
  ·simp at h
  ·rename_i hs
   cases hsp : a.spot with
   | none => rfl
   | some z => simp [hsp] at hs
 ·simp at h

theorem addr_full {a : Addr} (h : a.spot = none) (q n : Nat) : (a.add q).add n = ⟨a.block, a.off + (q + n), none⟩ := by
 obtain ⟨b, o, s⟩ := a
 simp only at h
 subst h
 rw [addr_add, addr_add, Nat.add_assoc]

theorem cells_at {a : Addr} {n : Nat} {cs : List Value} (h : W.cells? 0 a n = some cs) : cs.length = n ∧ ∀ i, i < n → W.cell? (a.add i) = cs[i]? := by
 unfold World.cells? at h
 rw [if_pos (Nat.zero_le _)] at h
 refine ⟨by simpa using mapM_some_length h, fun i hi => ?_⟩
 exact mapM_some_get h i i (by rw [List.getElem?_range hi])

theorem block_lt {a : Addr} {v : Value} (h : W.cell? a = some v) : a.block < W.heap.size := by
 unfold World.cell? at h
 split at h
 ·rename_i hh; exact (Array.getElem?_eq_some_iff.1 hh).1
 ·simp at h

theorem open_sound : ∀ (n : Nat) {fuel : Nat} {t : TypeId} {cs : List Value} {x : DataW H × List MemPlace} {shs : List Sh}, shT P n t = some shs → DataW.trod enc P W 0 (fun _ => true) true fuel t cs = some x →
  ∃ m, FitL shs m ∧ OpL W m cs
 | 0, _, _, _, _, _, h, _ => by simp [shT] at h
 | n + 1, fuel, t, cs, x, shs, h, ht => by
  unfold shT at h
  split at h
  ·rename_i k hk
   simp only [Option.some.injEq] at h
   subst h
   obtain ⟨z, rfl, _, hw⟩ := DataW.trod_int hk ht
   refine ⟨[.int k z], ⟨_, _, rfl, ⟨z, rfl, hw⟩, rfl⟩, rfl, fun i c hi => ?_⟩
   cases i with
   | zero => simp at hi; subst hi; exact ⟨.int _ _, rfl⟩
   | succ i => simp at hi
  ·rename_i hk
   simp only [Option.some.injEq] at h
   subst h
   obtain ⟨z, rfl, _⟩ := DataW.trod_bool hk ht
   refine ⟨[.bool z], ⟨_, _, rfl, ⟨z, rfl⟩, rfl⟩, rfl, fun i c hi => ?_⟩
   cases i with
   | zero => simp at hi; subst hi; exact ⟨.bool _, rfl⟩
   | succ i => simp at hi
  ·rename_i hk
   simp only [Option.some.injEq] at h
   subst h
   obtain ⟨z, rfl, _, hz⟩ := DataW.trod_string hk ht
   refine ⟨[.str z], ⟨_, _, rfl, ⟨z, rfl, hz⟩, rfl⟩, rfl, fun i c hi => ?_⟩
   cases i with
   | zero => simp at hi; subst hi; exact ⟨.str _, rfl⟩
   | succ i => simp at hi
  ·rename_i e hk
   split at h
   ·rename_i l hl
    split at h
    ·rename_i hc
     obtain ⟨hc1, hc2⟩ := hc
     simp only [Option.some.injEq] at h
     subst h
     have one : ∀ {nl : Bool} {rows : List (List C)} {v : Value}, cs = [v] → (nl = true → rows = []) → rows.length ≤ maxLen → (∀ row ∈ rows, FitL l row) → PR anyG W (.sl nl false rows) v → ∃ m, FitL [.sl l] m ∧ OpL W m cs := by
      intro nl rows v hcs h1 h2 h3 h4
      subst hcs
      refine ⟨[.sl nl false rows], ⟨_, _, rfl, ⟨nl, rows, rfl, h1, h2, h3⟩, rfl⟩, rfl, fun i c hi => ?_⟩
      cases i with
      | zero => simp at hi; subst hi; exact ⟨h4, rfl⟩
      | succ i => simp at hi
     rcases DataW.trod_slice hk ht with ⟨rfl, _⟩ | ⟨a, len, cap, elems, rest, q, _, rfl, _, hb, hlc, hcm, hel, hat, hsp, _⟩
     ·exact one rfl (fun _ => rfl) (by simp) (by simp) (.slnil _)
     ·obtain ⟨hrl, hrat⟩ := hsp rfl
      by_cases hcap : cap = 0
      ·have : len = 0 := by omega
       subst this
       subst hcap
       exact one (nl := false) (rows := []) rfl (by simp) (by simp) (by simp) (.slemp _ _)
      ·have hspot : a.spot = none ∧ a.block < W.heap.size := by
        by_cases h0 : len = 0
        ·have := hrat 0 (by omega)
         rw [List.getElem?_eq_getElem (by omega), Option.bind_eq_some_iff] at this
         obtain ⟨cs0, g1, _⟩ := this
         obtain ⟨g2, g3⟩ := cells_at g1
         have g4 := g3 0 (by omega)
         rw [List.getElem?_eq_getElem (by omega), h0] at g4
         have hs := spot_of g4 ⟨by simp, rfl⟩
         refine ⟨hs, ?_⟩
         have := block_lt g4
         rw [addr_full hs] at this
         exact this
        ·have := hat 0 (by omega)
         rw [List.getElem?_eq_getElem (by omega), Option.bind_eq_some_iff] at this
         obtain ⟨cs0, g1, _⟩ := this
         obtain ⟨g2, g3⟩ := cells_at g1
         have g4 := g3 0 (by omega)
         rw [List.getElem?_eq_getElem (by omega)] at g4
         have hs := spot_of g4 ⟨by simp, rfl⟩
         refine ⟨hs, ?_⟩
         have := block_lt g4
         rw [addr_full hs] at this
         exact this
       obtain ⟨hs, hlt⟩ := hspot
       have hrow : ∀ i, i < len → ∃ row, FitL l row ∧ ∀ (j : Nat) (c : C), row[j]? = some c → ∃ v, W.cell? ⟨a.block, a.off + (i * P.cellsOf e + j), none⟩ = some v ∧ PR anyG W c v ∧ c.cell = true := by
        intro i hi
        have h1 := hat i hi
        rw [List.getElem?_eq_getElem (by omega), Option.bind_eq_some_iff] at h1
        obtain ⟨cs0, g1, g2⟩ := h1
        obtain ⟨g3, g4⟩ := cells_at g1
        obtain ⟨row, r1, r2, r3⟩ := open_sound n hl g2
        refine ⟨row, r1, fun j c hj => ?_⟩
        have hjl : j < row.length := (List.getElem?_eq_some_iff.1 hj).1
        have g5 := g4 j (by omega)
        rw [addr_full hs] at g5
        obtain ⟨r4, r5⟩ := r3 j c hj
        rw [List.getElem?_eq_getElem (by omega)] at g5 r4
        exact ⟨_, g5, r4, r5⟩
       obtain ⟨rows, w1, w2⟩ := exists_list hrow
       refine one (nl := false) (rows := rows) rfl (by simp) (by omega) (fun row hr => ?_) ?_
       ·obtain ⟨i, hi, rfl⟩ := List.getElem_of_mem hr
        exact (w2 i _ (List.getElem?_eq_getElem hi)).1
       ·obtain ⟨b, o, s⟩ := a
        simp only at hs hlt
        subst hs
        refine .sl (sz := P.cellsOf e) (fun i j => (W.cell? ⟨b, o + (i * P.cellsOf e + j), none⟩).getD undef) trivial hlt w1.symm (by simp) (by omega) ?_ ?_ ?_ ?_
        ·intro i row hi
         rw [(w2 i row hi).1.len, hc1]
        ·intro i row hi j c hj
         obtain ⟨v, q1, q2, q3⟩ := (w2 i row hi).2 j c hj
         simp only at q1
         rw [q1]; rfl
        ·intro i row hi j c hj
         obtain ⟨v, q1, q2, q3⟩ := (w2 i row hi).2 j c hj
         exact q3
        ·intro i row hi j c hj
         obtain ⟨v, q1, q2, q3⟩ := (w2 i row hi).2 j c hj
         simp only at q1
         rw [q1]; exact q2
    ·simp at h
   ·simp at h
  ·rename_i fs hk
   split at h
   ·rename_i l hl
    split at h
    ·rename_i hc
     simp only [Option.some.injEq] at h
     subst h
     obtain ⟨xs, q, _, _, hlen, hxl, hf⟩ := DataW.trod_struct hk ht
     have go : ∀ (fl : List Field) (o : Nat) (shs : List Sh), shFs P (shT P n) o fl = some shs → (∀ f ∈ fl, ∃ y, DataW.trod enc P W 0 (fun _ => true) true q f.type ((cs.drop f.offset).take (P.cellsOf f.type)) = some y) → o + shs.length ≤ cs.length →
       ∃ m, FitL shs m ∧ ∀ (i : Nat) (c : C), m[i]? = some c → PR anyG W c (cs[o + i]?.getD undef) ∧ c.cell = true := by
      intro fl
      induction fl with
      | nil =>
       intro o shs h1 _ _
       simp only [shFs, Option.some.injEq] at h1
       subst h1
       exact ⟨[], rfl, by simp⟩
      | cons f fl ih =>
       intro o shs h1 h2 h3
       unfold shFs at h1
       split at h1
       ·rename_i l1 l2 e1 e2
        split at h1
        ·rename_i hc2
         obtain ⟨ho, hl1⟩ := hc2
         simp only [Option.some.injEq] at h1
         subst h1
         simp only [List.length_append] at h3
         obtain ⟨y, hy⟩ := h2 f (by simp)
         obtain ⟨m1, p1, p2, p3⟩ := open_sound n e1 hy
         obtain ⟨m2, p4, p5⟩ := ih (o + P.cellsOf f.type) l2 e2 (fun g hg => h2 g (by simp [hg])) (by omega)
         have hm1 := p1.len
         refine ⟨m1 ++ m2, p1.append p4, fun i c hi => ?_⟩
         rcases Nat.lt_or_ge i m1.length with hlt | hge
         ·rw [List.getElem?_append_left hlt] at hi
          have := p3 i c hi
          rw [List.getElem?_take_of_lt (by omega), List.getElem?_drop, ho] at this
          exact this
         ·rw [List.getElem?_append_right hge] at hi
          have := p5 _ c hi
          rw [show o + P.cellsOf f.type + (i - m1.length) = o + i by omega] at this
          exact this
        ·simp at h1
       ·simp at h1
     obtain ⟨m, m1, m2⟩ := go fs.toList 0 l hl (fun f hfm => by
      obtain ⟨i, hi, rfl⟩ := List.getElem_of_mem hfm
      have := hf i fs.toList[i] (by simp)
      rw [List.getElem?_eq_getElem (by simp at hi; omega)] at this
      exact ⟨_, this⟩) (by omega)
     exact ⟨m, m1, by rw [m1.len]; omega, fun i c hi => by have := m2 i c hi; rwa [Nat.zero_add] at this⟩
    ·simp at h
   ·simp at h
  ·simp at h

def isAggT (P : Program) (t : TypeId) : Bool :=
 match P.underlying t with
 | some (.struct _) => true
 | _ => false

def ArgsFit (P : Program) : List TypeId → List C → Prop
 | [], cs => cs = []
 | t :: ts, cs => ∃ shs m c r, cs = c :: r ∧ shT P 9 t = some shs ∧ FitL shs m ∧ (if isAggT P t then c = .agg m else m = [c]) ∧ ArgsFit P ts r

theorem open_args : ∀ {ts : List TypeId} {vs : List Value} {ds : List (DataW H)} {ps : List MemPlace}, DataW.TrodAll enc P W 0 (fun _ => true) true ts vs ds ps →
  (∀ (j : Nat) t v, ts[j]? = some t → vs[j]? = some v → ∃ base, Value.okWide P W .any base t v) → (ts.all fun t => (shT P 9 t).isSome) = true →
  ∃ cargs, ArgsFit P ts cargs ∧ cargs.length = vs.length ∧ ∀ (i : Nat) (c : C), cargs[i]? = some c → PR anyG W c (vs[i]?.getD undef)
 | [], [], [], _, _, _, _ => ⟨[], rfl, rfl, by simp⟩
 | t :: ts, v :: vs, d :: ds, ps, h, hv, hs => by
  obtain ⟨p, q, ⟨fuel, h1⟩, h2, _⟩ := h
  simp only [List.all_cons, Bool.and_eq_true] at hs
  obtain ⟨hs1, hs2⟩ := hs
  rw [Option.isSome_iff_exists] at hs1
  obtain ⟨shs, hs1⟩ := hs1
  obtain ⟨m, m1, m2, m3⟩ := open_sound 9 hs1 h1
  obtain ⟨cargs, a1, a2, a3⟩ := open_args h2 (fun j t' v' e1 e2 => hv (j + 1) t' v' (by simpa using e1) (by simpa using e2)) hs2
  obtain ⟨base, hok⟩ := hv 0 t v rfl rfl
  have fin : ∀ c, (if isAggT P t then c = .agg m else m = [c]) → PR anyG W c v → ∃ cargs, ArgsFit P (t :: ts) cargs ∧ cargs.length = (v :: vs).length ∧ ∀ (i : Nat) (c : C), cargs[i]? = some c → PR anyG W c ((v :: vs)[i]?.getD undef) := by
   intro c hc hp
   refine ⟨c :: cargs, ⟨shs, m, c, cargs, rfl, hs1, m1, hc, a1⟩, by simp [a2], fun i c' hi => ?_⟩
   cases i with
   | zero => simp at hi; subst hi; simpa using hp
   | succ i => simp at hi ⊢; exact a3 i c' hi
  by_cases hag : isAggT P t = true
  ·have hag0 := hag
   unfold isAggT at hag
   split at hag
   ·rename_i fs hfs
    obtain ⟨cs, rfl, hcs⟩ := okWide_struct hfs hok
    refine fin (.agg m) (by rw [if_pos hag0]) (.agg (by rw [m2]; simp [Value.cells]) fun i c hi => ?_)
    have := (m3 i c hi).1
    simpa [Value.cells] using this
   ·simp at hag
  ·have hag0 := hag
   have hone : ∃ sh, shs = [sh] ∧ oneCell v = true := by
    unfold isAggT at hag
    unfold shT at hs1
    split at hs1
    ·rename_i k hk
     obtain ⟨n, rfl⟩ := okWide_int hk hok
     exact ⟨_, (by simpa using hs1.symm), rfl⟩
    ·rename_i hk
     obtain ⟨n, rfl⟩ := okWide_bool hk hok
     exact ⟨_, (by simpa using hs1.symm), rfl⟩
    ·rename_i hk
     obtain ⟨n, rfl⟩ := okWide_string hk hok
     exact ⟨_, (by simpa using hs1.symm), rfl⟩
    ·rename_i e hk
     obtain ⟨a, l, cp, rfl⟩ := okWide_slice hk hok
     split at hs1
     ·split at hs1
      ·exact ⟨_, (by simpa using hs1.symm), rfl⟩
      ·simp at hs1
     ·simp at hs1
    ·rename_i fs hk
     rw [hk] at hag; simp at hag
    ·simp at hs1
   obtain ⟨sh, rfl, hov⟩ := hone
   have hm := m1.len
   have hm1 : m.length = 1 := hm
   obtain ⟨c, rfl⟩ := List.length_eq_one_iff.1 hm1
   refine fin c (by rw [if_neg hag0]) ?_
   have := (m3 0 c rfl).1
   rw [cells_one hov] at this
   simpa using this
 | [], _ :: _, _, _, h, _, _ => h.elim
 | [], [], _ :: _, _, h, _, _ => h.elim
 | _ :: _, [], _, _, h, _, _ => h.elim
 | _ :: _, _ :: _, [], _, h, _, _ => h.elim

def noEmptyB (P : Program) : Bool := (List.range P.types.size).all fun t => match P.underlying t with
 | some (.slice e) => decide (0 < P.cellsOf e)
 | _ => true

theorem same_of {W' : World} (g : Grew W W') {p : MemPlace} (h : p.block < W.heap.size) : W.sameAt W' p := by
 cases p with
 | cell b off =>
  show W'.cell? _ = W.cell? _
  unfold World.cell?
  rw [g.heap b h]
 | map b => exact g.heap b h

theorem shut_args {W' : World} (hl : laidOutB P = true) (hm : mapsRowed P = true) (hz : noEmptyB P = true) (g : Grew W W') {sp : Nat → Bool} : ∀ {ts : List TypeId} {vs : List Value} {ds : List (DataW H)} {ps : List MemPlace},
  (ts.all fun t => decide (t < P.types.size)) = true → DataW.TrodAll enc P W 0 (fun _ => true) true ts vs ds ps → (∀ p ∈ ps, p.block < W.heap.size) → (∀ p ∈ ps, sp p.block = true) → DataW.TrodAll enc P W' 0 sp true ts vs ds ps
 | [], [], [], _, _, h, _, _ => h
 | t :: ts, v :: vs, d :: ds, ps, ht, h, hb, hs => by
  obtain ⟨p, q, ⟨fuel, h1⟩, h2, rfl⟩ := h
  simp only [List.all_cons, Bool.and_eq_true, decide_eq_true_eq] at ht
  refine ⟨p, q, ⟨fuel, ?_⟩, shut_args hl hm hz g ht.2 h2 (fun r hr => hb r (by simp [hr])) (fun r hr => hs r (by simp [hr])), rfl⟩
  refine DataW.trod_stays (T := (· < P.types.size)) (kids_rows hl hm) (fun {t e} h3 h4 => ?_) (fun h => by simp at h) ht.1 h1 (fun r hr => same_of g (hb r (by simp; exact .inl hr))) (fun r hr => hs r (by simp; exact .inl hr))
  unfold noEmptyB at hz
  rw [List.all_eq_true] at hz
  have := hz t (by simpa using h3)
  rw [h4] at this
  simpa using this
 | [], _ :: _, _, _, _, h, _, _ => h.elim
 | [], [], _ :: _, _, _, h, _, _ => h.elim
 | _ :: _, [], _, _, _, h, _, _ => h.elim
 | _ :: _, _ :: _, [], _, _, h, _, _ => h.elim

theorem kept_of {W' : World} (g : Grew W W') (may : MemPlace → Prop) : W.keptBut W' may := by
 refine ⟨g.os, g.output, fun i hi => ?_⟩
 rw [g.heap i hi]
 cases h : W.heap[i]? with
 | none => trivial
 | some o => cases o <;> simp

theorem law_contract {f : FuncId} {fn : Func} {s : ChangeSpec} {tb : TypeId} (hrt : fn.resultTypes = #[tb]) (htb : P.underlying tb = some .bool) (hvars : s.vars = [])
  (hspec : ∀ (ds : List (DataW H)), ds.length = fn.params.toList.length → s.fn H ds = { results := [.lit (.bool true)], args := ds })
  (hl : laidOutB P = true) (hm : mapsRowed P = true) (hz : noEmptyB P = true) (ht : (fn.params.toList.all fun t => decide (t < P.types.size)) = true) (hsh : (fn.params.toList.all fun t => (shT P 9 t).isSome) = true)
  (hcall : ∀ cargs, ArgsFit P fn.params.toList cargs → Pure P f cargs (.bool true))
  (W : World) (hgk : Gk P W) (base : Nat) (args : Array Value) (ds gs : List (DataW H)) (before : List MemPlace) (hval : ∀ (j : Nat) t v, fn.params[j]? = some t → args[j]? = some v → Value.okWide P W .any base t v)
  (hW : DataW.Whole enc P fn.params.toList s.vars false W args.toList ds gs before) :
  Calls P f args W fun e W' => ∃ v, e = .returned v ∧ s.post enc P fn false true false false W args v W' := by
 have hW' := hW
 obtain ⟨p, q, hA, hV, rfl, hfz, hnd⟩ := hW
 rw [hvars] at hV
 obtain ⟨rfl, rfl⟩ := trodVars_none hV
 obtain ⟨cargs, c1, c2, c3⟩ := open_args hA (fun j t v e1 e2 => ⟨base, hval j t v (by simpa using e1) (by simpa using e2)⟩) hsh
 have hlen : ds.length = fn.params.toList.length := by
  have : ∀ {ts : List TypeId} {vs : List Value} {ds : List (DataW H)} {ps : List MemPlace}, DataW.TrodAll enc P W 0 (fun _ => true) true ts vs ds ps → ds.length = ts.length := by
   intro ts
   induction ts with
   | nil => intro vs ds ps h; cases vs <;> cases ds <;> first | rfl | exact h.elim
   | cons t ts ih =>
    intro vs ds ps h
    cases vs with
    | nil => exact h.elim
    | cons v vs =>
     cases ds with
     | nil => exact h.elim
     | cons d ds =>
      obtain ⟨_, _, _, h2, _⟩ := h
      simp [ih h2]
  exact this hA
 refine ((hcall cargs c1).calls anyG W args hgk ⟨by simpa using c2.symm, fun i c hi => by have := c3 i c hi; simpa using this⟩).mono ?_
 rintro e W' ⟨v, rfl, hr, g⟩
 cases hr
 refine ⟨_, rfl, ds, [], p, [], p, [], ?_, ?_, ?_, ?_, kept_of g _, by simp⟩
 ·simpa using hW'
 ·rw [hspec (ds ++ []) (by simpa using hlen), hrt]
  refine ⟨[], [], ⟨1, ?_⟩, rfl, rfl⟩
  simp [DataW.trod, htb, Value.cells]
 ·rw [hspec (ds ++ []) (by simpa using hlen)]
  simp only [List.append_nil]
  have hlt := hW'.lt
  exact shut_args hl hm hz g ht hA (fun r hr => hlt r (by simpa using hr)) (fun r hr => by simpa using hlt r (by simpa using hr))
 ·rw [hvars, hspec (ds ++ []) (by simpa using hlen)]
  rfl
end
end Go.Abs

namespace Go.Proofs.YtgnpcijgdhjfpaaGreatDoor
open Go Go.Abs

set_option maxHeartbeats 2000000
set_option maxRecDepth 100000


theorem S_inv (s : ByteArray) : ∃ l, s = S l := ⟨s.data.toList, by simp [S]⟩

theorem rows_map {α : Type} {f : α → List C} : ∀ {rows : List (List C)}, (∀ row ∈ rows, ∃ a, row = f a) → ∃ l : List α, rows = l.map f
 | [], _ => ⟨[], rfl⟩
 | r :: rows, h => by
  obtain ⟨a, rfl⟩ := h r (by simp)
  obtain ⟨l, rfl⟩ := rows_map (rows := rows) fun x hx => h x (by simp [hx])
  exact ⟨a :: l, rfl⟩

theorem arg_one {t : TypeId} {s : List Sh} (hs : shT Tryz.prog 9 t = some s) (ha : isAggT Tryz.prog t = false) {cs : List C} {ts : List TypeId} (h : ArgsFit Tryz.prog (t :: ts) cs) : ∃ (c : C) (r : List C), cs = c :: r ∧ FitL s [c] ∧ ArgsFit Tryz.prog ts r := by
 simp only [ArgsFit] at h
 obtain ⟨shs, m, c, r, rfl, h1, h2, h3, h4⟩ := h
 rw [hs] at h1
 cases h1
 rw [ha] at h3
 simp only [Bool.false_eq_true, if_false] at h3
 subst h3
 exact ⟨c, r, rfl, h2, h4⟩

theorem sh22 : shT Tryz.prog 9 22 = some [.sl [.str]] := by kernel_rfl
theorem ag22 : isAggT Tryz.prog 22 = false := by kernel_rfl

theorem fit_str {row : List C} (h : FitL [.str] row) : ∃ l, row = cS l := by
 simp only [FitL, Fit] at h
 obtain ⟨c, r, rfl, ⟨s, rfl, _⟩, rfl⟩ := h
 obtain ⟨l, rfl⟩ := S_inv s
 exact ⟨l, rfl⟩

theorem argT {cs : List C} {ts : List TypeId} (h : ArgsFit Tryz.prog (22 :: ts) cs) : ∃ nl L r, cs = sT nl false L :: r ∧ ArgsFit Tryz.prog ts r := by
 obtain ⟨c, r, rfl, h1, h2⟩ := arg_one sh22 ag22 h
 simp only [FitL, Fit] at h1
 obtain ⟨c', r', e, ⟨nl, rows, rfl, _, _, h5⟩, rfl⟩ := h1
 cases e
 obtain ⟨L, rfl⟩ := rows_map (f := cS) fun row hr => fit_str (h5 row hr)
 exact ⟨nl, L, r, rfl, h2⟩

theorem argEnd {cs : List C} (h : ArgsFit Tryz.prog [] cs) : cs = [] := h

end Go.Proofs.YtgnpcijgdhjfpaaGreatDoor

/- The facts of the program that every statement's join asks. No condition. -/
namespace Go.Proofs.YtgnpcijgdhjfpaaGreatDoor
open Go Go.Abs
open Go.ChangeShapes Go.WideShapes Go.ChangeAt Go.RowKit
set_option maxRecDepth 100000

theorem J.own : ownKnob Tryz.prog.godebug = none := by kernel_rfl
theorem J.laid : laidOutB Tryz.prog = true := by kernel_rfl
theorem J.maps : mapsRowed Tryz.prog = true := by kernel_rfl
theorem J.sized : noEmptyB Tryz.prog = true := by kernel_rfl
theorem J.ub : Tryz.prog.underlying 4 = some .bool := by kernel_rfl
theorem J.bld : Tryz.prog.buildable 3 = true := by kernel_rfl
theorem J.max0 : ((begin Tryz.prog (fun _ _ => 0) default).world.heap[0]?).bind Obj.row? = some (#[.int .i64 0], 3) := by kernel_rfl
theorem J.nglob : 0 < Tryz.prog.globals.size := of_decide_eq_true (by kernel_rfl)
theorem J.ct3 : Tryz.prog.cellTypes Tryz.prog.depth 3 = some [3] := by kernel_rfl
theorem J.ui : Tryz.prog.underlying 3 = some (.int .i64) := by kernel_rfl

theorem J.gk {W : World} (h : W.ShapedOpen Tryz.prog) : Gk Tryz.prog W := by
 intro g hg
 obtain rfl : 0 = g := Option.some.inj hg
 exact cell_of_shapedOpen_int h J.nglob J.max0 rfl J.bld J.ct3 J.ui

noncomputable def laidAt (b : Nat) (cs : Array Value) (h : Array Obj) : Array Obj := h.modify b fun
 | .cells _ t frozen => .cells cs t frozen
 | o => o
def acR : List Int := [128, 191, 160, 191, 128, 159, 144, 191, 128, 143, 0, 0, 0, 0, 0, 0, 0, 0, 0, 0, 0, 0, 0, 0, 0, 0, 0, 0, 0, 0, 0, 0]

noncomputable def laidWorld (os : Os) : World :=
 let w0 := World.holding Tryz.prog os ⟨#[], #[], []⟩
 { w0 with heap := laidAt 2 (acR.map (Value.int .u8)).toArray (laidAt 1 (Go.Pinned.utf8FirstZ.map fun (n : Nat) => Value.int .u8 n).toArray w0.heap) }
end Go.Proofs.YtgnpcijgdhjfpaaGreatDoor

namespace Go.Proofs.YtgnpcijgdhjfpaaGreatDoor
open Go Go.Abs

set_option maxHeartbeats 2000000
set_option maxRecDepth 100000


theorem fit_int {l : List Sh} {m : List C} (h : FitL (.int .i64 :: l) m) : ∃ (n : Int) (r : List C), m = encI n :: r ∧ FitL l r := by
 simp only [FitL, Fit] at h
 obtain ⟨c, r, rfl, ⟨n, rfl, _⟩, h2⟩ := h
 exact ⟨n, r, rfl, h2⟩
set_option maxHeartbeats 2000000
set_option maxRecDepth 100000


theorem sh23 : shT Tryz.prog 9 23 = some [.sl [.int .i64, .int .i64, .int .i64, .int .u8]] := by kernel_rfl
theorem ag23 : isAggT Tryz.prog 23 = false := by kernel_rfl

theorem fit_u8 {l : List Sh} {m : List C} (h : FitL (.int .u8 :: l) m) : ∃ (b : UInt8) (r : List C), m = .int .u8 (b.toNat : Int) :: r ∧ FitL l r := by
 simp only [FitL, Fit] at h
 obtain ⟨c, r, rfl, ⟨n, rfl, hw⟩, h2⟩ := h
 have hb : 0 ≤ n ∧ n < 256 := by
  simp only [Lit.wf, IntKind.min, IntKind.max, IntKind.signed, IntKind.bits] at hw
  simp at hw
  omega
 refine ⟨UInt8.ofNat n.toNat, r, ?_, h2⟩
 have : ((UInt8.ofNat n.toNat).toNat : Int) = n := by simp only [UInt8.toNat_ofNat']; omega
 rw [this]

theorem fit_hm {m : List C} (h : FitL [.int .i64, .int .i64, .int .i64, .int .u8] m) : ∃ x : Hm, m = cHm x := by
 obtain ⟨a, m1, rfl, h1⟩ := fit_int h
 obtain ⟨b, m2, rfl, h2⟩ := fit_int h1
 obtain ⟨c, m3, rfl, h3⟩ := fit_int h2
 obtain ⟨d, m4, rfl, h4⟩ := fit_u8 h3
 simp only [FitL] at h4
 subst h4
 exact ⟨⟨a, b, c, d⟩, rfl⟩

theorem argHm {cs : List C} {ts : List TypeId} (h : ArgsFit Tryz.prog (23 :: ts) cs) : ∃ (nl : Bool) (xs : List Hm) (r : List C), cs = .sl nl false (xs.map cHm) :: r ∧ ArgsFit Tryz.prog ts r := by
 obtain ⟨c, r, rfl, h1, h2⟩ := arg_one sh23 ag23 h
 simp only [FitL, Fit] at h1
 obtain ⟨c', r', e, ⟨nl, rows, rfl, _, _, h5⟩, rfl⟩ := h1
 cases e
 obtain ⟨xs, rfl⟩ := rows_map (f := cHm) fun row hr => fit_hm (h5 row hr)
 exact ⟨nl, xs, r, rfl, h2⟩

end Go.Proofs.YtgnpcijgdhjfpaaGreatDoor

