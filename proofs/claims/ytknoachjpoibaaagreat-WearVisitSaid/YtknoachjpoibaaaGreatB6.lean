/- The machine of abstract values and the contracts of the functions of the program, which the statements of this seat share. No condition. -/
import Derived.Test.YtknoachjpoibaaaGreatB5
import Derived.ProofKit
import Derived.OpenShut
import Derived.ChangeStays
import Derived.Test.YtknoachjpoibaaaGreatRows
import Derived.WalkKit

set_option linter.unusedSimpArgs false
set_option linter.unusedVariables false
set_option linter.constructorNameAsVariable false

/- What comes in, as data; and how a law's statement follows from a contract of data. No condition. -/
namespace Go.Abs
open Go.ChangeShapes Go.WideShapes Go.ChangeAt Go.RowKit

/-- The make of a cell. -/
inductive Sh where
  | int (k : IntKind)
  | bool
  | str
  | sl (l : List Sh)

mutual
/-- A value of a make. -/
def Fit : Sh → C → Prop
  | .int k, c => ∃ n, c = .int k n ∧ (Lit.int k n).wf = true
  | .bool, c => ∃ b, c = .bool b
  | .str, c => ∃ s : ByteArray, c = .str s ∧ s.size ≤ maxLen
  | .sl l, c => ∃ nl rows, c = .sl nl false rows ∧ (nl = true → rows = []) ∧ rows.length ≤ maxLen ∧ ∀ row ∈ rows, FitL l row
def FitL : List Sh → List C → Prop
  | [], m => m = []
  | s :: l, m => ∃ c r, m = c :: r ∧ Fit s c ∧ FitL l r
end

def shFs (P : Program) (g : TypeId → Option (List Sh)) : Nat → List Field → Option (List Sh)
 | _, [] => some []
 | o, f :: fs => match g f.type, shFs P g (o + P.cellsOf f.type) fs with
  | some l, some m => if f.offset = o ∧ l.length = P.cellsOf f.type then some (l ++ m) else none
  | _, _ => none

/-- The makes of a type's cells. -/
def shT (P : Program) : Nat → TypeId → Option (List Sh)
  | 0, _ => none
  | n + 1, t => match P.underlying t with
    | some (.int k) => some [.int k]
    | some .bool => some [.bool]
    | some .string => some [.str]
    | some (.slice e) => match shT P n e with
      | some l => if l.length = P.cellsOf e ∧ 0 < l.length then some [.sl l] else none
      | none => none
    | some (.struct fs) => match shFs P (shT P n) 0 fs.toList with
      | some l => if l.length = P.cellsOf t then some l else none
      | none => none
    | _ => none

theorem FitL.len : ∀ {l : List Sh} {m : List C}, FitL l m → m.length = l.length
 | [], m, h => by simp only [FitL] at h; subst h; rfl
 | s :: l, m, h => by
  simp only [FitL] at h
  obtain ⟨c, r, rfl, _, h⟩ := h
  simp [FitL.len h]

theorem FitL.append : ∀ {l l' : List Sh} {m m' : List C}, FitL l m → FitL l' m' → FitL (l ++ l') (m ++ m')
 | [], l', m, m', h, h' => by simp only [FitL] at h; subst h; exact h'
 | s :: l, l', m, m', h, h' => by
  simp only [FitL] at h
  obtain ⟨c, r, rfl, h1, h2⟩ := h
  simp only [List.cons_append, FitL]
  exact ⟨c, r ++ m', rfl, h1, h2.append h'⟩

def anyG : Nat → Prop := fun _ => True

/-- Cells that stand for values. -/
def OpL (W : World) (m : List C) (cs : List Value) : Prop := m.length = cs.length ∧ ∀ (i : Nat) (c : C), m[i]? = some c → PR anyG W c (cs[i]?.getD undef) ∧ c.cell = true

theorem exists_list {α : Type} {Q : Nat → α → Prop} : ∀ {n : Nat}, (∀ i, i < n → ∃ x, Q i x) → ∃ l : List α, l.length = n ∧ ∀ i x, l[i]? = some x → Q i x
 | 0, _ => ⟨[], rfl, by simp⟩
 | n + 1, h => by
  obtain ⟨l, h1, h2⟩ := exists_list (n := n) fun i hi => h i (by omega)
  obtain ⟨x, hx⟩ := h n (by omega)
  refine ⟨l ++ [x], by simp [h1], fun i y hy => ?_⟩
  rcases Nat.lt_or_ge i l.length with hlt | hge
  ·rw [List.getElem?_append_left hlt] at hy
   exact h2 i y hy
  ·rw [List.getElem?_append_right hge] at hy
   have : i = n := by
    have := (List.getElem?_eq_some_iff.1 hy).1
    simp at this; omega
   subst this
   rw [h1, Nat.sub_self] at hy
   simp at hy
   subst hy; exact hx

section
variable {H : Type} {enc : TypeId × Value → H} {P : Program} {W : World}

theorem spot_of {a : Addr} {q n : Nat} {v : Value} (h : W.cell? ((a.add q).add n) = some v) (h0 : q = 0 ∧ n = 0) : a.spot = none := by
 obtain ⟨rfl, rfl⟩ := h0
 simp only [Addr.add, if_true] at h
 unfold World.cell? at h
 split at h
 ·split at h
  ·simp at h
  ·rename_i hs
   cases hsp : a.spot with
   | none => rfl
   | some z => simp [hsp] at hs
 ·simp at h

theorem addr_full {a : Addr} (h : a.spot = none) (q n : Nat) : (a.add q).add n = ⟨a.block, a.off + (q + n), none⟩ := by
 obtain ⟨b, o, s⟩ := a
 simp only at h
 subst h
 rw [addr_add, addr_add, Nat.add_assoc]

theorem cells_at {a : Addr} {n : Nat} {cs : List Value} (h : W.cells? 0 a n = some cs) : cs.length = n ∧ ∀ i, i < n → W.cell? (a.add i) = cs[i]? := by
 unfold World.cells? at h
 rw [if_pos (Nat.zero_le _)] at h
 refine ⟨by simpa using mapM_some_length h, fun i hi => ?_⟩
 exact mapM_some_get h i i (by rw [List.getElem?_range hi])

theorem block_lt {a : Addr} {v : Value} (h : W.cell? a = some v) : a.block < W.heap.size := by
 unfold World.cell? at h
 split at h
 ·rename_i hh; exact (Array.getElem?_eq_some_iff.1 hh).1
 ·simp at h

/-- WHAT IS READ IS DATA. -/
theorem open_sound : ∀ (n : Nat) {fuel : Nat} {t : TypeId} {cs : List Value} {x : DataW H × List MemPlace} {shs : List Sh}, shT P n t = some shs → DataW.trod enc P W 0 (fun _ => true) true fuel t cs = some x →
    ∃ m, FitL shs m ∧ OpL W m cs
  | 0, _, _, _, _, _, h, _ => by simp [shT] at h
  | n + 1, fuel, t, cs, x, shs, h, ht => by
    unfold shT at h
    split at h
    · rename_i k hk
      simp only [Option.some.injEq] at h
      subst h
      obtain ⟨z, rfl, _, hw⟩ := DataW.trod_int hk ht
      refine ⟨[.int k z], ⟨_, _, rfl, ⟨z, rfl, hw⟩, rfl⟩, rfl, fun i c hi => ?_⟩
      cases i with
      | zero => simp at hi; subst hi; exact ⟨.int _ _, rfl⟩
      | succ i => simp at hi
    · rename_i hk
      simp only [Option.some.injEq] at h
      subst h
      obtain ⟨z, rfl, _⟩ := DataW.trod_bool hk ht
      refine ⟨[.bool z], ⟨_, _, rfl, ⟨z, rfl⟩, rfl⟩, rfl, fun i c hi => ?_⟩
      cases i with
      | zero => simp at hi; subst hi; exact ⟨.bool _, rfl⟩
      | succ i => simp at hi
    · rename_i hk
      simp only [Option.some.injEq] at h
      subst h
      obtain ⟨z, rfl, _, hz⟩ := DataW.trod_string hk ht
      refine ⟨[.str z], ⟨_, _, rfl, ⟨z, rfl, hz⟩, rfl⟩, rfl, fun i c hi => ?_⟩
      cases i with
      | zero => simp at hi; subst hi; exact ⟨.str _, rfl⟩
      | succ i => simp at hi
    · rename_i e hk
      split at h
      · rename_i l hl
        split at h
        · rename_i hc
          obtain ⟨hc1, hc2⟩ := hc
          simp only [Option.some.injEq] at h
          subst h
          have one : ∀ {nl : Bool} {rows : List (List C)} {v : Value}, cs = [v] → (nl = true → rows = []) → rows.length ≤ maxLen → (∀ row ∈ rows, FitL l row) → PR anyG W (.sl nl false rows) v → ∃ m, FitL [.sl l] m ∧ OpL W m cs := by
            intro nl rows v hcs h1 h2 h3 h4
            subst hcs
            refine ⟨[.sl nl false rows], ⟨_, _, rfl, ⟨nl, rows, rfl, h1, h2, h3⟩, rfl⟩, rfl, fun i c hi => ?_⟩
            cases i with
            | zero => simp at hi; subst hi; exact ⟨h4, rfl⟩
            | succ i => simp at hi
          rcases DataW.trod_slice hk ht with ⟨rfl, _⟩ | ⟨a, len, cap, elems, rest, q, _, rfl, _, hb, hlc, hcm, hel, hat, hsp, _⟩
          · exact one rfl (fun _ => rfl) (by simp) (by simp) (.slnil _)
          · obtain ⟨hrl, hrat⟩ := hsp rfl
            by_cases hcap : cap = 0
            · have : len = 0 := by omega
              subst this
              subst hcap
              exact one (nl := false) (rows := []) rfl (by simp) (by simp) (by simp) (.slemp _ _)
            · have hspot : a.spot = none ∧ a.block < W.heap.size := by
                by_cases h0 : len = 0
                · have := hrat 0 (by omega)
                  rw [List.getElem?_eq_getElem (by omega), Option.bind_eq_some_iff] at this
                  obtain ⟨cs0, g1, _⟩ := this
                  obtain ⟨g2, g3⟩ := cells_at g1
                  have g4 := g3 0 (by omega)
                  rw [List.getElem?_eq_getElem (by omega), h0] at g4
                  have hs := spot_of g4 ⟨by simp, rfl⟩
                  refine ⟨hs, ?_⟩
                  have := block_lt g4
                  rw [addr_full hs] at this
                  exact this
                · have := hat 0 (by omega)
                  rw [List.getElem?_eq_getElem (by omega), Option.bind_eq_some_iff] at this
                  obtain ⟨cs0, g1, _⟩ := this
                  obtain ⟨g2, g3⟩ := cells_at g1
                  have g4 := g3 0 (by omega)
                  rw [List.getElem?_eq_getElem (by omega)] at g4
                  have hs := spot_of g4 ⟨by simp, rfl⟩
                  refine ⟨hs, ?_⟩
                  have := block_lt g4
                  rw [addr_full hs] at this
                  exact this
              obtain ⟨hs, hlt⟩ := hspot
              have hrow : ∀ i, i < len → ∃ row, FitL l row ∧ ∀ (j : Nat) (c : C), row[j]? = some c → ∃ v, W.cell? ⟨a.block, a.off + (i * P.cellsOf e + j), none⟩ = some v ∧ PR anyG W c v ∧ c.cell = true := by
                intro i hi
                have h1 := hat i hi
                rw [List.getElem?_eq_getElem (by omega), Option.bind_eq_some_iff] at h1
                obtain ⟨cs0, g1, g2⟩ := h1
                obtain ⟨g3, g4⟩ := cells_at g1
                obtain ⟨row, r1, r2, r3⟩ := open_sound n hl g2
                refine ⟨row, r1, fun j c hj => ?_⟩
                have hjl : j < row.length := (List.getElem?_eq_some_iff.1 hj).1
                have g5 := g4 j (by omega)
                rw [addr_full hs] at g5
                obtain ⟨r4, r5⟩ := r3 j c hj
                rw [List.getElem?_eq_getElem (by omega)] at g5 r4
                exact ⟨_, g5, r4, r5⟩
              obtain ⟨rows, w1, w2⟩ := exists_list hrow
              refine one (nl := false) (rows := rows) rfl (by simp) (by omega) (fun row hr => ?_) ?_
              · obtain ⟨i, hi, rfl⟩ := List.getElem_of_mem hr
                exact (w2 i _ (List.getElem?_eq_getElem hi)).1
              · obtain ⟨b, o, s⟩ := a
                simp only at hs hlt
                subst hs
                refine .sl (sz := P.cellsOf e) (fun i j => (W.cell? ⟨b, o + (i * P.cellsOf e + j), none⟩).getD undef) trivial hlt w1.symm (by simp) (by omega) ?_ ?_ ?_ ?_
                · intro i row hi
                  rw [(w2 i row hi).1.len, hc1]
                · intro i row hi j c hj
                  obtain ⟨v, q1, q2, q3⟩ := (w2 i row hi).2 j c hj
                  simp only at q1
                  rw [q1]; rfl
                · intro i row hi j c hj
                  obtain ⟨v, q1, q2, q3⟩ := (w2 i row hi).2 j c hj
                  exact q3
                · intro i row hi j c hj
                  obtain ⟨v, q1, q2, q3⟩ := (w2 i row hi).2 j c hj
                  simp only at q1
                  rw [q1]; exact q2
        · simp at h
      · simp at h
    · rename_i fs hk
      split at h
      · rename_i l hl
        split at h
        · rename_i hc
          simp only [Option.some.injEq] at h
          subst h
          obtain ⟨xs, q, _, _, hlen, hxl, hf⟩ := DataW.trod_struct hk ht
          have go : ∀ (fl : List Field) (o : Nat) (shs : List Sh), shFs P (shT P n) o fl = some shs → (∀ f ∈ fl, ∃ y, DataW.trod enc P W 0 (fun _ => true) true q f.type ((cs.drop f.offset).take (P.cellsOf f.type)) = some y) → o + shs.length ≤ cs.length →
              ∃ m, FitL shs m ∧ ∀ (i : Nat) (c : C), m[i]? = some c → PR anyG W c (cs[o + i]?.getD undef) ∧ c.cell = true := by
            intro fl
            induction fl with
            | nil =>
              intro o shs h1 _ _
              simp only [shFs, Option.some.injEq] at h1
              subst h1
              exact ⟨[], rfl, by simp⟩
            | cons f fl ih =>
              intro o shs h1 h2 h3
              unfold shFs at h1
              split at h1
              · rename_i l1 l2 e1 e2
                split at h1
                · rename_i hc2
                  obtain ⟨ho, hl1⟩ := hc2
                  simp only [Option.some.injEq] at h1
                  subst h1
                  simp only [List.length_append] at h3
                  obtain ⟨y, hy⟩ := h2 f (by simp)
                  obtain ⟨m1, p1, p2, p3⟩ := open_sound n e1 hy
                  obtain ⟨m2, p4, p5⟩ := ih (o + P.cellsOf f.type) l2 e2 (fun g hg => h2 g (by simp [hg])) (by omega)
                  have hm1 := p1.len
                  refine ⟨m1 ++ m2, p1.append p4, fun i c hi => ?_⟩
                  rcases Nat.lt_or_ge i m1.length with hlt | hge
                  · rw [List.getElem?_append_left hlt] at hi
                    have := p3 i c hi
                    rw [List.getElem?_take_of_lt (by omega), List.getElem?_drop, ho] at this
                    exact this
                  · rw [List.getElem?_append_right hge] at hi
                    have := p5 _ c hi
                    rw [show o + P.cellsOf f.type + (i - m1.length) = o + i by omega] at this
                    exact this
                · simp at h1
              · simp at h1
          obtain ⟨m, m1, m2⟩ := go fs.toList 0 l hl (fun f hfm => by
            obtain ⟨i, hi, rfl⟩ := List.getElem_of_mem hfm
            have := hf i fs.toList[i] (by simp)
            rw [List.getElem?_eq_getElem (by simp at hi; omega)] at this
            exact ⟨_, this⟩) (by omega)
          exact ⟨m, m1, by rw [m1.len]; omega, fun i c hi => by have := m2 i c hi; rwa [Nat.zero_add] at this⟩
        · simp at h
      · simp at h
    · simp at h

def isAggT (P : Program) (t : TypeId) : Bool :=
 match P.underlying t with
 | some (.struct _) => true
 | _ => false

/-- What the parameters stand for. -/
def ArgsFit (P : Program) : List TypeId → List C → Prop
  | [], cs => cs = []
  | t :: ts, cs => ∃ shs m c r, cs = c :: r ∧ shT P 9 t = some shs ∧ FitL shs m ∧ (if isAggT P t then c = .agg m else m = [c]) ∧ ArgsFit P ts r

theorem open_args : ∀ {ts : List TypeId} {vs : List Value} {ds : List (DataW H)} {ps : List MemPlace}, DataW.TrodAll enc P W 0 (fun _ => true) true ts vs ds ps →
  (∀ (j : Nat) t v, ts[j]? = some t → vs[j]? = some v → ∃ base, Value.okWide P W .any base t v) → (ts.all fun t => (shT P 9 t).isSome) = true →
  ∃ cargs, ArgsFit P ts cargs ∧ cargs.length = vs.length ∧ ∀ (i : Nat) (c : C), cargs[i]? = some c → PR anyG W c (vs[i]?.getD undef)
 | [], [], [], _, _, _, _ => ⟨[], rfl, rfl, by simp⟩
 | t :: ts, v :: vs, d :: ds, ps, h, hv, hs => by
  obtain ⟨p, q, ⟨fuel, h1⟩, h2, _⟩ := h
  simp only [List.all_cons, Bool.and_eq_true] at hs
  obtain ⟨hs1, hs2⟩ := hs
  rw [Option.isSome_iff_exists] at hs1
  obtain ⟨shs, hs1⟩ := hs1
  obtain ⟨m, m1, m2, m3⟩ := open_sound 9 hs1 h1
  obtain ⟨cargs, a1, a2, a3⟩ := open_args h2 (fun j t' v' e1 e2 => hv (j + 1) t' v' (by simpa using e1) (by simpa using e2)) hs2
  obtain ⟨base, hok⟩ := hv 0 t v rfl rfl
  have fin : ∀ c, (if isAggT P t then c = .agg m else m = [c]) → PR anyG W c v → ∃ cargs, ArgsFit P (t :: ts) cargs ∧ cargs.length = (v :: vs).length ∧ ∀ (i : Nat) (c : C), cargs[i]? = some c → PR anyG W c ((v :: vs)[i]?.getD undef) := by
   intro c hc hp
   refine ⟨c :: cargs, ⟨shs, m, c, cargs, rfl, hs1, m1, hc, a1⟩, by simp [a2], fun i c' hi => ?_⟩
   cases i with
   | zero => simp at hi; subst hi; simpa using hp
   | succ i => simp at hi ⊢; exact a3 i c' hi
  by_cases hag : isAggT P t = true
  ·have hag0 := hag
   unfold isAggT at hag
   split at hag
   ·rename_i fs hfs
    obtain ⟨cs, rfl, hcs⟩ := okWide_struct hfs hok
    refine fin (.agg m) (by rw [if_pos hag0]) (.agg (by rw [m2]; simp [Value.cells]) fun i c hi => ?_)
    have := (m3 i c hi).1
    simpa [Value.cells] using this
   ·simp at hag
  ·have hag0 := hag
   have hone : ∃ sh, shs = [sh] ∧ oneCell v = true := by
    unfold isAggT at hag
    unfold shT at hs1
    split at hs1
    ·rename_i k hk
     obtain ⟨n, rfl⟩ := okWide_int hk hok
     exact ⟨_, (by simpa using hs1.symm), rfl⟩
    ·rename_i hk
     obtain ⟨n, rfl⟩ := okWide_bool hk hok
     exact ⟨_, (by simpa using hs1.symm), rfl⟩
    ·rename_i hk
     obtain ⟨n, rfl⟩ := okWide_string hk hok
     exact ⟨_, (by simpa using hs1.symm), rfl⟩
    ·rename_i e hk
     obtain ⟨a, l, cp, rfl⟩ := okWide_slice hk hok
     split at hs1
     ·split at hs1
      ·exact ⟨_, (by simpa using hs1.symm), rfl⟩
      ·simp at hs1
     ·simp at hs1
    ·rename_i fs hk
     rw [hk] at hag; simp at hag
    ·simp at hs1
   obtain ⟨sh, rfl, hov⟩ := hone
   have hm := m1.len
   have hm1 : m.length = 1 := hm
   obtain ⟨c, rfl⟩ := List.length_eq_one_iff.1 hm1
   refine fin c (by rw [if_neg hag0]) ?_
   have := (m3 0 c rfl).1
   rw [cells_one hov] at this
   simpa using this
 | [], _ :: _, _, _, h, _, _ => h.elim
 | [], [], _ :: _, _, h, _, _ => h.elim
 | _ :: _, [], _, _, h, _, _ => h.elim
 | _ :: _, _ :: _, [], _, h, _, _ => h.elim

/-- No slice of things without size. -/
def noEmptyB (P : Program) : Bool := (List.range P.types.size).all fun t => match P.underlying t with
  | some (.slice e) => decide (0 < P.cellsOf e)
  | _ => true

theorem same_of {W' : World} (g : Grew W W') {p : MemPlace} (h : p.block < W.heap.size) : W.sameAt W' p := by
 cases p with
 | cell b off =>
  show W'.cell? _ = W.cell? _
  unfold World.cell?
  rw [g.heap b h]
 | map b => exact g.heap b h

theorem shut_args {W' : World} (hl : laidOutB P = true) (hm : mapsRowed P = true) (hz : noEmptyB P = true) (g : Grew W W') {sp : Nat → Bool} : ∀ {ts : List TypeId} {vs : List Value} {ds : List (DataW H)} {ps : List MemPlace},
  (ts.all fun t => decide (t < P.types.size)) = true → DataW.TrodAll enc P W 0 (fun _ => true) true ts vs ds ps → (∀ p ∈ ps, p.block < W.heap.size) → (∀ p ∈ ps, sp p.block = true) → DataW.TrodAll enc P W' 0 sp true ts vs ds ps
 | [], [], [], _, _, h, _, _ => h
 | t :: ts, v :: vs, d :: ds, ps, ht, h, hb, hs => by
  obtain ⟨p, q, ⟨fuel, h1⟩, h2, rfl⟩ := h
  simp only [List.all_cons, Bool.and_eq_true, decide_eq_true_eq] at ht
  refine ⟨p, q, ⟨fuel, ?_⟩, shut_args hl hm hz g ht.2 h2 (fun r hr => hb r (by simp [hr])) (fun r hr => hs r (by simp [hr])), rfl⟩
  refine DataW.trod_stays (T := (· < P.types.size)) (kids_rows hl hm) (fun {t e} h3 h4 => ?_) (fun h => by simp at h) ht.1 h1 (fun r hr => same_of g (hb r (by simp; exact .inl hr))) (fun r hr => hs r (by simp; exact .inl hr))
  unfold noEmptyB at hz
  rw [List.all_eq_true] at hz
  have := hz t (by simpa using h3)
  rw [h4] at this
  simpa using this
 | [], _ :: _, _, _, _, h, _, _ => h.elim
 | [], [], _ :: _, _, _, h, _, _ => h.elim
 | _ :: _, [], _, _, _, h, _, _ => h.elim
 | _ :: _, _ :: _, [], _, _, h, _, _ => h.elim

theorem kept_of {W' : World} (g : Grew W W') (may : MemPlace → Prop) : W.keptBut W' may := by
 refine ⟨g.os, g.output, fun i hi => ?_⟩
 rw [g.heap i hi]
 cases h : W.heap[i]? with
 | none => trivial
 | some o => cases o <;> simp

/-- A LAW's STATEMENT, from a contract of data. -/
theorem law_contract {f : FuncId} {fn : Func} {s : ChangeSpec} {tb : TypeId} (hrt : fn.resultTypes = #[tb]) (htb : P.underlying tb = some .bool) (hvars : s.vars = [])
    (hspec : ∀ (ds : List (DataW H)), ds.length = fn.params.toList.length → s.fn H ds = { results := [.lit (.bool true)], args := ds })
    (hl : laidOutB P = true) (hm : mapsRowed P = true) (hz : noEmptyB P = true) (ht : (fn.params.toList.all fun t => decide (t < P.types.size)) = true) (hsh : (fn.params.toList.all fun t => (shT P 9 t).isSome) = true)
    (hcall : ∀ cargs, ArgsFit P fn.params.toList cargs → Pure P f cargs (.bool true))
    (W : World) (base : Nat) (args : Array Value) (ds gs : List (DataW H)) (before : List MemPlace) (hval : ∀ (j : Nat) t v, fn.params[j]? = some t → args[j]? = some v → Value.okWide P W .any base t v)
    (hW : DataW.Whole enc P fn.params.toList s.vars false W args.toList ds gs before) :
    Calls P f args W fun e W' => ∃ v, e = .returned v ∧ s.post enc P fn false true false false W args v W' := by
  have hW' := hW
  obtain ⟨p, q, hA, hV, rfl, hfz, hnd⟩ := hW
  rw [hvars] at hV
  obtain ⟨rfl, rfl⟩ := trodVars_none hV
  obtain ⟨cargs, c1, c2, c3⟩ := open_args hA (fun j t v e1 e2 => ⟨base, hval j t v (by simpa using e1) (by simpa using e2)⟩) hsh
  have hlen : ds.length = fn.params.toList.length := by
    have : ∀ {ts : List TypeId} {vs : List Value} {ds : List (DataW H)} {ps : List MemPlace}, DataW.TrodAll enc P W 0 (fun _ => true) true ts vs ds ps → ds.length = ts.length := by
      intro ts
      induction ts with
      | nil => intro vs ds ps h; cases vs <;> cases ds <;> first | rfl | exact h.elim
      | cons t ts ih =>
        intro vs ds ps h
        cases vs with
        | nil => exact h.elim
        | cons v vs =>
          cases ds with
          | nil => exact h.elim
          | cons d ds =>
            obtain ⟨_, _, _, h2, _⟩ := h
            simp [ih h2]
    exact this hA
  refine ((hcall cargs c1).calls anyG W args ⟨by simpa using c2.symm, fun i c hi => by have := c3 i c hi; simpa using this⟩).mono ?_
  rintro e W' ⟨v, rfl, hr, g⟩
  cases hr
  refine ⟨_, rfl, ds, [], p, [], p, [], ?_, ?_, ?_, ?_, kept_of g _, by simp⟩
  · simpa using hW'
  · rw [hspec (ds ++ []) (by simpa using hlen), hrt]
    refine ⟨[], [], ⟨1, ?_⟩, rfl, rfl⟩
    simp [DataW.trod, htb, Value.cells]
  · rw [hspec (ds ++ []) (by simpa using hlen)]
    simp only [List.append_nil]
    have hlt := hW'.lt
    exact shut_args hl hm hz g ht hA (fun r hr => hlt r (by simpa using hr)) (fun r hr => by simpa using hlt r (by simpa using hr))
  · rw [hvars, hspec (ds ++ []) (by simpa using hlen)]
    rfl
end
end Go.Abs

namespace Go.Proofs.YtknoachjpoibaaaGreat
open Go Go.Abs

set_option maxHeartbeats 2000000
set_option maxRecDepth 100000

-- what comes in

abbrev i64s (n : Nat) : List Sh := List.replicate n (.int .i64)

theorem rows_map {α : Type} {f : α → List C} : ∀ {rows : List (List C)}, (∀ row ∈ rows, ∃ a, row = f a) → ∃ l : List α, rows = l.map f
 | [], _ => ⟨[], rfl⟩
 | r :: rows, h => by
  obtain ⟨a, rfl⟩ := h r (by simp)
  obtain ⟨l, rfl⟩ := rows_map (rows := rows) fun x hx => h x (by simp [hx])
  exact ⟨a :: l, rfl⟩

theorem fit_app {l : List Sh} : ∀ {n : Nat} {m : List C}, FitL (i64s n ++ l) m → ∃ (zs : List Int) (r : List C), zs.length = n ∧ m = zs.map encI ++ r ∧ FitL l r
 | 0, m, h => ⟨[], m, rfl, rfl, by simpa using h⟩
 | n + 1, m, h => by
  simp only [i64s, List.replicate_succ, List.cons_append, FitL, Fit] at h
  obtain ⟨c, r, rfl, ⟨z, rfl, _⟩, h2⟩ := h
  obtain ⟨zs, r', h3, rfl, h4⟩ := fit_app h2
  exact ⟨z :: zs, r', by simp [h3], rfl, h4⟩

theorem fit_flat {n : Nat} {m : List C} (h : FitL (i64s n) m) : ∃ zs : List Int, zs.length = n ∧ m = zs.map encI := by
 have h' : FitL (i64s n ++ []) m := by simpa using h
 obtain ⟨zs, r, h1, h2, h3⟩ := fit_app h'
 simp only [FitL] at h3
 subst h3
 exact ⟨zs, h1, by simpa using h2⟩

theorem fit_sl {s l : List Sh} {m : List C} (h : FitL (.sl s :: l) m) : ∃ (nl : Bool) (rows r : List (List C)) (m' : List C), m = .sl nl false rows :: m' ∧ (∀ row ∈ rows, FitL s row) ∧ FitL l m' := by
 simp only [FitL, Fit] at h
 obtain ⟨c, r, rfl, ⟨nl, rows, rfl, _, _, h5⟩, h6⟩ := h
 exact ⟨nl, rows, [], r, rfl, h5, h6⟩

theorem arg_agg {t : TypeId} {s : List Sh} (hs : shT Tryz.prog 9 t = some s) (ha : isAggT Tryz.prog t = true) {cs : List C} {ts : List TypeId} (h : ArgsFit Tryz.prog (t :: ts) cs) : ∃ (m r : List C), cs = .agg m :: r ∧ FitL s m ∧ ArgsFit Tryz.prog ts r := by
 simp only [ArgsFit] at h
 obtain ⟨shs, m, c, r, rfl, h1, h2, h3, h4⟩ := h
 rw [hs] at h1
 cases h1
 rw [ha, if_pos rfl] at h3
 subst h3
 exact ⟨m, r, rfl, h2, h4⟩

theorem arg_one {t : TypeId} {s : List Sh} (hs : shT Tryz.prog 9 t = some s) (ha : isAggT Tryz.prog t = false) {cs : List C} {ts : List TypeId} (h : ArgsFit Tryz.prog (t :: ts) cs) : ∃ (c : C) (r : List C), cs = c :: r ∧ FitL s [c] ∧ ArgsFit Tryz.prog ts r := by
 simp only [ArgsFit] at h
 obtain ⟨shs, m, c, r, rfl, h1, h2, h3, h4⟩ := h
 rw [hs] at h1
 cases h1
 rw [ha] at h3
 simp only [Bool.false_eq_true, if_false] at h3
 subst h3
 exact ⟨c, r, rfl, h2, h4⟩

theorem sh28 : shT Tryz.prog 9 28 = some (i64s 11 ++ ([.sl [.int .i64, .sl [.int .i64, .sl (i64s 5)]]] ++ i64s 1)) := by kernel_rfl
theorem ag28 : isAggT Tryz.prog 28 = true := by kernel_rfl
theorem sh3 : shT Tryz.prog 9 3 = some (i64s 1) := by kernel_rfl
theorem ag3 : isAggT Tryz.prog 3 = false := by kernel_rfl
theorem sh47 : shT Tryz.prog 9 47 = some (i64s 4) := by kernel_rfl
theorem ag47 : isAggT Tryz.prog 47 = true := by kernel_rfl
theorem fit_walks {rows : List (List C)} (h : ∀ row ∈ rows, FitL (i64s 5) row) : ∃ l : List Wl, rows = l.map cWl := by
 refine rows_map fun row hr => ?_
 obtain ⟨zs, e1, rfl⟩ := fit_flat (h row hr)
 match zs, e1 with
 | [a, b, c, d, e], _ => exact ⟨⟨a, b, c, d, e⟩, rfl⟩

theorem fit_test {l : List Sh} {m : List C} (h : FitL (.int .i64 :: .sl (i64s 5) :: l) m) : ∃ (y : Ts) (m' : List C), m = cTs y ++ m' ∧ FitL l m' := by
 have h' : FitL (i64s 1 ++ (.sl (i64s 5) :: l)) m := h
 obtain ⟨zs, r, e1, rfl, h2⟩ := fit_app h'
 obtain ⟨nl, rows, _, m', rfl, h3, h4⟩ := fit_sl h2
 obtain ⟨wl, rfl⟩ := fit_walks h3
 match zs, e1 with
 | [a], _ => exact ⟨⟨a, nl, false, wl⟩, m', rfl, h4⟩

theorem fit_visit {l : List Sh} {m : List C} (h : FitL (.int .i64 :: .sl [.int .i64, .sl (i64s 5)] :: l) m) : ∃ (v : Vs) (m' : List C), m = cVs v ++ m' ∧ FitL l m' := by
 have h' : FitL (i64s 1 ++ (.sl [.int .i64, .sl (i64s 5)] :: l)) m := h
 obtain ⟨zs, r, e1, rfl, h2⟩ := fit_app h'
 obtain ⟨nl, rows, _, m', rfl, h3, h4⟩ := fit_sl h2
 obtain ⟨ts, rfl⟩ := rows_map (f := cTs) (rows := rows) fun row hr => by
  obtain ⟨y, m', rfl, h6⟩ := fit_test (l := []) (h3 row hr)
  simp only [FitL] at h6
  subst h6
  exact ⟨y, by simp⟩
 match zs, e1 with
 | [a], _ => exact ⟨⟨a, nl, false, ts⟩, m', rfl, h4⟩

theorem argWear {cs : List C} {ts : List TypeId} (h : ArgsFit Tryz.prog (28 :: ts) cs) : ∃ (w : Ws) (r : List C), cs = encWs w :: r ∧ ArgsFit Tryz.prog ts r := by
 obtain ⟨m, r, rfl, h1, h2⟩ := arg_agg sh28 ag28 h
 obtain ⟨zs, r', e1, rfl, h3⟩ := fit_app h1
 obtain ⟨nl, rows, _, m', rfl, h4, h5⟩ := fit_sl h3
 obtain ⟨ys, e2, rfl⟩ := fit_flat h5
 obtain ⟨l, rfl⟩ := rows_map (f := cVs) (rows := rows) fun row hr => by
  obtain ⟨v, m', rfl, h6⟩ := fit_visit (l := []) (h4 row hr)
  simp only [FitL] at h6
  subst h6
  exact ⟨v, by simp⟩
 match zs, e1, ys, e2 with
 | [a, b, c, d, e, f, g, i, j, k, n], _, [o], _ => exact ⟨⟨⟨a, b, c, d, e, f, g, i⟩, j, k, n, nl, false, l, o⟩, r, rfl, h2⟩

theorem argInt {cs : List C} {ts : List TypeId} (h : ArgsFit Tryz.prog (3 :: ts) cs) : ∃ n r, cs = encI n :: r ∧ ArgsFit Tryz.prog ts r := by
 obtain ⟨c, r, rfl, h1, h2⟩ := arg_one sh3 ag3 h
 obtain ⟨zs, e1, e2⟩ := fit_flat h1
 match zs, e1 with
 | [a], _ => simp at e2; subst e2; exact ⟨a, r, rfl, h2⟩

theorem argAsk {cs : List C} {ts : List TypeId} (h : ArgsFit Tryz.prog (47 :: ts) cs) : ∃ (x : As) (r : List C), cs = encAs x :: r ∧ ArgsFit Tryz.prog ts r := by
 obtain ⟨m, r, rfl, h1, h2⟩ := arg_agg sh47 ag47 h
 obtain ⟨zs, e1, rfl⟩ := fit_flat h1
 match zs, e1 with
 | [a, b, c, d], _ => exact ⟨⟨a, b, c, d⟩, r, rfl, h2⟩
theorem arg_end {cs : List C} (h : ArgsFit Tryz.prog [] cs) : cs = [] := h

end Go.Proofs.YtknoachjpoibaaaGreat

/- The facts of the program that every statement's join asks. No condition. -/
namespace Go.Proofs.YtknoachjpoibaaaGreat
open Go Go.Abs
open Go.ChangeShapes Go.WideShapes Go.ChangeAt Go.RowKit

theorem J.own : ownKnob Tryz.prog.godebug = none := by kernel_rfl
theorem J.laid : laidOutB Tryz.prog = true := by kernel_rfl
theorem J.maps : mapsRowed Tryz.prog = true := by kernel_rfl
theorem J.sized : noEmptyB Tryz.prog = true := by kernel_rfl
theorem J.ub : Tryz.prog.underlying 4 = some .bool := by kernel_rfl
end Go.Proofs.YtknoachjpoibaaaGreat

namespace Go.Proofs.YtknoachjpoibaaaGreat
open Go Go.Abs

set_option maxHeartbeats 4000000

-- plain laws of the day to come back; Beyond

theorem openW_known {w : Ws} (h : checkW w = 0) : openW w true = 0 ∨ openW w true = 3 := by
 unfold openW
 rw [if_neg (by simpa using h), if_neg (by simp)]
 split
 ·exact .inr rfl
 ·exact .inl rfl

theorem openW_true' {w : Ws} (h1 : checkW w = 0) (h3 : canC (co w (gl w)) [] = true) : openW w true = 0 := by
 unfold openW; rw [if_neg (by simpa using h1), if_neg (by simp), if_neg (by rw [h3]; simp)]

set_option maxHeartbeats 16000000

-- THE THEOREM THAT IT ONLY WEARS


theorem tru_drop {c : Co} {p : Nat → Int} (h : Tru c p) {a b : Nat} (hab : a ≤ b) (hb : b ≤ c.last.toNat) : 0 ≤ p a - p b ∧ p a - p b ≤ c.drop * ((b : Int) - a) := by
  induction b with
  | zero => obtain rfl : a = 0 := by omega
            simp
  | succ b ih =>
    by_cases e : a = b + 1
    · subst e; simp
    · have h1 := ih (by omega) (by omega)
      have h2 := h.1.2 b (by omega)
      have h3 : c.drop * (((b + 1 : Nat) : Int) - a) = c.drop * ((b : Int) - a) + c.drop := by
        rw [show ((b + 1 : Nat) : Int) - a = ((b : Int) - a) + 1 by omega, Int.mul_add, Int.mul_one]
      rw [h3]; omega

/-- What a fold of drifts keeps. -/
theorem drift_fold (P : Int → Prop) : ∀ (L : List Int) (f : Int → Int) (s : Int × Int), ((s = (-1, 0)) ∨ (0 ≤ s.1 ∧ P s.1 ∧ P s.2 ∧ s.1 ≤ s.2)) → (∀ z ∈ L, 0 ≤ f z ∧ P (f z)) → P 0 →
    ((L = [] ∧ L.foldl (fun s z => driftS s (f z)) s = s) ∨ (0 ≤ (L.foldl (fun s z => driftS s (f z)) s).1 ∧ P (L.foldl (fun s z => driftS s (f z)) s).1 ∧ P (L.foldl (fun s z => driftS s (f z)) s).2 ∧ (L.foldl (fun s z => driftS s (f z)) s).1 ≤ (L.foldl (fun s z => driftS s (f z)) s).2))
  | [], f, s, _, _, _ => .inl ⟨rfl, rfl⟩
  | a :: L, f, s, hs, hL, h0 => by
    right
    have ha := hL a (by simp)
    have hs' : 0 ≤ (driftS s (f a)).1 ∧ P (driftS s (f a)).1 ∧ P (driftS s (f a)).2 ∧ (driftS s (f a)).1 ≤ (driftS s (f a)).2 := by
      rcases hs with rfl | ⟨h1, h2, h3, h4⟩
      · unfold driftS
        simp only
        refine ⟨by rw [if_pos (.inl (by omega))]; exact ha.1, by rw [if_pos (.inl (by omega))]; exact ha.2, ?_, ?_⟩
        · split
          · exact ha.2
          · exact h0
        · rw [if_pos (.inl (by omega))]
          split <;> omega
      · unfold driftS
        refine ⟨?_, ?_, ?_, ?_⟩
        · simp only; split <;> omega
        · simp only; split
          · exact ha.2
          · exact h2
        · simp only; split
          · exact ha.2
          · exact h3
        · simp only
          split <;> split <;> omega
    simp only [List.foldl_cons]
    rcases drift_fold P L f (driftS s (f a)) (.inr hs') (fun z hz => hL z (by simp [hz])) h0 with ⟨e, h⟩ | h
    · rw [h]; exact hs'
    · exact h

theorem drift_all (P : Int → Prop) (c : Co) (a b : Int) (h0 : P 0) : ∀ (L : List Int) (s : Int × Int), ((s = (-1, 0)) ∨ (0 ≤ s.1 ∧ P s.1 ∧ P s.2 ∧ s.1 ≤ s.2)) → (∀ g ∈ L, onC c b [(a, g)] ≠ [] ∧ ∀ z ∈ onC c b [(a, g)], 0 ≤ g - z ∧ P (g - z)) →
  ((L = [] ∧ L.foldl (fun s g => driftIn c a b g s) s = s) ∨ (0 ≤ (L.foldl (fun s g => driftIn c a b g s) s).1 ∧ P (L.foldl (fun s g => driftIn c a b g s) s).1 ∧ P (L.foldl (fun s g => driftIn c a b g s) s).2 ∧ (L.foldl (fun s g => driftIn c a b g s) s).1 ≤ (L.foldl (fun s g => driftIn c a b g s) s).2))
 | [], s, _, _ => .inl ⟨rfl, rfl⟩
 | g :: L, s, hs, hL => by
  right
  have hg := hL g (by simp)
  have h1 := drift_fold P (onC c b [(a, g)]) (fun z => g - z) s hs hg.2 h0
  have hs' : 0 ≤ (driftIn c a b g s).1 ∧ P (driftIn c a b g s).1 ∧ P (driftIn c a b g s).2 ∧ (driftIn c a b g s).1 ≤ (driftIn c a b g s).2 := by
   rcases h1 with ⟨e, _⟩ | h1
   ·exact absurd e hg.1
   ·exact h1
  simp only [List.foldl_cons]
  rcases drift_all P c a b h0 L (driftIn c a b g s) (.inr hs') (fun z hz => hL z (by simp [hz])) with ⟨_, h⟩ | h
  ·rw [h]; exact hs'
  ·exact h

theorem seqN_sorted (a : Int) (n : Nat) : (seqN a n).Pairwise (· < ·) := by
 unfold seqN
 rw [List.pairwise_map]
 exact List.pairwise_lt_range.imp fun h => by omega

theorem onC_sorted (c : Co) (day : Int) (M : List (Int × Int)) : (onC c day M).Pairwise (· < ·) := (seqN_sorted _ _).filter _

theorem sorted_ends {L : List Int} (hs : L.Pairwise (· < ·)) (hne : L ≠ []) : L.headD 0 ∈ L ∧ L.getLastD 0 ∈ L ∧ ∀ z ∈ L, L.headD 0 ≤ z ∧ z ≤ L.getLastD 0 := by
 have hp : 0 < L.length := List.length_pos_iff.2 hne
 obtain ⟨e1, e2⟩ := ends_at hp
 rw [← e1, ← e2]
 refine ⟨List.getElem_mem _, List.getElem_mem _, fun z hz => ?_⟩
 obtain ⟨i, hi, rfl⟩ := List.getElem_of_mem hz
 rw [List.pairwise_iff_getElem] at hs
 constructor
 ·by_cases h : i = 0
  ·subst h; omega
  ·have := hs 0 i hp hi (by omega); omega
 ·by_cases h : i = L.length - 1
  ·subst h; omega
  ·have := hs i (L.length - 1) hi (by omega) (by omega); omega

theorem on_ends {c : Co} (hcan : canC c [] = true) {d : Nat} (hd : d ≤ c.last.toNat) : (∃ p, Tru c p ∧ p d = (onC c d []).headD 0) ∧ (∃ p, Tru c p ∧ p d = (onC c d []).getLastD 0) ∧ ∀ p, Tru c p → (onC c d []).headD 0 ≤ p d ∧ p d ≤ (onC c d []).getLastD 0 := by
 obtain ⟨h1, h2, h3⟩ := sorted_ends (onC_sorted c d []) (on_ne_nil hcan hd)
 exact ⟨(on_nil c d hd _).1 h1, (on_nil c d hd _).1 h2, fun p hp => h3 _ ((on_nil c d hd _).2 ⟨p, hp, rfl⟩)⟩

theorem on_wears {c : Co} (hcan : canC c [] = true) {d : Nat} (hd : d + 1 ≤ c.last.toNat) : (0 ≤ (onC c d []).headD 0 - (onC c (d + 1 : Nat) []).headD 0 ∧ (onC c d []).headD 0 - (onC c (d + 1 : Nat) []).headD 0 ≤ c.drop) ∧ (0 ≤ (onC c d []).getLastD 0 - (onC c (d + 1 : Nat) []).getLastD 0 ∧ (onC c d []).getLastD 0 - (onC c (d + 1 : Nat) []).getLastD 0 ≤ c.drop) := by
 obtain ⟨⟨p1, a1, b1⟩, ⟨p2, a2, b2⟩, c1⟩ := on_ends hcan (d := d) (by omega)
 obtain ⟨⟨q1, e1, f1⟩, ⟨q2, e2, f2⟩, g1⟩ := on_ends hcan (d := d + 1) hd
 have x1 := a1.1.2 d (by omega)
 have x2 := a2.1.2 d (by omega)
 have x3 := e1.1.2 d (by omega)
 have x4 := e2.1.2 d (by omega)
 have y1 := g1 p1 a1
 have y2 := g1 p2 a2
 have y3 := c1 q1 e1
 have y4 := c1 q2 e2
 omega

theorem drift_bd {w : Ws} (hok : WsOk w) (hcan : canC (co w (gl w)) [] = true) {a b : Int} (ha : 0 ≤ a) (hab : a ≤ b) (hb : b ≤ w.last) : 0 ≤ (driftL (co w (gl w)) a b).1 ∧ (driftL (co w (gl w)) a b).1 ≤ (driftL (co w (gl w)) a b).2 ∧ (driftL (co w (gl w)) a b).2 ≤ w.drop * (b - a) := by
 obtain ⟨m, rfl⟩ : ∃ m : Nat, a = m := ⟨a.toNat, by omega⟩
 obtain ⟨n, rfl⟩ : ∃ n : Nat, b = n := ⟨b.toNat, by omega⟩
 have hm : m ≤ (co w (gl w)).last.toNat := by simp only; omega
 have hn : n ≤ (co w (gl w)).last.toNat := by simp only; omega
 have hdr := hok.drop
 have h0 : (fun z : Int => z ≤ w.drop * ((n : Int) - m)) 0 := Int.mul_nonneg hdr.1 (by omega)
 have h := drift_all (fun z => z ≤ w.drop * ((n : Int) - m)) (co w (gl w)) m n h0 (onC (co w (gl w)) m []) (-1, 0) (.inl rfl) fun g hg => by
  refine ⟨on_ne_one hg hm hn, fun z hz => ?_⟩
  obtain ⟨p, hp, e1, e2⟩ := (on_one _ m n g hm hn z).1 hz
  have := tru_drop hp (show m ≤ n by omega) hn
  rw [e1, e2] at this
  exact this
 rcases h with ⟨e, _⟩ | h
 ·exact absurd e (on_ne_nil hcan hm)
 ·exact ⟨h.1, h.2.2.2, h.2.2.1⟩

set_option maxHeartbeats 8000000

-- Errs

def mnI (L : List Int) : Int := L.foldl (fun m x => if x < m then x else m) (L.headD 0)
def mxI (L : List Int) : Int := L.foldl (fun m x => if m < x then x else m) (L.headD 0)


theorem min91 (nl fu : Bool) (L : List Int) (hne : L ≠ []) (hn : L.length ≤ 1000000) : Pure Tryz.prog 91 [.sl nl fu (L.map cI)] (encI (mnI L)) := by
 have hpos : 0 < L.length := List.length_pos_iff.2 hne
 obtain ⟨R, hR⟩ : ∃ R : Nat → Int, ∀ m, (L.take m).foldl (fun m x => if x < m then x else m) (L.headD 0) = R m := ⟨_, fun _ => rfl⟩
 have hRN : mnI L = R L.length := by rw [← hR, List.take_length]; rfl
 have hh : L.headD 0 = L[0] := (ends_at hpos).2.symm
 have hR1 : R 1 = L[0] := by
  rw [← hR]
  cases L with
  | nil => simp at hpos
  | cons a l => simp
 have hRs : ∀ m (hm : m < L.length), R (m + 1) = (fun m x => if x < m then x else m) (R m) L[m] := fun m hm => by
  rw [← hR, ← hR, List.take_succ_eq_append_getElem hm, List.foldl_append]; rfl
 rw [hRN]
 have h1 : ¬ ((L.length : Int) < 1) := by omega
 refine pure_of (fn := Tryz.f91) [.tmp 2] ⟨Tryz.func91, rfl, by kernel_rfl⟩ (by kernel_rfl) (by kernel_rfl) (by kernel_rfl) fun x hx hσ => ?_
 (repeat refine awp_seq ?_); refine awp_reg1 (by rw [hx]; kernel_rfl) fun K hK => ?_; simp (maxSteps := 1000000) [ty29, ty3]; refine hK _ ?_; clear hK K; (first | show AWP _ _ _ _ _ | show ∃ _, _ | skip)
 (repeat refine awp_seq ?_); refine awp_reg1 (by rw [hx]; kernel_rfl) fun K hK => ?_; simp (maxSteps := 1000000) [ty29, ty3, h1]; refine hK _ ?_; clear hK K; (first | show AWP _ _ _ _ _ | show ∃ _, _ | skip)
 (repeat refine awp_seq ?_); refine awp_cond (by simp [h1]; rfl) (by rw [hx]; simp) (fun hd => ?_) (fun hd => ?_)
 ·simp [h1] at hd
 ·clear hd
  refine awp_skip ?_; (first | show AWP _ _ _ _ _ | show ∃ _, _ | skip)
  (repeat refine awp_seq ?_); refine awp_reg1 (by rw [hx]; kernel_rfl) fun K hK => ?_; simp (maxSteps := 1000000) [ty29, ty3, hpos]; refine hK _ ?_; clear hK K; (first | show AWP _ _ _ _ _ | show ∃ _, _ | skip)
  (repeat refine awp_seq ?_); refine awp_reg1 (by rw [hx]; kernel_rfl) fun K hK => ?_; simp (maxSteps := 1000000) [ty3]; refine hK _ ?_; clear hK K; (first | show AWP _ _ _ _ _ | show ∃ _, _ | skip)
  (repeat refine awp_seq ?_); refine awp_block ?_
  refine awp_loop (fun i : Nat => ⟨ofL [(0, .sl nl fu (L.map cI)), (3, encI (R (i + 1))), (4, encI ((i + 1 : Nat) : Int))], stoT []⟩)
   (fun i => i + 1 ≤ L.length) (fun i => L.length - i) 0 (by omega) ?_ ?_
  ·rw [hR1]
   refine wk_shape (shp0 hσ (by simp) (by simp) ?_) ?_
   ·simp [SlotOk] <;> (repeat' (first | exact .same (by simp [purel, C.isPure]) | exact .cons (by simp [mtl, mtc, mT, mH, C.isPure, purel]) (by simp) .nil | refine And.intro ?_ ?_))
   ·simp [mtc, mtl, mT, C.isPure, purel] <;> (try simp (disch := omega) [wrap_id]) <;> (try omega)
  ·intro i hi
   (repeat refine awp_seq ?_); refine awp_reg1 (by rw [hx]; kernel_rfl) fun K hK => ?_; simp (maxSteps := 1000000) [ty29, ty3]; refine hK _ ?_; clear hK K; (first | show AWP _ _ _ _ _ | show ∃ _, _ | skip)
   (repeat refine awp_seq ?_); refine awp_cond (by simp; rfl) (by rw [hx]; simp) (fun hc => ?_) (fun hc => ?_)
   ·simp at hc
    have hil : i + 1 < L.length := by omega
    have hst := hRs (i + 1) hil
    simp only at hst
    have h01 : (0 : Int) ≤ (i : Int) + 1 := by omega
    have hwi : IntKind.i64.wrap ((i : Int) + 1 + 1) = (i : Int) + 1 + 1 := wrap_id (by omega) (by omega)
    refine awp_skip ?_; (first | show AWP _ _ _ _ _ | show ∃ _, _ | skip)
    (repeat refine awp_seq ?_); refine awp_block ?_
    by_cases hq : L[i + 1] < R (i + 1)
    ·rw [if_pos hq] at hst
     (repeat refine awp_seq ?_); refine awp_reg1 (by rw [hx]; kernel_rfl) fun K hK => ?_; simp (maxSteps := 1000000) [ty29, ty3, hil, hq, h01]; refine hK _ ?_; clear hK K; (first | show AWP _ _ _ _ _ | show ∃ _, _ | skip)
     (repeat refine awp_seq ?_); refine awp_reg1 (by rw [hx]; kernel_rfl) fun K hK => ?_; simp (maxSteps := 1000000) [ty3, hwi]; refine hK _ ?_; clear hK K; (first | show AWP _ _ _ _ _ | show ∃ _, _ | skip)
     refine ⟨i + 1, by omega, by omega, ?_⟩
     rw [hst]
     refine wk_shape (shp0 hσ (by simp) (by simp) ?_) ?_
     ·simp [SlotOk] <;> (repeat' (first | exact .same (by simp [purel, C.isPure]) | exact .cons (by simp [mtl, mtc, mT, mH, C.isPure, purel]) (by simp) .nil | refine And.intro ?_ ?_))
     ·simp [mtc, mtl, mT, C.isPure, purel] <;> (try simp (disch := omega) [wrap_id]) <;> (try omega)
    ·rw [if_neg hq] at hst
     (repeat refine awp_seq ?_); refine awp_reg1 (by rw [hx]; kernel_rfl) fun K hK => ?_; simp (maxSteps := 1000000) [ty29, ty3, hil, hq, h01]; refine hK _ ?_; clear hK K; (first | show AWP _ _ _ _ _ | show ∃ _, _ | skip)
     (repeat refine awp_seq ?_); refine awp_reg1 (by rw [hx]; kernel_rfl) fun K hK => ?_; simp (maxSteps := 1000000) [ty3, hwi]; refine hK _ ?_; clear hK K; (first | show AWP _ _ _ _ _ | show ∃ _, _ | skip)
     refine ⟨i + 1, by omega, by omega, ?_⟩
     rw [hst]
     refine wk_shape (shp0 hσ (by simp) (by simp) ?_) ?_
     ·simp [SlotOk] <;> (repeat' (first | exact .same (by simp [purel, C.isPure]) | exact .cons (by simp [mtl, mtc, mT, mH, C.isPure, purel]) (by simp) .nil | refine And.intro ?_ ?_))
     ·simp [mtc, mtl, mT, C.isPure, purel] <;> (try simp (disch := omega) [wrap_id]) <;> (try omega)
   ·simp at hc
    (repeat refine awp_seq ?_); refine awp_exit ?_; (first | show AWP _ _ _ _ _ | show ∃ _, _ | skip)
    have hiN : i + 1 = L.length := by omega
    rw [hiN]
    (repeat refine awp_seq ?_); refine awp_reg1 (by rw [hx]; kernel_rfl) fun K hK => ?_; simp (maxSteps := 1000000) [ty3]; refine hK _ ?_; clear hK K; (first | show AWP _ _ _ _ _ | show ∃ _, _ | skip)
    (repeat refine awp_seq ?_); refine awp_ret ?_; refine And.intro (Or.inr rfl) ?_
    simp [retC, resC, viewC, mapO]

theorem max92 (nl fu : Bool) (L : List Int) (hne : L ≠ []) (hn : L.length ≤ 1000000) : Pure Tryz.prog 92 [.sl nl fu (L.map cI)] (encI (mxI L)) := by
 have hpos : 0 < L.length := List.length_pos_iff.2 hne
 obtain ⟨R, hR⟩ : ∃ R : Nat → Int, ∀ m, (L.take m).foldl (fun m x => if m < x then x else m) (L.headD 0) = R m := ⟨_, fun _ => rfl⟩
 have hRN : mxI L = R L.length := by rw [← hR, List.take_length]; rfl
 have hh : L.headD 0 = L[0] := (ends_at hpos).2.symm
 have hR1 : R 1 = L[0] := by
  rw [← hR]
  cases L with
  | nil => simp at hpos
  | cons a l => simp
 have hRs : ∀ m (hm : m < L.length), R (m + 1) = (fun m x => if m < x then x else m) (R m) L[m] := fun m hm => by
  rw [← hR, ← hR, List.take_succ_eq_append_getElem hm, List.foldl_append]; rfl
 rw [hRN]
 have h1 : ¬ ((L.length : Int) < 1) := by omega
 refine pure_of (fn := Tryz.f92) [.tmp 2] ⟨Tryz.func92, rfl, by kernel_rfl⟩ (by kernel_rfl) (by kernel_rfl) (by kernel_rfl) fun x hx hσ => ?_
 (repeat refine awp_seq ?_); refine awp_reg1 (by rw [hx]; kernel_rfl) fun K hK => ?_; simp (maxSteps := 1000000) [ty29, ty3]; refine hK _ ?_; clear hK K; (first | show AWP _ _ _ _ _ | show ∃ _, _ | skip)
 (repeat refine awp_seq ?_); refine awp_reg1 (by rw [hx]; kernel_rfl) fun K hK => ?_; simp (maxSteps := 1000000) [ty29, ty3, h1]; refine hK _ ?_; clear hK K; (first | show AWP _ _ _ _ _ | show ∃ _, _ | skip)
 (repeat refine awp_seq ?_); refine awp_cond (by simp [h1]; rfl) (by rw [hx]; simp) (fun hd => ?_) (fun hd => ?_)
 ·simp [h1] at hd
 ·clear hd
  refine awp_skip ?_; (first | show AWP _ _ _ _ _ | show ∃ _, _ | skip)
  (repeat refine awp_seq ?_); refine awp_reg1 (by rw [hx]; kernel_rfl) fun K hK => ?_; simp (maxSteps := 1000000) [ty29, ty3, hpos]; refine hK _ ?_; clear hK K; (first | show AWP _ _ _ _ _ | show ∃ _, _ | skip)
  (repeat refine awp_seq ?_); refine awp_reg1 (by rw [hx]; kernel_rfl) fun K hK => ?_; simp (maxSteps := 1000000) [ty3]; refine hK _ ?_; clear hK K; (first | show AWP _ _ _ _ _ | show ∃ _, _ | skip)
  (repeat refine awp_seq ?_); refine awp_block ?_
  refine awp_loop (fun i : Nat => ⟨ofL [(0, .sl nl fu (L.map cI)), (3, encI (R (i + 1))), (4, encI ((i + 1 : Nat) : Int))], stoT []⟩)
   (fun i => i + 1 ≤ L.length) (fun i => L.length - i) 0 (by omega) ?_ ?_
  ·rw [hR1]
   refine wk_shape (shp0 hσ (by simp) (by simp) ?_) ?_
   ·simp [SlotOk] <;> (repeat' (first | exact .same (by simp [purel, C.isPure]) | exact .cons (by simp [mtl, mtc, mT, mH, C.isPure, purel]) (by simp) .nil | refine And.intro ?_ ?_))
   ·simp [mtc, mtl, mT, C.isPure, purel] <;> (try simp (disch := omega) [wrap_id]) <;> (try omega)
  ·intro i hi
   (repeat refine awp_seq ?_); refine awp_reg1 (by rw [hx]; kernel_rfl) fun K hK => ?_; simp (maxSteps := 1000000) [ty29, ty3]; refine hK _ ?_; clear hK K; (first | show AWP _ _ _ _ _ | show ∃ _, _ | skip)
   (repeat refine awp_seq ?_); refine awp_cond (by simp; rfl) (by rw [hx]; simp) (fun hc => ?_) (fun hc => ?_)
   ·simp at hc
    have hil : i + 1 < L.length := by omega
    have hst := hRs (i + 1) hil
    simp only at hst
    have h01 : (0 : Int) ≤ (i : Int) + 1 := by omega
    have hwi : IntKind.i64.wrap ((i : Int) + 1 + 1) = (i : Int) + 1 + 1 := wrap_id (by omega) (by omega)
    refine awp_skip ?_; (first | show AWP _ _ _ _ _ | show ∃ _, _ | skip)
    (repeat refine awp_seq ?_); refine awp_block ?_
    by_cases hq : R (i + 1) < L[i + 1]
    ·rw [if_pos hq] at hst
     (repeat refine awp_seq ?_); refine awp_reg1 (by rw [hx]; kernel_rfl) fun K hK => ?_; simp (maxSteps := 1000000) [ty29, ty3, hil, hq, h01]; refine hK _ ?_; clear hK K; (first | show AWP _ _ _ _ _ | show ∃ _, _ | skip)
     (repeat refine awp_seq ?_); refine awp_reg1 (by rw [hx]; kernel_rfl) fun K hK => ?_; simp (maxSteps := 1000000) [ty3, hwi]; refine hK _ ?_; clear hK K; (first | show AWP _ _ _ _ _ | show ∃ _, _ | skip)
     refine ⟨i + 1, by omega, by omega, ?_⟩
     rw [hst]
     refine wk_shape (shp0 hσ (by simp) (by simp) ?_) ?_
     ·simp [SlotOk] <;> (repeat' (first | exact .same (by simp [purel, C.isPure]) | exact .cons (by simp [mtl, mtc, mT, mH, C.isPure, purel]) (by simp) .nil | refine And.intro ?_ ?_))
     ·simp [mtc, mtl, mT, C.isPure, purel] <;> (try simp (disch := omega) [wrap_id]) <;> (try omega)
    ·rw [if_neg hq] at hst
     (repeat refine awp_seq ?_); refine awp_reg1 (by rw [hx]; kernel_rfl) fun K hK => ?_; simp (maxSteps := 1000000) [ty29, ty3, hil, hq, h01]; refine hK _ ?_; clear hK K; (first | show AWP _ _ _ _ _ | show ∃ _, _ | skip)
     (repeat refine awp_seq ?_); refine awp_reg1 (by rw [hx]; kernel_rfl) fun K hK => ?_; simp (maxSteps := 1000000) [ty3, hwi]; refine hK _ ?_; clear hK K; (first | show AWP _ _ _ _ _ | show ∃ _, _ | skip)
     refine ⟨i + 1, by omega, by omega, ?_⟩
     rw [hst]
     refine wk_shape (shp0 hσ (by simp) (by simp) ?_) ?_
     ·simp [SlotOk] <;> (repeat' (first | exact .same (by simp [purel, C.isPure]) | exact .cons (by simp [mtl, mtc, mT, mH, C.isPure, purel]) (by simp) .nil | refine And.intro ?_ ?_))
     ·simp [mtc, mtl, mT, C.isPure, purel] <;> (try simp (disch := omega) [wrap_id]) <;> (try omega)
   ·simp at hc
    (repeat refine awp_seq ?_); refine awp_exit ?_; (first | show AWP _ _ _ _ _ | show ∃ _, _ | skip)
    have hiN : i + 1 = L.length := by omega
    rw [hiN]
    (repeat refine awp_seq ?_); refine awp_reg1 (by rw [hx]; kernel_rfl) fun K hK => ?_; simp (maxSteps := 1000000) [ty3]; refine hK _ ?_; clear hK K; (first | show AWP _ _ _ _ _ | show ∃ _, _ | skip)
    (repeat refine awp_seq ?_); refine awp_ret ?_; refine And.intro (Or.inr rfl) ?_
    simp [retC, resC, viewC, mapO]

theorem on_ne_nil' {c : Co} (h : canC c [] = true) {d : Nat} (hd : d ≤ c.last.toNat) : onC c d [] ≠ [] := by
 obtain ⟨p, hp⟩ := (can_nil c).1 h
 exact List.ne_nil_of_mem ((on_nil c d hd (p d)).2 ⟨p, hp, rfl⟩)

def errL (c : Co) (day a : Int) : List Int := (onC c day []).map fun g => seenA a g - a
def errW (w : Ws) (day a : Int) : Int × Int := if openW w (dayB w day && areaB a) = 0 then (mnI (errL (co w (gl w)) day a), mxI (errL (co w (gl w)) day a)) else (0, 0)

@[simp] noncomputable abbrev Te (a : Int) (N i : Nat) : List (Nat × Nat × Slot) := [(1000005, 1000005, .live (o1 (encI a))), (1000006, 1000006, .live ⟨false, false, 2, [[encI 0, encI 0]]⟩), (1000010, 1000010, .live (o1 (apC N i)))]


theorem w_errs46 (w : Ws) (day a : Int) (hn : WsLen w) : Pure Tryz.prog 46 [encWs w, encI day, encI a] (.tup [.agg [encI (errW w day a).1, encI (errW w day a).2], encI (openW w (dayB w day && areaB a))]) := by
 by_cases hz : openW w (dayB w day && areaB a) = 0
 ·obtain ⟨hok, his, hcan⟩ := openW_ok hz
  have hop := open_yes hn hz
  have hnum := hok.num
  have hit := on98 w (gl w) true true [] [] day hnum (by simp)
  simp only [rowsK_nil] at hit
  have hV : errW w day a = (mnI (errL (co w (gl w)) day a), mxI (errL (co w (gl w)) day a)) := if_pos hz
  rw [hV, hz]
  have hmem : ∀ z ∈ onC (co w (gl w)) day [], -50 ≤ z ∧ z ≤ 50 := fun z hz' => by
   have h1 := onC_bd hz'
   have h2 := hnum.gain
   simp only at h1
   omega
  have hln := onC_len (co w (gl w)) day [] hnum.gain
  simp only [Bool.and_eq_true] at his
  obtain ⟨h1, h2⟩ := his
  have hne : onC (co w (gl w)) day [] ≠ [] := by
   have hdd : 0 ≤ day ∧ day ≤ w.last := by simpa [dayB] using h1
   have := on_ne_nil' hcan (d := day.toNat) (by simp only; omega)
   rw [show ((day.toNat : Nat) : Int) = day by omega] at this
   exact this
  unfold errL
  generalize onC (co w (gl w)) day [] = L at *
  have ha := areaB_iff.1 h2
  rw [h1, h2] at hop
  simp only [Bool.and_self] at hop
  obtain ⟨V, hVe⟩ : ∃ V, (L.map fun g => seenA a g - a) = V := ⟨_, rfl⟩
  obtain ⟨N, hN⟩ : ∃ N, L.length = N := ⟨_, rfl⟩
  have hVl : V.length = N := by rw [← hVe]; simp [hN]
  have hVg : ∀ i (h : i < L.length), V[i]'(by omega) = seenA a L[i] - a := fun i h => by subst hVe; simp
  have hVn : V ≠ [] := by rw [← hVe]; simpa using hne
  have hN0 : 0 < N := by rw [← hN]; exact List.length_pos_iff.2 hne
  rw [hVe]
  clear hVe hV
  have hil : (itI L).length = N := by simp [hN]
  refine pure_of (fn := Tryz.f46) [.cell 6 23, .tmp 7] ⟨Tryz.func46, rfl, by kernel_rfl⟩ (by kernel_rfl) (by kernel_rfl) (by kernel_rfl) fun x hx hσ => ?_
  (repeat refine awp_seq ?_); refine awp_reg1 (by rw [hx]; kernel_rfl) fun K hK => ?_; simp (maxSteps := 1000000) [ty28, ty37, ty3, ty23]; refine hK _ ?_; clear hK K; (first | show AWP _ _ _ _ _ | show ∃ _, _ | skip)
  (repeat refine awp_seq ?_); refine awp_drw3 [] [0, 1, 2, 3, 4, 5, 6, 7, 8, 9, 10, 11, 12, 13, 14] (by rw [hx]; kernel_rfl) (by kernel_rfl) (by kernel_rfl) (by kernel_rfl) fun K hK => ?_; simp (maxSteps := 1000000) [ty28, ty3, ty4]
  refine callPD (isDay62 w day) (by first | (simp; done) | (simp [*]; done)) (by simp) ?_; simp (maxSteps := 1000000) [ty28, ty3, ty4, h1]
  refine callPD (isArea58 a) (by first | (simp; done) | (simp [*]; done)) (by simp) ?_; simp (maxSteps := 1000000) [ty28, ty3, ty4, h2]
  refine callPD (hop) (by first | (simp; done) | (simp [*]; done)) (by simp) ?_; simp (maxSteps := 1000000) [ty89]
  refine hK _ ?_; clear hK K; (first | show AWP _ _ _ _ _ | show ∃ _, _ | skip)
  (repeat refine awp_seq ?_); refine awp_reg1 (by rw [hx]; kernel_rfl) fun K hK => ?_; simp (maxSteps := 1000000) [ty37]; refine hK _ ?_; clear hK K; (first | show AWP _ _ _ _ _ | show ∃ _, _ | skip)
  (repeat refine awp_seq ?_); refine awp_cond (by simp; rfl) (by rw [hx]; simp) (fun hd => ?_) (fun hd => ?_)
  ·simp at hd
  ·clear hd
   refine awp_skip ?_; (first | show AWP _ _ _ _ _ | show ∃ _, _ | skip)
   (repeat refine awp_seq ?_); refine awp_reg1 (by rw [hx]; kernel_rfl) fun K hK => ?_; simp (maxSteps := 1000000) [ty29]; refine hK _ ?_; clear hK K; (first | show AWP _ _ _ _ _ | show ∃ _, _ | skip)
   (repeat refine awp_seq ?_); refine awp_reg1 (by rw [hx]; kernel_rfl) fun K hK => ?_; simp (maxSteps := 1000000) [ty89, ty3, ty87]
   refine callP (on60 w (gl w) true true [] [] day) (by first | (simp; done) | (simp [*]; done)) ?_; simp (maxSteps := 1000000) [ty92]
   refine hK _ ?_; clear hK K; (first | show AWP _ _ _ _ _ | show ∃ _, _ | skip)
   (repeat refine awp_seq ?_); refine awp_block ?_
   have hfam := famOkS (L := 1000000) (K := [1000005, 1000006, 1000010]) (N := N) (T := fun i => Te a N i) (M := fun i e => apSl V i e) (by decide) (by simp) (by simp) (fun i => by simp)
    (fun i p hp => by
     simp only [Te, List.mem_cons, List.not_mem_nil, or_false] at hp
     rcases hp with rfl | rfl | rfl
     ·exact ⟨_, rfl, by simp [wil, C.wi], by simp⟩
     ·exact ⟨_, rfl, by simp [wil, C.wi], by simp⟩
     ·refine ⟨_, rfl, ?_, ?_⟩
      ·unfold apC
       split
       ·simp [wil, C.wi]
       ·have : i - 1 < N := by omega
        simp [wil, C.wi, this]
      ·simp only [List.all_cons, List.all_nil, apC_cell]; rfl)
    (fun i e he => apSl_ok V i e)
   refine awp_rangeG 1000000 _ _ (itI L) N .ret [(5, .ptr 1000005 1 0 0), (6, .ptr 1000006 2 0 0), (10, .ptr 1000010 1 0 0), (30, .fn (.func 98) [] [.ip (cCd w (gl w) true []) 0, .ip [encI day] 0, .ip [.md true []] 0])] [(5, .ptr 1000005 1 0 0), (10, .ptr 1000010 1 0 0)] (first := []) (caps := [.ip (cCd w (gl w) true []) 0, .ip [encI day] 0, .ip [.md true []] 0]) ?_ hσ hfam (by simp) (by rw [hx]; decide) ⟨rfl, by simp [purel, C.isPure]⟩ hit (by omega)
    (by simp [C.wi, wil]) (by simp [C.wi, wil]) ?_ ?_ ?_ ?_
   ·refine Wk.trans (wk_shape (E := [(5, .ptr 1000005 1 0 0), (6, .ptr 1000006 2 0 0), (10, .ptr 1000010 1 0 0), (30, .fn (.func 98) [] [.ip (cCd w (gl w) true []) 0, .ip [encI day] 0, .ip [.md true []] 0])]) (T := [(1000005, 5, .live (o1 (encI a))), (1000006, 6, .live ⟨false, false, 2, [[encI 0, encI 0]]⟩), (1000010, 10, .live (o1 (.sl true true [])))]) (shp0 hσ (by simp) (by simp) ?_) ?_) ?_
    ·simp [SlotOk]
     exact ⟨.same (by simp [purel, C.isPure]), .same (by simp [purel, C.isPure]), .same (by simp [purel, C.isPure])⟩
    ·simp [mtc, mtl, mT, C.isPure, purel]
    ·have e1 : (fun e => apSl V 0 e) = fun _ => Slot.gh := by
      funext e; unfold apSl; rw [if_neg (by omega), if_neg (by omega)]
     simp only [Te, e1, apC_zero]
     exact wk_famGh (by simp) N
   ·intro args ha
    obtain ⟨t, ht, rfl⟩ := List.mem_map.1 ha
    simp [purel, C.isPure]
   ·intro i args hit hi y y2 hy1 hy2 hyS hy2S
    obtain ⟨g, ht, rfl⟩ := itI_get hit
    have hi' : i < L.length := (List.getElem?_eq_some_iff.1 ht).1
    have hti : L[i] = g := (List.getElem?_eq_some_iff.1 ht).2
    have hgb := hmem g (List.mem_of_getElem? ht)
    have hsb := seenA_bd ha hgb
    have hw1 : IntKind.i64.wrap (seenA a g - a) = seenA a g - a := wrap_id (by omega) (by omega)
    have hvi := hVg i hi'
    rw [hti] at hvi
    have hr0 := fun i => famS_rfam (L := 1000000) (by decide) (Te a N i) N (fun e => apSl V i e) i (fun i => famS (Te a N i) N fun e => apSl V i e) rfl
    rw [hr0 i, hr0 (i + 1)]
    have hx0 := hx
    have hx := hy1.trans hx0
    (repeat refine awp_seq ?_); refine awp_reg1 (by rw [hx]; kernel_rfl) fun K hK => ?_; simp (maxSteps := 1000000) [ty3, putPs]; refine hK _ ?_; clear hK K; (first | show AWP _ _ _ _ _ | show ∃ _, _ | skip)
    refine ⟨by simp, ?_⟩
    have hx := hy2.trans hx0
    (repeat refine awp_seq ?_); refine awp_block ?_
    have hsN := apC_succ (N := N) (i := i) (by omega)
    have hrow := take_ints V (show i < V.length by omega)
    rw [hvi] at hrow
    by_cases h0 : i = 0
    ·subst h0
     rw [apC_zero]
     have e0 : (V.take 0).map cI = [] := rfl
     rw [e0] at hrow
     refine AWP.weak ?_ (wk_nilCell 1000010 0 0 1000 1 (o := o1 (.sl true true [])) (row := [.sl true true []]) (fu := true) (by simp) rfl rfl rfl (by simp [stoT]) (by decide))
     (repeat refine awp_seq ?_); refine awp_drw3 [] [0, 1, 2, 3, 4, 5, 6, 7, 8] (by rw [hx]; kernel_rfl) (by kernel_rfl) (by kernel_rfl) (by kernel_rfl) fun K hK => ?_; simp (maxSteps := 1000000) [ty29, ty3]
     refine callPD (seen61 a g ha hgb) (by first | (simp; done) | (simp [*]; done)) (by simp) ?_; simp (maxSteps := 1000000) [ty29, ty3, hw1]
     refine hK _ ?_; clear hK K; (first | show AWP _ _ _ _ _ | show ∃ _, _ | skip)
     refine ⟨by rw [if_neg (by omega)], ?_⟩
     have hsl1 : apSl V 1 0 = .live ⟨false, false, 1, (V.take 1).map cI⟩ := if_pos rfl
     have hsN1 : apC N 1 = .own (fk 0) 1 0 1 := apC_succ (by omega)
     refine wk_famR (E := []) (T := (1000000, 1000000, .gh) :: Te a N 1) (fun e => if e = 0 then 39 else fk e) hy2S (hr0 0) (by simp [mT]) (by simp) ?_ (by simp) (by simp) (by simp) ?_ ?_ ?_ (by simp)
     ·intro e he hne
      exact absurd (by unfold apSl; rw [if_neg (by omega), if_neg (by omega)]) hne
     ·intro e he
      by_cases hej : e = 0
      ·subst hej
       refine .inr ⟨by simp, by simp, fun e' _ h => ?_⟩
       simp only [if_true] at h
       split at h
       ·assumption
       ·simp at h
      ·simp [hej]
     ·intro e he
      by_cases hej : e = 0
      ·subst hej
       rw [hsl1, hrow]
       simp
       exact ⟨rfl, rfl, rfl, .same (by simp [purel, C.isPure])⟩
      ·simp [hej, he]
       exact apSl_next V hej
     ·simp [SlotOk, hsN1]
      exact ⟨.same (by simp [purel, C.isPure]), .same (by simp [purel, C.isPure]), .cons (by simp [mtl, mtc, mT, mF]; omega) (by simp) .nil⟩
    ·obtain ⟨n, rfl⟩ : ∃ n, i = n + 1 := ⟨i - 1, by omega⟩
     have hsn := apC_succ (N := N) (i := n) (by omega)
     rw [hsn]
     have hnN : n < N := by omega
     have hsl : apSl V (n + 1) n = .live ⟨false, false, 1, (V.take (n + 1)).map cI⟩ := if_pos rfl
     have hAl : ((V.take (n + 1)).map cI).length = n + 1 := by simp; omega
     have hAp := ints_pure (V.take (n + 1))
     generalize hA : (V.take (n + 1)).map cI = A at *
     have hA2 : (V.take (n + 1 + 1)).map cI = A ++ [[encI (seenA a g - a)]] := hrow
     (repeat refine awp_seq ?_); refine awp_drw3 [] [0, 1, 2, 3, 4, 5, 6, 7, 8] (by rw [hx]; kernel_rfl) (by kernel_rfl) (by kernel_rfl) (by kernel_rfl) fun K hK => ?_; simp (maxSteps := 1000000) [ty29, ty3, hnN, hsl, hAl]
     refine callPD (seen61 a g ha hgb) (by first | (simp; done) | (simp [*]; done)) (by simp) ?_; simp (maxSteps := 1000000) [ty29, ty3, hw1, hnN, hsl, hAl]
     refine ⟨by omega, ?_⟩
     refine hK _ ?_; clear hK K; (first | show AWP _ _ _ _ _ | show ∃ _, _ | skip)
     refine ⟨by rw [if_neg (by omega)], ?_⟩
     have hsl1 : apSl V (n + 1 + 1) (n + 1) = .live ⟨false, false, 1, A ++ [[encI (seenA a g - a)]]⟩ := by rw [← hA2]; exact if_pos rfl
     have hsn2 := apC_succ (N := N) (i := n + 1) (by omega)
     refine wk_famR (E := []) (T := (1000000, 1000000, .gh) :: Te a N (n + 1 + 1)) (fun e => if e = n + 1 then 39 else fk e) hy2S (hr0 (n + 1)) (by simp [mT]) (by simp) ?_ (by simp) (by simp) (by simp) ?_ ?_ ?_ (by simp)
     ·intro e he hne
      by_cases hej : e = n + 1
      ·subst hej
       exact absurd (by unfold apSl; rw [if_neg (by omega), if_neg (by omega)]) hne
      ·simp [hej]
     ·intro e he
      by_cases hej : e = n + 1
      ·subst hej
       refine .inr ⟨by simp, by simp, fun e' _ h => ?_⟩
       simp only [if_true] at h
       split at h
       ·assumption
       ·simp at h
      ·simp [hej]
     ·intro e he
      by_cases hej : e = n + 1
      ·subst hej
       rw [hsl1]
       simp
       exact ⟨rfl, rfl, rfl, .same (by simp [purel, C.isPure]; exact fun x h => List.all_eq_true.1 hAp x h)⟩
      ·by_cases hen : e = n
       ·subst hen
        have hd : apSl V (e + 1 + 1) e = .dead := by unfold apSl; rw [if_neg (by omega), if_pos (by omega)]
        rw [hd]
        simp [hej]
        trivial
       ·simp [hej, hen, he]
        exact apSl_next V hej
     ·simp [SlotOk, hsn2]
      exact ⟨.same (by simp [purel, C.isPure]), .same (by simp [purel, C.isPure]), .cons (by simp [mtl, mtc, mT, mF]; omega) (by simp) .nil⟩
   ·intro he s' hs'
    refine AWP.weak ?_ hs'
    rw [hil]
    obtain ⟨n, hn1⟩ : ∃ n, N = n + 1 := ⟨N - 1, by omega⟩
    have hsn := apC_succ (N := N) (i := n) (by omega)
    have hsl : apSl V (n + 1) n = .live ⟨false, false, 1, V.map cI⟩ := by
     unfold apSl; rw [if_pos rfl, List.take_of_length_le (by omega)]
    subst hn1
    simp only [Te, hsn]
    refine AWP.weak ?_ (wk_frzCell (fk n) 1000010 0 0 (o := ⟨false, false, 1, V.map cI⟩) (oq := o1 (.own (fk n) 1 0 (n + 1))) (row := [.own (fk n) 1 0 (n + 1)]) (c := .own (fk n) 1 0 (n + 1)) (c' := .sl false false (V.map cI)) (by simp [hsl]) (ints_pure V) (by simp) (by simp) rfl rfl rfl (fz_own rfl (by simp [hVl]) (by simp)) rfl)
    have hmn := min91 false false V hVn (by omega)
    have hmx := max92 false false V hVn (by omega)
    (repeat refine awp_seq ?_); refine awp_drw3 [] [0, 1, 2, 3, 4, 5, 6] (by rw [hx]; kernel_rfl) (by kernel_rfl) (by kernel_rfl) (by kernel_rfl) fun K hK => ?_; simp (maxSteps := 1000000) [ty29, ty23]
    refine callPD (hmn) (by first | (simp; done) | (simp [*]; done)) (by simp) ?_; simp (maxSteps := 1000000) [ty29, ty23]
    refine callPD (hmx) (by first | (simp; done) | (simp [*]; done)) (by simp) ?_; simp (maxSteps := 1000000) [ty29, ty23]
    refine hK _ ?_; clear hK K; (first | show AWP _ _ _ _ _ | show ∃ _, _ | skip)
    (repeat refine awp_seq ?_); refine awp_ret ?_; refine And.intro (Or.inr rfl) ?_
    simp [retC, resC, viewC, mapO, ty23]
   ·intro hlt
    rw [hil] at hlt
    omega
 ·have hop := open_no hn hz
  have hV : errW w day a = (0, 0) := if_neg hz
  rw [hV]
  cases h1 : dayB w day
  ·rw [h1] at hop hz
   simp only [Bool.false_and] at hop hz ⊢
   refine pure_of (fn := Tryz.f46) [.cell 6 23, .tmp 7] ⟨Tryz.func46, rfl, by kernel_rfl⟩ (by kernel_rfl) (by kernel_rfl) (by kernel_rfl) fun x hx hσ => ?_
   (repeat refine awp_seq ?_); refine awp_reg1 (by rw [hx]; kernel_rfl) fun K hK => ?_; simp (maxSteps := 1000000) [ty28, ty37, ty3, ty23]; refine hK _ ?_; clear hK K; (first | show AWP _ _ _ _ _ | show ∃ _, _ | skip)
   (repeat refine awp_seq ?_); refine awp_drw3 [] [0, 1, 2, 3, 4, 5, 6, 7, 8, 9, 10, 11, 12, 13, 14] (by rw [hx]; kernel_rfl) (by kernel_rfl) (by kernel_rfl) (by kernel_rfl) fun K hK => ?_; simp (maxSteps := 1000000) [ty28, ty3, ty4]
   refine callPD (isDay62 w day) (by first | (simp; done) | (simp [*]; done)) (by simp) ?_; simp (maxSteps := 1000000) [ty28, ty3, ty4, h1]
   refine callPD (hop) (by first | (simp; done) | (simp [*]; done)) (by simp) ?_; simp (maxSteps := 1000000) [ty89]
   refine hK _ ?_; clear hK K; (first | show AWP _ _ _ _ _ | show ∃ _, _ | skip)
   (repeat refine awp_seq ?_); refine awp_reg1 (by rw [hx]; kernel_rfl) fun K hK => ?_; simp (maxSteps := 1000000) [ty37]; refine hK _ ?_; clear hK K; (first | show AWP _ _ _ _ _ | show ∃ _, _ | skip)
   (repeat refine awp_seq ?_); refine awp_cond (by simp [hz]; rfl) (by rw [hx]; simp) (fun hd => ?_) (fun hd => ?_)
   ·clear hd
    (repeat refine awp_seq ?_); refine awp_reg1 (by rw [hx]; kernel_rfl) fun K hK => ?_; simp (maxSteps := 1000000) [ty37, ty23]; refine hK _ ?_; clear hK K; (first | show AWP _ _ _ _ _ | show ∃ _, _ | skip)
    (repeat refine awp_seq ?_); refine awp_ret ?_; refine And.intro (Or.inr rfl) ?_
    simp [retC, resC, viewC, mapO, hz, ty23]
   ·simp [hz] at hd
  ·rw [h1] at hop hz
   simp only [Bool.true_and] at hop hz ⊢
   refine pure_of (fn := Tryz.f46) [.cell 6 23, .tmp 7] ⟨Tryz.func46, rfl, by kernel_rfl⟩ (by kernel_rfl) (by kernel_rfl) (by kernel_rfl) fun x hx hσ => ?_
   (repeat refine awp_seq ?_); refine awp_reg1 (by rw [hx]; kernel_rfl) fun K hK => ?_; simp (maxSteps := 1000000) [ty28, ty37, ty3, ty23]; refine hK _ ?_; clear hK K; (first | show AWP _ _ _ _ _ | show ∃ _, _ | skip)
   (repeat refine awp_seq ?_); refine awp_drw3 [] [0, 1, 2, 3, 4, 5, 6, 7, 8, 9, 10, 11, 12, 13, 14] (by rw [hx]; kernel_rfl) (by kernel_rfl) (by kernel_rfl) (by kernel_rfl) fun K hK => ?_; simp (maxSteps := 1000000) [ty28, ty3, ty4]
   refine callPD (isDay62 w day) (by first | (simp; done) | (simp [*]; done)) (by simp) ?_; simp (maxSteps := 1000000) [ty28, ty3, ty4, h1]
   refine callPD (isArea58 a) (by first | (simp; done) | (simp [*]; done)) (by simp) ?_; simp (maxSteps := 1000000) [ty28, ty3, ty4]
   refine callPD (hop) (by first | (simp; done) | (simp [*]; done)) (by simp) ?_; simp (maxSteps := 1000000) [ty89]
   refine hK _ ?_; clear hK K; (first | show AWP _ _ _ _ _ | show ∃ _, _ | skip)
   (repeat refine awp_seq ?_); refine awp_reg1 (by rw [hx]; kernel_rfl) fun K hK => ?_; simp (maxSteps := 1000000) [ty37]; refine hK _ ?_; clear hK K; (first | show AWP _ _ _ _ _ | show ∃ _, _ | skip)
   (repeat refine awp_seq ?_); refine awp_cond (by simp [hz]; rfl) (by rw [hx]; simp) (fun hd => ?_) (fun hd => ?_)
   ·clear hd
    (repeat refine awp_seq ?_); refine awp_reg1 (by rw [hx]; kernel_rfl) fun K hK => ?_; simp (maxSteps := 1000000) [ty37, ty23]; refine hK _ ?_; clear hK K; (first | show AWP _ _ _ _ _ | show ∃ _, _ | skip)
    (repeat refine awp_seq ?_); refine awp_ret ?_; refine And.intro (Or.inr rfl) ?_
    simp [retC, resC, viewC, mapO, hz, ty23]
   ·simp [hz] at hd

set_option maxHeartbeats 8000000

-- Real

/-- What Real answers. -/
def realW (w : Ws) (day s : Int) : List Int := if openW w (dayB w day && countB s) = 0 then fixTo (fun a => (onC (co w (gl w)) day []).any fun g => seenA a g == s) 9001 else []


theorem w_real48 (w : Ws) (day s : Int) (hn : WsLen w) : Pure Tryz.prog 48 [encWs w, encI day, encI s] (.tup [.sl (realW w day s).isEmpty (openW w (dayB w day && countB s) != 0) ((realW w day s).map cI), encI (openW w (dayB w day && countB s))]) := by
 by_cases hz : openW w (dayB w day && countB s) = 0
 ·obtain ⟨hok, his, hcan⟩ := openW_ok hz
  have hop := open_yes hn hz
  have hnum := hok.num
  have hT : realW w day s = fixTo (fun a => (onC (co w (gl w)) day []).any fun g => seenA a g == s) 9001 := if_pos hz
  have hco := collOn w (gl w) true true [] [] day hnum (by simp)
  simp only [rowsK_nil] at hco
  have hmem : ∀ z ∈ onC (co w (gl w)) day [], -50 ≤ z ∧ z ≤ 50 := fun z hz' => by
   have h1 := onC_bd hz'
   have h2 := hnum.gain
   simp only at h1
   omega
  have hln := onC_len (co w (gl w)) day [] hnum.gain
  rw [hT, hz]
  generalize onC (co w (gl w)) day [] = G at *
  obtain ⟨A, hA⟩ : ∃ A : Nat → List Int, ∀ i, A i = fixTo (fun a => G.any fun g => seenA a g == s) i := ⟨_, fun _ => rfl⟩
  have hA0 : A 0 = [] := hA 0
  have hAl : ∀ i, (A i).length ≤ i := fun i => by rw [hA]; exact fixTo_len _ _
  have hAs : ∀ i : Nat, A (i + 1) = if (G.any fun g => seenA i g == s) then A i ++ [(i : Int)] else A i := fun i => by rw [hA, hA]; rfl
  rw [← hA]
  clear hA hT
  simp only [Bool.and_eq_true] at his
  rw [his.1, his.2] at hop
  simp only [Bool.and_self] at hop
  refine pure_of (fn := Tryz.f48) [.tmp 6, .tmp 7] ⟨Tryz.func48, rfl, by kernel_rfl⟩ (by kernel_rfl) (by kernel_rfl) (by kernel_rfl) fun x hx hσ => ?_
  (repeat refine awp_seq ?_); refine awp_reg1 (by rw [hx]; kernel_rfl) fun K hK => ?_; simp (maxSteps := 1000000) [ty28, ty37, ty29]; refine hK _ ?_; clear hK K; (first | show AWP _ _ _ _ _ | show ∃ _, _ | skip)
  (repeat refine awp_seq ?_)
  refine awp_scope ?_
  (repeat refine awp_seq ?_); refine awp_drw3 [] [0, 1, 2, 3, 4, 5, 6, 7, 8, 9, 10, 11, 12, 13, 14] (by rw [hx]; kernel_rfl) (by kernel_rfl) (by kernel_rfl) (by kernel_rfl) fun K hK => ?_; simp (maxSteps := 1000000) [ty28, ty3, ty4]
  refine callPD (isDay62 w day) (by first | (simp; done) | (simp [*]; done)) (by simp) ?_; simp (maxSteps := 1000000) [ty28, ty3, ty4, his.1]
  refine callPD (isCount59 s) (by first | (simp; done) | (simp [*]; done)) (by simp) ?_; simp (maxSteps := 1000000) [ty28, ty3, ty4, his.2]
  refine callPD (hop) (by first | (simp; done) | (simp [*]; done)) (by simp) ?_; simp (maxSteps := 1000000) [ty89]
  refine hK _ ?_; clear hK K; (first | show AWP _ _ _ _ _ | show ∃ _, _ | skip)
  (repeat refine awp_seq ?_); refine awp_reg1 (by rw [hx]; kernel_rfl) fun K hK => ?_; simp (maxSteps := 1000000) [ty37]; refine hK _ ?_; clear hK K; (first | show AWP _ _ _ _ _ | show ∃ _, _ | skip)
  (repeat refine awp_seq ?_); refine awp_cond (by simp; rfl) (by rw [hx]; simp) (fun hd => ?_) (fun hd => ?_)
  ·simp at hd
  ·clear hd
   refine awp_skip ?_; (first | show AWP _ _ _ _ _ | show ∃ _, _ | skip)
   (repeat refine awp_seq ?_); refine awp_reg1 (by rw [hx]; kernel_rfl) fun K hK => ?_; simp (maxSteps := 1000000) [ty89, ty3, ty87]
   refine callP (on60 w (gl w) true true [] [] day) (by first | (simp; done) | (simp [*]; done)) ?_; simp (maxSteps := 1000000) [ty92]
   refine callP (hco) (by first | (simp; done) | (simp [*]; done)) ?_; simp (maxSteps := 1000000) [ty29]
   refine hK _ ?_; clear hK K; (first | show AWP _ _ _ _ _ | show ∃ _, _ | skip)
   (repeat refine awp_seq ?_); refine awp_reg1 (by rw [hx]; kernel_rfl) fun K hK => ?_; simp (maxSteps := 1000000) [ty29]; refine hK _ ?_; clear hK K; (first | show AWP _ _ _ _ _ | show ∃ _, _ | skip)
   refine awp_seq ?_
   refine awp_label ?_
   (repeat refine awp_seq ?_); refine awp_reg1 (by rw [hx]; kernel_rfl) fun K hK => ?_; simp (maxSteps := 1000000) [ty3]; refine hK _ ?_; clear hK K; (first | show AWP _ _ _ _ _ | show ∃ _, _ | skip)
   (repeat refine awp_seq ?_); refine awp_block ?_
   refine AWP.weak ?_ (wk_nil 11 11 1 (fu := true) (by simp) (by simp))
   refine awp_loop (fun i : Nat => ⟨ofL [(2, encI s), (10, slI G), (11, .own 11 1 0 (A i).length), (34, encI i)], stoT [(11, 11, .live ⟨(A i).isEmpty, false, 1, (A i).map cI⟩)]⟩)
    (fun i => i ≤ 9001) (fun i => 9001 - i) 0 (Nat.zero_le _) ?_ ?_
   ·rw [hA0]
    refine wk_shape (shp0 hσ (by simp) (by simp) ?_) ?_
    ·simp [SlotOk] <;> (repeat' (first | (refine RowsOk.same ?_; simp [purel, C.isPure]; done) | (refine rowsCons ?_; simp [mtl, mtc, mT, mH, C.isPure, purel]; done) | (refine rowsCons ?_; simp [mtl, mtc, mT, mH, C.isPure, purel]) | refine And.intro ?_ ?_))
    ·simp [mtc, mtl, mT, C.isPure, purel] <;> (try simp (disch := omega) [wrap_id]) <;> (try omega)
   ·intro i hi
    have hl := hAl i
    have hst := hAs i
    have hwi : IntKind.i64.wrap ((i : Int) + 1) = ((i + 1 : Nat) : Int) := by rw [wrap_id (by omega) (by omega)]; rfl
    generalize hacc : A i = acc at *
    by_cases hq : (i : Int) < 9001
    ·(repeat refine awp_seq ?_); refine awp_reg1 (by rw [hx]; kernel_rfl) fun K hK => ?_; simp (maxSteps := 1000000) [ty3, hq]; refine hK _ ?_; clear hK K; (first | show AWP _ _ _ _ _ | show ∃ _, _ | skip)
     (repeat refine awp_seq ?_); refine awp_cond (by simp [hq]; rfl) (by rw [hx]; simp) (fun hd => ?_) (fun hd => ?_)
     ·clear hd
      refine awp_skip ?_; (first | show AWP _ _ _ _ _ | show ∃ _, _ | skip)
      (repeat refine awp_seq ?_); refine awp_block ?_
      (repeat refine awp_seq ?_); refine awp_reg1 (by rw [hx]; kernel_rfl) fun K hK => ?_; simp (maxSteps := 1000000) [ty3]; refine hK _ ?_; clear hK K; (first | show AWP _ _ _ _ _ | show ∃ _, _ | skip)
      (repeat refine awp_seq ?_); refine awp_reg1 (by rw [hx]; kernel_rfl) fun K hK => ?_; simp (maxSteps := 1000000) [ty29, ty3]; refine hK _ ?_; clear hK K; (first | show AWP _ _ _ _ _ | show ∃ _, _ | skip)
      (repeat refine awp_seq ?_); refine awp_block ?_
      refine awp_loop (fun k : Nat => ⟨ofL [(2, encI s), (10, slI G), (11, .own 11 1 0 acc.length), (12, encI i), (34, encI i), (37, slI G), (38, encI G.length), (39, encI k)], stoT [(11, 11, .live ⟨acc.isEmpty, false, 1, acc.map cI⟩)]⟩)
       (fun k => k ≤ G.length ∧ ∀ m, (h : m < G.length) → m < k → (seenA i G[m] == s) = false) (fun k => G.length - k) 0 (by simp) ?_ ?_
      ·refine wk_shape (shp0 hσ (by simp) (by simp) ?_) ?_
       ·simp [SlotOk] <;> (repeat' (first | (refine RowsOk.same ?_; simp [purel, C.isPure]; done) | (refine rowsCons ?_; simp [mtl, mtc, mT, mH, C.isPure, purel]; done) | (refine rowsCons ?_; simp [mtl, mtc, mT, mH, C.isPure, purel]) | refine And.intro ?_ ?_))
       ·simp [mtc, mtl, mT, C.isPure, purel] <;> (try simp (disch := omega) [wrap_id]) <;> (try omega)
      ·intro k ⟨hk, hkm⟩
       (repeat refine awp_seq ?_); refine awp_reg1 (by rw [hx]; kernel_rfl) fun K hK => ?_; simp (maxSteps := 1000000) [ty3]; refine hK _ ?_; clear hK K; (first | show AWP _ _ _ _ _ | show ∃ _, _ | skip)
       (repeat refine awp_seq ?_); refine awp_cond (by simp; rfl) (by rw [hx]; simp) (fun hc2 => ?_) (fun hc2 => ?_)
       ·simp at hc2
        have hwk : IntKind.i64.wrap ((k : Int) + 1) = ((k + 1 : Nat) : Int) := by rw [wrap_id (by omega) (by omega)]; rfl
        have hsn := seen61 i G[k] ⟨by omega, by omega⟩ (hmem _ (List.getElem_mem hc2))
        refine awp_skip ?_; (first | show AWP _ _ _ _ _ | show ∃ _, _ | skip)
        (repeat refine awp_seq ?_); refine awp_block ?_
        (repeat refine awp_seq ?_); refine awp_reg1 (by rw [hx]; kernel_rfl) fun K hK => ?_; simp (maxSteps := 1000000) [ty29, ty3, hc2]; refine hK _ ?_; clear hK K; (first | show AWP _ _ _ _ _ | show ∃ _, _ | skip)
        cases hb : seenA i G[k] == s
        ·(repeat refine awp_seq ?_); refine awp_reg1 (by rw [hx]; kernel_rfl) fun K hK => ?_; simp (maxSteps := 1000000) [ty3]
         refine callP (hsn) (by first | (simp; done) | (simp [*]; done)) ?_; simp (maxSteps := 1000000) [ty3, hb]
         refine hK _ ?_; clear hK K; (first | show AWP _ _ _ _ _ | show ∃ _, _ | skip)
         (repeat refine awp_seq ?_); refine awp_cond (by simp [hb]; rfl) (by rw [hx]; simp) (fun hd => ?_) (fun hd => ?_)
         ·simp [hb] at hd
         ·clear hd
          refine awp_skip ?_; (first | show AWP _ _ _ _ _ | show ∃ _, _ | skip)
          (repeat refine awp_seq ?_); refine awp_reg1 (by rw [hx]; kernel_rfl) fun K hK => ?_; simp (maxSteps := 1000000) [ty3]; refine hK _ ?_; clear hK K; (first | show AWP _ _ _ _ _ | show ∃ _, _ | skip)
          refine ⟨k + 1, ⟨by omega, fun m h1 h2 => ?_⟩, by omega, ?_⟩
          ·by_cases hmk : m = k
           ·subst hmk; exact hb
           ·exact hkm m h1 (by omega)
          ·rw [hwk]
           refine wk_shape (shp0 hσ (by simp) (by simp) ?_) ?_
           ·simp [SlotOk] <;> (repeat' (first | (refine RowsOk.same ?_; simp [purel, C.isPure]; done) | (refine rowsCons ?_; simp [mtl, mtc, mT, mH, C.isPure, purel]; done) | (refine rowsCons ?_; simp [mtl, mtc, mT, mH, C.isPure, purel]) | refine And.intro ?_ ?_))
           ·simp [mtc, mtl, mT, C.isPure, purel] <;> (try simp (disch := omega) [wrap_id]) <;> (try omega)
        ·have hany : (G.any fun g => seenA i g == s) = true := List.any_eq_true.2 ⟨_, List.getElem_mem hc2, hb⟩
         rw [hany] at hst
         simp at hst
         (repeat refine awp_seq ?_); refine awp_reg1 (by rw [hx]; kernel_rfl) fun K hK => ?_; simp (maxSteps := 1000000) [ty3]
         refine callP (hsn) (by first | (simp; done) | (simp [*]; done)) ?_; simp (maxSteps := 1000000) [ty3, hb]
         refine hK _ ?_; clear hK K; (first | show AWP _ _ _ _ _ | show ∃ _, _ | skip)
         (repeat refine awp_seq ?_); refine awp_cond (by simp [hb]; rfl) (by rw [hx]; simp) (fun hd => ?_) (fun hd => ?_)
         ·clear hd
          (repeat refine awp_seq ?_); refine awp_reg1 (by rw [hx]; kernel_rfl) fun K hK => ?_; simp (maxSteps := 1000000) [ty29, ty3]
          refine ⟨by omega, ?_⟩
          refine hK _ ?_; clear hK K; (first | show AWP _ _ _ _ _ | show ∃ _, _ | skip)
          (repeat refine awp_seq ?_); refine awp_exit ?_; (first | show AWP _ _ _ _ _ | show ∃ _, _ | skip)
          (repeat refine awp_seq ?_); refine awp_reg1 (by rw [hx]; kernel_rfl) fun K hK => ?_; simp (maxSteps := 1000000) [ty3]; refine hK _ ?_; clear hK K; (first | show AWP _ _ _ _ _ | show ∃ _, _ | skip)
          refine ⟨i + 1, by omega, by omega, ?_⟩
          rw [hwi]
          refine wk_shape (T := [(11, 51, .live ⟨(A (i + 1)).isEmpty, false, 1, (A (i + 1)).map cI⟩)]) (shp0 hσ (by simp) (by simp) ?_) ?_
          ·simp [SlotOk, hst]
           exact .same (by simp [purel, C.isPure])
          ·simp [mtc, mtl, mT, C.isPure, purel, hst]
         ·simp [hb] at hd
       ·simp at hc2
        (repeat refine awp_seq ?_); refine awp_exit ?_; (first | show AWP _ _ _ _ _ | show ∃ _, _ | skip)
        have hany : (G.any fun g => seenA i g == s) = false := by
         rw [Bool.eq_false_iff]
         intro e
         obtain ⟨g, hg, h1⟩ := List.any_eq_true.1 e
         obtain ⟨m, hm, rfl⟩ := List.getElem_of_mem hg
         rw [hkm m hm (by omega)] at h1
         cases h1
        rw [hany] at hst
        simp at hst
        (repeat refine awp_seq ?_); refine awp_reg1 (by rw [hx]; kernel_rfl) fun K hK => ?_; simp (maxSteps := 1000000) [ty3]; refine hK _ ?_; clear hK K; (first | show AWP _ _ _ _ _ | show ∃ _, _ | skip)
        refine ⟨i + 1, by omega, by omega, ?_⟩
        rw [hst, hwi]
        refine wk_shape (shp0 hσ (by simp) (by simp) ?_) ?_
        ·simp [SlotOk] <;> (repeat' (first | (refine RowsOk.same ?_; simp [purel, C.isPure]; done) | (refine rowsCons ?_; simp [mtl, mtc, mT, mH, C.isPure, purel]; done) | (refine rowsCons ?_; simp [mtl, mtc, mT, mH, C.isPure, purel]) | refine And.intro ?_ ?_))
        ·simp [mtc, mtl, mT, C.isPure, purel] <;> (try simp (disch := omega) [wrap_id]) <;> (try omega)
     ·simp [hq] at hd
    ·(repeat refine awp_seq ?_); refine awp_reg1 (by rw [hx]; kernel_rfl) fun K hK => ?_; simp (maxSteps := 1000000) [ty3, hq]; refine hK _ ?_; clear hK K; (first | show AWP _ _ _ _ _ | show ∃ _, _ | skip)
     (repeat refine awp_seq ?_); refine awp_cond (by simp [hq]; rfl) (by rw [hx]; simp) (fun hd => ?_) (fun hd => ?_)
     ·simp [hq] at hd
     ·clear hd
      (repeat refine awp_seq ?_); refine awp_exit ?_; (first | show AWP _ _ _ _ _ | show ∃ _, _ | skip)
      obtain rfl : i = 9001 := by omega
      rw [hacc]
      (repeat refine awp_seq ?_); refine awp_reg1 (by rw [hx]; kernel_rfl) fun K hK => ?_; simp (maxSteps := 1000000) [ty29, ty37]; refine hK _ ?_; clear hK K; (first | show AWP _ _ _ _ _ | show ∃ _, _ | skip)
      (repeat refine awp_seq ?_); refine awp_ret ?_; refine And.intro (Or.inr rfl) ?_
      simp [retC, resC, viewC, mapO, purel, C.isPure]
 ·have hop := open_no hn hz
  have hT : realW w day s = [] := if_neg hz
  rw [hT]
  cases hd : dayB w day
  ·rw [hd] at hop hz
   simp only [Bool.false_and] at hop hz ⊢
   refine pure_of (fn := Tryz.f48) [.tmp 6, .tmp 7] ⟨Tryz.func48, rfl, by kernel_rfl⟩ (by kernel_rfl) (by kernel_rfl) (by kernel_rfl) fun x hx hσ => ?_
   (repeat refine awp_seq ?_); refine awp_reg1 (by rw [hx]; kernel_rfl) fun K hK => ?_; simp (maxSteps := 1000000) [ty28, ty37, ty29]; refine hK _ ?_; clear hK K; (first | show AWP _ _ _ _ _ | show ∃ _, _ | skip)
   (repeat refine awp_seq ?_)
   refine awp_scope ?_
   (repeat refine awp_seq ?_); refine awp_drw3 [] [0, 1, 2, 3, 4, 5, 6, 7, 8, 9, 10, 11, 12, 13, 14] (by rw [hx]; kernel_rfl) (by kernel_rfl) (by kernel_rfl) (by kernel_rfl) fun K hK => ?_; simp (maxSteps := 1000000) [ty28, ty3, ty4]
   refine callPD (isDay62 w day) (by first | (simp; done) | (simp [*]; done)) (by simp) ?_; simp (maxSteps := 1000000) [ty28, ty3, ty4, hd]
   refine callPD (hop) (by first | (simp; done) | (simp [*]; done)) (by simp) ?_; simp (maxSteps := 1000000) [ty89]
   refine hK _ ?_; clear hK K; (first | show AWP _ _ _ _ _ | show ∃ _, _ | skip)
   (repeat refine awp_seq ?_); refine awp_reg1 (by rw [hx]; kernel_rfl) fun K hK => ?_; simp (maxSteps := 1000000) [ty37]; refine hK _ ?_; clear hK K; (first | show AWP _ _ _ _ _ | show ∃ _, _ | skip)
   (repeat refine awp_seq ?_); refine awp_cond (by simp [hz]; rfl) (by rw [hx]; simp) (fun hd => ?_) (fun hd => ?_)
   ·clear hd
    (repeat refine awp_seq ?_); refine awp_reg1 (by rw [hx]; kernel_rfl) fun K hK => ?_; simp (maxSteps := 1000000) [ty37, ty29]; refine hK _ ?_; clear hK K; (first | show AWP _ _ _ _ _ | show ∃ _, _ | skip)
    (repeat refine awp_seq ?_); refine awp_ret ?_; refine And.intro (Or.inr rfl) ?_
    simp [retC, resC, viewC, mapO, hz]
   ·simp [hz] at hd
  ·rw [hd] at hop hz
   simp only [Bool.true_and] at hop hz ⊢
   refine pure_of (fn := Tryz.f48) [.tmp 6, .tmp 7] ⟨Tryz.func48, rfl, by kernel_rfl⟩ (by kernel_rfl) (by kernel_rfl) (by kernel_rfl) fun x hx hσ => ?_
   (repeat refine awp_seq ?_); refine awp_reg1 (by rw [hx]; kernel_rfl) fun K hK => ?_; simp (maxSteps := 1000000) [ty28, ty37, ty29]; refine hK _ ?_; clear hK K; (first | show AWP _ _ _ _ _ | show ∃ _, _ | skip)
   (repeat refine awp_seq ?_)
   refine awp_scope ?_
   (repeat refine awp_seq ?_); refine awp_drw3 [] [0, 1, 2, 3, 4, 5, 6, 7, 8, 9, 10, 11, 12, 13, 14] (by rw [hx]; kernel_rfl) (by kernel_rfl) (by kernel_rfl) (by kernel_rfl) fun K hK => ?_; simp (maxSteps := 1000000) [ty28, ty3, ty4]
   refine callPD (isDay62 w day) (by first | (simp; done) | (simp [*]; done)) (by simp) ?_; simp (maxSteps := 1000000) [ty28, ty3, ty4, hd]
   refine callPD (isCount59 s) (by first | (simp; done) | (simp [*]; done)) (by simp) ?_; simp (maxSteps := 1000000) [ty28, ty3, ty4]
   refine callPD (hop) (by first | (simp; done) | (simp [*]; done)) (by simp) ?_; simp (maxSteps := 1000000) [ty89]
   refine hK _ ?_; clear hK K; (first | show AWP _ _ _ _ _ | show ∃ _, _ | skip)
   (repeat refine awp_seq ?_); refine awp_reg1 (by rw [hx]; kernel_rfl) fun K hK => ?_; simp (maxSteps := 1000000) [ty37]; refine hK _ ?_; clear hK K; (first | show AWP _ _ _ _ _ | show ∃ _, _ | skip)
   (repeat refine awp_seq ?_); refine awp_cond (by simp [hz]; rfl) (by rw [hx]; simp) (fun hd => ?_) (fun hd => ?_)
   ·clear hd
    (repeat refine awp_seq ?_); refine awp_reg1 (by rw [hx]; kernel_rfl) fun K hK => ?_; simp (maxSteps := 1000000) [ty37, ty29]; refine hK _ ?_; clear hK K; (first | show AWP _ _ _ _ _ | show ∃ _, _ | skip)
    (repeat refine awp_seq ?_); refine awp_ret ?_; refine And.intro (Or.inr rfl) ?_
    simp [retC, resC, viewC, mapO, hz]
   ·simp [hz] at hd

set_option maxHeartbeats 16000000
set_option maxRecDepth 20000

-- THE THEOREM OF THE BLAME


theorem blame_any {L : List Int} (hne : L ≠ []) (a s : Int) : (1 ≤ blameL L a s ∧ blameL L a s ≤ 3) ∧ ((blameL L a s != 2) = L.any fun g => seenA a g == s) := by
 have hp : 0 < L.length := List.length_pos_iff.2 hne
 unfold blameL
 by_cases h1 : L.countP (fun g => seenA a g == s) = L.length
 ·rw [if_pos h1]
  refine ⟨by omega, ?_⟩
  have : 0 < L.countP (fun g => seenA a g == s) := by omega
  obtain ⟨g, hg, hs⟩ := List.countP_pos_iff.1 this
  have e : (L.any fun g => seenA a g == s) = true := List.any_eq_true.2 ⟨g, hg, hs⟩
  rw [e]; rfl
 ·rw [if_neg h1]
  by_cases h2 : L.countP (fun g => seenA a g == s) = 0
  ·rw [if_pos h2]
   refine ⟨by omega, ?_⟩
   have e : (L.any fun g => seenA a g == s) = false := by
    rw [List.countP_eq_zero] at h2
    rw [Bool.eq_false_iff]
    intro e
    obtain ⟨g, hg, hs⟩ := List.any_eq_true.1 e
    exact h2 g hg hs
   rw [e]; rfl
  ·rw [if_neg h2]
   refine ⟨by omega, ?_⟩
   obtain ⟨g, hg, hs⟩ := List.countP_pos_iff.1 (Nat.pos_of_ne_zero h2)
   have e : (L.any fun g => seenA a g == s) = true := List.any_eq_true.2 ⟨g, hg, hs⟩
   rw [e]; rfl

theorem blame_zero {L : List Int} : blameL L 0 0 = 1 := by
 have : L.countP (fun g => seenA 0 g == 0) = L.length := by
  rw [List.countP_eq_length]
  intro g _
  simp [seenA]
 unfold blameL
 rw [if_pos this]

theorem real_mem (L : List Int) (s : Int) {a : Int} (ha : 0 ≤ a ∧ a ≤ 9000) : decide (a ∈ fixTo (fun x => L.any fun g => seenA x g == s) 9001) = L.any fun g => seenA a g == s := by
 obtain ⟨n, rfl⟩ : ∃ n : Nat, a = n := ⟨a.toNat, by omega⟩
 cases h : L.any fun g => seenA (n : Int) g == s
 ·rw [decide_eq_false_iff_not, fixTo_mem]
  rintro ⟨i, h1, h2, h3⟩
  obtain rfl : n = i := by omega
  rw [h] at h2; cases h2
 ·rw [decide_eq_true_eq, fixTo_mem]
  exact ⟨n, by omega, h, rfl⟩

theorem fold_mn : ∀ (L : List Int) (a : Int), (L.foldl (fun m x => if x < m then x else m) a ≤ a) ∧ ∀ z ∈ L, L.foldl (fun m x => if x < m then x else m) a ≤ z
 | [], a => ⟨Int.le_refl _, by simp⟩
 | b :: L, a => by
  simp only [List.foldl_cons]
  have h := fold_mn L (if b < a then b else a)
  refine ⟨?_, fun z hz => ?_⟩
  ·have h1 := h.1; split at h1 <;> omega
  ·rcases List.mem_cons.1 hz with rfl | hz
   ·have h1 := h.1; split at h1 <;> omega
   ·exact h.2 z hz
theorem fold_mx : ∀ (L : List Int) (a : Int), (a ≤ L.foldl (fun m x => if m < x then x else m) a) ∧ ∀ z ∈ L, z ≤ L.foldl (fun m x => if m < x then x else m) a
 | [], a => ⟨Int.le_refl _, by simp⟩
 | b :: L, a => by
  simp only [List.foldl_cons]
  have h := fold_mx L (if a < b then b else a)
  refine ⟨?_, fun z hz => ?_⟩
  ·have h1 := h.1; split at h1 <;> omega
  ·rcases List.mem_cons.1 hz with rfl | hz
   ·have h1 := h.1; split at h1 <;> omega
   ·exact h.2 z hz
theorem mnx_bd {L : List Int} {z : Int} (h : z ∈ L) : mnI L ≤ z ∧ z ≤ mxI L := ⟨(fold_mn L _).2 z h, (fold_mx L _).2 z h⟩

theorem span_nn {c : Co} {d : Nat} : 0 ≤ spanL (onC c d []) := by
 by_cases h : onC c d [] = []
 ·rw [h]; simp [spanL]
 ·obtain ⟨h1, h2, h3⟩ := sorted_ends (onC_sorted c d []) h
  have := h3 _ h2
  unfold spanL; omega

theorem span_zero {c : Co} {d : Nat} (hne : onC c d [] ≠ []) : spanL (onC c d []) = 0 ↔ (onC c d []).length = 1 := by
 have hp : 0 < (onC c d []).length := List.length_pos_iff.2 hne
 have hs := onC_sorted c d []
 rw [List.pairwise_iff_getElem] at hs
 rw [← spanL_at hp]
 constructor
 ·intro h
  refine Classical.byContradiction fun hn => ?_
  have := hs 0 ((onC c d []).length - 1) hp (by omega) (by omega)
  omega
 ·intro h
  have : (onC c d []).length - 1 = 0 := by omega
  simp only [this]; omega

theorem doubt_nn (c : Co) : ∀ n, 0 ≤ doubtTo c [] n
 | 0 => Int.le_refl _
 | n + 1 => by
  have := doubt_nn c n
  have := span_nn (c := c) (d := n)
  simp only [doubtTo]; omega

/-- The doubt is nothing just if there is one gain on each day. -/
theorem doubt_one {c : Co} (hcan : canC c [] = true) (hl : 0 ≤ c.last) : (doubtC c [] == 0) = (List.range (c.last.toNat + 1)).all fun d => (onC c (d : Nat) []).length == 1 := by
  have hN : (c.last + 1).toNat = c.last.toNat + 1 := by omega
  unfold doubtC
  rw [hN]
  have key : ∀ n, n ≤ c.last.toNat + 1 → ((doubtTo c [] n == 0) = (List.range n).all fun d => (onC c (d : Nat) []).length == 1) := by
    intro n
    induction n with
    | zero => intro _; rfl
    | succ n ih =>
      intro hn
      have h1 := ih (by omega)
      have h2 := span_zero (on_ne_nil hcan (d := n) (by omega))
      have h3 := doubt_nn c n
      have h4 := span_nn (c := c) (d := n)
      rw [List.range_succ, List.all_append, ← h1]
      simp only [List.all_cons, List.all_nil, Bool.and_true, doubtTo]
      cases e1 : doubtTo c [] n == 0
      · rw [beq_eq_false_iff_ne] at e1
        simp only [Bool.false_and]
        rw [beq_eq_false_iff_ne]; omega
      · rw [beq_iff_eq] at e1
        simp only [Bool.true_and, e1, Int.zero_add]
        rw [Bool.eq_iff_iff, beq_iff_eq, beq_iff_eq]
        exact h2
  exact key _ (Nat.le_refl _)

set_option maxHeartbeats 8000000

-- Strange and Real

theorem str70 (w : Ws) (G : List (Int × List Int)) (nl : Bool) (M : List (Int × Int)) (v : Vs) (g : Int) (hw : WsNum w G) : Pure Tryz.prog 70 [encI g, .ip (cCd w G nl M) 0, .ip (cVs v) 0] (.bool (canC (co w G) [(v.day, g)])) := by
 have h := can71 w G false nl [(v.day, g)] M hw
 have hob : rowsK [(v.day, g)] = [[encI v.day, encI g]] := rfl
 rw [hob] at h
 refine pure_of (fn := Tryz.f70) [.tmp 4] ⟨Tryz.func70, rfl, by kernel_rfl⟩ (by kernel_rfl) (by kernel_rfl) (by kernel_rfl) fun x hx hσ => ?_
 (repeat refine awp_seq ?_); refine awp_reg1 (by rw [hx]; kernel_rfl) fun K hK => ?_; simp (maxSteps := 1000000) []; refine hK _ ?_; clear hK K; (first | show AWP _ _ _ _ _ | show ∃ _, _ | skip)
 (repeat refine awp_seq ?_); refine awp_reg1 (by rw [hx]; kernel_rfl) fun K hK => ?_; simp (maxSteps := 1000000) [ty89, ty87, ty53, ty3, keyQ, findC]
 refine callL h (by simp [viewL, mapO, viewC, C.isPure, purel]) (.inr rfl) ?_
 simp [ty4]
 refine hK _ ?_; clear hK K; (first | show AWP _ _ _ _ _ | show ∃ _, _ | skip)
 (repeat refine awp_seq ?_); refine awp_ret ?_; refine And.intro (Or.inr rfl) ?_
 simp [retC, resC, viewC, mapO]

/-- Whether a visit is right in no truth. -/
def strW (w : Ws) (i : Nat) : Bool := match w.vs[i]? with
  | some v => !(numsT Tr.area (tiV w v) true).any fun g => canC (co w (gl w)) [(v.day, g)]
  | none => false
def strangeW (w : Ws) : List Int := if openW w true = 0 then fixTo (strW w) w.vs.length else []

theorem strW_at {w : Ws} {i : Nat} (h : i < w.vs.length) : strW w i = !(numsT Tr.area (tiV w w.vs[i]) true).any fun g => canC (co w (gl w)) [(w.vs[i].day, g)] := by
 unfold strW; rw [List.getElem?_eq_getElem h]

theorem gl_find {w : Ws} (h : WsOk w) {i : Nat} (hi : i < w.vs.length) : (gl w).find? (fun p => p.1 == w.vs[i].day) = some (glV w w.vs[i]) := by
 cases hf : (gl w).find? (fun p => p.1 == w.vs[i].day) with
 | none =>
  rw [List.find?_eq_none] at hf
  exact absurd (by simp [glV]) (hf (glV w w.vs[i]) (List.mem_map.2 ⟨_, List.getElem_mem hi, rfl⟩))
 | some p =>
  have hm := List.mem_of_find?_eq_some hf
  have he := List.find?_some hf
  obtain ⟨v, hv, rfl⟩ := List.mem_map.1 hm
  obtain ⟨n, hn, rfl⟩ := List.getElem_of_mem hv
  simp only [glV, beq_iff_eq] at he
  by_cases h1 : n < i
  ·have := h.lt h1 hi; omega
  ·by_cases h2 : i < n
   ·have := h.lt h2 hn; omega
   ·obtain rfl : n = i := by omega
    rfl

theorem gl_findC {w : Ws} (h : WsOk w) {i : Nat} (hi : i < w.vs.length) : ∃ j, findC .int (encI w.vs[i].day) (rowsG (gl w)) 0 = some (some (j, slI (numsT Tr.area (tiV w w.vs[i]) true))) := by
 rcases findF slG w.vs[i].day (gl w) 0 with ⟨j, p, h1, h2⟩ | ⟨h1, _⟩
 ·rw [gl_find h hi] at h1
  cases h1
  exact ⟨j, h2⟩
 ·rw [gl_find h hi] at h1; cases h1

theorem w_strange28 (w : Ws) (hn : WsLen w) : Pure Tryz.prog 28 [encWs w] (.tup [.sl (strangeW w).isEmpty (openW w true != 0) ((strangeW w).map cI), encI (openW w true)]) := by
 by_cases hz : openW w true = 0
 ·obtain ⟨hok, his, hcan⟩ := openW_ok hz
  have hop := open_yes hn hz
  have hnum := hok.num
  have hl6 := hok.len
  have hT : strangeW w = fixTo (strW w) w.vs.length := if_pos hz
  obtain ⟨A, hA⟩ : ∃ A : Nat → List Int, ∀ i, A i = fixTo (strW w) i := ⟨_, fun _ => rfl⟩
  have hA0 : A 0 = [] := hA 0
  have hAl : ∀ i, (A i).length ≤ i := fun i => by rw [hA]; exact fixTo_len _ _
  have hAs : ∀ i : Nat, A (i + 1) = if strW w i then A i ++ [(i : Int)] else A i := fun i => by rw [hA, hA]; rfl
  rw [hT, hz, ← hA]
  clear hA hT
  refine pure_of (fn := Tryz.f28) [.tmp 2, .tmp 3] ⟨Tryz.func28, rfl, by kernel_rfl⟩ (by kernel_rfl) (by kernel_rfl) (by kernel_rfl) fun x hx hσ => ?_
  (repeat refine awp_seq ?_); refine awp_reg1 (by rw [hx]; kernel_rfl) fun K hK => ?_; simp (maxSteps := 1000000) [ty28, ty37, ty29]; refine hK _ ?_; clear hK K; (first | show AWP _ _ _ _ _ | show ∃ _, _ | skip)
  (repeat refine awp_seq ?_); refine awp_reg1 (by rw [hx]; kernel_rfl) fun K hK => ?_; simp (maxSteps := 1000000) [ty28, ty3]
  refine callP (hop) (by first | (simp; done) | (simp [*]; done)) ?_; simp (maxSteps := 1000000) [ty89]
  refine hK _ ?_; clear hK K; (first | show AWP _ _ _ _ _ | show ∃ _, _ | skip)
  (repeat refine awp_seq ?_); refine awp_reg1 (by rw [hx]; kernel_rfl) fun K hK => ?_; simp (maxSteps := 1000000) [ty37]; refine hK _ ?_; clear hK K; (first | show AWP _ _ _ _ _ | show ∃ _, _ | skip)
  (repeat refine awp_seq ?_); refine awp_cond (by simp; rfl) (by rw [hx]; simp) (fun hd => ?_) (fun hd => ?_)
  ·simp at hd
  ·clear hd
   refine awp_skip ?_; (first | show AWP _ _ _ _ _ | show ∃ _, _ | skip)
   (repeat refine awp_seq ?_); refine awp_reg1 (by rw [hx]; kernel_rfl) fun K hK => ?_; simp (maxSteps := 1000000) [ty29]; refine hK _ ?_; clear hK K; (first | show AWP _ _ _ _ _ | show ∃ _, _ | skip)
   (repeat refine awp_seq ?_); refine awp_reg1 (by rw [hx]; kernel_rfl) fun K hK => ?_; simp (maxSteps := 1000000) [ty28, ty26]; refine hK _ ?_; clear hK K; (first | show AWP _ _ _ _ _ | show ∃ _, _ | skip)
   (repeat refine awp_seq ?_); refine awp_block ?_
   refine AWP.weak ?_ (wk_nil 6 6 1 (fu := true) (by simp) (by simp))
   refine awp_loop (fun i : Nat => ⟨ofL [(1, .ptr 1 13 0 0), (4, .ptr 4 15 0 0), (6, .own 6 1 0 (A i).length), (19, sVs w.nl w.fu w.vs), (20, encI w.vs.length), (21, encI i)], stoT [(1, 1, .live (obWs w)), (4, 4, .live (obCd w (gl w) true [])), (6, 6, .live ⟨(A i).isEmpty, false, 1, (A i).map cI⟩)]⟩)
    (fun i => i ≤ w.vs.length) (fun i => w.vs.length - i) 0 (Nat.zero_le _) ?_ ?_
   ·rw [hA0]
    refine wk_shape (shp0 hσ (by simp) (by simp) ?_) ?_
    ·simp [SlotOk] <;> (repeat' (first | (refine RowsOk.same ?_; simp [purel, C.isPure]; done) | (refine rowsCons ?_; simp [mtl, mtc, mT, mH, C.isPure, purel]; done) | (refine rowsCons ?_; simp [mtl, mtc, mT, mH, C.isPure, purel]) | refine And.intro ?_ ?_))
    ·simp [mtc, mtl, mT, C.isPure, purel] <;> (try simp (disch := omega) [wrap_id]) <;> (try omega)
   ·intro i hi
    have hl := hAl i
    have hst := hAs i
    have hwi : IntKind.i64.wrap ((i : Int) + 1) = ((i + 1 : Nat) : Int) := by rw [wrap_id (by omega) (by omega)]; rfl
    generalize hacc : A i = acc at *
    (repeat refine awp_seq ?_); refine awp_reg1 (by rw [hx]; kernel_rfl) fun K hK => ?_; simp (maxSteps := 1000000) [ty3]; refine hK _ ?_; clear hK K; (first | show AWP _ _ _ _ _ | show ∃ _, _ | skip)
    (repeat refine awp_seq ?_); refine awp_cond (by simp; rfl) (by rw [hx]; simp) (fun hc1 => ?_) (fun hc1 => ?_)
    ·simp at hc1
     obtain ⟨j, hfd⟩ := gl_findC hok hc1
     simp only [encI] at hfd
     have hsw := strW_at hc1
     have hln := numsT_len Tr.area (tiV w w.vs[i]) true
     generalize numsT Tr.area (tiV w w.vs[i]) true = U at *
     simp only [slI] at hfd
     have hcl := contains58 U.isEmpty U.isEmpty U 70 [.ip (cCd w (gl w) true []) 0, .ip (cVs w.vs[i]) 0] (fun g => canC (co w (gl w)) [(w.vs[i].day, g)]) (by simp [purel, C.isPure]) (by omega) (fun g _ => str70 w (gl w) true [] w.vs[i] g hnum)
     generalize (U.any fun g => canC (co w (gl w)) [(w.vs[i].day, g)]) = b at *
     rw [hsw] at hst
     refine awp_skip ?_; (first | show AWP _ _ _ _ _ | show ∃ _, _ | skip)
     (repeat refine awp_seq ?_); refine awp_block ?_
     (repeat refine awp_seq ?_); refine awp_reg1 (by rw [hx]; kernel_rfl) fun K hK => ?_; simp (maxSteps := 1000000) [ty26, ty53, ty3, hc1]; refine hK _ ?_; clear hK K; (first | show AWP _ _ _ _ _ | show ∃ _, _ | skip)
     (repeat refine awp_seq ?_); refine awp_reg1 (by rw [hx]; kernel_rfl) fun K hK => ?_; simp (maxSteps := 1000000) [ty81]; refine hK _ ?_; clear hK K; (first | show AWP _ _ _ _ _ | show ∃ _, _ | skip)
     cases b
     ·simp at hst
      (repeat refine awp_seq ?_); refine awp_reg1 (by rw [hx]; kernel_rfl) fun K hK => ?_; simp (maxSteps := 1000000) [ty89, ty85, ty29, ty53, ty3, keyQ, hfd]
      refine callL hcl (by simp [viewL, mapO, viewC, C.isPure, purel]) (.inr rfl) ?_
      simp [ty4]
      refine hK _ ?_; clear hK K; (first | show AWP _ _ _ _ _ | show ∃ _, _ | skip)
      (repeat refine awp_seq ?_); refine awp_cond (by simp; rfl) (by rw [hx]; simp) (fun hd => ?_) (fun hd => ?_)
      ·clear hd
       (repeat refine awp_seq ?_); refine awp_reg1 (by rw [hx]; kernel_rfl) fun K hK => ?_; simp (maxSteps := 1000000) [ty29, ty3]
       refine ⟨by omega, ?_⟩
       refine hK _ ?_; clear hK K; (first | show AWP _ _ _ _ _ | show ∃ _, _ | skip)
       (repeat refine awp_seq ?_); refine awp_reg1 (by rw [hx]; kernel_rfl) fun K hK => ?_; simp (maxSteps := 1000000) [ty3]; refine hK _ ?_; clear hK K; (first | show AWP _ _ _ _ _ | show ∃ _, _ | skip)
       refine ⟨i + 1, by omega, by omega, ?_⟩
       rw [hwi]
       refine wk_shape (T := [(1, 1, .live (obWs w)), (4, 4, .live (obCd w (gl w) true [])), (6, 38, .live ⟨(A (i + 1)).isEmpty, false, 1, (A (i + 1)).map cI⟩)]) (shp0 hσ (by simp) (by simp) ?_) ?_
       ·simp [SlotOk, hst]
        exact ⟨.same (by simp [purel, C.isPure]), .same (by simp [purel, C.isPure]), .same (by simp [purel, C.isPure])⟩
       ·simp [mtc, mtl, mT, C.isPure, purel, hst]
      ·simp at hd
     ·simp at hst
      (repeat refine awp_seq ?_); refine awp_reg1 (by rw [hx]; kernel_rfl) fun K hK => ?_; simp (maxSteps := 1000000) [ty89, ty85, ty29, ty53, ty3, keyQ, hfd]
      refine callL hcl (by simp [viewL, mapO, viewC, C.isPure, purel]) (.inr rfl) ?_
      simp [ty4]
      refine hK _ ?_; clear hK K; (first | show AWP _ _ _ _ _ | show ∃ _, _ | skip)
      (repeat refine awp_seq ?_); refine awp_cond (by simp; rfl) (by rw [hx]; simp) (fun hd => ?_) (fun hd => ?_)
      ·simp at hd
      ·clear hd
       refine awp_skip ?_; (first | show AWP _ _ _ _ _ | show ∃ _, _ | skip)
       (repeat refine awp_seq ?_); refine awp_reg1 (by rw [hx]; kernel_rfl) fun K hK => ?_; simp (maxSteps := 1000000) [ty3]; refine hK _ ?_; clear hK K; (first | show AWP _ _ _ _ _ | show ∃ _, _ | skip)
       refine ⟨i + 1, by omega, by omega, ?_⟩
       rw [hst, hwi]
       refine wk_shape (shp0 hσ (by simp) (by simp) ?_) ?_
       ·simp [SlotOk] <;> (repeat' (first | (refine RowsOk.same ?_; simp [purel, C.isPure]; done) | (refine rowsCons ?_; simp [mtl, mtc, mT, mH, C.isPure, purel]; done) | (refine rowsCons ?_; simp [mtl, mtc, mT, mH, C.isPure, purel]) | refine And.intro ?_ ?_))
       ·simp [mtc, mtl, mT, C.isPure, purel] <;> (try simp (disch := omega) [wrap_id]) <;> (try omega)
    ·simp at hc1
     (repeat refine awp_seq ?_); refine awp_exit ?_; (first | show AWP _ _ _ _ _ | show ∃ _, _ | skip)
     have hiN : i = w.vs.length := by omega
     subst hiN
     rw [hacc]
     (repeat refine awp_seq ?_); refine awp_reg1 (by rw [hx]; kernel_rfl) fun K hK => ?_; simp (maxSteps := 1000000) [ty29, ty37]; refine hK _ ?_; clear hK K; (first | show AWP _ _ _ _ _ | show ∃ _, _ | skip)
     (repeat refine awp_seq ?_); refine awp_ret ?_; refine And.intro (Or.inr rfl) ?_
     simp [retC, resC, viewC, mapO, purel, C.isPure]
 ·have hop := open_no hn hz
  have hT : strangeW w = [] := if_neg hz
  refine pure_of (fn := Tryz.f28) [.tmp 2, .tmp 3] ⟨Tryz.func28, rfl, by kernel_rfl⟩ (by kernel_rfl) (by kernel_rfl) (by kernel_rfl) fun x hx hσ => ?_
  (repeat refine awp_seq ?_); refine awp_reg1 (by rw [hx]; kernel_rfl) fun K hK => ?_; simp (maxSteps := 1000000) [ty28, ty37, ty29]; refine hK _ ?_; clear hK K; (first | show AWP _ _ _ _ _ | show ∃ _, _ | skip)
  (repeat refine awp_seq ?_); refine awp_reg1 (by rw [hx]; kernel_rfl) fun K hK => ?_; simp (maxSteps := 1000000) [ty28, ty3]
  refine callP (hop) (by first | (simp; done) | (simp [*]; done)) ?_; simp (maxSteps := 1000000) [ty89]
  refine hK _ ?_; clear hK K; (first | show AWP _ _ _ _ _ | show ∃ _, _ | skip)
  (repeat refine awp_seq ?_); refine awp_reg1 (by rw [hx]; kernel_rfl) fun K hK => ?_; simp (maxSteps := 1000000) [ty37]; refine hK _ ?_; clear hK K; (first | show AWP _ _ _ _ _ | show ∃ _, _ | skip)
  (repeat refine awp_seq ?_); refine awp_cond (by simp [hz]; rfl) (by rw [hx]; simp) (fun hd => ?_) (fun hd => ?_)
  ·clear hd
   (repeat refine awp_seq ?_); refine awp_reg1 (by rw [hx]; kernel_rfl) fun K hK => ?_; simp (maxSteps := 1000000) [ty37, ty29]; refine hK _ ?_; clear hK K; (first | show AWP _ _ _ _ _ | show ∃ _, _ | skip)
   (repeat refine awp_seq ?_); refine awp_ret ?_; refine And.intro (Or.inr rfl) ?_
   simp [retC, resC, viewC, mapO, hT, hz]
  ·simp [hz] at hd

set_option maxHeartbeats 16000000
set_option maxRecDepth 20000

-- THE THEOREM OF EACH TRUTH


theorem strange_few {w : Ws} (hok : WsOk w) {p : Nat → Int} (hp : Tru (co w (gl w)) p) : (fixTo (strW w) w.vs.length).length ≤ wrL (gl w) p := by
 have hl := hok.last
 have key : ∀ i, i ≤ w.vs.length → (fixTo (strW w) i).length ≤ (w.vs.take i).countP fun v => !decide (p v.day.toNat ∈ numsT Tr.area (tiV w v) true) := by
  intro i
  induction i with
  | zero => intro _; simp
  | succ i ih =>
   intro hi
   have h1 := ih (by omega)
   have h2 := count_step (fun v => !decide (p v.day.toNat ∈ numsT Tr.area (tiV w v) true)) (show i < w.vs.length by omega)
   rw [h2]
   simp only [fixTo]
   cases hs : strW w i
   ·simp only [Bool.false_eq_true, if_false]; omega
   ·have hb : (!decide (p w.vs[i].day.toNat ∈ numsT Tr.area (tiV w w.vs[i]) true)) = true := by
     rw [Bool.not_eq_true', decide_eq_false_iff_not]
     intro hm
     have hd := hok.day i (by omega)
     rw [strW_at (by omega), Bool.not_eq_true', Bool.eq_false_iff] at hs
     refine hs (List.any_eq_true.2 ⟨_, hm, ?_⟩)
     have he : ((w.vs[i].day.toNat : Nat) : Int) = w.vs[i].day := by omega
     have := (can_one (co w (gl w)) w.vs[i].day.toNat (p w.vs[i].day.toNat) (by simp only; omega)).2 ⟨p, hp, rfl⟩
     rw [he] at this
     exact this
    simp only [hb, if_true, List.length_append, List.length_singleton]
    omega
 have h := key w.vs.length (Nat.le_refl _)
 rw [List.take_length] at h
 rw [wrL_gl]
 exact h

set_option maxHeartbeats 8000000

set_option maxHeartbeats 8000000

-- a copy of an instrument

def copyV (v : Vs) : Vs := ⟨v.day, v.ts.isEmpty, false, v.ts.map copyY⟩
def copyW (w : Ws) : Ws := { w with nl := w.vs.isEmpty, fu := false, vs := w.vs.map copyV }

@[simp] abbrev cWo (w : Ws) (c : C) : List C := [encI w.w.full, encI w.w.read, encI w.w.slip, encI w.w.skew, encI w.w.circle, encI w.w.glow, encI w.w.ghigh, encI w.w.wrong, encI w.gain, encI w.last, encI w.drop, c, encI w.wrong]
@[simp] abbrev zWs : List C := [encI 0, encI 0, encI 0, encI 0, encI 0, encI 0, encI 0, encI 0, encI 0, encI 0, encI 0, .sl true true [], encI 0]

theorem q_copy23 (w : Ws) (hn : WsLen w) : Pure Tryz.prog 23 [encWs w] (encWs (copyW w)) := by
 have hlt := hn.vs
 obtain ⟨U, hU⟩ : ∃ U : Nat → List Vs, ∀ i, U i = (w.vs.take i).map copyV := ⟨_, fun _ => rfl⟩
 have hU0 : U 0 = [] := by rw [hU]; rfl
 have hUl : ∀ i, i ≤ w.vs.length → (U i).length = i := fun i hi => by rw [hU]; simp; omega
 have hUs : ∀ i (hi : i < w.vs.length), U (i + 1) = U i ++ [copyV w.vs[i]] := fun i hi => by rw [hU, hU, List.take_succ_eq_append_getElem hi, List.map_append]; rfl
 have hUn : w.vs.map copyV = U w.vs.length := by rw [hU, List.take_length]
 unfold copyW
 rw [hUn]
 clear hUn hU
 refine pure_of (fn := Tryz.f23) [.cell 2 28] ⟨Tryz.func23, rfl, by kernel_rfl⟩ (by kernel_rfl) (by kernel_rfl) (by kernel_rfl) fun x hx hσ => ?_
 (repeat refine awp_seq ?_); refine awp_reg1 (by rw [hx]; kernel_rfl) fun K hK => ?_; simp (maxSteps := 1000000) [ty28]; refine hK _ ?_; clear hK K; (first | show AWP _ _ _ _ _ | show ∃ _, _ | skip)
 (repeat refine awp_seq ?_); refine awp_reg1 (by rw [hx]; kernel_rfl) fun K hK => ?_; simp (maxSteps := 1000000) [ty28]; refine hK _ ?_; clear hK K; (first | show AWP _ _ _ _ _ | show ∃ _, _ | skip)
 (repeat refine awp_seq ?_); refine awp_reg1 (by rw [hx]; kernel_rfl) fun K hK => ?_; simp (maxSteps := 1000000) [ty28, ty26]; refine hK _ ?_; clear hK K; (first | show AWP _ _ _ _ _ | show ∃ _, _ | skip)
 (repeat refine awp_seq ?_); refine awp_reg1 (by rw [hx]; kernel_rfl) fun K hK => ?_; simp (maxSteps := 1000000) [ty3]; refine hK _ ?_; clear hK K; (first | show AWP _ _ _ _ _ | show ∃ _, _ | skip)
 (repeat refine awp_seq ?_); refine awp_block ?_
 refine AWP.weak ?_ (wk_nilCell 3 0 11 1000 2 (o := ⟨false, false, 13, [cWo w (.sl true true [])]⟩) (row := cWo w (.sl true true [])) (fu := true) (by simp) rfl rfl rfl (by simp) (by decide))
 refine awp_loop (fun i : Nat => ⟨ofL [(1, .ptr 1 13 0 0), (2, .ptr 2 13 0 0), (3, .ptr 3 13 0 0), (4, encI i)],
   stoT [(1, 1, .live (obWs w)), (2, 2, .live ⟨false, false, 13, [zWs]⟩), (3, 3, .live ⟨false, false, 13, [cWo w (.own 1000 2 0 i)]⟩), (1000, 1000, .live ⟨(U i).isEmpty, false, 2, (U i).map cVs⟩)]⟩)
  (fun i => i ≤ w.vs.length) (fun i => w.vs.length - i) 0 (Nat.zero_le _) ?_ ?_
 ·refine wk_shape (shp0 hσ (by simp) (by simp) ?_) ?_
  ·simp [SlotOk, hU0] <;> (repeat' (first | (refine RowsOk.same ?_; simp [purel, C.isPure]; done) | (refine rowsCons ?_; simp [mtl, mtc, mT, mH, C.isPure, purel]; done) | (refine rowsCons ?_; simp [mtl, mtc, mT, mH, C.isPure, purel]) | refine And.intro ?_ ?_))
  ·simp [mtc, mtl, mT, C.isPure, purel, hU0] <;> (try simp (disch := omega) [wrap_id]) <;> (try omega)
 ·intro i hi
  have hUi := hUl i hi
  (repeat refine awp_seq ?_); refine awp_reg1 (by rw [hx]; kernel_rfl) fun K hK => ?_; simp (maxSteps := 1000000) [ty28, ty26, ty3]; refine hK _ ?_; clear hK K; (first | show AWP _ _ _ _ _ | show ∃ _, _ | skip)
  (repeat refine awp_seq ?_); refine awp_cond (by simp; rfl) (by rw [hx]; simp) (fun hc => ?_) (fun hc => ?_)
  ·simp at hc
   refine awp_skip ?_; (first | show AWP _ _ _ _ _ | show ∃ _, _ | skip)
   (repeat refine awp_seq ?_); refine awp_block ?_
   have hst := hUs i hc
   have hln := hn.l _ (List.getElem_mem hc)
   have hcp := q_copy10 (tiV w w.vs[i]) hln
   simp only [copyT] at hcp
   have hcv : copyV w.vs[i] = ⟨w.vs[i].day, w.vs[i].ts.isEmpty, false, w.vs[i].ts.map copyY⟩ := rfl
   rw [hcv] at hst
   generalize hV : U i = V at *
   have hwi : IntKind.i64.wrap ((i : Int) + 1) = ((i + 1 : Nat) : Int) := by rw [wrap_id (by omega) (by omega)]; rfl
   generalize w.vs[i].ts.map copyY = tc at *
   (repeat refine awp_seq ?_); refine awp_drw3 [] [0, 1, 2, 3, 4, 5, 6, 7, 8, 9, 10, 11, 12, 13, 14, 15, 16, 17, 18, 19, 20, 21, 22] (by rw [hx]; kernel_rfl) (by kernel_rfl) (by kernel_rfl) (by kernel_rfl) fun K hK => ?_; simp (maxSteps := 1000000) [ty28, ty26, ty3, ty53, ty51, ty62, hc]
   refine callPD (q_trialOf27 w w.vs[i].nl w.vs[i].fu w.vs[i].ts) (by first | (simp; done) | (simp [*]; done)) (by simp) ?_; simp (maxSteps := 1000000) [ty62]
   refine callPD (hcp) (by first | (simp; done) | (simp [*]; done)) (by simp) ?_; simp (maxSteps := 1000000) [ty28, ty26, ty3, ty53, ty51, ty62, hc, hUi]
   refine ⟨by omega, ?_⟩
   refine hK _ ?_; clear hK K; (first | show AWP _ _ _ _ _ | show ∃ _, _ | skip)
   (repeat refine awp_seq ?_); refine awp_reg1 (by rw [hx]; kernel_rfl) fun K hK => ?_; simp (maxSteps := 1000000) [ty3]; refine hK _ ?_; clear hK K; (first | show AWP _ _ _ _ _ | show ∃ _, _ | skip)
   refine ⟨i + 1, by omega, by omega, ?_⟩
   rw [hst, hwi]
   refine wk_shape2 [(1, 1, .live (obWs w)), (2, 2, .live ⟨false, false, 13, [zWs]⟩), (3, 3, .live ⟨false, false, 13, [cWo w (.own 1000 2 0 (i + 1))]⟩), (1000, 34, .live ⟨(V ++ [(⟨w.vs[i].day, w.vs[i].ts.isEmpty, false, tc⟩ : Vs)]).isEmpty, false, 2, (V ++ [(⟨w.vs[i].day, w.vs[i].ts.isEmpty, false, tc⟩ : Vs)]).map cVs⟩)] (by first | rfl | (simp only [if_pos, if_true]; rfl)) (shp0 hσ (by simp) (by simp) ?_) ?_
   ·simp [SlotOk] <;> (repeat' (first | (refine RowsOk.same ?_; simp [purel, C.isPure]; done) | (refine rowsCons ?_; simp [mtl, mtc, mT, mH, C.isPure, purel]; done) | (refine rowsCons ?_; simp [mtl, mtc, mT, mH, C.isPure, purel]) | refine And.intro ?_ ?_))
   ·simp [mtc, mtl, mT, C.isPure, purel] <;> (try simp (disch := omega) [wrap_id]) <;> (try omega)
  ·simp at hc
   (repeat refine awp_seq ?_); refine awp_exit ?_; (first | show AWP _ _ _ _ _ | show ∃ _, _ | skip)
   have hin : i = w.vs.length := by omega
   rw [hin] at hUi ⊢
   have hem : (U w.vs.length).isEmpty = w.vs.isEmpty := by
    cases h1 : U w.vs.length <;> cases h2 : w.vs <;> rw [h1, h2] at hUi <;> simp at hUi <;> rfl
   generalize U w.vs.length = V at *
   rw [hem]
   refine AWP.weak ?_ (wk_frzCell 1000 3 0 11 (o := ⟨w.vs.isEmpty, false, 2, V.map cVs⟩) (oq := ⟨false, false, 13, [cWo w (.own 1000 2 0 w.vs.length)]⟩) (row := cWo w (.own 1000 2 0 w.vs.length)) (c := .own 1000 2 0 w.vs.length) (c' := .sl w.vs.isEmpty false (V.map cVs)) (by simp) (all_purel_map fun _ => rfl) (by simp) (by decide) rfl rfl rfl (fz_own rfl (by simp [hUi]) (by simp)) rfl)
   (repeat refine awp_seq ?_); refine awp_reg1 (by rw [hx]; kernel_rfl) fun K hK => ?_; simp (maxSteps := 1000000) [ty28]; refine hK _ ?_; clear hK K; (first | show AWP _ _ _ _ _ | show ∃ _, _ | skip)
   (repeat refine awp_seq ?_); refine awp_ret ?_; refine And.intro (Or.inr rfl) ?_
   simp [retC, resC, viewC, mapO, ty28]

set_option maxHeartbeats 8000000

set_option maxHeartbeats 8000000

theorem sub_len {α : Type} : ∀ (A B : List α), A.Nodup → (∀ a ∈ A, a ∈ B) → A.length ≤ B.length
 | [], _, _, _ => Nat.zero_le _
 | a :: A, B, hn, hs => by
  have h1 := List.nodup_cons.1 hn
  obtain ⟨P, Q, rfl⟩ := List.append_of_mem (hs a (by simp))
  have ih := sub_len A (P ++ Q) h1.2 fun b hb => by
   have hne : b ≠ a := fun e => h1.1 (e ▸ hb)
   have := hs b (by simp [hb])
   simp [hne] at this
   simp [this]
  simp only [List.length_append, List.length_cons] at ih ⊢
  omega

set_option maxHeartbeats 16000000
set_option maxRecDepth 20000

-- THE THEOREM OF WHAT A VISIT TELLS


/-- The instrument without visits. -/
def bareW (w : Ws) : Ws := { w with nl := true, fu := true, vs := [] }

theorem bare_check {w : Ws} (h : WsOk w) : checkW (bareW w) = 0 :=
 checkW_ok.2 ⟨h.last, h.drop, h.wrong, by simp [bareW], fun i hi => by simp [bareW] at hi, fun i hi => by simp [bareW] at hi, fun v hv => by simp [bareW] at hv, h.base⟩

theorem bare_tru {w : Ws} (h : WsOk w) {g : Int} (hg : -w.gain ≤ g ∧ g ≤ w.gain) : Tru (co (bareW w) (gl (bareW w))) (fun _ => g) := by
 have hgl : gl (bareW w) = [] := rfl
 have hd := h.drop
 have hw := h.wrong
 refine ⟨⟨fun i _ => by simp only [alC, knB, List.find?_nil, Bool.and_true, Bool.and_eq_true, decide_eq_true_eq]; exact hg, fun i _ => by show 0 ≤ g - g ∧ g - g ≤ w.drop; omega⟩, ?_⟩
 have : ∀ d, wrs [] (fun _ => g) d = 0 := fun d => by
  induction d with
  | zero => rfl
  | succ d ih => simp only [wrs, ih]; rfl
 rw [hgl, this]
 exact hw.1

theorem bare_can {w : Ws} (h : WsOk w) : canC (co (bareW w) (gl (bareW w))) [] = true :=
 (can_nil _).2 ⟨_, bare_tru h (g := 0) (by have := h.num.gain; omega)⟩

theorem bare_on {w : Ws} (h : WsOk w) {d : Nat} (hd : (d : Int) ≤ w.last) : onC (co (bareW w) (gl (bareW w))) (d : Nat) [] = seqI (-w.gain) w.gain := by
 unfold onC
 refine List.filter_eq_self.2 fun g hg => ?_
 have hm : g ∈ onC (co (bareW w) (gl (bareW w))) (d : Nat) [] := (on_nil _ d (by show d ≤ w.last.toNat; omega) g).2 ⟨_, bare_tru h (mem_seqI.1 hg), rfl⟩
 exact (List.mem_filter.1 hm).2

theorem seqI_span {g : Int} (hg : 0 ≤ g) : spanL (seqI (-g) g) = 2 * g ∧ (seqI (-g) g).length = (2 * g + 1).toNat ∧ ∀ i (h : i < (seqI (-g) g).length), (seqI (-g) g)[i] = (i : Int) - g := by
 have hl : (seqI (-g) g).length = (2 * g + 1).toNat := by unfold seqI; rw [seqN_len]; omega
 have hget : ∀ i (h : i < (seqI (-g) g).length), (seqI (-g) g)[i] = (i : Int) - g := fun i h => by
  unfold seqI seqN; simp; omega
 refine ⟨?_, hl, hget⟩
 have hp : 0 < (seqI (-g) g).length := by omega
 rw [← spanL_at hp, hget _ (by omega), hget _ hp]
 omega

theorem bare_doubt {w : Ws} (h : WsOk w) : doubtC (co (bareW w) (gl (bareW w))) [] = 2 * w.gain * (w.last + 1) := by
 have hg := h.num.gain
 have hl := h.last
 have key : ∀ n : Nat, (n : Int) ≤ w.last + 1 → doubtTo (co (bareW w) (gl (bareW w))) [] n = 2 * w.gain * n := by
  intro n
  induction n with
  | zero => intro _; simp [doubtTo]
  | succ n ih =>
   intro hn
   simp only [doubtTo]
   rw [ih (by omega), bare_on h (by omega), (seqI_span hg.1).1, show ((n + 1 : Nat) : Int) = (n : Int) + 1 by omega, Int.mul_add, Int.mul_one]
 have hN : (((w.last + 1).toNat : Nat) : Int) = w.last + 1 := by omega
 have := key (w.last + 1).toNat (by omega)
 rw [hN] at this
 exact this

theorem nums_len {w : Ws} {v : Vs} (h : checkT (tiV w v) = 0) : (numsT Tr.area (tiV w v) true).length ≤ 101 := by
 have hok := checkT_ok.1 h
 have hs : (seqI (-50) 50).length = 101 := by decide
 rw [← hs]
 refine sub_len _ _ ?_ fun z hz => ?_
 ·unfold numsT
  split
  ·exact kindsL_nodup _ _
  ·exact List.nodup_nil
 ·obtain ⟨_, k, hk, rfl⟩ := numsT_mem hz
  exact mem_seqI.2 (every_k hok (List.mem_filter.1 hk).1).1

theorem openT_known {t : Ti} (h : checkT t = 0) : openT t true = 0 ∨ openT t true = 3 := by
 unfold openT
 rw [if_neg (by simpa using h), if_neg (by simp)]
 split
 ·exact .inr rfl
 ·exact .inl rfl

/-- Where no visit can be wrong, all are right. -/
theorem all_right {w : Ws} (hok : WsOk w) (hw : w.wrong = 0) {p : Nat → Int} (hp : Tru (co w (gl w)) p) {i : Nat} (hi : i < w.vs.length) : p w.vs[i].day.toNat ∈ numsT Tr.area (tiV w w.vs[i]) true := by
  obtain ⟨g1, g2⟩ := glOk hok
  have hla := hok.last
  have h1 := wrL_wrs (p := p) (d := w.last.toNat) g1 fun q hq => by have := g2 q hq; omega
  have h2 := hp.2
  simp only at h2
  have h3 : wrL (gl w) p = 0 := by omega
  rw [wrL_gl, List.countP_eq_zero] at h3
  have := h3 _ (List.getElem_mem hi)
  simpa using this

theorem visit_sub {w : Ws} (hok : WsOk w) (hw : w.wrong = 0) {i : Nat} (hi : i < w.vs.length) : ∀ z ∈ onC (co w (gl w)) w.vs[i].day [], z ∈ numsT Tr.area (tiV w w.vs[i]) true := by
 intro z hz
 have hd := hok.day i hi
 have he : ((w.vs[i].day.toNat : Nat) : Int) = w.vs[i].day := by omega
 rw [← he] at hz
 obtain ⟨p, hp, rfl⟩ := (on_nil _ w.vs[i].day.toNat (by simp only; omega) z).1 hz
 exact all_right hok hw hp hi

theorem no_strange {w : Ws} (hok : WsOk w) (hw : w.wrong = 0) (hcan : canC (co w (gl w)) [] = true) : fixTo (strW w) w.vs.length = [] := by
 obtain ⟨p, hp⟩ := (can_nil _).1 hcan
 have h := strange_few hok hp
 have hz : wrL (gl w) p = 0 := by
  rw [wrL_gl, List.countP_eq_zero]
  intro v hv
  obtain ⟨i, hi, rfl⟩ := List.getElem_of_mem hv
  have := all_right hok hw hp hi
  simpa using this
 exact List.eq_nil_of_length_eq_zero (by omega)

end Go.Proofs.YtknoachjpoibaaaGreat

