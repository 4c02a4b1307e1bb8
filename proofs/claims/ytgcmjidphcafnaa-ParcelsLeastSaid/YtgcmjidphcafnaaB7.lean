/- The machine of abstract values and the contracts of the functions of the program, which the statements of this seat share. No condition. -/
import Derived.Test.YtgcmjidphcafnaaB6
import Derived.ProofKit
import Derived.OpenShut
import Derived.ChangeStays
import Derived.Test.YtgcmjidphcafnaaRows
import Derived.WalkKit

set_option linter.unusedSimpArgs false
set_option linter.unusedVariables false
set_option linter.constructorNameAsVariable false

/- What comes in, as data; and how a law's statement follows from a contract of data. No condition. -/
namespace Go.Abs
open Go.ChangeShapes Go.WideShapes Go.ChangeAt Go.RowKit

/-- The make of a cell. -/
inductive Sh where
  | int (k : IntKind)
  | bool
  | str
  | sl (l : List Sh)

mutual
/-- A value of a make. -/
def Fit : Sh → C → Prop
  | .int k, c => ∃ n, c = .int k n ∧ (Lit.int k n).wf = true
  | .bool, c => ∃ b, c = .bool b
  | .str, c => ∃ s : ByteArray, c = .str s ∧ s.size ≤ maxLen
  | .sl l, c => ∃ nl rows, c = .sl nl false rows ∧ (nl = true → rows = []) ∧ rows.length ≤ maxLen ∧ ∀ row ∈ rows, FitL l row
def FitL : List Sh → List C → Prop
  | [], m => m = []
  | s :: l, m => ∃ c r, m = c :: r ∧ Fit s c ∧ FitL l r
end

def shFs (P : Program) (g : TypeId → Option (List Sh)) : Nat → List Field → Option (List Sh)
  | _, [] => some []
  | o, f :: fs => match g f.type, shFs P g (o + P.cellsOf f.type) fs with
    | some l, some m => if f.offset = o ∧ l.length = P.cellsOf f.type then some (l ++ m) else none
    | _, _ => none

/-- The makes of a type's cells. -/
def shT (P : Program) : Nat → TypeId → Option (List Sh)
  | 0, _ => none
  | n + 1, t => match P.underlying t with
    | some (.int k) => some [.int k]
    | some .bool => some [.bool]
    | some .string => some [.str]
    | some (.slice e) => match shT P n e with
      | some l => if l.length = P.cellsOf e ∧ 0 < l.length then some [.sl l] else none
      | none => none
    | some (.struct fs) => match shFs P (shT P n) 0 fs.toList with
      | some l => if l.length = P.cellsOf t then some l else none
      | none => none
    | _ => none

theorem FitL.len : ∀ {l : List Sh} {m : List C}, FitL l m → m.length = l.length
  | [], m, h => by simp only [FitL] at h; subst h; rfl
  | s :: l, m, h => by
    simp only [FitL] at h
    obtain ⟨c, r, rfl, _, h⟩ := h
    simp [FitL.len h]

theorem FitL.append : ∀ {l l' : List Sh} {m m' : List C}, FitL l m → FitL l' m' → FitL (l ++ l') (m ++ m')
  | [], l', m, m', h, h' => by simp only [FitL] at h; subst h; exact h'
  | s :: l, l', m, m', h, h' => by
    simp only [FitL] at h
    obtain ⟨c, r, rfl, h1, h2⟩ := h
    simp only [List.cons_append, FitL]
    exact ⟨c, r ++ m', rfl, h1, h2.append h'⟩

def anyG : Nat → Prop := fun _ => True

/-- Cells that stand for values. -/
def OpL (W : World) (m : List C) (cs : List Value) : Prop := m.length = cs.length ∧ ∀ (i : Nat) (c : C), m[i]? = some c → PR anyG W c (cs[i]?.getD undef) ∧ c.cell = true

theorem exists_list {α : Type} {Q : Nat → α → Prop} : ∀ {n : Nat}, (∀ i, i < n → ∃ x, Q i x) → ∃ l : List α, l.length = n ∧ ∀ i x, l[i]? = some x → Q i x
  | 0, _ => ⟨[], rfl, by simp⟩
  | n + 1, h => by
    obtain ⟨l, h1, h2⟩ := exists_list (n := n) fun i hi => h i (by omega)
    obtain ⟨x, hx⟩ := h n (by omega)
    refine ⟨l ++ [x], by simp [h1], fun i y hy => ?_⟩
    rcases Nat.lt_or_ge i l.length with hlt | hge
    · rw [List.getElem?_append_left hlt] at hy
      exact h2 i y hy
    · rw [List.getElem?_append_right hge] at hy
      have : i = n := by
        have := (List.getElem?_eq_some_iff.1 hy).1
        simp at this; omega
      subst this
      rw [h1, Nat.sub_self] at hy
      simp at hy
      subst hy; exact hx

section
variable {H : Type} {enc : TypeId × Value → H} {P : Program} {W : World}

theorem spot_of {a : Addr} {q n : Nat} {v : Value} (h : W.cell? ((a.add q).add n) = some v) (h0 : q = 0 ∧ n = 0) : a.spot = none := by
  obtain ⟨rfl, rfl⟩ := h0
  simp only [Addr.add, if_true] at h
  unfold World.cell? at h
  split at h
  · split at h
    · simp at h
    · rename_i hs
      cases hsp : a.spot with
      | none => rfl
      | some z => simp [hsp] at hs
  · simp at h

theorem addr_full {a : Addr} (h : a.spot = none) (q n : Nat) : (a.add q).add n = ⟨a.block, a.off + (q + n), none⟩ := by
  obtain ⟨b, o, s⟩ := a
  simp only at h
  subst h
  rw [addr_add, addr_add, Nat.add_assoc]

theorem cells_at {a : Addr} {n : Nat} {cs : List Value} (h : W.cells? 0 a n = some cs) : cs.length = n ∧ ∀ i, i < n → W.cell? (a.add i) = cs[i]? := by
  unfold World.cells? at h
  rw [if_pos (Nat.zero_le _)] at h
  refine ⟨by simpa using mapM_some_length h, fun i hi => ?_⟩
  exact mapM_some_get h i i (by rw [List.getElem?_range hi])

theorem block_lt {a : Addr} {v : Value} (h : W.cell? a = some v) : a.block < W.heap.size := by
  unfold World.cell? at h
  split at h
  · rename_i hh; exact (Array.getElem?_eq_some_iff.1 hh).1
  · simp at h

/-- WHAT IS READ IS DATA. -/
theorem open_sound : ∀ (n : Nat) {fuel : Nat} {t : TypeId} {cs : List Value} {x : DataW H × List MemPlace} {shs : List Sh}, shT P n t = some shs → DataW.trod enc P W 0 (fun _ => true) true fuel t cs = some x →
    ∃ m, FitL shs m ∧ OpL W m cs
  | 0, _, _, _, _, _, h, _ => by simp [shT] at h
  | n + 1, fuel, t, cs, x, shs, h, ht => by
    unfold shT at h
    split at h
    · rename_i k hk
      simp only [Option.some.injEq] at h
      subst h
      obtain ⟨z, rfl, _, hw⟩ := DataW.trod_int hk ht
      refine ⟨[.int k z], ⟨_, _, rfl, ⟨z, rfl, hw⟩, rfl⟩, rfl, fun i c hi => ?_⟩
      cases i with
      | zero => simp at hi; subst hi; exact ⟨.int _ _, rfl⟩
      | succ i => simp at hi
    · rename_i hk
      simp only [Option.some.injEq] at h
      subst h
      obtain ⟨z, rfl, _⟩ := DataW.trod_bool hk ht
      refine ⟨[.bool z], ⟨_, _, rfl, ⟨z, rfl⟩, rfl⟩, rfl, fun i c hi => ?_⟩
      cases i with
      | zero => simp at hi; subst hi; exact ⟨.bool _, rfl⟩
      | succ i => simp at hi
    · rename_i hk
      simp only [Option.some.injEq] at h
      subst h
      obtain ⟨z, rfl, _, hz⟩ := DataW.trod_string hk ht
      refine ⟨[.str z], ⟨_, _, rfl, ⟨z, rfl, hz⟩, rfl⟩, rfl, fun i c hi => ?_⟩
      cases i with
      | zero => simp at hi; subst hi; exact ⟨.str _, rfl⟩
      | succ i => simp at hi
    · rename_i e hk
      split at h
      · rename_i l hl
        split at h
        · rename_i hc
          obtain ⟨hc1, hc2⟩ := hc
          simp only [Option.some.injEq] at h
          subst h
          have one : ∀ {nl : Bool} {rows : List (List C)} {v : Value}, cs = [v] → (nl = true → rows = []) → rows.length ≤ maxLen → (∀ row ∈ rows, FitL l row) → PR anyG W (.sl nl false rows) v → ∃ m, FitL [.sl l] m ∧ OpL W m cs := by
            intro nl rows v hcs h1 h2 h3 h4
            subst hcs
            refine ⟨[.sl nl false rows], ⟨_, _, rfl, ⟨nl, rows, rfl, h1, h2, h3⟩, rfl⟩, rfl, fun i c hi => ?_⟩
            cases i with
            | zero => simp at hi; subst hi; exact ⟨h4, rfl⟩
            | succ i => simp at hi
          rcases DataW.trod_slice hk ht with ⟨rfl, _⟩ | ⟨a, len, cap, elems, rest, q, _, rfl, _, hb, hlc, hcm, hel, hat, hsp, _⟩
          · exact one rfl (fun _ => rfl) (by simp) (by simp) (.slnil _)
          · obtain ⟨hrl, hrat⟩ := hsp rfl
            by_cases hcap : cap = 0
            · have : len = 0 := by omega
              subst this
              subst hcap
              exact one (nl := false) (rows := []) rfl (by simp) (by simp) (by simp) (.slemp _ _)
            · have hspot : a.spot = none ∧ a.block < W.heap.size := by
                by_cases h0 : len = 0
                · have := hrat 0 (by omega)
                  rw [List.getElem?_eq_getElem (by omega), Option.bind_eq_some_iff] at this
                  obtain ⟨cs0, g1, _⟩ := this
                  obtain ⟨g2, g3⟩ := cells_at g1
                  have g4 := g3 0 (by omega)
                  rw [List.getElem?_eq_getElem (by omega), h0] at g4
                  have hs := spot_of g4 ⟨by simp, rfl⟩
                  refine ⟨hs, ?_⟩
                  have := block_lt g4
                  rw [addr_full hs] at this
                  exact this
                · have := hat 0 (by omega)
                  rw [List.getElem?_eq_getElem (by omega), Option.bind_eq_some_iff] at this
                  obtain ⟨cs0, g1, _⟩ := this
                  obtain ⟨g2, g3⟩ := cells_at g1
                  have g4 := g3 0 (by omega)
                  rw [List.getElem?_eq_getElem (by omega)] at g4
                  have hs := spot_of g4 ⟨by simp, rfl⟩
                  refine ⟨hs, ?_⟩
                  have := block_lt g4
                  rw [addr_full hs] at this
                  exact this
              obtain ⟨hs, hlt⟩ := hspot
              have hrow : ∀ i, i < len → ∃ row, FitL l row ∧ ∀ (j : Nat) (c : C), row[j]? = some c → ∃ v, W.cell? ⟨a.block, a.off + (i * P.cellsOf e + j), none⟩ = some v ∧ PR anyG W c v ∧ c.cell = true := by
                intro i hi
                have h1 := hat i hi
                rw [List.getElem?_eq_getElem (by omega), Option.bind_eq_some_iff] at h1
                obtain ⟨cs0, g1, g2⟩ := h1
                obtain ⟨g3, g4⟩ := cells_at g1
                obtain ⟨row, r1, r2, r3⟩ := open_sound n hl g2
                refine ⟨row, r1, fun j c hj => ?_⟩
                have hjl : j < row.length := (List.getElem?_eq_some_iff.1 hj).1
                have g5 := g4 j (by omega)
                rw [addr_full hs] at g5
                obtain ⟨r4, r5⟩ := r3 j c hj
                rw [List.getElem?_eq_getElem (by omega)] at g5 r4
                exact ⟨_, g5, r4, r5⟩
              obtain ⟨rows, w1, w2⟩ := exists_list hrow
              refine one (nl := false) (rows := rows) rfl (by simp) (by omega) (fun row hr => ?_) ?_
              · obtain ⟨i, hi, rfl⟩ := List.getElem_of_mem hr
                exact (w2 i _ (List.getElem?_eq_getElem hi)).1
              · obtain ⟨b, o, s⟩ := a
                simp only at hs hlt
                subst hs
                refine .sl (sz := P.cellsOf e) (fun i j => (W.cell? ⟨b, o + (i * P.cellsOf e + j), none⟩).getD undef) trivial hlt w1.symm (by simp) (by omega) ?_ ?_ ?_ ?_
                · intro i row hi
                  rw [(w2 i row hi).1.len, hc1]
                · intro i row hi j c hj
                  obtain ⟨v, q1, q2, q3⟩ := (w2 i row hi).2 j c hj
                  simp only at q1
                  rw [q1]; rfl
                · intro i row hi j c hj
                  obtain ⟨v, q1, q2, q3⟩ := (w2 i row hi).2 j c hj
                  exact q3
                · intro i row hi j c hj
                  obtain ⟨v, q1, q2, q3⟩ := (w2 i row hi).2 j c hj
                  simp only at q1
                  rw [q1]; exact q2
        · simp at h
      · simp at h
    · rename_i fs hk
      split at h
      · rename_i l hl
        split at h
        · rename_i hc
          simp only [Option.some.injEq] at h
          subst h
          obtain ⟨xs, q, _, _, hlen, hxl, hf⟩ := DataW.trod_struct hk ht
          have go : ∀ (fl : List Field) (o : Nat) (shs : List Sh), shFs P (shT P n) o fl = some shs → (∀ f ∈ fl, ∃ y, DataW.trod enc P W 0 (fun _ => true) true q f.type ((cs.drop f.offset).take (P.cellsOf f.type)) = some y) → o + shs.length ≤ cs.length →
              ∃ m, FitL shs m ∧ ∀ (i : Nat) (c : C), m[i]? = some c → PR anyG W c (cs[o + i]?.getD undef) ∧ c.cell = true := by
            intro fl
            induction fl with
            | nil =>
              intro o shs h1 _ _
              simp only [shFs, Option.some.injEq] at h1
              subst h1
              exact ⟨[], rfl, by simp⟩
            | cons f fl ih =>
              intro o shs h1 h2 h3
              unfold shFs at h1
              split at h1
              · rename_i l1 l2 e1 e2
                split at h1
                · rename_i hc2
                  obtain ⟨ho, hl1⟩ := hc2
                  simp only [Option.some.injEq] at h1
                  subst h1
                  simp only [List.length_append] at h3
                  obtain ⟨y, hy⟩ := h2 f (by simp)
                  obtain ⟨m1, p1, p2, p3⟩ := open_sound n e1 hy
                  obtain ⟨m2, p4, p5⟩ := ih (o + P.cellsOf f.type) l2 e2 (fun g hg => h2 g (by simp [hg])) (by omega)
                  have hm1 := p1.len
                  refine ⟨m1 ++ m2, p1.append p4, fun i c hi => ?_⟩
                  rcases Nat.lt_or_ge i m1.length with hlt | hge
                  · rw [List.getElem?_append_left hlt] at hi
                    have := p3 i c hi
                    rw [List.getElem?_take_of_lt (by omega), List.getElem?_drop, ho] at this
                    exact this
                  · rw [List.getElem?_append_right hge] at hi
                    have := p5 _ c hi
                    rw [show o + P.cellsOf f.type + (i - m1.length) = o + i by omega] at this
                    exact this
                · simp at h1
              · simp at h1
          obtain ⟨m, m1, m2⟩ := go fs.toList 0 l hl (fun f hfm => by
            obtain ⟨i, hi, rfl⟩ := List.getElem_of_mem hfm
            have := hf i fs.toList[i] (by simp)
            rw [List.getElem?_eq_getElem (by simp at hi; omega)] at this
            exact ⟨_, this⟩) (by omega)
          exact ⟨m, m1, by rw [m1.len]; omega, fun i c hi => by have := m2 i c hi; rwa [Nat.zero_add] at this⟩
        · simp at h
      · simp at h
    · simp at h

def isAggT (P : Program) (t : TypeId) : Bool :=
  match P.underlying t with
  | some (.struct _) => true
  | _ => false

/-- What the parameters stand for. -/
def ArgsFit (P : Program) : List TypeId → List C → Prop
  | [], cs => cs = []
  | t :: ts, cs => ∃ shs m c r, cs = c :: r ∧ shT P 6 t = some shs ∧ FitL shs m ∧ (if isAggT P t then c = .agg m else m = [c]) ∧ ArgsFit P ts r

theorem open_args : ∀ {ts : List TypeId} {vs : List Value} {ds : List (DataW H)} {ps : List MemPlace}, DataW.TrodAll enc P W 0 (fun _ => true) true ts vs ds ps →
    (∀ (j : Nat) t v, ts[j]? = some t → vs[j]? = some v → ∃ base, Value.okWide P W .any base t v) → (ts.all fun t => (shT P 6 t).isSome) = true →
    ∃ cargs, ArgsFit P ts cargs ∧ cargs.length = vs.length ∧ ∀ (i : Nat) (c : C), cargs[i]? = some c → PR anyG W c (vs[i]?.getD undef)
  | [], [], [], _, _, _, _ => ⟨[], rfl, rfl, by simp⟩
  | t :: ts, v :: vs, d :: ds, ps, h, hv, hs => by
    obtain ⟨p, q, ⟨fuel, h1⟩, h2, _⟩ := h
    simp only [List.all_cons, Bool.and_eq_true] at hs
    obtain ⟨hs1, hs2⟩ := hs
    rw [Option.isSome_iff_exists] at hs1
    obtain ⟨shs, hs1⟩ := hs1
    obtain ⟨m, m1, m2, m3⟩ := open_sound 6 hs1 h1
    obtain ⟨cargs, a1, a2, a3⟩ := open_args h2 (fun j t' v' e1 e2 => hv (j + 1) t' v' (by simpa using e1) (by simpa using e2)) hs2
    obtain ⟨base, hok⟩ := hv 0 t v rfl rfl
    have fin : ∀ c, (if isAggT P t then c = .agg m else m = [c]) → PR anyG W c v → ∃ cargs, ArgsFit P (t :: ts) cargs ∧ cargs.length = (v :: vs).length ∧ ∀ (i : Nat) (c : C), cargs[i]? = some c → PR anyG W c ((v :: vs)[i]?.getD undef) := by
      intro c hc hp
      refine ⟨c :: cargs, ⟨shs, m, c, cargs, rfl, hs1, m1, hc, a1⟩, by simp [a2], fun i c' hi => ?_⟩
      cases i with
      | zero => simp at hi; subst hi; simpa using hp
      | succ i => simp at hi ⊢; exact a3 i c' hi
    by_cases hag : isAggT P t = true
    · have hag0 := hag
      unfold isAggT at hag
      split at hag
      · rename_i fs hfs
        obtain ⟨cs, rfl, hcs⟩ := okWide_struct hfs hok
        refine fin (.agg m) (by rw [if_pos hag0]) (.agg (by rw [m2]; simp [Value.cells]) fun i c hi => ?_)
        have := (m3 i c hi).1
        simpa [Value.cells] using this
      · simp at hag
    · have hag0 := hag
      have hone : ∃ sh, shs = [sh] ∧ oneCell v = true := by
        unfold isAggT at hag
        unfold shT at hs1
        split at hs1
        · rename_i k hk
          obtain ⟨n, rfl⟩ := okWide_int hk hok
          exact ⟨_, (by simpa using hs1.symm), rfl⟩
        · rename_i hk
          obtain ⟨n, rfl⟩ := okWide_bool hk hok
          exact ⟨_, (by simpa using hs1.symm), rfl⟩
        · rename_i hk
          obtain ⟨n, rfl⟩ := okWide_string hk hok
          exact ⟨_, (by simpa using hs1.symm), rfl⟩
        · rename_i e hk
          obtain ⟨a, l, cp, rfl⟩ := okWide_slice hk hok
          split at hs1
          · split at hs1
            · exact ⟨_, (by simpa using hs1.symm), rfl⟩
            · simp at hs1
          · simp at hs1
        · rename_i fs hk
          rw [hk] at hag; simp at hag
        · simp at hs1
      obtain ⟨sh, rfl, hov⟩ := hone
      have hm := m1.len
      have hm1 : m.length = 1 := hm
      obtain ⟨c, rfl⟩ := List.length_eq_one_iff.1 hm1
      refine fin c (by rw [if_neg hag0]) ?_
      have := (m3 0 c rfl).1
      rw [cells_one hov] at this
      simpa using this
  | [], _ :: _, _, _, h, _, _ => h.elim
  | [], [], _ :: _, _, h, _, _ => h.elim
  | _ :: _, [], _, _, h, _, _ => h.elim
  | _ :: _, _ :: _, [], _, h, _, _ => h.elim

/-- No slice of things without size. -/
def noEmptyB (P : Program) : Bool := (List.range P.types.size).all fun t => match P.underlying t with
  | some (.slice e) => decide (0 < P.cellsOf e)
  | _ => true

theorem same_of {W' : World} (g : Grew W W') {p : MemPlace} (h : p.block < W.heap.size) : W.sameAt W' p := by
  cases p with
  | cell b off =>
    show W'.cell? _ = W.cell? _
    unfold World.cell?
    rw [g.heap b h]
  | map b => exact g.heap b h

theorem shut_args {W' : World} (hl : laidOutB P = true) (hm : mapsRowed P = true) (hz : noEmptyB P = true) (g : Grew W W') {sp : Nat → Bool} : ∀ {ts : List TypeId} {vs : List Value} {ds : List (DataW H)} {ps : List MemPlace},
    (ts.all fun t => decide (t < P.types.size)) = true → DataW.TrodAll enc P W 0 (fun _ => true) true ts vs ds ps → (∀ p ∈ ps, p.block < W.heap.size) → (∀ p ∈ ps, sp p.block = true) → DataW.TrodAll enc P W' 0 sp true ts vs ds ps
  | [], [], [], _, _, h, _, _ => h
  | t :: ts, v :: vs, d :: ds, ps, ht, h, hb, hs => by
    obtain ⟨p, q, ⟨fuel, h1⟩, h2, rfl⟩ := h
    simp only [List.all_cons, Bool.and_eq_true, decide_eq_true_eq] at ht
    refine ⟨p, q, ⟨fuel, ?_⟩, shut_args hl hm hz g ht.2 h2 (fun r hr => hb r (by simp [hr])) (fun r hr => hs r (by simp [hr])), rfl⟩
    refine DataW.trod_stays (T := (· < P.types.size)) (kids_rows hl hm) (fun {t e} h3 h4 => ?_) (fun h => by simp at h) ht.1 h1 (fun r hr => same_of g (hb r (by simp; exact .inl hr))) (fun r hr => hs r (by simp; exact .inl hr))
    unfold noEmptyB at hz
    rw [List.all_eq_true] at hz
    have := hz t (by simpa using h3)
    rw [h4] at this
    simpa using this
  | [], _ :: _, _, _, _, h, _, _ => h.elim
  | [], [], _ :: _, _, _, h, _, _ => h.elim
  | _ :: _, [], _, _, _, h, _, _ => h.elim
  | _ :: _, _ :: _, [], _, _, h, _, _ => h.elim

theorem kept_of {W' : World} (g : Grew W W') (may : MemPlace → Prop) : W.keptBut W' may := by
  refine ⟨g.os, g.output, fun i hi => ?_⟩
  rw [g.heap i hi]
  cases h : W.heap[i]? with
  | none => trivial
  | some o => cases o <;> simp

/-- A LAW's STATEMENT, from a contract of data. -/
theorem law_contract {f : FuncId} {fn : Func} {s : ChangeSpec} {tb : TypeId} (hrt : fn.resultTypes = #[tb]) (htb : P.underlying tb = some .bool) (hvars : s.vars = [])
    (hspec : ∀ (ds : List (DataW H)), ds.length = fn.params.toList.length → s.fn H ds = { results := [.lit (.bool true)], args := ds })
    (hl : laidOutB P = true) (hm : mapsRowed P = true) (hz : noEmptyB P = true) (ht : (fn.params.toList.all fun t => decide (t < P.types.size)) = true) (hsh : (fn.params.toList.all fun t => (shT P 6 t).isSome) = true)
    (hcall : ∀ cargs, ArgsFit P fn.params.toList cargs → Pure P f cargs (.bool true))
    (W : World) (base : Nat) (args : Array Value) (ds gs : List (DataW H)) (before : List MemPlace) (hval : ∀ (j : Nat) t v, fn.params[j]? = some t → args[j]? = some v → Value.okWide P W .any base t v)
    (hW : DataW.Whole enc P fn.params.toList s.vars false W args.toList ds gs before) :
    Calls P f args W fun e W' => ∃ v, e = .returned v ∧ s.post enc P fn false true false false W args v W' := by
  have hW' := hW
  obtain ⟨p, q, hA, hV, rfl, hfz, hnd⟩ := hW
  rw [hvars] at hV
  obtain ⟨rfl, rfl⟩ := trodVars_none hV
  obtain ⟨cargs, c1, c2, c3⟩ := open_args hA (fun j t v e1 e2 => ⟨base, hval j t v (by simpa using e1) (by simpa using e2)⟩) hsh
  have hlen : ds.length = fn.params.toList.length := by
    have : ∀ {ts : List TypeId} {vs : List Value} {ds : List (DataW H)} {ps : List MemPlace}, DataW.TrodAll enc P W 0 (fun _ => true) true ts vs ds ps → ds.length = ts.length := by
      intro ts
      induction ts with
      | nil => intro vs ds ps h; cases vs <;> cases ds <;> first | rfl | exact h.elim
      | cons t ts ih =>
        intro vs ds ps h
        cases vs with
        | nil => exact h.elim
        | cons v vs =>
          cases ds with
          | nil => exact h.elim
          | cons d ds =>
            obtain ⟨_, _, _, h2, _⟩ := h
            simp [ih h2]
    exact this hA
  refine ((hcall cargs c1).calls anyG W args ⟨by simpa using c2.symm, fun i c hi => by have := c3 i c hi; simpa using this⟩).mono ?_
  rintro e W' ⟨v, rfl, hr, g⟩
  cases hr
  refine ⟨_, rfl, ds, [], p, [], p, [], ?_, ?_, ?_, ?_, kept_of g _, by simp⟩
  · simpa using hW'
  · rw [hspec (ds ++ []) (by simpa using hlen), hrt]
    refine ⟨[], [], ⟨1, ?_⟩, rfl, rfl⟩
    simp [DataW.trod, htb, Value.cells]
  · rw [hspec (ds ++ []) (by simpa using hlen)]
    simp only [List.append_nil]
    have hlt := hW'.lt
    exact shut_args hl hm hz g ht hA (fun r hr => hlt r (by simpa using hr)) (fun r hr => by simpa using hlt r (by simpa using hr))
  · rw [hvars, hspec (ds ++ []) (by simpa using hlen)]
    rfl
end
end Go.Abs

namespace Go.Proofs.Ytgcmjidphcafnaa
open Go Go.Abs

set_option maxHeartbeats 2000000

def exP : Plat := ⟨false, false, false, [⟨0, 0, 10, 2⟩, ⟨0, 1, 20, 3⟩, ⟨1, 0, 15, 1⟩, ⟨1, 1, 30, 2⟩], [31, 46], [27, 50]⟩
def exQ : Plat := ⟨false, false, false, [⟨0, 0, 10, 2⟩, ⟨0, 1, 20, 3⟩, ⟨1, 0, 15, 1⟩, ⟨1, 1, 30, 2⟩], [31, 46], [30, 47]⟩

theorem exP_ok : PlatOk exP := by
  constructor <;> simp [exP, PcOk]
theorem exQ_ok : PlatOk exQ := by
  constructor <;> simp [exQ, PcOk]

theorem ex_isP (f : Nat → Pc → Pc) (hf : ∀ i q, (f i q).row = q.row ∧ (f i q).col = q.col) (l : List Int) : IsP (withP exP f) l ↔ ∃ a b c d : Int, l = [a, b, c, d] ∧
    (lowI (f 0 ⟨0, 0, 10, 2⟩) ≤ a ∧ a ≤ highI (f 0 ⟨0, 0, 10, 2⟩)) ∧ (lowI (f 1 ⟨0, 1, 20, 3⟩) ≤ b ∧ b ≤ highI (f 1 ⟨0, 1, 20, 3⟩)) ∧ (lowI (f 2 ⟨1, 0, 15, 1⟩) ≤ c ∧ c ≤ highI (f 2 ⟨1, 0, 15, 1⟩)) ∧ (lowI (f 3 ⟨1, 1, 30, 2⟩) ≤ d ∧ d ≤ highI (f 3 ⟨1, 1, 30, 2⟩)) ∧
    a + b = 31 ∧ c + d = 46 ∧ a + c = 27 ∧ b + d = 50 := by
  rw [isP_with hf]
  constructor
  · rintro ⟨h1, h2, h3, h4⟩
    have hl : l.length = 4 := h1
    match l, hl with
    | [a, b, c, d], _ =>
      have q0 := h2 0 (by simp)
      have q1 := h2 1 (by simp)
      have q2 := h2 2 (by simp)
      have q3 := h2 3 (by simp)
      have r0 := h3 0 (by simp [exP])
      have r1 := h3 1 (by simp [exP])
      have c0 := h4 0 (by simp [exP])
      have c1 := h4 1 (by simp [exP])
      simp [exP, sumTo, rowF, colF] at r0 r1 c0 c1
      simp [pcA, exP, Flow.gi] at q0 q1 q2 q3
      exact ⟨a, b, c, d, rfl, q0, q1, q2, q3, by omega, by omega, by omega, by omega⟩
  · rintro ⟨a, b, c, d, rfl, q0, q1, q2, q3, s1, s2, s3, s4⟩
    refine ⟨rfl, fun i hi => ?_, fun r hr => ?_, fun r hr => ?_⟩
    · have : i = 0 ∨ i = 1 ∨ i = 2 ∨ i = 3 := by simp at hi; omega
      rcases this with rfl | rfl | rfl | rfl
      · exact q0
      · exact q1
      · exact q2
      · exact q3
    · have : r = 0 ∨ r = 1 := by simp [exP] at hr; omega
      rcases this with rfl | rfl
      · simp [exP, sumTo, rowF]; omega
      · simp [exP, sumTo, rowF]; omega
    · have : r = 0 ∨ r = 1 := by simp [exP] at hr; omega
      rcases this with rfl | rfl
      · simp [exP, sumTo, colF]; omega
      · simp [exP, sumTo, colF]; omega

theorem mapTo_id (ps : List Pc) : ∀ i, i ≤ ps.length → mapTo (fun _ q => q) ps i = ps
  | 0, _ => rfl
  | i + 1, hi => by
    simp only [mapTo]
    rw [mapTo_id ps i (by omega), List.getElem?_eq_getElem (by omega)]
    simp

theorem ex_isP0 (l : List Int) : IsP exP l ↔ ∃ a b c d : Int, l = [a, b, c, d] ∧ (8 ≤ a ∧ a ≤ 12) ∧ (17 ≤ b ∧ b ≤ 23) ∧ (14 ≤ c ∧ c ≤ 16) ∧ (28 ≤ d ∧ d ≤ 32) ∧ a + b = 31 ∧ c + d = 46 ∧ a + c = 27 ∧ b + d = 50 := by
  have h := ex_isP (fun _ q => q) (fun _ _ => ⟨rfl, rfl⟩) l
  have e : withP exP (fun _ q => q) = exP := by
    unfold withP
    rw [mapTo_id _ _ (Nat.le_refl _)]
  rw [e] at h
  exact h

theorem ex_sum (a b c d : Int) : sumC exP [a, b, c, d] = max (10 - a) (a - 10) + max (20 - b) (b - 20) + max (15 - c) (c - 15) + max (30 - d) (d - 30) := by
  simp [sumC, exP, sumTo, chgF, chgI]

theorem ex_least : Pure Try.prog 25 [encPlat exP] (.tup [encI 2, encI 0]) := by
  obtain ⟨r, h1, _, h3⟩ := least_c exP exP_ok
  have hx : IsP exP [11, 20, 16, 30] := (ex_isP0 _).2 ⟨11, 20, 16, 30, rfl, by omega⟩
  cases r with
  | none => exact absurd hx (h3.2 _)
  | some l =>
    have e : sumC exP l = 2 := by
      have h5 := h3.2 _ hx
      rw [ex_sum] at h5
      obtain ⟨a, b, c, d, rfl, h6⟩ := (ex_isP0 l).1 h3.1
      rw [ex_sum] at h5 ⊢
      omega
    simp only [encLeast, e] at h1
    exact h1

theorem ex_worst : Pure Try.prog 37 [encPlat exP] (.tup [encI 1, encI 0]) := by
  obtain ⟨o, h1, h2⟩ := even_c exP exP_ok (by simp [exP])
  have hx : Fe (withP exP (fEven ((1 : Nat) : Int))) := ⟨[11, 20, 16, 30], (ex_isP _ (fEven_rc _) _).2 ⟨11, 20, 16, 30, rfl, by simp [fEven, lowI, highI]; omega⟩⟩
  cases o with
  | none => exact absurd hx (h2 1 (by omega))
  | some nl =>
    obtain ⟨n, l⟩ := nl
    obtain ⟨q1, q2, q3⟩ := h2
    have e : n = 1 := by
      rcases Nat.lt_trichotomy n 1 with h | h | h
      · have : n = 0 := by omega
        subst this
        obtain ⟨a, b, c, d, _, h6⟩ := (ex_isP _ (fEven_rc _) l).1 q2
        simp [fEven, lowI, highI] at h6
        omega
      · exact h
      · exact absurd hx (q3 1 h)
    subst e
    exact worst37 exP 1 0 _ rfl h1

theorem ex_range : Pure Try.prog 21 [encPlat exP, encI 3] (.tup [.agg [encI 30, encI 31], encI 0]) := by
  refine range_c exP exP_ok (by simp [exP]) 3 (by simp [exP]) 30 31 ⟨⟨[11, 20, 16, 30], (ex_isP0 _).2 ⟨11, 20, 16, 30, rfl, by omega⟩, rfl⟩, ⟨[12, 19, 15, 31], (ex_isP0 _).2 ⟨12, 19, 15, 31, rfl, by omega⟩, rfl⟩, fun l hl => ?_⟩
  obtain ⟨a, b, c, d, rfl, h6⟩ := (ex_isP0 l).1 hl
  simp [Flow.gi]
  omega

theorem ex_chain : ∃ r c, r < 2 ^ 2 ∧ c < 2 ^ 2 ∧ Pure Try.prog 15 [encPlat exQ] (.tup [encSet r, encSet c, encI 0]) ∧ Pure Try.prog 18 [encPlat exQ, encSet r, encSet c] (.bool true) ∧ (listTo r 4).length ≤ 2 ∧ (listTo c 4).length ≤ 2 := by
  obtain ⟨o, h1, h2⟩ := chain_c exQ exQ_ok
  cases o with
  | none =>
    exfalso
    refine h2 0 (by simp [exQ]) 1 (by simp [exQ]) ?_
    unfold SetP SurplusP
    refine .inl ?_
    decide +kernel
  | some rc =>
    obtain ⟨r, c⟩ := rc
    obtain ⟨q1, q2, q3⟩ := h2
    have q1' : r < 2 ^ 2 := q1
    have q2' : c < 2 ^ 2 := q2
    have l1 := listTo_small (n := 2) (by omega) q1'
    have l2 := listTo_small (n := 2) (by omega) q2'
    refine ⟨r, c, q1', q2', h1, ?_, l1, l2⟩
    exact proves18 exQ (listTo r 4).isEmpty false (listTo c 4).isEmpty false (listTo r 4) (listTo c 4) exQ_ok (by omega) (by omega) true (iff_of_true rfl (setP_proves exQ_ok q1 q2 q3))

theorem example48 : Pure Try.prog 48 [] (encPlat exP) := by
  have h : Pure Try.prog 48 [] (.agg [.sl false true (exP.ps.map cP), .sl false true (exP.rows.map cI), .sl false true (exP.cols.map cI)]) := by
    refine pure_of (fn := Try.f48) [.cell 0 25] ⟨Try.func48, rfl, by kernel_rfl⟩ (by kernel_rfl) (by kernel_rfl) (by kernel_rfl) fun x hx hσ => ?_
    repeat refine awp_seq ?_
    refine awp_reg1 (by rw [hx]; kernel_rfl) fun K hK => ?_
    simp (config := { maxSteps := 1000000 }) [ty25]
    refine hK _ ?_
    clear hK K
    first | show AWP _ _ _ _ _ | show ∃ _, _ | skip
    repeat refine awp_seq ?_
    refine awp_reg1 (by rw [hx]; kernel_rfl) fun K hK => ?_
    simp (config := { maxSteps := 1000000 }) [ty25, ty45, ty3, ty22, ty23]
    refine hK _ ?_
    clear hK K
    first | show AWP _ _ _ _ _ | show ∃ _, _ | skip
    repeat refine awp_seq ?_
    refine awp_ret ?_
    refine And.intro (Or.inr rfl) ?_
    simp [retC, resC, viewC, mapO, ty25, exP]
  refine ⟨h.toCallable, fun G w vs hpl => (h.calls G w vs hpl).mono ?_⟩
  rintro e w' ⟨v, h1, h2, h3⟩
  exact ⟨v, h1, pr_plat (p := exP) h2, h3⟩

theorem works14 : Pure Try.prog 14 [] (.bool true) := by
  obtain ⟨r, c, hr, hc, h1, h2, l1, l2⟩ := ex_chain
  have hL := ex_least
  have hW := ex_worst
  have hR := ex_range
  have hX := example48
  have g1 := pure_plat h1 false false true
  have g2 := pure_plat h2 false false true
  simp only [encPlat, exP, exQ, List.map_cons, List.map_nil] at hL hW hR hX g1 g2
  have e1 : (((listTo r 4).length : Nat) : Int) ≤ 2 := by omega
  have e2 : (((listTo c 4).length : Nat) : Int) ≤ 2 := by omega
  unfold encSet at g1 g2
  refine pure_of (fn := Try.f14) [.tmp 0] ⟨Try.func14, rfl, by kernel_rfl⟩ (by kernel_rfl) (by kernel_rfl) (by kernel_rfl) fun x hx hσ => ?_
  repeat refine awp_seq ?_
  refine awp_reg1 (by rw [hx]; kernel_rfl) fun K hK => ?_
  simp (config := { maxSteps := 1000000 }) []
  refine hK _ ?_
  clear hK K
  first | show AWP _ _ _ _ _ | show ∃ _, _ | skip
  repeat refine awp_seq ?_
  refine awp_reg1 (by rw [hx]; kernel_rfl) fun K hK => ?_
  simp (config := { maxSteps := 1000000 }) [ty25]
  refine callP (hX) (by first | (simp; done) | (simp [*]; done)) ?_
  simp (config := { maxSteps := 1000000 }) [ty25]
  refine hK _ ?_
  clear hK K
  first | show AWP _ _ _ _ _ | show ∃ _, _ | skip
  repeat refine awp_seq ?_
  refine awp_reg1 (by rw [hx]; kernel_rfl) fun K hK => ?_
  simp (config := { maxSteps := 1000000 }) [ty25]
  refine callP (hL) (by first | (simp; done) | (simp [*]; done)) ?_
  simp (config := { maxSteps := 1000000 }) []
  refine hK _ ?_
  clear hK K
  first | show AWP _ _ _ _ _ | show ∃ _, _ | skip
  repeat refine awp_seq ?_
  refine awp_reg1 (by rw [hx]; kernel_rfl) fun K hK => ?_
  simp (config := { maxSteps := 1000000 }) [ty25]
  refine callP (hW) (by first | (simp; done) | (simp [*]; done)) ?_
  simp (config := { maxSteps := 1000000 }) []
  refine hK _ ?_
  clear hK K
  first | show AWP _ _ _ _ _ | show ∃ _, _ | skip
  repeat refine awp_seq ?_
  refine awp_reg1 (by rw [hx]; kernel_rfl) fun K hK => ?_
  simp (config := { maxSteps := 1000000 }) [ty25]
  refine callP (hR) (by first | (simp; done) | (simp [*]; done)) ?_
  simp (config := { maxSteps := 1000000 }) [ty41]
  refine hK _ ?_
  clear hK K
  first | show AWP _ _ _ _ _ | show ∃ _, _ | skip
  repeat refine awp_seq ?_
  refine awp_reg1 (by rw [hx]; kernel_rfl) fun K hK => ?_
  simp (config := { maxSteps := 1000000 }) [ty25, ty23, ty3]
  refine hK _ ?_
  clear hK K
  first | show AWP _ _ _ _ _ | show ∃ _, _ | skip
  repeat refine awp_seq ?_
  refine awp_reg1 (by rw [hx]; kernel_rfl) fun K hK => ?_
  simp (config := { maxSteps := 1000000 }) [ty25]
  refine callP (g1) (by first | (simp; done) | (simp [*]; done)) ?_
  simp (config := { maxSteps := 1000000 }) []
  refine hK _ ?_
  clear hK K
  first | show AWP _ _ _ _ _ | show ∃ _, _ | skip
  repeat refine awp_seq ?_
  refine awp_reg1 (by rw [hx]; kernel_rfl) fun K hK => ?_
  simp (config := { maxSteps := 1000000 }) [ty30, ty3, ty41, ty23, ty25, fe41, e1, e2]
  refine callP (g2) (by first | (simp; done) | (simp [*]; done)) ?_
  simp (config := { maxSteps := 1000000 }) []
  refine hK _ ?_
  clear hK K
  first | show AWP _ _ _ _ _ | show ∃ _, _ | skip
  repeat refine awp_seq ?_
  refine awp_ret ?_
  refine And.intro (Or.inr rfl) ?_
  simp [retC, resC, viewC, mapO]

end Go.Proofs.Ytgcmjidphcafnaa

namespace Go.Proofs.Ytgcmjidphcafnaa
open Go Go.Abs

set_option maxHeartbeats 2000000
set_option maxRecDepth 100000

-- chains from lists

theorem asc_lt {l : List Int} {n : Nat} (h : ListP l n) (i : Nat) : ∀ d, i + d + 1 < l.length → l[i]?.getD 0 < l[i + d + 1]?.getD 0
  | 0, hd => by have := (h (i + 1) hd).2.2 (by omega); simpa using this
  | d + 1, hd => by
    have h1 := asc_lt h i d (by omega)
    have h2 := (h (i + (d + 1) + 1) hd).2.2 (by omega)
    have e : i + (d + 1) + 1 - 1 = i + d + 1 := by omega
    rw [e] at h2
    omega

theorem asc_cases {l : List Int} {n : Nat} (h : ListP l (n + 1)) : ListP l n ∨ ∃ l', l = l' ++ [(n : Int)] ∧ ListP l' n := by
  by_cases he : l = []
  · subst he; exact .inl (fun i hi => by simp at hi)
  · have hpos : 0 < l.length := List.length_pos_iff.2 he
    have hk := h (l.length - 1) (by omega)
    have hlt : ∀ i, i < l.length - 1 → l[i]?.getD 0 < l[l.length - 1]?.getD 0 := by
      intro i hi
      have := asc_lt h i (l.length - 1 - i - 1) (by omega)
      rwa [show i + (l.length - 1 - i - 1) + 1 = l.length - 1 by omega] at this
    by_cases hn : l[l.length - 1]?.getD 0 = (n : Int)
    · refine .inr ⟨l.take (l.length - 1), ?_, fun i hi => ?_⟩
      · have e := List.take_append_drop (l.length - 1) l
        have hd : l.drop (l.length - 1) = [(n : Int)] := by
          rw [List.drop_eq_getElem_cons (by omega)]
          rw [List.getElem?_eq_getElem (by omega), Option.getD_some] at hn
          rw [hn, List.drop_eq_nil_of_le (by omega)]
        rw [hd] at e
        exact e.symm
      · simp at hi
        have h1 := h i (by omega)
        have h2 := hlt i (by omega)
        rw [List.getElem?_take_of_lt (by omega)]
        refine ⟨h1.1, by omega, fun h0 => ?_⟩
        rw [List.getElem?_take_of_lt (by omega)]
        exact h1.2.2 h0
    · refine .inl fun i hi => ?_
      have h1 := h i hi
      refine ⟨h1.1, ?_, h1.2.2⟩
      by_cases e : i = l.length - 1
      · subst e; omega
      · have := hlt i (by omega); omega

theorem mem_ascend {l : List Int} {n : Nat} (h : ListP l n) {z : Int} (hz : z ∈ l) : 0 ≤ z ∧ z < n := by
  obtain ⟨i, hi, rfl⟩ := List.getElem_of_mem hz
  have := h i hi
  rw [List.getElem?_eq_getElem hi, Option.getD_some] at this
  exact ⟨this.1, this.2.1⟩

theorem asc_eq : ∀ (n : Nat) {l : List Int} {r : Nat}, ListP l n → (∀ i, i < n → Nat.testBit r i = decide ((i : Int) ∈ l)) → l = listTo r n
  | 0, l, r, h, _ => by
    cases l with
    | nil => rfl
    | cons a l => have := h 0 (by simp); simp at this; omega
  | n + 1, l, r, h, hb => by
    have hn := hb n (by omega)
    simp only [listTo]
    rcases asc_cases h with h1 | ⟨l', rfl, h1⟩
    · have : ¬ ((n : Int) ∈ l) := fun hm => by have := mem_ascend h1 hm; omega
      rw [decide_eq_false this] at hn
      rw [hn]
      exact asc_eq n h1 fun i hi => hb i (by omega)
    · rw [decide_eq_true (by simp)] at hn
      rw [hn]
      simp only [if_true]
      congr 1
      refine asc_eq n h1 fun i hi => ?_
      rw [hb i (by omega)]
      have : ((i : Int) ∈ l' ++ [(n : Int)]) ↔ (i : Int) ∈ l' := by simp; omega
      simp only [this]

theorem proves_set {p : Plat} (hp : PlatOk p) {rs cs : List Int} (h : ProvesP p rs cs) : ∃ r c, r < 2 ^ p.rows.length ∧ c < 2 ^ p.cols.length ∧ SetP p r c := by
  obtain ⟨h1, h2, _, h4⟩ := h
  obtain ⟨r, r1, r2⟩ := bits_ex (fun i => decide ((i : Int) ∈ rs)) p.rows.length
  obtain ⟨c, c1, c2⟩ := bits_ex (fun i => decide ((i : Int) ∈ cs)) p.cols.length
  have q1 : 2 ^ p.rows.length ≤ 2 ^ 4 := Nat.pow_le_pow_right (by omega) hp.r4
  have q2 : 2 ^ p.cols.length ≤ 2 ^ 4 := Nat.pow_le_pow_right (by omega) hp.c4
  have e1 : rs = listTo r 4 := by
    rw [asc_eq _ h1 r2]
    have := listTo_stop r1 (4 - p.rows.length)
    rw [show p.rows.length + (4 - p.rows.length) = 4 by have := hp.r4; omega] at this
    exact this.symm
  have e2 : cs = listTo c 4 := by
    rw [asc_eq _ h2 c2]
    have := listTo_stop c1 (4 - p.cols.length)
    rw [show p.cols.length + (4 - p.cols.length) = 4 by have := hp.c4; omega] at this
    exact this.symm
  refine ⟨r, c, r1, c1, ?_⟩
  unfold SetP
  rw [← memB_list (by omega), ← memB_list (by omega), ← e1, ← e2]
  exact h4

-- what comes in

theorem sh25 : shT Try.prog 6 25 = some [.sl [.int .i64, .int .i64, .int .i64, .int .i64], .sl [.int .i64], .sl [.int .i64]] := by kernel_rfl
theorem sh23 : shT Try.prog 6 23 = some [.sl [.int .i64]] := by kernel_rfl
theorem sh27 : shT Try.prog 6 27 = some [.sl [.int .i64], .sl [.int .i64]] := by kernel_rfl
theorem sh3 : shT Try.prog 6 3 = some [.int .i64] := by kernel_rfl
theorem sh4 : shT Try.prog 6 4 = some [.bool] := by kernel_rfl
theorem ag25 : isAggT Try.prog 25 = true := by kernel_rfl
theorem ag27 : isAggT Try.prog 27 = true := by kernel_rfl
theorem ag23 : isAggT Try.prog 23 = false := by kernel_rfl
theorem ag3 : isAggT Try.prog 3 = false := by kernel_rfl
theorem ag4 : isAggT Try.prog 4 = false := by kernel_rfl

theorem rows_map {α : Type} {f : α → List C} : ∀ {rows : List (List C)}, (∀ row ∈ rows, ∃ a, row = f a) → ∃ l : List α, rows = l.map f
  | [], _ => ⟨[], rfl⟩
  | r :: rows, h => by
    obtain ⟨a, rfl⟩ := h r (by simp)
    obtain ⟨l, rfl⟩ := rows_map (rows := rows) fun x hx => h x (by simp [hx])
    exact ⟨a :: l, rfl⟩

theorem fit_ints {c : C} (h : Fit (.sl [.int .i64]) c) : ∃ (nl : Bool) (l : List Int), c = .sl nl false (l.map cI) ∧ (nl = true → l = []) := by
  simp only [Fit] at h
  obtain ⟨nl, rows, rfl, h1, _, h2⟩ := h
  obtain ⟨l, rfl⟩ := rows_map (f := cI) (rows := rows) fun row hr => by
    have := h2 row hr
    simp only [FitL, Fit] at this
    obtain ⟨c, r, rfl, ⟨n, rfl, _⟩, rfl⟩ := this
    exact ⟨n, rfl⟩
  exact ⟨nl, l, rfl, fun hn => by have := h1 hn; simpa using this⟩

theorem fit_pcs {c : C} (h : Fit (.sl [.int .i64, .int .i64, .int .i64, .int .i64]) c) : ∃ (nl : Bool) (l : List Pc), c = .sl nl false (l.map cP) ∧ (nl = true → l = []) := by
  simp only [Fit] at h
  obtain ⟨nl, rows, rfl, h1, _, h2⟩ := h
  obtain ⟨l, rfl⟩ := rows_map (f := cP) (rows := rows) fun row hr => by
    have := h2 row hr
    simp only [FitL, Fit] at this
    obtain ⟨_, _, rfl, ⟨n0, rfl, _⟩, _, _, rfl, ⟨n1, rfl, _⟩, _, _, rfl, ⟨n2, rfl, _⟩, _, _, rfl, ⟨n3, rfl, _⟩, rfl⟩ := this
    exact ⟨⟨n0, n1, n2, n3⟩, rfl⟩
  exact ⟨nl, l, rfl, fun hn => by have := h1 hn; simpa using this⟩

/-- No nil slice holds anything. -/
structure NlOk (p : Plat) : Prop where
  pn : p.pn = true → p.ps = []
  rn : p.rn = true → p.rows = []
  cn : p.cn = true → p.cols = []

theorem fit_plat {m : List C} (h : FitL [.sl [.int .i64, .int .i64, .int .i64, .int .i64], .sl [.int .i64], .sl [.int .i64]] m) : ∃ p, C.agg m = encPlat p ∧ NlOk p := by
  simp only [FitL] at h
  obtain ⟨c0, _, rfl, h0, c1, _, rfl, h1, c2, _, rfl, h2, rfl⟩ := h
  obtain ⟨n0, l0, rfl, e0⟩ := fit_pcs h0
  obtain ⟨n1, l1, rfl, e1⟩ := fit_ints h1
  obtain ⟨n2, l2, rfl, e2⟩ := fit_ints h2
  exact ⟨⟨n0, n1, n2, l0, l1, l2⟩, rfl, e0, e1, e2⟩

theorem arg25 {cs : List C} {ts : List TypeId} (h : ArgsFit Try.prog (25 :: ts) cs) : ∃ p r, cs = encPlat p :: r ∧ NlOk p ∧ ArgsFit Try.prog ts r := by
  simp only [ArgsFit] at h
  obtain ⟨shs, m, c, r, rfl, h1, h2, h3, h4⟩ := h
  rw [sh25] at h1
  cases h1
  rw [ag25, if_pos rfl] at h3
  subst h3
  obtain ⟨p, hp, hn⟩ := fit_plat h2
  exact ⟨p, r, by rw [hp], hn, h4⟩

theorem arg23 {cs : List C} {ts : List TypeId} (h : ArgsFit Try.prog (23 :: ts) cs) : ∃ nl l r, cs = .sl nl false (l.map cI) :: r ∧ (nl = true → l = []) ∧ ArgsFit Try.prog ts r := by
  simp only [ArgsFit] at h
  obtain ⟨shs, m, c, r, rfl, h1, h2, h3, h4⟩ := h
  rw [sh23] at h1
  cases h1
  rw [ag23] at h3
  simp only [Bool.false_eq_true, if_false] at h3
  subst h3
  simp only [FitL] at h2
  obtain ⟨c0, _, e, h0, rfl⟩ := h2
  cases e
  obtain ⟨nl, l, rfl, e0⟩ := fit_ints h0
  exact ⟨nl, l, r, rfl, e0, h4⟩

theorem arg27 {cs : List C} {ts : List TypeId} (h : ArgsFit Try.prog (27 :: ts) cs) : ∃ (n1 : Bool) (l1 : List Int) (n2 : Bool) (l2 : List Int) (r : List C), cs = .agg [.sl n1 false (l1.map cI), .sl n2 false (l2.map cI)] :: r ∧ ArgsFit Try.prog ts r := by
  simp only [ArgsFit] at h
  obtain ⟨shs, m, c, r, rfl, h1, h2, h3, h4⟩ := h
  rw [sh27] at h1
  cases h1
  rw [ag27, if_pos rfl] at h3
  subst h3
  simp only [FitL] at h2
  obtain ⟨c1, _, rfl, g1, c2, _, rfl, g2, rfl⟩ := h2
  obtain ⟨n1, l1, rfl, _⟩ := fit_ints g1
  obtain ⟨n2, l2, rfl, _⟩ := fit_ints g2
  exact ⟨n1, l1, n2, l2, r, rfl, h4⟩

theorem arg3 {cs : List C} {ts : List TypeId} (h : ArgsFit Try.prog (3 :: ts) cs) : ∃ n r, cs = encI n :: r ∧ (-9223372036854775808 ≤ n ∧ n ≤ 9223372036854775807) ∧ ArgsFit Try.prog ts r := by
  simp only [ArgsFit] at h
  obtain ⟨shs, m, c, r, rfl, h1, h2, h3, h4⟩ := h
  rw [sh3] at h1
  cases h1
  rw [ag3] at h3
  simp only [Bool.false_eq_true, if_false] at h3
  subst h3
  simp only [FitL, Fit] at h2
  obtain ⟨_, _, e, ⟨n, rfl, hw⟩, rfl⟩ := h2
  cases e
  exact ⟨n, r, rfl, bounds_i64 hw, h4⟩

theorem arg4 {cs : List C} {ts : List TypeId} (h : ArgsFit Try.prog (4 :: ts) cs) : ∃ b r, cs = .bool b :: r ∧ ArgsFit Try.prog ts r := by
  simp only [ArgsFit] at h
  obtain ⟨shs, m, c, r, rfl, h1, h2, h3, h4⟩ := h
  rw [sh4] at h1
  cases h1
  rw [ag4] at h3
  simp only [Bool.false_eq_true, if_false] at h3
  subst h3
  simp only [FitL, Fit] at h2
  obtain ⟨_, _, e, ⟨b, rfl⟩, rfl⟩ := h2
  cases e
  exact ⟨b, r, rfl, h4⟩

theorem arg_end {cs : List C} (h : ArgsFit Try.prog [] cs) : cs = [] := h

theorem known_ok : Pure Try.prog 17 [encI 0] (.bool true) := known17 0
theorem known_none : Pure Try.prog 17 [encI 3] (.bool true) := known17 3
theorem known_bad : Pure Try.prog 17 [encI 60] (.bool false) := known17 60

theorem ready_yes {p : Plat} (h : ¬ FarP p ∧ PlatOk p) : Pure Try.prog 13 [encPlat p] (.bool true) := ready13 p true (iff_of_true rfl h)
theorem ready_no {p : Plat} (h : ¬ (¬ FarP p ∧ PlatOk p)) : Pure Try.prog 13 [encPlat p] (.bool false) := ready13 p false (iff_of_false (by simp) h)

theorem fe_none {p : Plat} (hp : PlatOk p) {rs cs : List Int} (h : ProvesP p rs cs) : ¬ Fe p := by
  obtain ⟨r, c, _, _, h1⟩ := proves_set hp h
  rintro ⟨l, hl⟩
  exact set_none hp.w h1 hl

theorem proof3 (p : Plat) (n1 n2 : Bool) (xr xc : List Int) : Pure Try.prog 3 [encPlat p, .agg [.sl n1 false (xr.map cI), .sl n2 false (xc.map cI)]] (.bool true) := by
  by_cases hrd : ¬ FarP p ∧ PlatOk p
  · have hp := hrd.2
    have hr13 := ready_yes hrd
    by_cases h1 : xr.length ≤ 40
    · by_cases h2 : xc.length ≤ 40
      · have g1 : ¬ ((40 : Int) < xr.length) := by omega
        have g2 : ¬ ((40 : Int) < xc.length) := by omega
        obtain ⟨o, c1, c2⟩ := chain_c p hp
        obtain ⟨r, a1, a2⟩ := adjust_c p hp
        cases o with
        | none =>
          cases r with
          | none => obtain ⟨⟨r, c, q1, q2, q3⟩, _⟩ := a2; exact absurd q3 (c2 r q1 c q2)
          | some l =>
            simp only [encAdj] at a1
            have hl : l.length = p.ps.length := a2.1.1
            have h8 := hp.n8
            have g3 : ¬ ((40 : Int) < l.length) := by omega
            have h19 := is_c p l.isEmpty false l hp (by omega) true (iff_of_true rfl a2.1)
            have h18 := proves18 p n1 false n2 false xr xc hp h1 h2 false (iff_of_false (by simp) fun h => fe_none hp h ⟨l, a2.1⟩)
            refine pure_of (fn := Try.f3) [.tmp 4] ⟨Try.func3, rfl, by kernel_rfl⟩ (by kernel_rfl) (by kernel_rfl) (by kernel_rfl) fun x hx hσ => ?_
            repeat refine awp_seq ?_
            refine awp_reg1 (by rw [hx]; kernel_rfl) fun K hK => ?_
            simp (config := { maxSteps := 1000000 }) [ty25, ty27]
            refine hK _ ?_
            clear hK K
            first | show AWP _ _ _ _ _ | show ∃ _, _ | skip
            repeat refine awp_seq ?_
            refine awp_reg1 (by rw [hx]; kernel_rfl) fun K hK => ?_
            simp (config := { maxSteps := 1000000 }) [ty25, ty27, ty23, ty3, g1, g2]
            refine callP (hr13) (by first | (simp; done) | (simp [*]; done)) ?_
            simp (config := { maxSteps := 1000000 }) [ty25, ty27, ty23, ty3, g1, g2]
            refine hK _ ?_
            clear hK K
            first | show AWP _ _ _ _ _ | show ∃ _, _ | skip
            repeat refine awp_seq ?_
            refine awp_cond (by simp; rfl) (by rw [hx]; simp) (fun hd => ?_) (fun hd => ?_)
            · simp at hd
            clear hd
            refine awp_skip ?_
            first | show AWP _ _ _ _ _ | show ∃ _, _ | skip
            repeat refine awp_seq ?_
            refine awp_reg1 (by rw [hx]; kernel_rfl) fun K hK => ?_
            simp (config := { maxSteps := 1000000 }) [ty25]
            refine callP (c1) (by first | (simp; done) | (simp [*]; done)) ?_
            simp (config := { maxSteps := 1000000 }) []
            refine hK _ ?_
            clear hK K
            first | show AWP _ _ _ _ _ | show ∃ _, _ | skip
            repeat refine awp_seq ?_
            refine awp_reg1 (by rw [hx]; kernel_rfl) fun K hK => ?_
            simp (config := { maxSteps := 1000000 }) [ty25]
            refine callP (a1) (by first | (simp; done) | (simp [*]; done)) ?_
            simp (config := { maxSteps := 1000000 }) []
            refine hK _ ?_
            clear hK K
            first | show AWP _ _ _ _ _ | show ∃ _, _ | skip
            repeat refine awp_seq ?_
            refine awp_reg1 (by rw [hx]; kernel_rfl) fun K hK => ?_
            simp (config := { maxSteps := 1000000 }) [ty23, ty3, ty4, ty30, g3]
            refine callP (known_none) (by first | (simp; done) | (simp [*]; done)) ?_
            simp (config := { maxSteps := 1000000 }) [ty23, ty3, ty4, ty30, g3]
            refine callP (known_ok) (by first | (simp; done) | (simp [*]; done)) ?_
            simp (config := { maxSteps := 1000000 }) [ty23, ty3, ty4, ty30, g3]
            refine hK _ ?_
            clear hK K
            first | show AWP _ _ _ _ _ | show ∃ _, _ | skip
            repeat refine awp_seq ?_
            refine awp_cond (by simp; rfl) (by rw [hx]; simp) (fun hd => ?_) (fun hd => ?_)
            · simp at hd
            clear hd
            refine awp_skip ?_
            first | show AWP _ _ _ _ _ | show ∃ _, _ | skip
            repeat refine awp_seq ?_
            refine awp_reg1 (by rw [hx]; kernel_rfl) fun K hK => ?_
            simp (config := { maxSteps := 1000000 }) [ty25, ty30]
            refine callP (h19) (by first | (simp; done) | (simp [*]; done)) ?_
            simp (config := { maxSteps := 1000000 }) []
            refine hK _ ?_
            clear hK K
            first | show AWP _ _ _ _ _ | show ∃ _, _ | skip
            repeat refine awp_seq ?_
            refine awp_cond (by simp; rfl) (by rw [hx]; simp) (fun hd => ?_) (fun hd => ?_)
            · simp at hd
            clear hd
            refine awp_skip ?_
            first | show AWP _ _ _ _ _ | show ∃ _, _ | skip
            repeat refine awp_seq ?_
            refine awp_reg1 (by rw [hx]; kernel_rfl) fun K hK => ?_
            simp (config := { maxSteps := 1000000 }) [ty25, ty30, ty27, ty23]
            refine callP (h18) (by first | (simp; done) | (simp [*]; done)) ?_
            simp (config := { maxSteps := 1000000 }) []
            refine callP (works14) (by first | (simp; done) | (simp [*]; done)) ?_
            simp (config := { maxSteps := 1000000 }) []
            refine hK _ ?_
            clear hK K
            first | show AWP _ _ _ _ _ | show ∃ _, _ | skip
            repeat refine awp_seq ?_
            refine awp_ret ?_
            refine And.intro (Or.inr rfl) ?_
            simp [retC, resC, viewC, mapO]
        | some rc =>
          obtain ⟨cr, cc⟩ := rc
          obtain ⟨q1, q2, q3⟩ := c2
          cases r with
          | some l => exact (set_none hp.w q3 a2.1).elim
          | none =>
            simp only [encAdj] at a1
            simp only [encSet] at c1
            have q1' := listTo_small hp.r4 q1
            have q2' := listTo_small hp.c4 q2
            have hr4 := hp.r4
            have hc4 := hp.c4
            have g3 : ¬ ((40 : Int) < ((listTo cr 4).length : Nat)) := by omega
            have g4 : ¬ ((40 : Int) < ((listTo cc 4).length : Nat)) := by omega
            have h18 := proves18 p (listTo cr 4).isEmpty false (listTo cc 4).isEmpty false (listTo cr 4) (listTo cc 4) hp (by omega) (by omega) true (iff_of_true rfl (setP_proves hp q1 q2 q3))
            refine pure_of (fn := Try.f3) [.tmp 4] ⟨Try.func3, rfl, by kernel_rfl⟩ (by kernel_rfl) (by kernel_rfl) (by kernel_rfl) fun x hx hσ => ?_
            repeat refine awp_seq ?_
            refine awp_reg1 (by rw [hx]; kernel_rfl) fun K hK => ?_
            simp (config := { maxSteps := 1000000 }) [ty25, ty27]
            refine hK _ ?_
            clear hK K
            first | show AWP _ _ _ _ _ | show ∃ _, _ | skip
            repeat refine awp_seq ?_
            refine awp_reg1 (by rw [hx]; kernel_rfl) fun K hK => ?_
            simp (config := { maxSteps := 1000000 }) [ty25, ty27, ty23, ty3, g1, g2]
            refine callP (hr13) (by first | (simp; done) | (simp [*]; done)) ?_
            simp (config := { maxSteps := 1000000 }) [ty25, ty27, ty23, ty3, g1, g2]
            refine hK _ ?_
            clear hK K
            first | show AWP _ _ _ _ _ | show ∃ _, _ | skip
            repeat refine awp_seq ?_
            refine awp_cond (by simp; rfl) (by rw [hx]; simp) (fun hd => ?_) (fun hd => ?_)
            · simp at hd
            clear hd
            refine awp_skip ?_
            first | show AWP _ _ _ _ _ | show ∃ _, _ | skip
            repeat refine awp_seq ?_
            refine awp_reg1 (by rw [hx]; kernel_rfl) fun K hK => ?_
            simp (config := { maxSteps := 1000000 }) [ty25]
            refine callP (c1) (by first | (simp; done) | (simp [*]; done)) ?_
            simp (config := { maxSteps := 1000000 }) []
            refine hK _ ?_
            clear hK K
            first | show AWP _ _ _ _ _ | show ∃ _, _ | skip
            repeat refine awp_seq ?_
            refine awp_reg1 (by rw [hx]; kernel_rfl) fun K hK => ?_
            simp (config := { maxSteps := 1000000 }) [ty25]
            refine callP (a1) (by first | (simp; done) | (simp [*]; done)) ?_
            simp (config := { maxSteps := 1000000 }) []
            refine hK _ ?_
            clear hK K
            first | show AWP _ _ _ _ _ | show ∃ _, _ | skip
            repeat refine awp_seq ?_
            refine awp_reg1 (by rw [hx]; kernel_rfl) fun K hK => ?_
            simp (config := { maxSteps := 1000000 }) [ty23, ty3, ty4, ty30, g3, g4]
            refine callP (known_ok) (by first | (simp; done) | (simp [*]; done)) ?_
            simp (config := { maxSteps := 1000000 }) [ty23, ty3, ty4, ty30, g3, g4]
            refine callP (known_none) (by first | (simp; done) | (simp [*]; done)) ?_
            simp (config := { maxSteps := 1000000 }) [ty23, ty3, ty4, ty30, g3, g4]
            refine hK _ ?_
            clear hK K
            first | show AWP _ _ _ _ _ | show ∃ _, _ | skip
            repeat refine awp_seq ?_
            refine awp_cond (by simp; rfl) (by rw [hx]; simp) (fun hd => ?_) (fun hd => ?_)
            · simp at hd
            clear hd
            refine awp_skip ?_
            first | show AWP _ _ _ _ _ | show ∃ _, _ | skip
            repeat refine awp_seq ?_
            refine awp_reg1 (by rw [hx]; kernel_rfl) fun K hK => ?_
            simp (config := { maxSteps := 1000000 }) [ty25, ty30]
            refine callP (h18) (by first | (simp; done) | (simp [*]; done)) ?_
            simp (config := { maxSteps := 1000000 }) [ty25, ty30]
            refine hK _ ?_
            clear hK K
            first | show AWP _ _ _ _ _ | show ∃ _, _ | skip
            repeat refine awp_seq ?_
            refine awp_cond (by simp; rfl) (by rw [hx]; simp) (fun hd => ?_) (fun hd => ?_)
            · simp at hd
            clear hd
            refine awp_skip ?_
            first | show AWP _ _ _ _ _ | show ∃ _, _ | skip
            repeat refine awp_seq ?_
            refine awp_reg1 (by rw [hx]; kernel_rfl) fun K hK => ?_
            simp (config := { maxSteps := 1000000 }) [ty25, ty30, ty27, ty23]
            refine callP (works14) (by first | (simp; done) | (simp [*]; done)) ?_
            simp (config := { maxSteps := 1000000 }) []
            refine hK _ ?_
            clear hK K
            first | show AWP _ _ _ _ _ | show ∃ _, _ | skip
            repeat refine awp_seq ?_
            refine awp_ret ?_
            refine And.intro (Or.inr rfl) ?_
            simp [retC, resC, viewC, mapO]
      · have g1 : ¬ ((40 : Int) < xr.length) := by omega
        have g2 : ((40 : Int) < xc.length) := by omega
        refine pure_of (fn := Try.f3) [.tmp 4] ⟨Try.func3, rfl, by kernel_rfl⟩ (by kernel_rfl) (by kernel_rfl) (by kernel_rfl) fun x hx hσ => ?_
        repeat refine awp_seq ?_
        refine awp_reg1 (by rw [hx]; kernel_rfl) fun K hK => ?_
        simp (config := { maxSteps := 1000000 }) [ty25, ty27]
        refine hK _ ?_
        clear hK K
        first | show AWP _ _ _ _ _ | show ∃ _, _ | skip
        repeat refine awp_seq ?_
        refine awp_reg1 (by rw [hx]; kernel_rfl) fun K hK => ?_
        simp (config := { maxSteps := 1000000 }) [ty25, ty27, ty23, ty3, g1, g2]
        refine callP (hr13) (by first | (simp; done) | (simp [*]; done)) ?_
        simp (config := { maxSteps := 1000000 }) [ty25, ty27, ty23, ty3, g1, g2]
        refine hK _ ?_
        clear hK K
        first | show AWP _ _ _ _ _ | show ∃ _, _ | skip
        repeat refine awp_seq ?_
        refine awp_cond (by simp; rfl) (by rw [hx]; simp) (fun hd => ?_) (fun hd => ?_)
        · repeat refine awp_seq ?_
          refine awp_reg1 (by rw [hx]; kernel_rfl) fun K hK => ?_
          simp (config := { maxSteps := 1000000 }) []
          refine callP (works14) (by first | (simp; done) | (simp [*]; done)) ?_
          simp (config := { maxSteps := 1000000 }) []
          refine hK _ ?_
          clear hK K
          first | show AWP _ _ _ _ _ | show ∃ _, _ | skip
          repeat refine awp_seq ?_
          refine awp_ret ?_
          refine And.intro (Or.inr rfl) ?_
          simp [retC, resC, viewC, mapO]
        · simp at hd
    · have g1 : ((40 : Int) < xr.length) := by omega
      refine pure_of (fn := Try.f3) [.tmp 4] ⟨Try.func3, rfl, by kernel_rfl⟩ (by kernel_rfl) (by kernel_rfl) (by kernel_rfl) fun x hx hσ => ?_
      repeat refine awp_seq ?_
      refine awp_reg1 (by rw [hx]; kernel_rfl) fun K hK => ?_
      simp (config := { maxSteps := 1000000 }) [ty25, ty27]
      refine hK _ ?_
      clear hK K
      first | show AWP _ _ _ _ _ | show ∃ _, _ | skip
      repeat refine awp_seq ?_
      refine awp_reg1 (by rw [hx]; kernel_rfl) fun K hK => ?_
      simp (config := { maxSteps := 1000000 }) [ty25, ty27, ty23, ty3, g1]
      refine callP (hr13) (by first | (simp; done) | (simp [*]; done)) ?_
      simp (config := { maxSteps := 1000000 }) [ty25, ty27, ty23, ty3, g1]
      refine hK _ ?_
      clear hK K
      first | show AWP _ _ _ _ _ | show ∃ _, _ | skip
      repeat refine awp_seq ?_
      refine awp_cond (by simp; rfl) (by rw [hx]; simp) (fun hd => ?_) (fun hd => ?_)
      · repeat refine awp_seq ?_
        refine awp_reg1 (by rw [hx]; kernel_rfl) fun K hK => ?_
        simp (config := { maxSteps := 1000000 }) []
        refine callP (works14) (by first | (simp; done) | (simp [*]; done)) ?_
        simp (config := { maxSteps := 1000000 }) []
        refine hK _ ?_
        clear hK K
        first | show AWP _ _ _ _ _ | show ∃ _, _ | skip
        repeat refine awp_seq ?_
        refine awp_ret ?_
        refine And.intro (Or.inr rfl) ?_
        simp [retC, resC, viewC, mapO]
      · simp at hd
  · have hr13 := ready_no hrd
    refine pure_of (fn := Try.f3) [.tmp 4] ⟨Try.func3, rfl, by kernel_rfl⟩ (by kernel_rfl) (by kernel_rfl) (by kernel_rfl) fun x hx hσ => ?_
    repeat refine awp_seq ?_
    refine awp_reg1 (by rw [hx]; kernel_rfl) fun K hK => ?_
    simp (config := { maxSteps := 1000000 }) [ty25, ty27]
    refine hK _ ?_
    clear hK K
    first | show AWP _ _ _ _ _ | show ∃ _, _ | skip
    repeat refine awp_seq ?_
    refine awp_reg1 (by rw [hx]; kernel_rfl) fun K hK => ?_
    simp (config := { maxSteps := 1000000 }) [ty25]
    refine callP (hr13) (by first | (simp; done) | (simp [*]; done)) ?_
    simp (config := { maxSteps := 1000000 }) []
    refine hK _ ?_
    clear hK K
    first | show AWP _ _ _ _ _ | show ∃ _, _ | skip
    repeat refine awp_seq ?_
    refine awp_cond (by simp; rfl) (by rw [hx]; simp) (fun hd => ?_) (fun hd => ?_)
    · repeat refine awp_seq ?_
      refine awp_reg1 (by rw [hx]; kernel_rfl) fun K hK => ?_
      simp (config := { maxSteps := 1000000 }) []
      refine callP (works14) (by first | (simp; done) | (simp [*]; done)) ?_
      simp (config := { maxSteps := 1000000 }) []
      refine hK _ ?_
      clear hK K
      first | show AWP _ _ _ _ _ | show ∃ _, _ | skip
      repeat refine awp_seq ?_
      refine awp_ret ?_
      refine And.intro (Or.inr rfl) ?_
      simp [retC, resC, viewC, mapO]
    · simp at hd

end Go.Proofs.Ytgcmjidphcafnaa

/- The facts of the program that every statement's join asks. No condition. -/
namespace Go.Proofs.Ytgcmjidphcafnaa
open Go Go.Abs
open Go.ChangeShapes Go.WideShapes Go.ChangeAt Go.RowKit

theorem J.own : ownKnob Try.prog.godebug = none := by kernel_rfl
theorem J.laid : laidOutB Try.prog = true := by kernel_rfl
theorem J.maps : mapsRowed Try.prog = true := by kernel_rfl
theorem J.sized : noEmptyB Try.prog = true := by kernel_rfl
theorem J.ub : Try.prog.underlying 4 = some .bool := by kernel_rfl
end Go.Proofs.Ytgcmjidphcafnaa

namespace Go.Proofs.Ytgcmjidphcafnaa
open Go Go.Abs

set_option maxHeartbeats 2000000
set_option maxRecDepth 100000

@[simp] abbrev cpR (p : Plat) (B : Nat) : C := .agg [.own B 4 0 p.ps.length, .own (B + 1) 1 0 p.rows.length, .own (B + 2) 1 0 p.cols.length]

theorem copy24 (p : Plat) (h0 : p.ps.length ≤ 1000) (h1 : p.rows.length ≤ 1000) (h2 : p.cols.length ≤ 1000) : Makes Try.prog 24 [encPlat p] [pcsOb true p.ps, clOb p.rows true, clOb p.cols true] (cpR p) := by
  refine Makes.of fun B => ?_
  refine eff_of_body (fn := Try.f24) [.cell 2 25] ⟨Try.func24, rfl, by kernel_rfl⟩ (by kernel_rfl) (by kernel_rfl) (by kernel_rfl) ?_ ?_ fun x hx hσ => ?_
  · simp [wil, C.wi]
  · simp
  repeat refine awp_seq ?_
  refine awp_reg1 (by rw [hx]; kernel_rfl) fun K hK => ?_
  simp (config := { maxSteps := 1000000 }) [ty25]
  refine hK _ ?_
  clear hK K
  first | show AWP _ _ _ _ _ | show ∃ _, _ | skip
  repeat refine awp_seq ?_
  refine awp_drw3 [3, 7, 11] [0, 1, 2, 4, 5, 6, 8, 9, 10, 3, 7, 11, 12, 13] (by rw [hx]; kernel_rfl) (by kernel_rfl) (by kernel_rfl) (by kernel_rfl) fun K hK => ?_
  simp (config := { maxSteps := 1000000 }) [ty25, ty22, ty23, ty45, ty3]
  refine ⟨by omega, by omega, by omega, ?_⟩
  refine hK _ ?_
  clear hK K
  first | show AWP _ _ _ _ _ | show ∃ _, _ | skip
  repeat refine awp_seq ?_
  refine awp_ret ?_
  refine And.intro (Or.inr rfl) ?_
  refine ⟨.agg [.own 6 4 0 p.ps.length, .own 10 1 0 p.rows.length, .own 14 1 0 p.cols.length], [(B, 6, .live (pcsOb true p.ps)), (B + 1, 10, .live (clOb p.rows true)), (B + 2, 14, .live (clOb p.cols true))], by simp [retC, resC, ty25], shpX hσ (by simp [keysO]) (by simp) (by simp) ?_, by simp [mtc, mtl, mT], rfl⟩
  simp [SlotOk]
  exact ⟨.same (pcs_pure _), .same (ints_pure _), .same (ints_pure _)⟩

/-- A copy of a plat, as data. -/
@[simp] abbrev cpP (ps : List Pc) (rows cols : List Int) : Plat := ⟨false, false, false, ps, rows, cols⟩

theorem viewC_plat {σ : Nat → Slot} {n k1 k2 k3 n1 n2 n3 : Nat} {ps : List Pc} {rows cols : List Int} (h1 : σ k1 = .live (pcsOb true ps)) (h2 : σ k2 = .live (clOb rows true)) (h3 : σ k3 = .live (clOb cols true)) (e1 : n1 = ps.length) (e2 : n2 = rows.length) (e3 : n3 = cols.length) :
    viewC σ (n + 2) (.agg [.own k1 4 0 n1, .own k2 1 0 n2, .own k3 1 0 n3]) = some (encPlat (cpP ps rows cols)) := by
  unfold viewC
  rw [if_neg (by simp [C.isPure, purel])]
  simp only [mapO]
  rw [viewC_own (o := pcsOb true ps) h1 rfl (by simp [e1]) (pcs_pure _), viewC_own (o := clOb rows true) h2 rfl (by simp [e2]) (ints_pure _), viewC_own (o := clOb cols true) h3 rfl (by simp [e3]) (ints_pure _)]
  simp

theorem mapO_one {f : C → Option C} {a b : C} (h : f a = some b) : mapO f [a] = some [b] := by simp [mapO, h]

theorem mapO_two {f : C → Option C} {a b c d : C} (h : f a = some b) (h2 : f c = some d) : mapO f [a, c] = some [b, d] := by simp [mapO, h, h2]
theorem plat_pure1 (p : Plat) : (encPlat p).isPure = true := by simp [C.isPure, purel]

theorem set_pure (ps : List Pc) (k : Nat) (q : Pc) : ((ps.map cP).set k [.int .i64 q.row, .int .i64 q.col, .int .i64 q.area, .int .i64 q.off]).all purel = true := by
  have := pcs_pure (ps.set k q)
  rw [List.map_set] at this
  exact this

theorem isE_set (ps : List Pc) (k : Nat) (q : Pc) : (ps.set k q).isEmpty = ps.isEmpty := by
  cases ps with
  | nil => rfl
  | cons a l => cases k <;> rfl

theorem isP_cp (p : Plat) (f : Nat → Pc → Pc) (l : List Int) : IsP (cpP (mapTo f p.ps p.ps.length) p.rows p.cols) l ↔ IsP (withP p f) l := Iff.rfl

theorem fe_cp (p : Plat) (f : Nat → Pc → Pc) : Fe (cpP (mapTo f p.ps p.ps.length) p.rows p.cols) ↔ Fe (withP p f) := Iff.rfl

/-- One parcel is settled. -/
theorem span_set {p : Plat} {k : Nat} (hk : k < p.ps.length) (n : Int) : mapTo (fSpan k n) p.ps p.ps.length = p.ps.set k ⟨p.ps[k].row, p.ps[k].col, n, 0⟩ := by
  apply List.ext_getElem?
  intro j
  by_cases hj : j < p.ps.length
  · rw [mapTo_get _ _ _ hj, if_pos hj]
    rw [List.getElem?_set]
    by_cases e : k = j
    · subst e
      rw [if_pos rfl, if_pos hk]
      simp [fSpan, hk]
    · rw [if_neg e, List.getElem?_eq_getElem hj]
      simp [fSpan]
      intro e2; omega
  · rw [List.getElem?_eq_none (by simpa using hj), List.getElem?_eq_none (by simpa using hj)]

theorem sum_settled {p : Plat} {k : Nat} (hk : k < p.ps.length) (n : Int) {l : List Int} (hl : Flow.gi l k = n) : sumC (cpP (mapTo (fSpan k n) p.ps p.ps.length) p.rows p.cols) l + chgI (pcA p k) n = sumC p l := by
  unfold sumC
  have hlen : (cpP (mapTo (fSpan k n) p.ps p.ps.length) p.rows p.cols).ps.length = p.ps.length := by simp
  rw [hlen, sumTo_eq, sumTo_eq]
  have key : ∀ m, m ≤ p.ps.length → Flow.sumN (chgF (cpP (mapTo (fSpan k n) p.ps p.ps.length) p.rows p.cols) l) m + (if k < m then chgI (pcA p k) n else 0) = Flow.sumN (chgF p l) m := by
    intro m
    induction m with
    | zero => intro _; simp [Flow.sumN]
    | succ m ih =>
      intro hm
      have ih := ih (by omega)
      have e := pcA_with (p := p) (f := fSpan k n) (i := m) (by omega)
      have e' : pcA (cpP (mapTo (fSpan k n) p.ps p.ps.length) p.rows p.cols) m = fSpan k n m (pcA p m) := e
      simp only [Flow.sumN]
      have c1 : chgF (cpP (mapTo (fSpan k n) p.ps p.ps.length) p.rows p.cols) l m = chgI (fSpan k n m (pcA p m)) (Flow.gi l m) := by
        show chgI (pcA (cpP (mapTo (fSpan k n) p.ps p.ps.length) p.rows p.cols) m) (Flow.gi l m) = _
        rw [e']
      have c2 : chgF p l m = chgI (pcA p m) (Flow.gi l m) := rfl
      rw [c1, c2]
      by_cases hkm : m = k
      · subst hkm
        rw [if_neg (by omega)] at ih
        rw [if_pos (by omega), hl]
        have : chgI (fSpan m n m (pcA p m)) n = 0 := by simp [fSpan, chgI]
        omega
      · have : fSpan k n m (pcA p m) = pcA p m := by unfold fSpan; rw [if_neg (by omega)]
        rw [this]
        by_cases hlt : k < m
        · rw [if_pos hlt] at ih
          rw [if_pos (by omega)]; omega
        · rw [if_neg hlt] at ih
          rw [if_neg (by omega)]; omega
  have := key p.ps.length (Nat.le_refl _)
  rwa [if_pos hk] at this

theorem sum_bd {p : Plat} (hp : PlatOk p) {l : List Int} (h : IsP p l) : 0 ≤ sumC p l ∧ sumC p l ≤ 10000 := by
  have h8 := hp.n8
  have hb : ∀ i, i < p.ps.length → 0 ≤ chgF p l i ∧ chgF p l i ≤ 1098 := by
    intro i hi
    have h1 := isP_bd h hi
    have hw := (pc_in hp.w i hi).1
    have e : chgF p l i = chgI (pcA p i) (Flow.gi l i) := rfl
    rw [e]
    unfold PcW at hw
    unfold lowI highI at h1
    unfold chgI
    omega
  unfold sumC
  rw [sumTo_eq]
  have h1 := sumN_bd (f := chgF p l) (b := 1098) (n := p.ps.length) fun i hi => by have := hb i hi; omega
  have h2 := Flow.sumN_le (f := fun _ => 0) (g := chgF p l) (n := p.ps.length) fun i hi => (hb i hi).1
  rw [Flow.sumN_zero] at h2
  omega

theorem least_fe (p : Plat) (hp : PlatOk p) (hf : Fe p) : ∃ l, IsP p l ∧ (∀ y, IsP p y → sumC p l ≤ sumC p y) ∧ Pure Try.prog 25 [encPlat p] (.tup [encI (sumC p l), encI 0]) ∧ Pure Try.prog 16 [encPlat p] (.tup [.sl l.isEmpty false (l.map cI), encI 0]) := by
  obtain ⟨r, h1, h2, h3⟩ := least_c p hp
  cases r with
  | none => obtain ⟨l, hl⟩ := hf; exact absurd hl (h3.2 l)
  | some l => exact ⟨l, h3.1, h3.2, h1, h2⟩

theorem least_no (p : Plat) (hp : PlatOk p) (hf : ¬ Fe p) : Pure Try.prog 25 [encPlat p] (.tup [encI 0, encI 3]) ∧ Pure Try.prog 16 [encPlat p] (.tup [.sl true true [], encI 3]) := by
  obtain ⟨r, h1, h2, h3⟩ := least_c p hp
  cases r with
  | none => exact ⟨h1, h2⟩
  | some l => exact absurd ⟨l, h3.1⟩ hf

@[simp] theorem updK_apply (σ : Nat → Slot) (B : Nat) (obs : List Ob) (k : Nat) : updK σ B obs k = if B ≤ k ∧ k < B + obs.length then .live (obs[k - B]?.getD ⟨false, false, 0, []⟩) else σ k := rfl

@[simp] abbrev platBox (B : Nat) (p : Plat) : Ob := ⟨false, false, 3, [[.own B 4 0 p.ps.length, .own (B + 1) 1 0 p.rows.length, .own (B + 2) 1 0 p.cols.length]]⟩

/-- A call that makes several objects. -/
theorem makesL {P : Program} {ops : Array Oper} {l : List Oper} {K : AS → Prop} {s : AS} {d : Option Nat} {f : FuncId} {args : List C} {obs : List Ob} {r : Nat → C} (B : Nat) (hp : Makes P f args obs r) (hf : ∀ q, B ≤ q → q < B + obs.length → s.sto q = .free)
    (h : evalL P ops l ⟨putE s.env d (r B), updK s.sto B obs⟩ K) : contC P ops l K s d f args := doesL (hp s.sto B hf) h
theorem makesD {P : Program} {ops : Array Oper} {na : List Nat} {l : List (Nat × Oper)} {K : AS → Prop} {s : AS} {d : Nat} {f : FuncId} {args : List C} {obs : List Ob} {r : Nat → C} {m : Nat} (hp : Makes P f args obs r) (hf : ∀ q, mkB d ≤ q → q < mkB d + obs.length → s.sto q = .free)
    (hm : m = 0 ∨ m = 4) (h : evalD P ops na l ⟨putE s.env (some d) (r (mkB d)), updK s.sto (mkB d) obs⟩ K) : contCD P ops na l K s (some d) m f args :=
  .inr (.inr (.inl ⟨hm, _, _, hp s.sto (mkB d) hf, fun _ => ⟨obs, r, d, rfl, hp, hf, rfl, rfl⟩, h⟩))

theorem rowsOk_box {m : List (Nat × Nat)} {a b c a' b' c' : C} (h1 : mtc m a a') (h2 : mtc m b b') (h3 : mtc m c c') (c1 : a'.cell = true) (c2 : b'.cell = true) (c3 : c'.cell = true) : RowsOk m [[a, b, c]] [[a', b', c']] := by
  refine .cons ?_ ?_ .nil
  · simp [mtl, h1, h2, h3]
  · simp only [List.all_cons, c1, c2, c3]; rfl

end Go.Proofs.Ytgcmjidphcafnaa

namespace Go.Proofs.Ytgcmjidphcafnaa
open Go Go.Abs

set_option maxHeartbeats 2000000

-- the least sum, the least worst change and the fewest changes

/-- How many parcels change. -/
def manyC (p : Plat) (l : List Int) : Nat := Flow.cnt (fun i => decide (chgF p l i ≠ 0)) p.ps.length

def MinS (p : Plat) (s : Int) : Prop := (∃ l, IsP p l ∧ sumC p l = s) ∧ ∀ l, IsP p l → s ≤ sumC p l
def MinW (p : Plat) (n : Int) : Prop := 0 ≤ n ∧ (∃ l, IsP p l ∧ ∀ i, i < p.ps.length → chgF p l i ≤ n) ∧ ∀ l n', IsP p l → 0 ≤ n' → (∀ i, i < p.ps.length → chgF p l i ≤ n') → n ≤ n'
def MinF (p : Plat) (k : Nat) : Prop := (∃ l, IsP p l ∧ manyC p l ≤ k) ∧ ∀ l, IsP p l → k ≤ manyC p l

theorem chgF_eq (p : Plat) (l : List Int) (i : Nat) : chgF p l i = max ((pcA p i).area - Flow.gi l i) (Flow.gi l i - (pcA p i).area) := rfl

theorem pcA_ok {p : Plat} (hp : PlatOk p) {i : Nat} (hi : i < p.ps.length) : PcOk (pcA p i) := by
  have : pcA p i = p.ps[i] := by simp [pcA, hi]
  rw [this]; exact hp.ps _ (List.getElem_mem hi)

theorem chgF_off {p : Plat} (hp : PlatOk p) {l : List Int} (h : IsP p l) {i : Nat} (hi : i < p.ps.length) : 0 ≤ chgF p l i ∧ chgF p l i ≤ 99 := by
  have h1 := isP_bd h hi
  have hq := pcA_ok hp hi
  unfold PcOk at hq
  unfold lowI highI at h1
  rw [chgF_eq]; omega

theorem fe_even {p : Plat} (hp : PlatOk p) {n : Int} (hn : 0 ≤ n) {l : List Int} : IsP (withP p (fEven n)) l ↔ IsP p l ∧ ∀ i, i < p.ps.length → chgF p l i ≤ n := by
  rw [isP_with (fEven_rc n)]
  constructor
  · rintro ⟨h1, h2, h3⟩
    have key : ∀ i, i < l.length → (lowI (pcA p i) ≤ Flow.gi l i ∧ Flow.gi l i ≤ highI (pcA p i)) ∧ chgF p l i ≤ n := by
      intro i hi
      have := h2 i hi
      have hq := pcA_ok hp (i := i) (by omega)
      unfold PcOk at hq
      rw [chgF_eq]
      unfold lowI highI fEven at this
      unfold lowI highI
      simp only at this
      omega
    exact ⟨⟨h1, fun i hi => (key i hi).1, h3⟩, fun i hi => (key i (by omega)).2⟩
  · rintro ⟨⟨h1, h2, h3⟩, h4⟩
    refine ⟨h1, fun i hi => ?_, h3⟩
    have h2' : lowI (pcA p i) ≤ Flow.gi l i ∧ Flow.gi l i ≤ highI (pcA p i) := h2 i hi
    have h4' := h4 i (by omega)
    rw [chgF_eq] at h4'
    unfold lowI highI at h2'
    unfold lowI highI fEven
    simp only
    omega

theorem fe_few {p : Plat} (hp : PlatOk p) {s : Nat} {l : List Int} : IsP (withP p (fFew s)) l ↔ IsP p l ∧ ∀ i, i < p.ps.length → Nat.testBit s i = false → chgF p l i = 0 := by
  rw [isP_with (fFew_rc s)]
  constructor
  · rintro ⟨h1, h2, h3⟩
    have key : ∀ i, i < l.length → (lowI (pcA p i) ≤ Flow.gi l i ∧ Flow.gi l i ≤ highI (pcA p i)) ∧ (Nat.testBit s i = false → chgF p l i = 0) := by
      intro i hi
      have := h2 i hi
      have hq := pcA_ok hp (i := i) (by omega)
      unfold PcOk at hq
      rw [chgF_eq]
      unfold lowI highI fFew at this
      unfold lowI highI
      simp only at this
      cases hb : Nat.testBit s i with
      | true => rw [hb, if_pos rfl] at this; exact ⟨this, fun h => by simp at h⟩
      | false => rw [hb, if_neg (by simp)] at this; exact ⟨by omega, fun _ => by omega⟩
    exact ⟨⟨h1, fun i hi => (key i hi).1, h3⟩, fun i hi => (key i (by omega)).2⟩
  · rintro ⟨⟨h1, h2, h3⟩, h4⟩
    refine ⟨h1, fun i hi => ?_, h3⟩
    have h2' : lowI (pcA p i) ≤ Flow.gi l i ∧ Flow.gi l i ≤ highI (pcA p i) := h2 i hi
    have h4' := h4 i (by omega)
    have hq := pcA_ok hp (i := i) (by omega)
    unfold PcOk at hq
    rw [chgF_eq] at h4'
    unfold lowI highI at h2'
    unfold lowI highI fFew
    simp only
    cases hb : Nat.testBit s i with
    | true => rw [if_pos rfl]; exact h2'
    | false => rw [if_neg (by simp)]; have := h4' hb; omega

theorem cnt_le' {P Q : Nat → Bool} : ∀ {n m : Nat}, n ≤ m → (∀ x, x < n → P x = true → Q x = true) → Flow.cnt P n ≤ Flow.cnt Q m
  | 0, m, _, _ => by simp [Flow.cnt]
  | n + 1, 0, h, _ => by omega
  | n + 1, m + 1, h, hpq => by
    by_cases e : n = m
    · subst e
      have ih := cnt_le' (Nat.le_refl n) (fun x hx => hpq x (by omega))
      simp only [Flow.cnt]
      have := hpq n (by omega)
      cases hP : P n with
      | true => rw [this hP]; simpa using ih
      | false => simp; omega
    · have ih := cnt_le' (n := n + 1) (m := m) (by omega) hpq
      simp only [Flow.cnt] at ih ⊢
      omega

theorem minW_of {p : Plat} (hp : PlatOk p) {n : Nat} {l : List Int} (h : EvenPost p (some (n, l))) : n < 100 ∧ MinW p n := by
  obtain ⟨h1, h2, h3⟩ := h
  refine ⟨h1, by omega, ⟨l, (fe_even hp (by omega)).1 h2⟩, fun l' n' hl' hn' hb => ?_⟩
  apply Classical.byContradiction
  intro hc
  have hnn : n'.toNat < n := by omega
  refine h3 n'.toNat hnn ⟨l', (fe_even hp (by omega)).2 ⟨hl', fun i hi => ?_⟩⟩
  have := hb i hi
  omega

theorem even_none {p : Plat} (hp : PlatOk p) (h : EvenPost p none) : ¬ Fe p := by
  rintro ⟨l, hl⟩
  exact h 99 (by omega) ⟨l, (fe_even hp (by omega)).2 ⟨hl, fun i hi => (chgF_off hp hl hi).2⟩⟩

theorem few_none' {p : Plat} (hp : PlatOk p) (h : FewPost p none) : ¬ Fe p := by
  rintro ⟨l, hl⟩
  obtain ⟨s, h1, h2⟩ := bits_ex (fun _ => true) p.ps.length
  have h8 := hp.n8
  have hpop : popc s ≤ p.ps.length := by
    unfold popc
    have := cnt_le' (P := fun i => Nat.testBit s i) (Q := fun i => decide (i < p.ps.length)) (Nat.le_refl 8) fun x hx hb => by
      apply Classical.byContradiction
      intro hc
      have : p.ps.length ≤ x := by simpa using hc
      have := Nat.testBit_lt_two_pow (i := x) (x := s) (Nat.lt_of_lt_of_le h1 (Nat.pow_le_pow_right (by omega) this))
      rw [this] at hb; simp at hb
    refine Nat.le_trans this ?_
    have key : ∀ m k, Flow.cnt (fun i => decide (i < k)) m ≤ k := by
      intro m k
      induction m with
      | zero => simp [Flow.cnt]
      | succ m ih =>
        simp only [Flow.cnt]
        by_cases hk : m < k
        · have : ∀ j, j ≤ m → Flow.cnt (fun i => decide (i < k)) j ≤ j := fun j _ => Flow.cnt_le _ j
          have := this m (Nat.le_refl m)
          simp [hk]; omega
        · simp [hk]; omega
    exact key _ _
  exact h (popc s) hpop s h1 ⟨rfl, l, (fe_few hp).2 ⟨hl, fun i hi hb => by rw [h2 i hi] at hb; simp at hb⟩⟩

theorem minF_of {p : Plat} (hp : PlatOk p) {k : Nat} (h : FewPost p (some k)) : k ≤ p.ps.length ∧ MinF p k := by
  obtain ⟨h1, ⟨s, hs, hk, l, hl⟩, h3⟩ := h
  have h8 := hp.n8
  have hl' := (fe_few hp).1 hl
  refine ⟨h1, ⟨l, hl'.1, ?_⟩, fun l' hl2 => ?_⟩
  · rw [← hk]
    refine cnt_le' h8 fun x hx hb => ?_
    cases hb2 : Nat.testBit s x with
    | true => rfl
    | false => have := hl'.2 x hx hb2; simp [this] at hb
  · apply Classical.byContradiction
    intro hc
    obtain ⟨s', e1, e2⟩ := bits_ex (fun i => decide (chgF p l' i ≠ 0)) p.ps.length
    have hp' : popc s' = manyC p l' := by
      unfold popc manyC
      apply Nat.le_antisymm
      · have : ∀ m, p.ps.length ≤ m → Flow.cnt (fun i => Nat.testBit s' i) m = Flow.cnt (fun i => Nat.testBit s' i) p.ps.length := by
          intro m hm
          induction m with
          | zero => rw [Nat.le_zero.1 hm]
          | succ m ih =>
            by_cases e : p.ps.length = m + 1
            · rw [e]
            · have ih := ih (by omega)
              simp only [Flow.cnt]
              have hz : Nat.testBit s' m = false := Nat.testBit_lt_two_pow (Nat.lt_of_lt_of_le e1 (Nat.pow_le_pow_right (by omega) (by omega)))
              simp only [hz]; simpa using ih
        rw [this 8 h8]
        exact cnt_le' (Nat.le_refl _) fun x hx hb => by rw [e2 x hx] at hb; exact hb
      · exact cnt_le' h8 fun x hx hb => by rw [e2 x hx]; exact hb
    refine h3 (manyC p l') (by omega) s' e1 ⟨hp', l', (fe_few hp).2 ⟨hl2, fun i hi hb => ?_⟩⟩
    rw [e2 i hi] at hb
    simpa using hb

theorem sumC_ge {p : Plat} (hp : PlatOk p) {l : List Int} (h : IsP p l) {i : Nat} (hi : i < p.ps.length) : chgF p l i ≤ sumC p l := by
  unfold sumC
  rw [sumTo_eq]
  have key : ∀ m, m ≤ p.ps.length → (0 ≤ Flow.sumN (chgF p l) m ∧ (i < m → chgF p l i ≤ Flow.sumN (chgF p l) m)) := by
    intro m
    induction m with
    | zero => intro _; exact ⟨by simp [Flow.sumN], fun h => by omega⟩
    | succ m ih =>
      intro hm
      have ih := ih (by omega)
      have h1 := chgF_off hp h (i := m) (by omega)
      have h2 := chgF_off hp h hi
      simp only [Flow.sumN]
      refine ⟨by omega, fun hh => ?_⟩
      by_cases e : i = m
      · subst e; omega
      · have := ih.2 (by omega); omega
  exact (key _ (Nat.le_refl _)).2 hi

theorem manyC_le {p : Plat} (hp : PlatOk p) {l : List Int} (h : IsP p l) : (manyC p l : Int) ≤ sumC p l := by
  unfold sumC manyC
  rw [sumTo_eq]
  have key : ∀ m, m ≤ p.ps.length → (Flow.cnt (fun i => decide (chgF p l i ≠ 0)) m : Int) ≤ Flow.sumN (chgF p l) m := by
    intro m
    induction m with
    | zero => intro _; simp [Flow.sumN, Flow.cnt]
    | succ m ih =>
      intro hm
      have ih := ih (by omega)
      have h1 := chgF_off hp h (i := m) (by omega)
      simp only [Flow.sumN, Flow.cnt]
      by_cases e : chgF p l m = 0
      · rw [if_neg (by simp [e])]; omega
      · rw [if_pos (by simp [e])]; omega
  exact key _ (Nat.le_refl _)

theorem sumC_le {p : Plat} {l : List Int} {n : Int} (hb : ∀ i, i < p.ps.length → chgF p l i ≤ n) : sumC p l ≤ p.ps.length * n := by
  unfold sumC
  rw [sumTo_eq]
  have key : ∀ m : Nat, m ≤ p.ps.length → Flow.sumN (chgF p l) m ≤ m * n := by
    intro m
    induction m with
    | zero => intro _; simp [Flow.sumN]
    | succ m ih =>
      intro hm
      have ih := ih (by omega)
      have h1 := hb m (by omega)
      simp only [Flow.sumN]
      have : ((m + 1 : Nat) : Int) * n = m * n + n := by rw [Int.natCast_add, Int.add_mul]; simp
      omega
  exact key _ (Nat.le_refl _)

theorem many_zero {p : Plat} {l : List Int} (h : manyC p l = 0) : ∀ i, i < p.ps.length → chgF p l i = 0 := by
  unfold manyC at h
  have key : ∀ m, Flow.cnt (fun i => decide (chgF p l i ≠ 0)) m = 0 → ∀ i, i < m → chgF p l i = 0 := by
    intro m
    induction m with
    | zero => intro _ i hi; omega
    | succ m ih =>
      intro h i hi
      simp only [Flow.cnt] at h
      by_cases e : chgF p l m = 0
      · by_cases e2 : i = m
        · subst e2; exact e
        · exact ih (by omega) i (by omega)
      · simp [e] at h
  exact key _ h

theorem eq_areas {p : Plat} {l : List Int} (h : IsP p l) (hz : ∀ i, i < p.ps.length → chgF p l i = 0) : l = areasTo p p.ps.length := by
  have hl := h.1
  apply List.ext_getElem?
  intro i
  by_cases hi : i < p.ps.length
  · have := hz i hi
    rw [chgF_eq] at this
    have e : Flow.gi l i = (pcA p i).area := by omega
    have e1 : l[i]? = some (Flow.gi l i) := by simp [Flow.gi, hl, hi]
    rw [e1, e]
    simp [areasTo, pcA, hi]
  · rw [List.getElem?_eq_none (by omega), List.getElem?_eq_none (by rw [areasTo_len p _ (Nat.le_refl _)]; omega)]

theorem areas_zero {p : Plat} {i : Nat} (hi : i < p.ps.length) : chgF p (areasTo p p.ps.length) i = 0 := by
  rw [chgF_eq]
  simp [areasTo, Flow.gi, pcA, hi]

/-- How the three least values hang together. -/
theorem three_law {p : Plat} (hp : PlatOk p) {s n : Int} {k : Nat} (hs : MinS p s) (hw : MinW p n) (hf : MinF p k) (hk : k ≤ p.ps.length) (hn : n ≤ 99) :
    0 ≤ s ∧ 0 ≤ n ∧ n ≤ s ∧ (k : Int) ≤ s ∧ s ≤ n * p.ps.length ∧ s ≤ 792 ∧ (s = 0 ↔ IsP p (areasTo p p.ps.length)) ∧ (n = 0 ↔ IsP p (areasTo p p.ps.length)) ∧ (k = 0 ↔ IsP p (areasTo p p.ps.length)) := by
  have h8 := hp.n8
  obtain ⟨⟨l, hl, hls⟩, hsm⟩ := hs
  obtain ⟨hn0, ⟨l2, hl2, hb2⟩, hwm⟩ := hw
  obtain ⟨⟨l3, hl3, hb3⟩, hfm⟩ := hf
  have hs0 := (sum_bd hp hl).1
  rw [hls] at hs0
  have q1 : n ≤ s := hwm l s hl hs0 fun i hi => by have := sumC_ge hp hl hi; omega
  have q2 : (k : Int) ≤ s := by have := hfm l hl; have := manyC_le hp hl; omega
  have q3 : s ≤ n * p.ps.length := by have := hsm l2 hl2; have := sumC_le hb2; rw [Int.mul_comm]; omega
  have q4 : s ≤ 792 := by
    have h1 : n * (p.ps.length : Int) ≤ 99 * p.ps.length := Int.mul_le_mul_of_nonneg_right hn (by omega)
    omega
  have a1 : IsP p (areasTo p p.ps.length) → s ≤ 0 := fun h => by
    have h1 := hsm _ h
    have h2 := sumC_le (p := p) (l := areasTo p p.ps.length) (n := 0) fun i hi => by rw [areas_zero hi]; omega
    omega
  refine ⟨hs0, hn0, q1, q2, q3, q4, ⟨fun e => ?_, fun h => by have := a1 h; omega⟩, ⟨fun e => ?_, fun h => by have := a1 h; omega⟩, ⟨fun e => ?_, fun h => by have := a1 h; omega⟩⟩
  · have : l = areasTo p p.ps.length := eq_areas hl fun i hi => by
      have := sumC_ge hp hl hi
      have := chgF_off hp hl hi
      omega
    rwa [this] at hl
  · have : l2 = areasTo p p.ps.length := eq_areas hl2 fun i hi => by
      have := hb2 i hi
      have := chgF_off hp hl2 hi
      omega
    rwa [this] at hl2
  · have : l3 = areasTo p p.ps.length := eq_areas hl3 (many_zero (by omega))
    rwa [this] at hl3

/-- The results at a plat that can be settled, and their ends. -/
structure Res4 (p : Plat) (s n : Int) (k : Nat) : Prop where
  hs : MinS p s
  hw : MinW p n
  hf : MinF p k
  n99 : n ≤ 99
  k8 : k ≤ p.ps.length
  p25 : Pure Try.prog 25 [encPlat p] (.tup [encI s, encI 0])
  p37 : Pure Try.prog 37 [encPlat p] (.tup [encI n, encI 0])
  p38 : Pure Try.prog 38 [encPlat p] (.tup [encI k, encI 0])

theorem res4_fe (p : Plat) (hp : PlatOk p) (hpn : p.pn = true → p.ps = []) (hf : Fe p) : ∃ s n k, Res4 p s n k := by
  obtain ⟨l, h1, h2, h3, -⟩ := least_fe p hp hf
  obtain ⟨o, e1, e2⟩ := even_c p hp hpn
  obtain ⟨q, f1, f2⟩ := few_c p hp hpn
  match o, e1, e2 with
  | none, _, e2 => exact absurd hf (even_none hp e2)
  | some (n, l'), e1, e2 =>
    match q, f1, f2 with
    | none, _, f2 => exact absurd hf (few_none' hp f2)
    | some k, f1, f2 =>
      have g1 := minW_of hp e2
      have g2 := minF_of hp f2
      exact ⟨sumC p l, n, k, ⟨⟨l, h1, rfl⟩, h2⟩, g1.2, g2.2, by omega, g2.1, h3, worst37 p n 0 _ (by simp [C.isPure]) e1, f1⟩

theorem res4_no (p : Plat) (hp : PlatOk p) (hpn : p.pn = true → p.ps = []) (hf : ¬ Fe p) :
    Pure Try.prog 25 [encPlat p] (.tup [encI 0, encI 3]) ∧ Pure Try.prog 37 [encPlat p] (.tup [encI 0, encI 3]) ∧ Pure Try.prog 38 [encPlat p] (.tup [encI 0, encI 3]) := by
  have h1 := (least_no p hp hf).1
  obtain ⟨o, e1, e2⟩ := even_c p hp hpn
  obtain ⟨q, f1, f2⟩ := few_c p hp hpn
  match o, e1, e2 with
  | some (n, l'), _, e2 => exact absurd ⟨l', ((fe_even hp (by omega)).1 e2.2.1).1⟩ hf
  | none, e1, e2 =>
    match q, f1, f2 with
    | some k, _, f2 =>
      obtain ⟨_, ⟨s, _, _, l, hl⟩, _⟩ := f2
      exact absurd ⟨l, ((fe_few hp).1 hl).1⟩ hf
    | none, f1, f2 => exact ⟨h1, worst37 p 0 3 _ (by simp [C.isPure, purel]) e1, f1⟩

end Go.Proofs.Ytgcmjidphcafnaa

