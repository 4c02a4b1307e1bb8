/- The machine of abstract values and the contracts of the functions of the program, which the statements of this seat share. No condition. -/
import Derived.Test.YtgnpcijgdhjfpaaGreatDoorB1
import Derived.CallsIn
import Derived.OrdersIn
import Derived.RangeFuncCalls
import Derived.RangeFuncSeq
import Derived.RangeFuncLeaves
import Derived.RangeFuncIn
import Derived.RangeFuncRecord
import Derived.RangeFuncNested

set_option linter.unusedSimpArgs false
set_option linter.unusedVariables false
set_option linter.constructorNameAsVariable false

/- Calls by contract, and one operation of a region on the abstract state. No condition. -/
namespace Go.Abs

mutual
def C.flat : C → Bool
 | .int .. | .bool _ | .str _ | .pnil | .fnil => true
 | .sl nl _ rows | .md nl rows => nl && rows.isEmpty
 | .agg l | .tup l => flatl l
 | _ => false
def flatl : List C → Bool
 | [] => true
 | c :: l => c.flat && flatl l
end

theorem flatl_get : ∀ {l : List C} {i : Nat} {c : C}, flatl l = true → l[i]? = some c → c.flat = true
 | [], _, _, _, h => by simp at h
 | c :: l, i, d, h, hi => by
  simp only [flatl, Bool.and_eq_true] at h
  cases i with
  | zero => simp at hi; subst hi; exact h.1
  | succ i => simp at hi; exact flatl_get h.2 hi

theorem PR.flat {G G' : Nat → Prop} {w w' : World} {c : C} {v : Value} (h : PR G w c v) (hf : c.flat = true) : PR G' w' c v := by
 induction h with
 | int k n => exact .int k n
 | bool b => exact .bool b
 | str s => exact .str s
 | pnil => exact .pnil
 | fnil => exact .fnil
 | slnil full => exact .slnil full
 | slemp full a => exact .slemp full a
 | sl cell hG hb hn hfu hc hsz hcell hcl hr ih => simp [C.flat] at hf
 | ip cell hG hb ho hcell hcl hr ih => simp [C.flat] at hf
 | mdnil => exact .mdnil
 | md cell hG hb hc hbo hn he hr ih => simp [C.flat] at hf
 | mdp hb h ih => simp [C.flat] at hf
 | val v => simp [C.flat] at hf
 | mpinN => simp [C.flat] at hf
 | mpin hG hb hc => simp [C.flat] at hf
 | fn h1 h2 _ _ ih1 ih2 => simp [C.flat] at hf
 | agg h _ ih => simp only [C.flat] at hf; exact .agg h fun i c hi => ih i c hi (flatl_get hf hi)
 | tup h _ ih => simp only [C.flat] at hf; exact .tup h fun i c hi => ih i c hi (flatl_get hf hi)

def mapO {α β : Type} (f : α → Option β) : List α → Option (List β)
 | [] => some []
 | c :: l => match f c, mapO f l with
  | some d, some m => some (d :: m)
  | _, _ => none

theorem mapO_get {α β : Type} {f : α → Option β} : ∀ {l : List α} {m : List β}, mapO f l = some m → m.length = l.length ∧ ∀ (i : Nat) (d : β), m[i]? = some d → ∃ c, l[i]? = some c ∧ f c = some d
 | [], m, h => by simp [mapO] at h; subst h; simp
 | c :: l, m, h => by
  simp only [mapO] at h
  split at h
  ·rename_i d m' h1 h2
   simp only [Option.some.injEq] at h
   subst h
   obtain ⟨g1, g2⟩ := mapO_get h2
   refine ⟨by simp [g1], fun i e hi => ?_⟩
   cases i with
   | zero => simp at hi; subst hi; exact ⟨c, by simp, h1⟩
   | succ i => simp at hi; simpa using g2 i e hi
  ·simp at h

def viewC (σ : Nat → Slot) : Nat → C → Option C
 | 0, _ => none
 | n + 1, c =>
  if c.isPure then some c else
  match c with
  | .own k sz lo m => match σ k with
   | .live o => if lo + m ≤ o.rows.length ∧ o.sz = sz then
     (if ((o.rows.drop lo).take m).all purel then some ((o.rows.drop lo).take m) else mapO (mapO (viewC σ n)) ((o.rows.drop lo).take m)).map (.sl (o.nl && !o.em) false)
    else none
   | _ => none
  | .ptr k sz i j => match σ k with
   | .live o => if o.nl = false ∧ o.sz = sz then
     match o.rows[i]? with
     | some row => (mapO (viewC σ n) row).map fun row' => .ip row' j
     | none => none
    else none
   | _ => none
  | .mp k => match σ k with
   | .live o => if o.nl = false ∧ o.sz = 0 ∧ o.rows.all purel = true then some (.md false o.rows) else none
   | _ => none
  | .fn f a b => match mapO (viewC σ n) a, mapO (viewC σ n) b with
   | some a', some b' => some (.fn f a' b')
   | _, _ => none
  | .agg l => (mapO (viewC σ n) l).map .agg
  | .tup l => (mapO (viewC σ n) l).map .tup
  | _ => none

def viewL (σ : Nat → Slot) (l : List C) : Option (List C) := mapO (viewC σ 6) l

theorem viewC_cell {σ : Nat → Slot} : ∀ {n : Nat} {c d : C}, viewC σ n c = some d → c.cell = true → d.cell = true
 | 0, c, d, h, _ => by simp [viewC] at h
 | n + 1, c, d, h, hc => by
  unfold viewC at h
  split at h
  ·simp at h; subst h; exact hc
  ·cases c <;> simp only [C.cell, Bool.false_eq_true] at hc <;> simp only at h
   all_goals (first | (simp at h; done) | skip)
   all_goals (repeat' split at h)
   all_goals (first | (simp at h; done) | (simp only [Option.some.injEq] at h; subst h; rfl) | (simp only [Option.map_eq_some_iff] at h; obtain ⟨_, _, rfl⟩ := h; rfl))

theorem viewC_sound {G : Nat → Prop} {ρ : Nat → Nat} {σ : Nat → Slot} {w : World} (hs : StoR G ρ σ w) : ∀ {n : Nat} {c d : C} {v : Value}, viewC σ n c = some d → CR G ρ σ w c v →
  PR (fun b => G b ∨ Owned ρ σ b) w d v
 | 0, c, d, v, h, _ => by simp [viewC] at h
 | n + 1, c, d, v, h, hr => by
  have up : ∀ {c v}, PR G w c v → PR (fun b => G b ∨ Owned ρ σ b) w c v := fun p => p.mono fun b hb hlt => ⟨.inl hb, hlt, rfl⟩
  unfold viewC at h
  split at h
  ·rename_i hp
   simp only [Option.some.injEq] at h
   subst h
   exact up (hr.isPure hp)
  ·rename_i hnp
   clear hnp
   split at h
   ·rename_i k sz lo m
    split at h
    ·rename_i o ho
     split at h
     ·rename_i hc
      obtain ⟨h1, h2⟩ := hc
      simp only [Option.map_eq_some_iff] at h
      obtain ⟨rows', hrows, rfl⟩ := h
      have hlen0 : ((o.rows.drop lo).take m).length = m := by simp; omega
      have hrel : rows'.length = m ∧ ∀ (i : Nat) (row' : List C), rows'[i]? = some row' → ∃ row, ((o.rows.drop lo).take m)[i]? = some row ∧ row'.length = row.length ∧
        ∀ (j : Nat) (d : C), row'[j]? = some d → ∃ c, row[j]? = some c ∧ ∀ v, CR G ρ σ w c v → c.cell = true → PR (fun b => G b ∨ Owned ρ σ b) w d v ∧ d.cell = true := by
       split at hrows
       ·rename_i hall
        simp only [Option.some.injEq] at hrows
        subst hrows
        refine ⟨hlen0, fun i row' hi => ⟨row', hi, rfl, fun j d hj => ⟨d, hj, fun v hv hd => ⟨up (hv.isPure ?_), hd⟩⟩⟩⟩
        rw [List.all_eq_true] at hall
        exact purel_get (hall row' (List.mem_of_getElem? hi)) hj
       ·obtain ⟨m1, m2⟩ := mapO_get hrows
        refine ⟨by rw [m1, hlen0], fun i row' hi => ?_⟩
        obtain ⟨row, g1, g2⟩ := m2 i row' hi
        obtain ⟨m3, m4⟩ := mapO_get g2
        refine ⟨row, g1, m3, fun j d hj => ?_⟩
        obtain ⟨c, e1, e2⟩ := m4 j d hj
        exact ⟨c, e1, fun v hv hc => ⟨viewC_sound hs e2 hv, viewC_cell e2 hc⟩⟩
      obtain ⟨hl', hrel⟩ := hrel
      obtain ⟨o', ho', hcase⟩ := hr.ownOf (by simp [isLive, ho])
      rw [ho] at ho'
      cases ho'
      rcases hcase with ⟨hnl, rfl, rfl, a, ha, rfl⟩ | ⟨hnl, hsz, cap, hcap, rfl, hroom⟩
      ·have : rows' = [] := List.eq_nil_of_length_eq_zero hl'
       subst this
       rw [hnl]
       cases hem : o.em with
       | false =>
        rw [hem] at ha
        cases a with
        | none => exact .slnil _
        | some a => simp at ha
       | true =>
        rw [hem] at ha
        cases a with
        | none => simp at ha
        | some a => exact .slemp _ _
      ·rw [hnl]
       obtain ⟨⟨cs, el, g1, g2, g3⟩, _⟩ := (hs.ob k o ho hnl).cs (by rw [h2]; exact hr.ownZ ho hnl)
       have hget : ∀ (i : Nat) (row' : List C), rows'[i]? = some row' → ∃ row, o.rows[lo + i]? = some row ∧ i < m ∧ row'.length = row.length ∧
         ∀ (j : Nat) (d : C), row'[j]? = some d → ∃ c, row[j]? = some c ∧ ∀ v, CR G ρ σ w c v → c.cell = true → PR (fun b => G b ∨ Owned ρ σ b) w d v ∧ d.cell = true := by
        intro i row' hi
        obtain ⟨row, e1, e2, e3⟩ := hrel i row' hi
        have hlt := (List.getElem?_eq_some_iff.1 e1).1
        rw [hlen0] at hlt
        rw [List.getElem?_take_of_lt hlt, List.getElem?_drop] at e1
        exact ⟨row, e1, hlt, e2, e3⟩
       refine .sl (sz := o.sz) (fun i j => cs.getD ((lo + i) * o.sz + j) undef) (.inr ⟨k, o, ho, hnl, rfl⟩) (hs.ob k o ho hnl).lt hl'.symm (by simp) (by rw [hl']; exact hcap) ?_ ?_ ?_ ?_
       ·intro i row' hi
        obtain ⟨row, e1, e2, e3, e4⟩ := hget i row' hi
        rw [e3]; exact (g3 _ _ e1).1
       ·intro i row' hi j d hj
        obtain ⟨row, e1, e2, e3, e4⟩ := hget i row' hi
        have hj1 : j < o.sz := by have := (List.getElem?_eq_some_iff.1 hj).1; rw [e3, (g3 _ _ e1).1] at this; exact this
        have hlt : (lo + i) * o.sz + j < cs.size := by
         have := in_rows (i := lo + i) (r := o.rows.length) (by omega) hj1
         omega
        have : lo * sz + (i * o.sz + j) = (lo + i) * o.sz + j := by rw [← h2, Nat.add_mul, Nat.add_assoc]
        rw [this]
        simp [World.cell?, g1, hlt]
       ·intro i row' hi j d hj
        obtain ⟨row, e1, e2, e3, e4⟩ := hget i row' hi
        obtain ⟨c, e5, e6⟩ := e4 j d hj
        obtain ⟨e7, e8⟩ := (g3 _ _ e1).2 j c e5
        exact (e6 _ e7 e8).2
       ·intro i row' hi j d hj
        obtain ⟨row, e1, e2, e3, e4⟩ := hget i row' hi
        obtain ⟨c, e5, e6⟩ := e4 j d hj
        obtain ⟨e7, e8⟩ := (g3 _ _ e1).2 j c e5
        exact (e6 _ e7 e8).1
     ·simp at h
    ·simp at h
   ·rename_i k sz i j
    split at h
    ·rename_i o ho
     split at h
     ·rename_i hc
      split at h
      ·rename_i row hrow
       simp only [Option.map_eq_some_iff] at h
       obtain ⟨row', hm, rfl⟩ := h
       obtain ⟨o', ho', _, _, rfl⟩ := hr.ptrOf (by simp [isLive, ho])
       obtain ⟨⟨cs, el, g1, g2, g3⟩, _⟩ := (hs.ob k o ho hc.1).cs (by rw [hc.2]; exact hr.ptrZ ho)
       obtain ⟨g4, g5⟩ := g3 i row hrow
       obtain ⟨m1, m2⟩ := mapO_get hm
       have hi1 : i < o.rows.length := (List.getElem?_eq_some_iff.1 hrow).1
       refine .ip (fun q => cs.getD (i * o.sz + q) undef) (.inr ⟨k, o, ho, hc.1, rfl⟩) (hs.ob k o ho hc.1).lt (off := i * o.sz) (by rw [hc.2]) ?_ ?_ ?_
       ·intro q d hq
        obtain ⟨c, hc1, _⟩ := m2 q d hq
        have hq1 : q < o.sz := by have := (List.getElem?_eq_some_iff.1 hc1).1; omega
        have := in_rows hi1 hq1
        have hlt : i * o.sz + q < cs.size := by omega
        simp [World.cell?, g1, hlt]
       ·intro q d hq
        obtain ⟨c, hc1, hc2⟩ := m2 q d hq
        exact viewC_cell hc2 (g5 q c hc1).2
       ·intro q d hq
        obtain ⟨c, hc1, hc2⟩ := m2 q d hq
        exact viewC_sound hs hc2 (g5 q c hc1).1
      ·simp at h
     ·simp at h
    ·simp at h
   ·rename_i k
    split at h
    ·rename_i o ho
     split at h
     ·rename_i hc
      obtain ⟨h1, h2, h3⟩ := hc
      simp only [Option.some.injEq] at h
      subst h
      cases hr with
      | pure p => cases p
      | mpDead hd hv => rw [ho] at hd; cases hd
      | mp hl hn hz =>
       obtain ⟨es, q, g1, gb, g2, g3⟩ := (hs.ob k o ho h1).ent h2
       refine .md (fun i j => if j = 0 then (es.getD i default).key else (es.getD i default).val) (.inr ⟨k, o, ho, h1, rfl⟩) (hs.ob k o ho h1).lt g1 gb g2 (fun i row hi => ?_) (fun i row hi j c hj => ?_)
       ·obtain ⟨e1, e, e2, e3⟩ := g3 i row hi
        exact ⟨e1, e, e2, by simp [e2], by simp [e2]⟩
       ·obtain ⟨e1, e, e2, e3⟩ := g3 i row hi
        rw [List.all_eq_true] at h3
        have := (e3 j c hj).isPure (purel_get (h3 row (List.mem_of_getElem? hi)) hj)
        simp only [Array.getD_eq_getD_getElem?, e2, Option.getD_some]
        exact up this
     ·simp at h
    ·simp at h
   ·rename_i f a b
    split at h
    ·rename_i a' b' ha hb
     simp only [Option.some.injEq] at h
     subst h
     obtain ⟨v1, v2, rfl, h1, h2⟩ := hr.fnOf
     obtain ⟨m1, m2⟩ := mapO_get ha
     obtain ⟨m3, m4⟩ := mapO_get hb
     refine .fn (by rw [m1, h1.1]) (by rw [m3, h2.1]) (fun i d hi => ?_) (fun i d hi => ?_)
     ·obtain ⟨c, hc1, hc2⟩ := m2 i d hi
      exact viewC_sound hs hc2 (h1.2 i c hc1)
     ·obtain ⟨c, hc1, hc2⟩ := m4 i d hi
      exact viewC_sound hs hc2 (h2.2 i c hc1)
    ·simp at h
   ·simp only [Option.map_eq_some_iff] at h
    obtain ⟨l', hm, rfl⟩ := h
    obtain ⟨vs, rfl, hcl⟩ := hr.aggOf
    obtain ⟨m1, m2⟩ := mapO_get hm
    refine .agg (by rw [m1, hcl.1]) fun i d hi => ?_
    obtain ⟨c, hc1, hc2⟩ := m2 i d hi
    exact viewC_sound hs hc2 (hcl.2 i c hc1)
   ·simp only [Option.map_eq_some_iff] at h
    obtain ⟨l', hm, rfl⟩ := h
    obtain ⟨vs, rfl, hcl⟩ := hr.tupOf
    obtain ⟨m1, m2⟩ := mapO_get hm
    refine .tup (by rw [m1, hcl.1]) fun i d hi => ?_
    obtain ⟨c, hc1, hc2⟩ := m2 i d hi
    exact viewC_sound hs hc2 (hcl.2 i c hc1)
   ·simp at h

structure Grew (w w' : World) : Prop where
 os : w'.os = w.os
 tape : w'.tape = w.tape
 output : w'.output = w.output
 size : w.heap.size ≤ w'.heap.size
 heap : ∀ b, b < w.heap.size → w'.heap[b]? = w.heap[b]?

theorem Grew.refl (w : World) : Grew w w := ⟨rfl, rfl, rfl, Nat.le_refl _, fun _ _ => rfl⟩

def PL (G : Nat → Prop) (w : World) (l : List C) (vs : Array Value) : Prop :=
 vs.size = l.length ∧ ∀ (i : Nat) (c : C), l[i]? = some c → PR G w c (vs.getD i undef)

structure Callable (P : Program) (f : FuncId) : Prop where
 fn : ∃ fn, P.funcs[f]? = some fn ∧ (fn.name == "runtime.NumGoroutine") = false ∧ fn.body.isNone = false

def IntAt (w : World) (b : Nat) : Prop := ∃ m, w.cell? ⟨b, 0, none⟩ = some (.int .i64 m)
abbrev gMax : Option Nat := some 0
def Gk (_P : Program) (w : World) : Prop := ∀ g, gMax = some g → IntAt w g
def GkO (_P : Program) (ρ : Nat → Nat) (σ : Nat → Slot) (w : World) : Prop := ∀ g, gMax = some g → ¬ Owned ρ σ g ∧ IntAt w g
theorem GkO.gk {P : Program} {ρ : Nat → Nat} {σ : Nat → Slot} {w : World} (h : GkO P ρ σ w) : Gk P w := fun g hg => (h g hg).2
theorem Gk.free {P : Program} {ρ : Nat → Nat} {w : World} (h : Gk P w) : GkO P ρ (fun _ => .free) w := fun g hg => ⟨(fun ⟨k, o, h1, _⟩ => by cases h1), h g hg⟩
theorem IntAt.of {w w' : World} {b : Nat} (h : IntAt w b) (e : w'.heap[b]? = w.heap[b]?) : IntAt w' b := by
 obtain ⟨m, hm⟩ := h
 refine ⟨m, ?_⟩
 unfold World.cell? at hm ⊢
 rw [e]; exact hm
theorem IntAt.cells {w : World} {b : Nat} (h : IntAt w b) : ∃ cs el fz, w.heap[b]? = some (.cells cs el fz) := by
 obtain ⟨m, hm⟩ := h
 unfold World.cell? at hm
 split at hm
 ·rename_i cs el fz hh
  exact ⟨_, _, _, hh⟩
 ·cases hm
theorem GkO.at {P : Program} {x : Ctx} {ρ : Nat → Nat} {σ : Nat → Slot} {w : World} (h : GkO P x.ρ x.σ x.w) (f : Frm x ρ σ w) : GkO P ρ σ w := by
 intro g hg
 obtain ⟨h1, h2⟩ := h g hg
 obtain ⟨cs, el, fz, h3⟩ := h2.cells
 have hlt := (Array.getElem?_eq_some_iff.1 h3).1
 refine ⟨fun ho => ?_, h2.of (f.frame g hlt h1 fun he => ?_)⟩
 ·rcases f.own g ho with h4 | h4
  ·exact h1 h4
  ·omega
 ·obtain ⟨⟨r, hr⟩, _⟩ := f.rcd.loop g he
  rw [h3] at hr; cases hr
theorem GkO.less {P : Program} {ρ : Nat → Nat} {σ τ : Nat → Slot} {w : World} (h : GkO P ρ σ w) (ho : ∀ b, Owned ρ τ b → Owned ρ σ b) : GkO P ρ τ w := fun g hg => ⟨fun hb => (h g hg).1 (ho g hb), (h g hg).2⟩

structure Pure (P : Program) (f : FuncId) (args : List C) (r : C) : Prop extends Callable P f where
 calls : ∀ (G : Nat → Prop) (w : World) (vs : Array Value), Gk P w → PL G w args vs →
  Calls P f vs w fun e w' => ∃ v, e = .returned v ∧ PR (fun b => G b ∨ w.heap.size ≤ b) w' r v ∧ Grew w w'

inductive OwnV (G : Nat → Prop) (w : World) (base : Nat) (ob : Ob) : Value → Prop
 | none {a : Option Addr} (hn : ob.nl = true) (hr : ob.rows = []) (ha : a.isNone = !ob.em) : OwnV G w base ob (.slice a 0 0)
 | block {b cap : Nat} {cs : Array Value} {el : TypeId} (hn : ob.nl = false) (hb : base ≤ b) (hh : w.heap[b]? = some (.cells cs el (0, 0))) (hp : 0 < ob.sz) (hl : ob.rows.length ≤ cap) (hc : cap * ob.sz ≤ cs.size)
   (hcells : ∀ (i : Nat) (row : List C), ob.rows[i]? = some row → row.length = ob.sz ∧
    ∀ (j : Nat) (c : C), row[j]? = some c → PR (fun q => G q ∧ q ≠ b) w c (cs.getD (i * ob.sz + j) undef) ∧ c.cell = true) (hB : Tyd ob cs el) :
   OwnV G w base ob (.slice (some ⟨b, 0, none⟩) ob.rows.length cap)

structure Fresh (P : Program) (f : FuncId) (args : List C) (ob : Ob) : Prop extends Callable P f where
 calls : ∀ (G : Nat → Prop) (w : World) (vs : Array Value), Gk P w → PL G w args vs →
  Calls P f vs w fun e w' => ∃ v, e = .returned v ∧ OwnV (fun b => G b ∨ w.heap.size ≤ b) w' w.heap.size ob v ∧ Grew w w'

theorem run_callFunc {P : Program} {f : FuncId} (h : Callable P f) (args : Array Value) (w : World) : (callFunc f args).run P w = .ok (.enter f args) w := by
 obtain ⟨fn, h1, h2, h3⟩ := h.fn
 have h2' : ¬ (fn.name == "runtime.NumGoroutine") = true := by rw [h2]; simp
 simp only [callFunc, Sem.run_bind, run_program, Result.andThen_ok, h1]
 rw [if_neg h2', if_neg (by rw [h3]; simp)]
 rfl

def putE (env : Nat → C) (d : Option Nat) (c : C) : Nat → C :=
 match d with
 | some d => upd env d c
 | none => env

def AS.put (s : AS) (d : Option Nat) (c : C) : AS := ⟨putE s.env d c, s.sto⟩

def AS.ev (s : AS) : Operand → C
 | .tmp t => s.env t
 | .const v => ofV v
 | .global _ => .any
 | .func f => .fn (.func f) [] []

section
variable {P : Program} {x : Ctx} {ρ : Nat → Nat} {w : World} {s : AS} {a : Act}

theorem ofV_CR {G : Nat → Prop} {ρ : Nat → Nat} {σ : Nat → Slot} (v : Value) : CR G ρ σ w (ofV v) v := by
 unfold ofV
 split <;> first
  | exact .pure (.int ..)
  | exact .pure (.bool ..)
  | exact .pure (.str ..)
  | exact .pure .pnil
  | exact .pure (.slnil ..)
  | exact .pure .fnil
  | exact .pure .mdnil
  | exact .any _

def inNt (nt : Nat) (o : Oper) : Bool :=
 (match o.dst with | some d => decide (d < nt) | none => true) && o.op.operands.all fun | .tmp t => decide (t < nt) | _ => true

theorem Sim.ev (h : Sim x ρ s a w) (y : Operand) (hy : ∀ t, y = .tmp t → t < x.nt) : CR (x.Gd ρ s.sto) ρ s.sto w (s.ev y) (a.eval y) := by
 cases y with
 | tmp t => exact h.env t (hy t rfl)
 | const v => exact ofV_CR v
 | global g => exact .any _
 | func f => exact .fn rfl rfl (by simp [AS.ev]) (by simp [AS.ev])

theorem Sim.put (h : Sim x ρ s a w) {d : Option Nat} {c : C} {v : Value} (hd : ∀ t, d = some t → t < x.nt) (hc : CR (x.Gd ρ s.sto) ρ s.sto w c v) : Sim x ρ (s.put d c) (a.put d v) w := by
 cases d with
 | none => exact h
 | some d =>
  refine { h.toFrm with nt := by simp [Act.put, h.nt], defers := h.defers, inr := h.inr, env := fun t ht => ?_ }
  have hdl := hd d rfl
  simp only [AS.put, putE, Act.put, Array.getD_eq_getD_getElem?]
  by_cases htd : t = d
  ·subst htd
   rw [upd_same, Array.getElem?_setIfInBounds_self_of_lt (by rw [h.nt]; exact hdl)]
   exact hc
  ·rw [upd_ne _ _ htd, Array.getElem?_setIfInBounds_ne (Ne.symm htd)]
   have := h.env t ht
   simpa [Array.getD_eq_getD_getElem?] using this

theorem Frm.grew {σ : Nat → Slot} {w' : World} (h : Frm x ρ σ w) (g : Grew w w') : Keeps (x.Gd ρ σ) (x.Gd ρ σ) ρ ρ σ σ w w' ∧ Frm x ρ σ w' := by
 have hK : Keeps (x.Gd ρ σ) (x.Gd ρ σ) ρ ρ σ σ w w' := by
  refine .of (fun D hD => (g.heap D (Array.getElem?_eq_some_iff.1 hD).1).trans hD) ⟨fun b hb hlt => ⟨hb, Nat.lt_of_lt_of_le hlt g.size, .inl (g.heap b hlt)⟩, fun k hk => hk, fun k o hk => .inr ⟨o, hk, rfl, rfl, rfl, fun hn => ⟨rfl, fun cs el fz hc => ?_⟩⟩⟩
  rw [g.heap _ (h.sto.ob k o hk hn).lt] at hc
  exact ⟨_, _, _, hc, Nat.le_refl _⟩
 refine ⟨hK, ⟨⟨fun k o hk hn => (h.sto.ob k o hk hn).keeps hK.toKeeps0 (g.heap _ (h.sto.ob k o hk hn).lt), h.sto.nil, h.sto.inj⟩, h.own, fun b hb hnb hex => ?_, h.rcd.keep hK.toKeeps0 (fun _ hk => hk) fun b r _ hb => (g.heap b (Array.getElem?_eq_some_iff.1 hb).1).trans hb, Nat.le_trans h.size g.size, g.os.trans h.os, g.tape.trans h.tape, g.output.trans h.output, h.hist.trans hK.toKeeps0⟩⟩
 rw [g.heap b (by have := h.size; omega)]
 exact h.frame b hb hnb hex

theorem convB_sound {σ : Nat → Slot} (h : Frm x ρ σ w) {s d : TypeId} {y c : C} {u : Value} (hc : convB P s d y = some c) (hr : CR (x.Gd ρ σ) ρ σ w y u) :
  ∃ v w', (convert s d u).run P w = .ok v w' ∧ Keeps (x.Gd ρ σ) (x.Gd ρ σ) ρ ρ σ σ w w' ∧ Frm x ρ σ w' ∧ CR (x.Gd ρ σ) ρ σ w' c v := by
 unfold convB at hc
 split at hc
 ·rename_i e b hk1 hk2
  obtain ⟨i1, inf1, d1, z1, ht1, hd1⟩ := tyOf_kind hk1
  obtain ⟨i2, inf2, d2, z2, ht2, hd2⟩ := tyOf_kind hk2
  cases d2 <;> simp [kindOf] at hd2
  cases d1 <;> simp [kindOf] at hd1
  obtain rfl := hd2.symm
  split at hc
  ·rename_i hk3
   obtain ⟨i3, inf3, d3, z3, ht3, hd3⟩ := tyOf_kind hk3
   cases d3 <;> simp [kindOf] at hd3
   subst hd3
   simp only [Option.some.injEq] at hc
   subst hc
   obtain rfl := hr.strOf
   have hrun := run_bytes_of_string (P := P) w s d _ b ht1.und ht2.und ht3.und
   have hge := grownCap_ge w b.size 0 e
   generalize grownCap w b.size 0 e = cap at hrun hge
   obtain ⟨hK, hF⟩ := h.grew (w' := w.drew.alloc (.cells (bytesRow b cap) e ((bytesRow b cap).size, (bytesRow b cap).size + 1))) ⟨rfl, rfl, rfl, by simp, fun q hq => alloc_old w.drew _ hq⟩
   have hgd : x.Gd ρ σ w.heap.size := ⟨.inr (.inr h.size), by
    rintro ⟨k, o, h1, h2, h3⟩
    have := (h.sto.ob k o h1 h2).lt
    omega⟩
   have hnew : (w.drew.alloc (.cells (bytesRow b cap) e ((bytesRow b cap).size, (bytesRow b cap).size + 1))).heap[w.heap.size]? = some (.cells (bytesRow b cap) e ((bytesRow b cap).size, (bytesRow b cap).size + 1)) := alloc_new w.drew _
   refine ⟨_, _, hrun, hK, hF, .pure ?_⟩
   have hsz : b.size = b.data.toList.length := rfl
   refine .sl (sz := 1) (fun q _ => .int .u8 ((b.data.toList.getD q 0).toNat : Int)) hgd (by simp) (by rw [List.length_map]; exact hsz) (fun hf => by cases hf) (by rw [List.length_map, ← hsz]; exact hge) (fun q row hq => ?_) (fun q row hq j c' hj => ?_) (fun q row hq j c' hj => ?_) (fun q row hq j c' hj => ?_)
   all_goals
    simp only [List.getElem?_map, Option.map_eq_some_iff] at hq
    obtain ⟨u, hu, rfl⟩ := hq
   ·rfl
   ·have hjz : j = 0 := by have := (List.getElem?_eq_some_iff.1 hj).1; simp at this; omega
    subst hjz
    have hq := (List.getElem?_eq_some_iff.1 hu).1
    have hlt : q < (b.data.map fun u => Value.int .u8 (u.toNat : Int)).size := by simpa using hq
    simp only [World.cell?, hnew, Nat.mul_one, Nat.add_zero, Nat.zero_add]
    have : (bytesRow b cap)[q]? = some (.int .u8 ((b.data.toList.getD q 0).toNat : Int)) := by
     unfold bytesRow
     rw [Array.getElem?_append_left hlt, Array.getElem?_map, List.getD_eq_getElem?_getD, ← Array.getElem?_toList, hu]
     rfl
    simpa using this
   ·have hjz : j = 0 := by have := (List.getElem?_eq_some_iff.1 hj).1; simp at this; omega
    subst hjz
    simp only [List.getElem?_cons_zero, Option.some.injEq] at hj
    subst hj
    rfl
   ·have hjz : j = 0 := by have := (List.getElem?_eq_some_iff.1 hj).1; simp at this; omega
    subst hjz
    simp only [List.getElem?_cons_zero, Option.some.injEq] at hj
    subst hj
    rw [List.getD_eq_getElem?_getD, hu]
    exact .int _ _
  ·simp at hc
 ·simp at hc

def bindK {α : Type} (o : Option α) (K : α → Prop) : Prop := ∃ r, o = some r ∧ K r

def isEff : Op → Bool
 | .alloc _ | .box .. | .buildSlice .. | .makeSlice .. | .store .. | .makeMap .. | .mapUpdate .. | .insert .. | .mapEntry .. | .entryStore .. => true
 | .call { callee := .builtin .append, .. } => true
 | _ => false

structure Does (P : Program) (f : FuncId) (σ : Nat → Slot) (args : List C) (r : C) (σ' : Nat → Slot) : Prop extends Callable P f where
 calls : ∀ (x : Ctx) (ρ : Nat → Nat) (w : World) (vs : Array Value), GkO P ρ σ w → Frm x ρ σ w → CL (x.Gd ρ σ) ρ σ w args vs → Calls P f vs w fun e w' =>
  ∃ v ρ', e = .returned v ∧ Keeps (x.Gd ρ σ) (x.Gd ρ' σ') ρ ρ' σ σ' w w' ∧ Frm x ρ' σ' w' ∧ CR (x.Gd ρ' σ') ρ' σ' w' r v

def updK (σ : Nat → Slot) (B : Nat) (obs : List Ob) : Nat → Slot := fun k => if B ≤ k ∧ k < B + obs.length then .live (obs[k - B]?.getD ⟨false, false, 0, []⟩) else σ k

def Makes (P : Program) (f : FuncId) (args : List C) (obs : List Ob) (r : Nat → C) : Prop :=
 ∀ (σ : Nat → Slot) (B : Nat), (∀ q, B ≤ q → q < B + obs.length → σ q = .free) → Does P f σ args (r B) (updK σ B obs)

def mkB (d : Nat) : Nat := 100000 + 10 * d

def NewAt (P : Program) (f : FuncId) (σ : Nat → Slot) (args : List C) (d : Option Nat) (c : C) (σ' : Nat → Slot) : Prop :=
 ∃ obs r e, d = some e ∧ Makes P f args obs r ∧ (∀ q, mkB e ≤ q → q < mkB e + obs.length → σ q = .free) ∧ c = r (mkB e) ∧ σ' = updK σ (mkB e) obs

def aCall (P : Program) (m : Nat) (s : AS) (f : FuncId) (args : List C) (d : Option Nat) (K : C → (Nat → Slot) → Prop) : Prop :=
 ((m = 0 ∨ m = 1) ∧ ∃ pargs r, viewL s.sto args = some pargs ∧ Pure P f pargs r ∧ (purel args = true ∨ r.flat = true) ∧ K r s.sto) ∨
 ((m = 0 ∨ m = 2) ∧ ∃ ob e, purel args = true ∧ d = some e ∧ isFree s.sto e = true ∧ Fresh P f args ob ∧ K (.own e ob.sz 0 ob.rows.length) (upd s.sto e (.live ob))) ∨
 ((m = 0 ∨ m = 4) ∧ ∃ r σ', Does P f s.sto args r σ' ∧ (m = 4 → NewAt P f s.sto args d r σ') ∧ K r σ') ∨
 ((m = 0 ∨ m = 3) ∧ ∃ ob e pargs, viewL s.sto args = some pargs ∧ ob.rows.all flatl = true ∧ d = some e ∧ isFree s.sto e = true ∧ Fresh P f pargs ob ∧ K (.own e ob.sz 0 ob.rows.length) (upd s.sto e (.live ob)))

abbrev YRel := Nat → (Nat → Slot) → List C → C → (Nat → Slot) → Prop

def Fx (r : Option Nat) : Fence := { Fence.wide with round := r }

theorem calls_fx {f : FuncId} {args : Array Value} {R : Ending → World → Prop} {r : Option Nat} {n : Nat} (h : Calls P f args w R) : CallsIn (Fx r) n P f args w R := callsIn_wide.2 h

theorem fx_calls {f : FuncId} {args : Array Value} {R : Ending → World → Prop} {r : Option Nat} {n : Nat} (h : CallsIn (Fx r) n P f args w R) : Calls P f args w R := (callsIn_wide (n := n)).1 h

theorem fx_depth {r : Option Nat} {q : Prop} : (Fx r).depth.isSome = true → q := fun h => by cases h

theorem wpIn_fx {r : Option Nat} {o : Oper} {K : Act → World → Prop} {Q : Exit → Act → World → Prop} (hd : ∀ c, o.op ≠ .defer c) (h : o.uponIn (Fx r) 0 P a K Q ((execOp a.eval o).run P w)) : o.wpIn (Fx r) 0 P a w K Q :=
 ⟨fun _ _ => trivial, by rw [Oper.semAt_eq _ _ _ hd]; exact h⟩

structure Start where
 G : Nat → Prop
 ρ : Nat → Nat
 σ : Nat → Slot
 w : World

def YC (P : Program) (Y : YRel) (t : Start) (ex : List Nat) (lp : List (Nat × Obj × Nat × Obj)) : Prop :=
 ∀ l σ args r σ', Y l σ args r σ' → ∀ (z : Ctx) ρ w vs, (∀ b ∈ ex, b ∈ z.ex) → (∀ p ∈ lp, p ∈ z.lp) → (∀ p ∈ z.lp, p.1 ∈ ex → p ∈ lp) → (∀ p ∈ z.lp, p ∉ lp → t.σ p.2.2.1 = .free) → GkO P ρ σ w → Frm z ρ σ w → Keeps0 t.G (z.Gd ρ σ) t.ρ ρ t.σ σ t.w w → CL (z.Gd ρ σ) ρ σ w args vs →
  YieldAt (Fx none) 0 P l vs w fun e w' => ∃ v ρ', e = .returned v ∧ Keeps (z.Gd ρ σ) (z.Gd ρ' σ') ρ ρ' σ σ' w w' ∧ Frm z ρ' σ' w' ∧ CR (z.Gd ρ' σ') ρ' σ' w' r v

def YOk (P : Program) (x : Ctx) : Prop := GkO P x.ρ x.σ x.w ∧ ((∀ l σ args r σ', ¬ x.Y l σ args r σ') ∨
 ∃ (t : Start) (ex : List Nat) (lp : List (Nat × Obj × Nat × Obj)), (∀ b ∈ ex, b ∈ x.ex) ∧ (∀ p ∈ lp, p ∈ x.lp) ∧ (∀ p ∈ x.lp, p.1 ∈ ex → p ∈ lp) ∧ (∀ p ∈ x.lp, p ∉ lp → t.σ p.2.2.1 = .free) ∧ (∀ k, t.σ k ≠ .free → x.σ k ≠ .free) ∧ Keeps0 t.G (x.Gd x.ρ x.σ) t.ρ x.ρ t.σ x.σ t.w x.w ∧ YC P x.Y t ex lp)

theorem YOk.none {x : Ctx} (hg : GkO P x.ρ x.σ x.w) (h : x.Y = fun _ _ _ _ _ => False) : YOk P x := ⟨hg, .inl fun _ _ _ _ _ => by rw [h]; exact id⟩

def opK (P : Program) (Y : YRel) (m : Nat) (s : AS) (o : Oper) (K : AS → Prop) : Prop :=
 match o.op with
 | .call { callee := .value fo, args, .. } =>
  match s.ev fo with
  | .fn (.func f) first caps => aCall P m s f (first ++ args.toList.map s.ev ++ caps) o.dst fun r σ' => K ⟨putE s.env o.dst r, σ'⟩
  | .fn (.yield l) [] [] => m = 0 ∧ ∃ r σ', Y l s.sto (args.toList.map s.ev) r σ' ∧ K ⟨putE s.env o.dst r, σ'⟩
  | _ => False
 | op => if isEff op then bindK (effC P s.sto s.ev o.dst op) fun r => K ⟨putE s.env o.dst r.1, r.2⟩ else bindK (valC P s.sto s.ev op) fun c => K (s.put o.dst c)

theorem Frm.adopt {σ : Nat → Slot} {w' : World} (h : Frm x ρ σ w) (g : Grew w w') {d b : Nat} {ob : Ob} {cs : Array Value} {el : TypeId} (hd : σ d = .free) (hb : w.heap.size ≤ b) (hh : w'.heap[b]? = some (.cells cs el (0, 0)))
  (hnl : ob.nl = false) (hpos : 0 < ob.sz) (hlen : ob.rows.length * ob.sz ≤ cs.size)
  (hcells : ∀ (i : Nat) (row : List C), ob.rows[i]? = some row → row.length = ob.sz ∧
   ∀ (j : Nat) (c : C), row[j]? = some c → PR (fun q => (x.Gd ρ σ q ∨ w.heap.size ≤ q) ∧ q ≠ b) w' c (cs.getD (i * ob.sz + j) undef) ∧ c.cell = true) (hB : Tyd ob cs el := by intro h; cases h) :
  Keeps (x.Gd ρ σ) (x.Gd (upd ρ d b) (upd σ d (.live ob))) ρ (upd ρ d b) σ (upd σ d (.live ob)) w w' ∧ Frm x (upd ρ d b) (upd σ d (.live ob)) w' := by
 have hkd : ∀ k, σ k ≠ .free → k ≠ d := fun k hk e => hk (e ▸ hd)
 have hown : ∀ q, Owned (upd ρ d b) (upd σ d (.live ob)) q → q = b ∨ Owned ρ σ q := by
  rintro q ⟨k, o, h1, h2, h3⟩
  by_cases hk : k = d
  ·subst hk; left; rw [← h3]; simp
  ·right
   rw [upd_ne _ _ hk] at h1 h3
   exact ⟨k, o, h1, h2, h3⟩
 have hK : Keeps (x.Gd ρ σ) (x.Gd (upd ρ d b) (upd σ d (.live ob))) ρ (upd ρ d b) σ (upd σ d (.live ob)) w w' := by
  refine .of (fun D hD => (g.heap D (Array.getElem?_eq_some_iff.1 hD).1).trans hD) ⟨fun q hq hlt => ⟨⟨hq.1, fun ho => ?_⟩, Nat.lt_of_lt_of_le hlt g.size, .inl (g.heap q hlt)⟩, fun k hk => ?_, fun k o hk => ?_⟩
  ·rcases hown q ho with rfl | ho
   ·omega
   ·exact hq.2 ho
  ·rw [upd_ne _ _ (hkd k (by simp [hk])), hk]
  ·have hne := hkd k (by simp [hk])
   rw [upd_ne _ _ hne]
   refine .inr ⟨o, hk, rfl, rfl, rfl, fun hn => ⟨upd_ne _ _ hne, fun cs' el' fz' hc => ?_⟩⟩
   rw [g.heap _ (h.sto.ob k o hk hn).lt] at hc
   exact ⟨_, _, _, hc, Nat.le_refl _⟩
 have old : ∀ q o, q ≠ d → upd σ d (.live ob) q = .live o → o.nl = false → σ q = .live o ∧ ρ q < w.heap.size := by
  intro q o hq h1 h2
  rw [upd_ne _ _ hq] at h1
  exact ⟨h1, (h.sto.ob q o h1 h2).lt⟩
 refine ⟨hK, ⟨⟨fun k o hk hn => ?_, fun k o hk hn => ?_, fun k k' o o' hk hk' hn hn' he => ?_⟩, fun q hq => ?_, fun q hq hnq hex => ?_, h.rcd.keep hK.toKeeps0 (fun q hq => by rw [upd_ne _ _ (hkd q (by simp [hq])), hq]) fun b r _ hb => (g.heap b (Array.getElem?_eq_some_iff.1 hb).1).trans hb, Nat.le_trans h.size g.size, g.os.trans h.os, g.tape.trans h.tape, g.output.trans h.output, h.hist.trans hK.toKeeps0⟩⟩
 ·by_cases hkd' : k = d
  ·subst hkd'
   simp only [upd_same, Slot.live.injEq] at hk ⊢
   subst hk
   refine ObC.ob ⟨⟨cs, el, hh, hlen, fun i row hi => ?_⟩, hpos, fun cs1 el1 fz1 h1 => by rw [hh] at h1; cases h1; exact hB⟩
   obtain ⟨h4, h5⟩ := hcells i row hi
   refine ⟨h4, fun j c hj => ⟨.pure (((h5 j c hj).1).mono fun q hq hlt => ⟨⟨?_, fun ho => ?_⟩, hlt, rfl⟩), (h5 j c hj).2⟩⟩
   ·rcases hq.1 with hq1 | hq1
    ·exact hq1.1
    ·exact .inr (.inr (Nat.le_trans h.size hq1))
   ·rcases hown q ho with rfl | ho
    ·exact hq.2 rfl
    ·rcases hq.1 with hq1 | hq1
     ·exact hq1.2 ho
     ·obtain ⟨k', o', e1, e2, rfl⟩ := ho
      have := (h.sto.ob k' o' e1 e2).lt
      omega
  ·obtain ⟨h1, h2⟩ := old k o hkd' hk hn
   rw [upd_ne _ _ hkd']
   exact (h.sto.ob k o h1 hn).keeps hK.toKeeps0 (g.heap _ h2)
 ·by_cases hkd' : k = d
  ·subst hkd'
   simp only [upd_same, Slot.live.injEq] at hk
   subst hk
   rw [hnl] at hn; cases hn
  ·rw [upd_ne _ _ hkd'] at hk
   exact h.sto.nil k o hk hn
 ·by_cases h1 : k = d <;> by_cases h2 : k' = d
  ·rw [h1, h2]
  ·subst h1
   have := (old k' o' h2 hk' hn').2
   rw [upd_same, upd_ne _ _ h2] at he
   omega
  ·subst h2
   have := (old k o h1 hk hn).2
   rw [upd_same, upd_ne _ _ h1] at he
   omega
  ·rw [upd_ne _ _ h1, upd_ne _ _ h2] at he
   exact h.sto.inj k k' o o' (old k o h1 hk hn).1 (old k' o' h2 hk' hn').1 hn hn' he
 ·rcases hown q hq with rfl | ho
  ·exact .inr (Nat.le_trans h.size hb)
  ·exact h.own q ho
 ·rw [g.heap q (by have := h.size; omega)]
  exact h.frame q hq hnq hex

theorem inNt_dst {nt : Nat} {o : Oper} (h : inNt nt o = true) : ∀ t, o.dst = some t → t < nt := by
 intro t ht
 simp only [inNt, ht, Bool.and_eq_true, decide_eq_true_eq] at h
 exact h.1

theorem inNt_ops {nt : Nat} {o : Oper} (h : inNt nt o = true) : ∀ y ∈ o.op.operands.toList, ∀ t, y = .tmp t → t < nt := by
 rintro y hy t rfl
 simp only [inNt, Bool.and_eq_true, Array.all_eq_true_iff_forall_mem] at h
 have := h.2 (.tmp t) (by simpa using hy)
 simpa using this

theorem CL_pure {G : Nat → Prop} {ρ : Nat → Nat} {σ : Nat → Slot} {l : List C} {vs : Array Value} (h : CL G ρ σ w l vs) (hp : purel l = true) : PL G w l vs :=
 ⟨h.1, fun i c hi => (h.2 i c hi).isPure (purel_get hp hi)⟩

theorem viewL_pure {σ : Nat → Slot} : ∀ {l m : List C}, purel l = true → viewL σ l = some m → m = l
 | [], m, _, h => by simp [viewL, mapO] at h; exact h
 | c :: l, m, hp, h => by
  simp only [purel, Bool.and_eq_true] at hp
  simp only [viewL, mapO] at h
  have hc : viewC σ 6 c = some c := by simp [viewC, hp.1]
  rw [hc] at h
  cases hm : mapO (viewC σ 6) l with
  | none => simp [hm] at h
  | some m' =>
   simp only [hm, Option.some.injEq] at h
   rw [← h, viewL_pure hp.2 hm]

theorem opK_sound (hY : YOk P x) (h : Sim x ρ s a w) {m : Nat} {o : Oper} {K : AS → Prop} {Q : Exit → Act → World → Prop} (hnt : inNt x.nt o = true) (hk : opK P x.Y m s o K) :
  o.wpIn (Fx x.rnd) 0 P a w (fun a' w' => ∃ ρ' s', Sim x ρ' s' a' w' ∧ K s') Q := by
 have hops : ∀ y ∈ o.op.operands.toList, CR (x.Gd ρ s.sto) ρ s.sto w (s.ev y) (a.eval y) := fun y hy => h.ev y (inNt_ops hnt y hy)
 have hdst := inNt_dst hnt
 have hgk := hY.1.at h.toFrm
 have gen : (if isEff o.op then bindK (effC P s.sto s.ev o.dst o.op) fun r => K ⟨putE s.env o.dst r.1, r.2⟩ else bindK (valC P s.sto s.ev o.op) fun c => K (s.put o.dst c)) →
   o.wpIn (Fx x.rnd) 0 P a w (fun a' w' => ∃ ρ' s', Sim x ρ' s' a' w' ∧ K s') Q := by
  intro hg
  refine wpIn_fx (fun c hc => ?_) ?_
  ·rw [hc] at hg
   simp [isEff, bindK, valC] at hg
  split at hg
  ·obtain ⟨⟨c, σ'⟩, he, hK⟩ := hg
   obtain ⟨ρ', w', v, hrun, hkeep, hfrm, hcr⟩ := eff_sound h.toFrm he hops
   have hsim := h.change hkeep hfrm
   rcases hrun with hrun | ⟨hrun, hd, rfl⟩
   ·rw [hrun, Oper.uponIn_value]
    exact ⟨ρ', _, hsim.put hdst hcr, hK⟩
   ·rw [hrun, Oper.uponIn_skip]
    refine ⟨ρ', _, hsim.put (d := o.dst) (c := c) hdst hcr, hK⟩
  ·obtain ⟨c, he, hK⟩ := hg
   by_cases hb : ∀ sT dT y, o.op = .convert sT dT y → convC P sT dT (s.ev y) = some c
   ·obtain ⟨v, hrun, hcr⟩ := val_sound he hb h.sto hops
    rw [hrun, Oper.uponIn_value]
    exact ⟨ρ, _, h.put hdst hcr, hK⟩
   ·simp only [Classical.not_forall] at hb
    obtain ⟨sT, dT, y, hop, hne⟩ := hb
    have he' : (convC P sT dT (s.ev y)).or (convB P sT dT (s.ev y)) = some c := by rw [hop] at he; exact he
    have hB : convB P sT dT (s.ev y) = some c := by
     cases hcc : convC P sT dT (s.ev y) with
     | none => rw [hcc] at he'; exact he'
     | some c' => rw [hcc] at he'; exact absurd (hcc.trans he') hne
    obtain ⟨v, w', hrun, hkeep, hfrm, hcr⟩ := convB_sound h.toFrm hB (hops y (by rw [hop]; simp [Op.operands]))
    have hex : (execOp a.eval o).run P w = .ok (.value v) w' := by
     unfold execOp
     simp only [hop]
     exact ok_value hrun
    have hsim := h.change hkeep hfrm
    rw [hex, Oper.uponIn_value]
    exact ⟨ρ, _, hsim.put hdst hcr, hK⟩
 unfold opK at hk
 split at hk
 ·rename_i fo args ats hop
  have hnd : ∀ c, o.op ≠ .defer c := fun c hc => by rw [hop] at hc; cases hc
  split at hk
  ·rename_i f first caps hfo
   have hf := hops fo (by rw [hop]; simp [Op.operands, Call.operands])
   rw [hfo] at hf
   obtain ⟨v1, v2, hfv, hc1, hc2⟩ := hf.fnOf
   have hargs : CL (x.Gd ρ s.sto) ρ s.sto w (args.toList.map s.ev) (args.map a.eval) := by
    have := CL_map (l := args.toList) (evC := s.ev) (evV := a.eval) (G := x.Gd ρ s.sto) (ρ := ρ) (σ := s.sto) (w := w) (fun y hy => hops y (by rw [hop]; simp [Op.operands, Call.operands] at hy ⊢; exact .inr hy))
    simpa [← List.map_toArray] using this
   have happ : CL (x.Gd ρ s.sto) ρ s.sto w (first ++ args.toList.map s.ev ++ caps) (v1 ++ args.map a.eval ++ v2) := by
    refine ⟨by simp only [Array.size_append, List.length_append, hc1.1, hargs.1, hc2.1], fun i c hi => ?_⟩
    have e1 := hc1.1
    have e2 := hargs.1
    have e3 := hc2.1
    simp only [Array.getD_eq_getD_getElem?]
    by_cases g1 : i < first.length
    ·rw [List.append_assoc, List.getElem?_append_left g1] at hi
     rw [Array.append_assoc, Array.getElem?_append_left (by omega)]
     have := hc1.2 i c hi
     simpa [Array.getD_eq_getD_getElem?] using this
    ·by_cases g2 : i < first.length + (args.toList.map s.ev).length
     ·rw [List.append_assoc, List.getElem?_append_right (by omega), List.getElem?_append_left (by omega)] at hi
      rw [Array.append_assoc, Array.getElem?_append_right (by omega), Array.getElem?_append_left (by omega), e1]
      have := hargs.2 _ c hi
      simpa only [Array.getD_eq_getD_getElem?] using this
     ·rw [List.getElem?_append_right (by simp at g2 ⊢; omega)] at hi
      rw [Array.getElem?_append_right (by simp at e2 g2 ⊢; omega)]
      have := hc2.2 _ c hi
      simp only [Array.getD_eq_getD_getElem?, List.length_append] at this
      rw [Array.size_append, e1, e2]
      exact this
   have hrun : Callable P f → (execOp a.eval o).run P w = .ok (.enter f (v1 ++ args.map a.eval ++ v2)) w := by
    intro hcall
    unfold execOp
    simp only [hop, resolve, hfv, Deferred.ofValue, Sem.run_bind, Sem.run_pure, Result.andThen_ok, invoke]
    exact run_callFunc hcall _ w
   rcases hk with ⟨_, pargs, r, hv, hp, hor, hK⟩ | ⟨_, ob, e, hpure, hde, hfree, hp, hK⟩ | ⟨_, r, σ', hp, _, hK⟩ | ⟨_, ob, e, pargs, hview, hflat, hde, hfree, hp, hK⟩
   ·refine wpIn_fx hnd ?_
    rw [hrun hp.toCallable, Oper.uponIn_enter]
    refine ⟨fx_depth, calls_fx ?_⟩
    have fin : ∀ (G' : Nat → Prop), PL G' w pargs (v1 ++ args.map a.eval ++ v2) → (r.flat = true ∨ ∀ b, G' b → x.Gd ρ s.sto b) →
      Calls P f (v1 ++ args.map a.eval ++ v2) w fun
       | .returned v, w'' => ∃ ρ' s', Sim x ρ' s' (a.put o.dst v) w'' ∧ K s'
       | .panicked chain, w'' => Q (.panic chain) a w''
       | .outgrown, _ => LetsOut Q := by
     intro G' hpl hG
     refine (hp.calls G' w _ hgk.gk hpl).mono ?_
     rintro e w' ⟨v, rfl, hpr, hgrew⟩
     obtain ⟨hkeep, hfrm⟩ := h.toFrm.grew hgrew
     have hsim := h.change hkeep hfrm
     refine ⟨ρ, _, hsim.put hdst ?_, hK⟩
     rcases hG with hflat | hG
     ·exact .pure (hpr.flat hflat)
     ·refine .pure (hpr.mono fun b hb hlt => ⟨?_, hlt, rfl⟩)
      rcases hb with hb | hb
      ·exact hG b hb
      ·refine ⟨.inr (.inr (Nat.le_trans h.size hb)), ?_⟩
       rintro ⟨k, o', h1, h2, rfl⟩
       have := (h.sto.ob k o' h1 h2).lt
       omega
    rcases hor with hpure | hflat
    ·have := viewL_pure hpure hv
     subst this
     exact fin _ (CL_pure happ hpure) (.inr fun b hb => hb)
    ·refine fin (fun b => x.Gd ρ s.sto b ∨ Owned ρ s.sto b) ?_ (.inl hflat)
     obtain ⟨m1, m2⟩ := mapO_get hv
     refine ⟨by rw [m1]; exact happ.1, fun i d hi => ?_⟩
     obtain ⟨c, hc1', hc2'⟩ := m2 i d hi
     exact viewC_sound h.sto hc2' (happ.2 i c hc1')
   ·refine wpIn_fx hnd ?_
    rw [hrun hp.toCallable, Oper.uponIn_enter]
    refine ⟨fx_depth, calls_fx ?_⟩
    refine (hp.calls _ w _ hgk.gk (CL_pure happ hpure)).mono ?_
    rintro e' w' ⟨v, rfl, hov, hgrew⟩
    have hfr := isFree_iff hfree
    cases hov with
    | none hn hr ha =>
     obtain ⟨hk1, hf1⟩ := h.toFrm.nilNew (d := e) (ob := ob) (kill := none) hfr hn hr (by simp)
     obtain ⟨hk2, hf2⟩ := hf1.grew hgrew
     have hsim := (h.change hk1 hf1).change hk2 hf2
     refine ⟨ρ, _, hsim.put hdst ?_, hK⟩
     rw [hr]
     exact .ownNil (upd_same _ _ _) hn ha
    | block hn hb hh hpp hl hc hcells hB =>
     obtain ⟨hkeep, hfrm⟩ := h.toFrm.adopt hgrew (d := e) (ob := ob) hfr hb hh hn hpp (Nat.le_trans (Nat.mul_le_mul_right _ hl) hc) hcells hB
     have hsim := h.change hkeep hfrm
     refine ⟨_, _, hsim.put hdst ?_, hK⟩
     obtain ⟨nl, em, sz, rows⟩ := ob
     simp only at hn
     subst hn
     exact CR.ownNew (Nat.ne_of_gt hpp) hh hl hc
   ·refine wpIn_fx hnd ?_
    rw [hrun hp.toCallable, Oper.uponIn_enter]
    refine ⟨fx_depth, calls_fx ?_⟩
    refine (hp.calls x ρ w _ hgk h.toFrm happ).mono ?_
    rintro e' w' ⟨v, ρ', rfl, hkeep, hfrm, hcr⟩
    exact ⟨ρ', _, (h.change hkeep hfrm).put hdst hcr, hK⟩
   ·refine wpIn_fx hnd ?_
    rw [hrun hp.toCallable, Oper.uponIn_enter]
    refine ⟨fx_depth, calls_fx ?_⟩
    have hpl : PL (fun b => x.Gd ρ s.sto b ∨ Owned ρ s.sto b) w pargs (v1 ++ args.map a.eval ++ v2) := by
     obtain ⟨m1, m2⟩ := mapO_get hview
     refine ⟨by rw [m1]; exact happ.1, fun i d hi => ?_⟩
     obtain ⟨c, hc1', hc2'⟩ := m2 i d hi
     exact viewC_sound h.sto hc2' (happ.2 i c hc1')
    refine (hp.calls _ w _ hgk.gk hpl).mono ?_
    rintro e' w' ⟨v, rfl, hov, hgrew⟩
    have hfr := isFree_iff hfree
    cases hov with
    | none hn hr ha =>
     obtain ⟨hk1, hf1⟩ := h.toFrm.nilNew (d := e) (ob := ob) (kill := none) hfr hn hr (by simp)
     obtain ⟨hk2, hf2⟩ := hf1.grew hgrew
     have hsim := (h.change hk1 hf1).change hk2 hf2
     refine ⟨ρ, _, hsim.put hdst ?_, hK⟩
     rw [hr]
     exact .ownNil (upd_same _ _ _) hn ha
    | block hn hb hh hpp hl hc hcells hB =>
     obtain ⟨hkeep, hfrm⟩ := h.toFrm.adopt hgrew (d := e) (ob := ob) hfr hb hh hn hpp (Nat.le_trans (Nat.mul_le_mul_right _ hl) hc) (fun i row hi => ⟨(hcells i row hi).1, fun j c hj => by
      obtain ⟨q1, q2⟩ := (hcells i row hi).2 j c hj
      rw [List.all_eq_true] at hflat
      exact ⟨q1.flat (flatl_get (hflat row (List.mem_of_getElem? hi)) hj), q2⟩⟩) hB
     have hsim := h.change hkeep hfrm
     refine ⟨_, _, hsim.put hdst ?_, hK⟩
     obtain ⟨nl, em, sz, rows⟩ := ob
     simp only at hn
     subst hn
     exact CR.ownNew (Nat.ne_of_gt hpp) hh hl hc
  ·rename_i l hfo
   obtain ⟨_, r, σ', hy, hK⟩ := hk
   have hf := hops fo (by rw [hop]; simp [Op.operands, Call.operands])
   rw [hfo] at hf
   obtain ⟨v1, v2, hfv, hc1, hc2⟩ := hf.fnOf
   have e1 : v1 = #[] := Array.eq_empty_of_size_eq_zero hc1.1
   have e2 : v2 = #[] := Array.eq_empty_of_size_eq_zero hc2.1
   subst e1 e2
   have hargs : CL (x.Gd ρ s.sto) ρ s.sto w (args.toList.map s.ev) (args.map a.eval) := by
    have := CL_map (l := args.toList) (evC := s.ev) (evV := a.eval) (G := x.Gd ρ s.sto) (ρ := ρ) (σ := s.sto) (w := w) (fun y hy => hops y (by rw [hop]; simp [Op.operands, Call.operands] at hy ⊢; exact .inr hy))
    simpa [← List.map_toArray] using this
   have hyy : YieldAt (Fx none) 0 P l (args.map a.eval) w fun e w' => ∃ v ρ', e = .returned v ∧ Keeps (x.Gd ρ s.sto) (x.Gd ρ' σ') ρ ρ' s.sto σ' w w' ∧ Frm x ρ' σ' w' ∧ CR (x.Gd ρ' σ') ρ' σ' w' r v := by
    rcases hY.2 with hn | ⟨t, ex, lp, h1, h2, h2', h2'', _, h3, h4⟩
    ·exact absurd hy (hn _ _ _ _ _)
    ·exact h4 l s.sto _ r σ' hy x ρ w _ h1 h2 h2' h2'' hgk h.toFrm (h3.trans h.hist) hargs
   obtain ⟨fn, tmps, assign, body, hrun, hround⟩ := hyy
   refine wpIn_fx hnd ?_
   have hex : (execOp a.eval o).run P w = .ok (.round l fn tmps assign body) w := by
    rw [← hrun]
    unfold execOp
    simp only [hop, resolve, hfv, Deferred.ofValue, Sem.run_bind, Sem.run_pure, Result.andThen_ok, invoke]
    simp
   rw [hex, Oper.uponIn_round]
   refine ⟨fx_depth, ?_⟩
   refine RoundIn.mono (F := Fx none) hround ?_
   rintro e w' ⟨v, ρ', rfl, hkeep, hfrm, hcr⟩
   exact ⟨ρ', _, (h.change hkeep hfrm).put hdst hcr, hK⟩
  ·exact hk.elim
 ·exact gen hk

end
end Go.Abs

/- Regions: in the order of the text, and in whatever order Go's rules leave open. No condition. -/
namespace Go.Abs

def wantC (ops : Array Oper) (env : Nat → C) (o : Oper) : Option Bool :=
 match o.guard with
 | none => some true
 | some (j, want) => match (ops[j]?).bind (·.dst) with
  | none => some false
  | some t => match env t with
   | .bool b => some (b == want)
   | .tup [] => some false
   | _ => none

def stepK (P : Program) (Y : YRel) (ops : Array Oper) (s : AS) (o : Oper) (K : AS → Prop) : Prop :=
 match wantC ops s.env o with
 | some true => opK P Y 0 s o K
 | some false => K (s.put o.dst (.tup []))
 | none => False

def evalL (P : Program) (Y : YRel) (ops : Array Oper) : List Oper → AS → (AS → Prop) → Prop
 | [], s, K => K s
 | o :: l, s, K => stepK P Y ops s o fun s' => evalL P Y ops l s' K

def Ex (P : Program) (Y : YRel) (m : Nat) (σ : Nat → Slot) (ρ : Operand → C) (d : Option Nat) (op : Op) (c : C) (σ' : Nat → Slot) : Prop :=
 match op with
 | .call { callee := .value fo, args, .. } =>
  match ρ fo with
  | .fn (.func f) first caps =>
   ((m = 0 ∨ m = 1) ∧ σ' = σ ∧ ∃ pargs, viewL σ (first ++ args.toList.map ρ ++ caps) = some pargs ∧ Pure P f pargs c ∧ (purel (first ++ args.toList.map ρ ++ caps) = true ∨ c.flat = true)) ∨
   ((m = 0 ∨ m = 2) ∧ ∃ ob e, purel (first ++ args.toList.map ρ ++ caps) = true ∧ d = some e ∧ isFree σ e = true ∧ Fresh P f (first ++ args.toList.map ρ ++ caps) ob ∧ c = .own e ob.sz 0 ob.rows.length ∧ σ' = upd σ e (.live ob)) ∨
   ((m = 0 ∨ m = 4) ∧ Does P f σ (first ++ args.toList.map ρ ++ caps) c σ' ∧ (m = 4 → NewAt P f σ (first ++ args.toList.map ρ ++ caps) d c σ')) ∨
   ((m = 0 ∨ m = 3) ∧ ∃ ob e pargs, viewL σ (first ++ args.toList.map ρ ++ caps) = some pargs ∧ ob.rows.all flatl = true ∧ d = some e ∧ isFree σ e = true ∧ Fresh P f pargs ob ∧ c = .own e ob.sz 0 ob.rows.length ∧ σ' = upd σ e (.live ob))
  | .fn (.yield l) [] [] => m = 0 ∧ Y l σ (args.toList.map ρ) c σ'
  | _ => False
 | op => if isEff op then effC P σ ρ d op = some (c, σ') else valC P σ ρ op = some c ∧ σ' = σ

section
variable {P : Program} {Y : YRel} {ops : Array Oper}

theorem opK_iff {m : Nat} {s : AS} {o : Oper} {K : AS → Prop} : opK P Y m s o K ↔ ∃ c σ', Ex P Y m s.sto s.ev o.dst o.op c σ' ∧ K ⟨putE s.env o.dst c, σ'⟩ := by
 have gen : ∀ op, (if isEff op then bindK (effC P s.sto s.ev o.dst op) (fun r => K ⟨putE s.env o.dst r.1, r.2⟩) else bindK (valC P s.sto s.ev op) fun c => K (s.put o.dst c)) ↔
   ∃ c σ', (if isEff op then effC P s.sto s.ev o.dst op = some (c, σ') else valC P s.sto s.ev op = some c ∧ σ' = s.sto) ∧ K ⟨putE s.env o.dst c, σ'⟩ := by
  intro op
  split
  ·constructor
   ·rintro ⟨⟨c, σ'⟩, h1, h2⟩; exact ⟨c, σ', h1, h2⟩
   ·rintro ⟨c, σ', h1, h2⟩; exact ⟨(c, σ'), h1, h2⟩
  ·constructor
   ·rintro ⟨c, h1, h2⟩; exact ⟨c, s.sto, ⟨h1, rfl⟩, h2⟩
   ·rintro ⟨c, _, ⟨h1, rfl⟩, h2⟩; exact ⟨c, h1, h2⟩
 unfold opK Ex
 generalize o.op = op at *
 cases op with
 | call cl =>
  obtain ⟨callee, args, ats⟩ := cl
  cases callee with
  | value fo =>
   simp only
   constructor
   ·intro h
    split at h
    ·rename_i f first caps hfo
     try simp only [hfo]
     rcases h with ⟨h0, pargs, r, h1, h2, h3, h4⟩ | ⟨h0, ob, e, h1, h2, h3, h4, h5⟩ | ⟨h0, r, σ', h1, h1', h2⟩ | ⟨h0, ob, e, pargs, h1, h2, h3, h4, h5, h6⟩
     ·exact ⟨r, s.sto, .inl ⟨h0, rfl, pargs, h1, h2, h3⟩, h4⟩
     ·exact ⟨_, _, .inr (.inl ⟨h0, ob, e, h1, h2, h3, h4, rfl, rfl⟩), h5⟩
     ·exact ⟨_, _, .inr (.inr (.inl ⟨h0, h1, h1'⟩)), h2⟩
     ·exact ⟨_, _, .inr (.inr (.inr ⟨h0, ob, e, pargs, h1, h2, h3, h4, h5, rfl, rfl⟩)), h6⟩
    ·rename_i l hfo
     obtain ⟨h0, r, σ', h1, h2⟩ := h
     exact ⟨r, σ', by first | exact ⟨h0, h1⟩ | (rw [hfo]; exact ⟨h0, h1⟩), h2⟩
    ·exact h.elim
   ·rintro ⟨c, σ', h, hK⟩
    split at h
    ·rename_i f first caps hfo
     try simp only [hfo]
     rcases h with ⟨h0, rfl, pargs, h1, h2, h3⟩ | ⟨h0, ob, e, h1, h2, h3, h4, rfl, rfl⟩ | ⟨h0, h1, h1'⟩ | ⟨h0, ob, e, pargs, h1, h2, h3, h4, h5, rfl, rfl⟩
     ·exact .inl ⟨h0, pargs, c, h1, h2, h3, hK⟩
     ·exact .inr (.inl ⟨h0, ob, e, h1, h2, h3, h4, hK⟩)
     ·exact .inr (.inr (.inl ⟨h0, _, _, h1, h1', hK⟩))
     ·exact .inr (.inr (.inr ⟨h0, ob, e, pargs, h1, h2, h3, h4, h5, hK⟩))
    ·rename_i l hfo
     first
     | exact ⟨h.1, c, σ', h.2, hK⟩
     | (rw [hfo]; exact ⟨h.1, c, σ', h.2, hK⟩)
    ·exact h.elim
  | _ => exact gen _
 | _ => exact gen _

def Exs (P : Program) (Y : YRel) (ops : Array Oper) (s : AS) (o : Oper) (c : C) (σ' : Nat → Slot) : Prop :=
 (wantC ops s.env o = some true ∧ Ex P Y 0 s.sto s.ev o.dst o.op c σ') ∨ (wantC ops s.env o = some false ∧ c = .tup [] ∧ σ' = s.sto)

theorem stepK_iff {s : AS} {o : Oper} {K : AS → Prop} : stepK P Y ops s o K ↔ ∃ c σ', Exs P Y ops s o c σ' ∧ K ⟨putE s.env o.dst c, σ'⟩ := by
 unfold stepK Exs
 split
 ·rename_i h
  rw [opK_iff]
  constructor
  ·rintro ⟨c, σ', h1, h2⟩; exact ⟨c, σ', .inl ⟨h, h1⟩, h2⟩
  ·rintro ⟨c, σ', h1, h2⟩
   rcases h1 with ⟨_, h1⟩ | ⟨h1, _⟩
   ·exact ⟨c, σ', h1, h2⟩
   ·rw [h] at h1; simp at h1
 ·rename_i h
  constructor
  ·intro h1; exact ⟨_, _, .inr ⟨h, rfl, rfl⟩, h1⟩
  ·rintro ⟨c, σ', h1, h2⟩
   rcases h1 with ⟨h1, _⟩ | ⟨_, rfl, rfl⟩
   ·rw [h] at h1; simp at h1
   ·exact h2
 ·rename_i h
  constructor
  ·exact fun h => h.elim
  ·rintro ⟨c, σ', h1, h2⟩
   rcases h1 with ⟨h1, _⟩ | ⟨h1, _⟩ <;> (rw [h] at h1; simp at h1)

variable {x : Ctx} {ρ : Nat → Nat} {w : World} {s : AS} {a : Act}

theorem want_sound (h : Sim x ρ s a w) {o : Oper} {b : Bool} (hnt : ops.all (inNt x.nt) = true) (hw : wantC ops s.env o = some b) : Region.wanted o (yielded ops a.tmps) = b := by
 unfold wantC at hw
 unfold Region.wanted
 split at hw
 ·rename_i hg
  simp only [hg]
  simpa using hw
 ·rename_i j want hg
  simp only [hg]
  unfold yielded
  split at hw
  ·rename_i hd
   simp only [hd]
   simpa using hw
  ·rename_i t hd
   have ht : t < x.nt := by
    cases hj : ops[j]? with
    | none => simp [hj] at hd
    | some oj =>
     simp only [hj, Option.bind_some] at hd
     rw [Array.all_eq_true_iff_forall_mem] at hnt
     exact inNt_dst (hnt oj (Array.mem_of_getElem? hj)) t hd
   have he := h.env t ht
   simp only [hd, Option.bind_some]
   have hget : a.tmps[t]? = some (a.tmps.getD t undef) := by
    rw [Array.getD_eq_getD_getElem?, Array.getElem?_eq_getElem (by rw [h.nt]; exact ht)]; rfl
   rw [hget]
   split at hw
   ·rename_i b' hb
    rw [hb] at he
    rw [he.boolOf]
    simp only [Option.some.injEq] at hw
    subst hw
    cases b' <;> cases want <;> rfl
   ·rename_i hb
    rw [hb] at he
    obtain ⟨vs, hv, hcl⟩ := he.tupOf
    rw [hv]
    simp only [Option.some.injEq] at hw
    subst hw
    cases want <;> rfl
   ·simp at hw

theorem stepK_sound (hY : YOk P x) (h : Sim x ρ s a w) {i : Nat} {o : Oper} {K : AS → Prop} {Q : Exit → Act → World → Prop} (hi : ops[i]? = some o) (hnt : ops.all (inNt x.nt) = true) (hk : stepK P x.Y ops s o K) :
  wpOpIn (Fx x.rnd) 0 P ops Q i (fun a' w' => ∃ ρ' s', Sim x ρ' s' a' w' ∧ K s') a w := by
 have hino : inNt x.nt o = true := by
  rw [Array.all_eq_true_iff_forall_mem] at hnt
  exact hnt o (Array.mem_of_getElem? hi)
 unfold wpOpIn
 simp only [hi]
 unfold stepK at hk
 split at hk
 ·rename_i hw
  rw [if_pos (want_sound h hnt hw)]
  exact opK_sound hY h hino hk
 ·rename_i hw
  rw [if_neg (by rw [want_sound h hnt hw]; simp)]
  exact ⟨fun _ _ => trivial, ρ, _, h.put (inNt_dst hino) (.tup rfl (by simp)), hk⟩
 ·exact hk.elim

def QL (x : Ctx) (Q : Exit → AS → Prop) : Exit → Act → World → Prop := fun e a w => ∃ ρ s, Sim x ρ s a w ∧ Q e s

theorem evalL_sound (hY : YOk P x) {Q : Exit → Act → World → Prop} {K : AS → Prop} (hnt : ops.all (inNt x.nt) = true) (hQ : ∀ ρ s a w, Sim x ρ s a w → K s → Q .normal a w) :
  ∀ (l : List Nat) (os : List Oper) (ρ : Nat → Nat) (s : AS) (a : Act) (w : World), (l.map fun i => ops[i]?) = os.map some → Sim x ρ s a w → evalL P x.Y ops os s K → wpOpsIn (Fx x.rnd) 0 P ops Q l a w
 | [], os, ρ, s, a, w, hl, h, he => by
  cases os with
  | nil => exact hQ ρ s a w h he
  | cons o os => simp at hl
 | i :: l, os, ρ, s, a, w, hl, h, he => by
  cases os with
  | nil => simp at hl
  | cons o os =>
   simp only [List.map_cons, List.cons.injEq] at hl
   rw [wpOpsIn_cons]
   refine wpOpIn_mono ?_ (stepK_sound hY h hl.1 hnt he)
   rintro a' w' ⟨ρ', s', h', he'⟩
   exact evalL_sound hY hnt hQ l os ρ' s' a' w' hl.2 h' he'


def Ext (σ τ : Nat → Slot) : Prop := ∀ k o, σ k = .live o → τ k = .live o

theorem Ext.upd {σ : Nat → Slot} {d : Nat} {ob : Slot} (h : σ d = .free) : Ext σ (upd σ d ob) := by
 intro k o hk
 rw [upd_ne _ _ (fun e => by subst e; rw [h] at hk; cases hk)]
 exact hk

theorem cellsAt_ext {σ τ : Nat → Slot} (he : Ext σ τ) {c : C} {r : List C × Nat} (h : cellsAt σ c = some r) : cellsAt τ c = some r := by
 unfold cellsAt at *
 split at h
 ·exact h
 ·split at h
  ·rename_i o ho
   simp only [he _ _ ho]
   exact h
  ·simp at h
 ·simp at h

theorem loadC_ext {σ τ : Nat → Slot} (he : Ext σ τ) {t : TypeId} {a c : C} (h : loadC P σ t a = some c) : loadC P τ t a = some c := by
 unfold loadC at *
 split at h
 ·rename_i i row j hi hc
  simp only [hi, cellsAt_ext he hc]
  exact h
 ·simp at h

theorem eqlC_ext {σ τ : Nat → Slot} (he : Ext σ τ) {t : TypeId} {a b : C} {r : Bool} (h : eqlC P σ t a b = some r) : eqlC P τ t a b = some r := by
 unfold eqlC at *
 split at h
 case h_3 =>
  split at h
  ·rename_i o ho
   simp only [he _ _ ho]
   exact h
  ·simp at h
 all_goals first
  | exact h
  | (simp at h; done)

theorem binC_ext {σ τ : Nat → Slot} (he : Ext σ τ) {op : BinOp} {t : TypeId} {a b c : C} (h : binC P σ op t a b = some c) : binC P τ op t a b = some c := by
 unfold binC at *
 split at h
 ·exact h
 ·exact h
 ·split at h
  ·simp only [Option.map_eq_some_iff] at h ⊢
   obtain ⟨r, h1, h2⟩ := h
   exact ⟨r, eqlC_ext he h1, h2⟩
  ·simp only [Option.map_eq_some_iff] at h ⊢
   obtain ⟨r, h1, h2⟩ := h
   exact ⟨r, eqlC_ext he h1, h2⟩
  ·simp at h

theorem rowsC_ext {σ τ : Nat → Slot} (he : Ext σ τ) {c : C} {r : List (List C)} (h : rowsC σ c = some r) : rowsC τ c = some r := by
 unfold rowsC at *
 split at h
 ·split at h
  ·rename_i o ho
   simp only [he _ _ ho]
   exact h
  ·simp at h
 ·exact h
 ·simp at h

theorem lookupC_ext {σ τ : Nat → Slot} (he : Ext σ τ) {t : TypeId} {a b c : C} {ok : Bool} (h : lookupC P σ t a b ok = some c) : lookupC P τ t a b ok = some c := by
 unfold lookupC at *
 split at h
 ·split at h
  ·rename_i q rows i hq hr hi
   simp only [hq, rowsC_ext he hr, hi]
   exact h
  ·simp at h
 ·simp at h

theorem lenC_ext {σ τ : Nat → Slot} (he : Ext σ τ) {t : TypeId} {a c : C} (h : lenC P σ t a = some c) : lenC P τ t a = some c := by
 unfold lenC at *
 split at h
 ·simp only [Option.map_eq_some_iff] at h ⊢
  obtain ⟨rows, h1, h2⟩ := h
  exact ⟨rows, rowsC_ext he h1, h2⟩
 all_goals first
  | exact h
  | (simp at h; done)

theorem builtinC_ext {σ τ : Nat → Slot} (he : Ext σ τ) {b : Builtin} {ts : List TypeId} {l : List C} {c : C} (h : builtinC P σ b ts l = some c) : builtinC P τ b ts l = some c := by
 unfold builtinC at *
 split at h
 ·exact lenC_ext he h
 all_goals first
  | exact h
  | (simp at h; done)

theorem valC_ext {σ τ : Nat → Slot} (he : Ext σ τ) {ρ : Operand → C} {op : Op} {c : C} (h : valC P σ ρ op = some c) : valC P τ ρ op = some c := by
 cases op with
 | load t a => exact loadC_ext he h
 | binOp op t x y u => exact binC_ext he h
 | call cl =>
  obtain ⟨callee, args, ats⟩ := cl
  cases callee <;> first | exact h | exact builtinC_ext he h
 | lookup t a b ok => exact lookupC_ext he h
 | _ => exact h

theorem mapO_mono {α β : Type} {f g : α → Option β} (hfg : ∀ a b, f a = some b → g a = some b) : ∀ {l : List α} {m : List β}, mapO f l = some m → mapO g l = some m
 | [], m, h => h
 | c :: l, m, h => by
  simp only [mapO] at h ⊢
  split at h
  ·rename_i d m' h1 h2
   simp only [hfg _ _ h1, mapO_mono hfg h2]
   exact h
  ·simp at h

theorem viewC_ext {σ τ : Nat → Slot} (he : Ext σ τ) : ∀ (n : Nat) (c d : C), viewC σ n c = some d → viewC τ n c = some d
 | 0, c, d, h => by simp [viewC] at h
 | n + 1, c, d, h => by
  have ih := viewC_ext he n
  cases c with
  | own k sz lo m =>
   simp only [viewC, C.isPure, Bool.false_eq_true, if_false] at h ⊢
   split at h
   ·rename_i o ho
    simp only [he _ _ ho]
    split at h
    ·rename_i hc
     rw [if_pos hc]
     simp only [Option.map_eq_some_iff] at h ⊢
     obtain ⟨r, h1, h2⟩ := h
     refine ⟨r, ?_, h2⟩
     split at h1
     ·rename_i hpu; rw [if_pos hpu]; exact h1
     ·rename_i hpu; rw [if_neg hpu]; exact mapO_mono (fun a b hab => mapO_mono ih hab) h1
    ·simp at h
   ·simp at h
  | ptr k sz i j =>
   simp only [viewC, C.isPure, Bool.false_eq_true, if_false] at h ⊢
   split at h
   ·rename_i o ho
    simp only [he _ _ ho]
    split at h
    ·rename_i hc
     rw [if_pos hc]
     split at h
     ·rename_i row hrow
      simp only [Option.map_eq_some_iff] at h ⊢
      obtain ⟨r, h1, h2⟩ := h
      exact ⟨r, mapO_mono ih h1, h2⟩
     ·simp at h
    ·simp at h
   ·simp at h
  | mp k =>
   simp only [viewC, C.isPure, Bool.false_eq_true, if_false] at h ⊢
   split at h
   ·rename_i o ho
    simp only [he _ _ ho]
    exact h
   ·simp at h
  | fn f a b =>
   simp only [viewC] at h ⊢
   split at h
   ·rename_i hp; rw [if_pos hp]; exact h
   ·rename_i hp
    rw [if_neg hp]
    split at h
    ·rename_i a' b' h1 h2
     simp only [mapO_mono ih h1, mapO_mono ih h2]
     exact h
    ·simp at h
  | agg l =>
   simp only [viewC] at h ⊢
   split at h
   ·rename_i hp; rw [if_pos hp]; exact h
   ·rename_i hp
    rw [if_neg hp]
    simp only [Option.map_eq_some_iff] at h ⊢
    obtain ⟨r, h1, h2⟩ := h
    exact ⟨r, mapO_mono ih h1, h2⟩
  | tup l =>
   simp only [viewC] at h ⊢
   split at h
   ·rename_i hp; rw [if_pos hp]; exact h
   ·rename_i hp
    rw [if_neg hp]
    simp only [Option.map_eq_some_iff] at h ⊢
    obtain ⟨r, h1, h2⟩ := h
    exact ⟨r, mapO_mono ih h1, h2⟩
  | any => simp [viewC, C.isPure] at h
  | _ =>
   simp only [viewC, C.isPure, if_true] at h ⊢
   exact h

end
end Go.Abs

/- Regions whose order Go leaves open: one walk in one order stands for all orders. No condition. -/
namespace Go.Abs

def clsT (t : Nat) : Nat := 100 + 2 * t
def cls (na : List Nat) (i : Nat) : Op → Nat
 | .load .. => if na.contains (i + 1000) then 6 else 1
 | .binOp .eql .. => 1
 | .binOp .neq .. => 1
 | .binOp .. => 0
 | .call { callee := .value _, .. } => if na.contains i then 2 else if na.contains (i + 500) then 5 else if na.contains (i + 3000) then 8 else if na.contains (i + 4000) then 9 else 1
 | .call { callee := .builtin .append, .. } => if na.contains i then 2 else if na.contains (i + 5000) then 10 else 3
 | .call { callee := .builtin .len, .. } => if na.contains (i + 6000) then 1 else 0
 | .call { callee := .builtin _, .. } => 0
 | .lookup t _ _ ok => if na.contains (i + 7000) && !ok then clsT t else 1
 | .mapEntry t _ _ => clsT t + 1
 | .alloc _ | .box .. | .makeSlice .. | .makeMap .. => 2
 | .store .. => if na.contains (i + 2000) then 7 else 3
 | .move _ | .assign _ | .pick .. | .nilCheck _ | .unOp .. | .convert .. | .fieldAddr .. | .field .. | .indexAddr .. | .index .. | .extract .. | .makeFunc .. | .build .. | .slice .. => 0
 | .buildSlice .. => if na.contains i then 2 else 0
 | _ => 4

def compat (a b : Nat) : Bool :=
 (a == 6 && b == 10) || (a == 10 && b == 0) || (a == 0 && b == 10) || (a == 9 && b == 0) || (a == 0 && b == 9) || (a == 8 && b == 0) || (a == 0 && b == 8) || (a == 1 && b == 8) || (a == 6 && b == 8) || (a == 2 && b == 8) || (a == 8 && b == 2) || (a == 8 && b == 8) || (a == 6 && b == 7) || (a == 7 && b == 6) || (a == 0 && (b == 6 || b == 7)) || (b == 0 && (a == 6 || a == 7)) || (a == 6 && b == 6) || (a == 6 && b == 1) || (a == 1 && b == 6) || (a == 6 && b == 2) || (a == 7 && b == 2) ||
 (a == 0 && b == 5) || (a == 5 && b == 0) || (a == 1 && b == 5) || (a == 0 && b ≤ 3) || (b == 0 && a ≤ 3) || (a == 1 && b == 1) || (a == 1 && b == 2) || (a == 2 && b == 2) || (a == 3 && b == 2) ||
 (decide (100 ≤ b) && (a == 0 || (b % 2 == 0 && (a == 1 || a == 6 || (decide (100 ≤ a) && a % 2 == 0))) || (decide (100 ≤ a) && a % 2 == 0 && b == a + 1))) || (decide (100 ≤ a) && a % 2 == 0 && (b == 0 || b == 1 || b == 6))

def parC (na : List Nat) (b : Bool) : C → Bool
 | .ptr k _ _ _ => na.contains (k + 10000) == b
 | .ip _ _ => !b
 | _ => false

def ownC (na : List Nat) : C → Bool
 | .own k _ _ _ => na.contains (k + 10000)
 | _ => false
def ownFirst (na : List Nat) (ρ : Operand → C) : List Operand → Bool
 | y :: _ => ownC na (ρ y)
 | [] => false

def notMp : C → Bool
 | .mp _ => false
 | _ => true

def dPre (na : List Nat) (i : Nat) (ρ : Operand → C) : Op → Bool
 | .call { callee := .builtin .append, args, .. } => (!na.contains i || args.toList.all fun y => (ρ y).isPure) && (!na.contains (i + 5000) || ownFirst na ρ args.toList)
 | .call { callee := .builtin .len, args, .. } => na.contains (i + 6000) || args.toList.all fun y => notMp (ρ y)
 | .load _ a => !na.contains (i + 1000) || parC na false (ρ a)
 | .store _ a _ => !na.contains (i + 2000) || parC na true (ρ a)
 | _ => true

def mode (na : List Nat) (i : Nat) : Nat := if na.contains i then 2 else if na.contains (i + 500) then 3 else if na.contains (i + 3000) then 4 else if na.contains (i + 4000) then 0 else 1

def dPost (na : List Nat) (i : Nat) (c : C) : Op → Bool
 | .buildSlice .. => if na.contains i then !c.isPure else c.isPure
 | _ => true

theorem upd_comm {α : Type} (f : Nat → α) {a b : Nat} (h : a ≠ b) (u v : α) : upd (upd f a u) b v = upd (upd f b v) a u := by
 funext i
 unfold upd
 by_cases h1 : i = a <;> by_cases h2 : i = b <;> simp_all

section
variable {P : Program} {Y : YRel} {ops : Array Oper}

theorem rowsC_np {σ τ : Nat → Slot} {c : C} (h : notMp c = true) : rowsC σ c = rowsC τ c := by
 cases c <;> first | rfl | simp [notMp] at h

theorem lenC_np {σ τ : Nat → Slot} {t : TypeId} {c : C} (h : notMp c = true) : lenC P σ t c = lenC P τ t c := by
 unfold lenC
 split
 ·rw [rowsC_np h]
 all_goals rfl

theorem builtinC_np {σ τ : Nat → Slot} {b : Builtin} {ts : List TypeId} {l : List C} (h : b = .len → l.all notMp = true) : builtinC P σ b ts l = builtinC P τ b ts l := by
 unfold builtinC
 split
 ·have := h rfl
  simp only [List.all_cons, List.all_nil, Bool.and_true] at this
  exact lenC_np this
 all_goals rfl

theorem ex_cls0 {σ σ' : Nat → Slot} {ρ : Operand → C} {d : Option Nat} {op : Op} {c : C} {na : List Nat} {i : Nat} (hc : cls na i op = 0) (hpre : dPre na i ρ op = true) (hp : dPost na i c op = true) (h : Ex P Y (mode na i) σ ρ d op c σ') :
  σ' = σ ∧ ∀ τ, Ex P Y (mode na i) τ ρ d op c τ := by
 cases op with
 | call cl =>
  obtain ⟨callee, args, ats⟩ := cl
  cases callee with
  | value f =>
   simp only [cls] at hc
   split at hc
   ·simp at hc
   ·split at hc
    ·simp at hc
    ·split at hc <;> (first | (simp at hc; done) | (split at hc <;> simp at hc))
  | invoke r m => simp [cls] at hc
  | builtin b =>
   cases b <;> simp only [cls] at hc
   case append => split at hc <;> (first | (simp at hc; done) | (split at hc <;> simp at hc))
   case len =>
    split at hc
    ·simp at hc
    ·rename_i hna
     obtain ⟨h1, rfl⟩ := h
     refine ⟨rfl, fun τ => ⟨?_, rfl⟩⟩
     simp only [valC] at h1 ⊢
     rw [← h1]
     refine builtinC_np fun _ => ?_
     simp only [dPre, Bool.or_eq_true] at hpre
     rcases hpre with hpre | hpre
     ·exact absurd hpre hna
     ·simpa using hpre
   all_goals
    obtain ⟨h1, rfl⟩ := h
    refine ⟨rfl, fun τ => ⟨?_, rfl⟩⟩
    simp only [valC] at h1 ⊢
    rw [← h1]
    exact builtinC_np (fun e => by cases e)
 | buildSlice t n parts =>
  have hna : na.contains i = false := by
   simp only [cls] at hc
   split at hc
   ·simp at hc
   ·simpa using ‹¬ na.contains i = true›
  simp only [Ex, isEff, if_true, effC] at h ⊢
  split at h
  ·rename_i e hk
   split at h
   ·rename_i ie he
    split at h
    ·rename_i hcond
     split at h
     ·rename_i cs hf
      split at h
      ·rename_i hpure
       simp only [Option.some.injEq, Prod.mk.injEq] at h
       obtain ⟨rfl, rfl⟩ := h
       refine ⟨rfl, fun τ => ?_⟩
       simp only [he, if_pos hcond, hf, if_pos hpure]
      ·split at h
       ·split at h
        ·simp only [Option.some.injEq, Prod.mk.injEq] at h
         obtain ⟨rfl, rfl⟩ := h
         simp only [dPost, hna] at hp
         simp [C.isPure] at hp
        ·simp at h
       ·simp at h
     ·simp at h
    ·simp at h
   ·simp at h
  ·simp at h
 | binOp op t x y u =>
  obtain ⟨h1, rfl⟩ := h
  refine ⟨rfl, fun τ => ⟨?_, rfl⟩⟩
  simp only [valC] at h1 ⊢
  unfold binC at h1 ⊢
  cases op <;> simp only [cls] at hc <;> first
   | (simp at hc; done)
   | (split at h1 <;> first
     | exact h1
     | (simp at h1; done))
 | load t a => simp only [cls] at hc; split at hc <;> (first | (simp at hc; done) | (split at hc <;> simp at hc))
 | alloc t => simp [cls] at hc
 | box t y => simp [cls] at hc
 | makeSlice t l c => simp [cls] at hc
 | store t a y => simp only [cls] at hc; split at hc <;> (first | (simp at hc; done) | (split at hc <;> simp at hc))
 | move x => obtain ⟨h1, rfl⟩ := h; exact ⟨rfl, fun τ => ⟨h1, rfl⟩⟩
 | assign x => obtain ⟨h1, rfl⟩ := h; exact ⟨rfl, fun τ => ⟨h1, rfl⟩⟩
 | pick a b c => obtain ⟨h1, rfl⟩ := h; exact ⟨rfl, fun τ => ⟨h1, rfl⟩⟩
 | nilCheck x => obtain ⟨h1, rfl⟩ := h; exact ⟨rfl, fun τ => ⟨h1, rfl⟩⟩
 | unOp a b c => obtain ⟨h1, rfl⟩ := h; exact ⟨rfl, fun τ => ⟨h1, rfl⟩⟩
 | convert a b c => obtain ⟨h1, rfl⟩ := h; exact ⟨rfl, fun τ => ⟨h1, rfl⟩⟩
 | fieldAddr a b c => obtain ⟨h1, rfl⟩ := h; exact ⟨rfl, fun τ => ⟨h1, rfl⟩⟩
 | field a b c => obtain ⟨h1, rfl⟩ := h; exact ⟨rfl, fun τ => ⟨h1, rfl⟩⟩
 | indexAddr a b c => obtain ⟨h1, rfl⟩ := h; exact ⟨rfl, fun τ => ⟨h1, rfl⟩⟩
 | index a b c => obtain ⟨h1, rfl⟩ := h; exact ⟨rfl, fun τ => ⟨h1, rfl⟩⟩
 | extract a b => obtain ⟨h1, rfl⟩ := h; exact ⟨rfl, fun τ => ⟨h1, rfl⟩⟩
 | makeFunc a b c => obtain ⟨h1, rfl⟩ := h; exact ⟨rfl, fun τ => ⟨h1, rfl⟩⟩
 | build a b => obtain ⟨h1, rfl⟩ := h; exact ⟨rfl, fun τ => ⟨h1, rfl⟩⟩
 | slice a b c d e => obtain ⟨h1, rfl⟩ := h; exact ⟨rfl, fun τ => ⟨h1, rfl⟩⟩
 | _ => first | (simp [cls] at hc; done) | (simp only [cls, clsT] at hc; omega) | (simp only [cls, clsT] at hc; split at hc <;> omega) | (simp only [cls] at hc; split at hc <;> (first | (simp at hc; done) | (split at hc <;> simp at hc)); done)

theorem ex_cls1 {σ σ' : Nat → Slot} {ρ : Operand → C} {d : Option Nat} {op : Op} {c : C} {na : List Nat} {i : Nat} (hc : cls na i op = 1) (h : Ex P Y (mode na i) σ ρ d op c σ') :
  σ' = σ ∧ ∀ τ, Ext σ τ → Ex P Y (mode na i) τ ρ d op c τ := by
 cases op with
 | call cl =>
  obtain ⟨callee, args, ats⟩ := cl
  cases callee with
  | value f =>
   have hm : mode na i = 1 := by
    simp only [cls] at hc
    unfold mode
    split at hc
    ·simp at hc
    ·rw [if_neg ‹_›]
     split at hc
     ·simp at hc
     ·rw [if_neg ‹_›]
      split at hc
      ·simp at hc
      ·rw [if_neg ‹_›]
       split at hc
       ·simp at hc
       ·rw [if_neg ‹_›]
   simp only [Ex] at h ⊢
   split at h
   ·rename_i g first caps hfo
    try simp only [hfo]
    rcases h with ⟨h0, rfl, pargs, h1, h2, h3⟩ | ⟨h0, _⟩ | ⟨h0, _⟩ | ⟨h0, _⟩
    ·exact ⟨rfl, fun τ he => .inl ⟨h0, trivial, pargs, mapO_mono (fun a b => viewC_ext he 6 a b) h1, h2, h3⟩⟩
    all_goals
     rw [hm] at h0; simp at h0
   ·have h0 := h.1
    rw [hm] at h0; simp at h0
   ·exact h.elim
  | invoke r m => simp [cls] at hc
  | builtin b =>
   cases b <;> simp only [cls] at hc
   case append => split at hc <;> (first | (simp at hc; done) | (split at hc <;> simp at hc))
   case len =>
    obtain ⟨h1, rfl⟩ := h
    exact ⟨rfl, fun τ he => ⟨valC_ext he h1, rfl⟩⟩
   all_goals simp at hc
 | lookup t a b ok =>
  obtain ⟨h1, rfl⟩ := h
  exact ⟨rfl, fun τ he => ⟨valC_ext he h1, rfl⟩⟩
 | load t a =>
  obtain ⟨h1, rfl⟩ := h
  exact ⟨rfl, fun τ he => ⟨valC_ext he h1, rfl⟩⟩
 | binOp op t x y u =>
  obtain ⟨h1, rfl⟩ := h
  exact ⟨rfl, fun τ he => ⟨valC_ext he h1, rfl⟩⟩
 | buildSlice t n parts =>
  simp only [cls] at hc
  split at hc <;> (first | (simp at hc; done) | (split at hc <;> simp at hc))
 | _ => first | (simp [cls] at hc; done) | (simp only [cls, clsT] at hc; omega) | (simp only [cls, clsT] at hc; split at hc <;> omega) | (simp only [cls] at hc; split at hc <;> (first | (simp at hc; done) | (split at hc <;> simp at hc)); done)

theorem updK_in {σ : Nat → Slot} {B : Nat} {obs : List Ob} {q : Nat} (h1 : B ≤ q) (h2 : q < B + obs.length) : ∃ o, updK σ B obs q = .live o := by
 unfold updK; rw [if_pos ⟨h1, h2⟩]; exact ⟨_, rfl⟩
theorem updK_out {σ : Nat → Slot} {B : Nat} {obs : List Ob} {q : Nat} (h : ¬ (B ≤ q ∧ q < B + obs.length)) : updK σ B obs q = σ q := by
 unfold updK; rw [if_neg h]
theorem updK_upd {σ : Nat → Slot} {B : Nat} {obs : List Ob} {e : Nat} {s : Slot} (h : ¬ (B ≤ e ∧ e < B + obs.length)) : upd (updK σ B obs) e s = updK (upd σ e s) B obs := by
 funext z
 unfold updK
 by_cases hz : z = e
 ·subst hz; rw [if_neg h]; simp [upd]
 ·rw [upd_ne _ _ hz, upd_ne _ _ hz]
theorem updK_ext {σ : Nat → Slot} {B : Nat} {obs : List Ob} (h : ∀ q, B ≤ q → q < B + obs.length → σ q = .free) : Ext σ (updK σ B obs) := by
 intro k o hk
 by_cases hr : B ≤ k ∧ k < B + obs.length
 ·rw [h k hr.1 hr.2] at hk; simp at hk
 ·rw [updK_out hr]; exact hk
theorem updK_comm {σ : Nat → Slot} {B C : Nat} {o1 o2 : List Ob} (h : ∀ q, B ≤ q → q < B + o1.length → ¬ (C ≤ q ∧ q < C + o2.length)) : updK (updK σ B o1) C o2 = updK (updK σ C o2) B o1 := by
 funext z
 unfold updK
 by_cases h1 : B ≤ z ∧ z < B + o1.length
 ·rw [if_neg (h z h1.1 h1.2), if_pos h1, if_pos h1]
 ·rw [if_neg h1, if_neg h1]

theorem srcC_pure {σ τ : Nat → Slot} {n : Nat} {c : C} (h : c.isPure = true) : srcC σ n c = srcC τ n c := by
 cases c <;> first
  | rfl
  | simp [C.isPure] at h

theorem isFree_of {σ : Nat → Slot} {d : Nat} (h : σ d = .free) : isFree σ d = true := by simp [isFree, h]

theorem appendC_pure {σ σ' : Nat → Slot} {d : Nat} {t u : TypeId} {s y c : C} (hs : s.isPure = true) (hy : y.isPure = true) (h : appendC P σ d t u s y = some (c, σ')) :
  ∃ ob, σ d = .free ∧ σ' = upd σ d (.live ob) ∧ ∀ τ, τ d = .free → appendC P τ d t u s y = some (c, upd τ d (.live ob)) := by
 unfold appendC at h ⊢
 split at h
 ·rename_i e ku hk hku
  split at h
  ·simp at h
  ·rename_i kk i hi hn
   split at h
   ·rename_i R hR
    split at h
    ·rename_i hc
     have hsrc : ∀ τ, srcC τ i.size y = some R := fun τ => (srcC_pure hy).trans hR
     split at h
     ·rename_i nl full
      split at h
      ·rename_i hc2
       simp only [Option.some.injEq, Prod.mk.injEq] at h
       obtain ⟨rfl, rfl⟩ := h
       refine ⟨_, isFree_iff hc.1, rfl, fun τ hτ => ?_⟩
       simp only [hi, hsrc, isFree_of hτ, hc.2.1, hc.2.2]
       rw [if_pos ⟨trivial, trivial, trivial⟩, if_pos hc2]
      ·simp at h
     ·rename_i rows hne
      split at h
      ·rename_i hc2
       simp only [Option.some.injEq, Prod.mk.injEq] at h
       obtain ⟨rfl, rfl⟩ := h
       refine ⟨_, isFree_iff hc.1, rfl, fun τ hτ => ?_⟩
       simp only [hi, hsrc, isFree_of hτ, hc.2.1, hc.2.2]
       rw [if_pos ⟨trivial, trivial, trivial⟩]
       rw [if_pos hc2]
      ·simp at h
     ·simp [C.isPure] at hs
     ·simp at h
    ·simp at h
   ·simp at h
  ·simp at h
 ·simp at h

theorem ex_cls2 {σ σ' : Nat → Slot} {ρ : Operand → C} {d : Option Nat} {op : Op} {c : C} {na : List Nat} {i : Nat} (hc : cls na i op = 2) (hp : dPre na i ρ op = true) (hq : dPost na i c op = true) (h : Ex P Y (mode na i) σ ρ d op c σ') :
  ∃ e ob, d = some e ∧ σ e = .free ∧ σ' = upd σ e (.live ob) ∧ ∀ τ, τ e = .free → Ex P Y (mode na i) τ ρ d op c (upd τ e (.live ob)) := by
 cases op with
 | makeMap t r =>
  cases r with
  | some r => simp [Ex, isEff, effC] at h
  | none =>
   simp only [Ex, isEff, if_true, effC] at h ⊢
   split at h
   ·rename_i e kt et hk
    split at h
    ·rename_i hcond
     simp only [Option.some.injEq, Prod.mk.injEq] at h
     obtain ⟨rfl, rfl⟩ := h
     refine ⟨e, _, rfl, isFree_iff hcond, rfl, fun τ hτ => ?_⟩
     simp only [isFree_of hτ]
     simp
    ·simp at h
   ·simp at h
 | alloc t =>
  simp only [Ex, isEff, if_true, effC] at h ⊢
  split at h
  ·rename_i e it hi
   split at h
   ·rename_i hcond
    simp only [Option.some.injEq, Prod.mk.injEq] at h
    obtain ⟨rfl, rfl⟩ := h
    refine ⟨e, _, rfl, isFree_iff hcond.1, rfl, fun τ hτ => ?_⟩
    simp only [isFree_of hτ, hcond.2]
    simp
   ·simp at h
  ·simp at h
 | box t y =>
  simp only [Ex, isEff, if_true, effC] at h ⊢
  split at h
  ·rename_i e cs hcs
   split at h
   ·rename_i hcond
    simp only [Option.some.injEq, Prod.mk.injEq] at h
    obtain ⟨rfl, rfl⟩ := h
    refine ⟨e, _, rfl, isFree_iff hcond.1, rfl, fun τ hτ => ?_⟩
    simp only [isFree_of hτ, hcond.2]
    simp
   ·simp at h
  ·simp at h
 | buildSlice t n parts =>
  have hna : na.contains i = true := by
   simp only [cls] at hc
   split at hc
   ·assumption
   ·simp at hc
  simp only [dPost, hna, if_true] at hq
  simp only [Ex, isEff, if_true, effC] at h ⊢
  split at h
  ·rename_i e hk
   split at h
   ·rename_i ie he
    split at h
    ·rename_i hcond
     split at h
     ·rename_i cs hf
      split at h
      ·simp only [Option.some.injEq, Prod.mk.injEq] at h
       obtain ⟨rfl, rfl⟩ := h
       simp [C.isPure] at hq
      ·rename_i hpure
       split at h
       ·rename_i dd
        split at h
        ·rename_i hfr
         simp only [Option.some.injEq, Prod.mk.injEq] at h
         obtain ⟨rfl, rfl⟩ := h
         refine ⟨dd, _, rfl, isFree_iff hfr, rfl, fun τ hτ => ?_⟩
         simp only [he, if_pos hcond, hf, if_neg hpure, isFree_of hτ, if_true]
        ·simp at h
       ·simp at h
     ·simp at h
    ·simp at h
   ·simp at h
  ·simp at h
 | makeSlice t l cp =>
  simp only [Ex, isEff, if_true, effC] at h ⊢
  split at h
  ·rename_i e el k1 n k2 m hk hl hcp
   split at h
   ·rename_i it hi
    split at h
    ·rename_i hcond
     obtain ⟨g1, g2⟩ := hcond
     simp only [Option.some.injEq, Prod.mk.injEq] at h
     obtain ⟨rfl, rfl⟩ := h
     refine ⟨e, _, rfl, isFree_iff g1, rfl, fun τ hτ => ?_⟩
     try simp only [hi]
     rw [if_pos ⟨isFree_of hτ, g2⟩]
    ·simp at h
   ·simp at h
  ·simp at h
 | call cl =>
  obtain ⟨callee, args, ats⟩ := cl
  cases callee with
  | value f =>
   have hm : mode na i = 2 := by
    simp only [cls] at hc
    unfold mode
    split at hc
    ·rw [if_pos ‹_›]
    ·split at hc
     ·simp at hc
     ·split at hc <;> (first | (simp at hc; done) | (split at hc <;> simp at hc))
   simp only [Ex] at h ⊢
   split at h
   ·rename_i g first caps hfo
    try simp only [hfo]
    rcases h with ⟨h0, _⟩ | ⟨h0, ob, e, h1, h2, h3, h4, rfl, rfl⟩ | ⟨h0, _⟩ | ⟨h0, _⟩
    ·rw [hm] at h0; simp at h0
    ·exact ⟨e, ob, h2, isFree_iff h3, rfl, fun τ hτ => .inr (.inl ⟨h0, ob, e, h1, h2, isFree_of hτ, h4, rfl, rfl⟩)⟩
    ·rw [hm] at h0; simp at h0
    ·rw [hm] at h0; simp at h0
   ·have h0 := h.1
    rw [hm] at h0; simp at h0
   ·exact h.elim
  | invoke r m => simp [cls] at hc
  | builtin b =>
   cases b <;> simp only [cls] at hc
   case len => split at hc <;> simp at hc
   case append =>
    split at hc
    ·rename_i hna
     simp only [dPre, hna, Bool.not_true, Bool.false_or, Bool.and_eq_true, List.all_eq_true] at hp
     replace hp := hp.1
     simp only [Ex, isEff, if_true, effC] at h ⊢
     split at h
     ·rename_i e s y t u h1 h2
      obtain ⟨ob, g1, g2, g3⟩ := appendC_pure (hp s (by rw [h1]; simp)) (hp y (by rw [h1]; simp)) h
      refine ⟨e, ob, rfl, g1, g2, fun τ hτ => ?_⟩
      try simp only [h1, h2]
      exact g3 τ hτ
     ·simp at h
    ·split at hc <;> simp at hc
   all_goals simp at hc
 | _ => first
  | (simp [cls] at hc; done) | (simp only [cls, clsT] at hc; omega) | (simp only [cls, clsT] at hc; split at hc <;> omega)
  | (simp only [cls] at hc; split at hc <;> (first | (simp at hc; done) | (split at hc <;> simp at hc)); done)
  | (rename_i op t x y u; cases op <;> simp [cls] at hc)

theorem ex_cls5 {σ σ' : Nat → Slot} {ρ : Operand → C} {d : Option Nat} {op : Op} {c : C} {na : List Nat} {i : Nat} (hc : cls na i op = 5) (h : Ex P Y (mode na i) σ ρ d op c σ') :
  ∃ e ob, d = some e ∧ σ e = .free ∧ σ' = upd σ e (.live ob) := by
 cases op with
 | call cl =>
  obtain ⟨callee, args, ats⟩ := cl
  cases callee with
  | value f =>
   have hm : mode na i = 3 := by
    simp only [cls] at hc
    unfold mode
    split at hc
    ·simp at hc
    ·rw [if_neg ‹_›]
     split at hc
     ·rw [if_pos ‹_›]
     ·split at hc <;> (first | (simp at hc; done) | (split at hc <;> simp at hc))
   simp only [Ex] at h
   split at h
   ·rename_i g first caps hfo
    rcases h with ⟨h0, _⟩ | ⟨h0, _⟩ | ⟨h0, _⟩ | ⟨h0, ob, e, pargs, h1, h2, h3, h4, h5, rfl, rfl⟩
    ·rw [hm] at h0; simp at h0
    ·rw [hm] at h0; simp at h0
    ·rw [hm] at h0; simp at h0
    ·exact ⟨e, ob, h3, isFree_iff h4, rfl⟩
   ·have h0 := h.1
    rw [hm] at h0; simp at h0
   ·exact h.elim
  | invoke r m => simp [cls] at hc
  | builtin b =>
   cases b <;> simp only [cls] at hc
   case len => split at hc <;> simp at hc
   case append => split at hc <;> (first | (simp at hc; done) | (split at hc <;> simp at hc))
   all_goals simp at hc
 | buildSlice t n parts =>
  simp only [cls] at hc
  split at hc <;> (first | (simp at hc; done) | (split at hc <;> simp at hc))
 | _ => first
  | (simp [cls] at hc; done) | (simp only [cls, clsT] at hc; omega) | (simp only [cls, clsT] at hc; split at hc <;> omega)
  | (simp only [cls] at hc; split at hc <;> (first | (simp at hc; done) | (split at hc <;> simp at hc)); done)
  | (rename_i op t x y u; cases op <;> simp [cls] at hc)

theorem srcC_ext {σ τ : Nat → Slot} (he : Ext σ τ) {n : Nat} {c : C} {R : List (List C)} (h : srcC σ n c = some R) : srcC τ n c = some R := by
 unfold srcC at *
 split at h
 ·exact h
 ·split at h
  ·rename_i o ho
   simp only [he _ _ ho]
   exact h
  ·simp at h
 ·exact h
 ·simp at h

theorem ex_cls3 {σ σ' : Nat → Slot} {ρ : Operand → C} {d : Option Nat} {op : Op} {c : C} {na : List Nat} {i : Nat} (hc : cls na i op = 3) (h : Ex P Y (mode na i) σ ρ d op c σ')
  {e : Nat} {ob : Ob} (hfree : σ' e = .free) (hd : d ≠ some e) : σ e = .free ∧ Ex P Y (mode na i) (upd σ e (.live ob)) ρ d op c (upd σ' e (.live ob)) := by
 cases op with
 | store t a y =>
  simp only [Ex, isEff, if_true, effC] at h ⊢
  split at h
  ·rename_i it cs k sz r j hi hcs ha
   split at h
   ·rename_i o ho
    split at h
    ·rename_i row hrow
     split at h
     ·rename_i hcond
      simp only [Option.some.injEq, Prod.mk.injEq] at h
      obtain ⟨rfl, rfl⟩ := h
      have hek : e ≠ k := by rintro rfl; simp at hfree
      rw [upd_ne _ _ hek] at hfree
      refine ⟨hfree, ?_⟩
      simp only [Ext.upd hfree k o ho, hrow, if_pos hcond]
      rw [upd_comm _ (Ne.symm hek)]
     ·simp at h
    ·simp at h
   ·simp at h
  ·simp at h
 | call cl =>
  obtain ⟨callee, args, ats⟩ := cl
  cases callee with
  | value f =>
   simp only [cls] at hc
   split at hc
   ·simp at hc
   ·split at hc
    ·simp at hc
    ·split at hc <;> (first | (simp at hc; done) | (split at hc <;> simp at hc))
  | invoke r m => simp [cls] at hc
  | builtin b =>
   cases b <;> simp only [cls] at hc
   case len => split at hc <;> simp at hc
   case append =>
    simp only [Ex, isEff, if_true, effC] at h ⊢
    split at h
    ·rename_i q s y t u h1 h2
     have hqe : q ≠ e := fun hh => hd (by rw [hh])
     try simp only [h1, h2]
     unfold appendC at h ⊢
     split at h
     ·rename_i el ku hk hku
      split at h
      ·simp at h
      ·rename_i kk it hi hn
       split at h
       ·rename_i R hR
        split at h
        ·rename_i hcond
         have hq := isFree_iff hcond.1
         have fin : ∀ (s0 : Nat → Slot), s0 e = σ e → (upd s0 q (.live ob) e = .free → σ e = .free) := by
          intro s0 h0 h1
          rw [upd_ne _ _ (Ne.symm hqe), h0] at h1; exact h1
         have hsrc : ∀ τ, Ext σ τ → srcC τ it.size (ρ y) = some R := fun τ he => srcC_ext he hR
         split at h
         ·split at h
          ·rename_i hc2
           simp only [Option.some.injEq, Prod.mk.injEq] at h
           obtain ⟨rfl, rfl⟩ := h
           rw [upd_ne _ _ (Ne.symm hqe)] at hfree
           refine ⟨hfree, ?_⟩
           simp only [hi, hsrc _ (Ext.upd hfree), isFree_of (show upd σ e (.live ob) q = .free from by rw [upd_ne _ _ hqe]; exact hq), hcond.2.1, hcond.2.2]
           rw [if_pos ⟨trivial, trivial, trivial⟩, if_pos hc2, upd_comm _ hqe]
          ·simp at h
         ·split at h
          ·rename_i hc2
           simp only [Option.some.injEq, Prod.mk.injEq] at h
           obtain ⟨rfl, rfl⟩ := h
           rw [upd_ne _ _ (Ne.symm hqe)] at hfree
           refine ⟨hfree, ?_⟩
           simp only [hi, hsrc _ (Ext.upd hfree), isFree_of (show upd σ e (.live ob) q = .free from by rw [upd_ne _ _ hqe]; exact hq), hcond.2.1, hcond.2.2]
           rw [if_pos ⟨trivial, trivial, trivial⟩, if_pos hc2, upd_comm _ hqe]
          ·simp at h
         ·rename_i k sz lo n hs
          split at h
          ·rename_i o ho
           split at h
           ·rename_i hc2
            simp only [Option.some.injEq, Prod.mk.injEq] at h
            obtain ⟨rfl, rfl⟩ := h
            have hek : e ≠ k := by
             rintro rfl
             rw [upd_ne _ _ (Ne.symm hqe)] at hfree
             simp at hfree
            rw [upd_ne _ _ (Ne.symm hqe), upd_ne _ _ hek] at hfree
            refine ⟨hfree, ?_⟩
            simp only [hi, hsrc _ (Ext.upd hfree), isFree_of (show upd σ e (.live ob) q = .free from by rw [upd_ne _ _ hqe]; exact hq), hcond.2.1, hcond.2.2]
            rw [if_pos ⟨trivial, trivial, trivial⟩]
            simp only [Ext.upd hfree k o ho]
            rw [if_pos hc2, upd_comm _ hqe, upd_comm _ (Ne.symm hek)]
           ·simp at h
          ·simp at h
         ·simp at h
        ·simp at h
       ·simp at h
      ·simp at h
     ·simp at h
    ·simp at h
   all_goals simp at hc
 | _ => first
  | (simp [cls] at hc; done) | (simp only [cls, clsT] at hc; omega) | (simp only [cls, clsT] at hc; split at hc <;> omega)
  | (simp only [cls] at hc; split at hc <;> (first | (simp at hc; done) | (split at hc <;> simp at hc)); done)
  | (rename_i op t x y u; cases op <;> simp [cls] at hc)

theorem ex_cls6 {σ σ' : Nat → Slot} {ρ : Operand → C} {d : Option Nat} {op : Op} {c : C} {na : List Nat} {i : Nat} (hc : cls na i op = 6) (hp : dPre na i ρ op = true) (h : Ex P Y (mode na i) σ ρ d op c σ') :
  σ' = σ ∧ (∀ τ, Ext σ τ → Ex P Y (mode na i) τ ρ d op c τ) ∧ ∀ q sl, na.contains (q + 10000) = true → Ex P Y (mode na i) (upd σ q sl) ρ d op c (upd σ q sl) := by
 cases op with
 | load t a =>
  obtain ⟨h1, rfl⟩ := h
  have hn : na.contains (i + 1000) = true := by
   simp only [cls] at hc
   split at hc
   ·assumption
   ·simp at hc
  simp only [dPre, hn, Bool.not_true, Bool.false_or] at hp
  refine ⟨rfl, fun τ he => ⟨valC_ext he h1, rfl⟩, fun q sl hq => ⟨?_, rfl⟩⟩
  unfold parC at hp
  split at hp
  ·rename_i k sz r j ha
   have hk : k ≠ q := by
    intro e; subst e
    rw [hq] at hp; simp at hp
   simp only [valC, loadC, ha, cellsAt, upd_ne _ _ hk] at h1 ⊢
   exact h1
  ·rename_i row j ha
   simp only [valC, loadC, ha, cellsAt] at h1 ⊢
   exact h1
  ·simp at hp
 | call cl =>
  obtain ⟨callee, args, ats⟩ := cl
  cases callee with
  | value f =>
   simp only [cls] at hc
   split at hc
   ·simp at hc
   ·split at hc
    ·simp at hc
    ·split at hc <;> (first | (simp at hc; done) | (split at hc <;> simp at hc))
  | invoke r m => simp [cls] at hc
  | builtin b =>
   cases b <;> simp only [cls] at hc
   case len => split at hc <;> simp at hc
   case append => split at hc <;> (first | (simp at hc; done) | (split at hc <;> simp at hc))
   all_goals simp at hc
 | _ => first
  | (simp [cls] at hc; done) | (simp only [cls, clsT] at hc; omega) | (simp only [cls, clsT] at hc; split at hc <;> omega)
  | (simp only [cls] at hc; split at hc <;> (first | (simp at hc; done) | (split at hc <;> simp at hc)); done)
  | (rename_i op t x y u; cases op <;> simp [cls] at hc)

theorem ex_cls8 {σ σ' : Nat → Slot} {ρ : Operand → C} {d : Option Nat} {op : Op} {c : C} {na : List Nat} {i : Nat} (hc : cls na i op = 8) (h : Ex P Y (mode na i) σ ρ d op c σ') :
  ∃ B obs, (∀ q, B ≤ q → q < B + obs.length → σ q = .free) ∧ σ' = updK σ B obs ∧ ∀ τ, (∀ q, B ≤ q → q < B + obs.length → τ q = .free) → Ex P Y (mode na i) τ ρ d op c (updK τ B obs) := by
 cases op with
 | call cl =>
  obtain ⟨callee, args, ats⟩ := cl
  cases callee with
  | value f =>
   have hm : mode na i = 4 := by
    simp only [cls] at hc
    unfold mode
    split at hc
    ·simp at hc
    ·rw [if_neg ‹_›]
     split at hc
     ·simp at hc
     ·rw [if_neg ‹_›]
      split at hc
      ·rw [if_pos ‹_›]
      ·split at hc <;> simp at hc
   simp only [Ex] at h ⊢
   split at h
   ·rename_i g first caps hfo
    try simp only [hfo]
    rcases h with ⟨h0, _⟩ | ⟨h0, _⟩ | ⟨h0, h1, h2⟩ | ⟨h0, _⟩
    ·rw [hm] at h0; simp at h0
    ·rw [hm] at h0; simp at h0
    ·obtain ⟨obs, r, e, g1, g2, g3, g4, g5⟩ := h2 hm
     refine ⟨mkB e, obs, g3, g5, fun τ hτ => .inr (.inr (.inl ⟨h0, ?_, fun _ => ⟨obs, r, e, g1, g2, hτ, g4, rfl⟩⟩))⟩
     rw [g4]
     exact g2 τ (mkB e) hτ
    ·rw [hm] at h0; simp at h0
   ·have h0 := h.1
    rw [hm] at h0; simp at h0
   ·exact h.elim
  | invoke r m => simp [cls] at hc
  | builtin b =>
   cases b <;> simp only [cls] at hc
   case len => split at hc <;> simp at hc
   case append => split at hc <;> (first | (simp at hc; done) | (split at hc <;> simp at hc))
   all_goals simp at hc
 | _ => first
  | (simp [cls] at hc; done) | (simp only [cls, clsT] at hc; omega) | (simp only [cls, clsT] at hc; split at hc <;> omega)
  | (simp only [cls] at hc; split at hc <;> (first | (simp at hc; done) | (split at hc <;> simp at hc)); done)
  | (rename_i op t x y u; cases op <;> simp [cls] at hc)

theorem ex_cls7 {σ σ' : Nat → Slot} {ρ : Operand → C} {d : Option Nat} {op : Op} {c : C} {na : List Nat} {i : Nat} (hc : cls na i op = 7) (hp : dPre na i ρ op = true) (h : Ex P Y (mode na i) σ ρ d op c σ') :
  (∀ e ob, σ' e = .free → d ≠ some e → σ e = .free ∧ Ex P Y (mode na i) (upd σ e (.live ob)) ρ d op c (upd σ' e (.live ob))) ∧ ∃ q ob, na.contains (q + 10000) = true ∧ σ' = upd σ q (.live ob) := by
 cases op with
 | store t a y =>
  have hn : na.contains (i + 2000) = true := by
   simp only [cls] at hc
   split at hc
   ·assumption
   ·simp at hc
  simp only [dPre, hn, Bool.not_true, Bool.false_or] at hp
  simp only [Ex, isEff, if_true, effC] at h ⊢
  split at h
  ·rename_i it cs k sz r j hi hcs ha
   split at h
   ·rename_i o ho
    split at h
    ·rename_i row hrow
     split at h
     ·rename_i hcond
      simp only [Option.some.injEq, Prod.mk.injEq] at h
      obtain ⟨rfl, rfl⟩ := h
      rw [ha] at hp
      simp only [parC, beq_iff_eq] at hp
      refine ⟨fun e ob hfree hd => ?_, k, _, hp, rfl⟩
      have hek : e ≠ k := by rintro rfl; simp at hfree
      rw [upd_ne _ _ hek] at hfree
      refine ⟨hfree, ?_⟩
      simp only [Ext.upd hfree k o ho, hrow, if_pos hcond]
      rw [upd_comm _ (Ne.symm hek)]
     ·simp at h
    ·simp at h
   ·simp at h
  ·simp at h
 | call cl =>
  obtain ⟨callee, args, ats⟩ := cl
  cases callee with
  | value f =>
   simp only [cls] at hc
   split at hc
   ·simp at hc
   ·split at hc
    ·simp at hc
    ·split at hc <;> (first | (simp at hc; done) | (split at hc <;> simp at hc))
  | invoke r m => simp [cls] at hc
  | builtin b =>
   cases b <;> simp only [cls] at hc
   case len => split at hc <;> simp at hc
   case append => split at hc <;> (first | (simp at hc; done) | (split at hc <;> simp at hc))
   all_goals simp at hc
 | _ => first
  | (simp [cls] at hc; done) | (simp only [cls, clsT] at hc; omega) | (simp only [cls, clsT] at hc; split at hc <;> omega)
  | (simp only [cls] at hc; split at hc <;> (first | (simp at hc; done) | (split at hc <;> simp at hc)); done)
  | (rename_i op t x y u; cases op <;> simp [cls] at hc)

theorem appendC_own {σ σ' : Nat → Slot} {d k sz lo n : Nat} {t u : TypeId} {y c : C} (h : appendC P σ d t u (.own k sz lo n) y = some (c, σ')) :
  ∃ ob, σ d = .free ∧ upd σ k .dead d = .free ∧ σ' = upd (upd σ k .dead) d (.live ob) := by
 unfold appendC at h
 split at h
 ·split at h
  ·simp at h
  ·split at h
   ·split at h
    ·rename_i hc
     have hd := isFree_iff hc.1
     dsimp only at h
     split at h
     ·rename_i o ho
      split at h
      ·simp only [Option.some.injEq, Prod.mk.injEq] at h
       obtain ⟨rfl, rfl⟩ := h
       refine ⟨_, hd, ?_, rfl⟩
       rw [upd_ne _ _ (by rintro rfl; rw [hd] at ho; simp at ho)]; exact hd
      ·simp at h
     ·simp at h
    ·simp at h
   ·simp at h
  ·simp at h
 ·simp at h

theorem ex_cls10 {σ σ' : Nat → Slot} {ρ : Operand → C} {d : Option Nat} {op : Op} {c : C} {na : List Nat} {i : Nat} (hc : cls na i op = 10) (hp : dPre na i ρ op = true) (h : Ex P Y (mode na i) σ ρ d op c σ') :
  ∃ q e ob, na.contains (q + 10000) = true ∧ d = some e ∧ σ e = .free ∧ upd σ q .dead e = .free ∧ σ' = upd (upd σ q .dead) e (.live ob) := by
 cases op with
 | call cl =>
  obtain ⟨callee, args, ats⟩ := cl
  cases callee with
  | value f =>
   simp only [cls] at hc
   split at hc
   ·simp at hc
   ·split at hc
    ·simp at hc
    ·split at hc <;> (first | (simp at hc; done) | (split at hc <;> simp at hc))
  | invoke r m => simp [cls] at hc
  | builtin b =>
   cases b <;> simp only [cls] at hc
   case len => split at hc <;> simp at hc
   case append =>
    split at hc
    ·simp at hc
    ·split at hc
     ·rename_i hn1 hn2
      simp only [dPre, hn2, Bool.not_true, Bool.false_or, Bool.and_eq_true] at hp
      replace hp := hp.2
      simp only [Ex, isEff, if_true, effC] at h
      split at h
      ·rename_i e s y t u h1 h2
       rw [h1] at hp
       simp only [ownFirst] at hp
       unfold ownC at hp
       split at hp
       ·rename_i k sz lo n hs
        rw [hs] at h
        obtain ⟨ob, g1, g2, g3⟩ := appendC_own h
        exact ⟨k, e, ob, hp, rfl, g1, g2, g3⟩
       ·simp at hp
      ·simp at h
     ·simp at hc
   all_goals simp at hc
 | _ => first
  | (simp [cls] at hc; done) | (simp only [cls, clsT] at hc; omega) | (simp only [cls, clsT] at hc; split at hc <;> omega)
  | (simp only [cls] at hc; split at hc <;> (first | (simp at hc; done) | (split at hc <;> simp at hc)); done)
  | (rename_i op t x y u; cases op <;> simp [cls] at hc)

theorem findC_cons {q : KQ} {k e v : C} {rows : List (List C)} {i : Nat} : findC q k ([e, v] :: rows) i = match sameC q k e with
      | some true => some (some (i, v))
      | some false => findC q k rows (i + 1)
      | none => none := rfl

theorem findC_row {q : KQ} {k : C} {r : List C} {rows : List (List C)} {i : Nat} {x : Option (Nat × C)} (h : findC q k (r :: rows) i = some x) : ∃ e v, r = [e, v] := by
 unfold findC at h
 split at h
 ·exact ⟨_, _, rfl⟩
 ·simp at h

theorem findC_app1 {q : KQ} {k : C} {l : List (List C)} : ∀ {rows : List (List C)} {i : Nat} {p : Nat × C}, findC q k rows i = some (some p) → findC q k (rows ++ l) i = some (some p)
 | [], i, p, h => by simp [findC] at h
 | r0 :: rows, i, p, h => by
  obtain ⟨e, v, rfl⟩ := findC_row h
  rw [List.cons_append, findC_cons]
  rw [findC_cons] at h
  split at h
  ·exact h
  ·exact findC_app1 h
  ·simp at h

theorem findC_app2 {q : KQ} {k : C} {l : List (List C)} : ∀ {rows : List (List C)} {i : Nat}, findC q k rows i = some none → findC q k (rows ++ l) i = findC q k l (i + rows.length)
 | [], i, h => rfl
 | r0 :: rows, i, h => by
  obtain ⟨e, v, rfl⟩ := findC_row h
  rw [List.cons_append, findC_cons]
  rw [findC_cons] at h
  split at h
  ·simp at h
  ·rw [findC_app2 h]
   simp only [List.length_cons]
   rw [show i + 1 + rows.length = i + (rows.length + 1) by omega]
  ·simp at h

theorem eqInts_fit : ∀ {ks : List IntKind} {xs ys : List C}, (eqInts ks xs xs).isSome = true → (eqInts ks ys ys).isSome = true → (eqInts ks xs ys).isSome = true
 | [], [], [], _, _ => rfl
 | k :: ks, x :: xs, y :: ys, h1, h2 => by
  cases x <;> simp only [eqInts] at h1 <;> first | (simp at h1; done) | skip
  cases y <;> simp only [eqInts] at h2 <;> first | (simp at h2; done) | skip
  split at h1
  ·rename_i hk1
   split at h2
   ·rename_i hk2
    obtain ⟨rfl, _⟩ := hk1
    obtain ⟨rfl, _⟩ := hk2
    simp only [Option.isSome_map] at h1 h2
    simp only [eqInts, and_self, if_true, Option.isSome_map]
    exact eqInts_fit h1 h2
   ·simp at h2
  ·simp at h1
 | [], _ :: _, _, h, _ => by simp [eqInts] at h
 | [], [], _ :: _, _, h => by simp [eqInts] at h
 | _ :: _, [], _, h, _ => by simp [eqInts] at h
 | _ :: _, _ :: _, [], _, h => by simp [eqInts] at h

theorem lookup_ent {σ σ' : Nat → Slot} {t : TypeId} {x ix m k c c' : C} (hl : lookupC P σ t x ix false = some c) (he : entC P σ t m k = some (c', σ')) : lookupC P σ' t x ix false = some c := by
 unfold entC at he
 split at he
 ·rename_i kt et q hkd
  split at he
  ·rename_i ks o ie hkq ho hie
   split at he
   ·rename_i hc
    obtain ⟨hnl, hsz, hfit⟩ := hc
    split at he
    ·simp only [Option.some.injEq, Prod.mk.injEq] at he
     rw [← he.2]; exact hl
    ·rename_i hf
     simp only [Option.map_eq_some_iff, Prod.mk.injEq] at he
     obtain ⟨z, hz, rfl, rfl⟩ := he
     unfold lookupC at hl ⊢
     rw [hkd] at hl ⊢
     simp only at hl ⊢
     rw [hkq, hie] at hl
     rw [hkq, hie]
     cases hr : rowsC σ x with
     | none => rw [hr] at hl; simp at hl
     | some rows =>
      rw [hr] at hl
      simp only at hl
      by_cases hx : x = .mp q
      ·subst hx
       have hrows : rows = o.rows := by
        simp only [rowsC, ho] at hr
        rw [if_pos ⟨hnl, hsz⟩] at hr
        simpa using hr.symm
       subst hrows
       have hr' : rowsC (upd σ q (.live { o with rows := o.rows ++ [[k, z]] })) (.mp q) = some (o.rows ++ [[k, z]]) := by
        simp only [rowsC, upd_same]
        rw [if_pos ⟨hnl, hsz⟩]
       rw [hr']
       simp only
       split at hl
       ·rename_i hfi
        rw [if_pos hfi]
        split at hl
        ·rename_i j v hf2
         rw [findC_app1 hf2]
         exact hl
        ·rename_i hf2
         rw [findC_app2 hf2]
         simp only [findC]
         have hs : ∃ b, sameC (.flat ks) ix k = some b := by
          unfold fitQ at hfi hfit
          split at hfi
          ·rename_i ks1 xs he1
           simp only [KQ.flat.injEq] at he1
           subst he1
           split at hfit
           ·rename_i ks2 ys he2
            simp only [KQ.flat.injEq] at he2
            subst he2
            exact Option.isSome_iff_exists.1 (eqInts_fit hfi hfit)
           ·simp at hfit
           ·rename_i hne _
            exact absurd rfl (hne ks)
          ·simp at hfi
          ·rename_i hne _
           exact absurd rfl (hne ks)
         obtain ⟨b, hb⟩ := hs
         rw [hb]
         cases b
         ·exact hl
         ·simp only [Bool.false_eq_true, if_false, Option.map_some, hz] at hl ⊢
          exact hl
        ·simp at hl
       ·simp at hl
      ·have hr' : rowsC (upd σ q (.live { o with rows := o.rows ++ [[k, z]] })) x = some rows := by
        rw [← hr]
        cases x with
        | mp p =>
         have : p ≠ q := fun e => hx (by rw [e])
         simp only [rowsC, upd_ne _ _ this]
        | _ => rfl
       rw [hr']
       exact hl
    ·simp at he
   ·simp at he
  ·simp at he
 ·simp at he

theorem ex_clsL {σ σ' : Nat → Slot} {ρ : Operand → C} {d : Option Nat} {op : Op} {c : C} {na : List Nat} {i t : Nat} (hc : cls na i op = clsT t) (h : Ex P Y (mode na i) σ ρ d op c σ') :
  ∃ a b, op = .lookup t a b false ∧ σ' = σ ∧ lookupC P σ t (ρ a) (ρ b) false = some c := by
 cases op with
 | lookup u a b ok =>
  obtain ⟨h1, rfl⟩ := h
  simp only [cls, clsT] at hc
  split at hc
  ·rename_i hn
   have e : @Eq Nat u t := by omega
   obtain rfl : u = t := e
   simp only [Bool.and_eq_true, Bool.not_eq_true'] at hn
   obtain ⟨_, rfl⟩ := hn
   exact ⟨a, b, rfl, rfl, h1⟩
  ·omega
 | call cl =>
  obtain ⟨callee, args, ats⟩ := cl
  cases callee with
  | value f => simp only [cls, clsT] at hc; repeat' (first | omega | split at hc)
  | invoke r m => simp only [cls, clsT] at hc; omega
  | builtin b => cases b <;> simp only [cls, clsT] at hc <;> (repeat' (first | omega | split at hc))
 | binOp op t x y u => cases op <;> first | (simp [cls] at hc; done) | (simp [cls, clsT] at hc; omega)
 | _ => simp only [cls, clsT] at hc; first | omega | (split at hc <;> omega)

theorem cls_E {op : Op} {na : List Nat} {i t : Nat} (hc : cls na i op = clsT t + 1) : ∃ m k, op = .mapEntry t m k := by
 cases op with
 | mapEntry u m k =>
  simp only [cls, clsT] at hc
  have e : @Eq Nat u t := by omega
  obtain rfl : u = t := e
  exact ⟨m, k, rfl⟩
 | lookup u a b ok =>
  simp only [cls, clsT] at hc
  split at hc <;> omega
 | call cl =>
  obtain ⟨callee, args, ats⟩ := cl
  cases callee with
  | value f => simp only [cls, clsT] at hc; repeat' (first | omega | split at hc)
  | invoke r m => simp only [cls, clsT] at hc; omega
  | builtin b => cases b <;> simp only [cls, clsT] at hc <;> (repeat' (first | omega | split at hc))
 | binOp op t x y u => cases op <;> (simp only [cls, clsT] at hc; omega)
 | _ => simp only [cls, clsT] at hc; first | omega | (split at hc <;> omega)

end
end Go.Abs

/- Regions whose order Go leaves open: the theorem. No condition. -/
namespace Go.Abs

section
variable {P : Program} {Y : YRel} {ops : Array Oper}

theorem pairs_congr {ρ ρ' : Operand → C} {ps : List (Nat × Operand)} (h : ∀ p ∈ ps, ρ p.2 = ρ' p.2) : (ps.map fun p => (p.1, ρ p.2)) = ps.map fun p => (p.1, ρ' p.2) :=
 List.map_congr_left fun p hp => by rw [h p hp]

theorem Ex.congr {m : Nat} {σ σ' : Nat → Slot} {ρ ρ' : Operand → C} {d : Option Nat} {op : Op} {c : C} (h : Ex P Y m σ ρ d op c σ') (hr : ∀ y ∈ op.operands.toList, ρ y = ρ' y) : Ex P Y m σ ρ' d op c σ' := by
 cases op <;> simp only [Op.operands] at hr
 case call cl =>
  obtain ⟨callee, args, ats⟩ := cl
  have hargs : args.toList.map ρ = args.toList.map ρ' := List.map_congr_left fun y hy => hr y (by
   cases callee <;> simp [Call.operands] at hy ⊢ <;> first | exact .inr hy | exact hy)
  cases callee with
  | value f =>
   have hf : ρ f = ρ' f := hr f (by simp [Call.operands])
   simp only [Ex] at h ⊢
   rw [← hf, ← hargs]
   exact h
  | invoke r m => simp [Ex, isEff, valC] at h
  | builtin b =>
   cases b
   case append =>
    simp only [Ex, isEff, if_true, effC] at h ⊢
    split at h
    ·rename_i e s y t u h1 h2
     rw [← hr s (by simp [Call.operands, h1]), ← hr y (by simp [Call.operands, h1])]
     exact h
    ·simp at h
   all_goals
    simp only [Ex, isEff, Bool.false_eq_true, if_false, valC] at h ⊢
    rw [← hargs]
    exact h
 case build t ps =>
  have := pairs_congr (ρ := ρ) (ρ' := ρ') (ps := ps.toList) fun p hp => hr p.2 (by simp only [List.mem_map]; exact ⟨p, hp, rfl⟩)
  simp only [Ex, isEff, Bool.false_eq_true, if_false, valC] at h ⊢
  rw [← this]
  exact h
 case buildSlice t n ps =>
  have := pairs_congr (ρ := ρ) (ρ' := ρ') (ps := ps.toList) fun p hp => hr p.2 (by simp only [List.mem_map]; exact ⟨p, hp, rfl⟩)
  simp only [Ex, isEff, if_true, effC] at h ⊢
  rw [← this]
  exact h
 case makeMap t r =>
  cases r with
  | some r => simp [Ex, isEff, effC] at h
  | none => exact h
 case makeFunc f a b =>
  have h1 : a.toList.map ρ = a.toList.map ρ' := List.map_congr_left fun y hy => hr y (by simp at hy ⊢; exact .inl hy)
  have h2 : b.toList.map ρ = b.toList.map ρ' := List.map_congr_left fun y hy => hr y (by simp at hy ⊢; exact .inr hy)
  simp only [Ex, isEff, Bool.false_eq_true, if_false, valC] at h ⊢
  rw [← h1, ← h2]
  exact h
 case slice t y lo hi mx =>
  have h0 : ρ y = ρ' y := hr y (by simp)
  have h1 : lo.map ρ = lo.map ρ' := by cases lo <;> simp_all
  have h2 : hi.map ρ = hi.map ρ' := by cases hi <;> simp_all
  have h3 : mx.map ρ = mx.map ρ' := by cases mx <;> simp_all
  simp only [Ex, isEff, Bool.false_eq_true, if_false, valC] at h ⊢
  rw [← h0, ← h1, ← h2, ← h3]
  exact h
 all_goals
  simp only [Ex, isEff, Bool.false_eq_true, if_false, if_true, valC, effC] at h ⊢
  first
   | exact h
   | (simp_all; done)

theorem dPre_congr {ρ ρ' : Operand → C} {na : List Nat} {i : Nat} {op : Op} (hr : ∀ y ∈ op.operands.toList, ρ y = ρ' y) (h : dPre na i ρ op = true) : dPre na i ρ' op = true := by
  cases op with
  | call cl =>
    obtain ⟨callee, args, ats⟩ := cl
    cases callee with
    | builtin b =>
      cases b
      case append =>
        simp only [dPre, Bool.and_eq_true, Bool.or_eq_true, List.all_eq_true] at h ⊢
        refine ⟨h.1.imp id fun h y hy => ?_, h.2.imp id fun h => ?_⟩
        · rw [← hr y (by simp [Op.operands, Call.operands] at hy ⊢; exact hy)]
          exact h y hy
        · cases he : args.toList with
          | nil => rw [he] at h; exact h
          | cons y l =>
            rw [he] at h
            simp only [ownFirst] at h ⊢
            rw [← hr y (by have : y ∈ args.toList := by rw [he]; simp
                           simp [Op.operands, Call.operands] at this ⊢; exact this)]
            exact h
      case len =>
        simp only [dPre, Bool.or_eq_true, List.all_eq_true] at h ⊢
        refine h.imp id fun h y hy => ?_
        rw [← hr y (by simp [Op.operands, Call.operands] at hy ⊢; exact hy)]
        exact h y hy
      all_goals rfl
    | _ => rfl
  | load t a =>
    simp only [dPre] at h ⊢
    rw [← hr a (by simp [Op.operands])]; exact h
  | store t a y =>
    simp only [dPre] at h ⊢
    rw [← hr a (by simp [Op.operands])]; exact h
  | _ => rfl

theorem Ex.any {m : Nat} {σ σ' : Nat → Slot} {ρ : Operand → C} {d : Option Nat} {op : Op} {c : C} (h : Ex P Y m σ ρ d op c σ') : Ex P Y 0 σ ρ d op c σ' := by
 cases op with
 | call cl =>
  obtain ⟨callee, args, ats⟩ := cl
  cases callee with
  | value f =>
   simp only [Ex] at h ⊢
   split at h
   ·rename_i g first caps hfo
    try simp only [hfo]
    rcases h with ⟨_, h⟩ | ⟨_, h⟩ | ⟨_, h⟩ | ⟨_, h⟩
    ·exact .inl ⟨by simp, h⟩
    ·exact .inr (.inl ⟨by simp, h⟩)
    ·exact .inr (.inr (.inl ⟨by simp, h.1, fun h => by simp at h⟩))
    ·exact .inr (.inr (.inr ⟨by simp, h⟩))
   ·rename_i l hfo
    try simp only [hfo]
    exact ⟨trivial, h.2⟩
   ·exact h.elim
  | _ => exact h
 | _ => exact h

def Exd (P : Program) (Y : YRel) (ops : Array Oper) (na : List Nat) (i : Nat) (s : AS) (o : Oper) (c : C) (σ' : Nat → Slot) : Prop :=
 (wantC ops s.env o = some true ∧ dPre na i s.ev o.op = true ∧ dPost na i c o.op = true ∧ Ex P Y (mode na i) s.sto s.ev o.dst o.op c σ') ∨ (wantC ops s.env o = some false ∧ c = .tup [] ∧ σ' = s.sto)

def dPostS (na : List Nat) (i : Nat) (o : Oper) (s : AS) : Prop :=
 match o.op, o.dst with
 | .buildSlice .., some d => (if na.contains i then !(s.env d).isPure else (s.env d).isPure) = true
 | .buildSlice .., none => False
 | _, _ => True

def stepD (P : Program) (Y : YRel) (ops : Array Oper) (na : List Nat) (i : Nat) (s : AS) (o : Oper) (K : AS → Prop) : Prop :=
 match wantC ops s.env o with
 | some true => dPre na i s.ev o.op = true ∧ opK P Y (mode na i) s o fun s' => dPostS na i o s' ∧ K s'
 | some false => K (s.put o.dst (.tup []))
 | none => False

def evalD (P : Program) (Y : YRel) (ops : Array Oper) (na : List Nat) : List (Nat × Oper) → AS → (AS → Prop) → Prop
 | [], s, K => K s
 | (i, o) :: l, s, K => stepD P Y ops na i s o fun s' => evalD P Y ops na l s' K

theorem stepD_iff {na : List Nat} {i : Nat} {s : AS} {o : Oper} {K : AS → Prop} (h : stepD P Y ops na i s o K) : ∃ c σ', Exd P Y ops na i s o c σ' ∧ K ⟨putE s.env o.dst c, σ'⟩ := by
 unfold stepD at h
 split at h
 ·rename_i hw
  obtain ⟨h1, h2⟩ := h
  rw [opK_iff] at h2
  obtain ⟨c, σ', h3, h4, h5⟩ := h2
  refine ⟨c, σ', .inl ⟨hw, h1, ?_, h3⟩, h5⟩
  unfold dPostS at h4
  split at h4
  ·rename_i e1 e2
   rw [e1]
   simp only [e2, putE, upd_same] at h4
   exact h4
  ·exact h4.elim
  ·rename_i hne hne2
   cases hop : o.op with
   | buildSlice t n ps =>
    cases hd : o.dst with
    | none => exact absurd hd (hne2 _ _ _ hop)
    | some d => exact absurd hd (hne _ _ _ _ hop)
   | _ => rfl
 ·rename_i hw
  exact ⟨_, _, .inr ⟨hw, rfl, rfl⟩, h⟩
 ·exact h.elim

def evalR (P : Program) (Y : YRel) (ops : Array Oper) (na : List Nat) : List (Nat × Oper) → AS → (AS → Prop) → Prop
 | [], s, K => K s
 | (i, o) :: l, s, K => ∃ c σ', Exd P Y ops na i s o c σ' ∧ evalR P Y ops na l ⟨putE s.env o.dst c, σ'⟩ K

theorem evalR_of {na : List Nat} {K : AS → Prop} : ∀ {l : List (Nat × Oper)} {s : AS}, evalD P Y ops na l s K → evalR P Y ops na l s K
 | [], _, h => h
 | (i, o) :: l, s, h => by
  obtain ⟨c, σ', h1, h2⟩ := stepD_iff h
  exact ⟨c, σ', h1, evalR_of h2⟩

theorem Exd.stepK {na : List Nat} {i : Nat} {s : AS} {o : Oper} {c : C} {σ' : Nat → Slot} {K : AS → Prop} (h : Exd P Y ops na i s o c σ') (hK : K ⟨putE s.env o.dst c, σ'⟩) : stepK P Y ops s o K := by
 rw [stepK_iff]
 refine ⟨c, σ', ?_, hK⟩
 rcases h with ⟨h1, _, _, h2⟩ | h
 ·exact .inl ⟨h1, h2.any⟩
 ·exact .inr h

theorem Exd.env {na : List Nat} {i : Nat} {s : AS} {o : Oper} {c : C} {σ' : Nat → Slot} (h : Exd P Y ops na i s o c σ') {env' : Nat → C} (he : ∀ t, t ∈ o.looksAt ops → env' t = s.env t) :
  Exd P Y ops na i ⟨env', s.sto⟩ o c σ' := by
 have hw : wantC ops env' o = wantC ops s.env o := by
  unfold wantC
  cases hg : o.guard with
  | none => rfl
  | some gw =>
   obtain ⟨j, want⟩ := gw
   simp only
   cases hd : (ops[j]?).bind (·.dst) with
   | none => rfl
   | some t =>
    simp only
    rw [he t (by simp [Oper.looksAt, hg, hd])]
 have hev : ∀ y ∈ o.op.operands.toList, s.ev y = AS.ev ⟨env', s.sto⟩ y := by
  intro y hy
  cases y with
  | tmp t =>
   refine (he t ?_).symm
   exact List.mem_append_left _ (List.mem_filterMap.2 ⟨.tmp t, hy, rfl⟩)
  | _ => rfl
 unfold Exd at *
 simp only
 rw [hw]
 rcases h with ⟨h1, h2, h3, h4⟩ | h
 ·exact .inl ⟨h1, dPre_congr hev h2, h3, h4.congr hev⟩
 ·exact .inr h

def Facts (P : Program) (Y : YRel) (ops : Array Oper) (na : List Nat) (i : Nat) (env : Nat → C) (o : Oper) (k : Nat) (σ : Nat → Slot) (c : C) (σ' : Nat → Slot) : Prop :=
 (σ' = σ ∧ ∀ τ, Exd P Y ops na i ⟨env, τ⟩ o c τ) ∨
 (k = 1 ∧ σ' = σ ∧ ∀ τ, Ext σ τ → Exd P Y ops na i ⟨env, τ⟩ o c τ) ∨
 (k = 2 ∧ ∃ e ob, o.dst = some e ∧ σ e = .free ∧ σ' = upd σ e (.live ob) ∧ ∀ τ, τ e = .free → Exd P Y ops na i ⟨env, τ⟩ o c (upd τ e (.live ob))) ∨
 (k = 3 ∧ ∀ e ob, σ' e = .free → o.dst ≠ some e → σ e = .free ∧ Exd P Y ops na i ⟨env, upd σ e (.live ob)⟩ o c (upd σ' e (.live ob))) ∨
 (k = 5 ∧ ∃ e ob, o.dst = some e ∧ σ e = .free ∧ σ' = upd σ e (.live ob)) ∨
 (k = 6 ∧ σ' = σ ∧ (∀ τ, Ext σ τ → Exd P Y ops na i ⟨env, τ⟩ o c τ) ∧ (∀ q sl, na.contains (q + 10000) = true → Exd P Y ops na i ⟨env, upd σ q sl⟩ o c (upd σ q sl)) ∧ ∀ q sl τ, na.contains (q + 10000) = true → Ext (upd σ q sl) τ → Exd P Y ops na i ⟨env, τ⟩ o c τ) ∨
 (k = 7 ∧ (∀ e ob, σ' e = .free → o.dst ≠ some e → σ e = .free ∧ Exd P Y ops na i ⟨env, upd σ e (.live ob)⟩ o c (upd σ' e (.live ob))) ∧ ∃ q ob, na.contains (q + 10000) = true ∧ σ' = upd σ q (.live ob)) ∨
 (k = 8 ∧ ∃ B obs, (∀ q, B ≤ q → q < B + obs.length → σ q = .free) ∧ σ' = updK σ B obs ∧ ∀ τ, (∀ q, B ≤ q → q < B + obs.length → τ q = .free) → Exd P Y ops na i ⟨env, τ⟩ o c (updK τ B obs)) ∨ k = 9 ∨
 (k = 10 ∧ ∃ q e ob, na.contains (q + 10000) = true ∧ o.dst = some e ∧ σ e = .free ∧ upd σ q .dead e = .free ∧ σ' = upd (upd σ q .dead) e (.live ob))

theorem Exd.facts {na : List Nat} {i : Nat} {s : AS} {o : Oper} {c : C} {σ' : Nat → Slot} (h : Exd P Y ops na i s o c σ') (hc : cls na i o.op ≤ 3 ∨ cls na i o.op = 5 ∨ cls na i o.op = 6 ∨ cls na i o.op = 7 ∨ cls na i o.op = 8 ∨ cls na i o.op = 9 ∨ cls na i o.op = 10) :
  Facts P Y ops na i s.env o (cls na i o.op) s.sto c σ' := by
 rcases h with ⟨h1, h2, h3, h4⟩ | ⟨h1, rfl, rfl⟩
 ·have up : ∀ {τ τ' : Nat → Slot}, Ex P Y (mode na i) τ s.ev o.dst o.op c τ' → Exd P Y ops na i ⟨s.env, τ⟩ o c τ' := fun g => .inl ⟨h1, h2, h3, g⟩
  by_cases g5 : cls na i o.op = 5
  ·obtain ⟨e, ob, e1, e2, e3⟩ := ex_cls5 g5 h4
   exact .inr (.inr (.inr (.inr (.inl ⟨g5, e, ob, e1, e2, e3⟩))))
  by_cases g6 : cls na i o.op = 6
  ·obtain ⟨e1, e2, e3⟩ := ex_cls6 g6 h2 h4
   exact .inr (.inr (.inr (.inr (.inr (.inl ⟨g6, e1, fun τ hτ => up (e2 τ hτ), fun q sl hq => up (e3 q sl hq), fun q sl τ hq hτ => up ((ex_cls6 g6 h2 (e3 q sl hq)).2.1 τ hτ)⟩)))))
  by_cases g7 : cls na i o.op = 7
  ·obtain ⟨e1, e2⟩ := ex_cls7 g7 h2 h4
   exact .inr (.inr (.inr (.inr (.inr (.inr (.inl ⟨g7, fun e ob hf hd => ⟨(e1 e ob hf hd).1, up (e1 e ob hf hd).2⟩, e2⟩))))))
  by_cases g8 : cls na i o.op = 8
  ·obtain ⟨B, obs, e1, e2, e3⟩ := ex_cls8 g8 h4
   exact .inr (.inr (.inr (.inr (.inr (.inr (.inr (.inl ⟨g8, B, obs, e1, e2, fun τ hτ => up (e3 τ hτ)⟩)))))))
  by_cases g9 : cls na i o.op = 9
  ·exact .inr (.inr (.inr (.inr (.inr (.inr (.inr (.inr (.inl g9))))))))
  by_cases g10 : cls na i o.op = 10
  ·obtain ⟨q, e, ob, e1, e2, e3, e4, e5⟩ := ex_cls10 g10 h2 h4
   exact .inr (.inr (.inr (.inr (.inr (.inr (.inr (.inr (.inr ⟨g10, q, e, ob, e1, e2, e3, e4, e5⟩))))))))
  rcases Nat.lt_or_ge 2 (cls na i o.op) with g | g
  ·have g3 : cls na i o.op = 3 := by omega
   refine .inr (.inr (.inr (.inl ⟨g3, fun e ob hf hd => ?_⟩)))
   obtain ⟨g4, g5⟩ := ex_cls3 (ob := ob) g3 h4 hf hd
   exact ⟨g4, up g5⟩
  ·rcases Nat.lt_or_ge 1 (cls na i o.op) with g' | g'
   ·have g3 : cls na i o.op = 2 := by omega
    obtain ⟨e, ob, e1, e2, e3, e4⟩ := ex_cls2 g3 h2 h3 h4
    exact .inr (.inr (.inl ⟨g3, e, ob, e1, e2, e3, fun τ hτ => up (e4 τ hτ)⟩))
   ·rcases Nat.lt_or_ge 0 (cls na i o.op) with g'' | g''
    ·have g3 : cls na i o.op = 1 := by omega
     obtain ⟨e1, e2⟩ := ex_cls1 g3 h4
     exact .inr (.inl ⟨g3, e1, fun τ hτ => up (e2 τ hτ)⟩)
    ·have g3 : cls na i o.op = 0 := by omega
     obtain ⟨e1, e2⟩ := ex_cls0 g3 h2 h3 h4
     exact .inl ⟨e1, fun τ => up (e2 τ)⟩
 ·exact .inl ⟨rfl, fun τ => .inr ⟨h1, rfl, rfl⟩⟩

theorem Exd.zero {na : List Nat} {i : Nat} {s : AS} {o : Oper} {c : C} {σ' : Nat → Slot} (h : Exd P Y ops na i s o c σ') (hc : cls na i o.op = 0) : σ' = s.sto ∧ ∀ τ, Exd P Y ops na i ⟨s.env, τ⟩ o c τ := by
 rcases h with ⟨h1, h2, h3, h4⟩ | ⟨h1, rfl, rfl⟩
 ·obtain ⟨e1, e2⟩ := ex_cls0 hc h2 h3 h4
  exact ⟨e1, fun τ => .inl ⟨h1, h2, h3, e2 τ⟩⟩
 ·exact ⟨rfl, fun τ => .inr ⟨h1, rfl, rfl⟩⟩

theorem Exd.quiet {na : List Nat} {i : Nat} {s : AS} {o : Oper} {c : C} {σ' : Nat → Slot} (h : Exd P Y ops na i s o c σ') (hc : cls na i o.op = 0 ∨ cls na i o.op = 1 ∨ cls na i o.op = 6 ∨ (100 ≤ cls na i o.op ∧ cls na i o.op % 2 = 0)) : σ' = s.sto := by
 rcases hc with hc | hc | hc | hc
 ·exact (h.zero hc).1
 ·rcases h with ⟨h1, h2, h3, h4⟩ | ⟨h1, rfl, rfl⟩
  ·exact (ex_cls1 hc h4).1
  ·rfl
 ·rcases h with ⟨h1, h2, h3, h4⟩ | ⟨h1, rfl, rfl⟩
  ·exact (ex_cls6 hc h2 h4).1
  ·rfl
 ·rcases h with ⟨h1, h2, h3, h4⟩ | ⟨h1, rfl, rfl⟩
  ·obtain ⟨t, ht⟩ : ∃ t, cls na i o.op = clsT t := ⟨(cls na i o.op - 100) / 2, by unfold clsT; omega⟩
   obtain ⟨_, _, _, e, _⟩ := ex_clsL ht h4
   exact e
  ·rfl

theorem Exd.lookEnt {na : List Nat} {i j : Nat} {oi oj : Oper} {s : AS} {ci cj : C} {σ1 σ2 : Nat → Slot} {t : Nat} (hcj : cls na j oj.op = clsT t) (hci : cls na i oi.op = clsT t + 1)
  (hj : Exd P Y ops na j s oj cj σ1) (hi : Exd P Y ops na i ⟨s.env, s.sto⟩ oi ci σ2) : Exd P Y ops na j ⟨s.env, σ2⟩ oj cj σ2 := by
 rcases hj with ⟨h1, h2, h3, h4⟩ | ⟨h1, rfl, rfl⟩
 ·obtain ⟨a, b, hop, _, hl⟩ := ex_clsL hcj h4
  rcases hi with ⟨g1, g2, g3, g4⟩ | ⟨g1, rfl, rfl⟩
  ·obtain ⟨m, k, hop2⟩ := cls_E hci
   rw [hop2] at g4
   have g5 : entC P s.sto t (s.ev m) (s.ev k) = some (ci, σ2) := g4
   refine .inl ⟨h1, h2, h3, ?_⟩
   rw [hop]
   exact ⟨lookup_ent hl g5, rfl⟩
  ·refine .inl ⟨h1, h2, h3, ?_⟩
   rw [hop]
   exact ⟨hl, rfl⟩
 ·exact .inr ⟨h1, rfl, rfl⟩

theorem swap {na : List Nat} {i j : Nat} {oi oj : Oper} {s : AS} {ci cj : C} {σ1 σ2 : Nat → Slot} (hap : oj.apart ops oi = true) (hco : compat (cls na j oj.op) (cls na i oi.op) = true)
  (hj : Exd P Y ops na j s oj cj σ1) (hi : Exd P Y ops na i ⟨putE s.env oj.dst cj, σ1⟩ oi ci σ2) :
  ∃ σ1', Exd P Y ops na i s oi ci σ1' ∧ Exd P Y ops na j ⟨putE s.env oi.dst ci, σ1'⟩ oj cj σ2 ∧ putE (putE s.env oi.dst ci) oj.dst cj = putE (putE s.env oj.dst cj) oi.dst ci := by
 obtain ⟨a1, a2, a3⟩ := Oper.apart_spec hap
 have henv : putE (putE s.env oi.dst ci) oj.dst cj = putE (putE s.env oj.dst cj) oi.dst ci := by
  cases hdi : oi.dst with
  | none => rfl
  | some di =>
   cases hdj : oj.dst with
   | none => rfl
   | some dj => exact upd_comm _ (fun e => a2 dj hdj (by rw [hdi, e])) _ _
 have hi0 : Exd P Y ops na i ⟨s.env, σ1⟩ oi ci σ2 := hi.env (env' := s.env) fun t ht => by
  cases hdj : oj.dst with
  | none => rfl
  | some dj =>
   simp only [putE]
   rw [upd_ne _ _ (show t ≠ dj from fun e => a1 dj hdj (e ▸ ht))]
 have lift0 : ∀ {σ τ : Nat → Slot}, Exd P Y ops na j ⟨s.env, σ⟩ oj cj τ → Exd P Y ops na j ⟨putE s.env oi.dst ci, σ⟩ oj cj τ := fun g => g.env (env' := putE s.env oi.dst ci) fun t ht => by
  cases hdi : oi.dst with
  | none => rfl
  | some di =>
   simp only [putE]
   rw [upd_ne _ _ (show t ≠ di from fun e => a3 di hdi (e ▸ ht))]
 by_cases hge : 100 ≤ cls na j oj.op ∨ 100 ≤ cls na i oi.op
 ·have hcs : cls na j oj.op = 0 ∨ ((cls na j oj.op = 0 ∨ cls na j oj.op = 1 ∨ cls na j oj.op = 6 ∨ (100 ≤ cls na j oj.op ∧ cls na j oj.op % 2 = 0)) ∧ (cls na i oi.op = 0 ∨ cls na i oi.op = 1 ∨ cls na i oi.op = 6 ∨ (100 ≤ cls na i oi.op ∧ cls na i oi.op % 2 = 0))) ∨
    (100 ≤ cls na j oj.op ∧ cls na j oj.op % 2 = 0 ∧ cls na i oi.op = cls na j oj.op + 1) := by
   simp only [compat, Bool.or_eq_true, Bool.and_eq_true, beq_iff_eq, decide_eq_true_eq] at hco
   omega
  rcases hcs with h0 | ⟨hqj, hqi⟩ | ⟨g1, g2, g3⟩
  ·obtain ⟨rfl, fj⟩ := hj.zero h0
   exact ⟨σ2, hi0, lift0 (fj σ2), henv⟩
  ·have e1 := hj.quiet hqj
   subst e1
   have e2 := hi0.quiet hqi
   subst e2
   exact ⟨s.sto, hi0, lift0 hj, henv⟩
  ·have e1 := hj.quiet (.inr (.inr (.inr ⟨g1, g2⟩)))
   subst e1
   obtain ⟨t, ht⟩ : ∃ t, cls na j oj.op = clsT t := ⟨(cls na j oj.op - 100) / 2, by unfold clsT; omega⟩
   exact ⟨σ2, hi0, lift0 (Exd.lookEnt ht (by omega) hj hi0), henv⟩
 have hcle : (cls na j oj.op ≤ 3 ∨ cls na j oj.op = 5 ∨ cls na j oj.op = 6 ∨ cls na j oj.op = 7 ∨ cls na j oj.op = 8 ∨ cls na j oj.op = 9 ∨ cls na j oj.op = 10) ∧ (cls na i oi.op ≤ 3 ∨ cls na i oi.op = 5 ∨ cls na i oi.op = 6 ∨ cls na i oi.op = 7 ∨ cls na i oi.op = 8 ∨ cls na i oi.op = 9 ∨ cls na i oi.op = 10) := by
  simp only [compat, Bool.or_eq_true, Bool.and_eq_true, beq_iff_eq, decide_eq_true_eq] at hco
  omega
 have hi' : Exd P Y ops na i ⟨s.env, σ1⟩ oi ci σ2 := hi.env (env' := s.env) fun t ht => by
  cases hdj : oj.dst with
  | none => rfl
  | some dj =>
   simp only [putE]
   rw [upd_ne _ _ (show t ≠ dj from fun e => a1 dj hdj (e ▸ ht))]
 have lift : ∀ {σ τ : Nat → Slot}, Exd P Y ops na j ⟨s.env, σ⟩ oj cj τ → Exd P Y ops na j ⟨putE s.env oi.dst ci, σ⟩ oj cj τ := fun g => g.env (env' := putE s.env oi.dst ci) fun t ht => by
  cases hdi : oi.dst with
  | none => rfl
  | some di =>
   simp only [putE]
   rw [upd_ne _ _ (show t ≠ di from fun e => a3 di hdi (e ▸ ht))]
 have fj := hj.facts hcle.1
 have fi := hi'.facts hcle.2
 simp only at fi
 rcases fj with ⟨rfl, fj⟩ | fj
 ·exact ⟨σ2, hi', lift (fj σ2), henv⟩
 rcases fi with ⟨rfl, fi⟩ | fi
 ·exact ⟨s.sto, fi s.sto, lift hj, henv⟩
 rcases fj with ⟨kj, rfl, fj⟩ | ⟨kj, e, ob, d1, d2, rfl, fj⟩ | ⟨kj, fj⟩ | ⟨kj, fj⟩ | ⟨kj, rfl, fj, fjq, fjt⟩ | ⟨kj, fj, q, obq, hq, rfl⟩ | ⟨kj, B, obs, d2, rfl, fj⟩ | kj | ⟨kj, _⟩
 ·rcases fi with ⟨ki, rfl, fi⟩ | ⟨ki, e', ob', d1', d2', rfl, fi⟩ | ⟨ki, fi⟩ | ⟨ki, e', ob', d1', d2', rfl⟩ | ⟨ki, rfl, fi, _⟩ | ⟨ki, fi⟩ | ⟨ki, B', obs', d2', rfl, fi⟩ | ki | ⟨ki, _⟩
  ·exact ⟨s.sto, hi', lift hj, henv⟩
  ·exact ⟨_, fi s.sto d2', lift (fj _ (Ext.upd d2')), henv⟩
  ·rw [kj, ki] at hco; simp [compat] at hco
  ·exact ⟨_, hi', lift (fj _ (Ext.upd d2')), henv⟩
  ·exact ⟨s.sto, hi', lift hj, henv⟩
  ·rw [kj, ki] at hco; simp [compat] at hco
  ·exact ⟨_, hi', lift (fj _ (updK_ext d2')), henv⟩
  ·rw [kj, ki] at hco; simp [compat] at hco
  ·rw [kj, ki] at hco; simp [compat] at hco
 ·rcases fi with ⟨ki, rfl, fi⟩ | ⟨ki, e', ob', d1', d2', rfl, fi⟩ | ⟨ki, fi⟩ | ⟨ki, fi⟩ | ⟨ki, fi⟩ | ⟨ki, fi⟩ | ⟨ki, B', obs', d2', rfl, fi⟩ | ki | ⟨ki, _⟩
  ·rw [kj, ki] at hco; simp [compat] at hco
  ·have hne : e' ≠ e := fun hh => a2 e d1 (by rw [d1', hh])
   rw [upd_ne _ _ hne] at d2'
   refine ⟨_, fi s.sto d2', lift ?_, henv⟩
   rw [upd_comm _ (Ne.symm hne)]
   exact fj _ (by rw [upd_ne _ _ (Ne.symm hne)]; exact d2)
  ·rw [kj, ki] at hco; simp [compat] at hco
  ·rw [kj, ki] at hco; simp [compat] at hco
  ·rw [kj, ki] at hco; simp [compat] at hco
  ·rw [kj, ki] at hco; simp [compat] at hco
  ·have hout : ¬ (B' ≤ e ∧ e < B' + obs'.length) := fun hh => by have := d2' e hh.1 hh.2; simp at this
   have hfree : ∀ q, B' ≤ q → q < B' + obs'.length → s.sto q = .free := fun q h1 h2 => by
    have := d2' q h1 h2
    rwa [upd_ne _ _ (fun hh => hout (by rw [← hh]; exact ⟨h1, h2⟩))] at this
   refine ⟨_, fi s.sto hfree, lift ?_, henv⟩
   rw [← updK_upd hout]
   exact fj _ (by rw [updK_out hout]; exact d2)
  ·rw [kj, ki] at hco; simp [compat] at hco
  ·rw [kj, ki] at hco; simp [compat] at hco
 ·rcases fi with ⟨ki, rfl, fi⟩ | ⟨ki, e', ob', d1', d2', rfl, fi⟩ | ⟨ki, fi⟩ | ⟨ki, fi⟩ | ⟨ki, fi⟩ | ⟨ki, fi⟩ | ⟨ki, fi⟩ | ki | ⟨ki, _⟩
  ·rw [kj, ki] at hco; simp [compat] at hco
  ·obtain ⟨g1, g2⟩ := fj e' ob' d2' (fun hh => a2 e' hh d1')
   exact ⟨_, fi s.sto g1, lift g2, henv⟩
  all_goals (rw [kj, ki] at hco; simp [compat] at hco)
 ·rcases fi with ⟨ki, _⟩ | ⟨ki, _⟩ | ⟨ki, _⟩ | ⟨ki, _⟩ | ⟨ki, _⟩ | ⟨ki, _⟩ | ⟨ki, _⟩ | ki | ⟨ki, _⟩ <;> (rw [kj, ki] at hco; simp [compat] at hco)
 ·rcases fi with ⟨ki, rfl, fi⟩ | ⟨ki, e', ob', d1', d2', rfl, fi⟩ | ⟨ki, fi⟩ | ⟨ki, fi⟩ | ⟨ki, rfl, fi, _⟩ | ⟨ki, fi, q, obq, hq, rfl⟩ | ⟨ki, B', obs', d2', rfl, fi⟩ | ki | ⟨ki, q, e, ob, g1, g2, g3, g4, rfl⟩
  ·exact ⟨s.sto, hi', lift hj, henv⟩
  ·exact ⟨_, fi s.sto d2', lift (fj _ (Ext.upd d2')), henv⟩
  ·rw [kj, ki] at hco; simp [compat] at hco
  ·rw [kj, ki] at hco; simp [compat] at hco
  ·exact ⟨s.sto, hi', lift hj, henv⟩
  ·exact ⟨_, hi', lift (fjq q _ hq), henv⟩
  ·exact ⟨_, hi', lift (fj _ (updK_ext d2')), henv⟩
  ·rw [kj, ki] at hco; simp [compat] at hco
  ·exact ⟨_, hi', lift (fjt _ _ _ g1 (Ext.upd g4)), henv⟩
 ·rcases fi with ⟨ki, rfl, fi⟩ | ⟨ki, e', ob', d1', d2', rfl, fi⟩ | ⟨ki, fi⟩ | ⟨ki, fi⟩ | ⟨ki, rfl, fi, fiq, _⟩ | ⟨ki, fi⟩ | ⟨ki, fi⟩ | ki | ⟨ki, _⟩
  ·rw [kj, ki] at hco; simp [compat] at hco
  ·obtain ⟨g1, g2⟩ := fj e' ob' d2' (fun hh => a2 e' hh d1')
   exact ⟨_, fi s.sto g1, lift g2, henv⟩
  ·rw [kj, ki] at hco; simp [compat] at hco
  ·rw [kj, ki] at hco; simp [compat] at hco
  ·refine ⟨s.sto, ?_, lift hj, henv⟩
   have := fiq q (s.sto q) hq
   have e : upd (upd s.sto q (.live obq)) q (s.sto q) = s.sto := by
    funext z
    by_cases hz : z = q
    ·subst hz; simp [upd]
    ·simp [upd, hz]
   rw [e] at this
   exact this
  ·rw [kj, ki] at hco; simp [compat] at hco
  ·rw [kj, ki] at hco; simp [compat] at hco
  ·rw [kj, ki] at hco; simp [compat] at hco
  ·rw [kj, ki] at hco; simp [compat] at hco
 ·rcases fi with ⟨ki, rfl, fi⟩ | ⟨ki, e', ob', d1', d2', rfl, fi⟩ | ⟨ki, fi⟩ | ⟨ki, fi⟩ | ⟨ki, fi⟩ | ⟨ki, fi⟩ | ⟨ki, B', obs', d2', rfl, fi⟩ | ki | ⟨ki, _⟩
  ·rw [kj, ki] at hco; simp [compat] at hco
  ·have hout : ¬ (B ≤ e' ∧ e' < B + obs.length) := fun hh => by
    obtain ⟨o, ho⟩ := updK_in (σ := s.sto) (obs := obs) hh.1 hh.2
    rw [ho] at d2'; simp at d2'
   rw [updK_out hout] at d2'
   refine ⟨_, fi s.sto d2', lift ?_, henv⟩
   rw [updK_upd hout]
   exact fj _ fun q h1 h2 => by rw [upd_ne _ _ (fun hh => hout (by rw [← hh]; exact ⟨h1, h2⟩))]; exact d2 q h1 h2
  ·rw [kj, ki] at hco; simp [compat] at hco
  ·rw [kj, ki] at hco; simp [compat] at hco
  ·rw [kj, ki] at hco; simp [compat] at hco
  ·rw [kj, ki] at hco; simp [compat] at hco
  ·have hdis : ∀ q, B ≤ q → q < B + obs.length → ¬ (B' ≤ q ∧ q < B' + obs'.length) := fun q h1 h2 hh => by
    obtain ⟨o, ho⟩ := updK_in (σ := s.sto) (obs := obs) h1 h2
    rw [d2' q hh.1 hh.2] at ho; simp at ho
   have hfree : ∀ q, B' ≤ q → q < B' + obs'.length → s.sto q = .free := fun q h1 h2 => by
    have := d2' q h1 h2
    rwa [updK_out (fun hh => hdis q hh.1 hh.2 ⟨h1, h2⟩)] at this
   refine ⟨_, fi s.sto hfree, lift ?_, henv⟩
   rw [updK_comm hdis]
   exact fj _ fun q h1 h2 => by rw [updK_out (hdis q h1 h2)]; exact d2 q h1 h2
  ·rw [kj, ki] at hco; simp [compat] at hco
  ·rw [kj, ki] at hco; simp [compat] at hco
 ·rcases fi with ⟨ki, _⟩ | ⟨ki, _⟩ | ⟨ki, _⟩ | ⟨ki, _⟩ | ⟨ki, _⟩ | ⟨ki, _⟩ | ⟨ki, _⟩ | ki | ⟨ki, _⟩ <;> (rw [kj, ki] at hco; simp [compat] at hco)
 ·rcases fi with ⟨ki, _⟩ | ⟨ki, _⟩ | ⟨ki, _⟩ | ⟨ki, _⟩ | ⟨ki, _⟩ | ⟨ki, _⟩ | ⟨ki, _⟩ | ki | ⟨ki, _⟩ <;> (rw [kj, ki] at hco; simp [compat] at hco)

end
end Go.Abs

/- Regions whose order Go leaves open: from one walk to all orders. No condition. -/
namespace Go.Abs

def ancT (md : Region.Mode) : List Oper → List (List Nat) → List (List Nat)
 | [], acc => acc
 | o :: l, acc => ancT md l (acc ++ [((o.after.toList.filter (Region.binds md)).flatMap fun e => e.on :: acc.getD e.on []).eraseDups])

def okOrder (md : Region.Mode) (ops : Array Oper) (T : List (List Nat)) (na : List Nat) : List (Nat × Oper) → Bool
 | [] => true
 | (j, oj) :: l =>
  oj.after.toList.all (fun e => !Region.binds md e || (decide (e.on < ops.size) && l.all (fun p => p.1 != e.on) && e.on != j)) &&
  l.all (fun p => p.1 != j && ((T.getD p.1 []).contains j || (oj.apart ops p.2 && compat (cls na j oj.op) (cls na p.1 p.2.op)))) && okOrder md ops T na l

def okDraw (md : Region.Mode) (ops : Array Oper) (na : List Nat) (l : List Nat) : Bool :=
 okOrder md ops (ancT md ops.toList []) na (l.filterMap fun i => (ops[i]?).map fun o => (i, o)) && (List.range ops.size).all l.contains && decide (l.length ≤ ops.size)

section
variable {P : Program} {Y : YRel} {ops : Array Oper} {md : Region.Mode}

def AncOk (md : Region.Mode) (ops : Array Oper) (T : List (List Nat)) : Prop :=
 ∀ (i : Nat) (l : List Nat), T[i]? = some l → ∀ j ∈ l, ∃ o e, ops[i]? = some o ∧ e ∈ o.after ∧ Region.binds md e = true ∧ (j = e.on ∨ (e.on < i ∧ j ∈ T.getD e.on []))

theorem ancT_ok : ∀ (os : List Oper) (acc : List (List Nat)), (∀ (q : Nat) (o : Oper), os[q]? = some o → ops[acc.length + q]? = some o) → AncOk md ops acc → AncOk md ops (ancT md os acc)
 | [], acc, _, h => h
 | o :: os, acc, hos, h => by
  refine ancT_ok os _ (fun q o' hq => ?_) ?_
  ·have := hos (q + 1) o' (by simpa using hq)
   simp only [List.length_append, List.length_singleton]
   rw [show acc.length + 1 + q = acc.length + (q + 1) from by omega]; exact this
  ·intro i l hi j hj
   by_cases hlt : i < acc.length
   ·rw [List.getElem?_append_left hlt] at hi
    obtain ⟨o', e, h1, h2, h3, h4⟩ := h i l hi j hj
    refine ⟨o', e, h1, h2, h3, h4.imp id fun ⟨g1, g2⟩ => ⟨g1, ?_⟩⟩
    rw [List.getD_eq_getElem?_getD, List.getElem?_append_left (by omega), ← List.getD_eq_getElem?_getD]
    exact g2
   ·rw [List.getElem?_append_right (by omega)] at hi
    have hieq : i = acc.length := by
     have := (List.getElem?_eq_some_iff.1 hi).1
     simp at this; omega
    subst hieq
    simp only [Nat.sub_self, List.getElem?_cons_zero, Option.some.injEq] at hi
    subst hi
    rw [List.mem_eraseDups, List.mem_flatMap] at hj
    obtain ⟨e, he, hj⟩ := hj
    rw [List.mem_filter] at he
    refine ⟨o, e, by simpa using hos 0 o rfl, by simpa using he.1, he.2, ?_⟩
    rw [List.mem_cons] at hj
    rcases hj with rfl | hj
    ·exact .inl rfl
    ·have hon : e.on < acc.length := by
      rcases Nat.lt_or_ge e.on acc.length with g | g
      ·exact g
      ·rw [List.getD_eq_getElem?_getD, List.getElem?_eq_none g] at hj; simp at hj
     refine .inr ⟨hon, ?_⟩
     rw [List.getD_eq_getElem?_getD, List.getElem?_append_left hon, ← List.getD_eq_getElem?_getD]
     exact hj

def Closed (md : Region.Mode) (ops : Array Oper) (listed : Array Bool) : Prop :=
 ∀ (i : Nat) (o : Oper), ops[i]? = some o → listed.getD i false = true → ∀ e ∈ o.after, Region.binds md e = true → listed.getD e.on false = true

theorem anc_listed {T : List (List Nat)} (hT : AncOk md ops T) {listed : Array Bool} (hc : Closed md ops listed) :
  ∀ (n i : Nat), i < n → (∀ o, ops[i]? = some o → ∀ e ∈ o.after, Region.binds md e = true → listed.getD e.on false = true) → ∀ j ∈ T.getD i [], listed.getD j false = true
 | 0, i, h, _, _, _ => by omega
 | n + 1, i, hin, hi, j, hj => by
  cases hl : T[i]? with
  | none => rw [List.getD_eq_getElem?_getD, hl] at hj; simp at hj
  | some l =>
   rw [List.getD_eq_getElem?_getD, hl] at hj
   obtain ⟨o, e, h1, h2, h3, h4⟩ := hT i l hl j hj
   have he := hi o h1 e h2 h3
   rcases h4 with rfl | ⟨g1, g2⟩
   ·exact he
   ·exact anc_listed hT hc n e.on (by omega) (fun o' ho' => hc e.on o' ho' he) j g2

theorem bubble {T : List (List Nat)} {na : List Nat} {K : AS → Prop} {i : Nat} {oi : Oper} : ∀ {l : List (Nat × Oper)} {s : AS}, okOrder md ops T na l = true → (i, oi) ∈ l →
  (∀ j oj, (j, oj) ∈ l → j ≠ i → (T.getD i []).contains j = false) → evalR P Y ops na l s K →
  ∃ c σ', Exd P Y ops na i s oi c σ' ∧ evalR P Y ops na (l.filter fun p => p.1 != i) ⟨putE s.env oi.dst c, σ'⟩ K
 | [], s, _, hm, _, _ => by simp at hm
 | (j, oj) :: l, s, hok, hm, hfree, he => by
  simp only [okOrder, Bool.and_eq_true, List.all_eq_true] at hok
  obtain ⟨⟨hok1, hok2⟩, hok3⟩ := hok
  obtain ⟨cj, σ1, hj, he⟩ := he
  by_cases hji : j = i
  ·subst hji
   have hoo : oj = oi := by
    rcases List.mem_cons.1 hm with h | h
    ·cases h; rfl
    ·have := hok2 _ h
     simp at this
   subst hoo
   refine ⟨cj, σ1, hj, ?_⟩
   have hfil : ((j, oj) :: l).filter (fun p => p.1 != j) = l := by
    simp only [List.filter_cons, bne_self_eq_false, Bool.false_eq_true, if_false]
    rw [List.filter_eq_self]
    intro p hp
    exact (hok2 p hp).1
   rw [hfil]
   exact he
  ·have hm' : (i, oi) ∈ l := by
    rcases List.mem_cons.1 hm with h | h
    ·cases h; exact absurd rfl hji
    ·exact h
   obtain ⟨ci, σ2, hi, he2⟩ := bubble (s := ⟨putE s.env oj.dst cj, σ1⟩) hok3 hm' (fun q oq hq hqi => hfree q oq (List.mem_cons_of_mem _ hq) hqi) he
   have hpair := hok2 _ hm'
   simp only [Bool.and_eq_true, Bool.or_eq_true] at hpair
   obtain ⟨_, hpair⟩ := hpair
   have hnot := hfree j oj (by simp) hji
   rcases hpair with hpair | ⟨hap, hco⟩
   ·rw [hnot] at hpair; simp at hpair
   ·obtain ⟨σ1', g1, g2, g3⟩ := swap hap hco hj hi
    refine ⟨ci, σ1', g1, ?_⟩
    have hfil : ((j, oj) :: l).filter (fun p => p.1 != i) = (j, oj) :: l.filter (fun p => p.1 != i) := by
     simp [List.filter_cons, hji]
    rw [hfil]
    refine ⟨cj, σ2, g2, ?_⟩
    rw [g3]
    exact he2

theorem okOrder_filter {T : List (List Nat)} {na : List Nat} (i : Nat) : ∀ {l : List (Nat × Oper)}, okOrder md ops T na l = true → okOrder md ops T na (l.filter fun p => p.1 != i) = true
 | [], _ => rfl
 | (j, oj) :: l, h => by
  simp only [okOrder, Bool.and_eq_true, List.all_eq_true] at h
  obtain ⟨⟨h1, h2⟩, h3⟩ := h
  have ih := okOrder_filter i h3
  by_cases hji : j = i
  ·subst hji; simpa [List.filter_cons] using ih
  ·have hfil : ((j, oj) :: l).filter (fun p => p.1 != i) = (j, oj) :: l.filter (fun p => p.1 != i) := by
    simp [List.filter_cons, hji]
   rw [hfil]
   simp only [okOrder, Bool.and_eq_true, List.all_eq_true]
   refine ⟨⟨fun e he => ?_, fun p hp => h2 p (List.mem_filter.1 hp).1⟩, ih⟩
   have := h1 e he
   simp only [Bool.or_eq_true, Bool.and_eq_true, List.all_eq_true] at this ⊢
   exact this.imp id fun ⟨⟨g1, g2⟩, g3⟩ => ⟨⟨g1, fun p hp => g2 p (List.mem_filter.1 hp).1⟩, g3⟩

variable {x : Ctx}

theorem any_sound (hY : YOk P x) {T : List (List Nat)} {na : List Nat} {Q : Exit → Act → World → Prop} {K : AS → Prop} (hnt : ops.all (inNt x.nt) = true) (hT : AncOk md ops T)
  (hQ : ∀ ρ s a w, Sim x ρ s a w → K s → Q .normal a w) :
  ∀ (fuel : Nat) (listed : Array Bool) (l : List (Nat × Oper)) (ρ : Nat → Nat) (s : AS) (a : Act) (w : World), l.length ≤ fuel → listed.size = ops.size → Closed md ops listed →
   (∀ i, i < ops.size → (listed.getD i false = false ↔ ∃ o, (i, o) ∈ l)) → (∀ i o, (i, o) ∈ l → ops[i]? = some o) → okOrder md ops T na l = true →
   Sim x ρ s a w → evalR P x.Y ops na l s K → wpAnyIn (Fx x.rnd) 0 P md ops Q fuel listed a w := by
 intro fuel
 induction fuel with
 | zero =>
  intro listed l ρ s a w hlen hsz hcl hin hops hok hsim he
  have hl : l = [] := List.eq_nil_of_length_eq_zero (by omega)
  subst hl
  refine wpAnyIn_done ?_ (hQ ρ s a w hsim he) 0
  rw [List.eq_nil_iff_forall_not_mem]
  intro i hi
  obtain ⟨h0, o, ho, _⟩ := mem_ready.1 hi
  have hlt : i < ops.size := (Array.getElem?_eq_some_iff.1 ho).1
  have := (hin i hlt).1 (by
   rw [Array.getD_eq_getD_getElem?, Array.getElem?_eq_getElem (by omega)] at h0 ⊢
   exact h0)
  obtain ⟨o', ho'⟩ := this
  simp at ho'
 | succ fuel ih =>
  intro listed l ρ s a w hlen hsz hcl hin hops hok hsim he
  have hgd : ∀ i, i < ops.size → listed.getD i true = listed.getD i false := by
   intro i hi
   rw [Array.getD_eq_getD_getElem?, Array.getD_eq_getD_getElem?, Array.getElem?_eq_getElem (by omega)]; rfl
  refine ⟨fun hnil => ?_, fun i hi => ?_⟩
  ·cases l with
   | nil => exact hQ ρ s a w hsim he
   | cons p l =>
    obtain ⟨j, oj⟩ := p
    exfalso
    have hj := hops j oj (by simp)
    have hjlt : j < ops.size := (Array.getElem?_eq_some_iff.1 hj).1
    have : j ∈ Region.ready md ops listed := by
     rw [mem_ready]
     refine ⟨by rw [hgd j hjlt]; exact (hin j hjlt).2 ⟨oj, by simp⟩, oj, hj, fun e he hb => ?_⟩
     simp only [okOrder, Bool.and_eq_true, List.all_eq_true, Bool.or_eq_true] at hok
     have := hok.1.1 e (by simpa using he)
     rcases this with h | ⟨⟨g1, g2⟩, g3⟩
     ·rw [hb] at h; simp at h
     ·have g1' : e.on < ops.size := by simpa using g1
      cases hle : listed.getD e.on false with
      | true => rfl
      | false =>
       obtain ⟨o', ho'⟩ := (hin e.on g1').1 hle
       rcases List.mem_cons.1 ho' with h | h
       ·cases h; simp at g3
       ·have := g2 _ h; simp at this
    rw [hnil] at this
    simp at this
  ·obtain ⟨h0, oi, hoi, hpre⟩ := mem_ready.1 hi
   have hilt : i < ops.size := (Array.getElem?_eq_some_iff.1 hoi).1
   have hun : listed.getD i false = false := by rw [← hgd i hilt]; exact h0
   obtain ⟨oi', hmem⟩ := (hin i hilt).1 hun
   have hoo : oi' = oi := by
    have := hops i oi' hmem
    rw [hoi] at this; cases this; rfl
   subst hoo
   have hfree : ∀ j oj, (j, oj) ∈ l → j ≠ i → (T.getD i []).contains j = false := by
    intro j oj hj _
    have hjo := hops j oj hj
    have hjlt : j < ops.size := (Array.getElem?_eq_some_iff.1 hjo).1
    cases hc : (T.getD i []).contains j with
    | false => rfl
    | true =>
     have h1 := anc_listed hT hcl (i + 1) i (by omega) (fun o ho e he hb => by
      rw [hoi] at ho; cases ho; exact hpre e he hb) j (by simpa using hc)
     have h2 := (hin j hjlt).2 ⟨oj, hj⟩
     rw [h1] at h2; simp at h2
   obtain ⟨c, σ', hex, he'⟩ := bubble hok hmem hfree he
   refine wpOpIn_mono ?_ (stepK_sound hY (K := fun s' => s' = ⟨putE s.env oi'.dst c, σ'⟩) hsim hoi hnt (hex.stepK rfl))
   rintro a' w' ⟨ρ', s', hsim', rfl⟩
   refine ih (listed.setIfInBounds i true) (l.filter fun p => p.1 != i) ρ' _ a' w' ?_ (by simpa using hsz) ?_ ?_ (fun q o hq => hops q o (List.mem_filter.1 hq).1) (okOrder_filter i hok) hsim' he'
   ·have : (l.filter fun p => p.1 != i).length < l.length := by
     rw [List.length_filter_lt_length_iff_exists]
     exact ⟨_, hmem, by simp⟩
    omega
   ·intro q o hq hlq e he hb
    by_cases hqi : q = i
    ·subst hqi
     rw [hoi] at hq; cases hq
     exact getD_set_true (hpre e he hb)
    ·rw [getD_set_ne false (Ne.symm hqi)] at hlq
     exact getD_set_true (hcl q o hq hlq e he hb)
   ·intro q hq
    by_cases hqi : q = i
    ·subst hqi
     constructor
     ·intro h
      rw [Array.getD_eq_getD_getElem?, Array.getElem?_setIfInBounds_self_of_lt (by omega)] at h
      simp at h
     ·rintro ⟨o, ho⟩
      rw [List.mem_filter] at ho
      simp at ho
    ·rw [getD_set_ne false (Ne.symm hqi), hin q hq]
     constructor
     ·rintro ⟨o, ho⟩; exact ⟨o, List.mem_filter.2 ⟨ho, by simp [hqi]⟩⟩
     ·rintro ⟨o, ho⟩; exact ⟨o, (List.mem_filter.1 ho).1⟩

end
end Go.Abs

/- Statements, loops and whole functions on the abstract state. No condition. -/
namespace Go.Abs

section
variable {P : Program} {x : Ctx}

def AWP (P : Program) (x : Ctx) (c : Code) (s : AS) (Q : Exit → AS → Prop) : Prop :=
 YOk P x → ∀ ρ a w, Sim x ρ s a w → c.wpIn (Fx x.rnd) 0 P (QL x Q) a w

theorem AWP.mono {c : Code} {s : AS} {Q Q' : Exit → AS → Prop} (h : AWP P x c s Q) (hq : ∀ e s, Q e s → Q' e s) : AWP P x c s Q' :=
 fun hY ρ a w hs => wpIn_mono (h hY ρ a w hs) fun e a w ⟨ρ', s', h1, h2⟩ => ⟨ρ', s', h1, hq e s' h2⟩

theorem Sim.drew {ρ : Nat → Nat} {s : AS} {a : Act} {w : World} (h : Sim x ρ s a w) : Sim x ρ s a { w with drawn := w.drawn + 1 } := by
 obtain ⟨hk, hf⟩ := h.toFrm.grew (w' := { w with drawn := w.drawn + 1 }) ⟨rfl, rfl, rfl, Nat.le_refl _, fun _ _ => rfl⟩
 exact h.change hk hf

theorem awp_region {id : Nat} {ops : Array Oper} {s : AS} {Q : Exit → AS → Prop} (hnt : ops.all (inNt x.nt) = true) (h : evalL P x.Y ops ops.toList s (Q .normal)) : AWP P x (.region id ops false) s Q := by
 intro hY ρ a w hs
 refine wpIn_region (evalL_sound hY hnt (fun ρ s a w h1 h2 => ⟨ρ, s, h1, h2⟩) _ ops.toList ρ s a w ?_ hs h)
 apply List.ext_getElem?
 intro i
 simp only [List.getElem?_map]
 by_cases hi : i < ops.size
 ·simp [hi]
 ·rw [List.getElem?_eq_none (by simp; omega), List.getElem?_eq_none (by simp; omega)]; rfl

theorem listed_empty {n i : Nat} : (Array.replicate n false).getD i false = false := by
 simp only [Array.getD_eq_getD_getElem?, Array.getElem?_replicate]
 split <;> rfl

def nextQ (K : AS → Prop) (Q : Exit → AS → Prop) : Exit → AS → Prop
 | .normal, s => K s
 | e, s => Q e s

theorem awp_seq {c d : Code} {s : AS} {Q : Exit → AS → Prop} (h : AWP P x c s (nextQ (fun s' => AWP P x d s' Q) Q)) : AWP P x (.seq c d) s Q := by
 intro hY ρ a w hs
 refine Go.wpIn_seq (wpIn_mono (h hY ρ a w hs) ?_)
 rintro e a' w' ⟨ρ', s', h1, h2⟩
 cases e with
 | normal => exact h2 hY ρ' a' w' h1
 | _ => exact ⟨ρ', s', h1, h2⟩

theorem awp_cond {c : Operand} {d e : Code} {s : AS} {Q : Exit → AS → Prop} {b : Bool} (hc : s.ev c = .bool b) (hin : ∀ t, c = .tmp t → t < x.nt) (h1 : b = true → AWP P x d s Q) (h2 : b = false → AWP P x e s Q) : AWP P x (.cond c d e) s Q := by
 intro hY ρ a w hs
 have := hs.ev c hin
 rw [hc] at this
 exact Go.wpIn_cond_split this.boolOf (fun hb => h1 hb hY ρ a w hs) (fun hb => h2 hb hY ρ a w hs)

theorem awp_skip {s : AS} {Q : Exit → AS → Prop} (h : Q .normal s) : AWP P x .skip s Q := fun _ ρ _ _ hs => Go.wpIn_skip ⟨ρ, s, hs, h⟩
theorem awp_ret {s : AS} {Q : Exit → AS → Prop} (h : Q .ret s) : AWP P x .ret s Q := fun _ ρ _ _ hs => Go.wpIn_ret ⟨ρ, s, hs, h⟩
theorem awp_exit {id : Nat} {s : AS} {Q : Exit → AS → Prop} (h : Q (.exit id) s) : AWP P x (.exit id) s Q := fun _ ρ _ _ hs => Go.wpIn_exit ⟨ρ, s, hs, h⟩
def blockQ (id : Nat) (Q : Exit → AS → Prop) : Exit → AS → Prop
 | .exit id', s => if id' = id then Q .normal s else Q (.exit id') s
 | e, s => Q e s

theorem awp_block {id : Nat} {c : Code} {s : AS} {Q : Exit → AS → Prop} (h : AWP P x c s (blockQ id Q)) : AWP P x (.block id c) s Q := by
 intro hY ρ a w hs
 refine Go.wpIn_block (wpIn_mono (h hY ρ a w hs) ?_)
 rintro e a' w' ⟨ρ', s', h1, h2⟩
 cases e with
 | exit id' =>
  simp only [blockQ] at h2
  simp only [Exit.inBlock]
  split
  ·rename_i hid; rw [if_pos hid] at h2; exact ⟨ρ', s', h1, h2⟩
  ·rename_i hid; rw [if_neg hid] at h2; exact ⟨ρ', s', h1, h2⟩
 | _ => exact ⟨ρ', s', h1, h2⟩

def Wk (x : Ctx) (s s' : AS) : Prop := ∀ ρ a w, Sim x ρ s a w → ∃ ρ', Sim x ρ' s' a w

theorem Wk.refl (s : AS) : Wk x s s := fun ρ _ _ h => ⟨ρ, h⟩
theorem Wk.trans {s t u : AS} (h : Wk x s t) (g : Wk x t u) : Wk x s u := fun ρ a w hs => let ⟨ρ', h'⟩ := h ρ a w hs; g ρ' a w h'

theorem AWP.weak {c : Code} {s t : AS} {Q : Exit → AS → Prop} (h : AWP P x c t Q) (g : Wk x s t) : AWP P x c s Q :=
 fun hY ρ a w hs => let ⟨ρ', h'⟩ := g ρ a w hs; h hY ρ' a w h'

theorem wp_loop_ix {F : Fence} {n : Nat} {ι : Type} {c : Code} {Q : Exit → Act → World → Prop} (I : ι → Act → World → Prop) (μ : ι → Nat)
  (round : ∀ i a w, I i a w → c.wpIn F n P (Exit.then (fun a' w' => ∃ j, I j a' w' ∧ μ j < μ i) Q) a w) : ∀ i a w, I i a w → (Code.loop c).wpIn F n P Q a w := by
 intro i a w hI b k cs hro hb hr
 have key : ∀ m i a w, μ i = m → I i a w →
   ∃ e a' w', Q e a' w' ∧ ArrivesIn (Machine.fenced P F) P (lone (b.atR a (.code c :: .inLoop c :: k)) cs w) b k cs e a' w' := by
  intro m
  induction m using Nat.strongRecOn with
  | _ m ih =>
   intro i a w hn hI
   obtain ⟨e, a₁, w₁, hq, harr⟩ := round i a w hI b (.inLoop c :: k) cs hro hb hr
   cases e with
   | normal =>
    obtain ⟨j, hI1, hlt⟩ := hq
    obtain ⟨e₂, a₂, w₂, hq₂, harr₂⟩ := ih (μ j) (hn ▸ hlt) j a₁ w₁ rfl hI1
    exact ⟨e₂, a₂, w₂, hq₂, .of_steps (StepsIn.trans harr (.one (fenced_calm hb hr rfl) stepR_inLoop)) harr₂⟩
   | exit id => exact ⟨_, a₁, w₁, hq, .pass (x := .inLoop c) rfl (fun _ _ => .inl (by simp)) harr⟩
   | goto l => exact ⟨_, a₁, w₁, hq, .pass (x := .inLoop c) rfl (fun _ _ => .inl (by simp)) harr⟩
   | ret => exact ⟨_, a₁, w₁, hq, .pass (x := .inLoop c) rfl (fun _ _ => .inl (by simp)) harr⟩
   | panic ch => exact ⟨_, a₁, w₁, hq, .pass (x := .inLoop c) rfl (fun _ _ => .inl (by simp)) harr⟩
   | outgrown => exact ⟨_, a₁, w₁, hq, .pass (x := .inLoop c) rfl (fun _ _ => .inl (by simp)) harr⟩
 obtain ⟨e, a', w', hq, harr⟩ := key _ i a w rfl hI
 exact ⟨e, a', w', hq, .of_steps (.one (fenced_calm hb hr rfl) stepR_loop) harr⟩

theorem awp_loop {ι : Type} {c : Code} {s : AS} {Q : Exit → AS → Prop} (st : ι → AS) (J : ι → Prop) (μ : ι → Nat) (i0 : ι) (h0 : J i0) (hw : Wk x s (st i0))
  (round : ∀ i, J i → AWP P x c (st i) (nextQ (fun s' => ∃ j, J j ∧ μ j < μ i ∧ Wk x s' (st j)) Q)) : AWP P x (.loop c) s Q := by
 intro hY ρ a w hs
 obtain ⟨ρ', hs'⟩ := hw ρ a w hs
 refine wp_loop_ix (fun i a w => J i ∧ ∃ ρ, Sim x ρ (st i) a w) μ ?_ i0 a w ⟨h0, ρ', hs'⟩
 rintro i a w ⟨hJ, ρ, hs⟩
 refine wpIn_mono (round i hJ hY ρ a w hs) ?_
 rintro e a' w' ⟨ρ1, s1, h1, h2⟩
 cases e with
 | normal =>
  obtain ⟨j, hj, hlt, hwk⟩ := h2
  obtain ⟨ρ2, h3⟩ := hwk ρ1 a' w' h1
  exact ⟨j, ⟨hj, ρ2, h3⟩, hlt⟩
 | _ => exact ⟨ρ1, s1, h1, h2⟩


def resC (P : Program) (s : AS) : List ResultVar → Option (List C)
 | [] => some []
 | .tmp t :: l => (resC P s l).map (s.env t :: ·)
 | .cell a t :: l => match loadC P s.sto t (s.env a), resC P s l with
  | some c, some m => some (c :: m)
  | _, _ => none

def retC (P : Program) (s : AS) (l : List ResultVar) : Option C :=
 match resC P s l with
 | some [c] => some c
 | some cs => some (.tup cs)
 | none => none

def resNt (nt : Nat) (l : List ResultVar) : Bool := l.all fun | .tmp t => decide (t < nt) | .cell a _ => decide (a < nt)

theorem resC_sound {ρ : Nat → Nat} {s : AS} {a : Act} {w : World} (h : Sim x ρ s a w) : ∀ {l : List ResultVar} {cs : List C}, resNt x.nt l = true → resC P s l = some cs →
  ∃ vs : List Value, (l.mapM (fun | .tmp t => pure (a.tmps.getD t undef) | .cell q t => do loadVar t (← asAddr (a.tmps.getD q undef)) : ResultVar → Sem Value)).run P w = .ok vs w ∧
   CL (x.Gd ρ s.sto) ρ s.sto w cs vs.toArray
 | [], cs, _, hc => by
  simp only [resC, Option.some.injEq] at hc
  subst hc
  exact ⟨[], rfl, rfl, by simp⟩
 | r :: l, cs, hn, hc => by
  simp only [resNt, List.all_cons, Bool.and_eq_true] at hn
  have cons : ∀ {c : C} {v : Value} {m : List C} {vs : List Value}, CR (x.Gd ρ s.sto) ρ s.sto w c v → CL (x.Gd ρ s.sto) ρ s.sto w m vs.toArray → CL (x.Gd ρ s.sto) ρ s.sto w (c :: m) (v :: vs).toArray := by
   intro c v m vs h1 h2
   refine ⟨by simpa using h2.1, fun i d hi => ?_⟩
   cases i with
   | zero => simp at hi; subst hi; simpa using h1
   | succ i => simp at hi; have := h2.2 i d hi; simpa using this
  cases r with
  | tmp t =>
   simp only [resC, Option.map_eq_some_iff] at hc
   obtain ⟨m, hm, rfl⟩ := hc
   obtain ⟨vs, h1, h2⟩ := resC_sound h hn.2 hm
   refine ⟨a.tmps.getD t undef :: vs, ?_, cons (h.env t (by simpa using hn.1)) h2⟩
   simp only [List.mapM_cons, Sem.run_bind, Sem.run_pure, Result.andThen_ok, h1]
  | cell q t =>
   simp only [resC] at hc
   split at hc
   ·rename_i c m hl hm
    simp only [Option.some.injEq] at hc
    subst hc
    obtain ⟨vs, h1, h2⟩ := resC_sound h hn.2 hm
    have hq := h.env q (by simpa using hn.1)
    obtain ⟨u, h3, h4⟩ := loadC_sound h.sto hl hq
    refine ⟨u :: vs, ?_, cons h4 h2⟩
    have h5 : (do loadVar t (← asAddr (a.tmps.getD q undef)) : Sem Value).run P w = .ok u w := by
     rw [← h3]
     have hp : ∃ p, a.tmps.getD q undef = .pointer (some p) := by
      unfold loadC at hl
      split at hl
      ·rename_i i row j _ hca
       obtain ⟨b, f, hv, _⟩ := cellsAt_sound h.sto hca hq
       exact ⟨_, hv⟩
      ·simp at hl
     obtain ⟨p, hp⟩ := hp
     rw [hp]
     simp [Instr.loadAt, Instr.sureAddr, asAddr]
    simp only [List.mapM_cons, Sem.run_bind, Sem.run_pure] at h5 ⊢
    rw [h5]
    simp only [Result.andThen_ok, h1]
   ·simp at hc

theorem retC_sound {ρ : Nat → Nat} {s : AS} {a : Act} {w : World} (h : Sim x ρ s a w) {fn : Func} {c : C} (hn : resNt x.nt fn.results.toList = true) (hc : retC P s fn.results.toList = some c) :
  ∃ v, (results fn a.tmps).run P w = .ok v w ∧ CR (x.Gd ρ s.sto) ρ s.sto w c v := by
 unfold retC at hc
 have key : ∀ cs, resC P s fn.results.toList = some cs → ∃ vs : List Value, (results fn a.tmps).run P w = .ok (if h : vs.toArray.size = 1 then vs.toArray[0] else .tuple vs.toArray) w ∧ CL (x.Gd ρ s.sto) ρ s.sto w cs vs.toArray := by
  intro cs hcs
  obtain ⟨vs, h1, h2⟩ := resC_sound h hn hcs
  refine ⟨vs, ?_, h2⟩
  have h4 : (results fn a.tmps).run P w = ((fn.results.toList.mapM (fun | .tmp t => pure (a.tmps.getD t undef) | .cell q t => do loadVar t (← asAddr (a.tmps.getD q undef)) : ResultVar → Sem Value)).run P w).andThen
    fun vs w => .ok (if h : vs.toArray.size = 1 then vs.toArray[0] else .tuple vs.toArray) w := by
   unfold results
   rw [← Array.toArray_toList (xs := fn.results)]
   simp only [List.mapM_toArray, Sem.run_bind, Sem.run_map, Sem.run_pure]
   generalize hq : (fn.results.toList.mapM (fun | .tmp t => pure (a.tmps.getD t undef) | .cell q t => do loadVar t (← asAddr (a.tmps.getD q undef)) : ResultVar → Sem Value)).run P w = q
   cases q <;> rfl
  rw [h4, h1]
  rfl
 split at hc
 ·rename_i d hd
  simp only [Option.some.injEq] at hc
  subst hc
  obtain ⟨vs, h1, h2⟩ := key _ hd
  have hl := h2.1
  have : vs.toArray.size = 1 := by simpa using hl
  rw [dif_pos this] at h1
  refine ⟨_, h1, ?_⟩
  have := h2.2 0 d rfl
  simp only [Array.getD_eq_getD_getElem?] at this
  rw [Array.getElem?_eq_getElem (by omega)] at this
  exact this
 ·rename_i cs hne hd
  simp only [Option.some.injEq] at hc
  subst hc
  obtain ⟨vs, h1, h2⟩ := key _ hd
  have : ¬ vs.toArray.size = 1 := by
   intro hs
   have := h2.1
   rw [hs] at this
   cases cs with
   | nil => simp at this
   | cons c l => cases l with
    | nil => exact hne c rfl
    | cons d l => simp at this
  rw [dif_neg this] at h1
  exact ⟨_, h1, .tup h2.1 h2.2⟩
 ·simp at hc

def shutW : List Nat → World → World
 | [], w => w
 | D :: Ds, w => shutW Ds (w.putObj D (.deferred none))

abbrev marks (Ds : List Nat) : List Deferred := Ds.map fun D => { target := .collected D, args := #[] }

theorem leaves_marks {F : Fence} {n : Nat} {fn : Func} {tmps : Array Value} {R : Ending → World → Prop} : ∀ (Ds : List Nat) (w : World), Ds.Nodup → (∀ D ∈ Ds, w.heap[D]? = some (.deferred (some []))) →
  LeavesIn F n P fn tmps R [] .returning (shutW Ds w) → LeavesInM F n P fn tmps R (marks Ds) .returning w
 | [], w, _, _, h => h
 | D :: Ds, w, hn, hD, h => by
  rw [List.nodup_cons] at hn
  refine ⟨by simp, .inl ⟨D, _, rfl, run_takeDeferred (hD D (by simp)), ?_⟩⟩
  refine leaves_marks Ds _ hn.2 (fun D' hD' => ?_) h
  rw [World.putObj_heap_other (by rintro rfl; exact hn.1 hD')]
  exact hD D' (by simp [hD'])

theorem Sim.shut1 {ρ : Nat → Nat} {s : AS} {t : Array Value} {w : World} {D : Nat} {Ds : List Nat} (h : Sim x ρ s ⟨t, []⟩ w) (hb : x.w.heap.size ≤ D) (hD : w.heap[D]? = some (.deferred (some []))) :
  Sim x ρ s ⟨t, []⟩ (w.putObj D (.deferred none)) := by
 have hlt := (Array.getElem?_eq_some_iff.1 hD).1
 have hne : ∀ k o, s.sto k = .live o → o.nl = false → ρ k ≠ D := by
  rintro k o h1 h2 rfl
  have := (h.sto.ob k o h1 h2).noOdd hD
  simp [oddO] at this
 have hsz : (w.putObj D (.deferred none)).heap.size = w.heap.size := by simp [World.putObj]
 have hK : Keeps0 (x.Gd ρ s.sto) (x.Gd ρ s.sto) ρ ρ s.sto s.sto w (w.putObj D (.deferred none)) := by
  refine ⟨fun b hb hlt' => ⟨hb, by omega, ?_⟩, fun k hk => hk, fun k o hk => .inr ⟨o, hk, rfl, rfl, rfl, fun hn => ⟨rfl, fun cs el fz hc => ?_⟩⟩⟩
  ·by_cases e : b = D
   ·subst e; exact .inr ⟨_, _, hD, World.putObj_heap_same hlt, rfl, rfl⟩
   ·exact .inl (World.putObj_heap_other e)
  ·rw [World.putObj_heap_other (hne k o hk hn)] at hc
   exact ⟨_, _, _, hc, Nat.le_refl _⟩
 have hlp : ∀ (b : Nat) (r : Obj), recO r = true → w.heap[b]? = some r → (w.putObj D (.deferred none)).heap[b]? = some r := by
  intro b r hr hb
  have hbd : b ≠ D := by
   intro e
   rw [e, hD] at hb
   simp at hb
   subst hb
   cases hr
  rw [World.putObj_heap_other hbd]
  exact hb
 exact ⟨⟨⟨fun k o hk hn => (h.sto.ob k o hk hn).keeps hK (World.putObj_heap_other (hne k o hk hn)), h.sto.nil, h.sto.inj⟩, h.own, fun b hlt' hnb hex => (World.putObj_heap_other (by omega)).trans (h.frame b hlt' hnb hex), h.rcd.keep hK (fun _ hk => hk) hlp, by rw [hsz]; exact h.size, h.os, h.tape, h.output, h.hist.trans hK⟩,
  h.nt, ⟨[], rfl, by simp, by simp⟩, h.inr, fun q hq => (h.env q hq).keeps0 hK⟩

theorem Sim.shut {ρ : Nat → Nat} {s : AS} {t : Array Value} : ∀ (Ds : List Nat) (w : World), Sim x ρ s ⟨t, []⟩ w → Ds.Nodup → (∀ D ∈ Ds, x.w.heap.size ≤ D ∧ w.heap[D]? = some (.deferred (some []))) → Sim x ρ s ⟨t, []⟩ (shutW Ds w)
 | [], w, h, _, _ => h
 | D :: Ds, w, h, hn, hD => by
  rw [List.nodup_cons] at hn
  refine Sim.shut Ds _ (h.shut1 (Ds := Ds) (hD D (by simp)).1 (hD D (by simp)).2) hn.2 fun D' hD' => ⟨(hD D' (by simp [hD'])).1, ?_⟩
  rw [World.putObj_heap_other (by rintro rfl; exact hn.1 hD')]
  exact (hD D' (by simp [hD'])).2

theorem leave_sim {fn : Func} {ρ : Nat → Nat} {s : AS} {a : Act} {w : World} {R : Ending → World → Prop} (h : Sim x ρ s a w)
  (hR : ∀ w', Sim x ρ s ⟨a.tmps, []⟩ w' → ∃ v, (results fn a.tmps).run P w' = .ok v w' ∧ R (.returned v) w') : LeavesInM (Fx none) 0 P fn a.tmps R a.defers .returning w := by
 obtain ⟨Ds, h1, h2, h3⟩ := h.defers
 rw [h1]
 refine leaves_marks Ds w h2 (fun D hD => (h3 D hD).2) ?_
 have h0 : Sim x ρ s ⟨a.tmps, []⟩ w := { h.toFrm with nt := h.nt, defers := ⟨[], rfl, by simp, by simp⟩, inr := h.inr, env := h.env }
 exact hR _ (Sim.shut Ds w h0 h2 h3)

theorem calls_of_awp {f : FuncId} {fn : Func} {c : Code} {args : Array Value} {w : World} {R : Ending → World → Prop} (hf : P.funcs[f]? = some fn) (hb : fn.body = some c)
  (h : c.wpIn (Fx none) 0 P (fun e a w => (e = .normal ∨ e = .ret) ∧ LeavesInM (Fx none) 0 P fn a.tmps R a.defers .returning w) { tmps := args ++ Array.replicate (fn.ntmps - args.size) undef, defers := [] } w) : Calls P f args w R := by
 refine fx_calls (r := none) (n := 0) (callsIn_of_wp_marks hf hb trivial (wpIn_mono h ?_) rfl)
 rintro e a w ⟨he, hl⟩
 rcases he with rfl | rfl <;> exact hl

def envOf (args : List C) : Nat → C := fun t => args.getD t .any

structure FnIs (P : Program) (f : FuncId) (fn : Func) (c : Code) : Prop where
 func : P.funcs[f]? = some fn
 body : fn.body = some c
 name : (fn.name == "runtime.NumGoroutine") = false

theorem FnIs.callable {f : FuncId} {fn : Func} {c : Code} (h : FnIs P f fn c) : Callable P f := ⟨fn, h.func, h.name, by rw [h.body]; rfl⟩

theorem sim_enter {G : Nat → Prop} {w : World} {args : List C} {vs : Array Value} {nt : Nat} (h : PL G w args vs) (hn : args.length ≤ nt) :
  Sim { G := G, ρ := fun _ => 0, σ := fun _ => .free, w := w, nt := nt } (fun _ => 0) ⟨envOf args, fun _ => .free⟩ ⟨vs ++ Array.replicate (nt - vs.size) undef, []⟩ w := by
 have hvs := h.1
 have hown : ∀ b, ¬ Owned (fun _ => 0) (fun _ => Slot.free) b := by rintro b ⟨k, o, h1, _⟩; cases h1
 refine { sto := ⟨fun k o hk => (by cases hk), fun k o hk => (by cases hk), fun k k' o o' hk => (by cases hk)⟩, own := fun b hb => absurd hb (hown b), frame := fun b _ _ _ => rfl, rcd := ⟨by simp, by simp, by simp⟩, size := Nat.le_refl _, os := rfl, tape := rfl, output := rfl, hist := .refl .., nt := by simp; omega, defers := ⟨[], rfl, by simp, by simp⟩, inr := (fun _ h => by cases h), env := fun t ht => ?_ }
 by_cases hta : t < args.length
 ·have h1 := h.2 t args[t] (List.getElem?_eq_getElem hta)
  simp only [envOf, List.getD_eq_getElem?_getD, List.getElem?_eq_getElem hta, Option.getD_some]
  simp only [Array.getD_eq_getD_getElem?] at h1 ⊢
  rw [Array.getElem?_append_left (by omega)]
  exact .pure (h1.mono fun b hb hlt => ⟨⟨.inl hb, hown b⟩, hlt, rfl⟩)
 ·simp only [envOf, List.getD_eq_getElem?_getD, List.getElem?_eq_none (Nat.le_of_not_lt hta), Option.getD_none]
  exact .any _

end
end Go.Abs

/- How the machine is evaluated: rules for the simplifier. No condition. -/
namespace Go.Abs
section
variable {P : Program} {Y : YRel} {ops : Array Oper} {x : Ctx}

@[simp] theorem upd_apply {α : Type} (f : Nat → α) (k i : Nat) (v : α) : upd f k v i = if i = k then v else f i := rfl
@[simp] theorem envOf_apply (l : List C) (t : Nat) : envOf l t = l.getD t .any := rfl

@[simp] theorem ev_tmp (e : Nat → C) (σ : Nat → Slot) (t : Tmp) : AS.ev ⟨e, σ⟩ (.tmp t) = e t := rfl
theorem ev_tmp_env (s : AS) (t : Tmp) : s.ev (.tmp t) = s.env t := rfl
@[simp] theorem ev_int (s : AS) (k : IntKind) (n : Int) : s.ev (.const (.int k n)) = .int k n := rfl
@[simp] theorem ev_bool (s : AS) (b : Bool) : s.ev (.const (.bool b)) = .bool b := rfl
@[simp] theorem ev_str (s : AS) (b : ByteArray) : s.ev (.const (.string b)) = .str b := rfl
@[simp] theorem ev_pnil (s : AS) : s.ev (.const (.pointer none)) = .pnil := rfl
@[simp] theorem ev_slnil (s : AS) : s.ev (.const (.slice none 0 0)) = .sl true true [] := rfl
@[simp] theorem ev_fnil (s : AS) : s.ev (.const .nilFunc) = .fnil := rfl
@[simp] theorem ev_func (s : AS) (f : FuncId) : s.ev (.func f) = .fn (.func f) [] [] := rfl

@[simp] theorem putE_some (env : Nat → C) (d : Nat) (c : C) : putE env (some d) c = upd env d c := rfl
@[simp] theorem putE_none (env : Nat → C) (c : C) : putE env none c = env := rfl
@[simp] theorem put_mk (env : Nat → C) (sto : Nat → Slot) (d : Option Nat) (c : C) : AS.put ⟨env, sto⟩ d c = ⟨putE env d c, sto⟩ := rfl

def contV (P : Program) (Y : YRel) (ops : Array Oper) (l : List Oper) (K : AS → Prop) (s : AS) (d : Option Nat) (r : Option C) : Prop := bindK r fun c => evalL P Y ops l (s.put d c) K
def contE (P : Program) (Y : YRel) (ops : Array Oper) (l : List Oper) (K : AS → Prop) (s : AS) (d : Option Nat) (r : Option (C × (Nat → Slot))) : Prop := bindK r fun c => evalL P Y ops l ⟨putE s.env d c.1, c.2⟩ K
def contC (P : Program) (Y : YRel) (ops : Array Oper) (l : List Oper) (K : AS → Prop) (s : AS) (d : Option Nat) (f : FuncId) (args : List C) : Prop := aCall P 0 s f args d fun r σ' => evalL P Y ops l ⟨putE s.env d r, σ'⟩ K
def contG (P : Program) (Y : YRel) (ops : Array Oper) (l : List Oper) (K : AS → Prop) (s : AS) (o : Oper) (w : Option Bool) : Prop :=
 match w with
 | some true => evalL P Y ops (o :: l) s K
 | some false => evalL P Y ops l (s.put o.dst (.tup [])) K
 | none => False
def contVD (P : Program) (Y : YRel) (ops : Array Oper) (na : List Nat) (l : List (Nat × Oper)) (K : AS → Prop) (s : AS) (d : Option Nat) (r : Option C) : Prop := bindK r fun c => evalD P Y ops na l (s.put d c) K
def contED (P : Program) (Y : YRel) (ops : Array Oper) (na : List Nat) (l : List (Nat × Oper)) (K : AS → Prop) (s : AS) (d : Option Nat) (pure : Bool) (r : Option (C × (Nat → Slot))) : Prop :=
 bindK r fun c => (pure = false ∨ c.1.isPure = true) ∧ evalD P Y ops na l ⟨putE s.env d c.1, c.2⟩ K
def contCD (P : Program) (Y : YRel) (ops : Array Oper) (na : List Nat) (l : List (Nat × Oper)) (K : AS → Prop) (s : AS) (d : Option Nat) (m : Nat) (f : FuncId) (args : List C) : Prop := aCall P m s f args d fun r σ' => evalD P Y ops na l ⟨putE s.env d r, σ'⟩ K
def contGD (P : Program) (Y : YRel) (ops : Array Oper) (na : List Nat) (i : Nat) (l : List (Nat × Oper)) (K : AS → Prop) (s : AS) (o : Oper) (w : Option Bool) : Prop :=
 match w with
 | some true => evalD P Y ops na ((i, o) :: l) s K
 | some false => evalD P Y ops na l (s.put o.dst (.tup [])) K
 | none => False

def contEB (P : Program) (Y : YRel) (ops : Array Oper) (na : List Nat) (l : List (Nat × Oper)) (K : AS → Prop) (s : AS) (d : Option Nat) (mk : Bool) (r : Option (C × (Nat → Slot))) : Prop :=
 bindK r fun c => (if mk then !c.1.isPure else c.1.isPure) = true ∧ evalD P Y ops na l ⟨putE s.env d c.1, c.2⟩ K
@[simp] theorem contEB_some {na : List Nat} {l : List (Nat × Oper)} {K : AS → Prop} {s : AS} {d : Option Nat} {b : Bool} {c : C × (Nat → Slot)} : contEB P Y ops na l K s d b (some c) ↔ (if b then !c.1.isPure else c.1.isPure) = true ∧ evalD P Y ops na l ⟨putE s.env d c.1, c.2⟩ K := by simp [contEB, bindK]
@[simp] theorem contEB_none {na : List Nat} {l : List (Nat × Oper)} {K : AS → Prop} {s : AS} {d : Option Nat} {b : Bool} : contEB P Y ops na l K s d b none ↔ False := by simp [contEB, bindK]
@[simp] theorem contEB_ite {na : List Nat} {l : List (Nat × Oper)} {K : AS → Prop} {s : AS} {d : Option Nat} {b : Bool} {p : Prop} [Decidable p] {r : Option (C × (Nat → Slot))} : contEB P Y ops na l K s d b (if p then r else none) ↔ p ∧ contEB P Y ops na l K s d b r := by
 by_cases h : p <;> simp [contEB, bindK, h]

@[simp] theorem contV_some {l : List Oper} {K : AS → Prop} {s : AS} {d : Option Nat} {c : C} : contV P Y ops l K s d (some c) ↔ evalL P Y ops l (s.put d c) K := by simp [contV, bindK]
@[simp] theorem contV_none {l : List Oper} {K : AS → Prop} {s : AS} {d : Option Nat} : contV P Y ops l K s d none ↔ False := by simp [contV, bindK]
@[simp] theorem contV_ite {l : List Oper} {K : AS → Prop} {s : AS} {d : Option Nat} {p : Prop} [Decidable p] {r : Option (C)} : contV P Y ops l K s d (if p then r else none) ↔ p ∧ contV P Y ops l K s d r := by
 by_cases h : p <;> simp [contV, bindK, h]
@[simp] theorem contV_ite' {l : List Oper} {K : AS → Prop} {s : AS} {d : Option Nat} {p : Prop} [Decidable p] {r : Option (C)} : contV P Y ops l K s d (if p then none else r) ↔ ¬ p ∧ contV P Y ops l K s d r := by
 by_cases h : p <;> simp [contV, bindK, h]
@[simp] theorem contE_some {l : List Oper} {K : AS → Prop} {s : AS} {d : Option Nat} {c : C × (Nat → Slot)} : contE P Y ops l K s d (some c) ↔ evalL P Y ops l ⟨putE s.env d c.1, c.2⟩ K := by simp [contE, bindK]
@[simp] theorem contE_none {l : List Oper} {K : AS → Prop} {s : AS} {d : Option Nat} : contE P Y ops l K s d none ↔ False := by simp [contE, bindK]
@[simp] theorem contE_ite {l : List Oper} {K : AS → Prop} {s : AS} {d : Option Nat} {p : Prop} [Decidable p] {r : Option (C × (Nat → Slot))} : contE P Y ops l K s d (if p then r else none) ↔ p ∧ contE P Y ops l K s d r := by
 by_cases h : p <;> simp [contE, bindK, h]
@[simp] theorem contE_ite' {l : List Oper} {K : AS → Prop} {s : AS} {d : Option Nat} {p : Prop} [Decidable p] {r : Option (C × (Nat → Slot))} : contE P Y ops l K s d (if p then none else r) ↔ ¬ p ∧ contE P Y ops l K s d r := by
 by_cases h : p <;> simp [contE, bindK, h]
@[simp] theorem contVD_some {na : List Nat} {l : List (Nat × Oper)} {K : AS → Prop} {s : AS} {d : Option Nat} {c : C} : contVD P Y ops na l K s d (some c) ↔ evalD P Y ops na l (s.put d c) K := by simp [contVD, bindK]
@[simp] theorem contVD_none {na : List Nat} {l : List (Nat × Oper)} {K : AS → Prop} {s : AS} {d : Option Nat} : contVD P Y ops na l K s d none ↔ False := by simp [contVD, bindK]
@[simp] theorem contVD_ite {na : List Nat} {l : List (Nat × Oper)} {K : AS → Prop} {s : AS} {d : Option Nat} {p : Prop} [Decidable p] {r : Option (C)} : contVD P Y ops na l K s d (if p then r else none) ↔ p ∧ contVD P Y ops na l K s d r := by
 by_cases h : p <;> simp [contVD, bindK, h]
@[simp] theorem contVD_ite' {na : List Nat} {l : List (Nat × Oper)} {K : AS → Prop} {s : AS} {d : Option Nat} {p : Prop} [Decidable p] {r : Option (C)} : contVD P Y ops na l K s d (if p then none else r) ↔ ¬ p ∧ contVD P Y ops na l K s d r := by
 by_cases h : p <;> simp [contVD, bindK, h]
@[simp] theorem contED_some {na : List Nat} {l : List (Nat × Oper)} {K : AS → Prop} {s : AS} {d : Option Nat} {b : Bool} {c : C × (Nat → Slot)} : contED P Y ops na l K s d b (some c) ↔ (b = false ∨ c.1.isPure = true) ∧ evalD P Y ops na l ⟨putE s.env d c.1, c.2⟩ K := by simp [contED, bindK]
@[simp] theorem contED_none {na : List Nat} {l : List (Nat × Oper)} {K : AS → Prop} {s : AS} {d : Option Nat} {b : Bool} : contED P Y ops na l K s d b none ↔ False := by simp [contED, bindK]
@[simp] theorem contED_ite {na : List Nat} {l : List (Nat × Oper)} {K : AS → Prop} {s : AS} {d : Option Nat} {b : Bool} {p : Prop} [Decidable p] {r : Option (C × (Nat → Slot))} : contED P Y ops na l K s d b (if p then r else none) ↔ p ∧ contED P Y ops na l K s d b r := by
 by_cases h : p <;> simp [contED, bindK, h]
@[simp] theorem contED_ite' {na : List Nat} {l : List (Nat × Oper)} {K : AS → Prop} {s : AS} {d : Option Nat} {b : Bool} {p : Prop} [Decidable p] {r : Option (C × (Nat → Slot))} : contED P Y ops na l K s d b (if p then none else r) ↔ ¬ p ∧ contED P Y ops na l K s d b r := by
 by_cases h : p <;> simp [contED, bindK, h]
@[simp] theorem evalL_nil {s : AS} {K : AS → Prop} : evalL P Y ops [] s K = K s := rfl
@[simp] theorem evalD_nil {na : List Nat} {s : AS} {K : AS → Prop} : evalD P Y ops na [] s K = K s := rfl

section steps
variable {dst : Option Nat} {op : Op} {ty : TypeId} {pos : String} {after : Array Edge} {s : AS} {K : AS → Prop} {l : List Oper} {na : List Nat} {i : Nat} {ld : List (Nat × Oper)} {g : Option (Nat × Bool)}

def pickC (c a b : C) : Option C :=
 match c with
 | .bool t => some (if t then a else b)
 | _ => none
def nilC (c : C) : Option C :=
 match c with
 | .ip r j => some (.ip r j)
 | .ptr k sz i j => some (.ptr k sz i j)
 | .fn (.func f) a b => some (.fn (.func f) a b)
 | _ => none
def extractC (c : C) (i : Nat) : Option C :=
 match c with
 | .tup l => l[i]?
 | _ => none

@[simp] theorem L_move (y : Operand) : evalL P Y ops (⟨dst, .move y, ty, pos, after, none⟩ :: l) s K = contV P Y ops l K s dst (some (s.ev y)) := rfl
@[simp] theorem D_move (y : Operand) : evalD P Y ops na ((i, ⟨dst, .move y, ty, pos, after, none⟩) :: ld) s K ↔ contVD P Y ops na ld K s dst (some (s.ev y)) := by
 constructor
 ·rintro ⟨_, h⟩; obtain ⟨c, h1, _, h2⟩ := h; exact ⟨c, h1, h2⟩
 ·rintro ⟨c, h1, h2⟩; exact ⟨rfl, c, h1, trivial, h2⟩
@[simp] theorem L_assign (y : Operand) : evalL P Y ops (⟨dst, .assign y, ty, pos, after, none⟩ :: l) s K = contV P Y ops l K s dst (some (s.ev y)) := rfl
@[simp] theorem D_assign (y : Operand) : evalD P Y ops na ((i, ⟨dst, .assign y, ty, pos, after, none⟩) :: ld) s K ↔ contVD P Y ops na ld K s dst (some (s.ev y)) := by
 constructor
 ·rintro ⟨_, h⟩; obtain ⟨c, h1, _, h2⟩ := h; exact ⟨c, h1, h2⟩
 ·rintro ⟨c, h1, h2⟩; exact ⟨rfl, c, h1, trivial, h2⟩
@[simp] theorem L_pick (a b c : Operand) : evalL P Y ops (⟨dst, .pick a b c, ty, pos, after, none⟩ :: l) s K = contV P Y ops l K s dst (pickC (s.ev a) (s.ev b) (s.ev c)) := rfl
@[simp] theorem D_pick (a b c : Operand) : evalD P Y ops na ((i, ⟨dst, .pick a b c, ty, pos, after, none⟩) :: ld) s K ↔ contVD P Y ops na ld K s dst (pickC (s.ev a) (s.ev b) (s.ev c)) := by
 constructor
 ·rintro ⟨_, h⟩; obtain ⟨c, h1, _, h2⟩ := h; exact ⟨c, h1, h2⟩
 ·rintro ⟨c, h1, h2⟩; exact ⟨rfl, c, h1, trivial, h2⟩
@[simp] theorem L_load (t : TypeId) (a : Operand) : evalL P Y ops (⟨dst, .load t a, ty, pos, after, none⟩ :: l) s K = contV P Y ops l K s dst (loadC P s.sto t (s.ev a)) := rfl
@[simp] theorem D_load (t : TypeId) (a : Operand) : evalD P Y ops na ((i, ⟨dst, .load t a, ty, pos, after, none⟩) :: ld) s K ↔ (na.contains (i + 1000) = false ∨ parC na false (s.ev a) = true) ∧ contVD P Y ops na ld K s dst (loadC P s.sto t (s.ev a)) := by
 constructor
 ·rintro ⟨h0, h⟩; obtain ⟨c, h1, _, h2⟩ := h
  refine ⟨?_, c, h1, h2⟩
  simpa [dPre] using h0
 ·rintro ⟨h0, c, h1, h2⟩
  refine ⟨?_, c, h1, trivial, h2⟩
  simpa [dPre] using h0
@[simp] theorem L_nilCheck (a : Operand) : evalL P Y ops (⟨dst, .nilCheck a, ty, pos, after, none⟩ :: l) s K = contV P Y ops l K s dst (nilC (s.ev a)) := rfl
@[simp] theorem D_nilCheck (a : Operand) : evalD P Y ops na ((i, ⟨dst, .nilCheck a, ty, pos, after, none⟩) :: ld) s K ↔ contVD P Y ops na ld K s dst (nilC (s.ev a)) := by
 constructor
 ·rintro ⟨_, h⟩; obtain ⟨c, h1, _, h2⟩ := h; exact ⟨c, h1, h2⟩
 ·rintro ⟨c, h1, h2⟩; exact ⟨rfl, c, h1, trivial, h2⟩
@[simp] theorem L_binOp (o : BinOp) (t u : TypeId) (a b : Operand) : evalL P Y ops (⟨dst, .binOp o t a b u, ty, pos, after, none⟩ :: l) s K = contV P Y ops l K s dst (binC P s.sto o t (s.ev a) (s.ev b)) := rfl
@[simp] theorem D_binOp (o : BinOp) (t u : TypeId) (a b : Operand) : evalD P Y ops na ((i, ⟨dst, .binOp o t a b u, ty, pos, after, none⟩) :: ld) s K ↔ contVD P Y ops na ld K s dst (binC P s.sto o t (s.ev a) (s.ev b)) := by
 constructor
 ·rintro ⟨_, h⟩; obtain ⟨c, h1, _, h2⟩ := h; exact ⟨c, h1, h2⟩
 ·rintro ⟨c, h1, h2⟩; exact ⟨rfl, c, h1, trivial, h2⟩
@[simp] theorem L_unOp (o : UnOp) (t : TypeId) (a : Operand) : evalL P Y ops (⟨dst, .unOp o t a, ty, pos, after, none⟩ :: l) s K = contV P Y ops l K s dst (unC o (s.ev a)) := rfl
@[simp] theorem D_unOp (o : UnOp) (t : TypeId) (a : Operand) : evalD P Y ops na ((i, ⟨dst, .unOp o t a, ty, pos, after, none⟩) :: ld) s K ↔ contVD P Y ops na ld K s dst (unC o (s.ev a)) := by
 constructor
 ·rintro ⟨_, h⟩; obtain ⟨c, h1, _, h2⟩ := h; exact ⟨c, h1, h2⟩
 ·rintro ⟨c, h1, h2⟩; exact ⟨rfl, c, h1, trivial, h2⟩
@[simp] theorem L_convert (t u : TypeId) (a : Operand) : evalL P Y ops (⟨dst, .convert t u a, ty, pos, after, none⟩ :: l) s K = contV P Y ops l K s dst ((convC P t u (s.ev a)).or (convB P t u (s.ev a))) := rfl
@[simp] theorem D_convert (t u : TypeId) (a : Operand) : evalD P Y ops na ((i, ⟨dst, .convert t u a, ty, pos, after, none⟩) :: ld) s K ↔ contVD P Y ops na ld K s dst ((convC P t u (s.ev a)).or (convB P t u (s.ev a))) := by
 constructor
 ·rintro ⟨_, h⟩; obtain ⟨c, h1, _, h2⟩ := h; exact ⟨c, h1, h2⟩
 ·rintro ⟨c, h1, h2⟩; exact ⟨rfl, c, h1, trivial, h2⟩
@[simp] theorem L_fieldAddr (t : TypeId) (a : Operand) (f : Nat) : evalL P Y ops (⟨dst, .fieldAddr t a f, ty, pos, after, none⟩ :: l) s K = contV P Y ops l K s dst (fieldAddrC P t (s.ev a) f) := rfl
@[simp] theorem D_fieldAddr (t : TypeId) (a : Operand) (f : Nat) : evalD P Y ops na ((i, ⟨dst, .fieldAddr t a f, ty, pos, after, none⟩) :: ld) s K ↔ contVD P Y ops na ld K s dst (fieldAddrC P t (s.ev a) f) := by
 constructor
 ·rintro ⟨_, h⟩; obtain ⟨c, h1, _, h2⟩ := h; exact ⟨c, h1, h2⟩
 ·rintro ⟨c, h1, h2⟩; exact ⟨rfl, c, h1, trivial, h2⟩
@[simp] theorem L_field (t : TypeId) (a : Operand) (f : Nat) : evalL P Y ops (⟨dst, .field t a f, ty, pos, after, none⟩ :: l) s K = contV P Y ops l K s dst (fieldC P t (s.ev a) f) := rfl
@[simp] theorem D_field (t : TypeId) (a : Operand) (f : Nat) : evalD P Y ops na ((i, ⟨dst, .field t a f, ty, pos, after, none⟩) :: ld) s K ↔ contVD P Y ops na ld K s dst (fieldC P t (s.ev a) f) := by
 constructor
 ·rintro ⟨_, h⟩; obtain ⟨c, h1, _, h2⟩ := h; exact ⟨c, h1, h2⟩
 ·rintro ⟨c, h1, h2⟩; exact ⟨rfl, c, h1, trivial, h2⟩
@[simp] theorem L_indexAddr (t : TypeId) (a b : Operand) : evalL P Y ops (⟨dst, .indexAddr t a b, ty, pos, after, none⟩ :: l) s K = contV P Y ops l K s dst (indexAddrC P t (s.ev a) (s.ev b)) := rfl
@[simp] theorem D_indexAddr (t : TypeId) (a b : Operand) : evalD P Y ops na ((i, ⟨dst, .indexAddr t a b, ty, pos, after, none⟩) :: ld) s K ↔ contVD P Y ops na ld K s dst (indexAddrC P t (s.ev a) (s.ev b)) := by
 constructor
 ·rintro ⟨_, h⟩; obtain ⟨c, h1, _, h2⟩ := h; exact ⟨c, h1, h2⟩
 ·rintro ⟨c, h1, h2⟩; exact ⟨rfl, c, h1, trivial, h2⟩
@[simp] theorem L_index (t : TypeId) (a b : Operand) : evalL P Y ops (⟨dst, .index t a b, ty, pos, after, none⟩ :: l) s K = contV P Y ops l K s dst (indexC P t (s.ev a) (s.ev b)) := rfl
@[simp] theorem D_index (t : TypeId) (a b : Operand) : evalD P Y ops na ((i, ⟨dst, .index t a b, ty, pos, after, none⟩) :: ld) s K ↔ contVD P Y ops na ld K s dst (indexC P t (s.ev a) (s.ev b)) := by
 constructor
 ·rintro ⟨_, h⟩; obtain ⟨c, h1, _, h2⟩ := h; exact ⟨c, h1, h2⟩
 ·rintro ⟨c, h1, h2⟩; exact ⟨rfl, c, h1, trivial, h2⟩
@[simp] theorem L_extract (a : Operand) (j : Nat) : evalL P Y ops (⟨dst, .extract a j, ty, pos, after, none⟩ :: l) s K = contV P Y ops l K s dst (extractC (s.ev a) j) := rfl
@[simp] theorem D_extract (a : Operand) (j : Nat) : evalD P Y ops na ((i, ⟨dst, .extract a j, ty, pos, after, none⟩) :: ld) s K ↔ contVD P Y ops na ld K s dst (extractC (s.ev a) j) := by
 constructor
 ·rintro ⟨_, h⟩; obtain ⟨c, h1, _, h2⟩ := h; exact ⟨c, h1, h2⟩
 ·rintro ⟨c, h1, h2⟩; exact ⟨rfl, c, h1, trivial, h2⟩
@[simp] theorem L_makeFunc (f : Fn) (a b : Array Operand) : evalL P Y ops (⟨dst, .makeFunc f a b, ty, pos, after, none⟩ :: l) s K = contV P Y ops l K s dst (some (.fn f (a.toList.map s.ev) (b.toList.map s.ev))) := rfl
@[simp] theorem D_makeFunc (f : Fn) (a b : Array Operand) : evalD P Y ops na ((i, ⟨dst, .makeFunc f a b, ty, pos, after, none⟩) :: ld) s K ↔ contVD P Y ops na ld K s dst (some (.fn f (a.toList.map s.ev) (b.toList.map s.ev))) := by
 constructor
 ·rintro ⟨_, h⟩; obtain ⟨c, h1, _, h2⟩ := h; exact ⟨c, h1, h2⟩
 ·rintro ⟨c, h1, h2⟩; exact ⟨rfl, c, h1, trivial, h2⟩
@[simp] theorem L_build (t : TypeId) (ps : Array (Nat × Operand)) : evalL P Y ops (⟨dst, .build t ps, ty, pos, after, none⟩ :: l) s K = contV P Y ops l K s dst (buildC P t (ps.toList.map fun p => (p.1, s.ev p.2))) := rfl
@[simp] theorem D_build (t : TypeId) (ps : Array (Nat × Operand)) : evalD P Y ops na ((i, ⟨dst, .build t ps, ty, pos, after, none⟩) :: ld) s K ↔ contVD P Y ops na ld K s dst (buildC P t (ps.toList.map fun p => (p.1, s.ev p.2))) := by
 constructor
 ·rintro ⟨_, h⟩; obtain ⟨c, h1, _, h2⟩ := h; exact ⟨c, h1, h2⟩
 ·rintro ⟨c, h1, h2⟩; exact ⟨rfl, c, h1, trivial, h2⟩
@[simp] theorem L_slice (t : TypeId) (a : Operand) (lo hi mx : Option Operand) : evalL P Y ops (⟨dst, .slice t a lo hi mx, ty, pos, after, none⟩ :: l) s K = contV P Y ops l K s dst (sliceC P t (s.ev a) (lo.map s.ev) (hi.map s.ev) (mx.map s.ev)) := rfl
@[simp] theorem D_slice (t : TypeId) (a : Operand) (lo hi mx : Option Operand) : evalD P Y ops na ((i, ⟨dst, .slice t a lo hi mx, ty, pos, after, none⟩) :: ld) s K ↔ contVD P Y ops na ld K s dst (sliceC P t (s.ev a) (lo.map s.ev) (hi.map s.ev) (mx.map s.ev)) := by
 constructor
 ·rintro ⟨_, h⟩; obtain ⟨c, h1, _, h2⟩ := h; exact ⟨c, h1, h2⟩
 ·rintro ⟨c, h1, h2⟩; exact ⟨rfl, c, h1, trivial, h2⟩
@[simp] theorem L_len (ars : Array Operand) (ts : Array TypeId) : evalL P Y ops (⟨dst, .call ⟨.builtin .len, ars, ts⟩, ty, pos, after, none⟩ :: l) s K = contV P Y ops l K s dst (builtinC P s.sto .len ts.toList (ars.toList.map s.ev)) := rfl
@[simp] theorem D_len (ars : Array Operand) (ts : Array TypeId) : evalD P Y ops na ((i, ⟨dst, .call ⟨.builtin .len, ars, ts⟩, ty, pos, after, none⟩) :: ld) s K ↔ (na.contains (i + 6000) = true ∨ (ars.toList.all fun y => notMp (s.ev y)) = true) ∧ contVD P Y ops na ld K s dst (builtinC P s.sto .len ts.toList (ars.toList.map s.ev)) := by
 constructor
 ·rintro ⟨h0, h⟩; obtain ⟨c, h1, _, h2⟩ := h
  refine ⟨?_, c, h1, h2⟩
  simpa only [dPre, Bool.or_eq_true] using h0
 ·rintro ⟨h0, c, h1, h2⟩
  refine ⟨?_, c, h1, trivial, h2⟩
  simpa only [dPre, Bool.or_eq_true] using h0
@[simp] theorem L_lookup (t : TypeId) (a b : Operand) (ok : Bool) : evalL P Y ops (⟨dst, .lookup t a b ok, ty, pos, after, none⟩ :: l) s K = contV P Y ops l K s dst (lookupC P s.sto t (s.ev a) (s.ev b) ok) := rfl
@[simp] theorem D_lookup (t : TypeId) (a b : Operand) (ok : Bool) : evalD P Y ops na ((i, ⟨dst, .lookup t a b ok, ty, pos, after, none⟩) :: ld) s K ↔ contVD P Y ops na ld K s dst (lookupC P s.sto t (s.ev a) (s.ev b) ok) := by
 constructor
 ·rintro ⟨_, h⟩; obtain ⟨c, h1, _, h2⟩ := h; exact ⟨c, h1, h2⟩
 ·rintro ⟨c, h1, h2⟩; exact ⟨rfl, c, h1, trivial, h2⟩
@[simp] theorem L_makeMap (t : TypeId) : evalL P Y ops (⟨dst, .makeMap t none, ty, pos, after, none⟩ :: l) s K = contE P Y ops l K s dst (effC P s.sto s.ev dst (.makeMap t none)) := rfl
@[simp] theorem D_makeMap (t : TypeId) : evalD P Y ops na ((i, ⟨dst, .makeMap t none, ty, pos, after, none⟩) :: ld) s K ↔ contED P Y ops na ld K s dst false (effC P s.sto s.ev dst (.makeMap t none)) := by
 constructor
 ·rintro ⟨_, h⟩; obtain ⟨c, h1, _, h2⟩ := h; exact ⟨c, h1, .inl rfl, h2⟩
 ·rintro ⟨c, h1, _, h2⟩; exact ⟨rfl, c, h1, trivial, h2⟩
@[simp] theorem L_mapUpdate (t : TypeId) (a b c : Operand) : evalL P Y ops (⟨dst, .mapUpdate t a b c, ty, pos, after, none⟩ :: l) s K = contE P Y ops l K s dst (effC P s.sto s.ev dst (.mapUpdate t a b c)) := rfl
@[simp] theorem D_mapUpdate (t : TypeId) (a b c : Operand) : evalD P Y ops na ((i, ⟨dst, .mapUpdate t a b c, ty, pos, after, none⟩) :: ld) s K ↔ contED P Y ops na ld K s dst false (effC P s.sto s.ev dst (.mapUpdate t a b c)) := by
 constructor
 ·rintro ⟨_, h⟩; obtain ⟨c, h1, _, h2⟩ := h; exact ⟨c, h1, .inl rfl, h2⟩
 ·rintro ⟨c, h1, _, h2⟩; exact ⟨rfl, c, h1, trivial, h2⟩
@[simp] theorem L_insert (t : TypeId) (a b c : Operand) : evalL P Y ops (⟨dst, .insert t a b c, ty, pos, after, none⟩ :: l) s K = contE P Y ops l K s dst (effC P s.sto s.ev dst (.insert t a b c)) := rfl
@[simp] theorem D_insert (t : TypeId) (a b c : Operand) : evalD P Y ops na ((i, ⟨dst, .insert t a b c, ty, pos, after, none⟩) :: ld) s K ↔ contED P Y ops na ld K s dst false (effC P s.sto s.ev dst (.insert t a b c)) := by
 constructor
 ·rintro ⟨_, h⟩; obtain ⟨c, h1, _, h2⟩ := h; exact ⟨c, h1, .inl rfl, h2⟩
 ·rintro ⟨c, h1, _, h2⟩; exact ⟨rfl, c, h1, trivial, h2⟩
@[simp] theorem L_mapEntry (t : TypeId) (a b : Operand) : evalL P Y ops (⟨dst, .mapEntry t a b, ty, pos, after, none⟩ :: l) s K = contE P Y ops l K s dst (effC P s.sto s.ev dst (.mapEntry t a b)) := rfl
@[simp] theorem D_mapEntry (t : TypeId) (a b : Operand) : evalD P Y ops na ((i, ⟨dst, .mapEntry t a b, ty, pos, after, none⟩) :: ld) s K ↔ contED P Y ops na ld K s dst false (effC P s.sto s.ev dst (.mapEntry t a b)) := by
 constructor
 ·rintro ⟨_, h⟩; obtain ⟨c, h1, _, h2⟩ := h; exact ⟨c, h1, .inl rfl, h2⟩
 ·rintro ⟨c, h1, _, h2⟩; exact ⟨rfl, c, h1, trivial, h2⟩
@[simp] theorem L_entryStore (t : TypeId) (a b c : Operand) : evalL P Y ops (⟨dst, .entryStore t a b c, ty, pos, after, none⟩ :: l) s K = contE P Y ops l K s dst (effC P s.sto s.ev dst (.entryStore t a b c)) := rfl
@[simp] theorem D_entryStore (t : TypeId) (a b c : Operand) : evalD P Y ops na ((i, ⟨dst, .entryStore t a b c, ty, pos, after, none⟩) :: ld) s K ↔ contED P Y ops na ld K s dst false (effC P s.sto s.ev dst (.entryStore t a b c)) := by
 constructor
 ·rintro ⟨_, h⟩; obtain ⟨c, h1, _, h2⟩ := h; exact ⟨c, h1, .inl rfl, h2⟩
 ·rintro ⟨c, h1, _, h2⟩; exact ⟨rfl, c, h1, trivial, h2⟩
@[simp] theorem L_max (ars : Array Operand) (ts : Array TypeId) : evalL P Y ops (⟨dst, .call ⟨.builtin .max, ars, ts⟩, ty, pos, after, none⟩ :: l) s K = contV P Y ops l K s dst (builtinC P s.sto .max ts.toList (ars.toList.map s.ev)) := rfl
@[simp] theorem D_max (ars : Array Operand) (ts : Array TypeId) : evalD P Y ops na ((i, ⟨dst, .call ⟨.builtin .max, ars, ts⟩, ty, pos, after, none⟩) :: ld) s K ↔ contVD P Y ops na ld K s dst (builtinC P s.sto .max ts.toList (ars.toList.map s.ev)) := by
 constructor
 ·rintro ⟨_, h⟩; obtain ⟨c, h1, _, h2⟩ := h; exact ⟨c, h1, h2⟩
 ·rintro ⟨c, h1, h2⟩; exact ⟨rfl, c, h1, trivial, h2⟩
@[simp] theorem L_min (ars : Array Operand) (ts : Array TypeId) : evalL P Y ops (⟨dst, .call ⟨.builtin .min, ars, ts⟩, ty, pos, after, none⟩ :: l) s K = contV P Y ops l K s dst (builtinC P s.sto .min ts.toList (ars.toList.map s.ev)) := rfl
@[simp] theorem D_min (ars : Array Operand) (ts : Array TypeId) : evalD P Y ops na ((i, ⟨dst, .call ⟨.builtin .min, ars, ts⟩, ty, pos, after, none⟩) :: ld) s K ↔ contVD P Y ops na ld K s dst (builtinC P s.sto .min ts.toList (ars.toList.map s.ev)) := by
 constructor
 ·rintro ⟨_, h⟩; obtain ⟨c, h1, _, h2⟩ := h; exact ⟨c, h1, h2⟩
 ·rintro ⟨c, h1, h2⟩; exact ⟨rfl, c, h1, trivial, h2⟩
@[simp] theorem L_alloc (t : TypeId) : evalL P Y ops (⟨dst, .alloc t, ty, pos, after, none⟩ :: l) s K = contE P Y ops l K s dst (effC P s.sto s.ev dst (.alloc t)) := rfl
@[simp] theorem D_alloc (t : TypeId) : evalD P Y ops na ((i, ⟨dst, .alloc t, ty, pos, after, none⟩) :: ld) s K ↔ contED P Y ops na ld K s dst false (effC P s.sto s.ev dst (.alloc t)) := by
 constructor
 ·rintro ⟨_, h⟩; obtain ⟨c, h1, _, h2⟩ := h; exact ⟨c, h1, .inl rfl, h2⟩
 ·rintro ⟨c, h1, _, h2⟩; exact ⟨rfl, c, h1, trivial, h2⟩
@[simp] theorem L_box (t : TypeId) (a : Operand) : evalL P Y ops (⟨dst, .box t a, ty, pos, after, none⟩ :: l) s K = contE P Y ops l K s dst (effC P s.sto s.ev dst (.box t a)) := rfl
@[simp] theorem D_box (t : TypeId) (a : Operand) : evalD P Y ops na ((i, ⟨dst, .box t a, ty, pos, after, none⟩) :: ld) s K ↔ contED P Y ops na ld K s dst false (effC P s.sto s.ev dst (.box t a)) := by
 constructor
 ·rintro ⟨_, h⟩; obtain ⟨c, h1, _, h2⟩ := h; exact ⟨c, h1, .inl rfl, h2⟩
 ·rintro ⟨c, h1, _, h2⟩; exact ⟨rfl, c, h1, trivial, h2⟩
@[simp] theorem L_buildSlice (t : TypeId) (n : Nat) (ps : Array (Nat × Operand)) : evalL P Y ops (⟨dst, .buildSlice t n ps, ty, pos, after, none⟩ :: l) s K = contE P Y ops l K s dst (effC P s.sto s.ev dst (.buildSlice t n ps)) := rfl
@[simp] theorem L_makeSlice (t : TypeId) (a b : Operand) : evalL P Y ops (⟨dst, .makeSlice t a b, ty, pos, after, none⟩ :: l) s K = contE P Y ops l K s dst (effC P s.sto s.ev dst (.makeSlice t a b)) := rfl
@[simp] theorem D_makeSlice (t : TypeId) (a b : Operand) : evalD P Y ops na ((i, ⟨dst, .makeSlice t a b, ty, pos, after, none⟩) :: ld) s K ↔ contED P Y ops na ld K s dst false (effC P s.sto s.ev dst (.makeSlice t a b)) := by
 constructor
 ·rintro ⟨_, h⟩; obtain ⟨c, h1, _, h2⟩ := h; exact ⟨c, h1, .inl rfl, h2⟩
 ·rintro ⟨c, h1, _, h2⟩; exact ⟨rfl, c, h1, trivial, h2⟩
@[simp] theorem L_store (t : TypeId) (a b : Operand) : evalL P Y ops (⟨dst, .store t a b, ty, pos, after, none⟩ :: l) s K = contE P Y ops l K s dst (effC P s.sto s.ev dst (.store t a b)) := rfl
@[simp] theorem D_store (t : TypeId) (a b : Operand) : evalD P Y ops na ((i, ⟨dst, .store t a b, ty, pos, after, none⟩) :: ld) s K ↔ (na.contains (i + 2000) = false ∨ parC na true (s.ev a) = true) ∧ contED P Y ops na ld K s dst false (effC P s.sto s.ev dst (.store t a b)) := by
 constructor
 ·rintro ⟨h0, h⟩; obtain ⟨c, h1, _, h2⟩ := h
  refine ⟨?_, c, h1, .inl rfl, h2⟩
  simpa [dPre] using h0
 ·rintro ⟨h0, c, h1, _, h2⟩
  refine ⟨?_, c, h1, trivial, h2⟩
  simpa [dPre] using h0
@[simp] theorem D_buildSlice (t : TypeId) (n : Nat) (ps : Array (Nat × Operand)) (d : Nat) : evalD P Y ops na ((i, ⟨some d, .buildSlice t n ps, ty, pos, after, none⟩) :: ld) s K ↔ contEB P Y ops na ld K s (some d) (na.contains i) (effC P s.sto s.ev (some d) (.buildSlice t n ps)) := by
 constructor
 ·rintro ⟨_, h⟩
  obtain ⟨c, h1, h0, h2⟩ := h
  refine ⟨c, h1, ?_, h2⟩
  simpa [dPostS, putE, upd] using h0
 ·rintro ⟨c, h1, h0, h2⟩
  refine ⟨rfl, c, h1, ?_, h2⟩
  simpa [dPostS, putE, upd] using h0
@[simp] theorem L_append (ars : Array Operand) (ts : Array TypeId) : evalL P Y ops (⟨dst, .call ⟨.builtin .append, ars, ts⟩, ty, pos, after, none⟩ :: l) s K = contE P Y ops l K s dst (effC P s.sto s.ev dst (.call ⟨.builtin .append, ars, ts⟩)) := rfl
@[simp] theorem D_append (ars : Array Operand) (ts : Array TypeId) : evalD P Y ops na ((i, ⟨dst, .call ⟨.builtin .append, ars, ts⟩, ty, pos, after, none⟩) :: ld) s K ↔
  ((na.contains i = false ∨ (ars.toList.all fun y => (s.ev y).isPure) = true) ∧ (na.contains (i + 5000) = false ∨ ownFirst na s.ev ars.toList = true)) ∧ contED P Y ops na ld K s dst false (effC P s.sto s.ev dst (.call ⟨.builtin .append, ars, ts⟩)) := by
 constructor
 ·rintro ⟨h0, h⟩
  obtain ⟨c, h1, _, h2⟩ := h
  refine ⟨?_, c, h1, .inl rfl, h2⟩
  simpa [dPre] using h0
 ·rintro ⟨h0, c, h1, _, h2⟩
  refine ⟨?_, c, h1, trivial, h2⟩
  simpa [dPre] using h0
@[simp] theorem L_call (f : FuncId) (ars : Array Operand) (ts : Array TypeId) : evalL P Y ops (⟨dst, .call ⟨.value (.func f), ars, ts⟩, ty, pos, after, none⟩ :: l) s K = contC P Y ops l K s dst f ([] ++ ars.toList.map s.ev ++ []) := rfl
@[simp] theorem D_call (f : FuncId) (ars : Array Operand) (ts : Array TypeId) : evalD P Y ops na ((i, ⟨dst, .call ⟨.value (.func f), ars, ts⟩, ty, pos, after, none⟩) :: ld) s K ↔ contCD P Y ops na ld K s dst (mode na i) f ([] ++ ars.toList.map s.ev ++ []) := by
 constructor
 ·rintro ⟨_, h⟩
  rcases h with ⟨h0, pargs, r, h1, h2, h3, _, h4⟩ | ⟨h0, ob, e, h1, h2, h3, h4, _, h5⟩ | ⟨h0, r, σ', h1, h1', _, h2⟩ | ⟨h0, ob, e, pargs, h1, h2, h3, h4, h5, _, h6⟩
  ·exact .inl ⟨h0, pargs, r, h1, h2, h3, h4⟩
  ·exact .inr (.inl ⟨h0, ob, e, h1, h2, h3, h4, h5⟩)
  ·exact .inr (.inr (.inl ⟨h0, r, σ', h1, h1', h2⟩))
  ·exact .inr (.inr (.inr ⟨h0, ob, e, pargs, h1, h2, h3, h4, h5, h6⟩))
 ·intro h
  refine ⟨rfl, ?_⟩
  rcases h with ⟨h0, pargs, r, h1, h2, h3, h4⟩ | ⟨h0, ob, e, h1, h2, h3, h4, h5⟩ | ⟨h0, r, σ', h1, h1', h2⟩ | ⟨h0, ob, e, pargs, h1, h2, h3, h4, h5, h6⟩
  ·exact .inl ⟨h0, pargs, r, h1, h2, h3, trivial, h4⟩
  ·exact .inr (.inl ⟨h0, ob, e, h1, h2, h3, h4, trivial, h5⟩)
  ·exact .inr (.inr (.inl ⟨h0, r, σ', h1, h1', trivial, h2⟩))
  ·exact .inr (.inr (.inr ⟨h0, ob, e, pargs, h1, h2, h3, h4, h5, trivial, h6⟩))

def contY (P : Program) (Y : YRel) (ops : Array Oper) (l : List Oper) (K : AS → Prop) (s : AS) (d : Option Nat) (q : Nat) (args : List C) : Prop := ∃ r σ', Y q s.sto args r σ' ∧ evalL P Y ops l ⟨putE s.env d r, σ'⟩ K
def contYD (P : Program) (Y : YRel) (ops : Array Oper) (na : List Nat) (l : List (Nat × Oper)) (K : AS → Prop) (s : AS) (d : Option Nat) (m : Nat) (q : Nat) (args : List C) : Prop := m = 0 ∧ ∃ r σ', Y q s.sto args r σ' ∧ evalD P Y ops na l ⟨putE s.env d r, σ'⟩ K

def contF (P : Program) (Y : YRel) (ops : Array Oper) (l : List Oper) (K : AS → Prop) (s : AS) (d : Option Nat) (c : C) (args : List C) : Prop :=
 match c with
 | .fn (.func f) a b => contC P Y ops l K s d f (a ++ args ++ b)
 | .fn (.yield q) [] [] => contY P Y ops l K s d q args
 | _ => False
@[simp] theorem contF_fn {l : List Oper} {K : AS → Prop} {s : AS} {d : Option Nat} {f : FuncId} {a b args : List C} : contF P Y ops l K s d (.fn (.func f) a b) args = contC P Y ops l K s d f (a ++ args ++ b) := rfl
@[simp] theorem contF_yield {l : List Oper} {K : AS → Prop} {s : AS} {d : Option Nat} {q : Nat} {args : List C} : contF P Y ops l K s d (.fn (.yield q) [] []) args = contY P Y ops l K s d q args := rfl
@[simp] theorem L_callv (t : Tmp) (ars : Array Operand) (ts : Array TypeId) : evalL P Y ops (⟨dst, .call ⟨.value (.tmp t), ars, ts⟩, ty, pos, after, none⟩ :: l) s K = contF P Y ops l K s dst (s.env t) (ars.toList.map s.ev) := by
 show stepK P Y ops s _ _ = _
 simp only [stepK, wantC, opK, ev_tmp_env, contF]
 generalize s.env t = c
 cases c with
 | fn f a b =>
  cases f with
  | yield q =>
   cases a with
   | nil =>
    cases b with
    | nil => simp [contY]
    | cons _ _ => rfl
   | cons _ _ => rfl
  | _ => rfl
 | _ => rfl

def contFD (P : Program) (Y : YRel) (ops : Array Oper) (na : List Nat) (l : List (Nat × Oper)) (K : AS → Prop) (s : AS) (d : Option Nat) (m : Nat) (c : C) (args : List C) : Prop :=
 match c with
 | .fn (.func f) a b => contCD P Y ops na l K s d m f (a ++ args ++ b)
 | .fn (.yield q) [] [] => contYD P Y ops na l K s d m q args
 | _ => False
@[simp] theorem contFD_fn {l : List (Nat × Oper)} {K : AS → Prop} {s : AS} {d : Option Nat} {m : Nat} {f : FuncId} {a b args : List C} : contFD P Y ops na l K s d m (.fn (.func f) a b) args = contCD P Y ops na l K s d m f (a ++ args ++ b) := rfl
@[simp] theorem contFD_yield {l : List (Nat × Oper)} {K : AS → Prop} {s : AS} {d : Option Nat} {m q : Nat} {args : List C} : contFD P Y ops na l K s d m (.fn (.yield q) [] []) args = contYD P Y ops na l K s d m q args := rfl
@[simp] theorem D_callv (t : Tmp) (ars : Array Operand) (ts : Array TypeId) : evalD P Y ops na ((i, ⟨dst, .call ⟨.value (.tmp t), ars, ts⟩, ty, pos, after, none⟩) :: ld) s K ↔ contFD P Y ops na ld K s dst (mode na i) (s.env t) (ars.toList.map s.ev) := by
 show stepD P Y ops na i s _ _ ↔ _
 simp only [stepD, wantC, opK, ev_tmp_env, contFD, dPre, dPostS, true_and]
 generalize s.env t = c
 cases c with
 | fn f a b =>
  cases f with
  | yield q =>
   cases a with
   | nil =>
    cases b with
    | nil => simp [contYD]
    | cons _ _ => exact Iff.rfl
   | cons _ _ => exact Iff.rfl
  | func f => exact Iff.rfl
  | _ => exact Iff.rfl
 | _ => exact Iff.rfl

def guardW (env : Nat → C) (ops : Array Oper) (j : Nat) (want : Bool) : Option Bool := wantC ops env ⟨none, .move (.tmp 0), 0, "", #[], some (j, want)⟩
@[simp] theorem L_guard (j : Nat) (b : Bool) : evalL P Y ops (⟨dst, op, ty, pos, after, some (j, b)⟩ :: l) s K = contG P Y ops l K s ⟨dst, op, ty, pos, after, none⟩ (guardW s.env ops j b) := by
 show stepK P Y ops s _ _ = _
 unfold stepK contG guardW
 have hw : wantC ops s.env ⟨dst, op, ty, pos, after, some (j, b)⟩ = wantC ops s.env ⟨none, .move (.tmp 0), 0, "", #[], some (j, b)⟩ := rfl
 rw [hw]
 split <;> rename_i h <;> (first | rfl | (rw [h] <;> rfl))
@[simp] theorem D_guard (j : Nat) (b : Bool) : evalD P Y ops na ((i, ⟨dst, op, ty, pos, after, some (j, b)⟩) :: ld) s K = contGD P Y ops na i ld K s ⟨dst, op, ty, pos, after, none⟩ (guardW s.env ops j b) := by
 show stepD P Y ops na i s _ _ = _
 unfold stepD contGD guardW
 have hw : wantC ops s.env ⟨dst, op, ty, pos, after, some (j, b)⟩ = wantC ops s.env ⟨none, .move (.tmp 0), 0, "", #[], some (j, b)⟩ := rfl
 rw [hw]
 split <;> rename_i h <;> (first | rfl | (rw [h] <;> rfl))
@[simp] theorem contG_true (o : Oper) : contG P Y ops l K s o (some true) = evalL P Y ops (o :: l) s K := rfl
@[simp] theorem contG_false (o : Oper) : contG P Y ops l K s o (some false) = evalL P Y ops l (s.put o.dst (.tup [])) K := rfl
@[simp] theorem contGD_true (o : Oper) : contGD P Y ops na i ld K s o (some true) = evalD P Y ops na ((i, o) :: ld) s K := rfl
@[simp] theorem contGD_false (o : Oper) : contGD P Y ops na i ld K s o (some false) = evalD P Y ops na ld (s.put o.dst (.tup [])) K := rfl

end steps

theorem callL {l : List Oper} {K : AS → Prop} {s : AS} {d : Option Nat} {f : FuncId} {args pargs : List C} {r : C} (hp : Pure P f pargs r) (hv : viewL s.sto args = some pargs) (hf : purel args = true ∨ r.flat = true)
  (h : evalL P Y ops l ⟨putE s.env d r, s.sto⟩ K) : contC P Y ops l K s d f args := .inl ⟨by decide, pargs, r, hv, hp, hf, h⟩
theorem callD {na : List Nat} {m : Nat} {l : List (Nat × Oper)} {K : AS → Prop} {s : AS} {d : Option Nat} {f : FuncId} {args pargs : List C} {r : C} (hp : Pure P f pargs r) (hv : viewL s.sto args = some pargs) (hf : purel args = true ∨ r.flat = true)
  (hm : m = 0 ∨ m = 1) (h : evalD P Y ops na l ⟨putE s.env d r, s.sto⟩ K) : contCD P Y ops na l K s d m f args := .inl ⟨hm, pargs, r, hv, hp, hf, h⟩
theorem freshL {l : List Oper} {K : AS → Prop} {s : AS} {d : Nat} {f : FuncId} {args : List C} {ob : Ob} (hp : Fresh P f args ob) (hv : purel args = true) (hf : isFree s.sto d = true)
  (h : evalL P Y ops l ⟨upd s.env d (.own d ob.sz 0 ob.rows.length), upd s.sto d (.live ob)⟩ K) : contC P Y ops l K s (some d) f args := .inr (.inl ⟨by decide, ob, d, hv, rfl, hf, hp, h⟩)
theorem doesL {l : List Oper} {K : AS → Prop} {s : AS} {d : Option Nat} {f : FuncId} {args : List C} {r : C} {σ' : Nat → Slot} (hp : Does P f s.sto args r σ') (h : evalL P Y ops l ⟨putE s.env d r, σ'⟩ K) :
  contC P Y ops l K s d f args := .inr (.inr (.inl ⟨.inl rfl, r, σ', hp, fun h => by simp at h, h⟩))
attribute [simp] notMp lookupC rowsC zeroC updC entC putC fitQ findC sameC keyQ ownC ownFirst parC pickC nilC extractC loadC cellsAt partC fieldAddrC fieldsOf moveC fieldC indexAddrC indexC binC intBin shiftC strBin unC convC convB bytesOf lenC builtinC maxI minI buildC fillC cellsC C.cell sliceC boundC effC isFree appendC srcC chunk zrep
 TK.isAgg C.isPure purel C.flat flatl eqlC eqInts eqMix guardW wantC mapO viewC viewL mode

theorem awp_reg1 {id : Nat} {l : List Oper} {s : AS} {Q : Exit → AS → Prop} (hnt : l.toArray.all (inNt x.nt) = true) (h : ∀ K : AS → Prop, (∀ s', Q .normal s' → K s') → evalL P x.Y l.toArray l s K) :
  AWP P x (.region id l.toArray false) s Q := awp_region hnt (h _ fun _ h => h)
end
end Go.Abs

/- Shapes of the store, and contracts of functions that work on objects that there are. No condition. -/
namespace Go.Abs

def ofL : List (Nat × C) → Nat → C
 | [] => fun _ => .any
 | p :: l => upd (ofL l) p.1 p.2

def updO (σ : Nat → Slot) : List (Nat × Ob) → Nat → Slot
 | [] => σ
 | p :: l => upd (updO σ l) p.1 (.live p.2)

def freeS : Nat → Slot := fun _ => .free

def stoT : List (Nat × Nat × Slot) → Nat → Slot
 | [] => freeS
 | p :: l => upd (stoT l) p.1 p.2.2

def mT (T : List (Nat × Nat × Slot)) : Nat → Nat → Prop := fun a b => (a, b) ∈ T.map fun p => (p.1, p.2.1)

mutual
def mtc (m : Nat → Nat → Prop) : C → C → Prop
 | _, .any => True
 | .own k sz lo n, .own k' sz' lo' n' => m k' k ∧ sz' = sz ∧ lo' = lo ∧ n' = n
 | .ptr k sz i j, .ptr k' sz' i' j' => m k' k ∧ sz' = sz ∧ i' = i ∧ j' = j
 | .mp k, .mp k' => m k' k
 | .fn f a b, .fn f' a' b' => f' = f ∧ mtl m a a' ∧ mtl m b b'
 | .agg l, .agg l' => mtl m l l'
 | .tup l, .tup l' => mtl m l l'
 | c, d => d = c ∧ c.isPure = true
def mtl (m : Nat → Nat → Prop) : List C → List C → Prop
 | [], [] => True
 | c :: l, d :: k => mtc m c d ∧ mtl m l k
 | _, _ => False
end

mutual
theorem mt_pure (m : Nat → Nat → Prop) : ∀ (c : C), c.isPure = true → mtc m c c
 | .any, _ => by simp [mtc]
 | .own .., h => by simp [C.isPure] at h
 | .ptr .., h => by simp [C.isPure] at h
 | .mp .., h => by simp [C.isPure] at h
 | .md .., _ => by simp [mtc, C.isPure]
 | .val .., _ => by simp [mtc, C.isPure]
 | .mpin .., _ => by simp [mtc, C.isPure]
 | .fn f a b, h => by
  simp only [C.isPure, Bool.and_eq_true] at h
  exact ⟨rfl, mtl_pure m a h.1, mtl_pure m b h.2⟩
 | .agg l, h => by simp only [C.isPure] at h; exact mtl_pure m l h
 | .tup l, h => by simp only [C.isPure] at h; exact mtl_pure m l h
 | .int .., _ => by simp [mtc, C.isPure]
 | .bool .., _ => by simp [mtc, C.isPure]
 | .str .., _ => by simp [mtc, C.isPure]
 | .pnil, _ => by simp [mtc, C.isPure]
 | .fnil, _ => by simp [mtc, C.isPure]
 | .sl .., _ => by simp [mtc, C.isPure]
 | .ip .., _ => by simp [mtc, C.isPure]
theorem mtl_pure (m : Nat → Nat → Prop) : ∀ (l : List C), purel l = true → mtl m l l
 | [], _ => trivial
 | c :: l, h => by
  simp only [purel, Bool.and_eq_true] at h
  exact ⟨mt_pure m c h.1, mtl_pure m l h.2⟩
end

theorem mtl_get {m : Nat → Nat → Prop} : ∀ {l k : List C}, mtl m l k → k.length = l.length ∧ ∀ (i : Nat) (c d : C), l[i]? = some c → k[i]? = some d → mtc m c d
 | [], [], _ => ⟨rfl, by simp⟩
 | [], _ :: _, h => h.elim
 | _ :: _, [], h => h.elim
 | c :: l, d :: k, h => by
  obtain ⟨h1, h2⟩ := mtl_get h.2
  refine ⟨by simp [h1], fun i a b ha hb => ?_⟩
  cases i with
  | zero => simp at ha hb; subst ha; subst hb; exact h.1
  | succ i => simp at ha hb; exact h2 i a b ha hb

inductive RowsOk (m : Nat → Nat → Prop) : List (List C) → List (List C) → Prop
 | same {r : List (List C)} (h : r.all purel = true) : RowsOk m r r
 | nil : RowsOk m [] []
 | cons {a b : List C} {r s : List (List C)} (h : mtl m a b) (hc : b.all C.cell = true) (hr : RowsOk m r s) : RowsOk m (a :: r) (b :: s)

theorem RowsOk.get {m : Nat → Nat → Prop} {r s : List (List C)} (h : RowsOk m r s) : s.length = r.length ∧ ∀ (i : Nat) (a b : List C), r[i]? = some a → s[i]? = some b → mtl m a b ∧ (b = a ∨ b.all C.cell = true) := by
 induction h with
 | same h =>
  refine ⟨rfl, fun i a b ha hb => ?_⟩
  rw [ha] at hb
  cases hb
  rw [List.all_eq_true] at h
  exact ⟨mtl_pure m a (h a (List.mem_of_getElem? ha)), .inl rfl⟩
 | nil => exact ⟨rfl, by simp⟩
 | cons h hc _ ih =>
  refine ⟨by simp [ih.1], fun i a b ha hb => ?_⟩
  cases i with
  | zero => simp at ha hb; subst ha; subst hb; exact ⟨h, .inr hc⟩
  | succ i => simp at ha hb; exact ih.2 i a b ha hb

def SlotOk (m : Nat → Nat → Prop) : Slot → Slot → Prop
 | .gh, s => s = .gh
 | _, .dead => True
 | .live o, .live o' => o'.nl = o.nl ∧ o'.em = o.em ∧ o'.sz = o.sz ∧ RowsOk m o.rows o'.rows
 | _, _ => False

structure Shp (x : Ctx) (σ : Nat → Slot) (T : List (Nat × Nat × Slot)) : Prop where
 n1 : (T.map (·.1)).Nodup
 n2 : (T.map (·.2.1)).Nodup
 ok : ∀ p ∈ T, SlotOk (mT T) (σ p.2.1) p.2.2
 hx : ∀ k, x.σ k ≠ .free → (x.σ k ≠ .gh ∨ ∃ p ∈ x.lp, p.2.2.1 = k) → mT T k k

structure ShpG (x : Ctx) (σ τ : Nat → Slot) (m : Nat → Nat → Prop) (old : Nat → Nat) : Prop where
 old : ∀ a b, m a b → old a = b
 inj : ∀ a b k, m a k → m b k → a = b
 ok : ∀ a b, m a b → SlotOk m (σ b) (τ a)
 fr : ∀ a, τ a ≠ .free → ∃ b, m a b
 hx : ∀ k, x.σ k ≠ .free → (x.σ k ≠ .gh ∨ ∃ p ∈ x.lp, p.2.2.1 = k) → m k k

theorem stoT_mem : ∀ {T : List (Nat × Nat × Slot)}, (T.map (·.1)).Nodup → ∀ {p}, p ∈ T → stoT T p.1 = p.2.2
 | [], _, p, h => by simp at h
 | q :: T, hn, p, h => by
  simp only [List.map_cons, List.nodup_cons] at hn
  simp only [List.mem_cons] at h
  rcases h with rfl | h
  ·simp [stoT]
  ·have : p.1 ≠ q.1 := fun e => hn.1 (e ▸ List.mem_map.2 ⟨p, h, rfl⟩)
   simp only [stoT]
   rw [upd_ne _ _ this, stoT_mem hn.2 h]

theorem stoT_some : ∀ {T : List (Nat × Nat × Slot)} {k : Nat}, stoT T k ≠ .free → ∃ p ∈ T, p.1 = k ∧ stoT T k = p.2.2
 | [], k, h => by simp [stoT, freeS] at h
 | q :: T, k, h => by
  by_cases hk : k = q.1
  ·exact ⟨q, by simp, hk.symm, by simp [stoT, hk]⟩
  ·simp only [stoT] at h ⊢
   rw [upd_ne _ _ hk] at h ⊢
   obtain ⟨p, h1, h2, h3⟩ := stoT_some h
   exact ⟨p, by simp [h1], h2, h3⟩

def oldT (T : List (Nat × Nat × Slot)) (k : Nat) : Nat := ((T.find? fun p => p.1 == k).map fun p => p.2.1).getD 0

theorem oldT_mem : ∀ {T : List (Nat × Nat × Slot)}, (T.map (·.1)).Nodup → ∀ {p}, p ∈ T → oldT T p.1 = p.2.1
 | [], _, p, h => by simp at h
 | q :: T, hn, p, h => by
  simp only [List.map_cons, List.nodup_cons] at hn
  simp only [List.mem_cons] at h
  rcases h with rfl | h
  ·simp [oldT]
  ·have : ¬ (q.1 == p.1) = true := fun e => hn.1 ((by simpa using e : q.1 = p.1) ▸ List.mem_map.2 ⟨p, h, rfl⟩)
   have := oldT_mem hn.2 h
   unfold oldT at this ⊢
   rw [List.find?_cons_of_neg ‹_›, this]

theorem mem_mT {T : List (Nat × Nat × Slot)} {k' k : Nat} : mT T k' k ↔ ∃ s, (k', k, s) ∈ T := by
 simp only [mT, List.mem_map, Prod.mk.injEq]
 constructor
 ·rintro ⟨⟨a, b, s⟩, h1, rfl, rfl⟩; exact ⟨s, h1⟩
 ·rintro ⟨s, h⟩; exact ⟨_, h, rfl, rfl⟩

theorem nodup_snd : ∀ {T : List (Nat × Nat × Slot)}, (T.map (·.2.1)).Nodup → ∀ {p q}, p ∈ T → q ∈ T → p.2.1 = q.2.1 → p = q
 | [], _, p, q, h, _, _ => by simp at h
 | r :: T, hn, p, q, h1, h2, he => by
  simp only [List.map_cons, List.nodup_cons] at hn
  simp only [List.mem_cons] at h1 h2
  rcases h1 with rfl | h1 <;> rcases h2 with rfl | h2
  ·rfl
  ·exact absurd (List.mem_map.2 ⟨q, h2, he.symm⟩) hn.1
  ·exact absurd (List.mem_map.2 ⟨p, h1, he⟩) hn.1
  ·exact nodup_snd hn.2 h1 h2 he

section
variable {P : Program} {x : Ctx} {ρ : Nat → Nat} {σ : Nat → Slot} {w : World}

theorem ShpG.owned {τ : Nat → Slot} {m : Nat → Nat → Prop} {old : Nat → Nat} (h : ShpG x σ τ m old) {b : Nat} (hb : Owned (fun k => ρ (old k)) τ b) : Owned ρ σ b := by
 obtain ⟨k, o, h1, h2, h3⟩ := hb
 obtain ⟨q, hq⟩ := h.fr k (by rw [h1]; simp)
 simp only [h.old _ _ hq] at h3
 have := h.ok _ _ hq
 rw [h1] at this
 cases e1 : σ q with
 | live o1 =>
  rw [e1] at this
  simp only [SlotOk] at this
  exact ⟨_, _, e1, this.1 ▸ h2, h3⟩
 | _ => rw [e1] at this; simp [SlotOk] at this

theorem ShpG.mt_sound {τ : Nat → Slot} {m : Nat → Nat → Prop} {old : Nat → Nat} (h : ShpG x σ τ m old) {c : C} {v : Value} (hr : CR (x.Gd ρ σ) ρ σ w c v) :
  ∀ {c' : C}, mtc m c c' → CR (x.Gd (fun k => ρ (old k)) τ) (fun k => ρ (old k)) τ w c' v := by
 have gd : ∀ b, x.Gd ρ σ b → x.Gd (fun k => ρ (old k)) τ b := fun b hb => ⟨hb.1, fun ho => hb.2 (h.owned ho)⟩
 have pure : ∀ {c : C} {v : Value}, PR (x.Gd ρ σ) w c v → CR (x.Gd (fun k => ρ (old k)) τ) (fun k => ρ (old k)) τ w c v := fun p => .pure (p.mono fun b hb hlt => ⟨gd b hb, hlt, rfl⟩)
 have key : ∀ {k' k : Nat}, m k' k → old k' = k ∧ SlotOk m (σ k) (τ k') := fun hm => ⟨h.old _ _ hm, h.ok _ _ hm⟩
 induction hr with
 | any v => intro c' hm; cases c' <;> first | exact .any _ | (simp [mtc, C.isPure] at hm; done)
 | @pure c v hp =>
  intro c' hm
  clear key
  revert c'
  induction hp with
  | fn h1 h2 g1 g2 i1 i2 =>
   intro c' hm
   cases c' with
   | any => exact .any _
   | fn f' a' b' =>
    obtain ⟨rfl, m1, m2⟩ := hm
    obtain ⟨l1, q1⟩ := mtl_get m1
    obtain ⟨l2, q2⟩ := mtl_get m2
    refine .fn (h1.trans l1.symm) (h2.trans l2.symm) (fun i d hi => ?_) (fun i d hi => ?_)
    ·have : i < a'.length := (List.getElem?_eq_some_iff.1 hi).1
     exact i1 i _ (List.getElem?_eq_getElem (by omega)) (q1 i _ _ (List.getElem?_eq_getElem (by omega)) hi)
    ·have : i < b'.length := (List.getElem?_eq_some_iff.1 hi).1
     exact i2 i _ (List.getElem?_eq_getElem (by omega)) (q2 i _ _ (List.getElem?_eq_getElem (by omega)) hi)
   | _ => simp [mtc] at hm
  | agg h1 g1 i1 =>
   intro c' hm
   cases c' with
   | any => exact .any _
   | agg a' =>
    obtain ⟨l1, q1⟩ := mtl_get hm
    refine .agg (h1.trans l1.symm) (fun i d hi => ?_)
    have : i < a'.length := (List.getElem?_eq_some_iff.1 hi).1
    exact i1 i _ (List.getElem?_eq_getElem (by omega)) (q1 i _ _ (List.getElem?_eq_getElem (by omega)) hi)
   | _ => simp [mtc] at hm
  | tup h1 g1 i1 =>
   intro c' hm
   cases c' with
   | any => exact .any _
   | tup a' =>
    obtain ⟨l1, q1⟩ := mtl_get hm
    refine .tup (h1.trans l1.symm) (fun i d hi => ?_)
    have : i < a'.length := (List.getElem?_eq_some_iff.1 hi).1
    exact i1 i _ (List.getElem?_eq_getElem (by omega)) (q1 i _ _ (List.getElem?_eq_getElem (by omega)) hi)
   | _ => simp [mtc] at hm
  | sl cell hG hb hn hf hc hsz hcell hcl hr ih =>
   intro c' hm
   cases c' with
   | any => exact .any _
   | sl => simp only [mtc] at hm; rw [hm.1]; exact pure (.sl cell hG hb hn hf hc hsz hcell hcl hr)
   | _ => simp [mtc] at hm
  | ip cell hG hb ho hcell hcl hr ih =>
   intro c' hm
   cases c' with
   | any => exact .any _
   | ip => simp only [mtc] at hm; rw [hm.1]; exact pure (.ip cell hG hb ho hcell hcl hr)
   | _ => simp [mtc] at hm
  | int k n => intro c' hm; cases c' <;> simp only [mtc, reduceCtorEq, false_and] at hm <;> first | exact .any _ | (rw [hm.1]; exact .pure (.int ..))
  | bool b => intro c' hm; cases c' <;> simp only [mtc, reduceCtorEq, false_and] at hm <;> first | exact .any _ | (rw [hm.1]; exact .pure (.bool ..))
  | str s => intro c' hm; cases c' <;> simp only [mtc, reduceCtorEq, false_and] at hm <;> first | exact .any _ | (rw [hm.1]; exact .pure (.str ..))
  | pnil => intro c' hm; cases c' <;> simp only [mtc, reduceCtorEq, false_and] at hm <;> first | exact .any _ | exact .pure .pnil
  | fnil => intro c' hm; cases c' <;> simp only [mtc, reduceCtorEq, false_and] at hm <;> first | exact .any _ | exact .pure .fnil
  | mdnil => intro c' hm; cases c' <;> simp only [mtc, reduceCtorEq, false_and] at hm <;> first | exact .any _ | (rw [hm.1]; exact .pure .mdnil)
  | md cell hG hb hc hbo hn he hr ih =>
   intro c' hm
   cases c' with
   | any => exact .any _
   | md => simp only [mtc] at hm; rw [hm.1]; exact pure (.md cell hG hb hc hbo hn he hr)
   | _ => simp [mtc] at hm
  | val v => intro c' hm; cases c' <;> simp only [mtc, reduceCtorEq, false_and] at hm <;> first | exact .any _ | (rw [hm.1]; exact .pure (.val ..))
  | mpinN => intro c' hm; cases c' <;> simp only [mtc, reduceCtorEq, false_and] at hm <;> first | exact .any _ | (rw [hm.1]; exact .pure .mpinN)
  | mpin hG hb hc => intro c' hm; cases c' <;> simp only [mtc, reduceCtorEq, false_and] at hm <;> first | exact .any _ | (rw [hm.1]; exact pure (.mpin hG hb hc))
  | mdp hb h ih =>
   intro c' hm
   cases c' with
   | any => exact .any _
   | md => simp only [mtc] at hm; rw [hm.1]; exact pure (.mdp hb h)
   | _ => simp [mtc] at hm
  | slnil full => intro c' hm; cases c' <;> simp only [mtc, reduceCtorEq, false_and] at hm <;> first | exact .any _ | (rw [hm.1]; exact .pure (.slnil ..))
  | slemp full a => intro c' hm; cases c' <;> simp only [mtc, reduceCtorEq, false_and] at hm <;> first | exact .any _ | (rw [hm.1]; exact .pure (.slemp ..))
 | fn h1 h2 _ _ ih1 ih2 =>
  intro c' hm
  cases c' with
  | any => exact .any _
  | fn f' a' b' =>
   obtain ⟨rfl, m1, m2⟩ := hm
   obtain ⟨l1, q1⟩ := mtl_get m1
   obtain ⟨l2, q2⟩ := mtl_get m2
   refine .fn (h1.trans l1.symm) (h2.trans l2.symm) (fun i d hi => ?_) (fun i d hi => ?_)
   ·have : i < a'.length := (List.getElem?_eq_some_iff.1 hi).1
    exact ih1 i _ (List.getElem?_eq_getElem (by omega)) (q1 i _ _ (List.getElem?_eq_getElem (by omega)) hi)
   ·have : i < b'.length := (List.getElem?_eq_some_iff.1 hi).1
    exact ih2 i _ (List.getElem?_eq_getElem (by omega)) (q2 i _ _ (List.getElem?_eq_getElem (by omega)) hi)
  | _ => simp [mtc] at hm
 | agg h1 _ ih =>
  intro c' hm
  cases c' with
  | any => exact .any _
  | agg a' =>
   obtain ⟨l1, q1⟩ := mtl_get hm
   refine .agg (h1.trans l1.symm) (fun i d hi => ?_)
   have : i < a'.length := (List.getElem?_eq_some_iff.1 hi).1
   exact ih i _ (List.getElem?_eq_getElem (by omega)) (q1 i _ _ (List.getElem?_eq_getElem (by omega)) hi)
  | _ => simp [mtc] at hm
 | tup h1 _ ih =>
  intro c' hm
  cases c' with
  | any => exact .any _
  | tup a' =>
   obtain ⟨l1, q1⟩ := mtl_get hm
   refine .tup (h1.trans l1.symm) (fun i d hi => ?_)
   have : i < a'.length := (List.getElem?_eq_some_iff.1 hi).1
   exact ih i _ (List.getElem?_eq_getElem (by omega)) (q1 i _ _ (List.getElem?_eq_getElem (by omega)) hi)
  | _ => simp [mtc] at hm
 | ownDead hd hv =>
  intro c' hm
  cases c' with
  | any => exact .any _
  | own k' sz' lo' n' =>
   obtain ⟨m1, rfl, rfl, rfl⟩ := hm
   obtain ⟨k1, k2⟩ := key m1
   rw [hd] at k2
   refine .ownDead ?_ hv
   cases hs : τ k' <;> simp [SlotOk, hs] at k2 ⊢
  | _ => simp [mtc] at hm
 | @ownNil k sz o a hl hn ha =>
  intro c' hm
  cases c' with
  | any => exact .any _
  | own k' sz' lo' n' =>
   obtain ⟨m1, rfl, rfl, rfl⟩ := hm
   obtain ⟨k1, k2⟩ := key m1
   rw [hl] at k2
   cases hs : τ k' with
   | free => simp [SlotOk, hs] at k2
   | gh => simp [SlotOk, hs] at k2
   | dead => exact .ownDead hs (.inr ⟨rfl, _, rfl⟩)
   | live o' =>
    simp only [SlotOk, hs] at k2
    exact .ownNil hs (k2.1.trans hn) (by rw [ha, k2.2.1])
  | _ => simp [mtc] at hm
 | @own k sz lo n cap f m o hl hn hs hz hc hf hmn hroom =>
  intro c' hm
  cases c' with
  | any => exact .any _
  | own k' sz' lo' n' =>
   obtain ⟨m1, rfl, rfl, rfl⟩ := hm
   obtain ⟨k1, k2⟩ := key m1
   rw [hl] at k2
   cases hs' : τ k' with
   | free => simp [SlotOk, hs'] at k2
   | gh => simp [SlotOk, hs'] at k2
   | dead => exact .ownDead hs' (.inl ⟨_, _, by rw [hmn], hc⟩)
   | live o' =>
    simp only [SlotOk, hs'] at k2
    have hk : ρ k = (fun k => ρ (old k)) k' := by simp [k1]
    rw [hk]
    refine .own hs' (k2.1.trans hn) (k2.2.2.1.trans hs) hz hc hf hmn fun cs el fz hcs => ?_
    simp only [k1] at hcs
    exact hroom cs el fz hcs
  | _ => simp [mtc] at hm
 | ptrDead hd hv =>
  intro c' hm
  cases c' with
  | any => exact .any _
  | ptr k' sz' lo' n' =>
   obtain ⟨m1, rfl, rfl, rfl⟩ := hm
   obtain ⟨k1, k2⟩ := key m1
   rw [hd] at k2
   refine .ptrDead ?_ hv
   cases hs : τ k' <;> simp [SlotOk, hs] at k2 ⊢
  | _ => simp [mtc] at hm
 | mpDead hd hv =>
  intro c' hm
  cases c' with
  | any => exact .any _
  | mp k' =>
   obtain ⟨k1, k2⟩ := key hm
   rw [hd] at k2
   refine .mpDead ?_ hv
   cases hs : τ k' <;> simp [SlotOk, hs] at k2 ⊢
  | _ => simp [mtc] at hm
 | @mp k o hl hn hs =>
  intro c' hm
  cases c' with
  | any => exact .any _
  | mp k' =>
   obtain ⟨k1, k2⟩ := key hm
   rw [hl] at k2
   cases hs' : τ k' with
   | free => simp [SlotOk, hs'] at k2
   | gh => simp [SlotOk, hs'] at k2
   | dead => exact .mpDead hs' ⟨_, rfl⟩
   | live o' =>
    simp only [SlotOk, hs'] at k2
    have hk : ρ k = (fun k => ρ (old k)) k' := by simp [k1]
    rw [hk]
    exact .mp hs' (k2.1.trans hn) (k2.2.2.1.trans hs)
  | _ => simp [mtc] at hm
 | @ptr k sz i j f o hl hn hs hz hf =>
  intro c' hm
  cases c' with
  | any => exact .any _
  | ptr k' sz' lo' n' =>
   obtain ⟨m1, rfl, rfl, rfl⟩ := hm
   obtain ⟨k1, k2⟩ := key m1
   rw [hl] at k2
   cases hs' : τ k' with
   | free => simp [SlotOk, hs'] at k2
   | gh => simp [SlotOk, hs'] at k2
   | dead => exact .ptrDead hs' ⟨_, rfl⟩
   | live o' =>
    simp only [SlotOk, hs'] at k2
    have hk : ρ k = (fun k => ρ (old k)) k' := by simp [k1]
    rw [hk]
    exact .ptr hs' (k2.1.trans hn) (k2.2.2.1.trans hs) hz hf
  | _ => simp [mtc] at hm

theorem ShpG.frm {τ : Nat → Slot} {m : Nat → Nat → Prop} {old : Nat → Nat} (h : ShpG x σ τ m old) (hf : Frm x ρ σ w) : Frm x (fun k => ρ (old k)) τ w := by
 have live : ∀ {k : Nat} {o : Ob}, τ k = .live o → ∃ o0, m k (old k) ∧ σ (old k) = .live o0 ∧ o.nl = o0.nl ∧ o.em = o0.em ∧ o.sz = o0.sz ∧ RowsOk m o0.rows o.rows := by
  intro k o hk
  obtain ⟨q, hq⟩ := h.fr k (by rw [hk]; simp)
  have h1 := h.old _ _ hq
  have h2 := h.ok _ _ hq
  rw [hk] at h2
  rw [h1]
  cases h3 : σ q with
  | live o0 => rw [h3] at h2; exact ⟨o0, hq, rfl, h2⟩
  | _ => simp [SlotOk, h3] at h2
 refine ⟨⟨fun k o hk hn => ?_, fun k o hk hn => ?_, fun k k' o o' hk hk' hn hn' he => ?_⟩, fun b hb => hf.own b (h.owned hb), hf.frame, ⟨hf.rcd.loop, fun p hp => ?_, hf.rcd.itr⟩, hf.size, hf.os, hf.tape, hf.output, ⟨fun b hb hlt => ?_, fun k hk => ?_, fun k o hk => ?_⟩⟩
 ·obtain ⟨o0, e1, e2, e3, e4, e5, e6⟩ := live hk
  obtain ⟨r1, r2⟩ := e6.get
  refine (hf.sto.ob _ _ e2 (e3 ▸ hn)).turn rfl e5 r1 (he := fun hb => by rw [← e4]; exact hb) fun i row row' hi hi' => ?_
  obtain ⟨r3, r4⟩ := r2 i _ _ hi hi'
  obtain ⟨r5, r6⟩ := mtl_get r3
  refine ⟨r5, fun j c c' hj hj' v hv => ⟨h.mt_sound hv (r6 j _ _ hj hj'), fun hc => ?_⟩⟩
  rcases r4 with rfl | r4
  ·rw [hj] at hj'; cases hj'; exact hc
  ·rw [List.all_eq_true] at r4; exact r4 c' (List.mem_of_getElem? hj')
 ·obtain ⟨o0, e1, e2, e3, e4, e5, e6⟩ := live hk
  have := e6.get.1
  rw [hf.sto.nil _ _ e2 (e3 ▸ hn)] at this
  exact List.eq_nil_of_length_eq_zero this
 ·obtain ⟨o0, e1, e2, e3, _⟩ := live hk
  obtain ⟨o1, f1, f2, f3, _⟩ := live hk'
  have := hf.sto.inj _ _ _ _ e2 f2 (e3 ▸ hn) (f3 ▸ hn') he
  rw [this] at e1
  exact h.inj _ _ _ e1 f1
 ·obtain ⟨h1, h2, h3⟩ := hf.rcd.rdy p hp
  have e2 := h.ok _ _ (h.hx _ h2 (.inr ⟨p, hp, rfl⟩))
  refine ⟨h1, h2, ?_⟩
  rcases h3 with ⟨g1, g2⟩ | ⟨g1, g2⟩
  ·rw [g1] at e2
   exact .inl ⟨by simpa [SlotOk] using e2, g2⟩
  ·rw [g1] at e2
   refine .inr ⟨?_, g2⟩
   cases hs : τ p.2.2.1 <;> simp [SlotOk, hs] at e2 ⊢
 ·obtain ⟨h1, h2, h3⟩ := hf.hist.pure b hb hlt
  exact ⟨⟨h1.1, fun ho => h1.2 (h.owned ho)⟩, h2, h3⟩
 ·have h1 := hf.hist.dead k hk
  have h2 := h.ok _ _ (h.hx k (by rw [hk]; simp) (.inl (by rw [hk]; simp)))
  rw [h1] at h2
  cases hs : τ k <;> simp [SlotOk, hs] at h2 ⊢
 ·have hm := h.hx k (by rw [hk]; simp) (.inl (by rw [hk]; simp))
  have h2 := h.ok _ _ hm
  have h4 := h.old _ _ hm
  rcases hf.hist.live k o hk with h1 | ⟨o1, h5, h6, h7, h8, h9⟩
  ·rw [h1] at h2
   cases hs : τ k <;> simp [SlotOk, hs] at h2 ⊢
  ·rw [h5] at h2
   cases hs : τ k with
   | dead => exact .inl rfl
   | free => simp [SlotOk, hs] at h2
   | gh => simp [SlotOk, hs] at h2
   | live o' =>
    rw [hs] at h2
    obtain ⟨q1, q2, q3, q4⟩ := h2
    refine .inr ⟨o', rfl, q1.trans h6, q2.trans h7, q3.trans h8, fun hn => ?_⟩
    simp only [h4]
    exact h9 hn

theorem Shp.gen {T : List (Nat × Nat × Slot)} (h : Shp x σ T) : ShpG x σ (stoT T) (mT T) (oldT T) := by
 refine ⟨fun a b hm => ?_, fun a b k ha hb => ?_, fun a b hm => ?_, fun a ha => ?_, h.hx⟩
 ·obtain ⟨s, hs⟩ := mem_mT.1 hm
  exact oldT_mem h.n1 hs
 ·obtain ⟨s, hs⟩ := mem_mT.1 ha
  obtain ⟨s', hs'⟩ := mem_mT.1 hb
  exact (Prod.mk.inj (nodup_snd h.n2 hs hs' rfl)).1
 ·obtain ⟨s, hs⟩ := mem_mT.1 hm
  have e2 := stoT_mem h.n1 hs
  have e3 := h.ok _ hs
  simp only at e2 e3
  rw [e2]
  exact e3
 ·obtain ⟨p, hp, rfl, hs⟩ := stoT_some ha
  exact ⟨p.2.1, mem_mT.2 ⟨p.2.2, hp⟩⟩

theorem ofL_mt {m : Nat → Nat → Prop} {env : Nat → C} : ∀ {E : List (Nat × C)}, (∀ p ∈ E, mtc m (env p.1) p.2) → ∀ t, mtc m (env t) (ofL E t)
 | [], _, t => by cases h : env t <;> simp [ofL, mtc]
 | p :: l, hE, t => by
  simp only [ofL]
  by_cases htp : t = p.1
  ·subst htp; rw [upd_same]; exact hE p (by simp)
  ·rw [upd_ne _ _ htp]; exact ofL_mt (fun q hq => hE q (by simp [hq])) t

theorem wk_shpG {s : AS} {E : List (Nat × C)} {τ : Nat → Slot} {m : Nat → Nat → Prop} {old : Nat → Nat} (h : ShpG x s.sto τ m old) (hE : ∀ p ∈ E, mtc m (s.env p.1) p.2) : Wk x s ⟨ofL E, τ⟩ :=
 fun ρ a w hs => ⟨fun k => ρ (old k), { h.frm hs.toFrm with nt := hs.nt, defers := hs.defers, inr := hs.inr, env := fun t ht => h.mt_sound (hs.env t ht) (ofL_mt hE t) }⟩

theorem wk_shape {s : AS} {E : List (Nat × C)} {T : List (Nat × Nat × Slot)} (h : Shp x s.sto T) (hE : ∀ p ∈ E, mtc (mT T) (s.env p.1) p.2) : Wk x s ⟨ofL E, stoT T⟩ := wk_shpG h.gen hE

end
end Go.Abs

/- Contracts of functions that work on objects that there are: the frame, and how such a contract comes from a body. No condition. -/
namespace Go.Abs

mutual
def C.wi (ks : List Nat) : C → Bool
 | .own k .. => ks.contains k
 | .ptr k .. => ks.contains k
 | .mp k => ks.contains k
 | .fn _ a b => wil ks a && wil ks b
 | .agg l | .tup l => wil ks l
 | _ => true
def wil (ks : List Nat) : List C → Bool
 | [] => true
 | c :: l => c.wi ks && wil ks l
end

theorem wil_get {ks : List Nat} : ∀ {l : List C} {i : Nat} {c : C}, wil ks l = true → l[i]? = some c → c.wi ks = true
 | [], _, _, _, h => by simp at h
 | c :: l, i, d, h, hi => by
  simp only [wil, Bool.and_eq_true] at h
  cases i with
  | zero => simp at hi; subst hi; exact h.1
  | succ i => simp at hi; exact wil_get h.2 hi

theorem CR.wi {G G' : Nat → Prop} {ρ ρ' : Nat → Nat} {σ σ' : Nat → Slot} {w : World} {ks : List Nat} (hG : ∀ b, G b → G' b) (hk : ∀ k ∈ ks, ρ' k = ρ k ∧ σ' k = σ k)
  {c : C} {v : Value} (h : CR G ρ σ w c v) (hw : c.wi ks = true) : CR G' ρ' σ' w c v := by
 induction h with
 | any v => exact .any v
 | pure p => exact .pure (p.mono fun b hb hlt => ⟨hG b hb, hlt, rfl⟩)
 | fn h1 h2 _ _ ih1 ih2 =>
  simp only [C.wi, Bool.and_eq_true] at hw
  exact .fn h1 h2 (fun i c hi => ih1 i c hi (wil_get hw.1 hi)) (fun i c hi => ih2 i c hi (wil_get hw.2 hi))
 | agg h _ ih => simp only [C.wi] at hw; exact .agg h fun i c hi => ih i c hi (wil_get hw hi)
 | tup h _ ih => simp only [C.wi] at hw; exact .tup h fun i c hi => ih i c hi (wil_get hw hi)
 | ownDead h hv => exact .ownDead ((hk _ (by simpa [C.wi] using hw)).2 ▸ h) hv
 | ownNil h hn ha => exact .ownNil ((hk _ (by simpa [C.wi] using hw)).2 ▸ h) hn ha
 | own h hn hs hz hc hf hm hroom =>
  obtain ⟨k1, k2⟩ := hk _ (by simpa [C.wi] using hw)
  rw [← k1]
  exact .own (k2 ▸ h) hn hs hz hc hf hm (by rw [k1]; exact hroom)
 | ptrDead h hv => exact .ptrDead ((hk _ (by simpa [C.wi] using hw)).2 ▸ h) hv
 | mpDead h hv => exact .mpDead ((hk _ (by simpa [C.wi] using hw)).2 ▸ h) hv
 | mp h hn hs =>
  obtain ⟨k1, k2⟩ := hk _ (by simpa [C.wi] using hw)
  rw [← k1]
  exact .mp (k2 ▸ h) hn hs
 | ptr h hn hs hz hf =>
  obtain ⟨k1, k2⟩ := hk _ (by simpa [C.wi] using hw)
  rw [← k1]
  exact .ptr (k2 ▸ h) hn hs hz hf

abbrev stoO (l : List (Nat × Ob)) : Nat → Slot := updO freeS l
def keysO (l : List (Nat × Ob)) : List Nat := l.map (·.1)

theorem updO_out {σ : Nat → Slot} : ∀ {l : List (Nat × Ob)} {k : Nat}, k ∉ keysO l → updO σ l k = σ k
 | [], k, _ => rfl
 | p :: l, k, h => by
  simp only [keysO, List.map_cons, List.mem_cons, not_or] at h
  simp only [updO]
  rw [upd_ne _ _ h.1, updO_out h.2]

theorem updO_in {σ τ : Nat → Slot} : ∀ {l : List (Nat × Ob)} {k : Nat}, k ∈ keysO l → updO σ l k = updO τ l k ∧ ∃ o, updO σ l k = .live o ∧ (k, o) ∈ l
 | [], k, h => by simp [keysO] at h
 | p :: l, k, h => by
  simp only [updO]
  by_cases hk : k = p.1
  ·subst hk; simp
  ·simp only [keysO, List.map_cons, List.mem_cons] at h
   rw [upd_ne _ _ hk, upd_ne _ _ hk]
   obtain ⟨h1, o, h2, h3⟩ := updO_in (σ := σ) (τ := τ) (h.resolve_left hk)
   exact ⟨h1, o, h2, by simp [h3]⟩

structure Eff (P : Program) (f : FuncId) (l0 : List (Nat × Ob)) (args : List C) (r : C) (l1 : List (Nat × Ob)) : Prop extends Callable P f where
 wa : wil (keysO l0) args = true
 w0 : ∀ p ∈ l0, p.2.rows.all (wil (keysO l0)) = true
 calls : ∀ (x : Ctx) (vs : Array Value), x.σ = stoO l0 → GkO P x.ρ x.σ x.w → Frm x x.ρ x.σ x.w → CL (x.Gd x.ρ x.σ) x.ρ x.σ x.w args vs → Calls P f vs x.w fun e w' =>
  ∃ v ρ', e = .returned v ∧ Frm x ρ' (stoO l1) w' ∧ CR (x.Gd ρ' (stoO l1)) ρ' (stoO l1) w' r v

theorem wil_all {ks : List Nat} {r : List (List C)} (h : r.all (wil ks) = true) {i : Nat} {row : List C} (hi : r[i]? = some row) {j : Nat} {c : C} (hj : row[j]? = some c) : c.wi ks = true := by
 rw [List.all_eq_true] at h
 exact wil_get (h row (List.mem_of_getElem? hi)) hj

abbrev subX (x : Ctx) (ρ : Nat → Nat) (σ : Nat → Slot) (w : World) (l0 : List (Nat × Ob)) (ex : List Nat) (lp : List (Nat × Obj × Nat × Obj)) : Ctx := { G := x.Gd ρ σ, ρ := ρ, σ := stoO l0, w := w, nt := 0, ex := ex, lp := lp }

theorem frm_sub {x : Ctx} {ρ : Nat → Nat} {σ : Nat → Slot} {w : World} {l0 : List (Nat × Ob)} {ex : List Nat} {lp : List (Nat × Obj × Nat × Obj)} (hr : RecOk (subX x ρ σ w l0 ex lp) (stoO l0) w) (hf : Frm x ρ σ w) (hw0 : ∀ p ∈ l0, p.2.rows.all (wil (keysO l0)) = true) (h0 : ∀ k ∈ keysO l0, σ k = stoO l0 k) :
  Frm (subX x ρ σ w l0 ex lp) ρ (stoO l0) w ∧ ∀ c v, c.wi (keysO l0) = true → CR (x.Gd ρ σ) ρ σ w c v → CR ((subX x ρ σ w l0 ex lp).Gd ρ (stoO l0)) ρ (stoO l0) w c v := by
 have s0 : ∀ {k : Nat} {o : Ob}, stoO l0 k = .live o → k ∈ keysO l0 ∧ σ k = .live o ∧ (k, o) ∈ l0 := by
  intro k o hk
  by_cases hm : k ∈ keysO l0
  ·obtain ⟨_, o', e1, e2⟩ := updO_in (σ := freeS) (τ := freeS) hm
   have : o' = o := by rw [show stoO l0 k = _ from e1] at hk; cases hk; rfl
   subst this
   exact ⟨hm, by rw [h0 k hm]; exact hk, e2⟩
  ·rw [stoO, updO_out hm] at hk; cases hk
 have own0 : ∀ {b : Nat}, Owned ρ (stoO l0) b → Owned ρ σ b := by
  rintro b ⟨k, o, e1, e2, e3⟩
  exact ⟨k, o, (s0 e1).2.1, e2, e3⟩
 have f0 : Frm (subX x ρ σ w l0 ex lp) ρ (stoO l0) w := by
  refine ⟨⟨fun k o hk hn => ?_, fun k o hk hn => hf.sto.nil k o (s0 hk).2.1 hn, fun k k' o o' hk hk' hn hn' he => hf.sto.inj k k' o o' (s0 hk).2.1 (s0 hk').2.1 hn hn' he⟩, fun b hb => .inl hb, fun b _ _ _ => rfl, hr, Nat.le_refl _, rfl, rfl, rfl, .refl ..⟩
  refine (hf.sto.ob k o (s0 hk).2.1 hn).turn rfl rfl rfl fun i row row' hi hi' => ?_
  rw [hi] at hi'
  cases hi'
  refine ⟨rfl, fun j c c' hj hj' v hv => ?_⟩
  rw [hj] at hj'
  cases hj'
  exact ⟨hv.wi (ks := keysO l0) (fun b hb => ⟨.inl hb, fun ho => hb.2 (own0 ho)⟩) (fun k hk => ⟨rfl, (h0 k hk).symm⟩) (wil_all (hw0 _ (s0 hk).2.2) hi hj), id⟩
 exact ⟨f0, fun c v hc hv => hv.wi (ks := keysO l0) (fun b hb => ⟨.inl hb, fun ho => hb.2 (own0 ho)⟩) (fun k hk => ⟨rfl, (h0 k hk).symm⟩) hc⟩

theorem frm_lift {x : Ctx} {ρ ρ1 : Nat → Nat} {σ : Nat → Slot} {w w' : World} {l0 l1 : List (Nat × Ob)} {ex : List Nat} {lp : List (Nat × Obj × Nat × Obj)} (hex : ∀ b ∈ ex, b ∈ x.ex) (hf : Frm x ρ σ w) (h0 : ∀ k ∈ keysO l0, σ k = stoO l0 k) (h1 : ∀ k ∈ keysO l1, k ∈ keysO l0 ∨ σ k = .free)
  (f1 : Frm (subX x ρ σ w l0 ex lp) ρ1 (stoO l1) w') (hrc : ∀ G' ρ', Keeps0 (x.Gd ρ σ) G' ρ ρ' σ (updO σ l1) w w' → RecOk x (updO σ l1) w') :
  ∃ ρ', Keeps (x.Gd ρ σ) (x.Gd ρ' (updO σ l1)) ρ ρ' σ (updO σ l1) w w' ∧ Frm x ρ' (updO σ l1) w' ∧
   ∀ c v, CR ((subX x ρ σ w l0 ex lp).Gd ρ1 (stoO l1)) ρ1 (stoO l1) w' c v → CR (x.Gd ρ' (updO σ l1)) ρ' (updO σ l1) w' c v := by
 have s0 : ∀ {k : Nat} {o : Ob}, stoO l0 k = .live o → k ∈ keysO l0 ∧ σ k = .live o ∧ (k, o) ∈ l0 := by
  intro k o hk
  by_cases hm : k ∈ keysO l0
  ·obtain ⟨_, o', e1, e2⟩ := updO_in (σ := freeS) (τ := freeS) hm
   have : o' = o := by rw [show stoO l0 k = _ from e1] at hk; cases hk; rfl
   subst this
   exact ⟨hm, by rw [h0 k hm]; exact hk, e2⟩
  ·rw [stoO, updO_out hm] at hk; cases hk
 have own0 : ∀ {b : Nat}, Owned ρ (stoO l0) b → Owned ρ σ b := by
  rintro b ⟨k, o, e1, e2, e3⟩
  exact ⟨k, o, (s0 e1).2.1, e2, e3⟩
 have live0 : ∀ k, stoO l0 k ≠ .dead := by
  intro k hk
  by_cases hm : k ∈ keysO l0
  ·obtain ⟨_, o', e1, _⟩ := updO_in (σ := freeS) (τ := freeS) hm
   rw [show stoO l0 k = _ from e1] at hk; cases hk
  ·rw [stoO, updO_out hm] at hk; cases hk
 have live1 : ∀ {k : Nat}, k ∈ keysO l1 → ∃ o, stoO l1 k = .live o := fun hm => by
  obtain ⟨_, o', e1, _⟩ := updO_in (σ := freeS) (τ := freeS) hm
  exact ⟨o', e1⟩
 have in1 : ∀ {k : Nat} {o : Ob}, stoO l1 k = .live o → k ∈ keysO l1 := by
  intro k o hk
  apply Classical.byContradiction
  intro hm
  rw [stoO, updO_out hm] at hk; cases hk
 generalize hρ' : (fun k => if k ∈ keysO l1 then ρ1 k else ρ k) = ρ'
 have hin : ∀ {k : Nat}, k ∈ keysO l1 → ρ' k = ρ1 k ∧ updO σ l1 k = stoO l1 k := fun hk => ⟨by rw [← hρ']; simp [hk], (updO_in hk).1⟩
 have hout : ∀ {k : Nat}, k ∉ keysO l1 → ρ' k = ρ k ∧ updO σ l1 k = σ k := fun hk => ⟨by rw [← hρ']; simp [hk], updO_out hk⟩
 have k01 : ∀ {k : Nat}, k ∈ keysO l0 → k ∈ keysO l1 := by
  intro k hk
  obtain ⟨_, o, e1, _⟩ := updO_in (σ := freeS) (τ := freeS) hk
  rcases f1.hist.live k o e1 with e2 | ⟨o', e2, _⟩
  ·apply Classical.byContradiction
   intro hm
   rw [stoO, updO_out hm] at e2; cases e2
  ·exact in1 e2
 -- a block that a framed object lies in
 have fr : ∀ {k : Nat} {o : Ob}, k ∉ keysO l1 → σ k = .live o → o.nl = false → ρ k < w.heap.size ∧ ¬ Owned ρ (stoO l0) (ρ k) := by
  intro k o hk ho hn
  refine ⟨(hf.sto.ob k o ho hn).lt, ?_⟩
  rintro ⟨q, oq, e1, e2, e3⟩
  have := hf.sto.inj q k oq o (s0 e1).2.1 ho e2 hn e3
  subst this
  exact hk (k01 (s0 e1).1)
 have own1 : ∀ {b : Nat}, Owned ρ' (updO σ l1) b → Owned ρ1 (stoO l1) b ∨ ∃ k o, k ∉ keysO l1 ∧ σ k = .live o ∧ o.nl = false ∧ ρ k = b := by
  rintro b ⟨k, o, e1, e2, e3⟩
  by_cases hk : k ∈ keysO l1
  ·rw [(hin hk).2] at e1
   rw [(hin hk).1] at e3
   exact .inl ⟨k, o, e1, e2, e3⟩
  ·rw [(hout hk).2] at e1
   rw [(hout hk).1] at e3
   exact .inr ⟨k, o, hk, e1, e2, e3⟩
 have same : ∀ b, b < w.heap.size → ¬ Owned ρ (stoO l0) b → Same w w' b := by
  intro b hlt hno
  by_cases he : b ∈ ex
  ·obtain ⟨r, hr⟩ := (hf.rcd.loop b (hex b he)).2
   obtain ⟨r', hr'⟩ := (f1.rcd.loop b he).2
   exact .inr ⟨_, _, hr, hr', rfl, rfl⟩
  ·exact .inl (f1.frame b hlt hno he)
 have cellsame : ∀ (k : Nat) (o : Ob), σ k = .live o → o.nl = false → ¬ Owned ρ (stoO l0) (ρ k) → w'.heap[ρ k]? = w.heap[ρ k]? := by
  intro k o hk hn hno
  refine f1.frame _ (hf.sto.ob k o hk hn).lt hno fun he => ?_
  obtain ⟨r, hr⟩ := (hf.rcd.loop _ (hex _ he)).2
  have := (hf.sto.ob k o hk hn).noOdd hr
  simp [oddO] at this
 have hK : Keeps (x.Gd ρ σ) (x.Gd ρ' (updO σ l1)) ρ ρ' σ (updO σ l1) w w' := by
  refine .of (fun D hD => (f1.frame D (Array.getElem?_eq_some_iff.1 hD).1 (fun ho => by obtain ⟨k, o, e1, e2, rfl⟩ := own0 ho; have := (hf.sto.ob k o e1 e2).noOdd hD; simp [oddO] at this)
   (fun he => by obtain ⟨r, hr⟩ := (hf.rcd.loop D (hex D he)).2; rw [hD] at hr; simp at hr)).trans hD) ⟨fun b hb hlt => ⟨⟨hb.1, fun ho => ?_⟩, Nat.lt_of_lt_of_le hlt f1.size, same b hlt fun ho => hb.2 (own0 ho)⟩, fun k hk => ?_, fun k o hk => ?_⟩
  ·rcases own1 ho with ho | ⟨k, o, _, e2, e3, e4⟩
   ·rcases f1.own b ho with ho | ho
    ·exact hb.2 (own0 ho)
    ·exact absurd hlt (Nat.not_lt.2 ho)
   ·exact hb.2 ⟨k, o, e2, e3, e4⟩
  ·by_cases hm : k ∈ keysO l1
   ·rcases h1 k hm with e | e
    ·rw [h0 k e] at hk; exact absurd hk (live0 k)
    ·rw [e] at hk; cases hk
   ·rw [(hout hm).2, hk]
  ·by_cases hm : k ∈ keysO l1
   ·rcases h1 k hm with e | e
    ·rw [h0 k e] at hk
     rw [(hin hm).2, (hin hm).1]
     exact f1.hist.live k o hk
    ·rw [e] at hk; cases hk
   ·refine .inr ⟨o, by rw [(hout hm).2, hk], rfl, rfl, rfl, fun hn => ⟨(hout hm).1, fun cs el fz hcs => ?_⟩⟩
    obtain ⟨e1, e2⟩ := fr hm hk hn
    rw [cellsame _ _ hk hn e2] at hcs
    exact ⟨_, _, _, hcs, Nat.le_refl _⟩
 have hK2 : Keeps ((subX x ρ σ w l0 ex lp).Gd ρ1 (stoO l1)) (x.Gd ρ' (updO σ l1)) ρ1 ρ' (stoO l1) (updO σ l1) w' w' := by
  refine .of (fun D hD => hD) ⟨fun b hb hlt => ⟨⟨?_, fun ho => ?_⟩, hlt, .inl rfl⟩, fun k hk => ?_, fun k o hk => .inr ⟨o, by rw [(hin (in1 hk)).2, hk], rfl, rfl, rfl, fun _ => ⟨(hin (in1 hk)).1, fun cs el fz hcs => ?_⟩⟩⟩
  ·rcases hb.1 with hb1 | hb1 | hb1
   ·exact hb1.1
   ·exact (hf.own b (own0 hb1)).elim (fun e => .inr (.inl e)) fun e => .inr (.inr e)
   ·exact .inr (.inr (Nat.le_trans hf.size hb1))
  ·rcases own1 ho with ho | ⟨k, o, e1, e2, e3, rfl⟩
   ·exact hb.2 ho
   ·obtain ⟨g1, g2⟩ := fr e1 e2 e3
    rcases hb.1 with hb1 | hb1 | hb1
    ·exact hb1.2 ⟨k, o, e2, e3, rfl⟩
    ·exact g2 hb1
    ·exact absurd g1 (Nat.not_lt.2 hb1)
  ·by_cases hm : k ∈ keysO l1
   ·obtain ⟨o, e⟩ := live1 hm
    rw [e] at hk; cases hk
   ·rw [stoO, updO_out hm] at hk; cases hk
  ·exact ⟨_, _, _, hcs, Nat.le_refl _⟩
 refine ⟨ρ', hK, ⟨⟨fun k o hk hn => ?_, fun k o hk hn => ?_, fun k k' o o' hk hk' hn hn' he => ?_⟩, fun b hb => ?_, fun b hlt hb hbx => ?_, hrc _ _ hK.toKeeps0, Nat.le_trans hf.size f1.size, f1.os.trans hf.os, f1.tape.trans hf.tape, f1.output.trans hf.output, hf.hist.trans hK.toKeeps0⟩, fun r v hv => hv.keeps hK2⟩
 ·by_cases hm : k ∈ keysO l1
  ·rw [(hin hm).2] at hk
   rw [(hin hm).1]
   exact (f1.sto.ob k o hk hn).keeps hK2.toKeeps0 rfl
  ·rw [(hout hm).2] at hk
   rw [(hout hm).1]
   obtain ⟨e1, e2⟩ := fr hm hk hn
   exact (hf.sto.ob k o hk hn).keeps hK.toKeeps0 (cellsame _ _ hk hn e2)
 ·by_cases hm : k ∈ keysO l1
  ·rw [(hin hm).2] at hk; exact f1.sto.nil k o hk hn
  ·rw [(hout hm).2] at hk; exact hf.sto.nil k o hk hn
 ·have mixed : ∀ {k k' : Nat} {o o' : Ob}, k ∈ keysO l1 → k' ∉ keysO l1 → stoO l1 k = .live o → σ k' = .live o' → o.nl = false → o'.nl = false → ρ1 k = ρ k' → False := by
   intro k k' o o' m1 m2 e1 e2 e3 e4 e5
   obtain ⟨g1, g2⟩ := fr m2 e2 e4
   rcases f1.own _ ⟨k, o, e1, e3, e5⟩ with g | g
   ·exact g2 g
   ·exact absurd g1 (Nat.not_lt.2 g)
  by_cases hm : k ∈ keysO l1 <;> by_cases hm' : k' ∈ keysO l1
  ·rw [(hin hm).2] at hk; rw [(hin hm').2] at hk'; rw [(hin hm).1, (hin hm').1] at he
   exact f1.sto.inj k k' o o' hk hk' hn hn' he
  ·rw [(hin hm).2] at hk; rw [(hout hm').2] at hk'; rw [(hin hm).1, (hout hm').1] at he
   exact (mixed hm hm' hk hk' hn hn' he).elim
  ·rw [(hout hm).2] at hk; rw [(hin hm').2] at hk'; rw [(hout hm).1, (hin hm').1] at he
   exact (mixed hm' hm hk' hk hn' hn he.symm).elim
  ·rw [(hout hm).2] at hk; rw [(hout hm').2] at hk'; rw [(hout hm).1, (hout hm').1] at he
   exact hf.sto.inj k k' o o' hk hk' hn hn' he
 ·rcases own1 hb with hb | ⟨k, o, _, e2, e3, e4⟩
  ·rcases f1.own b hb with hb | hb
   ·exact hf.own b (own0 hb)
   ·exact .inr (Nat.le_trans hf.size hb)
  ·exact hf.own b ⟨k, o, e2, e3, e4⟩
 ·have : ¬ Owned ρ (stoO l0) b := fun ho => (hf.own b (own0 ho)).elim hb fun e => absurd hlt (Nat.not_lt.2 e)
  exact (f1.frame b (Nat.lt_of_lt_of_le hlt hf.size) this fun he => hbx (hex b he)).trans (hf.frame b hlt hb hbx)


theorem Eff.does {P : Program} {f : FuncId} {l0 l1 : List (Nat × Ob)} {args : List C} {r : C} (h : Eff P f l0 args r l1) {σ : Nat → Slot} (h0 : ∀ k ∈ keysO l0, σ k = stoO l0 k) (h1 : ∀ k ∈ keysO l1, k ∈ keysO l0 ∨ σ k = .free) :
  Does P f σ args r (updO σ l1) := by
 refine { h.toCallable with calls := fun x ρ w vs hgk hf hc => ?_ }
 obtain ⟨f0, hc0⟩ := frm_sub (ex := []) (lp := []) ⟨by simp, by simp, by simp⟩ hf h.w0 h0
 have hgo : GkO P ρ (stoO l0) w := hgk.less fun b ⟨k, o, e1, e2, e3⟩ => by
  by_cases hm : k ∈ keysO l0
  ·exact ⟨k, o, (h0 k hm).trans e1, e2, e3⟩
  ·rw [stoO, updO_out hm] at e1; cases e1
 refine (h.calls (subX x ρ σ w l0 [] []) vs rfl hgo f0 ⟨hc.1, fun i c hi => hc0 _ _ (wil_get h.wa hi) (hc.2 i c hi)⟩).mono ?_
 rintro e w' ⟨v, ρ1, rfl, f1, hv⟩
 obtain ⟨ρ', hK, hF, hcr⟩ := frm_lift (by simp) hf h0 h1 f1 fun G' ρ' hk => hf.rcd.keep hk (fun k hg => by
  by_cases hm : k ∈ keysO l1
  ·rcases h1 k hm with e | e
   ·obtain ⟨_, o, e1, _⟩ := updO_in (σ := freeS) (τ := freeS) e
    rw [h0 k e, show stoO l0 k = _ from e1] at hg; cases hg
   ·rw [e] at hg; cases hg
  ·rw [updO_out hm]; exact hg) fun b r hr hb => (f1.frame b (Array.getElem?_eq_some_iff.1 hb).1 (fun ho => by
  obtain ⟨k, o, e1, e2, rfl⟩ := ho
  have h1 := (f0.sto.ob k o e1 e2).noOdd hb; rw [recO_odd hr] at h1; cases h1) (by simp)).trans hb
 exact ⟨v, ρ', rfl, hK, hF, hcr _ _ hv⟩

section
variable {P : Program}

theorem sim_enterX {x : Ctx} {args : List C} {vs : Array Value} {nt : Nat} (hf : Frm x x.ρ x.σ x.w) (h : CL (x.Gd x.ρ x.σ) x.ρ x.σ x.w args vs) (hn : args.length ≤ nt) (hx : x.nt = nt) (hrn : x.rnd = none) :
  Sim x x.ρ ⟨envOf args, x.σ⟩ ⟨vs ++ Array.replicate (nt - vs.size) undef, []⟩ x.w := by
 have hvs := h.1
 refine { hf with nt := by simp; omega, defers := ⟨[], rfl, by simp, by simp⟩, inr := (fun _ h => by rw [hrn] at h; cases h), env := fun t ht => ?_ }
 by_cases hta : t < args.length
 ·have h1 := h.2 t args[t] (List.getElem?_eq_getElem hta)
  simp only [envOf, List.getD_eq_getElem?_getD, List.getElem?_eq_getElem hta, Option.getD_some]
  simp only [Array.getD_eq_getD_getElem?] at h1 ⊢
  rw [Array.getElem?_append_left (by omega)]
  exact h1
 ·simp only [envOf, List.getD_eq_getElem?_getD, List.getElem?_eq_none (Nat.le_of_not_lt hta), Option.getD_none]
  exact .any _

abbrev Ctx.body (x : Ctx) (n : Nat) : Ctx := { x with nt := n, rnd := Option.none, Y := fun _ _ _ _ _ => False }

theorem Frm.reNt {x : Ctx} {ρ : Nat → Nat} {σ : Nat → Slot} {w : World} {n : Nat} (h : Frm x ρ σ w) : Frm (x.body n) ρ σ w :=
 ⟨h.sto, h.own, h.frame, ⟨h.rcd.loop, h.rcd.rdy, h.rcd.itr⟩, h.size, h.os, h.tape, h.output, h.hist⟩
theorem Frm.unNt {x : Ctx} {ρ : Nat → Nat} {σ : Nat → Slot} {w : World} {n : Nat} (h : Frm (x.body n) ρ σ w) : Frm x ρ σ w :=
 ⟨h.sto, h.own, h.frame, ⟨h.rcd.loop, h.rcd.rdy, h.rcd.itr⟩, h.size, h.os, h.tape, h.output, h.hist⟩

theorem eff_of_body {f : FuncId} {fn : Func} {c : Code} {args : List C} {r : C} {l0 l1 : List (Nat × Ob)} (res : List ResultVar) (hf : FnIs P f fn c) (hlen : Nat.ble args.length fn.ntmps = true) (hrs : fn.results.toList = res) (hres : resNt fn.ntmps res = true)
  (wa : wil (keysO l0) args = true) (w0 : ∀ p ∈ l0, p.2.rows.all (wil (keysO l0)) = true)
  (h : ∀ x : Ctx, x.nt = fn.ntmps → x.σ = stoO l0 → AWP P x c ⟨envOf args, stoO l0⟩ fun e s => (e = .normal ∨ e = .ret) ∧ ∃ d T, retC P s res = some d ∧ Shp x s.sto T ∧ mtc (mT T) d r ∧ stoT T = stoO l1) : Eff P f l0 args r l1 := by
 refine { hf.callable with wa := wa, w0 := w0, calls := fun x vs hx0 hgk hfrm hc => ?_ }
 subst hrs
 refine calls_of_awp hf.func hf.body ?_
 have hsim := sim_enterX (x := x.body fn.ntmps) (nt := fn.ntmps) hfrm.reNt hc (Nat.le_of_ble_eq_true hlen) rfl rfl
 have hA := h (x.body fn.ntmps) rfl hx0 (.none hgk rfl) x.ρ _ x.w (by rw [← hx0]; exact hsim)
 refine wpIn_mono hA ?_
 rintro e a w1 ⟨ρ, s, hs1, he, d, T, hd, hT, hm, hl⟩
 refine ⟨he, leave_sim hs1 fun w' hs => ?_⟩
 obtain ⟨v, h1, h2⟩ := retC_sound (P := P) hs hres hd
 have f1 := hT.gen.frm hs.toFrm
 have f2 := hT.gen.mt_sound h2 hm
 rw [hl] at f1 f2
 exact ⟨v, h1, v, _, rfl, f1.unNt, f2⟩

theorem pure_of {f : FuncId} {fn : Func} {c : Code} {args : List C} {r : C} (res : List ResultVar) (hf : FnIs P f fn c) (hlen : Nat.ble args.length fn.ntmps = true) (hrs : fn.results.toList = res) (hres : resNt fn.ntmps res = true)
  (h : ∀ x : Ctx, x.nt = fn.ntmps → x.σ = freeS → AWP P x c ⟨envOf args, freeS⟩ fun e s => (e = .normal ∨ e = .ret) ∧ ∃ d, retC P s res = some d ∧ viewC s.sto 6 d = some r) : Pure P f args r := by
 subst hrs
 refine { hf.callable with calls := fun G w vs hgk hpl => ?_ }
 refine calls_of_awp hf.func hf.body ?_
 refine wpIn_mono (h { G := G, ρ := fun _ => 0, σ := freeS, w := w, nt := fn.ntmps } rfl rfl (.none hgk.free rfl) _ _ _ (sim_enter hpl (Nat.le_of_ble_eq_true hlen))) ?_
 rintro e a w1 ⟨ρ, s, hs1, he, d, hd, hv⟩
 refine ⟨he, leave_sim hs1 fun w' hs => ?_⟩
 have hown0 : ∀ b, ¬ Owned (fun _ => 0) (fun _ => Slot.free) b := by rintro b ⟨k, o, h1, _⟩; cases h1
 obtain ⟨v, h1, h2⟩ := retC_sound (P := P) hs hres hd
 have h3 := viewC_sound hs.sto hv h2
 refine ⟨v, h1, v, rfl, h3.mono fun b hb hlt => ⟨?_, hlt, rfl⟩, ⟨hs.os, hs.tape, hs.output, hs.size, fun b hb => hs.frame b hb (hown0 b) (by simp)⟩⟩
 rcases hb with hb | hb
 ·rcases hb.1 with hb1 | hb1 | hb1
  ·exact .inl hb1
  ·exact absurd hb1 (hown0 b)
  ·exact .inr hb1
 ·rcases hs.own b hb with hb1 | hb1
  ·exact absurd hb1 (hown0 b)
  ·exact .inr hb1

end
end Go.Abs

/- More rules for the simplifier. No condition. -/
namespace Go.Abs
section
variable {P : Program} {Y : YRel} {ops : Array Oper} {x : Ctx}

@[simp] theorem freeS_apply (k : Nat) : freeS k = .free := rfl
@[simp] theorem ofL_nil (t : Nat) : ofL [] t = .any := rfl
@[simp] theorem ofL_cons (p : Nat × C) (l : List (Nat × C)) (t : Nat) : ofL (p :: l) t = if t = p.1 then p.2 else ofL l t := rfl
@[simp] theorem stoT_nil (t : Nat) : stoT [] t = .free := rfl
@[simp] theorem stoT_cons (p : Nat × Nat × Slot) (l : List (Nat × Nat × Slot)) (t : Nat) : stoT (p :: l) t = if t = p.1 then p.2.2 else stoT l t := rfl
@[simp] theorem updO_nil (σ : Nat → Slot) (t : Nat) : updO σ [] t = σ t := rfl
@[simp] theorem updO_cons (σ : Nat → Slot) (p : Nat × Ob) (l : List (Nat × Ob)) (t : Nat) : updO σ (p :: l) t = if t = p.1 then .live p.2 else updO σ l t := rfl

theorem viewC_self {σ : Nat → Slot} {n : Nat} {c : C} (h : c.isPure = true) : viewC σ (n + 1) c = some c := by simp [viewC, h]
theorem viewL_self {σ : Nat → Slot} : ∀ {l : List C}, purel l = true → viewL σ l = some l
 | [], _ => rfl
 | c :: l, h => by
  simp only [purel, Bool.and_eq_true] at h
  have := viewL_self (σ := σ) h.2
  unfold viewL at this ⊢
  simp only [mapO, this, viewC_self h.1]

@[simp] theorem purel_append : ∀ (a b : List C), purel (a ++ b) = (purel a && purel b)
 | [], b => by simp [purel]
 | c :: a, b => by simp [purel, purel_append a b, Bool.and_assoc]

theorem callP {l : List Oper} {K : AS → Prop} {s : AS} {d : Option Nat} {f : FuncId} {args : List C} {r : C} (hp : Pure P f args r) (hv : purel args = true)
  (h : evalL P Y ops l ⟨putE s.env d r, s.sto⟩ K) : contC P Y ops l K s d f args := callL hp (viewL_self hv) (.inl hv) h
theorem callPD {na : List Nat} {m : Nat} {l : List (Nat × Oper)} {K : AS → Prop} {s : AS} {d : Option Nat} {f : FuncId} {args : List C} {r : C} (hp : Pure P f args r) (hv : purel args = true)
  (hm : m = 0 ∨ m = 1) (h : evalD P Y ops na l ⟨putE s.env d r, s.sto⟩ K) : contCD P Y ops na l K s d m f args := callD hp (viewL_self hv) (.inl hv) hm h

theorem all_purel_map {α : Type} {l : List α} {f : α → List C} (h : ∀ a, purel (f a) = true) : (l.map f).all purel = true := by
 simp [h]

theorem shp0 {σ : Nat → Slot} {T : List (Nat × Nat × Slot)} (hx : x.σ = freeS) (n1 : (T.map (·.1)).Nodup) (n2 : (T.map (·.2.1)).Nodup) (ok : ∀ p ∈ T, SlotOk (mT T) (σ p.2.1) p.2.2) : Shp x σ T :=
 ⟨n1, n2, ok, fun k hk _ => absurd (by rw [hx]; rfl) hk⟩
theorem shpX {σ : Nat → Slot} {T : List (Nat × Nat × Slot)} {l0 : List (Nat × Ob)} (hx : x.σ = stoO l0) (hk : ∀ k ∈ keysO l0, mT T k k) (n1 : (T.map (·.1)).Nodup) (n2 : (T.map (·.2.1)).Nodup) (ok : ∀ p ∈ T, SlotOk (mT T) (σ p.2.1) p.2.2) : Shp x σ T :=
 ⟨n1, n2, ok, fun k hk' _ => hk k (Classical.byContradiction fun hn => hk' (by rw [hx, stoO, updO_out hn]; rfl))⟩

theorem viewC_own {σ : Nat → Slot} {n k sz m : Nat} {o : Ob} (h : σ k = .live o) (hs : o.sz = sz) (hm : m = o.rows.length) (hp : o.rows.all purel = true) : viewC σ (n + 1) (.own k sz 0 m) = some (.sl (o.nl && !o.em) false o.rows) := by
 subst hm
 unfold viewC
 rw [if_neg (by simp [C.isPure])]
 simp only [h]
 rw [if_pos ⟨by omega, hs⟩]
 simp [hp]

theorem wk_nil {env : Nat → C} {σ : Nat → Slot} (t k sz : Nat) {fu : Bool} (he : env t = .sl true fu []) (hk : σ k = .free) : Wk x ⟨env, σ⟩ ⟨upd env t (.own k sz 0 0), upd σ k (.live ⟨true, false, sz, []⟩)⟩ := by
 intro ρ a w hs
 obtain ⟨h1, h2⟩ := hs.toFrm.nilNew (d := k) (ob := ⟨true, false, sz, []⟩) (kill := none) hk rfl rfl (by simp)
 have h3 := hs.change h1 h2
 refine ⟨ρ, { h2 with nt := hs.nt, defers := hs.defers, inr := hs.inr, env := fun q hq => ?_ }⟩
 by_cases hqt : q = t
 ·subst hqt
  have h4 := hs.env q hq
  simp only at h4
  rw [he] at h4
  obtain ⟨a1, c1, e1, e2, _, _⟩ := h4.slOf
  simp only [upd_same]
  have : a1 = none := by simpa using e2
  subst this
  have h5 := h4.isPure rfl
  rw [e1] at h5
  have : c1 = 0 := by cases h5; rfl
  subst this
  rw [e1]
  exact .ownNil (upd_same _ _ _) rfl (by simp)
 ·have h4 := h3.env q hq
  simp only [upd_ne _ _ hqt]
  exact h4

theorem rowsCons {m : Nat → Nat → Prop} {a b : List C} {r s : List (List C)} (h : mtl m a b ∧ b.all C.cell = true ∧ RowsOk m r s) : RowsOk m (a :: r) (b :: s) := .cons h.1 h.2.1 h.2.2
@[simp] theorem rowsOk_nil (m : Nat → Nat → Prop) : RowsOk m [] [] := .nil
@[simp] theorem mt_any (m : Nat → Nat → Prop) (c : C) : mtc m c .any := by cases c <;> simp [mtc]

end
end Go.Abs

/- Regions whose order is open, where the toolchain departs from the text: all three modes. No condition. -/
namespace Go.Abs

def topo (md : Region.Mode) (ops : Array Oper) : List Nat → Bool
 | [] => true
 | j :: l => (match ops[j]? with
  | some o => o.after.toList.all fun e => !Region.binds md e || (decide (e.on < ops.size) && !l.contains e.on && e.on != j)
  | none => false) && topo md ops l

def topoOk (md : Region.Mode) (ops : Array Oper) : Bool := topo md ops (Region.linearise md ops 0) && (List.range ops.size).all (Region.linearise md ops 0).contains

section
variable {P : Program} {Y : YRel} {ops : Array Oper} {x : Ctx}

theorem topo_ready {md : Region.Mode} : ∀ (l : List Nat), topo md ops l = true → ∀ (listed : Array Bool), (∀ i, i < ops.size → listed.getD i true = listed.getD i false) → (∀ i, i < ops.size → listed.getD i false = false → i ∈ l) →
  ∀ i ∈ l, listed.getD i false = false → Region.ready md ops listed ≠ []
 | [], _, _, _, _, i, hi, _ => by simp at hi
 | j :: l, ht, listed, hgd, hall, i, hi, hu => by
  simp only [topo, Bool.and_eq_true] at ht
  obtain ⟨h1, h2⟩ := ht
  split at h1
  ·rename_i o ho
   have hjlt : j < ops.size := (Array.getElem?_eq_some_iff.1 ho).1
   by_cases hj : listed.getD j false = false
   ·have : j ∈ Region.ready md ops listed := by
     rw [mem_ready]
     refine ⟨by rw [hgd j hjlt]; exact hj, o, ho, fun e he hb => ?_⟩
     rw [List.all_eq_true] at h1
     have h3 := h1 e (by simpa using he)
     simp only [hb, Bool.not_true, Bool.false_or, Bool.and_eq_true, decide_eq_true_eq, Bool.not_eq_true', bne_iff_ne, ne_eq] at h3
     obtain ⟨⟨g1, g2⟩, g3⟩ := h3
     cases hl : listed.getD e.on false with
     | true => rfl
     | false =>
      have := hall e.on g1 hl
      simp only [List.mem_cons] at this
      rcases this with h | h
      ·exact absurd h g3
      ·rw [List.contains_iff_mem.2 h] at g2; cases g2
    intro hn
    rw [hn] at this
    simp at this
   ·rcases List.mem_cons.1 hi with rfl | hi
    ·exact absurd hu hj
    ·refine topo_ready l h2 listed hgd (fun q hq hql => ?_) i hi hu
     rcases List.mem_cons.1 (hall q hq hql) with rfl | h
     ·exact absurd hql hj
     ·exact h
  ·simp at h1

variable {md md0 : Region.Mode}

theorem any_sound2 (hY : YOk P x) {T : List (List Nat)} {na : List Nat} {Q : Exit → Act → World → Prop} {K : AS → Prop} (hnt : ops.all (inNt x.nt) = true) (hT : AncOk md0 ops T)
  (hQ : ∀ ρ s a w, Sim x ρ s a w → K s → Q .normal a w) (hsub : ∀ e, Region.binds md0 e = true → Region.binds md e = true)
  (hgo : ∀ (listed : Array Bool) (i : Nat), i < ops.size → listed.getD i false = false → (∀ i, i < ops.size → listed.getD i true = listed.getD i false) → Region.ready md ops listed ≠ []) :
  ∀ (fuel : Nat) (listed : Array Bool) (l : List (Nat × Oper)) (ρ : Nat → Nat) (s : AS) (a : Act) (w : World), l.length ≤ fuel → listed.size = ops.size → Closed md0 ops listed →
   (∀ i, i < ops.size → (listed.getD i false = false ↔ ∃ o, (i, o) ∈ l)) → (∀ i o, (i, o) ∈ l → ops[i]? = some o) → okOrder md0 ops T na l = true →
   Sim x ρ s a w → evalR P x.Y ops na l s K → wpAnyIn (Fx x.rnd) 0 P md ops Q fuel listed a w := by
 intro fuel
 induction fuel with
 | zero =>
  intro listed l ρ s a w hlen hsz hcl hin hops hok hsim he
  have hl : l = [] := List.eq_nil_of_length_eq_zero (by omega)
  subst hl
  refine wpAnyIn_done ?_ (hQ ρ s a w hsim he) 0
  rw [List.eq_nil_iff_forall_not_mem]
  intro i hi
  obtain ⟨h0, o, ho, _⟩ := mem_ready.1 hi
  have hlt : i < ops.size := (Array.getElem?_eq_some_iff.1 ho).1
  have := (hin i hlt).1 (by
   rw [Array.getD_eq_getD_getElem?, Array.getElem?_eq_getElem (by omega)] at h0 ⊢
   exact h0)
  obtain ⟨o', ho'⟩ := this
  simp at ho'
 | succ fuel ih =>
  intro listed l ρ s a w hlen hsz hcl hin hops hok hsim he
  have hgd : ∀ i, i < ops.size → listed.getD i true = listed.getD i false := by
   intro i hi
   rw [Array.getD_eq_getD_getElem?, Array.getD_eq_getD_getElem?, Array.getElem?_eq_getElem (by omega)]; rfl
  refine ⟨fun hnil => ?_, fun i hi => ?_⟩
  ·cases l with
   | nil => exact hQ ρ s a w hsim he
   | cons p l =>
    obtain ⟨j, oj⟩ := p
    exfalso
    have hj := hops j oj (by simp)
    have hjlt : j < ops.size := (Array.getElem?_eq_some_iff.1 hj).1
    exact hgo listed j hjlt ((hin j hjlt).2 ⟨oj, by simp⟩) hgd hnil
  ·obtain ⟨h0, oi, hoi, hpre⟩ := mem_ready.1 hi
   have hilt : i < ops.size := (Array.getElem?_eq_some_iff.1 hoi).1
   have hun : listed.getD i false = false := by rw [← hgd i hilt]; exact h0
   obtain ⟨oi', hmem⟩ := (hin i hilt).1 hun
   have hoo : oi' = oi := by
    have := hops i oi' hmem
    rw [hoi] at this; cases this; rfl
   subst hoo
   have hfree : ∀ j oj, (j, oj) ∈ l → j ≠ i → (T.getD i []).contains j = false := by
    intro j oj hj _
    have hjo := hops j oj hj
    have hjlt : j < ops.size := (Array.getElem?_eq_some_iff.1 hjo).1
    cases hc : (T.getD i []).contains j with
    | false => rfl
    | true =>
     have h1 := anc_listed hT hcl (i + 1) i (by omega) (fun o ho e he hb => by
      rw [hoi] at ho; cases ho; exact hpre e he (hsub e hb)) j (by simpa using hc)
     have h2 := (hin j hjlt).2 ⟨oj, hj⟩
     rw [h1] at h2; simp at h2
   obtain ⟨c, σ', hex, he'⟩ := bubble hok hmem hfree he
   refine wpOpIn_mono ?_ (stepK_sound hY (K := fun s' => s' = ⟨putE s.env oi'.dst c, σ'⟩) hsim hoi hnt (hex.stepK rfl))
   rintro a' w' ⟨ρ', s', hsim', rfl⟩
   refine ih (listed.setIfInBounds i true) (l.filter fun p => p.1 != i) ρ' _ a' w' ?_ (by simpa using hsz) ?_ ?_ (fun q o hq => hops q o (List.mem_filter.1 hq).1) (okOrder_filter i hok) hsim' he'
   ·have : (l.filter fun p => p.1 != i).length < l.length := by
     rw [List.length_filter_lt_length_iff_exists]
     exact ⟨_, hmem, by simp⟩
    omega
   ·intro q o hq hlq e he hb
    by_cases hqi : q = i
    ·subst hqi
     rw [hoi] at hq; cases hq
     exact getD_set_true (hpre e he (hsub e hb))
    ·rw [getD_set_ne false (Ne.symm hqi)] at hlq
     exact getD_set_true (hcl q o hq hlq e he hb)
   ·intro q hq
    by_cases hqi : q = i
    ·subst hqi
     constructor
     ·intro h
      rw [Array.getD_eq_getD_getElem?, Array.getElem?_setIfInBounds_self_of_lt (by omega)] at h
      simp at h
     ·rintro ⟨o, ho⟩
      rw [List.mem_filter] at ho
      simp at ho
    ·rw [getD_set_ne false (Ne.symm hqi), hin q hq]
     constructor
     ·rintro ⟨o, ho⟩; exact ⟨o, List.mem_filter.2 ⟨ho, by simp [hqi]⟩⟩
     ·rintro ⟨o, ho⟩; exact ⟨o, (List.mem_filter.1 ho).1⟩


theorem binds_any {e : Edge} (h : Region.binds .any e = true) : Region.binds md e = true := by
 unfold Region.binds at *
 split at h
 ·cases h
 ·cases h
 ·rfl

theorem draw_md (hY : YOk P x) {s : AS} {Q : Exit → AS → Prop} {na l : List Nat} (hnt : ops.all (inNt x.nt) = true) (hok : okDraw .any ops na l = true) (hgo : topoOk md ops = true)
  (h : evalD P x.Y ops na (l.filterMap fun i => (ops[i]?).map fun o => (i, o)) s (Q .normal)) {ρ : Nat → Nat} {a : Act} {w : World} (hs : Sim x ρ s a w) (t : Nat) :
  wpOpsIn (Fx x.rnd) 0 P ops (QL x Q) (Region.linearise md ops t) a { w with drawn := w.drawn + 1 } := by
 simp only [okDraw, Bool.and_eq_true, List.all_eq_true] at hok
 obtain ⟨⟨hok1, hok2⟩, hok3⟩ := hok
 have hmem : ∀ i o, (i, o) ∈ l.filterMap (fun i => (ops[i]?).map fun o => (i, o)) → ops[i]? = some o := by
  intro i o hm
  rw [List.mem_filterMap] at hm
  obtain ⟨j, _, hj⟩ := hm
  simp only [Option.map_eq_some_iff, Prod.mk.injEq] at hj
  obtain ⟨o', h1, rfl, rfl⟩ := hj
  exact h1
 have hlen : (l.filterMap fun i => (ops[i]?).map fun o => (i, o)).length ≤ ops.size :=
  Nat.le_trans (List.length_filterMap_le _ _) (of_decide_eq_true hok3)
 simp only [topoOk, Bool.and_eq_true, List.all_eq_true] at hgo
 refine wpAnyIn_sound ops.size t _ a _ ?_
 refine any_sound2 hY (md0 := .any) (K := Q .normal) (T := ancT .any ops.toList []) (na := na) hnt (ancT_ok _ _ (fun q o hq => by simpa using hq) (fun i l hi => by simp at hi)) (fun ρ s a w h1 h2 => ⟨ρ, s, h1, h2⟩)
  (fun e he => binds_any he) (fun listed i hi hl hgd => topo_ready _ hgo.1 listed hgd (fun q hq _ => by simpa using hgo.2 q (by simpa using hq)) i (by simpa using hgo.2 i (by simpa using hi)) hl)
  ops.size _ _ ρ s a _ hlen (by simp) ?_ ?_ hmem hok1 hs.drew (evalR_of h)
 ·intro i o _ hl
  rw [listed_empty] at hl; simp at hl
 ·intro i hi
  refine ⟨fun _ => ?_, fun _ => listed_empty⟩
  have := hok2 i (by simpa using hi)
  refine ⟨ops[i], ?_⟩
  rw [List.mem_filterMap]
  exact ⟨i, by simpa using this, by simp [hi]⟩

theorem awp_drw3 {id : Nat} {l : List Oper} {s : AS} {Q : Exit → AS → Prop} (na p : List Nat) (hnt : l.toArray.all (inNt x.nt) = true) (hok : okDraw .any l.toArray na p = true) (ht : topoOk .text l.toArray = true) (hg : topoOk .gc l.toArray = true)
  (h : ∀ K : AS → Prop, (∀ s', Q .normal s' → K s') → evalD P x.Y l.toArray na (p.filterMap fun i => (l.toArray[i]?).map fun o => (i, o)) s K) :
  AWP P x (.region id l.toArray true) s Q := by
 intro hY ρ a w hs
 refine wpIn_region_draw fun t => ?_
 have h' := h (Q .normal) fun _ h => h
 have h0 : topoOk .any l.toArray = true ∨ True := .inr trivial
 unfold Region.schedule
 split
 ·simp only [okDraw, Bool.and_eq_true, List.all_eq_true] at hok
  obtain ⟨⟨hok1, hok2⟩, hok3⟩ := hok
  have hmem : ∀ i o, (i, o) ∈ p.filterMap (fun i => (l.toArray[i]?).map fun o => (i, o)) → l.toArray[i]? = some o := by
   intro i o hm
   rw [List.mem_filterMap] at hm
   obtain ⟨j, _, hj⟩ := hm
   simp only [Option.map_eq_some_iff, Prod.mk.injEq] at hj
   obtain ⟨o', h1, rfl, rfl⟩ := hj
   exact h1
  refine wpAnyIn_sound l.toArray.size t _ a _ ?_
  refine any_sound hY (K := Q .normal) (T := ancT .any l.toArray.toList []) (na := na) hnt (ancT_ok _ _ (fun q o hq => by simpa using hq) (fun i l hi => by simp at hi)) (fun ρ s a w h1 h2 => ⟨ρ, s, h1, h2⟩) l.toArray.size _ _ ρ s a _
   (Nat.le_trans (List.length_filterMap_le _ _) (of_decide_eq_true hok3)) (by simp) ?_ ?_ hmem hok1 hs.drew (evalR_of h')
  ·intro i o _ hl
   rw [listed_empty] at hl; simp at hl
  ·intro i hi
   refine ⟨fun _ => ?_, fun _ => listed_empty⟩
   have := hok2 i (by simpa using hi)
   refine ⟨l.toArray[i], ?_⟩
   rw [List.mem_filterMap]
   exact ⟨i, by simpa using this, by simp at hi; simp [hi]⟩
 ·split
  ·exact draw_md hY hnt hok ht h' hs _
  ·exact draw_md hY hnt hok hg h' hs _

end
end Go.Abs

/- Contracts of slices that are made, from a body; a nil slice in a cell. No condition. -/
namespace Go.Abs
section
variable {P : Program}

theorem fresh_of {f : FuncId} {fn : Func} {c : Code} {args : List C} {ob : Ob} (res : List ResultVar) (hf : FnIs P f fn c) (hlen : Nat.ble args.length fn.ntmps = true) (hrs : fn.results.toList = res) (hres : resNt fn.ntmps res = true)
  (h : ∀ x : Ctx, x.nt = fn.ntmps → x.σ = freeS → AWP P x c ⟨envOf args, freeS⟩ fun e s => (e = .normal ∨ e = .ret) ∧ ((∃ k, retC P s res = some (.own k ob.sz 0 ob.rows.length) ∧ s.sto k = .live ob ∧ ob.rows.all purel = true) ∨ (ob.nl = true ∧ ob.em = false ∧ ob.rows = [] ∧ ∃ fu, retC P s res = some (.sl true fu [])))) : Fresh P f args ob := by
 subst hrs
 refine { hf.callable with calls := fun G w vs hgk hpl => ?_ }
 refine calls_of_awp hf.func hf.body ?_
 refine wpIn_mono (h { G := G, ρ := fun _ => 0, σ := freeS, w := w, nt := fn.ntmps } rfl rfl (.none hgk.free rfl) _ _ _ (sim_enter hpl (Nat.le_of_ble_eq_true hlen))) ?_
 rintro e a w1 ⟨ρ, s, hs1, he, hcase⟩
 refine ⟨he, leave_sim hs1 fun w' hs => ?_⟩
 have hown0 : ∀ b, ¬ Owned (fun _ => 0) freeS b := by rintro b ⟨k, o, h1, _⟩; cases h1
 have hov : ∃ v, (results fn a.tmps).run P w' = .ok v w' ∧ OwnV (fun b => G b ∨ w.heap.size ≤ b) w' w.heap.size ob v := by
  rcases hcase with ⟨k, hd, hk, hp⟩ | ⟨q1, q2, q3, fu, hd⟩
  rotate_left
  ·obtain ⟨v, h1, h2⟩ := retC_sound (P := P) hs hres hd
   refine ⟨v, h1, ?_⟩
   obtain ⟨a1, c1, e1, e2, e3, _⟩ := h2.slOf
   have : a1 = none := by simpa using e2
   subst this
   have : c1 = 0 := (e3 rfl).2
   subst this
   rw [e1]
   exact .none q1 q3 (by simp [q2])
  obtain ⟨v, h1, h2⟩ := retC_sound (P := P) hs hres hd
  refine ⟨v, h1, ?_⟩
  obtain ⟨o', ho', hc⟩ := h2.ownOf (by simp [isLive, hk])
  rw [hk] at ho'
  cases ho'
  rcases hc with ⟨hn, _, hl, a1, ha, rfl⟩ | ⟨hn, hsz, cap, hcap, rfl, hroom⟩
  ·have hr : ob.rows = [] := List.eq_nil_of_length_eq_zero hl
   exact .none hn hr ha
  ·obtain ⟨⟨cs, el, g1, g2, g3⟩, g4, gB⟩ := (hs.sto.ob k ob hk hn).cs (h2.ownZ hk hn)
   have hb : w.heap.size ≤ ρ k := by
    rcases hs.own _ ⟨k, ob, hk, hn, rfl⟩ with hb | hb
    ·exact absurd hb (hown0 _)
    ·exact hb
   rw [Nat.zero_mul]
   refine .block hn hb g1 g4 hcap ?_ ?_ (gB _ _ _ g1)
   ·have := hroom cs el _ g1
    simpa using this
   ·intro i row hi
    obtain ⟨g5, g6⟩ := g3 i row hi
    refine ⟨g5, fun j c hj => ?_⟩
    obtain ⟨g7, g8⟩ := g6 j c hj
    rw [List.all_eq_true] at hp
    refine ⟨(g7.isPure (purel_get (hp row (List.mem_of_getElem? hi)) hj)).mono fun q hq hlt => ⟨⟨?_, ?_⟩, hlt, rfl⟩, g8⟩
    ·rcases hq.1 with hq1 | hq1 | hq1
     ·exact .inl hq1
     ·exact absurd hq1 (hown0 q)
     ·exact .inr hq1
    ·rintro rfl; exact hq.2 ⟨k, ob, hk, hn, rfl⟩
 obtain ⟨v, h1, hov⟩ := hov
 exact ⟨v, h1, v, rfl, hov, ⟨hs.os, hs.tape, hs.output, hs.size, fun b hb => hs.frame b hb (hown0 b) (by simp)⟩⟩

theorem wk_nilCell {x : Ctx} {env : Nat → C} {σ : Nat → Slot} (k r j d sz : Nat) {o : Ob} {row : List C} {fu : Bool} (hk : σ k = .live o) (hn : o.nl = false) (hrow : o.rows[r]? = some row) (hc : row[j]? = some (.sl true fu [])) (hd : σ d = .free) (hdk : d ≠ k) (hz : o.sz ≠ 0 := by simp) :
  Wk x ⟨env, σ⟩ ⟨env, upd (upd σ d (.live ⟨true, false, sz, []⟩)) k (.live { o with rows := o.rows.set r (row.set j (.own d sz 0 0)) })⟩ := by
 intro ρ a w hs
 obtain ⟨h1, h2⟩ := hs.toFrm.nilNew (d := d) (ob := ⟨true, false, sz, []⟩) (kill := none) hd rfl rfl (by simp)
 have h3 := hs.change h1 h2
 simp only [killS] at h1 h2 h3
 have hk1 : upd σ d (.live ⟨true, false, sz, []⟩) k = .live o := by rw [upd_ne _ _ (Ne.symm hdk)]; exact hk
 obtain ⟨⟨cs, el, g1, g2, g3⟩, g4⟩ := (h2.sto.ob k o hk1 hn).cs hz
 obtain ⟨hK, hF⟩ := h2.write (k := k) (d := k) (o := o) (ob := { o with rows := o.rows.set r (row.set j (.own d sz 0 0)) }) (w' := w) (cs' := cs) hk1 hn (.inl rfl) g1 (fun b _ => rfl) rfl g1 rfl rfl rfl rfl hn rfl rfl (by simpa using g2) (fun q row' hq => by
  simp only at hq ⊢
  by_cases hqr : r = q
  ·subst hqr
   have hrlt : r < o.rows.length := (List.getElem?_eq_some_iff.1 hrow).1
   rw [List.getElem?_set_self hrlt] at hq
   cases hq
   obtain ⟨g5, g6⟩ := g3 r row hrow
   refine ⟨by simpa using g5, fun p c hp => ?_⟩
   have hjlt : j < row.length := (List.getElem?_eq_some_iff.1 hc).1
   by_cases hpj : j = p
   ·subst hpj
    rw [List.getElem?_set_self hjlt] at hp
    cases hp
    obtain ⟨g7, g8⟩ := g6 j _ hc
    obtain ⟨a1, c1, e1, e2, e3, _⟩ := g7.slOf
    have : a1 = none := by simpa using e2
    subst this
    have : c1 = 0 := (e3 rfl).2
    subst this
    rw [e1]
    exact ⟨.ownNil (upd_same _ _ _) rfl (by simp), rfl⟩
   ·rw [List.getElem?_set_ne hpj] at hp
    exact g6 p c hp
  ·rw [List.getElem?_set_ne hqr] at hq
   exact g3 q row' hq)
 have h4 := h3.change hK hF
 have hρ : upd ρ k (ρ k) = ρ := by funext i; unfold upd; split <;> simp_all
 have hσ : ∀ (σ1 : Nat → Slot) (s1 s2 : Slot), upd (upd σ1 k s1) k s2 = upd σ1 k s2 := by
  intro σ1 s1 s2; funext i; unfold upd; split <;> rfl
 rw [hσ] at h4
 exact ⟨_, h4⟩

end
end Go.Abs

/- An object that is no longer written becomes data. No condition. -/
namespace Go.Abs

def FzC (k : Nat) (o : Ob) (c c' : C) : Prop :=
 c' = c ∨ (c = .own k o.sz 0 o.rows.length ∧ c' = .sl (o.nl && !o.em) false o.rows) ∨ (o.sz = 0 ∧ o.nl = false ∧ c = .mp k ∧ c' = .md false o.rows) ∨ (∃ i j row, o.nl = false ∧ o.rows[i]? = some row ∧ c = .ptr k o.sz i j ∧ c' = .ip row j)

section
variable {x : Ctx} {ρ : Nat → Nat} {σ : Nat → Slot} {w : World}

theorem Frm.freeze (h : Frm x ρ σ w) {k : Nat} {o : Ob} (hk : σ k = .live o) (hp : o.rows.all purel = true) :
  Keeps (x.Gd ρ σ) (x.Gd ρ (upd σ k .dead)) ρ ρ σ (upd σ k .dead) w w ∧ Frm x ρ (upd σ k .dead) w ∧
   ∀ c c' v, FzC k o c c' → CR (x.Gd ρ σ) ρ σ w c v → CR (x.Gd ρ (upd σ k .dead)) ρ (upd σ k .dead) w c' v := by
 have hown : ∀ b, Owned ρ (upd σ k .dead) b → Owned ρ σ b := by
  rintro b ⟨j, oj, h1, h2, h3⟩
  by_cases e : j = k
  ·subst e; simp at h1
  ·rw [upd_ne _ _ e] at h1; exact ⟨j, oj, h1, h2, h3⟩
 have hgd : ∀ b, x.Gd ρ σ b → x.Gd ρ (upd σ k .dead) b := fun b hb => ⟨hb.1, fun ho => hb.2 (hown b ho)⟩
 have hK : Keeps (x.Gd ρ σ) (x.Gd ρ (upd σ k .dead)) ρ ρ σ (upd σ k .dead) w w := by
  refine .of (fun D hD => hD) ⟨fun b hb hlt => ⟨hgd b hb, hlt, .inl rfl⟩, fun j hj => ?_, fun j oj hj => ?_⟩
  ·by_cases e : j = k
   ·subst e; simp
   ·rw [upd_ne _ _ e]; exact hj
  ·by_cases e : j = k
   ·subst e; exact .inl (by simp)
   ·exact .inr ⟨oj, by rw [upd_ne _ _ e]; exact hj, rfl, rfl, rfl, fun _ => ⟨rfl, fun _ _ _ hc => ⟨_, _, _, hc, Nat.le_refl _⟩⟩⟩
 have live : ∀ {j oj}, upd σ k .dead j = .live oj → j ≠ k ∧ σ j = .live oj := by
  intro j oj hj
  by_cases e : j = k
  ·subst e; simp at hj
  ·rw [upd_ne _ _ e] at hj; exact ⟨e, hj⟩
 have hF : Frm x ρ (upd σ k .dead) w := by
  refine ⟨⟨fun j oj hj hn => ?_, fun j oj hj hn => h.sto.nil j oj (live hj).2 hn, fun j j' oj oj' h1 h2 n1 n2 e => h.sto.inj j j' oj oj' (live h1).2 (live h2).2 n1 n2 e⟩,
   fun b hb => h.own b (hown b hb), h.frame, h.rcd.keep hK.toKeeps0 (fun j hj => by
    have e : j ≠ k := by rintro rfl; rw [hk] at hj; cases hj
    rw [upd_ne _ _ e]; exact hj) fun b r _ hb => hb, h.size, h.os, h.tape, h.output, h.hist.trans hK.toKeeps0⟩
  exact (h.sto.ob j oj (live hj).2 hn).keeps hK.toKeeps0 rfl
 refine ⟨hK, hF, fun c c' v hfz hr => ?_⟩
 have gdk : o.nl = false → x.Gd ρ (upd σ k .dead) (ρ k) := by
  intro hn
  refine ⟨?_, ?_⟩
  ·rcases h.own (ρ k) ⟨k, o, hk, hn, rfl⟩ with h1 | h1
   ·exact .inr (.inl h1)
   ·exact .inr (.inr h1)
  ·rintro ⟨j, oj, h1, h2, h3⟩
   exact (live h1).1 (h.sto.inj j k oj o (live h1).2 hk h2 hn h3)
 rw [List.all_eq_true] at hp
 have cellP : ∀ (cs : Array Value) (i : Nat) (row : List C), o.rows[i]? = some row → (∀ (j : Nat) (c : C), row[j]? = some c → CR (x.Gd ρ σ) ρ σ w c (cs.getD (i * o.sz + j) undef) ∧ c.cell = true) →
   ∀ (j : Nat) (c : C), row[j]? = some c → PR (x.Gd ρ (upd σ k .dead)) w c (cs.getD (i * o.sz + j) undef) := by
  intro cs i row hi hc j c hj
  have hpure : c.isPure = true := purel_get (hp row (List.mem_of_getElem? hi)) hj
  exact ((hc j c hj).1.isPure hpure).mono fun b hb hlt => ⟨hgd b hb, hlt, rfl⟩
 rcases hfz with rfl | ⟨rfl, rfl⟩ | ⟨hz, hn, rfl, rfl⟩ | ⟨i, j, row, hn, hrow, rfl, rfl⟩
 ·exact hr.keeps hK
 ·refine .pure ?_
  obtain ⟨o', ho', hcase⟩ := hr.ownOf (by simp [isLive, hk])
  rw [hk] at ho'
  cases ho'
  rcases hcase with ⟨hnl, _, hlen, a, ha, rfl⟩ | ⟨hnl, hsz, cap, hcap, rfl, hroom⟩
  ·have : o.rows = [] := List.eq_nil_of_length_eq_zero hlen
   rw [this, hnl]
   cases hem : o.em with
   | false =>
    rw [hem] at ha
    cases a with
    | none => exact .slnil _
    | some a => simp at ha
   | true =>
    rw [hem] at ha
    cases a with
    | none => simp at ha
    | some a => exact .slemp _ _
  ·rw [hnl]
   obtain ⟨⟨cs, el, g1, g2, g3⟩, _⟩ := (h.sto.ob k o hk hnl).cs (hr.ownZ hk hnl)
   refine .sl (sz := o.sz) (fun i j => cs.getD (i * o.sz + j) undef) (gdk hnl) (h.sto.ob k o hk hnl).lt rfl (by simp) hcap ?_ ?_ ?_ ?_
   ·intro i row hi; exact (g3 i row hi).1
   ·intro i row hi j c hj
    have hj1 : j < o.sz := by have := (List.getElem?_eq_some_iff.1 hj).1; rw [(g3 i row hi).1] at this; exact this
    have hlt : i * o.sz + j < cs.size := by
     have := in_rows (i := i) (r := o.rows.length) (List.getElem?_eq_some_iff.1 hi).1 hj1
     omega
    simp only [Nat.zero_mul, Nat.zero_add]
    simp [World.cell?, g1, hlt]
   ·intro i row hi j c hj; exact ((g3 i row hi).2 j c hj).2
   ·intro i row hi j c hj; exact cellP cs i row hi (g3 i row hi).2 j c hj
 ·refine .pure ?_
  cases hr with
  | pure p => cases p
  | mpDead hd hv => rw [hk] at hd; cases hd
  | mp hl hn' hz' =>
   obtain ⟨es, q, g1, gb, g2, g3⟩ := (h.sto.ob k o hk hn).ent hz
   refine .md (fun i j => if j = 0 then (es.getD i default).key else (es.getD i default).val) (gdk hn) (h.sto.ob k o hk hn).lt g1 gb g2 (fun i row hi => ?_) (fun i row hi j c hj => ?_)
   ·obtain ⟨e1, e, e2, e3⟩ := g3 i row hi
    exact ⟨e1, e, e2, by simp [e2], by simp [e2]⟩
   ·obtain ⟨e1, e, e2, e3⟩ := g3 i row hi
    have := (e3 j c hj).isPure (purel_get (hp row (List.mem_of_getElem? hi)) hj)
    simp only [Array.getD_eq_getD_getElem?, e2, Option.getD_some]
    exact this.mono fun b hb hlt => ⟨hgd b hb, hlt, rfl⟩
 ·refine .pure ?_
  have hzz := hr.ptrZ hk
  obtain ⟨o', ho', hnl, hsz, rfl⟩ := hr.ptrOf (by simp [isLive, hk])
  rw [hk] at ho'
  cases ho'
  obtain ⟨⟨cs, el, g1, g2, g3⟩, _⟩ := (h.sto.ob k o hk hn).cs hzz
  refine .ip (off := i * o.sz) (fun q => cs.getD (i * o.sz + q) undef) (gdk hn) (h.sto.ob k o hk hn).lt rfl ?_ ?_ ?_
  ·intro q c hq
   have hj1 : q < o.sz := by have := (List.getElem?_eq_some_iff.1 hq).1; rw [(g3 i row hrow).1] at this; exact this
   have hlt : i * o.sz + q < cs.size := by
    have := in_rows (i := i) (r := o.rows.length) (List.getElem?_eq_some_iff.1 hrow).1 hj1
    omega
   simp [World.cell?, g1, hlt]
  ·intro q c hq; exact ((g3 i row hrow).2 q c hq).2
  ·intro q c hq; exact cellP cs i row hrow (g3 i row hrow).2 q c hq

def keyO : Nat → List Ob → List (Nat × Ob)
 | _, [] => []
 | B, o :: l => (B, o) :: keyO (B + 1) l

theorem keyO_keys : ∀ (l : List Ob) (B k : Nat), k ∈ keysO (keyO B l) → B ≤ k ∧ k < B + l.length
 | [], B, k, h => by simp [keyO, keysO] at h
 | o :: l, B, k, h => by
  simp only [keyO, keysO, List.map_cons, List.mem_cons] at h
  rcases h with rfl | h
  ·simp
  ·have := keyO_keys l (B + 1) k h
   simp; omega

theorem updO_keyO (σ : Nat → Slot) : ∀ (l : List Ob) (B : Nat), updO σ (keyO B l) = updK σ B l
 | [], B => by
  funext z
  unfold updK
  rw [if_neg (by simp)]
  rfl
 | o :: l, B => by
  funext z
  simp only [keyO, updO, upd]
  by_cases hz : z = B
  ·subst hz
   rw [if_pos rfl]
   unfold updK
   rw [if_pos (by simp)]
   simp
  ·rw [if_neg hz, updO_keyO σ l (B + 1)]
   unfold updK
   by_cases h1 : B + 1 ≤ z ∧ z < B + 1 + l.length
   ·rw [if_pos h1, if_pos (by simp; omega)]
    rw [show z - B = (z - (B + 1)) + 1 by omega, List.getElem?_cons_succ]
   ·rw [if_neg h1, if_neg (by simp; omega)]

theorem Makes.of {P : Program} {f : FuncId} {args : List C} {obs : List Ob} {r : Nat → C} (h : ∀ B, Eff P f [] args (r B) (keyO B obs)) : Makes P f args obs r := by
 intro σ B hf
 have := (h B).does (σ := σ) (by simp [keysO]) (fun k hk => .inr (by have := keyO_keys _ _ _ hk; exact hf k this.1 this.2))
 rwa [updO_keyO] at this

theorem fz_own {k sz n : Nat} {o : Ob} {b : Bool} (h1 : sz = o.sz) (h2 : n = o.rows.length) (h3 : b = (o.nl && !o.em)) : FzC k o (.own k sz 0 n) (.sl b false o.rows) := by
 subst h1 h2 h3; exact .inr (.inl ⟨rfl, rfl⟩)
end
end Go.Abs

/- A call to which an object is given that becomes data. No condition. -/
namespace Go.Abs

inductive FzL (k : Nat) (o : Ob) : List C → List C → Prop
 | nil : FzL k o [] []
 | cons {c c' : C} {l l' : List C} (h : FzC k o c c') (t : FzL k o l l') : FzL k o (c :: l) (c' :: l')

theorem FzL.get {k : Nat} {o : Ob} {l l' : List C} (h : FzL k o l l') : l'.length = l.length ∧ ∀ (i : Nat) (c' : C), l'[i]? = some c' → ∃ c, l[i]? = some c ∧ FzC k o c c' := by
 induction h with
 | nil => exact ⟨rfl, fun i c' h => by simp at h⟩
 | cons h t ih =>
  refine ⟨by simp [ih.1], fun i c' hi => ?_⟩
  cases i with
  | zero => simp at hi; subst hi; exact ⟨_, rfl, h⟩
  | succ i => simp at hi ⊢; exact ih.2 i c' hi

end Go.Abs

/- Of a store, some of its objects alone; rounds of loops over functions. No condition. -/
namespace Go.Abs

def resS (ks : List Nat) (σ : Nat → Slot) : Nat → Slot := fun k => if k ∈ ks then σ k else .free
def ovS (ks : List Nat) (σ σ1 : Nat → Slot) : Nat → Slot := fun k => if k ∈ ks then σ1 k else σ k
theorem resS_in {ks : List Nat} {σ : Nat → Slot} {k : Nat} (h : k ∈ ks) : resS ks σ k = σ k := if_pos h
theorem resS_out {ks : List Nat} {σ : Nat → Slot} {k : Nat} (h : k ∉ ks) : resS ks σ k = .free := if_neg h
theorem ovS_in {ks : List Nat} {σ σ1 : Nat → Slot} {k : Nat} (h : k ∈ ks) : ovS ks σ σ1 k = σ1 k := if_pos h
theorem ovS_out {ks : List Nat} {σ σ1 : Nat → Slot} {k : Nat} (h : k ∉ ks) : ovS ks σ σ1 k = σ k := if_neg h

theorem resS_live {ks : List Nat} {σ : Nat → Slot} {k : Nat} {s : Slot} (h : resS ks σ k = s) (hs : s ≠ .free) : k ∈ ks ∧ σ k = s := by
 by_cases hm : k ∈ ks
 ·rw [resS_in hm] at h; exact ⟨hm, h⟩
 ·rw [resS_out hm] at h; exact absurd h.symm hs

abbrev subY (x : Ctx) (ρ : Nat → Nat) (σ : Nat → Slot) (w : World) (ks : List Nat) (ex : List Nat) (lp : List (Nat × Obj × Nat × Obj)) : Ctx := { G := x.Gd ρ σ, ρ := ρ, σ := resS ks σ, w := w, nt := 0, ex := ex, lp := lp }

theorem frm_res {x : Ctx} {ρ : Nat → Nat} {σ : Nat → Slot} {w : World} {ks ex : List Nat} {lp : List (Nat × Obj × Nat × Obj)} (hr : RecOk (subY x ρ σ w ks ex lp) (resS ks σ) w) (hf : Frm x ρ σ w)
  (hw0 : ∀ k ∈ ks, ∀ o, σ k = .live o → o.rows.all (wil ks) = true) :
  Frm (subY x ρ σ w ks ex lp) ρ (resS ks σ) w ∧ ∀ c v, c.wi ks = true → CR (x.Gd ρ σ) ρ σ w c v → CR ((subY x ρ σ w ks ex lp).Gd ρ (resS ks σ)) ρ (resS ks σ) w c v := by
 have s0 : ∀ {k : Nat} {o : Ob}, resS ks σ k = .live o → k ∈ ks ∧ σ k = .live o := fun hk => resS_live hk (by simp)
 have own0 : ∀ {b : Nat}, Owned ρ (resS ks σ) b → Owned ρ σ b := by
  rintro b ⟨k, o, e1, e2, e3⟩
  exact ⟨k, o, (s0 e1).2, e2, e3⟩
 have f0 : Frm (subY x ρ σ w ks ex lp) ρ (resS ks σ) w := by
  refine ⟨⟨fun k o hk hn => ?_, fun k o hk hn => hf.sto.nil k o (s0 hk).2 hn, fun k k' o o' hk hk' hn hn' he => hf.sto.inj k k' o o' (s0 hk).2 (s0 hk').2 hn hn' he⟩, fun b hb => .inl hb, fun b _ _ _ => rfl, hr, Nat.le_refl _, rfl, rfl, rfl, .refl ..⟩
  refine (hf.sto.ob k o (s0 hk).2 hn).turn rfl rfl rfl fun i row row' hi hi' => ?_
  rw [hi] at hi'
  cases hi'
  refine ⟨rfl, fun j c c' hj hj' v hv => ?_⟩
  rw [hj] at hj'
  cases hj'
  exact ⟨hv.wi (ks := ks) (fun b hb => ⟨.inl hb, fun ho => hb.2 (own0 ho)⟩) (fun k hk => ⟨rfl, resS_in hk⟩) (wil_all (hw0 _ (s0 hk).1 _ (s0 hk).2) hi hj), id⟩
 exact ⟨f0, fun c v hc hv => hv.wi (ks := ks) (fun b hb => ⟨.inl hb, fun ho => hb.2 (own0 ho)⟩) (fun k hk => ⟨rfl, resS_in hk⟩) hc⟩

theorem frm_ov {x : Ctx} {ρ ρ1 : Nat → Nat} {σ σ1 : Nat → Slot} {w w' : World} {ks ex : List Nat} {lp : List (Nat × Obj × Nat × Obj)} (hex : ∀ b ∈ ex, (∃ r, w.heap[b]? = some (.loop r)) ∧ (b ∈ x.ex ∨ x.w.heap.size ≤ b)) (hf : Frm x ρ σ w)
  (hfree : ∀ k, k ∉ ks → σ1 k = .free) (f1 : Frm (subY x ρ σ w ks ex lp) ρ1 σ1 w') (hrc : ∀ G' ρ', Keeps0 (x.Gd ρ σ) G' ρ ρ' σ (ovS ks σ σ1) w w' → RecOk x (ovS ks σ σ1) w') :
  ∃ ρ', Keeps (x.Gd ρ σ) (x.Gd ρ' (ovS ks σ σ1)) ρ ρ' σ (ovS ks σ σ1) w w' ∧ Frm x ρ' (ovS ks σ σ1) w' ∧
   ∀ c v, CR ((subY x ρ σ w ks ex lp).Gd ρ1 σ1) ρ1 σ1 w' c v → CR (x.Gd ρ' (ovS ks σ σ1)) ρ' (ovS ks σ σ1) w' c v := by
 have s0 : ∀ {k : Nat} {o : Ob}, resS ks σ k = .live o → k ∈ ks ∧ σ k = .live o := fun hk => resS_live hk (by simp)
 have own0 : ∀ {b : Nat}, Owned ρ (resS ks σ) b → Owned ρ σ b := by
  rintro b ⟨k, o, e1, e2, e3⟩
  exact ⟨k, o, (s0 e1).2, e2, e3⟩
 have in1 : ∀ {k : Nat} {o : Ob}, σ1 k = .live o → k ∈ ks := by
  intro k o hk
  apply Classical.byContradiction
  intro hm
  rw [hfree k hm] at hk; cases hk
 generalize hρ' : (fun k => if k ∈ ks then ρ1 k else ρ k) = ρ'
 have hin : ∀ {k : Nat}, k ∈ ks → ρ' k = ρ1 k ∧ ovS ks σ σ1 k = σ1 k := fun hk => ⟨by rw [← hρ']; simp [hk], ovS_in hk⟩
 have hout : ∀ {k : Nat}, k ∉ ks → ρ' k = ρ k ∧ ovS ks σ σ1 k = σ k := fun hk => ⟨by rw [← hρ']; simp [hk], ovS_out hk⟩
 -- a block that a framed object lies in
 have fr : ∀ {k : Nat} {o : Ob}, k ∉ ks → σ k = .live o → o.nl = false → ρ k < w.heap.size ∧ ¬ Owned ρ (resS ks σ) (ρ k) := by
  intro k o hk ho hn
  refine ⟨(hf.sto.ob k o ho hn).lt, ?_⟩
  rintro ⟨q, oq, e1, e2, e3⟩
  have := hf.sto.inj q k oq o (s0 e1).2 ho e2 hn e3
  subst this
  exact hk (s0 e1).1
 have own1 : ∀ {b : Nat}, Owned ρ' (ovS ks σ σ1) b → Owned ρ1 σ1 b ∨ ∃ k o, k ∉ ks ∧ σ k = .live o ∧ o.nl = false ∧ ρ k = b := by
  rintro b ⟨k, o, e1, e2, e3⟩
  by_cases hk : k ∈ ks
  ·rw [(hin hk).2] at e1
   rw [(hin hk).1] at e3
   exact .inl ⟨k, o, e1, e2, e3⟩
  ·rw [(hout hk).2] at e1
   rw [(hout hk).1] at e3
   exact .inr ⟨k, o, hk, e1, e2, e3⟩
 have same : ∀ b, b < w.heap.size → ¬ Owned ρ (resS ks σ) b → Same w w' b := by
  intro b hlt hno
  by_cases he : b ∈ ex
  ·obtain ⟨r, hr⟩ := (hex b he).1
   obtain ⟨r', hr'⟩ := (f1.rcd.loop b he).2
   exact .inr ⟨_, _, hr, hr', rfl, rfl⟩
  ·exact .inl (f1.frame b hlt hno he)
 have cellsame : ∀ (k : Nat) (o : Ob), σ k = .live o → o.nl = false → ¬ Owned ρ (resS ks σ) (ρ k) → w'.heap[ρ k]? = w.heap[ρ k]? := by
  intro k o hk hn hno
  refine f1.frame _ (hf.sto.ob k o hk hn).lt hno fun he => ?_
  obtain ⟨r, hr⟩ := (hex _ he).1
  have := (hf.sto.ob k o hk hn).noOdd hr
  simp [oddO] at this
 have hK : Keeps (x.Gd ρ σ) (x.Gd ρ' (ovS ks σ σ1)) ρ ρ' σ (ovS ks σ σ1) w w' := by
  refine .of (fun D hD => (f1.frame D (Array.getElem?_eq_some_iff.1 hD).1 (fun ho => by obtain ⟨k, o, e1, e2, rfl⟩ := own0 ho; have := (hf.sto.ob k o e1 e2).noOdd hD; simp [oddO] at this)
   (fun he => by obtain ⟨r, hr⟩ := (hex D he).1; rw [hD] at hr; simp at hr)).trans hD) ⟨fun b hb hlt => ⟨⟨hb.1, fun ho => ?_⟩, Nat.lt_of_lt_of_le hlt f1.size, same b hlt fun ho => hb.2 (own0 ho)⟩, fun k hk => ?_, fun k o hk => ?_⟩
  ·rcases own1 ho with ho | ⟨k, o, _, e2, e3, e4⟩
   ·rcases f1.own b ho with ho | ho
    ·exact hb.2 (own0 ho)
    ·exact absurd hlt (Nat.not_lt.2 ho)
   ·exact hb.2 ⟨k, o, e2, e3, e4⟩
  ·by_cases hm : k ∈ ks
   ·rw [(hin hm).2]
    exact f1.hist.dead k ((resS_in hm).trans hk)
   ·rw [(hout hm).2, hk]
  ·by_cases hm : k ∈ ks
   ·rw [(hin hm).2, (hin hm).1]
    exact f1.hist.live k o ((resS_in hm).trans hk)
   ·refine .inr ⟨o, by rw [(hout hm).2, hk], rfl, rfl, rfl, fun hn => ⟨(hout hm).1, fun cs el fz hcs => ?_⟩⟩
    obtain ⟨e1, e2⟩ := fr hm hk hn
    rw [cellsame _ _ hk hn e2] at hcs
    exact ⟨_, _, _, hcs, Nat.le_refl _⟩
 have hK2 : Keeps ((subY x ρ σ w ks ex lp).Gd ρ1 σ1) (x.Gd ρ' (ovS ks σ σ1)) ρ1 ρ' σ1 (ovS ks σ σ1) w' w' := by
  refine .of (fun D hD => hD) ⟨fun b hb hlt => ⟨⟨?_, fun ho => ?_⟩, hlt, .inl rfl⟩, fun k hk => ?_, fun k o hk => .inr ⟨o, by rw [(hin (in1 hk)).2, hk], rfl, rfl, rfl, fun _ => ⟨(hin (in1 hk)).1, fun cs el fz hcs => ?_⟩⟩⟩
  ·rcases hb.1 with hb1 | hb1 | hb1
   ·exact hb1.1
   ·exact (hf.own b (own0 hb1)).elim (fun e => .inr (.inl e)) fun e => .inr (.inr e)
   ·exact .inr (.inr (Nat.le_trans hf.size hb1))
  ·rcases own1 ho with ho | ⟨k, o, e1, e2, e3, rfl⟩
   ·exact hb.2 ho
   ·obtain ⟨g1, g2⟩ := fr e1 e2 e3
    rcases hb.1 with hb1 | hb1 | hb1
    ·exact hb1.2 ⟨k, o, e2, e3, rfl⟩
    ·exact g2 hb1
    ·exact absurd g1 (Nat.not_lt.2 hb1)
  ·by_cases hm : k ∈ ks
   ·rw [(hin hm).2, hk]
   ·rw [hfree k hm] at hk; cases hk
  ·exact ⟨_, _, _, hcs, Nat.le_refl _⟩
 refine ⟨ρ', hK, ⟨⟨fun k o hk hn => ?_, fun k o hk hn => ?_, fun k k' o o' hk hk' hn hn' he => ?_⟩, fun b hb => ?_, fun b hlt hb hbx => ?_, hrc _ _ hK.toKeeps0, Nat.le_trans hf.size f1.size, f1.os.trans hf.os, f1.tape.trans hf.tape, f1.output.trans hf.output, hf.hist.trans hK.toKeeps0⟩, fun r v hv => hv.keeps hK2⟩
 ·by_cases hm : k ∈ ks
  ·rw [(hin hm).2] at hk
   rw [(hin hm).1]
   exact (f1.sto.ob k o hk hn).keeps hK2.toKeeps0 rfl
  ·rw [(hout hm).2] at hk
   rw [(hout hm).1]
   obtain ⟨e1, e2⟩ := fr hm hk hn
   exact (hf.sto.ob k o hk hn).keeps hK.toKeeps0 (cellsame _ _ hk hn e2)
 ·by_cases hm : k ∈ ks
  ·rw [(hin hm).2] at hk; exact f1.sto.nil k o hk hn
  ·rw [(hout hm).2] at hk; exact hf.sto.nil k o hk hn
 ·have mixed : ∀ {k k' : Nat} {o o' : Ob}, k ∈ ks → k' ∉ ks → σ1 k = .live o → σ k' = .live o' → o.nl = false → o'.nl = false → ρ1 k = ρ k' → False := by
   intro k k' o o' m1 m2 e1 e2 e3 e4 e5
   obtain ⟨g1, g2⟩ := fr m2 e2 e4
   rcases f1.own _ ⟨k, o, e1, e3, e5⟩ with g | g
   ·exact g2 g
   ·exact absurd g1 (Nat.not_lt.2 g)
  by_cases hm : k ∈ ks <;> by_cases hm' : k' ∈ ks
  ·rw [(hin hm).2] at hk; rw [(hin hm').2] at hk'; rw [(hin hm).1, (hin hm').1] at he
   exact f1.sto.inj k k' o o' hk hk' hn hn' he
  ·rw [(hin hm).2] at hk; rw [(hout hm').2] at hk'; rw [(hin hm).1, (hout hm').1] at he
   exact (mixed hm hm' hk hk' hn hn' he).elim
  ·rw [(hout hm).2] at hk; rw [(hin hm').2] at hk'; rw [(hout hm).1, (hin hm').1] at he
   exact (mixed hm' hm hk' hk hn' hn he.symm).elim
  ·rw [(hout hm).2] at hk; rw [(hout hm').2] at hk'; rw [(hout hm).1, (hout hm').1] at he
   exact hf.sto.inj k k' o o' hk hk' hn hn' he
 ·rcases own1 hb with hb | ⟨k, o, _, e2, e3, e4⟩
  ·rcases f1.own b hb with hb | hb
   ·exact hf.own b (own0 hb)
   ·exact .inr (Nat.le_trans hf.size hb)
  ·exact hf.own b ⟨k, o, e2, e3, e4⟩
 ·have : ¬ Owned ρ (resS ks σ) b := fun ho => (hf.own b (own0 ho)).elim hb fun e => absurd hlt (Nat.not_lt.2 e)
  exact (f1.frame b (Nat.lt_of_lt_of_le hlt hf.size) this fun he => (hex b he).2.elim hbx fun e => absurd hlt (Nat.not_lt.2 e)).trans (hf.frame b hlt hb hbx)



end Go.Abs

