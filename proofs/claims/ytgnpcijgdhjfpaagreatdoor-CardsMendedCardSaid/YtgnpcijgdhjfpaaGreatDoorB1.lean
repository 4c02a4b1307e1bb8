/- The machine of abstract values and the contracts of the functions of the program, which the statements of this seat share. No condition. -/
import Derived.Orders
import Derived.KernelRfl
import Derived.WalkKit
import Derived.MapKept
import Derived.Laws.IdiomStrings

set_option linter.unusedSimpArgs false
set_option linter.unusedVariables false
set_option linter.constructorNameAsVariable false

/- Abstract values of the model: what a concrete value stands for, and when this stays so while memory changes. No condition. -/
namespace Go.Abs

inductive C where
 | any
 | int (k : IntKind) (n : Int)
 | bool (b : Bool)
 | str (s : ByteArray)
 | pnil
 | fnil
 | sl (nl full : Bool) (rows : List (List C))
 | ip (row : List C) (j : Nat)
 | fn (f : Fn) (first caps : List C)
 | agg (l : List C)
 | tup (l : List C)
 | own (k sz lo n : Nat)
 | ptr (k sz i j : Nat)
 | mp (k : Nat)
 | md (nl : Bool) (rows : List (List C))
 | val (v : Value)
 | mpin (m : Option (Nat × Array MapEntry × Nat))

instance : Inhabited C := ⟨.any⟩

def C.cell : C → Bool
 | .any | .agg _ | .tup _ | .val _ => false
 | _ => true

structure Ob where
 nl : Bool
 em : Bool
 sz : Nat
 rows : List (List C)

inductive Slot where
 | free
 | dead
 | live (o : Ob)
 | gh

def eqInts : List IntKind → List C → List C → Option Bool
 | [], [], [] => some true
 | k :: ks, .int k1 a :: xs, .int k2 b :: ys => if k1 = k ∧ k2 = k then (eqInts ks xs ys).map fun r => decide (a = b) && r else none
 | _, _, _ => none

inductive KQ where
 | int
 | str
 | bool
 | flat (ks : List IntKind)

def sameC : KQ → C → C → Option Bool
 | .int, .int k a, .int k' b => if k = k' then some (a == b) else none
 | .str, .str a, .str b => some (a == b)
 | .bool, .bool a, .bool b => some (a == b)
 | .flat ks, .agg xs, .agg ys => eqInts ks xs ys
 | _, _, _ => none

def findC (q : KQ) (k : C) : List (List C) → Nat → Option (Option (Nat × C))
 | [], _ => some none
 | row :: rows, i => match row with
  | [e, v] => match sameC q k e with
   | some true => some (some (i, v))
   | some false => findC q k rows (i + 1)
   | none => none
  | _ => none

def BagEq (rows' rows : List (List C)) : Prop := rows'.Perm rows ∧ ∀ q k i r, findC q k rows i = some r → ∀ i', ∃ r', findC q k rows' i' = some r' ∧ r'.map (·.2) = r.map (·.2)

theorem findC_any (q : KQ) (k : C) : ∀ (rows : List (List C)) (i i' : Nat) {r : Option (Nat × C)}, findC q k rows i = some r → ∃ r', findC q k rows i' = some r' ∧ r'.map (·.2) = r.map (·.2)
 | [], i, i', r, h => by simp only [findC, Option.some.injEq] at h; subst h; exact ⟨_, rfl, rfl⟩
 | row :: rows, i, i', r, h => by
  match row with
  | [e, v] =>
   simp only [findC] at h ⊢
   cases hs : sameC q k e with
   | none => rw [hs] at h; cases h
   | some b =>
    rw [hs] at h
    cases b
    ·exact findC_any q k rows (i + 1) (i' + 1) h
    ·simp only [Option.some.injEq] at h
     subst h
     exact ⟨_, rfl, rfl⟩
  | [] | [_] | _ :: _ :: _ :: _ => simp [findC] at h

theorem BagEq.refl (rows : List (List C)) : BagEq rows rows := ⟨.refl _, fun q k i _ h i' => findC_any q k rows i i' h⟩
theorem BagEq.trans {a b c : List (List C)} (h : BagEq a b) (g : BagEq b c) : BagEq a c :=
 ⟨h.1.trans g.1, fun q k i r hr i' => by
  obtain ⟨r1, h1, h2⟩ := g.2 q k i r hr 0
  obtain ⟨r2, h3, h4⟩ := h.2 q k 0 r1 h1 i'
  exact ⟨r2, h3, h4.trans h2⟩⟩

def Born (es : Array MapEntry) (clock : Nat) : Prop := clock = es.size ∧ ∀ (i : Nat) (e : MapEntry), es[i]? = some e → e.born = i

inductive PR (G : Nat → Prop) (w : World) : C → Value → Prop
 | int (k : IntKind) (n : Int) : PR G w (.int k n) (.int k n)
 | bool (b : Bool) : PR G w (.bool b) (.bool b)
 | str (s : ByteArray) : PR G w (.str s) (.string s)
 | pnil : PR G w .pnil (.pointer none)
 | fnil : PR G w .fnil .nilFunc
 | slnil (full : Bool) : PR G w (.sl true full []) (.slice none 0 0)
 | slemp (full : Bool) (a : Addr) : PR G w (.sl false full []) (.slice (some a) 0 0)
 | sl {full : Bool} {rows : List (List C)} {b off sz cap n : Nat} (cell : Nat → Nat → Value) (hG : G b) (hb : b < w.heap.size) (hn : n = rows.length)
   (hf : full = true → cap = rows.length) (hc : rows.length ≤ cap) (hsz : ∀ (i : Nat) (row : List C), rows[i]? = some row → row.length = sz)
   (hcell : ∀ (i : Nat) (row : List C), rows[i]? = some row → ∀ (j : Nat) (c : C), row[j]? = some c → w.cell? ⟨b, off + (i * sz + j), none⟩ = some (cell i j))
   (hcl : ∀ (i : Nat) (row : List C), rows[i]? = some row → ∀ (j : Nat) (c : C), row[j]? = some c → c.cell = true)
   (hr : ∀ (i : Nat) (row : List C), rows[i]? = some row → ∀ (j : Nat) (c : C), row[j]? = some c → PR G w c (cell i j)) :
   PR G w (.sl false full rows) (.slice (some ⟨b, off, none⟩) n cap)
 | ip {row : List C} {b off j o : Nat} (cell : Nat → Value) (hG : G b) (hb : b < w.heap.size) (ho : o = off + j)
   (hcell : ∀ (j : Nat) (c : C), row[j]? = some c → w.cell? ⟨b, off + j, none⟩ = some (cell j))
   (hcl : ∀ (j : Nat) (c : C), row[j]? = some c → c.cell = true)
   (hr : ∀ (j : Nat) (c : C), row[j]? = some c → PR G w c (cell j)) : PR G w (.ip row j) (.pointer (some ⟨b, o, none⟩))
 | mdnil : PR G w (.md true []) (.map none)
 | md {rows : List (List C)} {b clock : Nat} {es : Array MapEntry} (cell : Nat → Nat → Value) (hG : G b) (hb : b < w.heap.size) (hc : w.heap[b]? = some (.map es clock)) (hbo : Born es clock) (hn : es.size = rows.length)
   (he : ∀ (i : Nat) (row : List C), rows[i]? = some row → row.length = 2 ∧ ∃ e, es[i]? = some e ∧ e.key = cell i 0 ∧ e.val = cell i 1)
   (hr : ∀ (i : Nat) (row : List C), rows[i]? = some row → ∀ (j : Nat) (c : C), row[j]? = some c → PR G w c (cell i j)) : PR G w (.md false rows) (.map (some b))
 | mdp {rows rows' : List (List C)} {b : Nat} (hb : BagEq rows' rows) (h : PR G w (.md false rows') (.map (some b))) : PR G w (.md false rows) (.map (some b))
 | val (v : Value) : PR G w (.val v) v
 | mpinN : PR G w (.mpin none) (.map none)
 | mpin {b clock : Nat} {es : Array MapEntry} (hG : G b) (hb : b < w.heap.size) (hc : w.heap[b]? = some (.map es clock)) : PR G w (.mpin (some (b, es, clock))) (.map (some b))
 | fn {f : Fn} {first caps : List C} {v1 v2 : Array Value} (h1 : v1.size = first.length) (h2 : v2.size = caps.length)
   (hr1 : ∀ (i : Nat) (c : C), first[i]? = some c → PR G w c (v1.getD i undef)) (hr2 : ∀ (i : Nat) (c : C), caps[i]? = some c → PR G w c (v2.getD i undef)) :
   PR G w (.fn f first caps) (.func f v1 v2)
 | agg {l : List C} {vs : Array Value} (h : vs.size = l.length) (hr : ∀ (i : Nat) (c : C), l[i]? = some c → PR G w c (vs.getD i undef)) : PR G w (.agg l) (.agg vs)
 | tup {l : List C} {vs : Array Value} (h : vs.size = l.length) (hr : ∀ (i : Nat) (c : C), l[i]? = some c → PR G w c (vs.getD i undef)) : PR G w (.tup l) (.tuple vs)

def oddO : Obj → Bool
 | .loop _ | .deferred _ | .mapIter .. | .stringIter .. => true
 | _ => false

def Same (w w' : World) (b : Nat) : Prop := w'.heap[b]? = w.heap[b]? ∨ ∃ o o', w.heap[b]? = some o ∧ w'.heap[b]? = some o' ∧ oddO o = true ∧ oddO o' = true

theorem Same.cell {w w' : World} {b o : Nat} {p : Option Nat} (h : Same w w' b) : w'.cell? ⟨b, o, p⟩ = w.cell? ⟨b, o, p⟩ := by
 rcases h with h | ⟨r, r', h1, h2, h3, h4⟩
 ·simp only [World.cell?, h]
 ·simp only [World.cell?, h1, h2]
  cases r <;> cases r' <;> simp_all [oddO]

theorem Same.map {w w' : World} {b : Nat} {es : Array MapEntry} {q : Nat} (h : Same w w' b) (hb : w.heap[b]? = some (.map es q)) : w'.heap[b]? = some (.map es q) := by
 rcases h with h | ⟨r, r', h1, h2, h3, h4⟩
 ·rw [h]; exact hb
 ·rw [hb] at h1; cases h1; simp [oddO] at h3

theorem Same.trans {w w' w'' : World} {b : Nat} (h : Same w w' b) (g : Same w' w'' b) : Same w w'' b := by
 rcases h with h | ⟨r, r', h1, h2, h3, h4⟩
 ·rcases g with g | ⟨q, q', g1, g2, g3⟩
  ·exact .inl (g.trans h)
  ·exact .inr ⟨q, q', h ▸ g1, g2, g3⟩
 ·rcases g with g | ⟨q, q', g1, g2, g3, g4⟩
  ·exact .inr ⟨r, r', h1, g.trans h2, h3, h4⟩
  ·exact .inr ⟨r, q', h1, g2, h3, g4⟩

theorem PR.mono' {G G' : Nat → Prop} {w w' : World} (h : ∀ b, G b → b < w.heap.size → G' b ∧ b < w'.heap.size ∧ Same w w' b)
  {c : C} {v : Value} (r : PR G w c v) : PR G' w' c v := by
 induction r with
 | int k n => exact .int k n
 | bool b => exact .bool b
 | str s => exact .str s
 | pnil => exact .pnil
 | fnil => exact .fnil
 | slnil full => exact .slnil full
 | slemp full a => exact .slemp full a
 | sl cell hG hb hn hf hc hsz hcell hcl hr ih =>
  obtain ⟨h1, h2, h3⟩ := h _ hG hb
  exact .sl cell h1 h2 hn hf hc hsz (fun i row hi j c hj => by rw [h3.cell]; exact hcell i row hi j c hj) hcl ih
 | ip cell hG hb ho hcell hcl hr ih =>
  obtain ⟨h1, h2, h3⟩ := h _ hG hb
  exact .ip cell h1 h2 ho (fun j c hj => by rw [h3.cell]; exact hcell j c hj) hcl ih
 | mdnil => exact .mdnil
 | md cell hG hb hc hbo hn he hr ih =>
  obtain ⟨h1, h2, h3⟩ := h _ hG hb
  exact .md cell h1 h2 (h3.map hc) hbo hn he ih
 | mdp hb h ih => exact .mdp hb ih
 | val v => exact .val v
 | mpinN => exact .mpinN
 | mpin hG hb hc =>
  obtain ⟨h1, h2, h3⟩ := h _ hG hb
  exact .mpin h1 h2 (h3.map hc)
 | fn h1 h2 _ _ ih1 ih2 => exact .fn h1 h2 ih1 ih2
 | agg h _ ih => exact .agg h ih
 | tup h _ ih => exact .tup h ih

theorem PR.mono {G G' : Nat → Prop} {w w' : World} (h : ∀ b, G b → b < w.heap.size → G' b ∧ b < w'.heap.size ∧ w'.heap[b]? = w.heap[b]?)
  {c : C} {v : Value} (r : PR G w c v) : PR G' w' c v := r.mono' fun b hb hlt => let ⟨h1, h2, h3⟩ := h b hb hlt; ⟨h1, h2, .inl h3⟩

def SlShape (n : Nat) (v : Value) : Prop := (∃ a cap, v = .slice (some a) n cap ∧ n ≤ cap) ∨ (n = 0 ∧ ∃ a, v = .slice a 0 0)

inductive CR (G : Nat → Prop) (ρ : Nat → Nat) (σ : Nat → Slot) (w : World) : C → Value → Prop
 | any (v : Value) : CR G ρ σ w .any v
 | pure {c : C} {v : Value} (h : PR G w c v) : CR G ρ σ w c v
 | fn {f : Fn} {first caps : List C} {v1 v2 : Array Value} (h1 : v1.size = first.length) (h2 : v2.size = caps.length)
   (hr1 : ∀ (i : Nat) (c : C), first[i]? = some c → CR G ρ σ w c (v1.getD i undef)) (hr2 : ∀ (i : Nat) (c : C), caps[i]? = some c → CR G ρ σ w c (v2.getD i undef)) :
   CR G ρ σ w (.fn f first caps) (.func f v1 v2)
 | agg {l : List C} {vs : Array Value} (h : vs.size = l.length) (hr : ∀ (i : Nat) (c : C), l[i]? = some c → CR G ρ σ w c (vs.getD i undef)) : CR G ρ σ w (.agg l) (.agg vs)
 | tup {l : List C} {vs : Array Value} (h : vs.size = l.length) (hr : ∀ (i : Nat) (c : C), l[i]? = some c → CR G ρ σ w c (vs.getD i undef)) : CR G ρ σ w (.tup l) (.tuple vs)
 | ownDead {k sz lo n : Nat} {v : Value} (h : σ k = .dead) (hv : SlShape n v) : CR G ρ σ w (.own k sz lo n) v
 | ownNil {k sz : Nat} {o : Ob} {a : Option Addr} (h : σ k = .live o) (hn : o.nl = true) (ha : a.isNone = !o.em) : CR G ρ σ w (.own k sz 0 0) (.slice a 0 0)
 | own {k sz lo n cap f m : Nat} {o : Ob} (h : σ k = .live o) (hn : o.nl = false) (hs : o.sz = sz) (hz : sz ≠ 0) (hc : n ≤ cap) (hf : f = lo * sz) (hm : m = n)
   (hroom : ∀ cs el fz, w.heap[ρ k]? = some (.cells cs el fz) → (lo + cap) * sz ≤ cs.size) :
   CR G ρ σ w (.own k sz lo n) (.slice (some ⟨ρ k, f, none⟩) m cap)
 | mpDead {k : Nat} {v : Value} (h : σ k = .dead) (hv : ∃ b, v = .map (some b)) : CR G ρ σ w (.mp k) v
 | mp {k : Nat} {o : Ob} (h : σ k = .live o) (hn : o.nl = false) (hs : o.sz = 0) : CR G ρ σ w (.mp k) (.map (some (ρ k)))
 | ptrDead {k sz i j : Nat} {v : Value} (h : σ k = .dead) (hv : ∃ a, v = .pointer (some a)) : CR G ρ σ w (.ptr k sz i j) v
 | ptr {k sz i j f : Nat} {o : Ob} (h : σ k = .live o) (hn : o.nl = false) (hs : o.sz = sz) (hz : sz ≠ 0) (hf : f = i * sz + j) :
   CR G ρ σ w (.ptr k sz i j) (.pointer (some ⟨ρ k, f, none⟩))

mutual
def C.isPure : C → Bool
 | .any | .own .. | .ptr .. | .mp _ => false
 | .fn _ a b => purel a && purel b
 | .agg l | .tup l => purel l
 | _ => true
def purel : List C → Bool
 | [] => true
 | c :: l => c.isPure && purel l
end

theorem purel_get : ∀ {l : List C} {i : Nat} {c : C}, purel l = true → l[i]? = some c → c.isPure = true
 | [], _, _, _, h => by simp at h
 | c :: l, i, d, h, hi => by
  simp only [purel, Bool.and_eq_true] at h
  cases i with
  | zero => simp at hi; subst hi; exact h.1
  | succ i => simp at hi; exact purel_get h.2 hi

theorem CR.isPure {G : Nat → Prop} {ρ : Nat → Nat} {σ : Nat → Slot} {w : World} {c : C} {v : Value} (h : CR G ρ σ w c v) (hp : c.isPure = true) : PR G w c v := by
 induction h with
 | any v => simp [C.isPure] at hp
 | pure h => exact h
 | fn h1 h2 _ _ ih1 ih2 =>
  simp only [C.isPure, Bool.and_eq_true] at hp
  exact .fn h1 h2 (fun i c hi => ih1 i c hi (purel_get hp.1 hi)) (fun i c hi => ih2 i c hi (purel_get hp.2 hi))
 | agg h _ ih => simp only [C.isPure] at hp; exact .agg h fun i c hi => ih i c hi (purel_get hp hi)
 | tup h _ ih => simp only [C.isPure] at hp; exact .tup h fun i c hi => ih i c hi (purel_get hp hi)
 | ownDead h hv => simp [C.isPure] at hp
 | ownNil h hn ha => simp [C.isPure] at hp
 | own h hn hs hz hc hf hm hroom => simp [C.isPure] at hp
 | ptrDead h hv => simp [C.isPure] at hp
 | mpDead h hv => simp [C.isPure] at hp
 | mp h hn hs => simp [C.isPure] at hp
 | ptr h hn hs hz hf => simp [C.isPure] at hp

def oneCell : Value → Bool
 | .agg _ | .tuple _ => false
 | _ => true

theorem PR.cell {G : Nat → Prop} {w : World} {c : C} {v : Value} (h : PR G w c v) (hc : c.cell = true) : oneCell v = true := by
 cases h <;> simp_all [C.cell, oneCell]

theorem CR.cell {G : Nat → Prop} {ρ : Nat → Nat} {σ : Nat → Slot} {w : World} {c : C} {v : Value} (h : CR G ρ σ w c v) (hc : c.cell = true) : oneCell v = true := by
 cases h with
 | any v => simp [C.cell] at hc
 | pure h => exact h.cell hc
 | fn => rfl
 | agg => simp [C.cell] at hc
 | tup => simp [C.cell] at hc
 | ownDead h hv => rcases hv with ⟨a, cap, rfl, _⟩ | ⟨_, a, rfl⟩ <;> rfl
 | ptrDead h hv => obtain ⟨a, rfl⟩ := hv; rfl
 | mpDead h hv => obtain ⟨a, rfl⟩ := hv; rfl
 | mp => rfl
 | ownNil => rfl
 | own => rfl
 | ptr => rfl

def Owned (ρ : Nat → Nat) (σ : Nat → Slot) (b : Nat) : Prop := ∃ k o, σ k = .live o ∧ o.nl = false ∧ ρ k = b

structure Keeps0 (G G' : Nat → Prop) (ρ ρ' : Nat → Nat) (σ σ' : Nat → Slot) (w w' : World) : Prop where
 pure : ∀ b, G b → b < w.heap.size → G' b ∧ b < w'.heap.size ∧ Same w w' b
 dead : ∀ k, σ k = .dead → σ' k = .dead
 live : ∀ k o, σ k = .live o → σ' k = .dead ∨ ∃ o', σ' k = .live o' ∧ o'.nl = o.nl ∧ o'.em = o.em ∧ o'.sz = o.sz ∧ (o.nl = false → ρ' k = ρ k ∧
  ∀ cs' el' fz', w'.heap[ρ k]? = some (.cells cs' el' fz') → ∃ cs el fz, w.heap[ρ k]? = some (.cells cs el fz) ∧ cs.size ≤ cs'.size)

theorem CR.keeps0 {G G' : Nat → Prop} {ρ ρ' : Nat → Nat} {σ σ' : Nat → Slot} {w w' : World} (h : Keeps0 G G' ρ ρ' σ σ' w w') {c : C} {v : Value} (r : CR G ρ σ w c v) : CR G' ρ' σ' w' c v := by
 induction r with
 | any v => exact .any v
 | pure p => exact .pure (p.mono' h.pure)
 | fn h1 h2 _ _ ih1 ih2 => exact .fn h1 h2 ih1 ih2
 | agg h _ ih => exact .agg h ih
 | tup h _ ih => exact .tup h ih
 | ownDead hd hv => exact .ownDead (h.dead _ hd) hv
 | ownNil hl hn ha =>
  rcases h.live _ _ hl with hd | ⟨o', h1, h2, h2', _⟩
  ·exact .ownDead hd (.inr ⟨rfl, _, rfl⟩)
  ·exact .ownNil h1 (h2.trans hn) (by rw [ha, h2'])
 | @own k sz lo n cap o f m hl hn hs hz hc hf hm hroom =>
  rcases h.live _ _ hl with hd | ⟨o', h1, h2, _, h3, h4⟩
  ·exact .ownDead hd (.inl ⟨_, _, by rw [hm], hc⟩)
  ·obtain ⟨h5, h6⟩ := h4 hn
   rw [← h5]
   refine .own h1 (h2.trans hn) (h3.trans hs) hz hc hf hm fun cs el fz hcs => ?_
   rw [h5] at hcs
   obtain ⟨cs0, el0, fz0, e, hle⟩ := h6 cs el fz hcs
   exact Nat.le_trans (hroom cs0 el0 fz0 e) hle
 | ptrDead hd hv => exact .ptrDead (h.dead _ hd) hv
 | mpDead hd hv => exact .mpDead (h.dead _ hd) hv
 | @mp k o hl hn hs =>
  rcases h.live _ _ hl with hd | ⟨o', h1, h2, _, h3, h4⟩
  ·exact .mpDead hd ⟨_, rfl⟩
  ·rw [← (h4 hn).1]
   exact .mp h1 (h2.trans hn) (h3.trans hs)
 | @ptr k sz i j o f hl hn hs hz hf =>
  rcases h.live _ _ hl with hd | ⟨o', h1, h2, _, h3, h4⟩
  ·exact .ptrDead hd ⟨_, rfl⟩
  ·rw [← (h4 hn).1]
   exact .ptr h1 (h2.trans hn) (h3.trans hs) hz hf

theorem Keeps0.refl (G : Nat → Prop) (ρ : Nat → Nat) (σ : Nat → Slot) (w : World) : Keeps0 G G ρ ρ σ σ w w :=
 ⟨fun _ hb hlt => ⟨hb, hlt, .inl rfl⟩, fun _ hk => hk, fun _ o hk => .inr ⟨o, hk, rfl, rfl, rfl, fun _ => ⟨rfl, fun _ _ _ hc => ⟨_, _, _, hc, Nat.le_refl _⟩⟩⟩⟩

theorem Keeps0.trans {G G' G'' : Nat → Prop} {ρ ρ' ρ'' : Nat → Nat} {σ σ' σ'' : Nat → Slot} {w w' w'' : World} (h : Keeps0 G G' ρ ρ' σ σ' w w') (g : Keeps0 G' G'' ρ' ρ'' σ' σ'' w' w'') : Keeps0 G G'' ρ ρ'' σ σ'' w w'' := by
 refine ⟨fun b hb hlt => ?_, fun k hk => g.dead k (h.dead k hk), fun k o hk => ?_⟩
 ·obtain ⟨h1, h2, h3⟩ := h.pure b hb hlt
  obtain ⟨g1, g2, g3⟩ := g.pure b h1 h2
  exact ⟨g1, g2, h3.trans g3⟩
 ·rcases h.live k o hk with h1 | ⟨o', h1, h2, h3, h4, h5⟩
  ·exact .inl (g.dead k h1)
  ·rcases g.live k o' h1 with g1 | ⟨o'', g1, g2, g3, g4, g5⟩
   ·exact .inl g1
   ·refine .inr ⟨o'', g1, g2.trans h2, g3.trans h3, g4.trans h4, fun hn => ?_⟩
    obtain ⟨h6, h7⟩ := h5 hn
    obtain ⟨g6, g7⟩ := g5 (h2.trans hn)
    refine ⟨g6.trans h6, fun cs el fz hc => ?_⟩
    rw [h6] at g7
    obtain ⟨cs1, el1, fz1, e1, e2⟩ := g7 cs el fz hc
    obtain ⟨cs2, el2, fz2, e3, e4⟩ := h7 cs1 el1 fz1 e1
    exact ⟨cs2, el2, fz2, e3, Nat.le_trans e4 e2⟩

structure Keeps (G G' : Nat → Prop) (ρ ρ' : Nat → Nat) (σ σ' : Nat → Slot) (w w' : World) : Prop extends Keeps0 G G' ρ ρ' σ σ' w w' where
 dfr : ∀ D : Nat, w.heap[D]? = some (.deferred (some [])) → w'.heap[D]? = some (.deferred (some []))

theorem Keeps.of {G G' : Nat → Prop} {ρ ρ' : Nat → Nat} {σ σ' : Nat → Slot} {w w' : World} (d : ∀ D : Nat, w.heap[D]? = some (.deferred (some [])) → w'.heap[D]? = some (.deferred (some []))) (k : Keeps0 G G' ρ ρ' σ σ' w w') : Keeps G G' ρ ρ' σ σ' w w' := { k with dfr := d }

theorem CR.keeps {G G' : Nat → Prop} {ρ ρ' : Nat → Nat} {σ σ' : Nat → Slot} {w w' : World} (h : Keeps G G' ρ ρ' σ σ' w w') {c : C} {v : Value} (r : CR G ρ σ w c v) : CR G' ρ' σ' w' c v := r.keeps0 h.toKeeps0

theorem Keeps.refl (G : Nat → Prop) (ρ : Nat → Nat) (σ : Nat → Slot) (w : World) : Keeps G G ρ ρ σ σ w w := .of (fun _ h => h) (.refl ..)

theorem Keeps.trans {G G' G'' : Nat → Prop} {ρ ρ' ρ'' : Nat → Nat} {σ σ' σ'' : Nat → Slot} {w w' w'' : World} (h : Keeps G G' ρ ρ' σ σ' w w') (g : Keeps G' G'' ρ' ρ'' σ' σ'' w' w'') : Keeps G G'' ρ ρ'' σ σ'' w w'' :=
 .of (fun D hD => g.dfr D (h.dfr D hD)) (h.toKeeps0.trans g.toKeeps0)

end Go.Abs

/- The types' table, the store's relation, and the operations that only compute a value. No condition. -/
namespace Go.Abs

structure FI where
 off : Nat
 size : Nat
 agg : Bool
 ok : Bool

inductive TK where
 | struct (fs : List FI)
 | slice (e : TypeId)
 | array (n : Nat) (e : TypeId)
 | int (k : IntKind)
 | bool
 | string
 | ptr (e : TypeId)
 | func
 | map (k e : TypeId)
 | other

structure TI where
 kind : TK
 size : Nat
 bytes : Nat
 zero : List C

def TK.isAgg : TK → Bool
 | .struct _ | .array _ _ => true
 | _ => false

def descAgg : TypeDesc → Bool
 | .struct _ | .array _ _ => true
 | _ => false

def ofV : Value → C
 | .int k n => .int k n
 | .bool b => .bool b
 | .string s => .str s
 | .pointer none => .pnil
 | .slice none 0 0 => .sl true true []
 | .nilFunc => .fnil
 | .map none => .md true []
 | _ => .any

theorem ofV_sound {G : Nat → Prop} {w : World} {v : Value} (h : (ofV v).cell = true) : PR G w (ofV v) v := by
 unfold ofV at *
 split <;> first
  | exact .int ..
  | exact .bool ..
  | exact .str ..
  | exact .pnil
  | exact .slnil ..
  | exact .fnil
  | exact .mdnil
  | simp [C.cell] at h

def fieldOf (P : Program) (f : Field) : FI := ⟨f.offset, P.cellsOf f.type, ((P.underlying f.type).map descAgg).getD false, (P.underlying f.type).isSome⟩

def kindOf (P : Program) : TypeDesc → TK
 | .struct fs => .struct (fs.toList.map (fieldOf P))
 | .slice e => .slice e
 | .array n e => .array n e
 | .int k => .int k
 | .bool => .bool
 | .string => .string
 | .pointer e => .ptr e
 | .func _ _ _ => .func
 | .map k e => .map k e
 | _ => .other

def aggV : Value → Bool
 | .agg _ => true
 | _ => false

def tyOf (P : Program) (t : TypeId) : Option TI :=
 match P.info? t, P.underlying t with
 | some inf, some d =>
  match inf.zero with
  | some z =>
   let zc := z.cells.toList.map ofV
   if (zc.all C.cell && zc.length == inf.size) && aggV z == descAgg d then some ⟨kindOf P d, inf.size, inf.bytes, zc⟩ else none
  | none => none
 | _, _ => none

structure TyOk (P : Program) (t : TypeId) (i : TI) (inf : TypeInfo) (d : TypeDesc) (z : Value) : Prop where
 info : P.info? t = some inf
 und : P.underlying t = some d
 zero : inf.zero = some z
 zc : i.zero = z.cells.toList.map ofV
 cell : ∀ c ∈ i.zero, c.cell = true
 zs : z.cells.size = i.size
 size : inf.size = i.size
 bytes : inf.bytes = i.bytes
 kind : i.kind = kindOf P d
 agg : aggV z = descAgg d

theorem tyOf_ok {P : Program} {t : TypeId} {i : TI} (h : tyOf P t = some i) : ∃ inf d z, TyOk P t i inf d z := by
 unfold tyOf at h
 split at h
 ·rename_i inf d h1 h2
  split at h
  ·rename_i z h3
   dsimp only at h
   split at h
   ·rename_i hc
    simp only [Bool.and_eq_true, List.all_eq_true, beq_iff_eq] at hc
    simp only [Option.some.injEq] at h
    subst h
    refine ⟨inf, d, z, h1, h2, h3, rfl, hc.1.1, ?_, rfl, rfl, rfl, hc.2⟩
    simpa using hc.1.2
   ·simp at h
  ·simp at h
 ·simp at h

theorem kind_agg {P : Program} {d : TypeDesc} : (kindOf P d).isAgg = descAgg d := by cases d <;> rfl

section runs
variable {P : Program} {t : TypeId} {i : TI} {inf : TypeInfo} {d : TypeDesc} {z : Value} (w : World)

theorem TyOk.run_und (h : TyOk P t i inf d z) : (underlying t).run P w = .ok d w := run_underlying h.und w
theorem TyOk.run_info (h : TyOk P t i inf d z) : (typeInfo t).run P w = .ok inf w := by simp [typeInfo, h.info]
theorem TyOk.run_size (h : TyOk P t i inf d z) : (sizeOf t).run P w = .ok i.size w := by simp [sizeOf, h.run_info w, h.size]
theorem TyOk.run_zero (h : TyOk P t i inf d z) : (zeroValue t).run P w = .ok z w := by simp [zeroValue, h.run_info w, h.zero]
theorem TyOk.run_agg (h : TyOk P t i inf d z) : (isAgg t).run P w = .ok i.kind.isAgg w := by
 rw [h.kind, kind_agg]
 unfold isAgg
 rw [Sem.run_bind, h.run_und w]
 cases d <;> rfl
end runs

theorem Born.old {es : Array MapEntry} {clock : Nat} (h : Born es clock) : (∀ x ∈ es.toList, x.born < clock) ∧ (es.toList.map (·.born)).Nodup := by
 obtain ⟨rfl, h2⟩ := h
 have key : es.toList.map (·.born) = List.range es.size := by
  apply List.ext_getElem?
  intro i
  simp only [List.getElem?_map, Array.getElem?_toList]
  by_cases hi : i < es.size
  ·rw [Array.getElem?_eq_getElem hi, List.getElem?_range hi]
   simp [h2 i _ (Array.getElem?_eq_getElem hi)]
  ·rw [Array.getElem?_eq_none (by omega), List.getElem?_eq_none (by simp; omega)]
   rfl
 refine ⟨fun x hx => ?_, by rw [key]; exact List.nodup_range⟩
 have : x.born ∈ es.toList.map (·.born) := List.mem_map.2 ⟨x, hx, rfl⟩
 rw [key, List.mem_range] at this
 exact this

@[simp] abbrev tyB : TypeId := 64
@[simp] abbrev tyU : TypeId := 5
def tyM (sz : Nat) : TypeId := if sz = 2 then tyB else tyU
def Tyd (o : Ob) (cs : Array Value) (el : TypeId) : Prop := o.em = true → el = tyM o.sz ∧ (o.sz = 2 → cs.size = 2)

structure ObR (G : Nat → Prop) (ρ : Nat → Nat) (σ : Nat → Slot) (w : World) (o : Ob) (b : Nat) : Prop where
 cel : o.sz ≠ 0 → ∃ cs el, w.heap[b]? = some (.cells cs el (0, 0)) ∧ o.rows.length * o.sz ≤ cs.size ∧
  ∀ (i : Nat) (row : List C), o.rows[i]? = some row → row.length = o.sz ∧
   ∀ (j : Nat) (c : C), row[j]? = some c → CR G ρ σ w c (cs.getD (i * o.sz + j) undef) ∧ c.cell = true
 ent : o.sz = 0 → ∃ es clock, w.heap[b]? = some (.map es clock) ∧ Born es clock ∧ es.size = o.rows.length ∧
  ∀ (i : Nat) (row : List C), o.rows[i]? = some row → row.length = 2 ∧ ∃ e, es[i]? = some e ∧
   ∀ (j : Nat) (c : C), row[j]? = some c → CR G ρ σ w c (if j = 0 then e.key else e.val)
 typ : ∀ (cs : Array Value) (el : TypeId) (fz : Nat × Nat), w.heap[b]? = some (.cells cs el fz) → Tyd o cs el

structure ObC (G : Nat → Prop) (ρ : Nat → Nat) (σ : Nat → Slot) (w : World) (o : Ob) (b : Nat) : Prop where
 cells : ∃ cs el, w.heap[b]? = some (.cells cs el (0, 0)) ∧ o.rows.length * o.sz ≤ cs.size ∧
  ∀ (i : Nat) (row : List C), o.rows[i]? = some row → row.length = o.sz ∧
   ∀ (j : Nat) (c : C), row[j]? = some c → CR G ρ σ w c (cs.getD (i * o.sz + j) undef) ∧ c.cell = true
 pos : 0 < o.sz
 typ : ∀ (cs : Array Value) (el : TypeId) (fz : Nat × Nat), w.heap[b]? = some (.cells cs el fz) → Tyd o cs el

theorem ObR.cs {G : Nat → Prop} {ρ : Nat → Nat} {σ : Nat → Slot} {w : World} {o : Ob} {b : Nat} (h : ObR G ρ σ w o b) (hz : o.sz ≠ 0) : ObC G ρ σ w o b := ⟨h.cel hz, Nat.pos_of_ne_zero hz, h.typ⟩
theorem ObC.ob {G : Nat → Prop} {ρ : Nat → Nat} {σ : Nat → Slot} {w : World} {o : Ob} {b : Nat} (h : ObC G ρ σ w o b) : ObR G ρ σ w o b := ⟨fun _ => h.cells, fun e => absurd e (Nat.ne_of_gt h.pos), h.typ⟩

theorem ObR.noOdd {G : Nat → Prop} {ρ : Nat → Nat} {σ : Nat → Slot} {w : World} {o : Ob} {b : Nat} {q : Obj} (h : ObR G ρ σ w o b) (hq : w.heap[b]? = some q) : oddO q = false := by
 by_cases hz : o.sz = 0
 ·obtain ⟨es, c, h1, _⟩ := h.ent hz
  rw [h1] at hq; cases hq; rfl
 ·obtain ⟨cs, el, h1, _⟩ := h.cel hz
  rw [h1] at hq; cases hq; rfl

theorem ObR.turn {G G' : Nat → Prop} {ρ ρ' : Nat → Nat} {σ σ' : Nat → Slot} {w w' : World} {o o' : Ob} {b b' : Nat} (h : ObR G ρ σ w o b) (hb : w'.heap[b']? = w.heap[b]?) (hs : o'.sz = o.sz) (hl : o'.rows.length = o.rows.length)
  (hc : ∀ (i : Nat) (r r' : List C), o.rows[i]? = some r → o'.rows[i]? = some r' → r'.length = r.length ∧ ∀ (j : Nat) (c c' : C), r[j]? = some c → r'[j]? = some c' → ∀ v, CR G ρ σ w c v → CR G' ρ' σ' w' c' v ∧ (c.cell = true → c'.cell = true)) (he : o'.em = true → o.em = true := by exact fun h => h) : ObR G' ρ' σ' w' o' b' := by
 have old : ∀ (i : Nat) (r' : List C), o'.rows[i]? = some r' → ∃ r, o.rows[i]? = some r := by
  intro i r' hi
  have := (List.getElem?_eq_some_iff.1 hi).1
  exact ⟨o.rows[i]'(by omega), List.getElem?_eq_getElem (by omega)⟩
 have olc : ∀ (r r' : List C) (j : Nat) (c' : C), r'.length = r.length → r'[j]? = some c' → ∃ c, r[j]? = some c := by
  intro r r' j c' he hj
  have := (List.getElem?_eq_some_iff.1 hj).1
  exact ⟨r[j]'(by omega), List.getElem?_eq_getElem (by omega)⟩
 refine ⟨fun hz => ?_, fun hz => ?_, fun cs el fz hh ht => by rw [hs]; exact h.typ cs el fz (by rw [← hb]; exact hh) (he ht)⟩
 ·obtain ⟨cs, el, h1, h2, h3⟩ := h.cel (by rw [← hs]; exact hz)
  refine ⟨cs, el, hb.trans h1, by rw [hl, hs]; exact h2, fun i r' hi => ?_⟩
  obtain ⟨r, hr⟩ := old i r' hi
  obtain ⟨e1, e2⟩ := hc i r r' hr hi
  obtain ⟨h4, h5⟩ := h3 i r hr
  refine ⟨by rw [e1, hs]; exact h4, fun j c' hj => ?_⟩
  obtain ⟨c, hcj⟩ := olc r r' j c' e1 hj
  obtain ⟨h6, h7⟩ := h5 j c hcj
  obtain ⟨g1, g2⟩ := e2 j c c' hcj hj _ h6
  rw [hs]
  exact ⟨g1, g2 h7⟩
 ·obtain ⟨es, q, h1, hbo, h2, h3⟩ := h.ent (by rw [← hs]; exact hz)
  refine ⟨es, q, hb.trans h1, hbo, by rw [hl]; exact h2, fun i r' hi => ?_⟩
  obtain ⟨r, hr⟩ := old i r' hi
  obtain ⟨e1, e2⟩ := hc i r r' hr hi
  obtain ⟨h4, e, h5, h6⟩ := h3 i r hr
  refine ⟨by rw [e1]; exact h4, e, h5, fun j c' hj => ?_⟩
  obtain ⟨c, hcj⟩ := olc r r' j c' e1 hj
  exact (e2 j c c' hcj hj _ (h6 j c hcj)).1

structure StoR (G : Nat → Prop) (ρ : Nat → Nat) (σ : Nat → Slot) (w : World) : Prop where
 ob : ∀ k o, σ k = .live o → o.nl = false → ObR G ρ σ w o (ρ k)
 nil : ∀ k o, σ k = .live o → o.nl = true → o.rows = []
 inj : ∀ k k' o o', σ k = .live o → σ k' = .live o' → o.nl = false → o'.nl = false → ρ k = ρ k' → k = k'

theorem ObR.lt {G : Nat → Prop} {ρ : Nat → Nat} {σ : Nat → Slot} {w : World} {o : Ob} {b : Nat} (h : ObR G ρ σ w o b) : b < w.heap.size := by
 by_cases hz : o.sz = 0
 ·obtain ⟨es, c, h1, _⟩ := h.ent hz
  exact (Array.getElem?_eq_some_iff.1 h1).1
 ·obtain ⟨cs, el, h1, _⟩ := h.cel hz
  exact (Array.getElem?_eq_some_iff.1 h1).1

theorem addr_add (b o n : Nat) : (⟨b, o, none⟩ : Addr).add n = ⟨b, o + n, none⟩ := by
 unfold Addr.add; split <;> simp_all

def cellsAt (σ : Nat → Slot) : C → Option (List C × Nat)
 | .ip row j => some (row, j)
 | .ptr k sz i j => match σ k with
  | .live o => if o.nl = false ∧ o.sz = sz then (o.rows[i]?).map (·, j) else none
  | _ => none
 | _ => none

theorem cellsAt_sound {G : Nat → Prop} {ρ : Nat → Nat} {σ : Nat → Slot} {w : World} {c : C} {v : Value} {row : List C} {j : Nat}
  (hs : StoR G ρ σ w) (h : cellsAt σ c = some (row, j)) (hr : CR G ρ σ w c v) :
  ∃ b f, v = .pointer (some ⟨b, f + j, none⟩) ∧ ∀ (q : Nat) (d : C), row[q]? = some d → ∃ u, w.cell? ⟨b, f + q, none⟩ = some u ∧ CR G ρ σ w d u := by
 unfold cellsAt at h
 split at h
 ·rename_i row' j'
  simp only [Option.some.injEq, Prod.mk.injEq] at h
  obtain ⟨rfl, rfl⟩ := h
  have hp := hr.isPure rfl
  cases hp with
  | ip cell hG hb ho hcell hcl hq0 => exact ⟨_, _, by rw [ho], fun q d hq => ⟨_, hcell q d hq, .pure (hq0 q d hq)⟩⟩
 ·rename_i k sz i j'
  split at h
  ·rename_i o hk
   split at h
   ·rename_i hc
    obtain ⟨hnl, rfl⟩ := hc
    cases hrow : o.rows[i]? with
    | none => simp [hrow] at h
    | some row' =>
     simp only [hrow, Option.map_some, Option.some.injEq, Prod.mk.injEq] at h
     obtain ⟨rfl, rfl⟩ := h
     have ho := hs.ob k o hk hnl
     obtain ⟨cs, el, h1, h2, h3⟩ := ho.cel (by
      cases hr with
      | pure p => cases p
      | ptrDead hd hv => rw [hk] at hd; cases hd
      | ptr hl hn hsz hz hf => rw [hk] at hl; cases hl; exact hz)
     obtain ⟨h4, h5⟩ := h3 i _ hrow
     have hi : i < o.rows.length := (List.getElem?_eq_some_iff.1 hrow).1
     have key : ∀ (q : Nat) (d : C), row'[q]? = some d → ∃ u, w.cell? ⟨ρ k, i * o.sz + q, none⟩ = some u ∧ CR G ρ σ w d u := by
      intro q d hq
      have hq' : q < row'.length := (List.getElem?_eq_some_iff.1 hq).1
      have hlt : i * o.sz + q < cs.size := by
       have : (i + 1) * o.sz ≤ o.rows.length * o.sz := Nat.mul_le_mul_right _ hi
       rw [Nat.add_mul] at this
       omega
      refine ⟨cs.getD (i * o.sz + q) undef, ?_, (h5 q d hq).1⟩
      simp [World.cell?, h1, hlt]
     cases hr with
     | pure p => cases p
     | ptrDead hd hv => rw [hk] at hd; cases hd
     | ptr hl hn hsz hz hf => exact ⟨ρ k, i * o.sz, by rw [hf], key⟩
   ·simp at h
  ·simp at h
 ·simp at h

def partC (agg : Bool) (off size : Nat) (cs : List C) : Option C :=
 if agg then
  if off + size ≤ cs.length then some (.agg ((cs.drop off).take size)) else none
 else cs[off]?

def loadC (P : Program) (σ : Nat → Slot) (t : TypeId) (a : C) : Option C :=
 match tyOf P t, cellsAt σ a with
 | some i, some (row, j) => partC i.kind.isAgg j i.size row
 | _, _ => none

theorem loadC_sound {P : Program} {G : Nat → Prop} {ρ : Nat → Nat} {σ : Nat → Slot} {w : World} {t : TypeId} {a c : C} {v : Value}
  (hs : StoR G ρ σ w) (h : loadC P σ t a = some c) (hr : CR G ρ σ w a v) :
  ∃ u, (Instr.loadAt t v).run P w = .ok u w ∧ CR G ρ σ w c u := by
 unfold loadC at h
 split at h
 ·rename_i i row j hi hc
  obtain ⟨inf, d, z, ht⟩ := tyOf_ok hi
  obtain ⟨b, f, rfl, key⟩ := cellsAt_sound hs hc hr
  unfold partC at h
  simp only [Instr.loadAt, Instr.sureAddr, loadVar, Sem.run_bind, Sem.run_pure, Result.andThen_ok, ht.run_agg w]
  split at h
  ·rename_i hagg
   split at h
   ·rename_i hle
    simp only [Option.some.injEq] at h
    subst h
    simp only [hagg, if_true, Sem.run_bind, ht.run_size w, Result.andThen_ok]
    have hex : ∀ q, q < i.size → ∃ u, w.cell? ⟨b, f + j + q, none⟩ = some u ∧ ∀ d, row[j + q]? = some d → CR G ρ σ w d u := by
     intro q hq
     have hlt : j + q < row.length := by omega
     obtain ⟨u, h1, h2⟩ := key (j + q) row[j + q] (List.getElem?_eq_getElem hlt)
     refine ⟨u, by rw [Nat.add_assoc]; exact h1, fun d hd => ?_⟩
     rw [List.getElem?_eq_getElem hlt] at hd
     cases hd; exact h2
    let fn : Nat → Value := fun q => (w.cell? ⟨b, f + j + q, none⟩).getD undef
    have hfn : ∀ q, q < i.size → w.cell? ((⟨b, f + j, none⟩ : Addr).add q) = some (fn q) := by
     intro q hq
     obtain ⟨u, h1, _⟩ := hex q hq
     rw [addr_add, h1]; simp [fn, h1]
    rw [run_loadCells w _ i.size fn hfn]
    refine ⟨_, rfl, .agg (by simp; omega) fun q d hd => ?_⟩
    have hq : q < i.size := by
     have := (List.getElem?_eq_some_iff.1 hd).1
     simp at this; omega
    obtain ⟨u, h1, h2⟩ := hex q hq
    rw [List.getElem?_take_of_lt hq, List.getElem?_drop] at hd
    have := h2 d hd
    simp [hq, fn, h1]
    exact this
   ·simp at h
  ·rename_i hagg
   obtain ⟨u, h1, h2⟩ := key j c h
   simp only [hagg, Bool.false_eq_true, if_false, run_load, h1]
   exact ⟨u, rfl, h2⟩
 ·simp at h

end Go.Abs

/- The operations that only compute a value: what they give on abstract values, and that the model's run gives what this stands for. No condition. -/
namespace Go.Abs

def CL (G : Nat → Prop) (ρ : Nat → Nat) (σ : Nat → Slot) (w : World) (l : List C) (vs : Array Value) : Prop :=
 vs.size = l.length ∧ ∀ (i : Nat) (c : C), l[i]? = some c → CR G ρ σ w c (vs.getD i undef)

section
variable {P : Program} {G : Nat → Prop} {ρ : Nat → Nat} {σ : Nat → Slot} {w : World}

theorem CR.aggOf {l : List C} {v : Value} (h : CR G ρ σ w (.agg l) v) : ∃ vs, v = .agg vs ∧ CL G ρ σ w l vs := by
 cases h with
 | pure p => cases p with
  | agg h hr => exact ⟨_, rfl, h, fun i c hi => .pure (hr i c hi)⟩
 | agg h hr => exact ⟨_, rfl, h, hr⟩

theorem CR.tupOf {l : List C} {v : Value} (h : CR G ρ σ w (.tup l) v) : ∃ vs, v = .tuple vs ∧ CL G ρ σ w l vs := by
 cases h with
 | pure p => cases p with
  | tup h hr => exact ⟨_, rfl, h, fun i c hi => .pure (hr i c hi)⟩
 | tup h hr => exact ⟨_, rfl, h, hr⟩

theorem CR.intOf {k : IntKind} {n : Int} {v : Value} (h : CR G ρ σ w (.int k n) v) : v = .int k n := by
 cases h with
 | pure p => cases p; rfl

theorem CR.boolOf {b : Bool} {v : Value} (h : CR G ρ σ w (.bool b) v) : v = .bool b := by
 cases h with
 | pure p => cases p; rfl

theorem CR.strOf {s : ByteArray} {v : Value} (h : CR G ρ σ w (.str s) v) : v = .string s := by
 cases h with
 | pure p => cases p; rfl

theorem CR.pnilOf {v : Value} (h : CR G ρ σ w .pnil v) : v = .pointer none := by
 cases h with
 | pure p => cases p; rfl

theorem CR.fnOf {f : Fn} {a b : List C} {v : Value} (h : CR G ρ σ w (.fn f a b) v) : ∃ v1 v2, v = .func f v1 v2 ∧ CL G ρ σ w a v1 ∧ CL G ρ σ w b v2 := by
 cases h with
 | pure p => cases p with
  | fn h1 h2 r1 r2 => exact ⟨_, _, rfl, ⟨h1, fun i c hi => .pure (r1 i c hi)⟩, ⟨h2, fun i c hi => .pure (r2 i c hi)⟩⟩
 | fn h1 h2 r1 r2 => exact ⟨_, _, rfl, ⟨h1, r1⟩, ⟨h2, r2⟩⟩

theorem CR.ipOf {row : List C} {j : Nat} {v : Value} (h : CR G ρ σ w (.ip row j) v) : ∃ b f, v = .pointer (some ⟨b, f + j, none⟩) ∧ PR G w (.ip row j) v := by
 have p := h.isPure rfl
 cases p with
 | ip cell hG hb ho hcell hcl hr => exact ⟨_, _, by rw [ho], .ip cell hG hb ho hcell hcl hr⟩

theorem CR.slOf {nl full : Bool} {rows : List (List C)} {v : Value} (h : CR G ρ σ w (.sl nl full rows) v) :
  ∃ a cap, v = .slice a rows.length cap ∧ (a.isNone = nl) ∧ (nl = true → rows = [] ∧ cap = 0) ∧ PR G w (.sl nl full rows) v := by
 have p := h.isPure rfl
 cases p with
 | slnil => exact ⟨none, 0, rfl, rfl, fun _ => ⟨rfl, rfl⟩, .slnil _⟩
 | slemp full a => exact ⟨some a, 0, rfl, rfl, by simp, .slemp _ _⟩
 | sl cell hG hb hn hf hc hsz hcell hcl hr => exact ⟨_, _, by rw [hn], rfl, by simp, .sl cell hG hb hn hf hc hsz hcell hcl hr⟩

def isLive (σ : Nat → Slot) (k : Nat) : Bool :=
 match σ k with
 | .live _ => true
 | _ => false

theorem isLive_iff {k : Nat} (h : isLive σ k = true) : ∃ o, σ k = .live o := by
 unfold isLive at h
 split at h
 ·exact ⟨_, ‹_›⟩
 ·simp at h

theorem CR.ptrOf {k sz i j : Nat} {v : Value} (h : CR G ρ σ w (.ptr k sz i j) v) (hl : isLive σ k = true) :
  ∃ o, σ k = .live o ∧ o.nl = false ∧ o.sz = sz ∧ v = .pointer (some ⟨ρ k, i * sz + j, none⟩) := by
 obtain ⟨o, ho⟩ := isLive_iff hl
 cases h with
 | pure p => cases p
 | ptrDead hd hv => rw [ho] at hd; cases hd
 | ptr hl hn hs hz hf => exact ⟨_, hl, hn, hs, by rw [hf]⟩

theorem CR.ownOf {k sz lo n : Nat} {v : Value} (h : CR G ρ σ w (.own k sz lo n) v) (hl : isLive σ k = true) :
  ∃ o, σ k = .live o ∧ ((o.nl = true ∧ lo = 0 ∧ n = 0 ∧ ∃ a, a.isNone = (!o.em) ∧ v = .slice a 0 0) ∨
   (o.nl = false ∧ o.sz = sz ∧ ∃ cap, n ≤ cap ∧ v = .slice (some ⟨ρ k, lo * sz, none⟩) n cap ∧
    ∀ cs el fz, w.heap[ρ k]? = some (.cells cs el fz) → (lo + cap) * sz ≤ cs.size)) := by
 obtain ⟨o, ho⟩ := isLive_iff hl
 cases h with
 | pure p => cases p
 | ownDead hd hv => rw [ho] at hd; cases hd
 | ownNil hl hn ha => exact ⟨_, hl, .inl ⟨hn, rfl, rfl, _, ha, rfl⟩⟩
 | own hl hn hs hz hc hf hm hroom => exact ⟨_, hl, .inr ⟨hn, hs, _, hc, by rw [hf, hm], hroom⟩⟩

theorem CR.ptrZ {k sz i j : Nat} {v : Value} {o : Ob} (h : CR G ρ σ w (.ptr k sz i j) v) (ho : σ k = .live o) : sz ≠ 0 := by
 cases h with
 | pure p => cases p
 | ptrDead hd hv => rw [ho] at hd; cases hd
 | ptr hl hn hs hz hf => exact hz

theorem CR.ownZ {k sz lo n : Nat} {v : Value} {o : Ob} (h : CR G ρ σ w (.own k sz lo n) v) (ho : σ k = .live o) (hn : o.nl = false) : sz ≠ 0 := by
 cases h with
 | pure p => cases p
 | ownDead hd hv => rw [ho] at hd; cases hd
 | ownNil hl hn' ha => rw [ho] at hl; cases hl; rw [hn] at hn'; cases hn'
 | own hl hn hs hz hc hf hm hroom => exact hz

theorem CR.ptrAny {k sz i j : Nat} {v : Value} (h : CR G ρ σ w (.ptr k sz i j) v) : ∃ a, v = .pointer (some a) := by
 cases h with
 | pure p => cases p
 | ptrDead hd hv => exact hv
 | ptr hl hn hs hz hf => exact ⟨_, rfl⟩

theorem CR.ownAny {k sz lo n : Nat} {v : Value} (h : CR G ρ σ w (.own k sz lo n) v) : SlShape n v := by
 cases h with
 | pure p => cases p
 | ownDead hd hv => exact hv
 | ownNil hl hn ha => exact .inr ⟨rfl, _, rfl⟩
 | own hl hn hs hz hc hf hm hroom => exact .inl ⟨_, _, by rw [hm], hc⟩


def intBin (op : BinOp) (k : IntKind) (a b : Int) : Option C :=
 match op with
 | .add => some (.int k (k.wrap (a + b)))
 | .sub => some (.int k (k.wrap (a - b)))
 | .mul => some (.int k (k.wrap (a * b)))
 | .quo => if b = 0 then none else some (.int k (k.wrap (a.tdiv b)))
 | .rem => if b = 0 then none else some (.int k (a.tmod b))
 | .and => some (.int k (k.wrap (BitVec.ofInt k.bits a &&& BitVec.ofInt k.bits b).toNat))
 | .or => some (.int k (k.wrap (BitVec.ofInt k.bits a ||| BitVec.ofInt k.bits b).toNat))
 | .xor => some (.int k (k.wrap (BitVec.ofInt k.bits a ^^^ BitVec.ofInt k.bits b).toNat))
 | .andNot => some (.int k (k.wrap (BitVec.ofInt k.bits a &&& ~~~BitVec.ofInt k.bits b).toNat))
 | .eql => some (.bool (a == b))
 | .neq => some (.bool (a != b))
 | .lss => some (.bool (decide (a < b)))
 | .leq => some (.bool (decide (a ≤ b)))
 | .gtr => some (.bool (decide (a > b)))
 | .geq => some (.bool (decide (a ≥ b)))
 | _ => none

def shiftC (op : BinOp) (k : IntKind) (x y : Int) : Option C :=
 if y < 0 then none else
 match op with
 | .shl => some (.int k (k.wrap (x * 2 ^ (min y.toNat k.bits))))
 | .shr => some (.int k (x.fdiv (2 ^ (min y.toNat k.bits))))
 | _ => none

def strBin (op : BinOp) (x y : ByteArray) : Option C :=
 match op with
 | .add => if ((x.size + y.size : Nat) : Int) > IntKind.i64.max then none else some (.str (x ++ y))
 | .eql => some (.bool (x.toList == y.toList))
 | .neq => some (.bool (!(x.toList == y.toList)))
 | .lss => some (.bool (Op.bytesLess x.toList y.toList))
 | .leq => some (.bool (Op.bytesLess x.toList y.toList || x.toList == y.toList))
 | .gtr => some (.bool (!(Op.bytesLess x.toList y.toList || x.toList == y.toList)))
 | .geq => some (.bool (!(Op.bytesLess x.toList y.toList)))
 | _ => none

def flatF (P : Program) (p : Field × Nat) : Option IntKind :=
 if (p.1.name != "_") = true ∧ p.1.offset = p.2 ∧ ((P.underlying p.1.type).map descAgg) = some false then
   match P.underlying p.1.type with
   | some (.int k) => some k
   | _ => none
  else none

def flatEq (P : Program) (t : TypeId) : Option (List IntKind) :=
 if P.stoodInHeld t then none else if P.eqGuardType P.depth t then none else
 match P.underlying t with
 | some (.struct fs) => fs.toList.zipIdx.mapM (flatF P)
 | _ => none

def deepF (P : Program) (r : TypeId → Option (List IntKind)) : List Field → Nat → Option (List IntKind)
 | [], _ => some []
 | f :: l, o =>
  if (f.name != "_") = true ∧ f.offset = o then
   match r f.type with
   | some k1 => if P.cellsOf f.type = k1.length ∧ k1.length ≠ 0 then
     match deepF P r l (o + k1.length) with
     | some k2 => some (k1 ++ k2)
     | none => none
    else none
   | none => none
  else none

def deepKs (P : Program) : Nat → TypeId → Option (List IntKind)
 | 0, _ => none
 | n + 1, t => match P.underlying t with
  | some (.int k) => some [k]
  | some (.struct fs) => if P.stoodInHeld t then none else deepF P (deepKs P n) fs.toList 0
  | _ => none

def deepEq (P : Program) (t : TypeId) : Option (List IntKind) :=
 if P.stoodInHeld t then none else if P.eqGuardType P.depth t then none else
 match P.underlying t with
 | some (.struct _) => deepKs P 8 t
 | _ => none

def eqMix : List (Option IntKind) → List C → List C → Option Bool
 | [], [], [] => some true
 | some k :: ks, .int k1 a :: xs, .int k2 b :: ys => if k1 = k ∧ k2 = k then (eqMix ks xs ys).map fun r => decide (a = b) && r else none
 | none :: ks, .str a :: xs, .str b :: ys => (eqMix ks xs ys).map fun r => (a == b) && r
 | _, _, _ => none

def mixF (P : Program) (p : Field × Nat) : Option (Option IntKind) :=
 if (p.1.name != "_") = true ∧ p.1.offset = p.2 ∧ ((P.underlying p.1.type).map descAgg) = some false then
   match P.underlying p.1.type with
   | some (.int k) => some (some k)
   | some .string => some none
   | _ => none
  else none

def mixEq (P : Program) (t : TypeId) : Option (List (Option IntKind)) :=
 if P.stoodInHeld t then none else if P.eqGuardType P.depth t then none else
 match P.underlying t with
 | some (.struct fs) => fs.toList.zipIdx.mapM (mixF P)
 | _ => none

def eqlC (P : Program) (σ : Nat → Slot) (t : TypeId) (x y : C) : Option Bool :=
 match (tyOf P t).map TI.kind, x, y with
 | some .bool, .bool a, .bool b => some (a == b)
 | some (.slice _), .sl a _ _, .sl b _ _ => if a || b then some (a && b) else none
 | some (.slice _), .own k _ _ _, .sl true _ _ => match σ k with
  | .live o => some (o.nl && !o.em)
  | _ => none
 | some (.ptr _), .pnil, .pnil => some true
 | some (.ptr _), .ip _ _, .pnil => some false
 | some (.ptr _), .ptr _ _ _ _, .pnil => some false
 | some .func, .fn _ _ _, .fnil => some false
 | some .func, .fnil, .fnil => some true
 | some (.map _ _), .mp _, .md true [] => some false
 | some (.map _ _), .md nl _, .md true [] => some nl
 | some (.struct _), .agg xs, .agg ys => match flatEq P t with
  | some ks => eqInts ks xs ys
  | none => match deepEq P t with
   | some ks => eqInts ks xs ys
   | none => match mixEq P t with
    | some ks => eqMix ks xs ys
    | none => none
 | _, _, _ => none

def binC (P : Program) (σ : Nat → Slot) (op : BinOp) (t : TypeId) (x y : C) : Option C :=
 match x, y with
 | .int k a, .int k' b =>
  match op with
  | .shl => shiftC .shl k a b
  | .shr => shiftC .shr k a b
  | _ => if k = k' then intBin op k a b else none
 | .str a, .str b => strBin op a b
 | _, _ =>
  match op with
  | .eql => (eqlC P σ t x y).map .bool
  | .neq => (eqlC P σ t x y).map fun b => .bool (!b)
  | _ => none

theorem tyOf_kind {t : TypeId} {k : TK} (h : (tyOf P t).map TI.kind = some k) : ∃ i inf d z, TyOk P t i inf d z ∧ kindOf P d = k := by
 cases hi : tyOf P t with
 | none => simp [hi] at h
 | some i =>
  obtain ⟨inf, d, z, ht⟩ := tyOf_ok hi
  simp only [hi, Option.map_some, Option.some.injEq] at h
  exact ⟨i, inf, d, z, ht, ht.kind ▸ h⟩

theorem run_intBin {op : BinOp} {k : IntKind} {a b : Int} {c : C} (h : intBin op k a b = some c) :
    ∃ v, (match op with
    | .add | .sub | .mul => Op.intArith op k a b
    | .quo | .rem => Op.intDiv op k a b
    | .and | .or | .xor | .andNot => Op.intBits op k a b
    | _ => Op.intCmp op a b : Sem Value).run P w = .ok v w ∧ CR G ρ σ w c v := by
  cases op <;> simp only [intBin] at h
  all_goals first
    | (split at h
       · simp at h
       · rename_i hb
         simp only [Option.some.injEq] at h
         subst h
         exact ⟨_, by simp [Op.intDiv, hb], .pure (.int _ _)⟩)
    | (simp only [Option.some.injEq] at h
       subst h
       first
         | exact ⟨_, rfl, .pure (.int _ _)⟩
         | exact ⟨_, rfl, .pure (.bool _)⟩)
    | (simp at h; done)

theorem run_strBin {op : BinOp} {a b : ByteArray} {c : C} (h : strBin op a b = some c) :
    ∃ v, (Op.stringOp op a b).run P w = .ok v w ∧ CR G ρ σ w c v := by
  cases op <;> simp only [strBin] at h
  all_goals first
    | (split at h
       · simp at h
       · rename_i hb
         simp only [Option.some.injEq] at h
         subst h
         exact ⟨_, by simp only [Op.stringOp, if_neg hb]; rfl, .pure (.str _)⟩)
    | (simp only [Option.some.injEq] at h
       subst h
       exact ⟨_, rfl, .pure (.bool _)⟩)
    | (simp at h; done)

theorem equal_one : ∃ d, (∃ e, d = e + 1) ∧ (∀ t u v, Op.equal t u v = Op.equalIn (d + 1) t u v) ∧ 8 ≤ d + 1 := ⟨9999, ⟨9998, rfl⟩, fun _ _ _ => rfl, by decide⟩

theorem run_part1 {t : TypeId} {d : TypeDesc} (h : P.underlying t = some d) (hd : descAgg d = false) {cs : Array Value} {i : Nat} (hi : i < cs.size) : (part t cs i).run P w = .ok (cs.getD i undef) w := by
 have : (isAgg t).run P w = .ok false w := by
  simp only [isAgg, underlying, Sem.run_bind, run_program, Result.andThen_ok, h, Sem.run_pure]
  cases d <;> simp_all [descAgg]
 simp only [part, Sem.run_bind, this, Result.andThen_ok]
 simp [hi]

theorem flat_loop {dp : Nat} {vx vy : Array Value} : ∀ (l : List Field) (o : Nat) (ks : List IntKind) (xs ys : List C) (b : Bool), (l.zipIdx o).mapM (flatF P) = some ks → eqInts ks xs ys = some b →
    vx.size = o + xs.length → vy.size = o + ys.length → (∀ (i : Nat) (c : C), xs[i]? = some c → CR G ρ σ w c (vx.getD (o + i) undef)) → (∀ (i : Nat) (c : C), ys[i]? = some c → CR G ρ σ w c (vy.getD (o + i) undef)) →
    (forIn l ((none : Option Bool), ()) fun f __s =>
               if f.name ≠ "_" then do
                 let __do_lift ← part f.type vx f.offset
                 let __do_lift_1 ← part f.type vy f.offset
                 let __do_lift ← Op.equalIn (dp + 1) f.type __do_lift __do_lift_1
                 if (!__do_lift) = true then pure (ForInStep.done (some false, ())) else pure (ForInStep.yield (none, ()))
               else pure (ForInStep.yield (none, ())) : Sem (Option Bool × Unit)).run P w = .ok (if b then none else some false, ()) w
  | [], o, ks, xs, ys, b, hk, he, _, _, _, _ => by
    simp at hk
    subst hk
    cases xs <;> cases ys <;> simp [eqInts] at he
    subst he
    simp
  | f :: l, o, ks, xs, ys, b, hk, he, sx, sy, hx, hy => by
    simp only [List.zipIdx_cons, List.mapM_cons, Option.bind_eq_bind, Option.bind_eq_some_iff, Option.pure_def, Option.some.injEq] at hk
    obtain ⟨k, hf, ks', hk', rfl⟩ := hk
    unfold flatF at hf
    split at hf
    · rename_i hc
      obtain ⟨h1, h2, h3⟩ := hc
      simp only at h1 h2 h3 hf
      split at hf
      · rename_i k' hu
        simp only [Option.some.injEq] at hf
        subst hf
        cases xs with
        | nil => cases ys <;> simp [eqInts] at he
        | cons c xs =>
          cases ys with
          | nil => cases c <;> simp [eqInts] at he
          | cons d ys =>
            cases c <;> cases d <;> simp only [eqInts] at he <;> try (simp at he; done)
            rename_i k1 a k2 a'
            split at he
            · rename_i hkk
              obtain ⟨rfl, rfl⟩ := hkk
              simp only [Option.map_eq_some_iff] at he
              obtain ⟨r, hr, rfl⟩ := he
              have ex := (hx 0 _ rfl).intOf
              have ey := (hy 0 _ rfl).intOf
              simp only [Nat.add_zero] at ex ey
              have p1 := run_part1 (P := P) (w := w) (cs := vx) (i := o) hu rfl (by simp at sx; omega)
              have p2 := run_part1 (P := P) (w := w) (cs := vy) (i := o) hu rfl (by simp at sy; omega)
              have e1 : (Op.equalIn (dp + 1) f.type (.int k2 a) (.int k2 a')).run P w = .ok (a == a') w := by
                simp [Op.equalIn, underlying, hu]
              have h1' : f.name ≠ "_" := by simpa using h1
              rw [List.forIn_cons]
              simp only [if_pos h1', h2, Sem.run_bind, p1, p2, ex, ey, Result.andThen_ok, e1]
              by_cases haa : a = a'
              · subst haa
                simp only [beq_self_eq_true, Bool.not_true, Bool.false_eq_true, if_false, Sem.run_pure, Result.andThen_ok]
                have := flat_loop (dp := dp) (vx := vx) (vy := vy) l (o + 1) ks' xs ys r hk' hr (by simp at sx; omega) (by simp at sy; omega) (fun i c hi => by have := hx (i + 1) c (by simpa using hi); rwa [show o + 1 + i = o + (i + 1) by omega])
                  (fun i c hi => by have := hy (i + 1) c (by simpa using hi); rwa [show o + 1 + i = o + (i + 1) by omega])
                simpa using this
              · have : (a == a') = false := by simpa using haa
                simp [this, haa]
            · simp at he
      · simp at hf
    · simp at hf

theorem mix_loop {dp : Nat} {vx vy : Array Value} : ∀ (l : List Field) (o : Nat) (ks : List (Option IntKind)) (xs ys : List C) (b : Bool), (l.zipIdx o).mapM (mixF P) = some ks → eqMix ks xs ys = some b →
    vx.size = o + xs.length → vy.size = o + ys.length → (∀ (i : Nat) (c : C), xs[i]? = some c → CR G ρ σ w c (vx.getD (o + i) undef)) → (∀ (i : Nat) (c : C), ys[i]? = some c → CR G ρ σ w c (vy.getD (o + i) undef)) →
    (forIn l ((none : Option Bool), ()) fun f __s =>
               if f.name ≠ "_" then do
                 let __do_lift ← part f.type vx f.offset
                 let __do_lift_1 ← part f.type vy f.offset
                 let __do_lift ← Op.equalIn (dp + 1) f.type __do_lift __do_lift_1
                 if (!__do_lift) = true then pure (ForInStep.done (some false, ())) else pure (ForInStep.yield (none, ()))
               else pure (ForInStep.yield (none, ())) : Sem (Option Bool × Unit)).run P w = .ok (if b then none else some false, ()) w
  | [], o, ks, xs, ys, b, hk, he, _, _, _, _ => by
    simp at hk
    subst hk
    cases xs <;> cases ys <;> simp [eqMix] at he
    subst he
    simp
  | f :: l, o, ks, xs, ys, b, hk, he, sx, sy, hx, hy => by
    simp only [List.zipIdx_cons, List.mapM_cons, Option.bind_eq_bind, Option.bind_eq_some_iff, Option.pure_def, Option.some.injEq] at hk
    obtain ⟨k, hf, ks', hk', rfl⟩ := hk
    unfold mixF at hf
    split at hf
    · rename_i hc
      obtain ⟨h1, h2, h3⟩ := hc
      simp only at h1 h2 h3 hf
      split at hf
      · rename_i k' hu
        simp only [Option.some.injEq] at hf
        subst hf
        cases xs with
        | nil => cases ys <;> simp [eqMix] at he
        | cons c xs =>
          cases ys with
          | nil => cases c <;> simp [eqMix] at he
          | cons d ys =>
            cases c <;> cases d <;> simp only [eqMix] at he <;> try (simp at he; done)
            rename_i k1 a k2 a'
            split at he
            · rename_i hkk
              obtain ⟨rfl, rfl⟩ := hkk
              simp only [Option.map_eq_some_iff] at he
              obtain ⟨r, hr, rfl⟩ := he
              have ex := (hx 0 _ rfl).intOf
              have ey := (hy 0 _ rfl).intOf
              simp only [Nat.add_zero] at ex ey
              have p1 := run_part1 (P := P) (w := w) (cs := vx) (i := o) hu rfl (by simp at sx; omega)
              have p2 := run_part1 (P := P) (w := w) (cs := vy) (i := o) hu rfl (by simp at sy; omega)
              have e1 : (Op.equalIn (dp + 1) f.type (.int k2 a) (.int k2 a')).run P w = .ok (a == a') w := by
                simp [Op.equalIn, underlying, hu]
              have h1' : f.name ≠ "_" := by simpa using h1
              rw [List.forIn_cons]
              simp only [if_pos h1', h2, Sem.run_bind, p1, p2, ex, ey, Result.andThen_ok, e1]
              by_cases haa : a = a'
              · subst haa
                simp only [beq_self_eq_true, Bool.not_true, Bool.false_eq_true, if_false, Sem.run_pure, Result.andThen_ok]
                have := mix_loop (dp := dp) (vx := vx) (vy := vy) l (o + 1) ks' xs ys r hk' hr (by simp at sx; omega) (by simp at sy; omega) (fun i c hi => by have := hx (i + 1) c (by simpa using hi); rwa [show o + 1 + i = o + (i + 1) by omega])
                  (fun i c hi => by have := hy (i + 1) c (by simpa using hi); rwa [show o + 1 + i = o + (i + 1) by omega])
                simpa using this
              · have : (a == a') = false := by simpa using haa
                simp [this, haa]
            · simp at he
      · rename_i hu
        simp only [Option.some.injEq] at hf
        subst hf
        cases xs with
        | nil => cases ys <;> simp [eqMix] at he
        | cons c xs =>
          cases ys with
          | nil => cases c <;> simp [eqMix] at he
          | cons d ys =>
            cases c <;> cases d <;> simp only [eqMix] at he <;> try (simp at he; done)
            rename_i a a'
            simp only [Option.map_eq_some_iff] at he
            obtain ⟨r, hr, rfl⟩ := he
            have ex := (hx 0 _ rfl).strOf
            have ey := (hy 0 _ rfl).strOf
            simp only [Nat.add_zero] at ex ey
            have p1 := run_part1 (P := P) (w := w) (cs := vx) (i := o) hu rfl (by simp at sx; omega)
            have p2 := run_part1 (P := P) (w := w) (cs := vy) (i := o) hu rfl (by simp at sy; omega)
            have e1 : (Op.equalIn (dp + 1) f.type (.string a) (.string a')).run P w = .ok (a == a') w := by
              simp [Op.equalIn, underlying, hu]
            have h1' : f.name ≠ "_" := by simpa using h1
            rw [List.forIn_cons]
            simp only [if_pos h1', h2, Sem.run_bind, p1, p2, ex, ey, Result.andThen_ok, e1]
            cases haa : (a == a')
            · simp
            · simp only [Bool.not_true, Bool.false_eq_true, if_false, Sem.run_pure, Result.andThen_ok, Bool.true_and]
              exact mix_loop (dp := dp) (vx := vx) (vy := vy) l (o + 1) ks' xs ys r hk' hr (by simp at sx; omega) (by simp at sy; omega) (fun i c hi => by have := hx (i + 1) c (by simpa using hi); rwa [show o + 1 + i = o + (i + 1) by omega])
                (fun i c hi => by have := hy (i + 1) c (by simpa using hi); rwa [show o + 1 + i = o + (i + 1) by omega])
      · simp at hf
    · simp at hf

theorem eqInts_lens : ∀ {ks : List IntKind} {xs ys : List C} {b : Bool}, eqInts ks xs ys = some b → xs.length = ks.length ∧ ys.length = ks.length
 | [], [], [], _, _ => ⟨rfl, rfl⟩
 | [], _ :: _, _, _, h => by simp [eqInts] at h
 | [], [], _ :: _, _, h => by simp [eqInts] at h
 | k :: ks, [], ys, _, h => by cases ys <;> simp [eqInts] at h
 | k :: ks, x :: xs, [], _, h => by cases x <;> simp [eqInts] at h
 | k :: ks, x :: xs, y :: ys, _, h => by
  cases x <;> cases y <;> simp only [eqInts] at h <;> try (simp at h; done)
  split at h
  ·simp only [Option.map_eq_some_iff] at h
   obtain ⟨r, h, _⟩ := h
   obtain ⟨h1, h2⟩ := eqInts_lens h
   simp [h1, h2]
  ·simp at h

theorem eqInts_split : ∀ {k1 k2 : List IntKind} {xs ys : List C} {b : Bool}, eqInts (k1 ++ k2) xs ys = some b →
  ∃ b1 b2, eqInts k1 (xs.take k1.length) (ys.take k1.length) = some b1 ∧ eqInts k2 (xs.drop k1.length) (ys.drop k1.length) = some b2 ∧ b = (b1 && b2)
 | [], k2, xs, ys, b, h => ⟨true, b, by simp [eqInts], by simpa using h, by simp⟩
 | k :: k1, k2, [], ys, b, h => by cases ys <;> simp [eqInts] at h
 | k :: k1, k2, x :: xs, [], b, h => by cases x <;> simp [eqInts] at h
 | k :: k1, k2, x :: xs, y :: ys, b, h => by
  cases x <;> cases y <;> simp only [List.cons_append, eqInts] at h <;> try (simp at h; done)
  split at h
  ·rename_i hk
   simp only [Option.map_eq_some_iff] at h
   obtain ⟨r, hr, rfl⟩ := h
   obtain ⟨b1, b2, h1, h2, rfl⟩ := eqInts_split hr
   rename_i ka xa kb yb
   refine ⟨decide (xa = yb) && b1, b2, ?_, by simpa using h2, ?_⟩
   ·simp only [List.length_cons, List.take_succ_cons, eqInts, if_pos hk, h1, Option.map_some]
   ·rw [Bool.and_assoc]
  ·simp at h

def RepE (P : Program) (G : Nat → Prop) (ρ : Nat → Nat) (σ : Nat → Slot) (w : World) (t : TypeId) (xs : List C) (u : Value) : Prop :=
 ∃ d, P.underlying t = some d ∧ (descAgg d = true → ∃ vx, u = .agg vx ∧ CL G ρ σ w xs vx) ∧ (descAgg d = false → ∃ c, xs = [c] ∧ CR G ρ σ w c u)

theorem run_sizeNe {t : TypeId} (h : P.cellsOf t ≠ 0) : (sizeOf t).run P w = .ok (P.cellsOf t) w := by
 unfold Program.cellsOf at *
 cases hi : P.info? t with
 | none => simp [hi] at h
 | some i => simp [sizeOf, typeInfo, hi]

theorem part_rep {t : TypeId} {d : TypeDesc} {n o : Nat} (hu : P.underlying t = some d) (hn : P.cellsOf t = n) (hz : n ≠ 0) (h1 : descAgg d = false → n = 1) {xs : List C} {vx : Array Value} (hx : CL G ρ σ w xs vx) (hl : o + n ≤ xs.length) :
  ∃ u, (part t vx o).run P w = .ok u w ∧ RepE P G ρ σ w t ((xs.drop o).take n) u := by
 have hsz := hx.1
 cases hd : descAgg d with
 | false =>
  refine ⟨_, run_part1 hu hd (by omega), d, hu, (by rw [hd]; simp), fun _ => ⟨xs[o]'(by have := h1 hd; omega), ?_, ?_⟩⟩
  ·have e1 := h1 hd
   subst e1
   rw [List.drop_eq_getElem_cons (by omega)]; rfl
  ·exact hx.2 o _ (List.getElem?_eq_getElem _)
 | true =>
  have hagg : (isAgg t).run P w = .ok true w := by
   simp only [isAgg, underlying, Sem.run_bind, run_program, Result.andThen_ok, hu, Sem.run_pure]
   cases d <;> simp_all [descAgg]
  have hs := run_sizeNe (P := P) (w := w) (t := t) (by rw [hn]; exact hz)
  rw [hn] at hs
  refine ⟨.agg (vx.extract o (o + n)), ?_, d, hu, fun _ => ⟨_, rfl, ?_, fun q e hq => ?_⟩, (by rw [hd]; simp)⟩
  ·simp only [part, Sem.run_bind, hagg, Result.andThen_ok]
   simp only [if_true, Sem.run_bind, hs, Result.andThen_ok, Sem.run_pure]
  ·simp; omega
  ·have hq' : q < n := by
    have := (List.getElem?_eq_some_iff.1 hq).1
    simp at this; omega
   rw [List.getElem?_take_of_lt hq', List.getElem?_drop] at hq
   have := hx.2 _ _ hq
   simp only [Array.getD_eq_getD_getElem?] at this ⊢
   rw [Array.getElem?_extract, if_pos (by omega)]
   exact this

theorem deep_run : ∀ (n : Nat) (t : TypeId) (ks : List IntKind), deepKs P n t = some ks → ∀ (dp : Nat) (xs ys : List C) (b : Bool) (u v : Value), n ≤ dp → eqInts ks xs ys = some b →
    RepE P G ρ σ w t xs u → RepE P G ρ σ w t ys v → (Op.equalIn dp t u v).run P w = .ok b w
  | 0, t, ks, h, _, _, _, _, _, _, _, _, _, _ => by simp [deepKs] at h
  | n + 1, t, ks, h, dp, xs, ys, b, u, v, hdp, he, hx, hy => by
    obtain ⟨e, rfl⟩ : ∃ e, dp = e + 1 := ⟨dp - 1, by omega⟩
    obtain ⟨d, hu, hxa, hxn⟩ := hx
    obtain ⟨d', hu', hya, hyn⟩ := hy
    rw [hu] at hu'
    cases hu'
    unfold deepKs at h
    rw [hu] at h
    cases d <;> simp only at h <;> try (simp at h; done)
    case int k =>
      cases h
      obtain ⟨c, rfl, hc⟩ := hxn rfl
      obtain ⟨c', rfl, hc'⟩ := hyn rfl
      cases c <;> cases c' <;> simp only [eqInts] at he <;> try (simp at he; done)
      rename_i k1 a k2 a'
      split at he
      · rename_i hk
        obtain ⟨rfl, rfl⟩ := hk
        simp only [Option.map_some, Bool.and_true, Option.some.injEq] at he
        subst he
        rw [hc.intOf, hc'.intOf]
        simp only [Op.equalIn, underlying, Sem.run_bind, run_program, Result.andThen_ok, hu, Sem.run_pure]
        simp only [if_true, Sem.run_pure]
        congr 1
      · simp at he
    case struct fs =>
      obtain ⟨vx, rfl, hx⟩ := hxa rfl
      obtain ⟨vy, rfl, hy⟩ := hya rfl
      split at h
      · simp at h
      rename_i hheld
      have loop : ∀ (l : List Field) (o : Nat) (ks : List IntKind) (b : Bool), deepF P (deepKs P n) l o = some ks → eqInts ks (xs.drop o) (ys.drop o) = some b →
          (forIn l ((none : Option Bool), ()) fun f __s =>
               if f.name ≠ "_" then do
                 let __do_lift ← part f.type vx f.offset
                 let __do_lift_1 ← part f.type vy f.offset
                 let __do_lift ← Op.equalIn e f.type __do_lift __do_lift_1
                 if (!__do_lift) = true then pure (ForInStep.done (some false, ())) else pure (ForInStep.yield (none, ()))
               else pure (ForInStep.yield (none, ())) : Sem (Option Bool × Unit)).run P w = .ok (if b then none else some false, ()) w := by
        intro l
        induction l with
        | nil =>
          intro o ks b hk he
          simp only [deepF, Option.some.injEq] at hk
          subst hk
          cases h1 : xs.drop o <;> cases h2 : ys.drop o <;> rw [h1, h2] at he <;> simp [eqInts] at he
          subst he
          simp
        | cons f l ih =>
          intro o ks b hk he
          simp only [deepF] at hk
          split at hk
          · rename_i hname
            split at hk
            · rename_i k1 hk1
              split at hk
              · rename_i hcl
                split at hk
                · rename_i k2 hk2
                  simp only [Option.some.injEq] at hk
                  subst hk
                  obtain ⟨b1, b2, e1, e2, rfl⟩ := eqInts_split he
                  obtain ⟨hnm, hoff⟩ := hname
                  have hl1 : o + k1.length ≤ xs.length ∧ o + k1.length ≤ ys.length := by
                    have := eqInts_lens e1
                    simp only [List.length_take, List.length_drop] at this
                    omega
                  obtain ⟨df, hdf, h1f⟩ : ∃ df, P.underlying f.type = some df ∧ (descAgg df = false → k1.length = 1) := by
                    cases hn0 : n with
                    | zero => rw [hn0] at hk1; simp [deepKs] at hk1
                    | succ m =>
                      rw [hn0] at hk1
                      unfold deepKs at hk1
                      cases hq : P.underlying f.type with
                      | none => rw [hq] at hk1; simp at hk1
                      | some df =>
                        rw [hq] at hk1
                        refine ⟨df, rfl, fun hd => ?_⟩
                        cases df <;> simp only at hk1 <;> try (simp at hk1; done)
                        · cases hk1; rfl
                        · simp [descAgg] at hd
                  obtain ⟨ux, pu, ru⟩ := part_rep (P := P) (o := o) hdf hcl.1 hcl.2 h1f hx hl1.1
                  obtain ⟨uy, pv, rv⟩ := part_rep (P := P) (o := o) hdf hcl.1 hcl.2 h1f hy hl1.2
                  have hrun := deep_run n f.type k1 hk1 e _ _ b1 ux uy (by omega) e1 ru rv
                  have hnm' : f.name ≠ "_" := by simpa using hnm
                  rw [List.forIn_cons]
                  simp only [if_pos hnm', hoff, Sem.run_bind, pu, pv, Result.andThen_ok, hrun]
                  cases b1 with
                  | false => simp
                  | true =>
                    simp only [Bool.not_true, Bool.false_eq_true, if_false, Sem.run_pure, Result.andThen_ok, Bool.true_and]
                    rw [List.drop_drop, List.drop_drop] at e2
                    exact ih (o + k1.length) k2 b2 hk2 e2
                · simp at hk
              · simp at hk
            · simp at hk
          · simp at hk
      simp only [Op.equalIn, Sem.run_bind, underlying, run_program, Result.andThen_ok, hu, Sem.run_pure, if_neg hheld]
      rw [← Array.forIn_toList]
      rw [loop fs.toList 0 ks b h (by simpa using he)]
      cases b <;> rfl

theorem kind_map {d : TypeDesc} {k e : TypeId} (h : kindOf P d = .map k e) : d = .map k e := by
 cases d <;> simp [kindOf] at h
 rw [h.1, h.2]

theorem eql_mapNil {dp : Nat} {t k e : TypeId} (h : P.underlying t = some (.map k e)) (b : Option Nat) : (Op.equalIn (dp + 1) t (.map b) (.map none)).run P w = .ok b.isNone w := by
 simp only [Op.equalIn, Sem.run_bind, run_underlying h, Result.andThen_ok]
 cases b <;> rfl

theorem run_eqlC {t : TypeId} {x y : C} {b : Bool} {u v : Value} (h : eqlC P σ t x y = some b) (hx : CR G ρ σ w x u) (hy : CR G ρ σ w y v) :
  (Op.equal t u v).run P w = .ok b w := by
 obtain ⟨dp, hdp1, hdp, hdp8⟩ := equal_one
 rw [hdp]
 clear hdp
 unfold eqlC at h
 split at h
 ·rename_i hk
  obtain ⟨i, inf, d, z, ht, hd⟩ := tyOf_kind hk
  obtain rfl := hx.boolOf
  obtain rfl := hy.boolOf
  cases d <;> simp [kindOf] at hd
  simp only [Option.some.injEq] at h
  subst h
  simp [Op.equalIn, ht.run_und w]
 ·rename_i hk
  obtain ⟨i, inf, d, z, ht, hd⟩ := tyOf_kind hk
  obtain ⟨a1, c1, rfl, h1, _, _⟩ := hx.slOf
  obtain ⟨a2, c2, rfl, h2, _, _⟩ := hy.slOf
  cases d <;> simp [kindOf] at hd
  split at h
  ·simp only [Option.some.injEq] at h
   subst h
   cases a1 <;> cases a2 <;> simp_all [Op.equalIn, ht.run_und w]
  ·simp at h
 ·rename_i hk
  obtain ⟨i, inf, d, z, ht, hd⟩ := tyOf_kind hk
  split at h
  ·rename_i o ho
   simp only [Option.some.injEq] at h
   subst h
   obtain ⟨a2, c2, rfl, h2, _, _⟩ := hy.slOf
   obtain ⟨o', ho', hc⟩ := hx.ownOf (by simp [isLive, ho])
   rw [ho] at ho'
   cases ho'
   cases a2 with
   | some a => simp at h2
   | none =>
    cases d <;> simp [kindOf] at hd
    rcases hc with ⟨hn, _, _, a1, ha1, rfl⟩ | ⟨hn, _, cap, _, rfl, _⟩
    ·cases a1 <;> simp at ha1 <;> simp [Op.equalIn, ht.run_und w, hn, ha1]
    ·simp [Op.equalIn, ht.run_und w, hn]
  ·simp at h
 ·rename_i hk
  obtain ⟨i, inf, d, z, ht, hd⟩ := tyOf_kind hk
  obtain rfl := hx.pnilOf
  obtain rfl := hy.pnilOf
  cases d <;> simp [kindOf] at hd
  simp only [Option.some.injEq] at h
  subst h
  simp [Op.equalIn, ht.run_und w]
 ·rename_i hk
  obtain ⟨i, inf, d, z, ht, hd⟩ := tyOf_kind hk
  obtain ⟨b1, f1, rfl, _⟩ := hx.ipOf
  obtain rfl := hy.pnilOf
  cases d <;> simp [kindOf] at hd
  simp only [Option.some.injEq] at h
  subst h
  simp [Op.equalIn, ht.run_und w]
 ·rename_i hk
  obtain ⟨i, inf, d, z, ht, hd⟩ := tyOf_kind hk
  obtain ⟨a1, rfl⟩ := hx.ptrAny
  obtain rfl := hy.pnilOf
  cases d <;> simp [kindOf] at hd
  simp only [Option.some.injEq] at h
  subst h
  simp [Op.equalIn, ht.run_und w]
 ·rename_i hk
  obtain ⟨i, inf, d, z, ht, hd⟩ := tyOf_kind hk
  obtain ⟨v1, v2, rfl, _, _⟩ := hx.fnOf
  have hy' := hy.isPure rfl
  cases hy'
  cases d <;> simp [kindOf] at hd
  simp only [Option.some.injEq] at h
  subst h
  simp [Op.equalIn, ht.run_und w]
 ·rename_i hk
  obtain ⟨i, inf, d, z, ht, hd⟩ := tyOf_kind hk
  have hx' := hx.isPure rfl
  cases hx'
  have hy' := hy.isPure rfl
  cases hy'
  cases d <;> simp [kindOf] at hd
  simp only [Option.some.injEq] at h
  subst h
  simp [Op.equalIn, ht.run_und w]
 ·rename_i hk
  obtain ⟨i, inf, d, z, ht, hd⟩ := tyOf_kind hk
  have hy' := hy.isPure rfl
  cases hy'
  obtain rfl := kind_map hd
  simp only [Option.some.injEq] at h
  subst h
  have hxs : ∃ b, u = .map (some b) := by
   cases hx with
   | pure p => cases p
   | mpDead _ hv => exact hv
   | mp => exact ⟨_, rfl⟩
  obtain ⟨b, rfl⟩ := hxs
  rw [eql_mapNil ht.und]
  rfl
 ·rename_i hk
  obtain ⟨i, inf, d, z, ht, hd⟩ := tyOf_kind hk
  have hy' := hy.isPure rfl
  cases hy'
  have hx' := hx.isPure rfl
  obtain rfl := kind_map hd
  simp only [Option.some.injEq] at h
  subst h
  cases hx' <;> (rw [eql_mapNil ht.und]; rfl)
 ·rename_i hk
  split at h
  ·rename_i ks hks
   obtain ⟨i, inf, d, z, ht, hd⟩ := tyOf_kind hk
   obtain ⟨vx, rfl, hx1⟩ := hx.aggOf
   obtain ⟨vy, rfl, hy1⟩ := hy.aggOf
   unfold flatEq at hks
   split at hks
   ·simp at hks
   rename_i hheld
   split at hks
   ·simp at hks
   ·split at hks
    ·rename_i fs hfs
     simp only [Op.equalIn, Sem.run_bind, run_program, Result.andThen_ok]
     have := ht.run_und w
     rw [ht.und] at hfs
     simp only [Option.some.injEq] at hfs
     subst hfs
     rw [this]
     simp only [Result.andThen_ok, Sem.run_bind, run_program, if_neg hheld]
     obtain ⟨e, rfl⟩ := hdp1
     rw [← Array.forIn_toList]
     rw [flat_loop fs.toList 0 ks _ _ b hks h (by simp [hx1.1]) (by simp [hy1.1]) (fun i c hi => by simpa using hx1.2 i c hi) (fun i c hi => by simpa using hy1.2 i c hi)]
     cases b <;> rfl
    ·simp at hks
  ·split at h
   ·rename_i ks hks
    obtain ⟨i, inf, d, z, ht, hd⟩ := tyOf_kind hk
    obtain ⟨vx, rfl, hx1⟩ := hx.aggOf
    obtain ⟨vy, rfl, hy1⟩ := hy.aggOf
    unfold deepEq at hks
    split at hks
    ·simp at hks
    split at hks
    ·simp at hks
    split at hks
    ·rename_i fs hfs
     obtain ⟨e, rfl⟩ : ∃ e, dp = e := ⟨dp, rfl⟩
     exact deep_run 8 t ks hks (dp + 1) _ _ b _ _ hdp8 h ⟨_, hfs, fun _ => ⟨_, rfl, hx1⟩, fun hh => by simp [descAgg] at hh⟩ ⟨_, hfs, fun _ => ⟨_, rfl, hy1⟩, fun hh => by simp [descAgg] at hh⟩
    ·simp at hks
   ·split at h
    ·rename_i ks hks
     obtain ⟨i, inf, d, z, ht, hd⟩ := tyOf_kind hk
     obtain ⟨vx, rfl, hx1⟩ := hx.aggOf
     obtain ⟨vy, rfl, hy1⟩ := hy.aggOf
     unfold mixEq at hks
     split at hks
     ·simp at hks
     rename_i hheld
     split at hks
     ·simp at hks
     ·split at hks
      ·rename_i fs hfs
       simp only [Op.equalIn, Sem.run_bind, run_program, Result.andThen_ok]
       have := ht.run_und w
       rw [ht.und] at hfs
       simp only [Option.some.injEq] at hfs
       subst hfs
       rw [this]
       simp only [Result.andThen_ok, Sem.run_bind, run_program, if_neg hheld]
       obtain ⟨e, rfl⟩ := hdp1
       rw [← Array.forIn_toList]
       rw [mix_loop fs.toList 0 ks _ _ b hks h (by simp [hx1.1]) (by simp [hy1.1]) (fun i c hi => by simpa using hx1.2 i c hi) (fun i c hi => by simpa using hy1.2 i c hi)]
       cases b <;> rfl
      ·simp at hks
    ·simp at h
 ·simp at h

end
end Go.Abs

/- Fields, elements, struct values, reslicing, builtins: abstract values and the model's run. No condition. -/
namespace Go.Abs

section
variable {P : Program} {G : Nat → Prop} {ρ : Nat → Nat} {σ : Nat → Slot} {w : World}

def moveC (n : Nat) : C → Option C
 | .ip row j => some (.ip row (j + n))
 | .ptr k sz i j => some (.ptr k sz i (j + n))
 | _ => none

theorem moveC_sound {n : Nat} {a c : C} {v : Value} (h : moveC n a = some c) (hr : CR G ρ σ w a v) :
  ∃ p, v = .pointer (some p) ∧ CR G ρ σ w c (.pointer (some (p.add n))) := by
 unfold moveC at h
 split at h
 ·simp only [Option.some.injEq] at h
  subst h
  obtain ⟨b, f, rfl, p⟩ := hr.ipOf
  cases p with
  | ip cell hG hb ho hcell hcl hr' => exact ⟨_, rfl, by rw [addr_add]; exact .pure (.ip cell hG hb (by omega) hcell hcl hr')⟩
 ·rename_i k sz i j
  simp only [Option.some.injEq] at h
  subst h
  cases hr with
  | pure p => cases p
  | ptrDead hd hv => obtain ⟨a, rfl⟩ := hv; exact ⟨a, rfl, .ptrDead hd ⟨_, rfl⟩⟩
  | ptr hl hn hs hz hf => exact ⟨_, rfl, by rw [addr_add]; exact .ptr hl hn hs hz (by omega)⟩
 ·simp at h

def fieldsOf (P : Program) (t : TypeId) (f : Nat) : Option FI :=
 match (tyOf P t).map TI.kind with
 | some (.struct fs) => fs[f]?
 | _ => none

def fieldAddrC (P : Program) (t : TypeId) (x : C) (f : Nat) : Option C :=
 match fieldsOf P t f with
 | some fi => if fi.size = 0 then none else moveC fi.off x
 | none => none

theorem fieldsOf_ok {t : TypeId} {f : Nat} {fi : FI} (h : fieldsOf P t f = some fi) :
  ∃ fs fd, P.underlying t = some (.struct fs) ∧ fs[f]? = some fd ∧ fi = fieldOf P fd := by
 unfold fieldsOf at h
 split at h
 ·rename_i fs hk
  obtain ⟨i, inf, d, z, ht, hd⟩ := tyOf_kind hk
  cases d <;> simp [kindOf] at hd
  rename_i fds
  subst hd
  simp only [List.getElem?_map] at h
  cases hf : fds[f]? with
  | none => simp [hf] at h
  | some fd =>
   simp [hf] at h
   exact ⟨fds, fd, ht.und, hf, h.symm⟩
 ·simp at h

theorem run_sizeOf_pos {t : TypeId} (h : P.cellsOf t ≠ 0) : (sizeOf t).run P w = .ok (P.cellsOf t) w := by
 unfold Program.cellsOf at *
 cases hi : P.info? t with
 | none => simp [hi] at h
 | some i => simp [sizeOf, typeInfo, hi]

theorem fieldAddrC_sound {t : TypeId} {x c : C} {f : Nat} {v : Value} (h : fieldAddrC P t x f = some c) (hr : CR G ρ σ w x v) :
  ∃ u, (Instr.fieldAt t v f).run P w = .ok u w ∧ CR G ρ σ w c u := by
 unfold fieldAddrC at h
 split at h
 ·rename_i fi hf
  obtain ⟨fs, fd, h1, h2, rfl⟩ := fieldsOf_ok hf
  split at h
  ·simp at h
  ·rename_i hz
   obtain ⟨p, rfl, hc⟩ := moveC_sound h hr
   simp only [fieldOf] at hz hc
   simp only [Instr.fieldAt, Sem.run_bind, run_underlying h1 w, Result.andThen_ok, h2, Instr.sureAddr, Sem.run_pure, fieldPlace, run_sizeOf_pos hz, if_neg hz]
   exact ⟨_, rfl, hc⟩
 ·simp at h

theorem part_sound' {t : TypeId} {agg : Bool} {size : Nat} (hra : (isAgg t).run P w = .ok agg w) (hrs : (sizeOf t).run P w = .ok size w) {off : Nat} {cs : List C} {c : C} {vs : Array Value}
  (h : partC agg off size cs = some c) (hr : CL G ρ σ w cs vs) : ∃ u, (part t vs off).run P w = .ok u w ∧ CR G ρ σ w c u := by
 unfold partC at h
 simp only [part, Sem.run_bind, hra, Result.andThen_ok]
 split at h
 ·rename_i hagg
  split at h
  ·rename_i hle
   simp only [Option.some.injEq] at h
   subst h
   simp only [hagg, if_true, Sem.run_bind, hrs, Result.andThen_ok, Sem.run_pure]
   refine ⟨_, rfl, .agg ?_ fun q e hq => ?_⟩
   ·have := hr.1
    simp; omega
   ·have hq' : q < size := by
     have := (List.getElem?_eq_some_iff.1 hq).1
     simp at this; omega
    rw [List.getElem?_take_of_lt hq', List.getElem?_drop] at hq
    have := hr.2 _ _ hq
    have h1 := hr.1
    simp only [Array.getD_eq_getD_getElem?] at this ⊢
    rw [Array.getElem?_extract]
    rw [if_pos (by omega)]
    exact this
  ·simp at h
 ·rename_i hagg
  have h1 := hr.1
  have hlt := (List.getElem?_eq_some_iff.1 h).1
  have := hr.2 off c h
  simp only [hagg, Bool.false_eq_true, if_false]
  rw [Array.getElem?_eq_getElem (by omega)]
  simp only [Array.getD_eq_getD_getElem?] at this
  rw [Array.getElem?_eq_getElem (by omega)] at this
  exact ⟨_, rfl, this⟩

theorem part_sound {t : TypeId} {i : TI} {inf : TypeInfo} {d : TypeDesc} {z : Value} (ht : TyOk P t i inf d z) {off : Nat} {cs : List C} {c : C} {vs : Array Value}
  (h : partC i.kind.isAgg off i.size cs = some c) (hr : CL G ρ σ w cs vs) : ∃ u, (part t vs off).run P w = .ok u w ∧ CR G ρ σ w c u :=
 part_sound' (ht.run_agg w) (ht.run_size w) h hr

def fieldC (P : Program) (t : TypeId) (x : C) (f : Nat) : Option C :=
 match (tyOf P t).map TI.kind, x with
 | some (.struct fs), .agg cs => match fs[f]? with
  | some fi => if fi.ok = true ∧ fi.size ≠ 0 then partC fi.agg fi.off fi.size cs else none
  | none => none
 | _, _ => none

theorem run_fieldAgg {fd : Field} (h : (fieldOf P fd).ok = true) : (isAgg fd.type).run P w = .ok (fieldOf P fd).agg w := by
 simp only [fieldOf] at *
 cases hu : P.underlying fd.type with
 | none => simp [hu] at h
 | some d =>
  unfold isAgg
  rw [Sem.run_bind, run_underlying hu w]
  cases d <;> rfl

theorem fieldC_sound {t : TypeId} {x c : C} {f : Nat} {v : Value} (h : fieldC P t x f = some c) (hr : CR G ρ σ w x v) :
  ∃ u, (Instr.field t v f).run P w = .ok u w ∧ CR G ρ σ w c u := by
 unfold fieldC at h
 split at h
 ·rename_i fs cs hk
  obtain ⟨vs, rfl, hcl⟩ := hr.aggOf
  obtain ⟨i, inf, d, z, ht, hd⟩ := tyOf_kind hk
  cases d <;> simp [kindOf] at hd
  rename_i fds
  subst hd
  simp only [List.getElem?_map, Array.getElem?_toList] at h
  cases hf : fds[f]? with
  | none => simp [hf] at h
  | some fd =>
   simp only [hf, Option.map_some] at h
   split at h
   ·rename_i hok
    obtain ⟨u, hu, hc⟩ := part_sound' (t := fd.type) (run_fieldAgg (w := w) hok.1) (run_sizeOf_pos hok.2) h hcl
    simp only [fieldOf] at hu
    simp only [Instr.field, Sem.run_bind, ht.run_und w, Result.andThen_ok, hf, asAgg, Sem.run_pure, hu]
    exact ⟨u, rfl, hc⟩
   ·simp at h
 ·simp at h

def indexAddrC (P : Program) (t : TypeId) (x ix : C) : Option C :=
 match (tyOf P t).map TI.kind, x, ix with
 | some (.slice e), .sl _ _ rows, .int _ n =>
  match tyOf P e with
  | some i => if 0 ≤ n ∧ n.toNat < rows.length then
    match rows[n.toNat]? with
    | some row => if row.length = i.size then some (.ip row 0) else none
    | none => none
   else none
  | none => none
 | some (.slice e), .own k sz lo m, .int _ n =>
  match tyOf P e with
  | some i => if 0 ≤ n ∧ n.toNat < m ∧ sz = i.size then some (.ptr k sz (lo + n.toNat) 0) else none
  | none => none
 | some (.array len e), x, .int _ n =>
  match tyOf P e with
  | some i => if 0 ≤ n ∧ n < len then moveC (n.toNat * i.size) x else none
  | none => none
 | _, _, _ => none

theorem indexAddrC_sound {t : TypeId} {x ix c : C} {v y : Value} (h : indexAddrC P t x ix = some c) (hr : CR G ρ σ w x v) (hi : CR G ρ σ w ix y) :
  ∃ u, (Instr.indexAt t v y).run P w = .ok u w ∧ CR G ρ σ w c u := by
 unfold indexAddrC at h
 split at h
 ·rename_i e nl full rows k n hk
  obtain ⟨i, inf, d, z, ht, hd⟩ := tyOf_kind hk
  cases d <;> simp [kindOf] at hd
  subst hd
  obtain rfl := hi.intOf
  split at h
  ·rename_i ie he
   obtain ⟨inf', d', z', ht'⟩ := tyOf_ok he
   split at h
   ·rename_i hn
    split at h
    ·rename_i row hrow
     split at h
     ·rename_i hlen
      simp only [Option.some.injEq] at h
      subst h
      obtain ⟨a, cap, rfl, ha, hnil, p⟩ := hr.slOf
      cases p with
      | slnil => simp at hn
      | slemp => simp at hn
      | @sl _ _ b off sz _ _ cell hG hb hnn hf hc hsz hcell hcl hr' =>
       have hin : 0 ≤ n ∧ n < (rows.length : Int) := by omega
       have hsz' := hsz _ _ hrow
       simp only [Instr.indexAt, asIntOf, Sem.run_bind, Sem.run_pure, Result.andThen_ok, ht.run_und w, if_pos hin, ht'.run_size w, addr_add]
       refine ⟨_, rfl, .pure (.ip (fun j => cell n.toNat j) hG hb (off := off + n.toNat * ie.size) (by omega) (fun j c hj => ?_) (hcl _ _ hrow) (hr' _ _ hrow))⟩
       have := hcell _ _ hrow j c hj
       rw [← hlen, hsz', Nat.add_assoc]; exact this
     ·simp at h
    ·simp at h
   ·simp at h
  ·simp at h
 ·rename_i e k sz lo m k' n hk
  obtain ⟨i, inf, d, z, ht, hd⟩ := tyOf_kind hk
  cases d <;> simp [kindOf] at hd
  subst hd
  obtain rfl := hi.intOf
  split at h
  ·rename_i ie he
   obtain ⟨inf', d', z', ht'⟩ := tyOf_ok he
   split at h
   ·rename_i hn
    obtain ⟨hn0, hnm, hs⟩ := hn
    simp only [Option.some.injEq] at h
    subst h
    have hin : 0 ≤ n ∧ n < (m : Int) := by omega
    cases hr with
    | pure p => cases p
    | ownNil hl hn ha => omega
    | ownDead hd hv =>
     rcases hv with ⟨a, cap, rfl, hcap⟩ | ⟨h0, _⟩
     ·simp only [Instr.indexAt, asIntOf, Sem.run_bind, Sem.run_pure, Result.andThen_ok, ht.run_und w, if_pos hin, ht'.run_size w]
      exact ⟨_, rfl, .ptrDead hd ⟨_, rfl⟩⟩
     ·omega
    | own ho hnl hsz hz hcap hf hm hroom =>
     subst hm
     simp only [Instr.indexAt, asIntOf, Sem.run_bind, Sem.run_pure, Result.andThen_ok, ht.run_und w, if_pos hin, ht'.run_size w, addr_add]
     exact ⟨_, rfl, .ptr ho hnl hsz hz (by rw [hf, hs, Nat.add_mul]; rfl)⟩
   ·simp at h
  ·simp at h
 ·rename_i len e k n _ _ hk
  obtain ⟨i, inf, d, z, ht, hd⟩ := tyOf_kind hk
  cases d <;> simp [kindOf] at hd
  obtain ⟨rfl, rfl⟩ := hd
  obtain rfl := hi.intOf
  split at h
  ·rename_i ie he
   obtain ⟨inf', d', z', ht'⟩ := tyOf_ok he
   split at h
   ·rename_i hn
    obtain ⟨p, rfl, hc⟩ := moveC_sound h hr
    simp only [Instr.indexAt, asIntOf, Sem.run_bind, Sem.run_pure, Result.andThen_ok, ht.run_und w, Instr.sureAddr, if_pos hn, ht'.run_size w]
    exact ⟨_, rfl, hc⟩
   ·simp at h
  ·simp at h
 ·simp at h

def indexC (P : Program) (t : TypeId) (x ix : C) : Option C :=
 match (tyOf P t).map TI.kind, x, ix with
 | some (.array len e), .agg cs, .int _ n =>
  match tyOf P e with
  | some i => if 0 ≤ n ∧ n < len then partC i.kind.isAgg (n.toNat * i.size) i.size cs else none
  | none => none
 | some .string, .str s, .int _ n => if 0 ≤ n then (s[n.toNat]?).map fun b => .int .u8 b.toNat else none
 | _, _, _ => none

theorem indexC_sound {t : TypeId} {x ix c : C} {v y : Value} (h : indexC P t x ix = some c) (hr : CR G ρ σ w x v) (hi : CR G ρ σ w ix y) :
  ∃ u, (Instr.index t v y).run P w = .ok u w ∧ CR G ρ σ w c u := by
 unfold indexC at h
 split at h
 ·rename_i len e cs k n hk
  obtain ⟨i, inf, d, z, ht, hd⟩ := tyOf_kind hk
  cases d <;> simp [kindOf] at hd
  obtain ⟨rfl, rfl⟩ := hd
  obtain rfl := hi.intOf
  obtain ⟨vs, rfl, hcl⟩ := hr.aggOf
  split at h
  ·rename_i ie he
   obtain ⟨inf', d', z', ht'⟩ := tyOf_ok he
   split at h
   ·rename_i hn
    obtain ⟨u, hu, hc⟩ := part_sound ht' h hcl
    simp only [Instr.index, asIntOf, Sem.run_bind, Sem.run_pure, Result.andThen_ok, ht.run_und w, if_pos hn, ht'.run_size w, hu]
    exact ⟨u, rfl, hc⟩
   ·simp at h
  ·simp at h
 ·rename_i s k n hk
  obtain ⟨i, inf, d, z, ht, hd⟩ := tyOf_kind hk
  cases d <;> simp [kindOf] at hd
  obtain rfl := hi.intOf
  obtain rfl := hr.strOf
  split at h
  ·rename_i hn
   cases hb : s[n.toNat]? with
   | none => simp [hb] at h
   | some b =>
    simp [hb] at h
    subst h
    simp only [Instr.index, asIntOf, Sem.run_bind, Sem.run_pure, Result.andThen_ok, ht.run_und w, if_pos hn, hb]
    exact ⟨_, rfl, .pure (.int _ _)⟩
  ·simp at h
 ·simp at h

end
end Go.Abs

/- Struct values, reslicing, builtins that compute; all operations that only compute a value, under one name. No condition. -/
namespace Go.Abs

section
variable {P : Program} {G : Nat → Prop} {ρ : Nat → Nat} {σ : Nat → Slot} {w : World}

theorem cells_one {v : Value} (h : oneCell v = true) : v.cells = #[v] := by
 cases v <;> simp_all [oneCell, Value.cells]

def cellsC : C → Option (List C)
 | .agg l => if l.all C.cell then some l else none
 | c => if c.cell then some [c] else none

def CO (G : Nat → Prop) (ρ : Nat → Nat) (σ : Nat → Slot) (w : World) (l : List C) (vs : Array Value) : Prop :=
 CL G ρ σ w l vs ∧ ∀ (i : Nat) (c : C), l[i]? = some c → c.cell = true ∧ oneCell (vs.getD i undef) = true

theorem cellsC_sound {c : C} {l : List C} {v : Value} (h : cellsC c = some l) (hr : CR G ρ σ w c v) : CO G ρ σ w l v.cells := by
 unfold cellsC at h
 split at h
 ·rename_i l'
  split at h
  ·rename_i hall
   simp only [Option.some.injEq] at h
   subst h
   obtain ⟨vs, rfl, hcl⟩ := hr.aggOf
   refine ⟨hcl, fun i c hc => ?_⟩
   have hk : c.cell = true := by
    rw [List.all_eq_true] at hall
    exact hall c (List.mem_of_getElem? hc)
   exact ⟨hk, (hcl.2 i c hc).cell hk⟩
  ·simp at h
 ·split at h
  ·rename_i hk
   simp only [Option.some.injEq] at h
   subst h
   have ho := hr.cell hk
   rw [cells_one ho]
   refine ⟨⟨rfl, fun i d hd => ?_⟩, fun i d hd => ?_⟩
   ·cases i with
    | zero => simp at hd; subst hd; exact hr
    | succ i => simp at hd
   ·cases i with
    | zero => simp at hd; subst hd; exact ⟨hk, ho⟩
    | succ i => simp at hd
  ·simp at h

def fillC (place : Nat → Option (Nat × Nat)) : List C → List (Nat × C) → Option (List C)
 | cs, [] => some cs
 | cs, (i, v) :: rest =>
  match place i, cellsC v with
  | some (off, size), some vs =>
   if vs.length = size ∧ off + size ≤ cs.length then fillC place (cs.take off ++ vs ++ cs.drop (off + size)) rest else none
  | _, _ => none

theorem lay_get (off : Nat) : ∀ (l : List Value) (k : Nat) (cs : Array Value),
  ((l.zipIdx k).foldl (fun cs (c, j) => cs.setIfInBounds (off + j) c) cs).size = cs.size ∧
  ∀ q, q < cs.size → ((l.zipIdx k).foldl (fun cs (c, j) => cs.setIfInBounds (off + j) c) cs)[q]? =
   if off + k ≤ q ∧ q < off + k + l.length then l[q - (off + k)]? else cs[q]?
 | [], k, cs => by
  refine ⟨rfl, fun q hq => ?_⟩
  rw [if_neg (by intro h; simp at h; omega)]
  rfl
 | v :: l, k, cs => by
  obtain ⟨h1, h2⟩ := lay_get off l (k + 1) (cs.setIfInBounds (off + k) v)
  refine ⟨by simpa using h1, fun q hq => ?_⟩
  simp only [List.zipIdx_cons, List.foldl_cons]
  rw [h2 q (by simpa using hq)]
  by_cases hqk : q = off + k
  ·subst hqk
   rw [if_neg (by omega), if_pos (by simp)]
   simp [hq]
  ·rw [Array.getElem?_setIfInBounds_ne (by omega)]
   by_cases hin : off + k ≤ q ∧ q < off + k + (v :: l).length
   ·rw [if_pos hin, if_pos (by simp at hin; omega)]
    rw [show q - (off + k) = (q - (off + (k + 1))) + 1 from by omega]
    simp
   ·rw [if_neg hin, if_neg (by simp at hin; omega)]

theorem fill_sound {place : Nat → Option (Nat × Nat)} {evC : Operand → C} {evV : Operand → Value} :
  ∀ (l : List (Nat × Operand)) (cs : List C) (vs : Array Value) (out : List C), (∀ p ∈ l, CR G ρ σ w (evC p.2) (evV p.2)) → CO G ρ σ w cs vs →
   fillC place cs (l.map fun p => (p.1, evC p.2)) = some out →
   ∃ vs', Instr.fill place vs (l.map fun p => (p.1, evV p.2)) = some vs' ∧ CO G ρ σ w out vs' ∧ vs'.size = vs.size
 | [], cs, vs, out, _, hco, h => by
  simp only [List.map_nil, fillC, Option.some.injEq] at h
  subst h
  exact ⟨vs, rfl, hco, rfl⟩
 | (i, x) :: l, cs, vs, out, hl, hco, h => by
  simp only [List.map_cons, fillC] at h
  split at h
  ·rename_i off size ws hp hc
   split at h
   ·rename_i hle
    obtain ⟨hlen, hle⟩ := hle
    have hx : CO G ρ σ w ws (evV x).cells := cellsC_sound hc (hl (i, x) (by simp))
    have hsz := hco.1.1
    have hxs := hx.1.1
    obtain ⟨g1, g2⟩ := lay_get off (evV x).cells.toList 0 vs
    have hfold : (evV x).cells.zipIdx.foldl (fun cs (c, j) => cs.setIfInBounds (off + j) c) vs
      = ((evV x).cells.toList.zipIdx 0).foldl (fun cs (c, j) => cs.setIfInBounds (off + j) c) vs := by
     rw [← Array.foldl_toList]; simp
    have hnew : CO G ρ σ w (cs.take off ++ ws ++ cs.drop (off + size)) ((evV x).cells.zipIdx.foldl (fun cs (c, j) => cs.setIfInBounds (off + j) c) vs) := by
     rw [hfold]
     have key : ∀ (q : Nat) (d : C), (cs.take off ++ ws ++ cs.drop (off + size))[q]? = some d → CR G ρ σ w d
       ((((evV x).cells.toList.zipIdx 0).foldl (fun cs (c, j) => cs.setIfInBounds (off + j) c) vs).getD q undef) ∧ d.cell = true ∧
       oneCell ((((evV x).cells.toList.zipIdx 0).foldl (fun cs (c, j) => cs.setIfInBounds (off + j) c) vs).getD q undef) = true := by
      intro q d hq
      have hqlt : q < cs.length := by
       have := (List.getElem?_eq_some_iff.1 hq).1
       simp at this; omega
      have hgq := g2 q (by omega)
      simp only [Array.getD_eq_getD_getElem?]
      rw [hgq]
      by_cases hin : off + 0 ≤ q ∧ q < off + 0 + (evV x).cells.toList.length
      ·rw [if_pos hin]
       have hq' : ws[q - off]? = some d := by
        rw [List.append_assoc, List.getElem?_append_right (by simp; omega), List.getElem?_append_left (by simp at hin; simp; omega)] at hq
        simp at hq
        rw [show min off cs.length = off from by omega] at hq
        exact hq
       have h1 := hx.1.2 _ _ hq'
       have h2 := hx.2 _ _ hq'
       simp only [Array.getD_eq_getD_getElem?] at h1 h2
       simp only [Nat.add_zero, Array.getElem?_toList]
       exact ⟨h1, h2⟩
      ·rw [if_neg hin]
       have hq' : cs[q]? = some d := by
        simp at hin
        by_cases hlt : q < off
        ·rw [List.append_assoc, List.getElem?_append_left (by simp; omega), List.getElem?_take_of_lt hlt] at hq
         exact hq
        ·rw [List.getElem?_append_right (by simp; omega)] at hq
         simp at hq
         rw [show min off cs.length = off from by omega] at hq
         rw [show off + size + (q - (off + ws.length)) = q from by omega] at hq
         exact hq
       have h1 := hco.1.2 _ _ hq'
       have h2 := hco.2 _ _ hq'
       simp only [Array.getD_eq_getD_getElem?] at h1 h2
       exact ⟨h1, h2⟩
     refine ⟨⟨?_, fun q d hq => (key q d hq).1⟩, fun q d hq => (key q d hq).2⟩
     rw [g1]; simp; omega
    obtain ⟨vs', e1, e2, e3⟩ := fill_sound l _ _ out (fun p hp => hl p (by simp [hp])) hnew h
    refine ⟨vs', ?_, e2, ?_⟩
    ·simp only [List.map_cons, Instr.fill, hp]
     rw [if_neg (by simp; omega)]
     exact e1
    ·rw [e3, hfold, g1]
   ·simp at h
  ·simp at h

theorem zero_CO {t : TypeId} {i : TI} {inf : TypeInfo} {d : TypeDesc} {z : Value} (ht : TyOk P t i inf d z) : CO G ρ σ w i.zero z.cells := by
 have hz := ht.zc
 have hc := ht.cell
 have key : ∀ (q : Nat) (c : C), i.zero[q]? = some c → PR G w c (z.cells.getD q undef) ∧ c.cell = true := by
  intro q c hq
  have hcc := hc c (List.mem_of_getElem? hq)
  rw [hz] at hq
  simp only [List.getElem?_map, Array.getElem?_toList, Option.map_eq_some_iff] at hq
  obtain ⟨v, hv, rfl⟩ := hq
  simp only [Array.getD_eq_getD_getElem?, hv, Option.getD_some]
  exact ⟨ofV_sound hcc, hcc⟩
 refine ⟨⟨by rw [hz]; simp, fun q c hq => .pure (key q c hq).1⟩, fun q c hq => ⟨(key q c hq).2, (key q c hq).1.cell (key q c hq).2⟩⟩

def buildC (P : Program) (t : TypeId) (parts : List (Nat × C)) : Option C :=
 match tyOf P t with
 | some i =>
  match i.kind with
  | .struct fs => if fs.all (fun f => f.size != 0) then (fillC (fun j => (fs[j]?).map fun f => (f.off, f.size)) i.zero parts).map .agg else none
  | .array _ e => match tyOf P e with
   | some j => (fillC (fun q => some (q * j.size, j.size)) i.zero parts).map .agg
   | none => none
  | _ => none
 | none => none

theorem run_places : ∀ (fs : List Field), (∀ f ∈ fs, P.cellsOf f.type ≠ 0) →
  (fs.mapM (fun f => do pure (f.offset, ← sizeOf f.type) : Field → Sem (Nat × Nat))).run P w = .ok (fs.map fun f => (f.offset, P.cellsOf f.type)) w
 | [], _ => rfl
 | f :: fs, h => by
  simp only [List.mapM_cons, Sem.run_bind, run_sizeOf_pos (w := w) (h f (by simp)), Result.andThen_ok, Sem.run_pure, run_places fs (fun g hg => h g (by simp [hg])), List.map_cons]

theorem CO.agg {l : List C} {vs : Array Value} (h : CO G ρ σ w l vs) : CR G ρ σ w (.agg l) (.agg vs) := .agg h.1.1 h.1.2

theorem buildC_sound {t : TypeId} {parts : Array (Nat × Operand)} {evC : Operand → C} {evV : Operand → Value} {c : C}
  (h : buildC P t (parts.toList.map fun p => (p.1, evC p.2)) = some c) (hr : ∀ p ∈ parts.toList, CR G ρ σ w (evC p.2) (evV p.2)) :
  ∃ u, (Instr.build t (parts.map fun p => (p.1, evV p.2))).run P w = .ok u w ∧ CR G ρ σ w c u := by
 unfold buildC at h
 split at h
 ·rename_i i hi
  obtain ⟨inf, d, z, ht⟩ := tyOf_ok hi
  split at h
  ·rename_i fs hk
   split at h
   ·rename_i hall
    cases hf : fillC (fun j => (fs[j]?).map fun f => (f.off, f.size)) i.zero (parts.toList.map fun p => (p.1, evC p.2)) with
    | none => simp [hf] at h
    | some out =>
     simp only [hf, Option.map_some, Option.some.injEq] at h
     subst h
     have hd := ht.kind
     rw [hk] at hd
     cases d <;> simp [kindOf] at hd
     rename_i fds
     subst hd
     have hpos : ∀ f ∈ fds.toList, P.cellsOf f.type ≠ 0 := by
      intro f hf'
      rw [List.all_eq_true] at hall
      have := hall (fieldOf P f) (List.mem_map.2 ⟨f, hf', rfl⟩)
      simpa [fieldOf] using this
     obtain ⟨vs', e1, e2, _⟩ := fill_sound (w := w) (G := G) (ρ := ρ) (evV := evV) parts.toList i.zero z.cells out hr (zero_CO ht) hf
     refine ⟨.agg vs', ?_, e2.agg⟩
     have hpl : (fun (j : Nat) => ((fds.toList.map (fieldOf P))[j]?).map fun (f : FI) => (f.off, f.size)) = fun (j : Nat) => ((fds.toList.map fun (f : Field) => (f.offset, P.cellsOf f.type)).toArray)[j]? := by
      funext j
      simp only [List.getElem?_map, List.getElem?_toArray]
      cases fds.toList[j]? <;> rfl
     rw [hpl] at e1
     simp only [Instr.build, Sem.run_bind, ht.run_zero w, Result.andThen_ok, ht.run_und w]
     rw [← Array.toArray_toList (xs := fds)]
     simp only [List.mapM_toArray, Sem.run_map, run_places fds.toList hpos, Result.andThen_ok, Array.toList_map, e1, Sem.run_pure]
   ·simp at h
  ·rename_i n e hk
   split at h
   ·rename_i j hj
    obtain ⟨inf', d', z', ht'⟩ := tyOf_ok hj
    cases hf : fillC (fun q => some (q * j.size, j.size)) i.zero (parts.toList.map fun p => (p.1, evC p.2)) with
    | none => simp [hf] at h
    | some out =>
     simp only [hf, Option.map_some, Option.some.injEq] at h
     subst h
     have hd := ht.kind
     rw [hk] at hd
     cases d <;> simp [kindOf] at hd
     obtain ⟨rfl, rfl⟩ := hd
     obtain ⟨vs', e1, e2, _⟩ := fill_sound (w := w) (G := G) (ρ := ρ) (evV := evV) parts.toList i.zero z.cells out hr (zero_CO ht) hf
     refine ⟨.agg vs', ?_, e2.agg⟩
     simp only [Instr.build, Sem.run_bind, ht.run_zero w, Result.andThen_ok, ht.run_und w, ht'.run_size w, Array.toList_map, e1, Sem.run_pure]
   ·simp at h
  ·simp at h
 ·simp at h

end
end Go.Abs

/- Reslicing, builtins, conversions, and all operations that only compute a value under one name. No condition. -/
namespace Go.Abs

section
variable {P : Program} {G : Nat → Prop} {ρ : Nat → Nat} {σ : Nat → Slot} {w : World}

def boundC : Option C → Nat → Option Nat
 | none, d => some d
 | some (.int _ n), _ => if 0 ≤ n then some n.toNat else none
 | _, _ => none

def sliceC (P : Program) (t : TypeId) (x : C) (lo hi mx : Option C) : Option C :=
 match (tyOf P t).map TI.kind, x with
 | some .string, .str s =>
  match boundC lo 0, boundC hi s.size, mx with
  | some l, some h, none => if l ≤ h ∧ h ≤ s.size then some (.str (s.extract l h)) else none
  | _, _, _ => none
 | some (.slice e), .sl nl full rows =>
  match tyOf P e, boundC lo 0, boundC hi rows.length, boundC mx rows.length with
  | some i, some l, some h, some m =>
   if l ≤ h ∧ h ≤ m ∧ m ≤ rows.length ∧ (mx.isSome = true → hi.isSome = true) ∧ rows.all (fun r => r.length == i.size) = true then
    some (.sl nl (if mx.isSome then m == h else full && h == rows.length) ((rows.drop l).take (h - l)))
   else none
  | _, _, _, _ => none
 | some (.slice e), .own k sz lo0 n =>
  match tyOf P e, boundC lo 0, boundC hi n, mx with
  | some i, some l, some h, none =>
   if l ≤ h ∧ h ≤ n ∧ (l = 0 ∨ l < h) ∧ sz = i.size then some (.own k sz (lo0 + l) (h - l)) else none
  | _, _, _, _ => none
 | _, _ => none

theorem bound_int {c : C} {d n : Nat} (h : boundC (some c) d = some n) : ∃ k q, c = .int k q ∧ 0 ≤ q ∧ n = q.toNat := by
 unfold boundC at h
 split at h
 ·rename_i he; cases he
 ·rename_i k q he
  cases he
  split at h
  ·simp only [Option.some.injEq] at h
   exact ⟨_, _, rfl, ‹_›, h.symm⟩
  ·simp at h
 ·simp at h

theorem run_sliceBound {k : IntKind} {q : Int} {top : Nat} {cd : BoundsCode} (h0 : 0 ≤ q) (h : q.toNat ≤ top) :
  (Instr.sliceBound (.int k q) top cd).run P w = .ok q.toNat w := by
 simp only [Instr.sliceBound, asIntOf, Sem.run_bind, Sem.run_pure, Result.andThen_ok]
 rw [if_pos (by omega)]
 rfl

theorem bounds_sound {b : Bool} {len cap l h m : Nat} {lo hi mx : Option Operand} {evC : Operand → C} {evV : Operand → Value}
  (hr : ∀ x ∈ lo.toList ++ hi.toList ++ mx.toList, CR G ρ σ w (evC x) (evV x))
  (h1 : boundC (lo.map evC) 0 = some l) (h2 : boundC (hi.map evC) len = some h) (h3 : boundC (mx.map evC) cap = some m)
  (hl : l ≤ h) (hh : h ≤ m) (hm : m ≤ cap) (hmx : mx.isSome = true → hi.isSome = true) :
  (Instr.sliceBounds b len cap (lo.map evV) (hi.map evV) (mx.map evV)).run P w = .ok (l, h, m) w := by
 have step : ∀ (x : Operand) (d n : Nat), x ∈ lo.toList ++ hi.toList ++ mx.toList → boundC (some (evC x)) d = some n → ∃ k q, evV x = .int k q ∧ 0 ≤ q ∧ n = q.toNat := by
  intro x d n hx hb
  obtain ⟨k, q, e1, e2, e3⟩ := bound_int hb
  have := hr x hx
  rw [e1] at this
  exact ⟨k, q, this.intOf, e2, e3⟩
 cases mx with
 | none =>
  simp only [Option.map_none, boundC, Option.some.injEq] at h3
  subst h3
  cases hi with
  | none =>
   simp only [Option.map_none, boundC, Option.some.injEq] at h2
   subst h2
   cases lo with
   | none =>
    simp only [Option.map_none, boundC, Option.some.injEq] at h1
    subst h1
    simp [Instr.sliceBounds]
   | some x =>
    obtain ⟨k, q, e1, e2, rfl⟩ := step x _ _ (by simp) h1
    simp only [Instr.sliceBounds, Option.map_none, Option.map_some, Sem.run_bind, Sem.run_pure, Result.andThen_ok, e1, run_sliceBound e2 hl]
  | some y =>
   obtain ⟨k', q', e1', e2', rfl⟩ := step y _ _ (by simp) h2
   cases lo with
   | none =>
    simp only [Option.map_none, boundC, Option.some.injEq] at h1
    subst h1
    simp only [Instr.sliceBounds, Option.map_none, Option.map_some, Sem.run_bind, Sem.run_pure, Result.andThen_ok, e1', run_sliceBound e2' hh]
   | some x =>
    obtain ⟨k, q, e1, e2, rfl⟩ := step x _ _ (by simp) h1
    simp only [Instr.sliceBounds, Option.map_none, Option.map_some, Sem.run_bind, Sem.run_pure, Result.andThen_ok, e1, run_sliceBound e2 hl, e1', run_sliceBound e2' hh]
 | some z =>
  obtain ⟨k'', q'', e1'', e2'', rfl⟩ := step z _ _ (by simp) h3
  cases hi with
  | none => simp at hmx
  | some y =>
   obtain ⟨k', q', e1', e2', rfl⟩ := step y _ _ (by simp) h2
   cases lo with
   | none =>
    simp only [Option.map_none, boundC, Option.some.injEq] at h1
    subst h1
    simp only [Instr.sliceBounds, Option.map_none, Option.map_some, Sem.run_bind, Sem.run_pure, Result.andThen_ok, e1', run_sliceBound e2' hh, e1'', run_sliceBound e2'' hm]
   | some x =>
    obtain ⟨k, q, e1, e2, rfl⟩ := step x _ _ (by simp) h1
    simp only [Instr.sliceBounds, Option.map_none, Option.map_some, Sem.run_bind, Sem.run_pure, Result.andThen_ok, e1, run_sliceBound e2 hl, e1', run_sliceBound e2' hh, e1'', run_sliceBound e2'' hm]

theorem boundC_eq {x : Option C} {a b n : Nat} (h : boundC x a = some n) (hx : x.isSome = true) : boundC x b = some n := by
 cases x with
 | none => simp at hx
 | some c => obtain ⟨k, q, rfl, h0, rfl⟩ := bound_int h; simp [boundC, h0]

theorem sliceC_sound {t : TypeId} {x c : C} {v : Value} {lo hi mx : Option Operand} {evC : Operand → C} {evV : Operand → Value}
  (h : sliceC P t x (lo.map evC) (hi.map evC) (mx.map evC) = some c) (hx : CR G ρ σ w x v)
  (hr : ∀ x ∈ lo.toList ++ hi.toList ++ mx.toList, CR G ρ σ w (evC x) (evV x)) :
  ∃ u, (Instr.sliceAt t v (lo.map evV) (hi.map evV) (mx.map evV)).run P w = .ok u w ∧ CR G ρ σ w c u := by
 unfold sliceC at h
 split at h
 ·rename_i s hk
  obtain ⟨i, inf, d, z, ht, hd⟩ := tyOf_kind hk
  cases d <;> simp [kindOf] at hd
  obtain rfl := hx.strOf
  split at h
  ·rename_i l hh h1 h2 h3
   split at h
   ·rename_i hc
    simp only [Option.some.injEq] at h
    subst h
    cases mx with
    | some m => simp at h3
    | none =>
     have := bounds_sound (P := P) (b := false) (cap := s.size) (m := s.size) hr h1 h2 (by simp [boundC]) hc.1 hc.2 (Nat.le_refl _) (by simp)
     simp only [Option.map_none] at this ⊢
     simp only [Instr.sliceAt, Instr.slice, Sem.run_bind, Sem.run_pure, Result.andThen_ok, ht.run_und w, Option.isSome_none, Bool.false_eq_true, if_false, this]
     exact ⟨_, rfl, .pure (.str _)⟩
   ·simp at h
  ·simp at h
 ·rename_i e nl full rows hk
  obtain ⟨i, inf, d, z, ht, hd⟩ := tyOf_kind hk
  cases d <;> simp [kindOf] at hd
  subst hd
  split at h
  ·rename_i ie l hh m he h1 h2 h3
   obtain ⟨inf', d', z', ht'⟩ := tyOf_ok he
   split at h
   ·rename_i hc
    obtain ⟨hl, hhm, hm, hmx, hall⟩ := hc
    simp only [Option.some.injEq] at h
    subst h
    obtain ⟨a, cap, rfl, ha, hnil, p⟩ := hx.slOf
    simp only [Option.isSome_map] at hmx ⊢
    cases p with
    | slnil =>
     simp only [List.length_nil, Nat.le_zero] at hm
     subst hm
     obtain rfl : hh = 0 := by omega
     obtain rfl : l = 0 := by omega
     have hb := bounds_sound (P := P) (b := true) (len := 0) (cap := 0) hr h1 h2 h3 hl hhm (Nat.le_refl _) hmx
     simp only [Instr.sliceAt, Instr.slice, Sem.run_bind, Sem.run_pure, Result.andThen_ok, ht.run_und w, List.length_nil, hb, ht'.run_size w]
     exact ⟨_, rfl, .pure (.slnil _)⟩
    | slemp =>
     simp only [List.length_nil, Nat.le_zero] at hm
     subst hm
     obtain rfl : hh = 0 := by omega
     obtain rfl : l = 0 := by omega
     have hb := bounds_sound (P := P) (b := true) (len := 0) (cap := 0) hr h1 h2 h3 hl hhm (Nat.le_refl _) hmx
     simp only [Instr.sliceAt, Instr.slice, Sem.run_bind, Sem.run_pure, Result.andThen_ok, ht.run_und w, List.length_nil, hb, ht'.run_size w]
     exact ⟨_, rfl, .pure (.slemp _ _)⟩
    | @sl _ _ b off sz _ _ cell hG hb hn hf hc' hsz hcell hcl hr' =>
     rw [List.all_eq_true] at hall
     have hrow : ∀ (i : Nat) (row : List C), rows[i]? = some row → row.length = ie.size := by
      intro i row hi
      have := hall row (List.mem_of_getElem? hi)
      simpa using this
     have hM : ∃ M, boundC (mx.map evC) cap = some M ∧ hh ≤ M ∧ M ≤ cap ∧ (mx.isSome = true → M = m) ∧ (mx.isSome = false → M = cap) := by
      cases mx with
      | none => exact ⟨cap, rfl, by omega, Nat.le_refl _, by simp, fun _ => rfl⟩
      | some x => exact ⟨m, boundC_eq h3 rfl, hhm, by omega, fun _ => rfl, by simp⟩
     obtain ⟨M, hM1, hM2, hM3, hM4, hM5⟩ := hM
     have hb' := bounds_sound (P := P) (b := true) (len := rows.length) (cap := cap) hr h1 h2 hM1 hl hM2 hM3 hmx
     simp only [Instr.sliceAt, Instr.slice, Sem.run_bind, Sem.run_pure, Result.andThen_ok, ht.run_und w, hb', ht'.run_size w, Option.map_some, addr_add]
     have hlen : ((rows.drop l).take (hh - l)).length = hh - l := by simp; omega
     have haddr : ∃ o', (if M = l then some (⟨b, off, none⟩ : Addr) else some ⟨b, off + l * ie.size, none⟩) = some ⟨b, o', none⟩ ∧ (hh - l ≠ 0 → o' = off + l * ie.size) := by
      by_cases hMl : M = l
      ·exact ⟨off, by rw [if_pos hMl], fun h => absurd h (by omega)⟩
      ·exact ⟨_, by rw [if_neg hMl], fun _ => rfl⟩
     obtain ⟨o', ho1, ho2⟩ := haddr
     rw [ho1]
     have hget : ∀ (i : Nat) (row : List C), ((rows.drop l).take (hh - l))[i]? = some row → rows[l + i]? = some row ∧ i < hh - l := by
      intro i row hi
      have hlt := (List.getElem?_eq_some_iff.1 hi).1
      rw [hlen] at hlt
      rw [List.getElem?_take_of_lt hlt, List.getElem?_drop] at hi
      exact ⟨hi, hlt⟩
     refine ⟨_, rfl, .pure (.sl (sz := ie.size) (fun i j => cell (l + i) j) hG hb hlen.symm ?_ (by rw [hlen]; omega) ?_ ?_ ?_ ?_)⟩
     ·intro hfull
      rw [hlen]
      cases hmx' : mx.isSome with
      | true => simp only [hmx', if_true, beq_iff_eq] at hfull; rw [hM4 hmx', hfull]
      | false =>
       simp only [hmx', Bool.false_eq_true, if_false, Bool.and_eq_true, beq_iff_eq] at hfull
       rw [hM5 hmx', hf hfull.1, hfull.2]
     ·intro i row hi
      exact hrow _ _ (hget i row hi).1
     ·intro i row hi j c hj
      obtain ⟨g1, g2⟩ := hget i row hi
      have e1 := hcell _ _ g1 j c hj
      have e2 := hsz _ _ g1
      have e3 := hrow _ _ g1
      rw [ho2 (by omega), ← e3, e2]
      rw [Nat.add_mul] at e1
      rw [Nat.add_assoc, ← Nat.add_assoc (l * sz)]
      exact e1
     ·intro i row hi
      exact hcl _ _ (hget i row hi).1
     ·intro i row hi
      exact hr' _ _ (hget i row hi).1
   ·simp at h
  ·simp at h
 ·rename_i e k sz lo0 n hk
  obtain ⟨i, inf, d, z, ht, hd⟩ := tyOf_kind hk
  cases d <;> simp [kindOf] at hd
  subst hd
  split at h
  ·rename_i ie l hh he h1 h2 h3
   obtain ⟨inf', d', z', ht'⟩ := tyOf_ok he
   split at h
   ·rename_i hc
    obtain ⟨hl, hhn, hor, hs⟩ := hc
    simp only [Option.some.injEq] at h
    subst h
    cases mx with
    | some m => simp at h3
    | none =>
     have nilcase : ∀ (a : Option Addr), n = 0 → ∃ a', (Instr.sliceAt t (.slice a 0 0) (lo.map evV) (hi.map evV) none).run P w = .ok (.slice a' 0 0) w ∧ a'.isNone = a.isNone ∧ hh = 0 ∧ l = 0 := by
      rintro a rfl
      obtain rfl : hh = 0 := by omega
      obtain rfl : l = 0 := by omega
      have hb := bounds_sound (P := P) (b := true) (len := 0) (cap := 0) (m := 0) (mx := none) hr h1 h2 rfl (Nat.le_refl _) (Nat.le_refl _) (Nat.le_refl _) (by simp)
      simp only [Option.map_none] at hb ⊢
      simp only [Instr.sliceAt, Instr.slice, Sem.run_bind, Sem.run_pure, Result.andThen_ok, ht.run_und w, hb, ht'.run_size w]
      exact ⟨_, rfl, by simp, by simp, by simp⟩
     have blockcase : ∀ (p : Addr) (cap : Nat), n ≤ cap → ∃ p', (Instr.sliceAt t (.slice (some p) n cap) (lo.map evV) (hi.map evV) none).run P w = .ok (.slice (some p') (hh - l) (cap - l)) w ∧
       (p' = if cap = l then p else p.add (l * ie.size)) := by
      intro p cap hcap
      have hb := bounds_sound (P := P) (b := true) (len := n) (cap := cap) (m := cap) (mx := none) hr h1 h2 rfl hl (by omega) (Nat.le_refl _) (by simp)
      simp only [Option.map_none] at hb ⊢
      simp only [Instr.sliceAt, Instr.slice, Sem.run_bind, Sem.run_pure, Result.andThen_ok, ht.run_und w, hb, ht'.run_size w, Option.map_some]
      refine ⟨_, ?_, rfl⟩
      by_cases hcl : cap = l <;> simp [hcl]
     cases hx with
     | pure p => cases p
     | ownDead hd hv =>
      rcases hv with ⟨a, cap, rfl, hcap⟩ | ⟨h0, a, rfl⟩
      ·obtain ⟨p', e1, _⟩ := blockcase a cap hcap
       exact ⟨_, e1, .ownDead hd (.inl ⟨_, _, rfl, by omega⟩)⟩
      ·obtain ⟨a', e1, _, rfl, rfl⟩ := nilcase a h0
       exact ⟨_, e1, .ownDead hd (.inr ⟨rfl, _, rfl⟩)⟩
     | ownNil ho hnl ha =>
      obtain ⟨a', e1, e2, rfl, rfl⟩ := nilcase _ rfl
      exact ⟨_, e1, .ownNil ho hnl (by rw [e2, ha])⟩
     | @own _ _ _ _ cap f m o ho hnl hsz hz hcap hf hm hroom =>
      subst hm
      obtain ⟨p', e1, e2⟩ := blockcase _ cap hcap
      refine ⟨_, e1, ?_⟩
      have haddr : p' = ⟨ρ k, (lo0 + l) * sz, none⟩ := by
       rw [e2]
       by_cases hcl : cap = l
       ·rw [if_pos hcl]
        obtain rfl : l = 0 := by omega
        rw [hf, Nat.add_zero]
       ·rw [if_neg hcl, addr_add, hf, hs, Nat.add_mul]
      rw [haddr]
      refine .own ho hnl hsz hz (by omega) rfl rfl fun cs el fz hcs => ?_
      have := hroom cs el fz hcs
      rw [show lo0 + l + (cap - l) = lo0 + cap from by omega]
      exact this
   ·simp at h
  ·simp at h
 ·simp at h

end
end Go.Abs

/- Maps: their keys, what is found in one, and lookups. No condition. -/
namespace Go.Abs

section
variable {P : Program} {G : Nat → Prop} {ρ : Nat → Nat} {σ : Nat → Slot} {w : World}

def keyQ (P : Program) (t : TypeId) : Option KQ :=
 match tyOf P t with
 | some i => match i.kind with
  | .int _ => some .int
  | .string => some .str
  | .bool => some .bool
  | .struct _ => (flatEq P t).map .flat
  | .array n e => match tyOf P e with
   | some j => match j.kind with
    | .int k => if j.size = 1 then some (.flat (List.replicate n k)) else none
    | _ => none
   | none => none
  | _ => none
 | none => none

def fitQ : KQ → C → Bool
 | .flat ks, .agg xs => (eqInts ks xs xs).isSome
 | .flat _, _ => false
 | _, _ => true

inductive ER (G : Nat → Prop) (ρ : Nat → Nat) (σ : Nat → Slot) (w : World) : List MapEntry → List (List C) → Prop
 | nil : ER G ρ σ w [] []
 | cons {e : MapEntry} {k v : C} {es : List MapEntry} {rows : List (List C)} (hk : CR G ρ σ w k e.key) (hv : CR G ρ σ w v e.val) (h : ER G ρ σ w es rows) : ER G ρ σ w (e :: es) ([k, v] :: rows)

theorem ER.of : ∀ {es : List MapEntry} {rows : List (List C)}, es.length = rows.length → (∀ (i : Nat) (row : List C), rows[i]? = some row → row.length = 2 ∧ ∃ e, es[i]? = some e ∧
      ∀ (j : Nat) (c : C), row[j]? = some c → CR G ρ σ w c (if j = 0 then e.key else e.val)) → ER G ρ σ w es rows
  | [], [], _, _ => .nil
  | [], _ :: _, h, _ => by simp at h
  | _ :: _, [], h, _ => by simp at h
  | e :: es, row :: rows, h, hr => by
    obtain ⟨h1, e', h2, h3⟩ := hr 0 row rfl
    simp only [List.getElem?_cons_zero, Option.some.injEq] at h2
    subst h2
    match row, h1 with
    | [k, v], _ => exact .cons (h3 0 k rfl) (h3 1 v rfl) (ER.of (by simpa using h) fun i row hi => by simpa using hr (i + 1) row (by simpa using hi))

theorem ER.len {es : List MapEntry} {rows : List (List C)} (h : ER G ρ σ w es rows) : es.length = rows.length := by
 induction h with
 | nil => rfl
 | cons _ _ _ ih => simp [ih]

theorem ER.get {es : List MapEntry} {rows : List (List C)} (h : ER G ρ σ w es rows) : ∀ (i : Nat) (row : List C), rows[i]? = some row → row.length = 2 ∧ ∃ e, es[i]? = some e ∧
      ∀ (j : Nat) (c : C), row[j]? = some c → CR G ρ σ w c (if j = 0 then e.key else e.val) := by
  induction h with
  | nil => intro i row hi; simp at hi
  | @cons e k v es rows hk hv _ ih =>
    intro i row hi
    cases i with
    | zero =>
      simp only [List.getElem?_cons_zero, Option.some.injEq] at hi
      subst hi
      refine ⟨rfl, e, rfl, fun j c hj => ?_⟩
      match j, hj with
      | 0, hj => simp at hj; subst hj; exact hk
      | 1, hj => simp at hj; subst hj; exact hv
      | n + 2, hj => simp at hj
    | succ i => simpa using ih i row (by simpa using hi)

theorem prim_check {t : TypeId} {d : TypeDesc} {v : Value} (h : P.underlying t = some d) (hd : (match d with | .int _ | .string | .bool => true | _ => false) = true) (e : Bool) (n : Nat) : (Instr.checkKey e (n + 1) t v).run P w = .ok () w := by
 unfold Instr.checkKey
 rw [Sem.run_bind, run_underlying h, Result.andThen_ok]
 cases d <;> simp at hd <;> rfl

theorem check_fields {cs : Array Value} {e : Bool} {n : Nat} : ∀ (l : List Field) (o : Nat) (ks : List IntKind), (l.zipIdx o).mapM (flatF P) = some ks → cs.size = o + ks.length →
  (forIn l () fun f __s => if f.name ≠ "_" then do
    let __do_lift ← part f.type cs f.offset
    Instr.checkKey e (n + 1) f.type __do_lift
    pure (ForInStep.yield ()) else pure (ForInStep.yield ()) : Sem Unit).run P w = .ok () w
 | [], o, ks, hk, _ => by simp
 | f :: l, o, ks, hk, hs => by
  simp only [List.zipIdx_cons, List.mapM_cons, Option.bind_eq_bind, Option.bind_eq_some_iff, Option.pure_def, Option.some.injEq] at hk
  obtain ⟨k, hf, ks', hk', rfl⟩ := hk
  unfold flatF at hf
  split at hf
  ·rename_i hc
   obtain ⟨h1, h2, h3⟩ := hc
   simp only at h1 h2 h3 hf
   split at hf
   ·rename_i k' hu
    have h1' : f.name ≠ "_" := by simpa using h1
    have p1 := run_part1 (P := P) (w := w) (cs := cs) (i := o) hu rfl (by simp at hs; omega)
    rw [List.forIn_cons]
    simp only [if_pos h1', h2, Sem.run_bind, p1, Result.andThen_ok, prim_check hu rfl e n, Sem.run_pure]
    exact check_fields l (o + 1) ks' hk' (by simp at hs; omega)
   ·simp at hf
  ·simp at hf

theorem eqInts_len : ∀ {ks : List IntKind} {xs ys : List C} {b : Bool}, eqInts ks xs ys = some b → xs.length = ks.length ∧ ys.length = ks.length
 | [], [], [], _, _ => ⟨rfl, rfl⟩
 | k :: ks, .int k1 a :: xs, .int k2 b :: ys, _, h => by
  simp only [eqInts] at h
  split at h
  ·simp only [Option.map_eq_some_iff] at h
   obtain ⟨r, h, _⟩ := h
   obtain ⟨h1, h2⟩ := eqInts_len h
   simp [h1, h2]
  ·simp at h
 | [], _ :: _, _, _, h => by simp [eqInts] at h
 | [], [], _ :: _, _, h => by simp [eqInts] at h
 | _ :: _, [], _, _, h => by simp [eqInts] at h
 | _ :: _, c :: _, [], _, h => by cases c <;> simp [eqInts] at h
 | _ :: _, c :: _, d :: _, _, h => by
  cases c <;> cases d <;> simp only [eqInts] at h <;> first | (simp at h; done) | skip
  split at h
  ·simp only [Option.map_eq_some_iff] at h
   obtain ⟨r, h, _⟩ := h
   obtain ⟨h1, h2⟩ := eqInts_len h
   simp [h1, h2]
  ·simp at h

theorem check_elems {et : TypeId} {k : IntKind} (hu : P.underlying et = some (.int k)) (hsz : (sizeOf et).run P w = .ok 1 w) {cs : Array Value} {e : Bool} {n : Nat} : ∀ (l : List Nat), (∀ i ∈ l, i < cs.size) →
  (forIn l () fun i __s => do
    let __do_lift ← sizeOf et
    let __do_lift ← part et cs (i * __do_lift)
    Instr.checkKey e (n + 1) et __do_lift
    pure (ForInStep.yield ()) : Sem Unit).run P w = .ok () w
 | [], _ => by simp
 | i :: l, hs => by
  have p1 := run_part1 (P := P) (w := w) (cs := cs) (i := i) hu rfl (hs i (by simp))
  rw [List.forIn_cons]
  simp only [Sem.run_bind, hsz, Nat.mul_one, p1, Result.andThen_ok, prim_check hu rfl e n, Sem.run_pure]
  exact check_elems hu hsz l fun j hj => hs j (by simp [hj])

theorem run_checkQ {t : TypeId} {q : KQ} {kc : C} {kv : Value} (hq : keyQ P t = some q) (hf : fitQ q kc = true) (hk : CR G ρ σ w kc kv) (e : Bool) : (Instr.checkKey e 10000 t kv).run P w = .ok () w := by
 unfold keyQ at hq
 split at hq
 ·rename_i i hi
  obtain ⟨inf, d, z, ht⟩ := tyOf_ok hi
  have hkd := ht.kind
  split at hq
  ·rename_i k hik
   rw [hik] at hkd
   cases d <;> simp [kindOf] at hkd
   exact prim_check ht.und rfl e 9999
  ·rename_i hik
   rw [hik] at hkd
   cases d <;> simp [kindOf] at hkd
   exact prim_check ht.und rfl e 9999
  ·rename_i hik
   rw [hik] at hkd
   cases d <;> simp [kindOf] at hkd
   exact prim_check ht.und rfl e 9999
  ·rename_i fs hik
   simp only [Option.map_eq_some_iff] at hq
   obtain ⟨ks, hks, rfl⟩ := hq
   unfold fitQ at hf
   split at hf
   ·rename_i ks' xs he1
    simp only [KQ.flat.injEq] at he1
    subst he1
    cases heq : eqInts ks xs xs with
    | none => simp [heq] at hf
    | some b =>
     have hlen := (eqInts_len heq).1
     obtain ⟨vx, rfl, hx1⟩ := hk.aggOf
     unfold flatEq at hks
     split at hks
     ·simp at hks
     split at hks
     ·simp at hks
     ·split at hks
      ·rename_i fs' hfs
       have hu := ht.und
       rw [hu] at hfs
       simp only [Option.some.injEq] at hfs
       subst hfs
       unfold Instr.checkKey
       rw [Sem.run_bind, run_underlying hu, Result.andThen_ok]
       simp only
       rw [← Array.forIn_toList]
       have := check_fields (P := P) (w := w) (cs := vx) (e := e) (n := 9998) fs'.toList 0 ks hks (by rw [hx1.1, hlen]; omega)
       simpa using this
      ·simp at hks
   ·simp at hf
   ·rename_i hne _
    exact absurd rfl (hne ks)
  ·rename_i len et hik
   split at hq
   ·rename_i j hj
    obtain ⟨inf', d', z', ht'⟩ := tyOf_ok hj
    have hkd' := ht'.kind
    split at hq
    ·rename_i k hjk
     rw [hjk] at hkd'
     cases d' <;> simp [kindOf] at hkd'
     subst hkd'
     split at hq
     ·rename_i hsz
      simp only [Option.some.injEq] at hq
      subst hq
      unfold fitQ at hf
      split at hf
      ·rename_i ks' xs he1
       simp only [KQ.flat.injEq] at he1
       subst he1
       cases heq : eqInts (List.replicate len k) xs xs with
       | none => simp [heq] at hf
       | some b =>
        have hlen := (eqInts_len heq).1
        obtain ⟨vx, rfl, hx1⟩ := hk.aggOf
        rw [hik] at hkd
        cases d <;> simp [kindOf] at hkd
        obtain ⟨rfl, rfl⟩ := hkd
        have hs1 := ht'.run_size w
        rw [hsz] at hs1
        unfold Instr.checkKey
        rw [Sem.run_bind, run_underlying ht.und, Result.andThen_ok]
        simp only [Std.Legacy.Range.forIn_eq_forIn_range', Std.Legacy.Range.size, Nat.sub_zero, Nat.add_one_sub_one, Nat.div_one]
        have := check_elems (P := P) (w := w) ht'.und hs1 (cs := vx) (e := e) (n := 9998) (List.range' 0 len) (fun i hi => by
         have h1 := hx1.1
         simp at hi hlen
         omega)
        simpa using this
      ·simp at hf
      ·rename_i hne _
       exact absurd rfl (hne _)
     ·simp at hq
    ·simp at hq
   ·simp at hq
  ·simp at hq
 ·simp at hq

theorem sameBits_ints {n : Nat} : ∀ (l : List (Value × Value)), (∀ p ∈ l, ∃ k a, p = (.int k a, .int k a)) → (l.all fun (x, y) => Instr.sameBits (n + 1) x y) = true
 | [], _ => rfl
 | p :: l, h => by
  obtain ⟨k, a, rfl⟩ := h p (by simp)
  simp only [List.all_cons, Bool.and_eq_true]
  exact ⟨by simp [Instr.sameBits], sameBits_ints l fun q hq => h q (by simp [hq])⟩

theorem eqInts_true : ∀ {ks : List IntKind} {xs ys : List C}, eqInts ks xs ys = some true → ∀ (i : Nat) (c d : C), xs[i]? = some c → ys[i]? = some d → ∃ k a, c = .int k a ∧ d = .int k a
 | [], [], [], _, i, c, d, hc, _ => by simp at hc
 | k :: ks, x :: xs, y :: ys, h, i, c, d, hc, hd => by
  cases x <;> cases y <;> simp only [eqInts] at h <;> first | (simp at h; done) | skip
  split at h
  ·rename_i hk
   obtain ⟨rfl, rfl⟩ := hk
   simp only [Option.map_eq_some_iff, Bool.and_eq_true, decide_eq_true_eq] at h
   obtain ⟨r, h, hb⟩ := h
   cases i with
   | zero =>
    simp only [List.getElem?_cons_zero, Option.some.injEq] at hc hd
    obtain ⟨h1, h2⟩ := hb
    subst h1 hc hd
    exact ⟨_, _, rfl, rfl⟩
   | succ i =>
    simp only [List.getElem?_cons_succ] at hc hd
    rw [hb.2] at h
    exact eqInts_true h i c d hc hd
  ·simp at h
 | [], _ :: _, _, h, _, _, _, _, _ => by simp [eqInts] at h
 | [], [], _ :: _, h, _, _, _, _, _ => by simp [eqInts] at h
 | _ :: _, [], _, h, _, _, _, _, _ => by simp [eqInts] at h
 | _ :: _, c :: _, [], h, _, _, _, _, _ => by cases c <;> simp [eqInts] at h

theorem run_elems {et : TypeId} {k : IntKind} (hu : P.underlying et = some (.int k)) {dp : Nat} {vx vy : Array Value} : ∀ (m o : Nat) (xs ys : List C) (b : Bool), eqInts (List.replicate m k) xs ys = some b →
    vx.size = o + xs.length → vy.size = o + ys.length → (∀ (i : Nat) (c : C), xs[i]? = some c → CR G ρ σ w c (vx.getD (o + i) undef)) → (∀ (i : Nat) (c : C), ys[i]? = some c → CR G ρ σ w c (vy.getD (o + i) undef)) →
    (forIn (List.range' o m) ((none : Option Bool), ()) fun i __s => do
                 let __do_lift ← part et vx (i * 1)
                 let __do_lift_1 ← part et vy (i * 1)
                 let __do_lift ← Op.equalIn (dp + 1) et __do_lift __do_lift_1
                 if (!__do_lift) = true then pure (ForInStep.done (some false, ())) else pure (ForInStep.yield (none, ())) : Sem (Option Bool × Unit)).run P w = .ok (if b then none else some false, ()) w
  | 0, o, xs, ys, b, he, _, _, _, _ => by
    cases xs <;> cases ys <;> simp [eqInts] at he
    subst he
    simp
  | m + 1, o, xs, ys, b, he, sx, sy, hx, hy => by
    rw [List.replicate_succ] at he
    cases xs with
    | nil => cases ys <;> simp [eqInts] at he
    | cons c xs =>
      cases ys with
      | nil => cases c <;> simp [eqInts] at he
      | cons d ys =>
        cases c <;> cases d <;> simp only [eqInts] at he <;> try (simp at he; done)
        rename_i k1 a k2 a'
        split at he
        · rename_i hkk
          obtain ⟨rfl, rfl⟩ := hkk
          simp only [Option.map_eq_some_iff] at he
          obtain ⟨r, hr, rfl⟩ := he
          have ex := (hx 0 _ rfl).intOf
          have ey := (hy 0 _ rfl).intOf
          simp only [Nat.add_zero] at ex ey
          have p1 := run_part1 (P := P) (w := w) (cs := vx) (i := o) hu rfl (by simp at sx; omega)
          have p2 := run_part1 (P := P) (w := w) (cs := vy) (i := o) hu rfl (by simp at sy; omega)
          have e1 : (Op.equalIn (dp + 1) et (.int k2 a) (.int k2 a')).run P w = .ok (a == a') w := by
            simp [Op.equalIn, underlying, hu]
          rw [List.range'_succ, List.forIn_cons]
          simp only [Nat.mul_one, Sem.run_bind, p1, p2, ex, ey, Result.andThen_ok, e1]
          by_cases haa : a = a'
          · subst haa
            simp only [beq_self_eq_true, Bool.not_true, Bool.false_eq_true, if_false, Sem.run_pure, Result.andThen_ok]
            have := run_elems hu (dp := dp) (vx := vx) (vy := vy) m (o + 1) xs ys r hr (by simp at sx; omega) (by simp at sy; omega) (fun i c hi => by have := hx (i + 1) c (by simpa using hi); rwa [show o + 1 + i = o + (i + 1) by omega])
              (fun i c hi => by have := hy (i + 1) c (by simpa using hi); rwa [show o + 1 + i = o + (i + 1) by omega])
            simpa using this
          · have : (a == a') = false := by simpa using haa
            simp [this, haa]
        · simp at he

theorem run_sameC {t : TypeId} {ks : List IntKind} (hq : keyQ P t = some (.flat ks)) {xs ys : List C} {b : Bool} {u v : Value} (h : eqInts ks xs ys = some b) (hx : CR G ρ σ w (.agg xs) u) (hy : CR G ρ σ w (.agg ys) v) :
  (Op.equal t u v).run P w = .ok b w := by
 unfold keyQ at hq
 split at hq
 ·rename_i i hi
  obtain ⟨inf, d, z, ht⟩ := tyOf_ok hi
  have hkd := ht.kind
  split at hq
  ·simp at hq
  ·simp at hq
  ·simp at hq
  ·rename_i fs hik
   simp only [Option.map_eq_some_iff] at hq
   obtain ⟨ks', hks, hkk⟩ := hq
   cases hkk
   refine run_eqlC (x := .agg xs) (y := .agg ys) ?_ hx hy
   unfold eqlC
   simp only [hi, Option.map_some, hik, hks, h]
  ·rename_i len et hik
   split at hq
   ·rename_i j hj
    obtain ⟨inf', d', z', ht'⟩ := tyOf_ok hj
    have hkd' := ht'.kind
    split at hq
    ·rename_i k hjk
     rw [hjk] at hkd'
     cases d' <;> simp [kindOf] at hkd'
     subst hkd'
     split at hq
     ·rename_i hsz
      simp only [Option.some.injEq, KQ.flat.injEq] at hq
      subst hq
      rw [hik] at hkd
      cases d <;> simp [kindOf] at hkd
      obtain ⟨rfl, rfl⟩ := hkd
      have hs1 := ht'.run_size w
      rw [hsz] at hs1
      obtain ⟨vx, rfl, hx1⟩ := hx.aggOf
      obtain ⟨vy, rfl, hy1⟩ := hy.aggOf
      obtain ⟨dp, hdp1, hdp, _⟩ := equal_one
      rw [hdp]
      clear hdp
      simp only [Op.equalIn, Sem.run_bind, run_underlying ht.und, Result.andThen_ok, hs1]
      simp only [Std.Legacy.Range.forIn_eq_forIn_range', Std.Legacy.Range.size, Nat.sub_zero, Nat.add_one_sub_one, Nat.div_one]
      obtain ⟨e, rfl⟩ := hdp1
      rw [run_elems ht'.und len 0 xs ys b h (by simp [hx1.1]) (by simp [hy1.1]) (fun i c hi => by simpa using hx1.2 i c hi) (fun i c hi => by simpa using hy1.2 i c hi)]
      cases b <;> rfl
     ·simp at hq
    ·simp at hq
   ·simp at hq
  ·simp at hq
 ·simp at hq

inductive FindOk (G : Nat → Prop) (ρ : Nat → Nat) (σ : Nat → Slot) (w : World) (kv : Value) (es : List MapEntry) (i : Nat) : Option (Nat × C) → Option (Nat × Value) → Prop
 | none : FindOk G ρ σ w kv es i none none
 | some {j : Nat} {v : C} {u : Value} {e : MapEntry} (hv : CR G ρ σ w v u) (hj : i ≤ j) (he : es[j - i]? = some e) (hs : Instr.sameBits 10000 e.key kv = true) : FindOk G ρ σ w kv es i (some (j, v)) (some (j, u))

theorem FindOk.step {kv : Value} {es : List MapEntry} {e : MapEntry} {i : Nat} {r : Option (Nat × C)} {r' : Option (Nat × Value)} (h : FindOk G ρ σ w kv es (i + 1) r r') : FindOk G ρ σ w kv (e :: es) i r r' := by
 cases h with
 | none => exact .none
 | @some j v u e' hv hj he hs => exact .some hv (by omega) (by rw [show j - i = (j - (i + 1)) + 1 by omega, List.getElem?_cons_succ]; exact he) hs

def primQ : KQ → TypeDesc → Bool
 | .int, .int _ => true
 | .str, .string => true
 | .bool, .bool => true
 | _, _ => false

theorem find_prim {q : KQ} {d : TypeDesc} (hd : primQ q d = true) {kc : C} {kv : Value} (hk : CR G ρ σ w kc kv) :
  ∀ {es : List MapEntry} {rows : List (List C)} {i : Nat} {r : Option (Nat × C)}, ER G ρ σ w es rows → findC q kc rows i = some r → ∃ r', Instr.findNow d kv es i = some r' ∧ FindOk G ρ σ w kv es i r r' := by
 intro es rows i r he h
 induction he generalizing i with
 | nil =>
  simp only [findC, Option.some.injEq] at h
  subst h
  exact ⟨_, rfl, .none⟩
 | @cons e k v es rows hk1 hv1 he ih =>
  simp only [findC] at h
  have key : ∀ b, sameC q kc k = some b → Instr.sameNow d kv e.key = some b ∧ (b = true → Instr.sameBits 10000 e.key kv = true) := by
   intro b hb
   unfold sameC at hb
   split at hb
   ·rename_i k1 a k2 b'
    split at hb
    ·rename_i hkk
     subst hkk
     simp only [Option.some.injEq] at hb
     subst hb
     cases d <;> simp [primQ] at hd
     rw [hk.intOf, hk1.intOf]
     refine ⟨by simp [Instr.sameNow], fun hb => ?_⟩
     have : a = b' := by simpa using hb
     simp [Instr.sameBits, this]
    ·simp at hb
   ·rename_i a b'
    simp only [Option.some.injEq] at hb
    subst hb
    cases d <;> simp [primQ] at hd
    rw [hk.strOf, hk1.strOf]
    refine ⟨by simp [Instr.sameNow], fun hb => ?_⟩
    have h1 : (a.data == b'.data) = true := hb
    have h2 : b'.data = a.data := by have := eq_of_beq h1; exact this.symm
    show (b'.data == a.data) = true
    rw [h2]
    exact beq_self_eq_true _
   ·rename_i a b'
    simp only [Option.some.injEq] at hb
    subst hb
    cases d <;> simp [primQ] at hd
    rw [hk.boolOf, hk1.boolOf]
    refine ⟨by simp [Instr.sameNow], fun hb => ?_⟩
    have : a = b' := by simpa using hb
    simp [Instr.sameBits, this]
   ·simp [primQ] at hd
   ·simp at hb
  split at h
  ·rename_i hs
   obtain ⟨k1, k2⟩ := key true hs
   simp only [Option.some.injEq] at h
   subst h
   exact ⟨some (i, e.val), by simp [Instr.findNow, k1], .some hv1 (Nat.le_refl _) (by simp) (k2 rfl)⟩
  ·rename_i hs
   obtain ⟨k1, k2⟩ := key false hs
   obtain ⟨r', h1, h2⟩ := ih h
   exact ⟨r', by simp [Instr.findNow, k1, h1], h2.step⟩
  ·simp at h

theorem find_flat {t : TypeId} {ks : List IntKind} (hq : keyQ P t = some (.flat ks)) {kc : C} {kv : Value} (hk : CR G ρ σ w kc kv) :
  ∀ {es : List MapEntry} {rows : List (List C)} {i : Nat} {r : Option (Nat × C)}, ER G ρ σ w es rows → findC (.flat ks) kc rows i = some r → ∃ r', (Instr.findAsking t kv es i).run P w = .ok r' w ∧ FindOk G ρ σ w kv es i r r' := by
 intro es rows i r he h
 induction he generalizing i with
 | nil =>
  simp only [findC, Option.some.injEq] at h
  subst h
  exact ⟨_, rfl, .none⟩
 | @cons e k v es rows hk1 hv1 he ih =>
  simp only [findC] at h
  have key : ∀ b, sameC (.flat ks) kc k = some b → (Op.equal t kv e.key).run P w = .ok b w ∧ (b = true → Instr.sameBits 10000 e.key kv = true) := by
   intro b hb
   unfold sameC at hb
   split at hb
   ·simp_all
   ·simp_all
   ·simp_all
   ·rename_i ks' xs ys hkk
    cases hkk
    refine ⟨run_sameC hq hb hk hk1, ?_⟩
    rintro rfl
    obtain ⟨h1, h2⟩ := eqInts_len hb
    obtain ⟨vx, rfl, hx1⟩ := hk.aggOf
    obtain ⟨vy, hvy, hy1⟩ := hk1.aggOf
    rw [hvy]
    simp only [Instr.sameBits, Bool.and_eq_true, beq_iff_eq]
    refine ⟨by rw [hy1.1, hx1.1, h1, h2], sameBits_ints _ fun p hp => ?_⟩
    obtain ⟨i, hi⟩ := List.getElem?_of_mem hp
    rw [List.getElem?_zip_eq_some] at hi
    obtain ⟨g1, g2⟩ := hi
    have l1 : i < xs.length := by have := (List.getElem?_eq_some_iff.1 g2).1; have := hx1.1; simp at *; omega
    have l2 : i < ys.length := by omega
    obtain ⟨k', a, e1, e2⟩ := eqInts_true hb i _ _ (List.getElem?_eq_getElem l1) (List.getElem?_eq_getElem l2)
    have f1 := hx1.2 i _ (List.getElem?_eq_getElem l1)
    have f2 := hy1.2 i _ (List.getElem?_eq_getElem l2)
    rw [e1] at f1
    rw [e2] at f2
    have f1 := f1.intOf
    have f2 := f2.intOf
    simp only [Array.getElem?_toList] at g1 g2
    simp only [Array.getD_eq_getD_getElem?, g1, g2, Option.getD_some] at f1 f2
    exact ⟨k', a, Prod.ext f2 f1⟩
   ·simp at hb
  split at h
  ·rename_i hs
   obtain ⟨k1, k2⟩ := key true hs
   simp only [Option.some.injEq] at h
   subst h
   exact ⟨some (i, e.val), by simp [Instr.findAsking, k1], .some hv1 (Nat.le_refl _) (by simp) (k2 rfl)⟩
  ·rename_i hs
   obtain ⟨k1, k2⟩ := key false hs
   obtain ⟨r', h1, h2⟩ := ih h
   exact ⟨r', by simp [Instr.findAsking, k1, h1], h2.step⟩
  ·simp at h

theorem findKey_sound {t : TypeId} {q : KQ} (hq : keyQ P t = some q) {kc : C} {kv : Value} (hk : CR G ρ σ w kc kv) {es : List MapEntry} {rows : List (List C)} {r : Option (Nat × C)} (he : ER G ρ σ w es rows) (h : findC q kc rows 0 = some r) :
  ∃ r', (Instr.findKey t kv es).run P w = .ok r' w ∧ FindOk G ρ σ w kv es 0 r r' := by
 have hq0 := hq
 unfold keyQ at hq
 split at hq
 ·rename_i i hi
  obtain ⟨inf, d, z, ht⟩ := tyOf_ok hi
  have hkd := ht.kind
  have flat : ∀ ks, q = .flat ks → (match d with | .struct _ | .array _ _ => True | _ => False) → ∃ r', (Instr.findKey t kv es).run P w = .ok r' w ∧ FindOk G ρ σ w kv es 0 r r' := by
   rintro ks rfl hd
   obtain ⟨r', h1, h2⟩ := find_flat hq0 hk he h
   refine ⟨r', ?_, h2⟩
   unfold Instr.findKey
   rw [Sem.run_bind, run_underlying ht.und, Result.andThen_ok]
   cases es with
   | nil =>
    cases h2 with
    | none => rfl
    | some hv hj hee hsb => simp at hee
   | cons e es =>
    have : Instr.findNow d kv (e :: es) 0 = none := by
     unfold Instr.findNow
     have : Instr.sameNow d kv e.key = none := by
      cases d <;> simp at hd <;> rfl
     rw [this]
    rw [this]
    exact h1
  have prim : primQ q d = true → ∃ r', (Instr.findKey t kv es).run P w = .ok r' w ∧ FindOk G ρ σ w kv es 0 r r' := by
   intro hd
   obtain ⟨r', h1, h2⟩ := find_prim hd hk he h
   refine ⟨r', ?_, h2⟩
   unfold Instr.findKey
   rw [Sem.run_bind, run_underlying ht.und, Result.andThen_ok, h1]
   rfl
  split at hq
  ·rename_i k hik
   rw [hik] at hkd
   cases d <;> simp [kindOf] at hkd
   cases hq
   exact prim rfl
  ·rename_i hik
   rw [hik] at hkd
   cases d <;> simp [kindOf] at hkd
   cases hq
   exact prim rfl
  ·rename_i hik
   rw [hik] at hkd
   cases d <;> simp [kindOf] at hkd
   cases hq
   exact prim rfl
  ·rename_i fs hik
   rw [hik] at hkd
   cases d <;> simp [kindOf] at hkd
   simp only [Option.map_eq_some_iff] at hq
   obtain ⟨ks, hks, rfl⟩ := hq
   exact flat ks rfl trivial
  ·rename_i len et hik
   rw [hik] at hkd
   cases d <;> simp [kindOf] at hkd
   split at hq
   ·split at hq
    ·split at hq
     ·cases hq
      exact flat _ rfl trivial
     ·simp at hq
    ·simp at hq
   ·simp at hq
  ·simp at hq
 ·simp at hq

theorem run_getMap {r : Nat} {es : Array MapEntry} {clock : Nat} (hb : w.heap[r]? = some (.map es clock)) : (getObj r).run P w = .ok (.map es clock) w := by
 simp [getObj, Sem.run, hb]

def rowsC (σ : Nat → Slot) : C → Option (List (List C))
 | .mp k => match σ k with
  | .live o => if o.nl = false ∧ o.sz = 0 then some o.rows else none
  | _ => none
 | .md _ rows => some rows
 | _ => none

structure MdR (G : Nat → Prop) (w : World) (b : Nat) (es : Array MapEntry) (clock : Nat) (rows : List (List C)) : Prop where
 good : G b
 lt : b < w.heap.size
 heap : w.heap[b]? = some (.map es clock)
 born : Born es clock
 size : es.size = rows.length
 ent : ∀ (i : Nat) (row : List C), rows[i]? = some row → ∃ k v e, row = [k, v] ∧ es[i]? = some e ∧ PR G w k e.key ∧ PR G w v e.val

theorem MdR.er {b clock : Nat} {es : Array MapEntry} {rows : List (List C)} (h : MdR G w b es clock rows) : ER G ρ σ w es.toList rows := by
 refine ER.of (by simpa using h.size) fun i row hi => ?_
 obtain ⟨k, v, e, rfl, h2, h3, h4⟩ := h.ent i row hi
 refine ⟨rfl, e, by simpa using h2, fun j c hj => ?_⟩
 match j, hj with
 | 0, hj => simp at hj; subst hj; exact .pure h3
 | 1, hj => simp at hj; subst hj; exact .pure h4
 | n + 2, hj => simp at hj

theorem PR.bag {c : C} {v : Value} (h : PR G w c v) : ∀ {rows : List (List C)}, c = .md false rows → ∃ b es clock rows0, v = .map (some b) ∧ MdR G w b es clock rows0 ∧ BagEq rows0 rows := by
 induction h with
 | @md rows b clock es cell hG hb hc hbo hn he hcr ih =>
  intro rows' e
  cases e
  refine ⟨b, es, clock, rows, rfl, ⟨hG, hb, hc, hbo, hn, fun i row hi => ?_⟩, .refl _⟩
  obtain ⟨e1, e, e2, e3, e4⟩ := he i row hi
  match row, e1 with
  | [k, v], _ => exact ⟨k, v, e, rfl, e2, by rw [e3]; exact hcr i _ hi 0 k rfl, by rw [e4]; exact hcr i _ hi 1 v rfl⟩
 | mdp hb h ih =>
  intro rows' e
  cases e
  obtain ⟨b, es, clock, rows0, h1, h2, h3⟩ := ih rfl
  exact ⟨b, es, clock, rows0, h1, h2, h3.trans hb⟩
 | _ => intro rows' e; cases e

theorem rowsC_sound {c : C} {v : Value} {rows : List (List C)} (hs : StoR G ρ σ w) (h : rowsC σ c = some rows) (hr : CR G ρ σ w c v) :
  (v = .map none ∧ rows = []) ∨ ∃ b es clock rows0, v = .map (some b) ∧ w.heap[b]? = some (.map es clock) ∧ ER G ρ σ w es.toList rows0 ∧ BagEq rows0 rows := by
 unfold rowsC at h
 split at h
 ·rename_i k
  split at h
  ·rename_i o ho
   split at h
   ·rename_i hc
    simp only [Option.some.injEq] at h
    subst h
    cases hr with
    | pure p => cases p
    | mpDead hd hv => rw [ho] at hd; cases hd
    | mp hl hn hz =>
     obtain ⟨es, q, g1, _, g2, g3⟩ := (hs.ob k o ho hc.1).ent hc.2
     exact .inr ⟨_, es, q, _, rfl, g1, ER.of (by simpa using g2) (by simpa using g3), .refl _⟩
   ·simp at h
  ·simp at h
 ·rename_i nl rows'
  simp only [Option.some.injEq] at h
  subst h
  have hp := hr.isPure rfl
  cases nl
  ·obtain ⟨b, es, clock, rows0, h1, h2, h3⟩ := hp.bag rfl
   exact .inr ⟨b, es, clock, rows0, h1, h2.heap, h2.er, h3⟩
  ·cases hp with
   | mdnil => exact .inl ⟨rfl, rfl⟩
 ·simp at h

def zeroC (i : TI) : Option C := if i.kind.isAgg then some (.agg i.zero) else match i.zero with | [c] => some c | _ => none

theorem zeroC_sound {t : TypeId} {i : TI} {inf : TypeInfo} {d : TypeDesc} {z : Value} (ht : TyOk P t i inf d z) {c : C} (h : zeroC i = some c) : CR G ρ σ w c z := by
 have hz := zero_CO (G := G) (ρ := ρ) (σ := σ) (w := w) ht
 have ha := ht.agg
 unfold zeroC at h
 rw [ht.kind, kind_agg, ← ha] at h
 split at h
 ·rename_i hagg
  cases z <;> simp [aggV] at hagg
  simp only [Option.some.injEq] at h
  subst h
  exact hz.agg
 ·rename_i hagg
  split at h
  ·rename_i c' hc
   simp only [Option.some.injEq] at h
   subst h
   have h1 := hz.1.2 0 c' (by rw [hc]; rfl)
   have : z.cells = #[z] := by
    unfold Value.cells
    split
    ·simp [aggV] at hagg
    ·rfl
   rw [this] at h1
   simpa using h1
  ·simp at h

def lookupC (P : Program) (σ : Nat → Slot) (t : TypeId) (x ix : C) (ok : Bool) : Option C :=
 match (tyOf P t).map TI.kind with
 | some (.map kt et) => match keyQ P kt, rowsC σ x, tyOf P et with
  | some q, some rows, some i => if fitQ q ix then
    match findC q ix rows 0 with
    | some (some (_, v)) => some (if ok then .tup [v, .bool true] else v)
    | some none => (zeroC i).map fun z => if ok then .tup [z, .bool false] else z
    | none => none
   else none
  | _, _, _ => none
 | _ => none

theorem lookupC_sound {t : TypeId} {x ix c : C} {ok : Bool} {u v : Value} (hs : StoR G ρ σ w) (h : lookupC P σ t x ix ok = some c) (hx : CR G ρ σ w x u) (hi : CR G ρ σ w ix v) :
  ∃ r, (Instr.lookup t u v ok).run P w = .ok r w ∧ CR G ρ σ w c r := by
 unfold lookupC at h
 split at h
 ·rename_i kt et hk
  obtain ⟨i0, inf0, d0, z0, ht0, hd0⟩ := tyOf_kind hk
  cases d0 <;> simp [kindOf] at hd0
  obtain ⟨rfl, rfl⟩ := hd0
  rename_i kt et
  split at h
  ·rename_i q rows i hq hrows hti
   split at h
   ·rename_i hfit
    obtain ⟨inf, d, z, ht⟩ := tyOf_ok hti
    have hck := run_checkQ (P := P) hq hfit hi
    have main : ∀ (es : Array MapEntry) (rows0 : List (List C)), ER G ρ σ w es.toList rows0 → BagEq rows0 rows → ∃ r, (do
      Instr.checkKey es.isEmpty 10000 kt v
      let (v, ok1) ← match ← Instr.findKey kt v es.toList with
       | some (_, v) => pure (v, true)
       | none => pure (← zeroValue et, false)
      pure (if ok then .tuple #[v, .bool ok1] else v) : Sem Value).run P w = .ok r w ∧ CR G ρ σ w c r := by
     intro es rows0 he hbag
     have two : ∀ {a b : C} {p : Value} {q : Bool}, CR G ρ σ w a p → CR G ρ σ w (if ok then .tup [a, .bool q] else a) (if ok then .tuple #[p, .bool q] else p) := by
      intro a b p q hp
      split
      ·refine .tup rfl fun i c hi => ?_
       match i, hi with
       | 0, hi => simp at hi; subst hi; exact hp
       | 1, hi => simp at hi; subst hi; exact .pure (.bool _)
       | n + 2, hi => simp at hi
      ·exact hp
     simp only [Sem.run_bind, hck, Result.andThen_ok]
     split at h
     ·rename_i j vc hf
      obtain ⟨rb, hb1, hb2⟩ := hbag.2 _ _ _ _ hf 0
      obtain ⟨r', h1, h2⟩ := findKey_sound (P := P) hq hi he hb1
      simp only [Option.some.injEq] at h
      subst h
      obtain ⟨⟨jb, vb⟩, rfl, hbv⟩ : ∃ p, rb = some p ∧ p.2 = vc := by
       cases rb with
       | none => simp at hb2
       | some p => exact ⟨p, rfl, by simpa using hb2⟩
      simp only at hbv
      subst hbv
      cases h2 with
      | some hv hj hee hsb =>
       simp only [h1, Result.andThen_ok, Sem.run_pure]
       exact ⟨_, rfl, two (b := .any) hv⟩
     ·rename_i hf
      obtain ⟨rb, hb1, hb2⟩ := hbag.2 _ _ _ _ hf 0
      obtain rfl : rb = none := by cases rb with | none => rfl | some p => simp at hb2
      obtain ⟨r', h1, h2⟩ := findKey_sound (P := P) hq hi he hb1
      simp only [Option.map_eq_some_iff] at h
      obtain ⟨zc, hz, rfl⟩ := h
      cases h2
      simp only [h1, Result.andThen_ok, Sem.run_pure, Sem.run_bind, ht.run_zero w]
      exact ⟨_, rfl, two (b := .any) (zeroC_sound ht hz)⟩
     ·simp at h
    unfold Instr.lookup
    rw [Sem.run_bind, ht0.run_und w, Result.andThen_ok]
    rcases rowsC_sound hs hrows hx with ⟨rfl, rfl⟩ | ⟨b, es, clock, rows0, rfl, hb, he, hbag⟩
    ·obtain ⟨r, h1, h2⟩ := main #[] [] .nil (.refl _)
     refine ⟨r, ?_, h2⟩
     rw [← h1]
     rfl
    ·obtain ⟨r, h1, h2⟩ := main es rows0 he hbag
     refine ⟨r, ?_, h2⟩
     rw [← h1]
     simp only [Sem.run_bind, run_getMap hb, Result.andThen_ok, Sem.run_pure]
     rfl
   ·simp at h
  ·simp at h
 ·simp at h

end
end Go.Abs

/- All operations that only compute a value, under one name, and that the model's run gives what they give. No condition. -/
namespace Go.Abs

section
variable {P : Program} {G : Nat → Prop} {ρ : Nat → Nat} {σ : Nat → Slot} {w : World}

def unC (op : UnOp) (x : C) : Option C :=
 match op, x with
 | .neg, .int k n => some (.int k (k.wrap (0 - n)))
 | .not, .bool b => some (.bool (!b))
 | _, _ => none

def bytesOf : List (List C) → Option (List UInt8)
 | [] => some []
 | row :: l => match row with
  | [.int .u8 n] => if 0 ≤ n ∧ n < 256 then (bytesOf l).map fun r => UInt8.ofNat n.toNat :: r else none
  | _ => none

def convC (P : Program) (s d : TypeId) (x : C) : Option C :=
 match (tyOf P s).map TI.kind, (tyOf P d).map TI.kind, x with
 | some _, some (.int k), .int _ n => some (.int k (k.wrap n))
 | some .string, some .string, .str s => some (.str s)
 | some (.int _), some .string, .int _ n => some (.str (Utf8.encode n))
 | some (.slice e), some .string, .sl _ _ rows => match (tyOf P e).map TI.kind with
  | some (.int .u8) => (bytesOf rows).map fun l => .str ⟨l.toArray⟩
  | _ => none
 | _, _, _ => none

def convB (P : Program) (s d : TypeId) (x : C) : Option C :=
 match (tyOf P s).map TI.kind, (tyOf P d).map TI.kind, x with
 | some .string, some (.slice e), .str b => match (tyOf P e).map TI.kind with
  | some (.int .u8) => some (.sl false false (b.data.toList.map fun u => [.int .u8 (u.toNat : Int)]))
  | _ => none
 | _, _, _ => none

def lenC (P : Program) (σ : Nat → Slot) (t : TypeId) (x : C) : Option C :=
 match (tyOf P t).map TI.kind, x with
 | some (.map _ _), y => (rowsC σ y).map fun rows => .int .i64 rows.length
 | some .string, .str s => some (.int .i64 s.size)
 | some (.slice _), .sl _ _ rows => some (.int .i64 rows.length)
 | some (.slice _), .own _ _ _ n => some (.int .i64 n)
 | some (.array n _), _ => some (.int .i64 n)
 | _, _ => none

def maxI : IntKind → Int → List C → Option C
 | k, x, [] => some (.int k x)
 | k, x, .int _ y :: l => maxI k (if y > x then y else x) l
 | _, _, _ => none

def minI : IntKind → Int → List C → Option C
 | k, x, [] => some (.int k x)
 | k, x, .int _ y :: l => minI k (if y < x then y else x) l
 | _, _, _ => none

def builtinC (P : Program) (σ : Nat → Slot) (b : Builtin) (ts : List TypeId) (args : List C) : Option C :=
 match b, ts, args with
 | .len, t :: _, [x] => lenC P σ t x
 | .max, _, .int k x :: l => maxI k x l
 | .min, _, .int k x :: l => minI k x l
 | _, _, _ => none

def valC (P : Program) (σ : Nat → Slot) (ρ : Operand → C) : Op → Option C
 | .move x => some (ρ x)
 | .assign x => some (ρ x)
 | .pick c a b => match ρ c with
  | .bool t => some (if t then ρ a else ρ b)
  | _ => none
 | .load t a => loadC P σ t (ρ a)
 | .nilCheck x => match ρ x with
  | .ip r j => some (.ip r j)
  | .ptr k sz i j => some (.ptr k sz i j)
  | .fn (.func f) a b => some (.fn (.func f) a b)
  | _ => none
 | .binOp op t x y _ => binC P σ op t (ρ x) (ρ y)
 | .unOp op _ x => unC op (ρ x)
 | .convert s d x => (convC P s d (ρ x)).or (convB P s d (ρ x))
 | .fieldAddr t x f => fieldAddrC P t (ρ x) f
 | .field t x f => fieldC P t (ρ x) f
 | .lookup t x i ok => lookupC P σ t (ρ x) (ρ i) ok
 | .indexAddr t x i => indexAddrC P t (ρ x) (ρ i)
 | .index t x i => indexC P t (ρ x) (ρ i)
 | .extract x i => match ρ x with
  | .tup l => l[i]?
  | _ => none
 | .makeFunc f first caps => some (.fn f (first.toList.map ρ) (caps.toList.map ρ))
 | .build t parts => buildC P t (parts.toList.map fun p => (p.1, ρ p.2))
 | .slice t x lo hi mx => sliceC P t (ρ x) (lo.map ρ) (hi.map ρ) (mx.map ρ)
 | .call { callee := .builtin b, args, argTypes } => builtinC P σ b argTypes.toList (args.toList.map ρ)
 | _ => none

theorem eqGuard_skip {op : BinOp} {t : TypeId} {x y : Operand} {a b : Value} (h : a ≠ .nilIface) (h' : ∀ l, a ≠ .agg l) : (eqGuard op t x y a b).run P w = .ok () w := by
 unfold eqGuard
 split
 ·simp only [Bool.not_true, Bool.false_eq_true, if_false]
  split
  ·exact absurd rfl h
  ·exact absurd rfl (h' _)
  ·rfl
 ·simp only [Bool.not_true, Bool.false_eq_true, if_false]
  split
  ·exact absurd rfl h
  ·exact absurd rfl (h' _)
  ·rfl
 ·simp

theorem eqGuard_skip' {op : BinOp} {t : TypeId} {x y : Operand} {a b : Value} (h : a ≠ .nilIface) (h' : (∀ l, a ≠ .agg l) ∨ P.eqGuardType P.depth t = false) : (eqGuard op t x y a b).run P w = .ok () w := by
 rcases h' with h' | h'
 ·exact eqGuard_skip h h'
 unfold eqGuard
 split
 ·simp only [Bool.not_true, Bool.false_eq_true, if_false]
  split
  ·exact absurd rfl h
  ·simp [h']
  ·rfl
 ·simp only [Bool.not_true, Bool.false_eq_true, if_false]
  split
  ·exact absurd rfl h
  ·simp [h']
  ·rfl
 ·simp

theorem binC_sound {op : BinOp} {t : TypeId} {x y : Operand} {a b c : C} {u v : Value} (h : binC P σ op t a b = some c) (ha : CR G ρ σ w a u) (hb : CR G ρ σ w b v) :
  ∃ r, ((do eqGuard op t x y u v; binOp op t u v : Sem Value)).run P w = .ok r w ∧ CR G ρ σ w c r := by
 unfold binC at h
 split at h
 ·rename_i k n k' m
  obtain rfl := ha.intOf
  obtain rfl := hb.intOf
  simp only [Sem.run_bind, eqGuard_skip (P := P) (w := w) (op := op) (t := t) (x := x) (y := y) (a := .int k n) (b := .int k' m) (by simp) (by simp), Result.andThen_ok]
  split at h
  ·unfold shiftC at h
   split at h
   ·simp at h
   ·rename_i hneg
    simp only [Option.some.injEq] at h
    subst h
    simp only [binOp, Op.shift, if_neg hneg]
    exact ⟨_, rfl, .pure (.int _ _)⟩
  ·unfold shiftC at h
   split at h
   ·simp at h
   ·rename_i hneg
    simp only [Option.some.injEq] at h
    subst h
    simp only [binOp, Op.shift, if_neg hneg]
    exact ⟨_, rfl, .pure (.int _ _)⟩
  ·rename_i hop1 hop2
   split at h
   ·rename_i hk
    subst hk
    obtain ⟨r, hr1, hr2⟩ := run_intBin (P := P) (G := G) (ρ := ρ) (σ := σ) (w := w) h
    refine ⟨r, ?_, hr2⟩
    rw [← hr1]
    cases op <;> simp_all [binOp]
   ·simp at h
 ·obtain rfl := ha.strOf
  obtain rfl := hb.strOf
  rename_i s1 s2
  simp only [Sem.run_bind, eqGuard_skip (P := P) (w := w) (op := op) (t := t) (x := x) (y := y) (a := .string s1) (b := .string s2) (by simp) (by simp), Result.andThen_ok]
  obtain ⟨r, hr1, hr2⟩ := run_strBin (P := P) (G := G) (ρ := ρ) (σ := σ) (w := w) h
  refine ⟨r, ?_, hr2⟩
  rw [← hr1]
  cases op <;> rfl
 ·rename_i hni hns
  have main : ∀ e, eqlC P σ t a b = some e → (op = .eql → c = .bool e) → (op = .neq → c = .bool (!e)) → (op = .eql ∨ op = .neq) →
    ∃ r, ((do eqGuard op t x y u v; binOp op t u v : Sem Value)).run P w = .ok r w ∧ CR G ρ σ w c r := by
   intro e he h1 h2 h3
   have hrun := run_eqlC (P := P) (w := w) he ha hb
   have hshape : u ≠ .nilIface ∧ ((∀ l, u ≠ .agg l) ∨ P.eqGuardType P.depth t = false) ∧ (∀ k n, u ≠ .int k n) ∧ (∀ s, u ≠ .string s) ∧ (∀ k s, u ≠ .float k s) ∧ (∀ k s r, u ≠ .complex k s r) := by
    unfold eqlC at he
    split at he
    ·obtain rfl := ha.boolOf; simp
    ·obtain ⟨a1, c1, rfl, _⟩ := ha.slOf; simp
    ·split at he
     ·rename_i o ho
      obtain ⟨o', _, hc⟩ := ha.ownOf (by simp [isLive, ho])
      rcases hc with ⟨_, _, _, a1, _, rfl⟩ | ⟨_, _, cap, _, rfl, _⟩ <;> simp
     ·simp at he
    ·obtain rfl := ha.pnilOf; simp
    ·obtain ⟨b1, f1, rfl, _⟩ := ha.ipOf; simp
    ·obtain ⟨a1, rfl⟩ := ha.ptrAny; simp
    ·obtain ⟨v1, v2, rfl, _⟩ := ha.fnOf; simp
    ·have := ha.isPure rfl; cases this; simp
    ·cases ha with
     | pure p => cases p
     | mpDead _ hv => obtain ⟨b1, rfl⟩ := hv; simp
     | mp => simp
    ·have := ha.isPure rfl; cases this <;> simp
    ·obtain ⟨vs, rfl, _⟩ := ha.aggOf
     split at he
     ·rename_i ks hks
      unfold flatEq at hks
      split at hks
      ·simp at hks
      split at hks
      ·simp at hks
      ·rename_i hg; simp [hg]
     ·split at he
      ·rename_i ks hks
       unfold deepEq at hks
       split at hks
       ·simp at hks
       split at hks
       ·simp at hks
       ·rename_i hg; simp [hg]
      ·split at he
       ·rename_i ks hks
        unfold mixEq at hks
        split at hks
        ·simp at hks
        split at hks
        ·simp at hks
        ·rename_i hg; simp [hg]
       ·simp at he
    ·simp at he
   obtain ⟨g1, g2, g3, g4, g5, g6⟩ := hshape
   simp only [Sem.run_bind, eqGuard_skip' (P := P) (w := w) (op := op) (t := t) (x := x) (y := y) (b := v) g1 g2, Result.andThen_ok]
   rcases h3 with rfl | rfl
   ·rw [h1 rfl]
    refine ⟨.bool e, ?_, .pure (.bool _)⟩
    have : binOp .eql t u v = (do pure (.bool (← Op.equal t u v))) := by
     cases u <;> first
      | (exact absurd rfl g1)
      | (exact absurd rfl (g3 _ _))
      | (exact absurd rfl (g4 _))
      | (exact absurd rfl (g5 _ _))
      | (exact absurd rfl (g6 _ _ _))
      | rfl
    rw [this]
    simp [hrun]
   ·rw [h2 rfl]
    refine ⟨.bool (!e), ?_, .pure (.bool _)⟩
    have : binOp .neq t u v = (do pure (.bool (!(← Op.equal t u v)))) := by
     cases u <;> first
      | (exact absurd rfl g1)
      | (exact absurd rfl (g3 _ _))
      | (exact absurd rfl (g4 _))
      | (exact absurd rfl (g5 _ _))
      | (exact absurd rfl (g6 _ _ _))
      | rfl
    rw [this]
    simp [hrun]
  split at h
  ·cases he : eqlC P σ t a b with
   | none => simp [he] at h
   | some e =>
    simp only [he, Option.map_some, Option.some.injEq] at h
    exact main e he (fun _ => h.symm) (by simp) (.inl rfl)
  ·cases he : eqlC P σ t a b with
   | none => simp [he] at h
   | some e =>
    simp only [he, Option.map_some, Option.some.injEq] at h
    exact main e he (by simp) (fun _ => h.symm) (.inr rfl)
  ·simp at h

theorem unC_sound {op : UnOp} {a c : C} {u : Value} (h : unC op a = some c) (ha : CR G ρ σ w a u) :
  ∃ r, (Op.unary op u).run P w = .ok r w ∧ CR G ρ σ w c r := by
 unfold unC at h
 split at h
 ·obtain rfl := ha.intOf
  simp only [Option.some.injEq] at h
  subst h
  exact ⟨_, rfl, .pure (.int _ _)⟩
 ·obtain rfl := ha.boolOf
  simp only [Option.some.injEq] at h
  subst h
  exact ⟨_, rfl, .pure (.bool _)⟩
 ·simp at h

theorem bytesOf_get : ∀ {rows : List (List C)} {l : List UInt8}, bytesOf rows = some l → l.length = rows.length ∧ ∀ j (h : j < l.length), rows[j]? = some [.int .u8 (l[j].toNat : Int)]
 | [], l, h => by
  simp only [bytesOf, Option.some.injEq] at h
  subst h
  exact ⟨rfl, fun j hj => absurd hj (by simp)⟩
 | row :: rows, l, h => by
  unfold bytesOf at h
  split at h
  ·rename_i n
   split at h
   ·rename_i hn
    simp only [Option.map_eq_some_iff] at h
    obtain ⟨r, hr, rfl⟩ := h
    obtain ⟨h1, h2⟩ := bytesOf_get hr
    refine ⟨by simp [h1], fun j hj => ?_⟩
    cases j with
    | zero =>
     have : ((UInt8.ofNat n.toNat).toNat : Int) = n := by
      simp only [UInt8.toNat_ofNat']
      omega
     simp only [List.getElem?_cons_zero, List.getElem_cons_zero, this]
    | succ j =>
     simp only [List.length_cons] at hj
     simpa using h2 j (by omega)
   ·simp at h
  ·simp at h

theorem convC_sound {s d : TypeId} {a c : C} {u : Value} (h : convC P s d a = some c) (ha : CR G ρ σ w a u) :
  ∃ r, (convert s d u).run P w = .ok r w ∧ CR G ρ σ w c r := by
 unfold convC at h
 split at h
 ·rename_i hk1 hk2
  obtain ⟨i1, inf1, d1, z1, ht1, hd1⟩ := tyOf_kind hk1
  obtain ⟨i2, inf2, d2, z2, ht2, hd2⟩ := tyOf_kind hk2
  cases d2 <;> simp [kindOf] at hd2
  subst hd2
  obtain rfl := ha.intOf
  simp only [Option.some.injEq] at h
  subst h
  simp only [convert, Sem.run_bind, ht1.run_und w, ht2.run_und w, Result.andThen_ok]
  exact ⟨_, rfl, .pure (.int _ _)⟩
 ·rename_i hk1 hk2
  obtain ⟨i1, inf1, d1, z1, ht1, hd1⟩ := tyOf_kind hk1
  obtain ⟨i2, inf2, d2, z2, ht2, hd2⟩ := tyOf_kind hk2
  cases d2 <;> simp [kindOf] at hd2
  cases d1 <;> simp [kindOf] at hd1
  obtain rfl := ha.strOf
  simp only [Option.some.injEq] at h
  subst h
  simp only [convert, Sem.run_bind, ht1.run_und w, ht2.run_und w, Result.andThen_ok]
  exact ⟨_, rfl, .pure (.str _)⟩
 ·rename_i hk1 hk2
  obtain ⟨i1, inf1, d1, z1, ht1, hd1⟩ := tyOf_kind hk1
  obtain ⟨i2, inf2, d2, z2, ht2, hd2⟩ := tyOf_kind hk2
  cases d2 <;> simp [kindOf] at hd2
  cases d1 <;> simp [kindOf] at hd1
  obtain rfl := ha.intOf
  simp only [Option.some.injEq] at h
  subst h
  simp only [convert, Sem.run_bind, ht1.run_und w, ht2.run_und w, Result.andThen_ok]
  exact ⟨_, rfl, .pure (.str _)⟩
 ·rename_i e nl fu rows hk1 hk2
  obtain ⟨i1, inf1, d1, z1, ht1, hd1⟩ := tyOf_kind hk1
  obtain ⟨i2, inf2, d2, z2, ht2, hd2⟩ := tyOf_kind hk2
  cases d2 <;> simp [kindOf] at hd2
  cases d1 <;> simp [kindOf] at hd1
  subst hd1
  split at h
  ·rename_i hk3
   obtain ⟨i3, inf3, d3, z3, ht3, hd3⟩ := tyOf_kind hk3
   cases d3 <;> simp [kindOf] at hd3
   subst hd3
   simp only [Option.map_eq_some_iff] at h
   obtain ⟨l, hl, rfl⟩ := h
   obtain ⟨a1, c1, rfl, _, _, p⟩ := ha.slOf
   refine ⟨.string ⟨l.toArray⟩, ?_, .pure (.str _)⟩
   cases p with
   | slnil =>
    simp only [bytesOf, Option.some.injEq] at hl
    subst hl
    rw [run_convert_bytes_string w s d _ none _ _ ht1.und ht3.und ht2.und]
    rfl
   | slemp =>
    simp only [bytesOf, Option.some.injEq] at hl
    subst hl
    exact run_convert_bytes_back w s d _ _ 0 [] ht1.und ht3.und ht2.und (fun j hj => absurd hj (by simp))
   | @sl _ _ b off sz _ _ cell hG hb hnn hf hc hsz hcell hcl hr' =>
    obtain ⟨b1, b2⟩ := bytesOf_get hl
    rw [← b1]
    refine run_convert_bytes_back w s d _ _ _ l ht1.und ht3.und ht2.und fun j hj => ?_
    have hrow := b2 j hj
    have h1 := hcell j _ hrow 0 _ rfl
    have h2 := hr' j _ hrow 0 _ rfl
    have h3 := hsz j _ hrow
    simp only [List.length_cons, List.length_nil] at h3
    subst h3
    have h4 : ∀ v, PR G w (.int .u8 (l[j].toNat : Int)) v → v = .int .u8 (l[j].toNat : Int) := fun v p => by cases p; rfl
    rw [h4 _ h2] at h1
    rw [addr_add]
    simpa using h1
  ·simp at h
 ·simp at h

theorem lenC_sound {t : TypeId} {a c : C} {u : Value} {ts : Array TypeId} {ty : TypeId} (hs : StoR G ρ σ w) (h : lenC P σ t a = some c) (ha : CR G ρ σ w a u) (hts : ts[0]? = some t) :
    ∃ r, (Builtin.len_ ts ty #[u]).run P w = .ok r w ∧ CR G ρ σ w c r := by
  unfold lenC at h
  split at h
  · rename_i hk
    obtain ⟨i, inf, d, z, ht, hd⟩ := tyOf_kind hk
    cases d <;> simp [kindOf] at hd
    simp only [Option.map_eq_some_iff] at h
    obtain ⟨rows, hrows, rfl⟩ := h
    rcases rowsC_sound hs hrows ha with ⟨rfl, rfl⟩ | ⟨b, es, clock, rows0, rfl, hb, he, hbag⟩
    · simp only [Builtin.len_, hts, List.getElem?_toArray, List.getElem?_cons_zero, Sem.run_bind, ht.run_und w, Result.andThen_ok]
      exact ⟨_, rfl, .pure (.int _ _)⟩
    · simp only [Builtin.len_, hts, List.getElem?_toArray, List.getElem?_cons_zero, Sem.run_bind, ht.run_und w, Result.andThen_ok, run_getMap hb]
      refine ⟨_, rfl, ?_⟩
      rw [← hbag.1.length_eq, ← he.len]
      exact .pure (.int _ _)
  · rename_i hk
    obtain ⟨i, inf, d, z, ht, hd⟩ := tyOf_kind hk
    cases d <;> simp [kindOf] at hd
    obtain rfl := ha.strOf
    simp only [Option.some.injEq] at h
    subst h
    simp only [Builtin.len_, hts, List.getElem?_toArray, List.getElem?_cons_zero, Sem.run_bind, ht.run_und w, Result.andThen_ok]
    exact ⟨_, rfl, .pure (.int _ _)⟩
  · rename_i hk
    obtain ⟨i, inf, d, z, ht, hd⟩ := tyOf_kind hk
    cases d <;> simp [kindOf] at hd
    obtain ⟨a1, c1, rfl, _⟩ := ha.slOf
    simp only [Option.some.injEq] at h
    subst h
    simp only [Builtin.len_, hts, List.getElem?_toArray, List.getElem?_cons_zero, Sem.run_bind, ht.run_und w, Result.andThen_ok]
    exact ⟨_, rfl, .pure (.int _ _)⟩
  · rename_i k sz lo n hk
    obtain ⟨i, inf, d, z, ht, hd⟩ := tyOf_kind hk
    cases d <;> simp [kindOf] at hd
    simp only [Option.some.injEq] at h
    subst h
    rcases ha.ownAny with ⟨a1, cap, rfl, _⟩ | ⟨rfl, a1, rfl⟩ <;>
      (simp only [Builtin.len_, hts, List.getElem?_toArray, List.getElem?_cons_zero, Sem.run_bind, ht.run_und w, Result.andThen_ok]
       exact ⟨_, rfl, .pure (.int _ _)⟩)
  · rename_i hk
    obtain ⟨i, inf, d, z, ht, hd⟩ := tyOf_kind hk
    cases d <;> simp [kindOf] at hd
    obtain ⟨rfl, rfl⟩ := hd
    simp only [Option.some.injEq] at h
    subst h
    simp only [Builtin.len_, hts, List.getElem?_toArray, List.getElem?_cons_zero, Sem.run_bind, ht.run_und w, Result.andThen_ok]
    exact ⟨_, rfl, .pure (.int _ _)⟩
  · simp at h

theorem maxI_sound {c : C} : ∀ (l : List Operand) (evC : Operand → C) (evV : Operand → Value) (k : IntKind) (x : Int), (∀ o ∈ l, CR G ρ σ w (evC o) (evV o)) →
  maxI k x (l.map evC) = some c → ∃ r, ((l.map evV).foldlM Builtin.max2 (Value.int k x)).run P w = .ok r w ∧ CR G ρ σ w c r
 | [], _, _, k, x, _, h => by
  simp only [List.map_nil, maxI, Option.some.injEq] at h
  subst h
  exact ⟨_, rfl, .pure (.int _ _)⟩
 | o :: l, evC, evV, k, x, hr, h => by
  simp only [List.map_cons] at h
  unfold maxI at h
  split at h
  ·rename_i he; simp at he
  ·rename_i k' y l' he
   simp only [List.cons.injEq] at he
   obtain ⟨h1, h2⟩ := he
   subst h2
   have := hr o (by simp)
   rw [h1] at this
   have hv := this.intOf
   obtain ⟨r, e1, e2⟩ := maxI_sound l evC evV _ _ (fun p hp => hr p (by simp [hp])) h
   refine ⟨r, ?_, e2⟩
   simp only [List.map_cons, List.foldlM_cons, Sem.run_bind, hv, Builtin.max2, Sem.run_pure, Result.andThen_ok]
   exact e1
  ·simp at h

theorem minI_sound {c : C} : ∀ (l : List Operand) (evC : Operand → C) (evV : Operand → Value) (k : IntKind) (x : Int), (∀ o ∈ l, CR G ρ σ w (evC o) (evV o)) →
  minI k x (l.map evC) = some c → ∃ r, ((l.map evV).foldlM Builtin.min2 (Value.int k x)).run P w = .ok r w ∧ CR G ρ σ w c r
 | [], _, _, k, x, _, h => by
  simp only [List.map_nil, minI, Option.some.injEq] at h
  subst h
  exact ⟨_, rfl, .pure (.int _ _)⟩
 | o :: l, evC, evV, k, x, hr, h => by
  simp only [List.map_cons] at h
  unfold minI at h
  split at h
  ·rename_i he; simp at he
  ·rename_i k' y l' he
   simp only [List.cons.injEq] at he
   obtain ⟨h1, h2⟩ := he
   subst h2
   have := hr o (by simp)
   rw [h1] at this
   have hv := this.intOf
   obtain ⟨r, e1, e2⟩ := minI_sound l evC evV _ _ (fun p hp => hr p (by simp [hp])) h
   refine ⟨r, ?_, e2⟩
   simp only [List.map_cons, List.foldlM_cons, Sem.run_bind, hv, Builtin.min2, Sem.run_pure, Result.andThen_ok]
   exact e1
  ·simp at h

theorem builtinC_sound {b : Builtin} {ts : Array TypeId} {args : Array Operand} {evC : Operand → C} {evV : Operand → Value} {ty : TypeId} {cs : Array Bool} {c : C}
  (hs : StoR G ρ σ w) (h : builtinC P σ b ts.toList (args.toList.map evC) = some c) (hr : ∀ x ∈ args.toList, CR G ρ σ w (evC x) (evV x)) :
  ∃ r, (builtin b ts ty cs (args.map evV)).run P w = .ok (.value r) w ∧ CR G ρ σ w c r := by
 obtain ⟨args⟩ := args
 obtain ⟨ts⟩ := ts
 simp only [List.map_toArray] at *
 unfold builtinC at h
 split at h
 ·rename_i t ts' x he2
  cases args with
  | nil => simp at he2
  | cons o args =>
   simp only [List.map_cons, List.cons.injEq, List.map_eq_nil_iff] at he2
   obtain ⟨rfl, rfl⟩ := he2
   obtain ⟨r, e1, e2⟩ := lenC_sound (ty := ty) (ts := (t :: ts').toArray) hs h (hr o (by simp)) (by simp)
   refine ⟨r, ?_, e2⟩
   simp [builtin, e1]
 ·rename_i k x l he2
  cases args with
  | nil => simp at he2
  | cons o args =>
   simp only [List.map_cons, List.cons.injEq] at he2
   obtain ⟨h1, rfl⟩ := he2
   have := hr o (by simp)
   rw [h1] at this
   have hv := this.intOf
   obtain ⟨r, e1, e2⟩ := maxI_sound (P := P) args evC evV k x (fun p hp => hr p (by simp [hp])) h
   refine ⟨r, ?_, e2⟩
   simp [builtin, Builtin.max_, hv, e1]
 ·rename_i k x l he2
  cases args with
  | nil => simp at he2
  | cons o args =>
   simp only [List.map_cons, List.cons.injEq] at he2
   obtain ⟨h1, rfl⟩ := he2
   have := hr o (by simp)
   rw [h1] at this
   have hv := this.intOf
   obtain ⟨r, e1, e2⟩ := minI_sound (P := P) args evC evV k x (fun p hp => hr p (by simp [hp])) h
   refine ⟨r, ?_, e2⟩
   simp [builtin, Builtin.min_, hv, e1]
 ·simp at h

theorem CL_map {l : List Operand} {evC : Operand → C} {evV : Operand → Value} (hr : ∀ x ∈ l, CR G ρ σ w (evC x) (evV x)) : CL G ρ σ w (l.map evC) (l.map evV).toArray := by
 refine ⟨by simp, fun i c hi => ?_⟩
 simp only [List.getElem?_map, Option.map_eq_some_iff] at hi
 obtain ⟨x, hx, rfl⟩ := hi
 simp [hx]
 exact hr x (List.mem_of_getElem? hx)

theorem val_sound {o : Oper} {evC : Operand → C} {evV : Operand → Value} {c : C} (h : valC P σ evC o.op = some c)
  (hnb : ∀ s d x, o.op = .convert s d x → convC P s d (evC x) = some c)
  (hs : StoR G ρ σ w) (hr : ∀ x ∈ o.op.operands.toList, CR G ρ σ w (evC x) (evV x)) :
  ∃ v, (execOp evV o).run P w = .ok (.value v) w ∧ CR G ρ σ w c v := by
 obtain ⟨dst, op, ty, pos, after, guard⟩ := o
 have lift : ∀ (s : Sem Value), (∃ v, s.run P w = .ok v w ∧ CR G ρ σ w c v) → ∃ v, (do pure (.value (← s)) : Sem Next).run P w = .ok (.value v) w ∧ CR G ρ σ w c v := by
  rintro s ⟨v, h1, h2⟩
  exact ⟨v, by simp [h1], h2⟩
 cases op <;> simp only [valC] at h <;> simp only [Op.operands] at hr <;> simp only [execOp]
 case move x =>
  simp only [Option.some.injEq] at h
  subst h
  exact ⟨_, rfl, hr x (by simp)⟩
 case assign x =>
  simp only [Option.some.injEq] at h
  subst h
  exact ⟨_, rfl, hr x (by simp)⟩
 case pick q a b =>
  split at h
  ·rename_i t ht
   simp only [Option.some.injEq] at h
   subst h
   have := hr q (by simp)
   rw [ht] at this
   rw [this.boolOf]
   simp only [asBool, Sem.run_bind, Sem.run_pure, Result.andThen_ok]
   refine ⟨_, rfl, ?_⟩
   cases t
   ·exact hr b (by simp)
   ·exact hr a (by simp)
  ·simp at h
 case load t a => exact lift _ (loadC_sound hs h (hr a (by simp)))
 case nilCheck x =>
  have hx := hr x (by simp)
  split at h
  ·rename_i r j he
   simp only [Option.some.injEq] at h
   subst h
   rw [he] at hx
   obtain ⟨b, f, hv, p⟩ := hx.ipOf
   rw [hv]
   exact ⟨_, rfl, .pure (hv ▸ p)⟩
  ·rename_i k sz i j he
   simp only [Option.some.injEq] at h
   subst h
   rw [he] at hx
   obtain ⟨a1, hv⟩ := hx.ptrAny
   rw [hv]
   exact ⟨_, rfl, hv ▸ hx⟩
  ·rename_i f a b he
   simp only [Option.some.injEq] at h
   subst h
   rw [he] at hx
   obtain ⟨v1, v2, hv, h1, h2⟩ := hx.fnOf
   rw [hv]
   exact ⟨_, rfl, .fn h1.1 h2.1 h1.2 h2.2⟩
  ·simp at h
 case binOp op t x y yt => exact lift _ (binC_sound h (hr x (by simp)) (hr y (by simp)))
 case unOp op t x => exact lift _ (unC_sound h (hr x (by simp)))
 case convert s d x => exact lift _ (convC_sound (hnb s d x rfl) (hr x (by simp)))
 case fieldAddr t x f => exact lift _ (fieldAddrC_sound h (hr x (by simp)))
 case field t x f => exact lift _ (fieldC_sound h (hr x (by simp)))
 case lookup t x i ok => exact lift _ (lookupC_sound hs h (hr x (by simp)) (hr i (by simp)))
 case indexAddr t x i => exact lift _ (indexAddrC_sound h (hr x (by simp)) (hr i (by simp)))
 case index t x i => exact lift _ (indexC_sound h (hr x (by simp)) (hr i (by simp)))
 case extract x i =>
  split at h
  ·rename_i l he
   have hx := hr x (by simp)
   rw [he] at hx
   obtain ⟨vs, hv, hcl⟩ := hx.tupOf
   rw [hv]
   have hlt := (List.getElem?_eq_some_iff.1 h).1
   have h1 := hcl.1
   have := hcl.2 i c h
   simp only [Array.getD_eq_getD_getElem?] at this
   rw [Array.getElem?_eq_getElem (by omega)] at this
   refine lift _ ⟨_, ?_, this⟩
   simp only [Instr.extract]
   rw [Array.getElem?_eq_getElem (by omega)]
   rfl
  ·simp at h
 case makeFunc f first caps =>
  simp only [Option.some.injEq] at h
  subst h
  refine lift _ ⟨_, rfl, ?_⟩
  have h1 := CL_map (G := G) (ρ := ρ) (σ := σ) (w := w) (l := first.toList) (evC := evC) (evV := evV) (fun x hx => hr x (by simp at hx ⊢; exact .inl hx))
  have h2 := CL_map (G := G) (ρ := ρ) (σ := σ) (w := w) (l := caps.toList) (evC := evC) (evV := evV) (fun x hx => hr x (by simp at hx ⊢; exact .inr hx))
  simp only [← List.map_toArray, Array.toArray_toList] at h1 h2
  exact .fn h1.1 h2.1 h1.2 h2.2
 case build t parts =>
  refine lift _ (buildC_sound h fun p hp => hr p.2 ?_)
  simp only [List.mem_map]
  exact ⟨p, hp, rfl⟩
 case slice t x lo hi mx =>
  refine lift _ (sliceC_sound h (hr x (by simp)) fun y hy => hr y ?_)
  simp at hy ⊢
  rcases hy with hy | hy | hy <;> simp [hy]
 case call cl =>
  obtain ⟨callee, args, ats⟩ := cl
  cases callee with
  | value f => simp at h
  | invoke r m => simp at h
  | builtin b =>
   simp only at h
   obtain ⟨r, e1, e2⟩ := builtinC_sound (ty := ty) (cs := args.map fun | .const _ => true | _ => false) hs h (fun x hx => hr x (by simp [Call.operands] at hx ⊢; exact hx))
   refine ⟨r, ?_, e2⟩
   simp only [resolve, Sem.run_bind, Sem.run_pure, Result.andThen_ok, invoke]
   exact e1
 all_goals simp at h

end
end Go.Abs

/- The state of the abstract machine, how it stands to the model's, and the ways in which it may change. No condition. -/
namespace Go.Abs

def upd {α : Type} (f : Nat → α) (k : Nat) (v : α) : Nat → α := fun i => if i = k then v else f i

@[simp] theorem upd_same {α : Type} (f : Nat → α) (k : Nat) (v : α) : upd f k v k = v := by simp [upd]
theorem upd_ne {α : Type} (f : Nat → α) {k i : Nat} (v : α) (h : i ≠ k) : upd f k v i = f i := by simp [upd, h]

structure AS where
 env : Nat → C
 sto : Nat → Slot

structure Ctx where
 G : Nat → Prop
 ρ : Nat → Nat
 σ : Nat → Slot
 w : World
 nt : Nat
 ex : List Nat := []
 lp : List (Nat × Obj × Nat × Obj) := []
 its : List (Nat × Obj) := []
 rnd : Option Nat := none
 Y : Nat → (Nat → Slot) → List C → C → (Nat → Slot) → Prop := fun _ _ _ _ _ => False

def Ctx.Gd (x : Ctx) (ρ : Nat → Nat) (σ : Nat → Slot) (b : Nat) : Prop :=
 (x.G b ∨ Owned x.ρ x.σ b ∨ x.w.heap.size ≤ b) ∧ ¬ Owned ρ σ b

def isIt : Obj → Bool
 | .mapIter .. | .stringIter .. => true
 | _ => false

def recO : Obj → Bool
 | .loop _ | .mapIter .. | .stringIter .. => true
 | _ => false
theorem isIt_rec {o : Obj} (h : isIt o = true) : recO o = true := by cases o <;> first | rfl | cases h
theorem recO_odd {o : Obj} (h : recO o = true) : oddO o = true := by cases o <;> first | rfl | cases h

structure RecOk (x : Ctx) (σ : Nat → Slot) (w : World) : Prop where
 loop : ∀ b ∈ x.ex, (∃ r, x.w.heap[b]? = some (.loop r)) ∧ ∃ r, w.heap[b]? = some (.loop r)
 rdy : ∀ p ∈ x.lp, p.1 ∈ x.ex ∧ x.σ p.2.2.1 ≠ .free ∧ ((σ p.2.2.1 = .gh ∧ w.heap[p.1]? = some p.2.1) ∨ (σ p.2.2.1 = .dead ∧ w.heap[p.1]? = some p.2.2.2))
 itr : ∀ p ∈ x.its, isIt p.2 = true ∧ w.heap[p.1]? = some p.2

structure Frm (x : Ctx) (ρ : Nat → Nat) (σ : Nat → Slot) (w : World) : Prop where
 sto : StoR (x.Gd ρ σ) ρ σ w
 own : ∀ b, Owned ρ σ b → Owned x.ρ x.σ b ∨ x.w.heap.size ≤ b
 frame : ∀ b, b < x.w.heap.size → ¬ Owned x.ρ x.σ b → b ∉ x.ex → w.heap[b]? = x.w.heap[b]?
 rcd : RecOk x σ w
 size : x.w.heap.size ≤ w.heap.size
 os : w.os = x.w.os
 tape : w.tape = x.w.tape
 output : w.output = x.w.output
 hist : Keeps0 (x.Gd x.ρ x.σ) (x.Gd ρ σ) x.ρ ρ x.σ σ x.w w

structure Sim (x : Ctx) (ρ : Nat → Nat) (s : AS) (a : Act) (w : World) : Prop extends Frm x ρ s.sto w where
 nt : a.tmps.size = x.nt
 defers : ∃ Ds : List Nat, a.defers = Ds.map (fun D => { target := .collected D, args := #[] }) ∧ Ds.Nodup ∧ ∀ D ∈ Ds, x.w.heap.size ≤ D ∧ w.heap[D]? = some (.deferred (some []))
 inr : ∀ l0, x.rnd = some l0 → l0 ∈ x.ex
 env : ∀ t, t < x.nt → CR (x.Gd ρ s.sto) ρ s.sto w (s.env t) (a.tmps.getD t undef)

section
variable {x : Ctx} {ρ ρ' : Nat → Nat} {σ σ' : Nat → Slot} {w w' : World}

theorem RecOk.keep {G G' : Nat → Prop} (h : RecOk x σ w) (hk : Keeps0 G G' ρ ρ' σ σ' w w') (hg : ∀ k, σ k = .gh → σ' k = .gh) (hl : ∀ (b : Nat) (r : Obj), recO r = true → w.heap[b]? = some r → w'.heap[b]? = some r) : RecOk x σ' w' := by
 refine ⟨fun b hb => ⟨(h.loop b hb).1, ?_⟩, fun p hp => ?_, fun p hp => ?_⟩
 rotate_right
 ·obtain ⟨h1, h2⟩ := h.itr p hp
  exact ⟨h1, hl _ _ (isIt_rec h1) h2⟩
 ·obtain ⟨r, hr⟩ := (h.loop b hb).2
  exact ⟨r, hl b _ rfl hr⟩
 ·obtain ⟨h1, h2, h3⟩ := h.rdy p hp
  obtain ⟨r, hr⟩ := (h.loop p.1 h1).2
  refine ⟨h1, h2, ?_⟩
  rcases h3 with ⟨e1, e2⟩ | ⟨e1, e2⟩
  ·rw [hr] at e2
   exact .inl ⟨hg _ e1, (hl _ _ rfl hr).trans e2⟩
  ·rw [hr] at e2
   exact .inr ⟨hk.dead _ e1, (hl _ _ rfl hr).trans e2⟩

theorem Sim.defers_keeps {s : AS} {a : Act} {G' : Nat → Prop} {σ' : Nat → Slot} (h : Sim x ρ s a w) (hk : Keeps (x.Gd ρ s.sto) G' ρ ρ' s.sto σ' w w') :
  ∃ Ds : List Nat, a.defers = Ds.map (fun D => { target := .collected D, args := #[] }) ∧ Ds.Nodup ∧ ∀ D ∈ Ds, x.w.heap.size ≤ D ∧ w'.heap[D]? = some (.deferred (some [])) := by
 obtain ⟨Ds, h1, h2, h3⟩ := h.defers
 exact ⟨Ds, h1, h2, fun D hD => ⟨(h3 D hD).1, hk.dfr D (h3 D hD).2⟩⟩

theorem Sim.change {s : AS} {a : Act} (h : Sim x ρ s a w) (hk : Keeps (x.Gd ρ s.sto) (x.Gd ρ' σ') ρ ρ' s.sto σ' w w') (hf : Frm x ρ' σ' w') :
  Sim x ρ' ⟨s.env, σ'⟩ a w' :=
 { hf with nt := h.nt, defers := h.defers_keeps hk, inr := h.inr, env := fun t ht => (h.env t ht).keeps hk }

theorem ObR.keeps {G G' : Nat → Prop} {o : Ob} {b : Nat} (hk : Keeps0 G G' ρ ρ' σ σ' w w') (hb : w'.heap[b]? = w.heap[b]?) (h : ObR G ρ σ w o b) : ObR G' ρ' σ' w' o b := by
 refine h.turn hb rfl rfl fun i r r' hr hr' => ?_
 rw [hr] at hr'
 cases hr'
 exact ⟨rfl, fun j c c' hj hj' v hv => by rw [hj] at hj'; cases hj'; exact ⟨hv.keeps0 hk, id⟩⟩

def killS (σ : Nat → Slot) : Option Nat → Nat → Slot
 | none => σ
 | some k => upd σ k .dead

theorem killS_gh {σ : Nat → Slot} {kill : Option Nat} {d : Nat} {s : Slot} (hd : σ d = .free) (hkill : ∀ k, kill = some k → σ k ≠ .free ∧ σ k ≠ .gh) : ∀ k, σ k = .gh → upd (killS σ kill) d s k = .gh := by
 intro k hk
 have h1 : k ≠ d := by rintro rfl; rw [hd] at hk; cases hk
 rw [upd_ne _ _ h1]
 cases kill with
 | none => exact hk
 | some q =>
  have h2 : k ≠ q := by rintro rfl; exact (hkill k rfl).2 hk
  simp only [killS]
  rw [upd_ne _ _ h2]; exact hk

theorem killS_cases (σ : Nat → Slot) (kill : Option Nat) (k : Nat) : killS σ kill k = σ k ∨ (kill = some k ∧ killS σ kill k = .dead) := by
 cases kill with
 | none => exact .inl rfl
 | some q =>
  by_cases h : k = q
  ·subst h; exact .inr ⟨rfl, by simp [killS]⟩
  ·exact .inl (by simp [killS, upd_ne _ _ h])

theorem Frm.newG (h : Frm x ρ σ w) {d : Nat} {ob : Ob} {kill : Option Nat} (hd : σ d = .free) (hkill : ∀ k, kill = some k → σ k ≠ .free ∧ σ k ≠ .gh)
  (hold : ∀ b, b < w.heap.size → w'.heap[b]? = w.heap[b]?) (hsz : w'.heap.size = w.heap.size + 1)
  (hos : w'.os = w.os) (htape : w'.tape = w.tape) (hout : w'.output = w.output)
  (hnl : ob.nl = false) (hob : ∀ G' ρ' σ', Keeps0 (x.Gd ρ σ) G' ρ ρ' σ σ' w w' → ObR G' ρ' σ' w' ob w.heap.size) :
  Keeps (x.Gd ρ σ) (x.Gd (upd ρ d w.heap.size) (upd (killS σ kill) d (.live ob))) ρ (upd ρ d w.heap.size) σ (upd (killS σ kill) d (.live ob)) w w' ∧
   Frm x (upd ρ d w.heap.size) (upd (killS σ kill) d (.live ob)) w' := by
 have hkd : ∀ k, σ k ≠ .free → k ≠ d := fun k hk e => hk (e ▸ hd)
 have hown : ∀ b, Owned (upd ρ d w.heap.size) (upd (killS σ kill) d (.live ob)) b → b = w.heap.size ∨ Owned ρ σ b := by
  rintro b ⟨k, o, h1, h2, h3⟩
  by_cases hk : k = d
  ·subst hk; left; rw [← h3]; simp
  ·right
   rw [upd_ne _ _ hk] at h1 h3
   rcases killS_cases σ kill k with e | ⟨_, e⟩
   ·exact ⟨k, o, e ▸ h1, h2, h3⟩
   ·rw [e] at h1; cases h1
 have hK : Keeps (x.Gd ρ σ) (x.Gd (upd ρ d w.heap.size) (upd (killS σ kill) d (.live ob))) ρ (upd ρ d w.heap.size) σ (upd (killS σ kill) d (.live ob)) w w' := by
  refine .of (fun D hD => (hold D (Array.getElem?_eq_some_iff.1 hD).1).trans hD) ⟨fun b hb hlt => ⟨⟨hb.1, fun ho => ?_⟩, by omega, .inl (hold b hlt)⟩, fun k hk => ?_, fun k o hk => ?_⟩
  ·rcases hown b ho with rfl | ho
   ·omega
   ·exact hb.2 ho
  ·rw [upd_ne _ _ (hkd k (by simp [hk]))]
   rcases killS_cases σ kill k with e | ⟨_, e⟩
   ·rw [e, hk]
   ·exact e
  ·have hne := hkd k (by simp [hk])
   rw [upd_ne _ _ hne]
   rcases killS_cases σ kill k with e | ⟨_, e⟩
   ·right
    rw [e]
    refine ⟨o, hk, rfl, rfl, rfl, fun hn => ⟨upd_ne _ _ hne, fun cs' el' fz' hc => ?_⟩⟩
    rw [hold _ (h.sto.ob k o hk hn).lt] at hc
    exact ⟨_, _, _, hc, Nat.le_refl _⟩
   ·exact .inl e
 refine ⟨hK, ⟨⟨fun k o hk hn => ?_, fun k o hk hn => ?_, fun k k' o o' hk hk' hn hn' he => ?_⟩, fun b hb => ?_, fun b hb hnb hex => ?_, h.rcd.keep hK.toKeeps0 (killS_gh hd hkill) fun b r _ hb => (hold b (Array.getElem?_eq_some_iff.1 hb).1).trans hb, ?_, hos.trans h.os, htape.trans h.tape, hout.trans h.output, h.hist.trans hK.toKeeps0⟩⟩
 ·by_cases hkd' : k = d
  ·subst hkd'
   simp only [upd_same, Slot.live.injEq] at hk ⊢
   subst hk
   exact hob _ _ _ hK.toKeeps0
  ·rw [upd_ne _ _ hkd'] at hk ⊢
   rcases killS_cases σ kill k with e | ⟨_, e⟩
   ·rw [e] at hk
    have := h.sto.ob k o hk hn
    exact this.keeps hK.toKeeps0 (hold _ this.lt)
   ·rw [e] at hk; cases hk
 ·by_cases hkd' : k = d
  ·subst hkd'
   simp only [upd_same, Slot.live.injEq] at hk
   subst hk
   rw [hnl] at hn; cases hn
  ·rw [upd_ne _ _ hkd'] at hk
   rcases killS_cases σ kill k with e | ⟨_, e⟩
   ·rw [e] at hk; exact h.sto.nil k o hk hn
   ·rw [e] at hk; cases hk
 ·have old : ∀ q o, q ≠ d → upd (killS σ kill) d (.live ob) q = .live o → o.nl = false → σ q = .live o ∧ ρ q < w.heap.size := by
   intro q o hq h1 h2
   rw [upd_ne _ _ hq] at h1
   rcases killS_cases σ kill q with e | ⟨_, e⟩
   ·rw [e] at h1; exact ⟨h1, (h.sto.ob q o h1 h2).lt⟩
   ·rw [e] at h1; cases h1
  by_cases h1 : k = d <;> by_cases h2 : k' = d
  ·rw [h1, h2]
  ·subst h1
   have := (old k' o' h2 hk' hn').2
   rw [upd_same, upd_ne _ _ h2] at he
   omega
  ·subst h2
   have := (old k o h1 hk hn).2
   rw [upd_same, upd_ne _ _ h1] at he
   omega
  ·rw [upd_ne _ _ h1, upd_ne _ _ h2] at he
   exact h.sto.inj k k' o o' (old k o h1 hk hn).1 (old k' o' h2 hk' hn').1 hn hn' he
 ·rcases hown b hb with rfl | ho
  ·exact .inr h.size
  ·exact h.own b ho
 ·rw [hold b (by have := h.size; omega)]
  exact h.frame b hb hnb hex
 ·have := h.size; omega

theorem Frm.new (h : Frm x ρ σ w) {d : Nat} {ob : Ob} {cs : Array Value} {el : TypeId} {kill : Option Nat} (hd : σ d = .free) (hkill : ∀ k, kill = some k → σ k ≠ .free ∧ σ k ≠ .gh)
  (hold : ∀ b, b < w.heap.size → w'.heap[b]? = w.heap[b]?) (hsz : w'.heap.size = w.heap.size + 1) (hnew : w'.heap[w.heap.size]? = some (.cells cs el (0, 0)))
  (hos : w'.os = w.os) (htape : w'.tape = w.tape) (hout : w'.output = w.output)
  (hnl : ob.nl = false) (hpos : 0 < ob.sz) (hlen : ob.rows.length * ob.sz ≤ cs.size)
  (hcells : ∀ (i : Nat) (row : List C), ob.rows[i]? = some row → row.length = ob.sz ∧
   ∀ (j : Nat) (c : C), row[j]? = some c → CR (x.Gd ρ σ) ρ σ w c (cs.getD (i * ob.sz + j) undef) ∧ c.cell = true) (hB : Tyd ob cs el := by intro h; cases h) :
  Keeps (x.Gd ρ σ) (x.Gd (upd ρ d w.heap.size) (upd (killS σ kill) d (.live ob))) ρ (upd ρ d w.heap.size) σ (upd (killS σ kill) d (.live ob)) w w' ∧
   Frm x (upd ρ d w.heap.size) (upd (killS σ kill) d (.live ob)) w' :=
 h.newG hd hkill hold hsz hos htape hout hnl fun G' ρ' σ' hK => ObC.ob ⟨⟨cs, el, hnew, hlen, fun i row hi =>
  ⟨(hcells i row hi).1, fun j c hj => ⟨((hcells i row hi).2 j c hj).1.keeps0 hK, ((hcells i row hi).2 j c hj).2⟩⟩⟩, hpos, fun cs1 el1 fz1 hh => by rw [hnew] at hh; cases hh; exact hB⟩

theorem Frm.newMap (h : Frm x ρ σ w) {d : Nat} {ob : Ob} {es : Array MapEntry} {q : Nat} {kill : Option Nat} (hd : σ d = .free) (hkill : ∀ k, kill = some k → σ k ≠ .free ∧ σ k ≠ .gh)
  (hold : ∀ b, b < w.heap.size → w'.heap[b]? = w.heap[b]?) (hsz : w'.heap.size = w.heap.size + 1) (hnew : w'.heap[w.heap.size]? = some (.map es q))
  (hos : w'.os = w.os) (htape : w'.tape = w.tape) (hout : w'.output = w.output)
  (hnl : ob.nl = false) (hpos : ob.sz = 0) (hbo : Born es q) (hlen : es.size = ob.rows.length)
  (hcells : ∀ (i : Nat) (row : List C), ob.rows[i]? = some row → row.length = 2 ∧ ∃ e, es[i]? = some e ∧
   ∀ (j : Nat) (c : C), row[j]? = some c → CR (x.Gd ρ σ) ρ σ w c (if j = 0 then e.key else e.val)):
  Keeps (x.Gd ρ σ) (x.Gd (upd ρ d w.heap.size) (upd (killS σ kill) d (.live ob))) ρ (upd ρ d w.heap.size) σ (upd (killS σ kill) d (.live ob)) w w' ∧
   Frm x (upd ρ d w.heap.size) (upd (killS σ kill) d (.live ob)) w' :=
 h.newG hd hkill hold hsz hos htape hout hnl fun G' ρ' σ' hK => ⟨fun e => absurd hpos e, fun _ => ⟨es, q, hnew, hbo, hlen, fun i row hi => by
  obtain ⟨h4, e, h5, h6⟩ := hcells i row hi
  exact ⟨h4, e, h5, fun j c hj => (h6 j c hj).keeps0 hK⟩⟩, fun cs1 el1 fz1 hh => by rw [hnew] at hh; cases hh⟩

theorem Frm.writeG (h : Frm x ρ σ w) {k d : Nat} {o ob : Ob} {q0 q1 : Obj} (hk : σ k = .live o) (hn : o.nl = false)
  (hd : d = k ∨ σ d = .free)
  (hc : w.heap[ρ k]? = some q0) (hold : ∀ b, b ≠ ρ k → w'.heap[b]? = w.heap[b]?) (hsz : w'.heap.size = w.heap.size)
  (hnew : w'.heap[ρ k]? = some q1) (hcs : ∀ cs' el' fz', q1 = .cells cs' el' fz' → ∃ cs el fz, q0 = .cells cs el fz ∧ cs.size ≤ cs'.size)
  (hos : w'.os = w.os) (htape : w'.tape = w.tape) (hout : w'.output = w.output)
  (hnl : ob.nl = false) (hem : ob.em = o.em) (hobs : ob.sz = o.sz)
  (hob : ∀ G' ρ' σ', Keeps0 (x.Gd ρ σ) G' ρ ρ' σ σ' w w' → ObR G' ρ' σ' w' ob (ρ k)) :
  Keeps (x.Gd ρ σ) (x.Gd (upd ρ d (ρ k)) (upd (upd σ k .dead) d (.live ob))) ρ (upd ρ d (ρ k)) σ (upd (upd σ k .dead) d (.live ob)) w w' ∧
   Frm x (upd ρ d (ρ k)) (upd (upd σ k .dead) d (.live ob)) w' := by
 have hobk := h.sto.ob k o hk hn
 have hρd : d = k → upd ρ d (ρ k) = ρ := by
  rintro rfl; funext i; unfold upd; split <;> simp_all
 have hother : ∀ q o', q ≠ d → upd (upd σ k .dead) d (.live ob) q = .live o' → q ≠ k ∧ σ q = .live o' := by
  intro q o' hq h1
  rw [upd_ne _ _ hq] at h1
  by_cases hqk : q = k
  ·subst hqk; simp at h1
  ·rw [upd_ne _ _ hqk] at h1; exact ⟨hqk, h1⟩
 have hown : ∀ b, Owned (upd ρ d (ρ k)) (upd (upd σ k .dead) d (.live ob)) b ↔ Owned ρ σ b := by
  intro b
  constructor
  ·rintro ⟨q, o', h1, h2, h3⟩
   by_cases hq : q = d
   ·subst hq; rw [upd_same] at h3; exact ⟨k, o, hk, hn, h3⟩
   ·obtain ⟨_, h4⟩ := hother q o' hq h1
    rw [upd_ne _ _ hq] at h3
    exact ⟨q, o', h4, h2, h3⟩
  ·rintro ⟨q, o', h1, h2, h3⟩
   by_cases hq : q = k
   ·subst hq; exact ⟨d, ob, by simp, hnl, by simpa using h3⟩
   ·have hqd : q ≠ d := by
     rcases hd with rfl | hd
     ·exact hq
     ·intro e; subst e; rw [hd] at h1; cases h1
    exact ⟨q, o', by rw [upd_ne _ _ hqd, upd_ne _ _ hq]; exact h1, h2, by rw [upd_ne _ _ hqd]; exact h3⟩
 have hK : Keeps (x.Gd ρ σ) (x.Gd (upd ρ d (ρ k)) (upd (upd σ k .dead) d (.live ob))) ρ (upd ρ d (ρ k)) σ (upd (upd σ k .dead) d (.live ob)) w w' := by
  refine .of (fun D hD => (hold D (by rintro rfl; have := hobk.noOdd hD; simp [oddO] at this)).trans hD) ⟨fun b hb hlt => ⟨⟨hb.1, fun ho => hb.2 ((hown b).1 ho)⟩, by omega, .inl (hold b ?_)⟩, fun q hq => ?_, fun q o' hq => ?_⟩
  ·rintro rfl; exact hb.2 ⟨k, o, hk, hn, rfl⟩
  ·have h1 : q ≠ k := by rintro rfl; rw [hk] at hq; cases hq
   have h2 : q ≠ d := by
    rcases hd with rfl | hd
    ·exact h1
    ·rintro rfl; rw [hd] at hq; cases hq
   rw [upd_ne _ _ h2, upd_ne _ _ h1, hq]
  ·by_cases hqk : q = k
   ·subst hqk
    rw [hk] at hq
    cases hq
    rcases hd with rfl | hd
    ·right
     refine ⟨ob, by simp, by rw [hnl, hn], hem, hobs, fun _ => ⟨by simp, fun cs1 el1 fz1 h1 => ?_⟩⟩
     rw [hnew] at h1
     obtain ⟨cs, el, fz, e1, e2⟩ := hcs cs1 el1 fz1 (by injection h1)
     exact ⟨_, _, _, by rw [hc, e1], e2⟩
    ·left
     have : q ≠ d := by rintro rfl; rw [hk] at hd; cases hd
     rw [upd_ne _ _ this]; simp
   ·have hqd : q ≠ d := by
     rcases hd with rfl | hd
     ·exact hqk
     ·rintro rfl; rw [hd] at hq; cases hq
    right
    refine ⟨o', by rw [upd_ne _ _ hqd, upd_ne _ _ hqk]; exact hq, rfl, rfl, rfl, fun hn' => ⟨upd_ne _ _ hqd, fun cs1 el1 fz1 h1 => ?_⟩⟩
    rw [hold _ (fun e => hqk (h.sto.inj q k o' o hq hk hn' hn e))] at h1
    exact ⟨_, _, _, h1, Nat.le_refl _⟩
 refine ⟨hK, ⟨⟨fun q o' hq hn' => ?_, fun q o' hq hn' => ?_, fun q q' o1 o2 hq hq' hn1 hn2 he => ?_⟩, fun b hb => h.own b ((hown b).1 hb), fun b hb hnb hex => ?_, h.rcd.keep hK.toKeeps0 (fun q hq => by
  have h1 : q ≠ k := by rintro rfl; rw [hk] at hq; cases hq
  have h2 : q ≠ d := by
   rcases hd with rfl | hd
   ·exact h1
   ·rintro rfl; rw [hd] at hq; cases hq
  rw [upd_ne _ _ h2, upd_ne _ _ h1, hq]) fun b r hr hb => (hold b (by rintro rfl; have h1 := hobk.noOdd hb; rw [recO_odd hr] at h1; cases h1)).trans hb, by rw [hsz]; exact h.size, hos.trans h.os, htape.trans h.tape, hout.trans h.output, h.hist.trans hK.toKeeps0⟩⟩
 ·by_cases hqd : q = d
  ·subst hqd
   simp only [upd_same, Slot.live.injEq] at hq ⊢
   subst hq
   exact hob _ _ _ hK.toKeeps0
  ·obtain ⟨hqk, h4⟩ := hother q o' hqd hq
   rw [upd_ne _ _ hqd]
   exact (h.sto.ob q o' h4 hn').keeps hK.toKeeps0 (hold _ fun e => hqk (h.sto.inj q k o' o h4 hk hn' hn e))
 ·by_cases hqd : q = d
  ·subst hqd
   simp only [upd_same, Slot.live.injEq] at hq
   subst hq
   rw [hnl] at hn'; cases hn'
  ·exact h.sto.nil q o' (hother q o' hqd hq).2 hn'
 ·by_cases h1 : q = d <;> by_cases h2 : q' = d
  ·rw [h1, h2]
  ·subst h1
   obtain ⟨hqk, h4⟩ := hother q' o2 h2 hq'
   rw [upd_same, upd_ne _ _ h2] at he
   exact absurd (h.sto.inj k q' o o2 hk h4 hn hn2 he) (Ne.symm hqk)
  ·subst h2
   obtain ⟨hqk, h4⟩ := hother q o1 h1 hq
   rw [upd_same, upd_ne _ _ h1] at he
   exact absurd (h.sto.inj q k o1 o h4 hk hn1 hn he) hqk
  ·rw [upd_ne _ _ h1, upd_ne _ _ h2] at he
   exact h.sto.inj q q' o1 o2 (hother q o1 h1 hq).2 (hother q' o2 h2 hq').2 hn1 hn2 he
 ·have hne : b ≠ ρ k := by
   rintro rfl
   rcases h.own _ ⟨k, o, hk, hn, rfl⟩ with h1 | h1
   ·exact hnb h1
   ·omega
  rw [hold b hne]
  exact h.frame b hb hnb hex

theorem Frm.write (h : Frm x ρ σ w) {k d : Nat} {o ob : Ob} {cs cs' : Array Value} {el : TypeId} (hk : σ k = .live o) (hn : o.nl = false)
  (hd : d = k ∨ σ d = .free)
  (hc : w.heap[ρ k]? = some (.cells cs el (0, 0))) (hold : ∀ b, b ≠ ρ k → w'.heap[b]? = w.heap[b]?) (hsz : w'.heap.size = w.heap.size)
  (hnew : w'.heap[ρ k]? = some (.cells cs' el (0, 0))) (hcs : cs'.size = cs.size)
  (hos : w'.os = w.os) (htape : w'.tape = w.tape) (hout : w'.output = w.output)
  (hnl : ob.nl = false) (hem : ob.em = o.em) (hobs : ob.sz = o.sz) (hlen : ob.rows.length * ob.sz ≤ cs.size)
  (hcells : ∀ (i : Nat) (row : List C), ob.rows[i]? = some row → row.length = ob.sz ∧
   ∀ (j : Nat) (c : C), row[j]? = some c → CR (x.Gd ρ σ) ρ σ w c (cs'.getD (i * ob.sz + j) undef) ∧ c.cell = true) :
  Keeps (x.Gd ρ σ) (x.Gd (upd ρ d (ρ k)) (upd (upd σ k .dead) d (.live ob))) ρ (upd ρ d (ρ k)) σ (upd (upd σ k .dead) d (.live ob)) w w' ∧
   Frm x (upd ρ d (ρ k)) (upd (upd σ k .dead) d (.live ob)) w' := by
 have hpos : 0 < ob.sz := by
  rw [hobs]
  refine Nat.pos_of_ne_zero fun hz => ?_
  obtain ⟨es, q, e1, _⟩ := (h.sto.ob k o hk hn).ent hz
  rw [e1] at hc; cases hc
 have htyp : Tyd ob cs' el := fun hb => by
  have h1 := (h.sto.ob k o hk hn).typ _ _ _ hc (by rw [← hem]; exact hb)
  rw [hobs, hcs]; exact h1
 exact h.writeG hk hn hd hc hold hsz hnew (fun cs1 el1 fz1 e => by cases e; exact ⟨_, _, _, rfl, by omega⟩) hos htape hout hnl hem hobs
  fun G' ρ' σ' hK => ObC.ob ⟨⟨cs', el, hnew, by omega, fun i row hi => ⟨(hcells i row hi).1, fun j c hj => ⟨((hcells i row hi).2 j c hj).1.keeps0 hK, ((hcells i row hi).2 j c hj).2⟩⟩⟩, hpos, fun cs1 el1 fz1 hh => by rw [hnew] at hh; cases hh; exact htyp⟩

theorem Frm.writeMap (h : Frm x ρ σ w) {k d : Nat} {o ob : Ob} {es es' : Array MapEntry} {q q' : Nat} (hk : σ k = .live o) (hn : o.nl = false)
  (hd : d = k ∨ σ d = .free)
  (hc : w.heap[ρ k]? = some (.map es q)) (hold : ∀ b, b ≠ ρ k → w'.heap[b]? = w.heap[b]?) (hsz : w'.heap.size = w.heap.size)
  (hnew : w'.heap[ρ k]? = some (.map es' q'))
  (hos : w'.os = w.os) (htape : w'.tape = w.tape) (hout : w'.output = w.output)
  (hnl : ob.nl = false) (hem : ob.em = o.em) (hobs : ob.sz = o.sz) (hz : o.sz = 0) (hbo : Born es' q') (hlen : es'.size = ob.rows.length)
  (hcells : ∀ (i : Nat) (row : List C), ob.rows[i]? = some row → row.length = 2 ∧ ∃ e, es'[i]? = some e ∧
   ∀ (j : Nat) (c : C), row[j]? = some c → CR (x.Gd ρ σ) ρ σ w c (if j = 0 then e.key else e.val)) :
  Keeps (x.Gd ρ σ) (x.Gd (upd ρ d (ρ k)) (upd (upd σ k .dead) d (.live ob))) ρ (upd ρ d (ρ k)) σ (upd (upd σ k .dead) d (.live ob)) w w' ∧
   Frm x (upd ρ d (ρ k)) (upd (upd σ k .dead) d (.live ob)) w' :=
 h.writeG hk hn hd hc hold hsz hnew (fun cs1 el1 fz1 e => by cases e) hos htape hout hnl hem hobs
  fun G' ρ' σ' hK => ⟨fun e => absurd (hobs.trans hz) e, fun _ => ⟨es', q', hnew, hbo, hlen, fun i row hi => by
   obtain ⟨h4, e, h5, h6⟩ := hcells i row hi
   exact ⟨h4, e, h5, fun j c hj => (h6 j c hj).keeps0 hK⟩⟩, fun cs1 el1 fz1 hh => by rw [hnew] at hh; cases hh⟩

theorem Frm.nilNew (h : Frm x ρ σ w) {d : Nat} {ob : Ob} {kill : Option Nat} (hd : σ d = .free) (hnl : ob.nl = true) (hrows : ob.rows = []) (hkill : ∀ k, kill = some k → σ k ≠ .free ∧ σ k ≠ .gh) :
  Keeps (x.Gd ρ σ) (x.Gd ρ (upd (killS σ kill) d (.live ob))) ρ ρ σ (upd (killS σ kill) d (.live ob)) w w ∧ Frm x ρ (upd (killS σ kill) d (.live ob)) w := by
 have hkd : ∀ k, σ k ≠ .free → k ≠ d := fun k hk e => hk (e ▸ hd)
 have hother : ∀ q o', upd (killS σ kill) d (.live ob) q = .live o' → o'.nl = false → q ≠ d ∧ σ q = .live o' := by
  intro q o' h1 h2
  by_cases hq : q = d
  ·subst hq; simp at h1; subst h1; rw [hnl] at h2; cases h2
  ·rw [upd_ne _ _ hq] at h1
   rcases killS_cases σ kill q with e | ⟨_, e⟩
   ·exact ⟨hq, e ▸ h1⟩
   ·rw [e] at h1; cases h1
 have hown : ∀ b, Owned ρ (upd (killS σ kill) d (.live ob)) b → Owned ρ σ b := by
  rintro b ⟨q, o', h1, h2, h3⟩
  exact ⟨q, o', (hother q o' h1 h2).2, h2, h3⟩
 have hK : Keeps (x.Gd ρ σ) (x.Gd ρ (upd (killS σ kill) d (.live ob))) ρ ρ σ (upd (killS σ kill) d (.live ob)) w w := by
  refine .of (fun D hD => hD) ⟨fun b hb hlt => ⟨⟨hb.1, fun ho => hb.2 (hown b ho)⟩, hlt, .inl rfl⟩, fun k hk => ?_, fun k o hk => ?_⟩
  ·rw [upd_ne _ _ (hkd k (by simp [hk]))]
   rcases killS_cases σ kill k with e | ⟨_, e⟩
   ·rw [e, hk]
   ·exact e
  ·rw [upd_ne _ _ (hkd k (by simp [hk]))]
   rcases killS_cases σ kill k with e | ⟨_, e⟩
   ·right; rw [e]; exact ⟨o, hk, rfl, rfl, rfl, fun _ => ⟨rfl, fun cs el fz hc => ⟨_, _, _, hc, Nat.le_refl _⟩⟩⟩
   ·exact .inl e
 refine ⟨hK, ⟨⟨fun q o' hq hn' => (h.sto.ob q o' (hother q o' hq hn').2 hn').keeps hK.toKeeps0 rfl, fun q o' hq hn' => ?_, fun q q' o1 o2 hq hq' hn1 hn2 he =>
  h.sto.inj q q' o1 o2 (hother q o1 hq hn1).2 (hother q' o2 hq' hn2).2 hn1 hn2 he⟩, fun b hb => h.own b (hown b hb), h.frame, h.rcd.keep hK.toKeeps0 (killS_gh hd hkill) fun b r _ hb => hb, h.size, h.os, h.tape, h.output, h.hist.trans hK.toKeeps0⟩⟩
 by_cases hqd : q = d
 ·subst hqd; simp at hq; subst hq; exact hrows
 ·rw [upd_ne _ _ hqd] at hq
  rcases killS_cases σ kill q with e | ⟨_, e⟩
  ·rw [e] at hq; exact h.sto.nil q o' hq hn'
  ·rw [e] at hq; cases hq

end
end Go.Abs

/- Operations that make or write memory: what they do to the abstract store, and that the model's run does what this stands for. No condition. -/
namespace Go.Abs

def isFree (σ : Nat → Slot) (d : Nat) : Bool :=
 match σ d with
 | .free => true
 | _ => false

theorem isFree_iff {σ : Nat → Slot} {d : Nat} (h : isFree σ d = true) : σ d = .free := by
 unfold isFree at h
 split at h
 ·assumption
 ·simp at h

def zrep : Nat → List C → List C
 | 0, _ => []
 | n + 1, z => z ++ zrep n z

def chunk (sz : Nat) : Nat → List C → List (List C)
 | 0, _ => []
 | n + 1, l => l.take sz :: chunk sz n (l.drop sz)

theorem zrep_length (z : List C) : ∀ n, (zrep n z).length = n * z.length
 | 0 => by simp [zrep]
 | n + 1 => by simp [zrep, zrep_length z n, Nat.add_mul]; omega

theorem zrep_get (z : List C) : ∀ (n q : Nat), q < n * z.length → (zrep n z)[q]? = z[q % z.length]?
 | 0, q, h => by simp at h
 | n + 1, q, h => by
  simp only [zrep]
  by_cases hq : q < z.length
  ·rw [List.getElem?_append_left hq, Nat.mod_eq_of_lt hq]
  ·rw [List.getElem?_append_right (by omega), zrep_get z n (q - z.length) (by rw [Nat.add_mul] at h; omega)]
   congr 1
   exact (Nat.mod_eq_sub_mod (by omega)).symm

theorem chunk_get (sz : Nat) : ∀ (n : Nat) (l : List C) (i : Nat), (chunk sz n l)[i]? = if i < n then some ((l.drop (i * sz)).take sz) else none
 | 0, l, i => by simp [chunk]
 | n + 1, l, i => by
  simp only [chunk]
  cases i with
  | zero => simp
  | succ i =>
   simp only [List.getElem?_cons_succ, chunk_get sz n, Nat.add_lt_add_iff_right, List.drop_drop]
   congr 3
   rw [Nat.add_mul]; congr 1; omega

theorem chunk_length (sz : Nat) : ∀ (n : Nat) (l : List C), (chunk sz n l).length = n
 | 0, _ => rfl
 | n + 1, l => by simp [chunk, chunk_length sz n]

def srcC (σ : Nat → Slot) (size : Nat) : C → Option (List (List C))
 | .sl _ _ rows => if rows.all (fun r => r.length == size) then some rows else none
 | .own k sz lo n => match σ k with
  | .live o => if sz = size ∧ o.sz = size ∧ lo + n ≤ o.rows.length then some ((o.rows.drop lo).take n) else none
  | _ => none
 | .str s => if size = 1 then some (s.data.toList.map fun b => [.int .u8 b.toNat]) else none
 | _ => none

@[simp] def emC (emp em : Bool) (e sz : Nat) : Bool := if emp then em else e == tyU && sz == 1

def appendC (P : Program) (σ : Nat → Slot) (d : Nat) (t u : TypeId) (s x : C) : Option (C × (Nat → Slot)) :=
 match (tyOf P t).map TI.kind, (tyOf P u).map TI.kind with
 | some (.slice e), some ku =>
  match tyOf P e, ku with
  | some _, .int _ => none
  | some i, _ =>
   match srcC σ i.size x with
   | some R =>
    if isFree σ d = true ∧ 0 < i.size ∧ i.bytes ≤ 1048576 then
     match s with
     | .sl nl full [] =>
      if R.length * i.bytes ≤ 70368744177664 ∧ R.length ≤ 70368744177664 ∧ (nl || full) = true then
       some (.own d i.size 0 R.length, upd σ d (.live ⟨R.isEmpty, emC R.isEmpty (!nl) e i.size, i.size, R⟩)) else none
     | .sl false true rows =>
      if (rows.length + R.length) * i.bytes ≤ 70368744177664 ∧ rows.length + R.length ≤ 70368744177664 ∧ R.isEmpty = false ∧ rows.all (fun r => r.length == i.size) = true then
       some (.own d i.size 0 (rows.length + R.length), upd σ d (.live ⟨false, emC false false e i.size, i.size, rows ++ R⟩)) else none
     | .own k sz lo n => match σ k with
      | .live o =>
       if (n + R.length) * i.bytes ≤ 70368744177664 ∧ n + R.length ≤ 70368744177664 ∧ lo = 0 ∧ n = o.rows.length ∧ sz = i.size ∧ o.sz = i.size ∧ (!o.nl && o.em && !(e == tyU && i.size == 1)) = false then
        some (.own d i.size 0 (n + R.length), upd (upd σ k .dead) d (.live ⟨o.nl && R.isEmpty, if o.nl then emC R.isEmpty o.em e i.size else o.em, i.size, o.rows ++ R⟩)) else none
      | _ => none
     | _ => none
    else none
   | none => none
  | _, _ => none
 | _, _ => none

def updC (P : Program) (σ : Nat → Slot) (t : TypeId) (m k v : C) : Option (C × (Nat → Slot)) :=
 match (tyOf P t).map TI.kind, m with
 | some (.map kt _), .mp q => match keyQ P kt, σ q with
  | some kq, .live o => if o.nl = false ∧ o.sz = 0 ∧ fitQ kq k = true then
    match findC kq k o.rows 0 with
    | some (some (i, _)) => some (.any, upd σ q (.live { o with rows := o.rows.set i [k, v] }))
    | some none => some (.any, upd σ q (.live { o with rows := o.rows ++ [[k, v]] }))
    | none => none
   else none
  | _, _ => none
 | _, _ => none

def entC (P : Program) (σ : Nat → Slot) (t : TypeId) (m k : C) : Option (C × (Nat → Slot)) :=
 match (tyOf P t).map TI.kind, m with
 | some (.map kt et), .mp q => match keyQ P kt, σ q, tyOf P et with
  | some (.flat ks), .live o, some i => if o.nl = false ∧ o.sz = 0 ∧ fitQ (.flat ks) k = true then
    match findC (.flat ks) k o.rows 0 with
    | some (some (j, v)) => some (.tup [v, .int .i64 j], σ)
    | some none => (zeroC i).map fun z => (.tup [z, .int .i64 o.rows.length], upd σ q (.live { o with rows := o.rows ++ [[k, z]] }))
    | none => none
   else none
  | _, _, _ => none
 | _, _ => none

def putC (σ : Nat → Slot) (m s y : C) : Option (C × (Nat → Slot)) :=
 match m, s with
 | .mp q, .int _ n => match σ q with
  | .live o => if o.nl = false ∧ o.sz = 0 ∧ 0 ≤ n then
    match o.rows[n.toNat]? with
    | some [k, _] => some (.any, upd σ q (.live { o with rows := o.rows.set n.toNat [k, y] }))
    | _ => none
   else none
  | _ => none
 | _, _ => none

def effC (P : Program) (σ : Nat → Slot) (ρ : Operand → C) (d : Option Nat) : Op → Option (C × (Nat → Slot))
 | .alloc t => match d, tyOf P t with
  | some d, some i => if isFree σ d = true ∧ 0 < i.size then some (.ptr d i.size 0 0, upd σ d (.live ⟨false, t == tyB && i.size == 2, i.size, [i.zero]⟩)) else none
  | _, _ => none
 | .box _ x => match d, cellsC (ρ x) with
  | some d, some cs => if isFree σ d = true ∧ 0 < cs.length then some (.ptr d cs.length 0 0, upd σ d (.live ⟨false, false, cs.length, [cs]⟩)) else none
  | _, _ => none
 | .buildSlice t n parts => match (tyOf P t).map TI.kind with
  | some (.slice e) => match tyOf P e with
   | some i =>
    if 0 < i.size ∧ n * i.size ≤ 1048576 then
     match fillC (fun q => some (q * i.size, i.size)) (zrep n i.zero) (parts.toList.map fun p => (p.1, ρ p.2)) with
     | some cs => if purel cs then some (.sl false true (chunk i.size n cs), σ) else
      match d with
      | some d => if isFree σ d = true then some (.own d i.size 0 n, upd σ d (.live ⟨false, false, i.size, chunk i.size n cs⟩)) else none
      | none => none
     | none => none
    else none
   | none => none
  | _ => none
 | .makeSlice t l c => match d, (tyOf P t).map TI.kind, ρ l, ρ c with
  | some d, some (.slice e), .int _ n, .int _ m => match tyOf P e with
   | some i => if isFree σ d = true ∧ 0 < i.size ∧ 0 ≤ n ∧ n ≤ m ∧ (i.bytes : Int) * m ≤ 281474976710656 ∧ m ≤ 9223372036854775807 then
     some (.own d i.size 0 n.toNat, upd σ d (.live ⟨false, false, i.size, List.replicate n.toNat i.zero⟩)) else none
   | none => none
  | _, _, _, _ => none
 | .store t a x => match d, tyOf P t, cellsC (ρ x), ρ a with
  | none, some i, some cs, .ptr k sz r j => match σ k with
   | .live o => match o.rows[r]? with
    | some row =>
     if o.nl = false ∧ o.sz = sz ∧ cs.length = i.size ∧ j + cs.length ≤ row.length then
      some (.any, upd σ k (.live { o with rows := o.rows.set r (row.take j ++ cs ++ row.drop (j + cs.length)) }))
     else none
    | none => none
   | _ => none
  | _, _, _, _ => none
 | .makeMap t none => match d, (tyOf P t).map TI.kind with
  | some d, some (.map _ _) => if isFree σ d = true then some (.mp d, upd σ d (.live ⟨false, false, 0, []⟩)) else none
  | _, _ => none
 | .mapUpdate t m k v => match d with
  | none => updC P σ t (ρ m) (ρ k) (ρ v)
  | some _ => none
 | .insert t m k v => match d with
  | none => updC P σ t (ρ m) (ρ k) (ρ v)
  | some _ => none
 | .mapEntry t m k => entC P σ t (ρ m) (ρ k)
 | .entryStore _ m s y => match d with
  | none => putC σ (ρ m) (ρ s) (ρ y)
  | some _ => none
 | .call { callee := .builtin .append, args, argTypes } => match d, args.toList, argTypes.toList with
  | some d, [s, x], [t, u] => appendC P σ d t u (ρ s) (ρ x)
  | _, _, _ => none
 | _ => none

section
variable {P : Program} {x : Ctx} {ρ : Nat → Nat} {σ : Nat → Slot} {w : World}

theorem alloc_old (w : World) (o : Obj) {b : Nat} (h : b < w.heap.size) : (w.alloc o).heap[b]? = w.heap[b]? := by
 show (w.heap.push o)[b]? = _
 rw [Array.getElem?_push_lt h, Array.getElem?_eq_getElem h]

theorem alloc_new (w : World) (o : Obj) : (w.alloc o).heap[w.heap.size]? = some o := by
 show (w.heap.push o)[w.heap.size]? = _
 simp

theorem over_get {cur : Array Value} {vs : List Value} {p : Nat} (h : p + vs.length ≤ cur.size) (q : Nat) :
  ((cur.toList.take p ++ vs ++ cur.toList.drop (p + vs.length)).toArray).getD q undef = if p ≤ q ∧ q < p + vs.length then vs.getD (q - p) undef else cur.getD q undef := by
 simp only [Array.getD_eq_getD_getElem?, List.getElem?_toArray, List.getD_eq_getElem?_getD]
 congr 1
 by_cases h1 : q < p
 ·rw [if_neg (by omega), List.append_assoc, List.getElem?_append_left (by simp; omega), List.getElem?_take_of_lt h1]
  simp
 ·by_cases h2 : q < p + vs.length
  ·rw [if_pos (by omega), List.append_assoc, List.getElem?_append_right (by simp; omega), List.getElem?_append_left (by simp; omega)]
   rw [show q - (cur.toList.take p).length = q - p from by simp; omega]
  ·rw [if_neg (by omega), List.getElem?_append_right (by simp; omega)]
   simp only [List.getElem?_drop, List.length_append, List.length_take, Array.length_toList, Array.getElem?_toList]
   rw [show p + vs.length + (q - (min p cur.size + vs.length)) = q from by omega]

theorem over_size {cur : Array Value} {vs : List Value} {p : Nat} (h : p + vs.length ≤ cur.size) :
  ((cur.toList.take p ++ vs ++ cur.toList.drop (p + vs.length)).toArray).size = cur.size := by
 simp; omega

theorem in_rows {i q r sz : Nat} (h : i < r) (hq : q < sz) : i * sz + q < r * sz := by
 have : (i + 1) * sz ≤ r * sz := Nat.mul_le_mul_right _ h
 rw [Nat.add_mul] at this; omega

def EffOk (P : Program) (x : Ctx) (ρ : Nat → Nat) (σ : Nat → Slot) (w : World) (run : Result Next) (d : Option Nat) (c : C) (σ' : Nat → Slot) : Prop :=
 ∃ ρ' w' v, (run = .ok (.value v) w' ∨ (run = .ok .skip w' ∧ d = none ∧ v = undef)) ∧ Keeps (x.Gd ρ σ) (x.Gd ρ' σ') ρ ρ' σ σ' w w' ∧ Frm x ρ' σ' w' ∧ CR (x.Gd ρ' σ') ρ' σ' w' c v

theorem ok_value {s : Sem Value} {v : Value} {w' : World} (h : s.run P w = .ok v w') : (do pure (.value (← s)) : Sem Next).run P w = .ok (.value v) w' := by
 simp [h]

theorem alloc_sound (h : Frm x ρ σ w) {t : TypeId} {i : TI} {d : Nat} (hi : tyOf P t = some i) (hd : isFree σ d = true) (hp : 0 < i.size) :
  EffOk P x ρ σ w ((do pure (.value (← Instr.alloc t true (.tuple #[]))) : Sem Next).run P w) (some d) (.ptr d i.size 0 0) (upd σ d (.live ⟨false, t == tyB && i.size == 2, i.size, [i.zero]⟩)) := by
 obtain ⟨inf, dd, z, ht⟩ := tyOf_ok hi
 have hz := zero_CO (G := x.Gd ρ σ) (ρ := ρ) (σ := σ) (w := w) ht
 have hzl : i.zero.length = i.size := by rw [ht.zc]; simp [ht.zs]
 obtain ⟨hK, hF⟩ := h.new (w' := w.alloc (.cells z.cells t)) (ob := ⟨false, t == tyB && i.size == 2, i.size, [i.zero]⟩) (cs := z.cells) (el := t) (kill := none) (isFree_iff hd) (by simp)
  (fun b hb => alloc_old w _ hb) (by simp) (alloc_new w _) rfl rfl rfl rfl hp (by simp [ht.zs]) (fun q row hq => by
   cases q with
   | succ q => simp at hq
   | zero =>
    simp at hq; subst hq
    refine ⟨hzl, fun j c hj => ⟨?_, (hz.2 j c hj).1⟩⟩
    simpa using hz.1.2 j c hj) (fun hb => by simp only [Bool.and_eq_true, beq_iff_eq] at hb; exact ⟨by rw [tyM, if_pos hb.2]; exact hb.1, fun h2 => by rw [ht.zs]; exact h2⟩)
 refine ⟨_, _, .pointer (some ⟨w.heap.size, 0, none⟩), .inl ?_, hK, hF, ?_⟩
 ·simp [Instr.alloc, ht.run_zero w, newVar, newRow]
 ·have := CR.ptr (G := x.Gd (upd ρ d w.heap.size) (upd σ d (.live ⟨false, t == tyB && i.size == 2, i.size, [i.zero]⟩))) (ρ := upd ρ d w.heap.size) (σ := upd σ d (.live ⟨false, t == tyB && i.size == 2, i.size, [i.zero]⟩)) (w := w.alloc (.cells z.cells t)) (k := d) (sz := i.size) (i := 0) (j := 0) (f := 0)
   (upd_same _ _ _) rfl rfl (Nat.ne_of_gt hp) (by simp)
  rwa [upd_same] at this

theorem box_sound (h : Frm x ρ σ w) {t : TypeId} {c : C} {v : Value} {cs : List C} {d : Nat} (hc : cellsC c = some cs) (hr : CR (x.Gd ρ σ) ρ σ w c v) (hd : isFree σ d = true) (hp : 0 < cs.length) :
  EffOk P x ρ σ w ((do pure (.value (← Instr.box t v)) : Sem Next).run P w) (some d) (.ptr d cs.length 0 0) (upd σ d (.live ⟨false, false, cs.length, [cs]⟩)) := by
 have hz := cellsC_sound hc hr
 obtain ⟨hK, hF⟩ := h.new (w' := w.alloc (.cells v.cells t)) (ob := ⟨false, false, cs.length, [cs]⟩) (cs := v.cells) (el := t) (kill := none) (isFree_iff hd) (by simp)
  (fun b hb => alloc_old w _ hb) (by simp) (alloc_new w _) rfl rfl rfl rfl hp (by simp [hz.1.1]) (fun q row hq => by
   cases q with
   | succ q => simp at hq
   | zero =>
    simp at hq; subst hq
    refine ⟨rfl, fun j c hj => ⟨?_, (hz.2 j c hj).1⟩⟩
    simpa using hz.1.2 j c hj)
 refine ⟨_, _, .pointer (some ⟨w.heap.size, 0, none⟩), .inl ?_, hK, hF, ?_⟩
 ·simp [Instr.box, newVar, newRow]
 ·have := CR.ptr (G := x.Gd (upd ρ d w.heap.size) (upd σ d (.live ⟨false, false, cs.length, [cs]⟩))) (ρ := upd ρ d w.heap.size) (σ := upd σ d (.live ⟨false, false, cs.length, [cs]⟩)) (w := w.alloc (.cells v.cells t)) (k := d) (sz := cs.length) (i := 0) (j := 0) (f := 0)
   (upd_same _ _ _) rfl rfl (Nat.ne_of_gt hp) (by simp)
  rwa [upd_same] at this

theorem CR.ownNew {G : Nat → Prop} {ρ : Nat → Nat} {σ : Nat → Slot} {w : World} {d b sz n cap : Nat} {em : Bool} {rows : List (List C)} {cs : Array Value} {el : TypeId} {fz : Nat × Nat} (hz : sz ≠ 0) (hb : w.heap[b]? = some (.cells cs el fz)) (hc : n ≤ cap) (hcap : cap * sz ≤ cs.size) :
  CR G (upd ρ d b) (upd σ d (.live ⟨false, em, sz, rows⟩)) w (.own d sz 0 n) (.slice (some ⟨b, 0, none⟩) n cap) := by
 have := CR.own (G := G) (ρ := upd ρ d b) (σ := upd σ d (.live ⟨false, em, sz, rows⟩)) (w := w) (k := d) (sz := sz) (lo := 0) (n := n) (cap := cap) (f := 0) (m := n)
  (upd_same _ _ _) rfl rfl hz hc (by simp) rfl (fun cs' el' fz' h => by
   rw [upd_same, hb] at h
   cases h
   simpa using hcap)
 rwa [upd_same] at this

theorem make_sound (h : Frm x ρ σ w) {t e : TypeId} {i : TI} {d : Nat} {k1 k2 : IntKind} {n m : Int} (hk : (tyOf P t).map TI.kind = some (.slice e)) (hi : tyOf P e = some i) (hd : isFree σ d = true) (hp : 0 < i.size)
  (h0 : 0 ≤ n) (hnm : n ≤ m) (hb : (i.bytes : Int) * m ≤ 281474976710656) (h63 : m ≤ 9223372036854775807) :
  EffOk P x ρ σ w ((do pure (.value (← Instr.makeSlice t (.int k1 n) (.int k2 m))) : Sem Next).run P w) (some d) (.own d i.size 0 n.toNat) (upd σ d (.live ⟨false, false, i.size, List.replicate n.toNat i.zero⟩)) := by
 obtain ⟨i1, inf1, d1, z1, ht1, hd1⟩ := tyOf_kind hk
 cases d1 <;> simp [kindOf] at hd1
 rename_i e'
 subst hd1
 obtain ⟨inf, dd, z, ht⟩ := tyOf_ok hi
 have hz := zero_CO (G := x.Gd ρ σ) (ρ := ρ) (σ := σ) (w := w) ht
 have hzl : i.zero.length = i.size := by rw [ht.zc]; simp [ht.zs]
 have hrun := run_make (P := P) w t _ inf z ht1.und ht.info ht.zero k1 k2 n m h0 hnm (by rw [ht.bytes]; exact hb) h63
 rw [ht.size] at hrun
 have hle : n.toNat ≤ m.toNat := by omega
 have hrows : n.toNat * i.size ≤ m.toNat * i.size := Nat.mul_le_mul_right _ hle
 obtain ⟨hK, hF⟩ := h.new (w' := w.alloc (.cells (madeCells z.cells (m.toNat * i.size)) e')) (ob := ⟨false, false, i.size, List.replicate n.toNat i.zero⟩) (cs := madeCells z.cells (m.toNat * i.size)) (el := e') (kill := none) (isFree_iff hd) (by simp)
  (fun b hb => alloc_old w _ hb) (by simp) (alloc_new w _) rfl rfl rfl rfl hp (by simp [size_madeCells]; exact hrows) (fun q row hq => by
   have hq1 := (List.getElem?_eq_some_iff.1 hq).1
   simp only [List.length_replicate] at hq1
   rw [List.getElem?_replicate, if_pos hq1] at hq
   cases hq
   refine ⟨hzl, fun j c hj => ⟨?_, (hz.2 j c hj).1⟩⟩
   have hj1 : j < i.size := by have := (List.getElem?_eq_some_iff.1 hj).1; omega
   have hlt : q * i.size + j < m.toNat * i.size := in_rows (by omega) hj1
   have h2 := hz.1.2 j c hj
   simp only [Array.getD_eq_getD_getElem?] at h2 ⊢
   simp only [madeCells, Array.getElem?_map]
   rw [Array.getElem?_eq_getElem (by simpa using hlt)]
   simp only [Array.getElem_range, Option.map_some, Option.getD_some]
   rw [ht.zs, show (q * i.size + j) % i.size = j from by rw [Nat.add_comm, Nat.add_mul_mod_self_right, Nat.mod_eq_of_lt hj1]]
   rw [Array.getElem?_eq_getElem (by rw [ht.zs]; exact hj1)] at h2
   rw [getElem!_pos _ _ (by rw [ht.zs]; exact hj1)]
   exact h2)
 refine ⟨_, _, _, .inl (by simp only [Sem.run_bind, hrun, Result.andThen_ok, Sem.run_pure]), hK, hF, CR.ownNew (Nat.ne_of_gt hp) (alloc_new w _) hle (by simp [size_madeCells])⟩

theorem makeMap_sound (h : Frm x ρ σ w) {t : TypeId} {d : Nat} (hd : isFree σ d = true) :
  EffOk P x ρ σ w ((do pure (.value (← Instr.makeMap t none)) : Sem Next).run P w) (some d) (.mp d) (upd σ d (.live ⟨false, false, 0, []⟩)) := by
 obtain ⟨hK, hF⟩ := h.newMap (w' := w.alloc (.map #[] 0)) (ob := ⟨false, false, 0, []⟩) (es := #[]) (q := 0) (kill := none) (isFree_iff hd) (by simp)
  (fun b hb => alloc_old w _ hb) (by simp) (alloc_new w _) rfl rfl rfl rfl rfl ⟨by simp, by simp⟩ rfl (fun i row hi => by simp at hi)
 refine ⟨_, _, .map (some w.heap.size), .inl (ok_value ?_), hK, hF, ?_⟩
 ·simp [Instr.makeMap]
 ·have := CR.mp (G := x.Gd (upd ρ d w.heap.size) (upd σ d (.live ⟨false, false, 0, []⟩))) (ρ := upd ρ d w.heap.size) (σ := upd σ d (.live ⟨false, false, 0, []⟩)) (w := w.alloc (.map #[] 0)) (k := d) (upd_same _ _ _) rfl rfl
  rwa [upd_same] at this

theorem Born.push {es : Array MapEntry} {clock : Nat} (h : Born es clock) (k v : Value) : Born (es.push { key := k, val := v, born := clock }) (clock + 1) := by
 obtain ⟨rfl, h2⟩ := h
 refine ⟨by simp, fun i e hi => ?_⟩
 by_cases hl : i < es.size
 ·rw [Array.getElem?_push_lt hl] at hi
  exact h2 i e (by rw [Array.getElem?_eq_getElem hl]; exact hi)
 ·have hlt := (Array.getElem?_eq_some_iff.1 hi).1
  simp only [Array.size_push] at hlt
  obtain rfl : i = es.size := by omega
  simp only [Array.getElem?_push_size, Option.some.injEq] at hi
  rw [← hi]

theorem Born.modify' {es : Array MapEntry} {clock : Nat} (h : Born es clock) (i : Nat) (f : MapEntry → MapEntry) (hf : ∀ e, (f e).born = e.born) : Born (es.modify i f) clock := by
 obtain ⟨rfl, h2⟩ := h
 refine ⟨by simp, fun j e hj => ?_⟩
 rw [Array.getElem?_modify] at hj
 split at hj
 ·rename_i hij
  subst hij
  rw [Option.map_eq_some_iff] at hj
  obtain ⟨e', he', rfl⟩ := hj
  rw [hf]
  exact h2 _ _ he'
 ·exact h2 _ _ hj

theorem Born.modify {es : Array MapEntry} {clock : Nat} (h : Born es clock) (i : Nat) (k v : Value) : Born (es.modify i fun e => { e with key := k, val := v }) clock := h.modify' i _ fun _ => rfl

theorem Born.find {es : Array MapEntry} {clock n : Nat} (h : Born es clock) (hn : n < es.size) : es.findIdx? (fun e => (e.born : Int) == (n : Int)) = some n := by
 rw [Array.findIdx?_eq_some_iff_getElem]
 refine ⟨hn, ?_, fun j hj => ?_⟩
 ·have := h.2 n _ (Array.getElem?_eq_getElem hn)
  simp [this]
 ·have := h.2 j _ (Array.getElem?_eq_getElem (by omega))
  simp only [this, beq_iff_eq]
  omega

theorem setIf_other {w : World} {r b : Nat} {o : Obj} (h : b ≠ r) : ({ w with heap := w.heap.setIfInBounds r o } : World).heap[b]? = w.heap[b]? := by
 show (w.heap.setIfInBounds r o)[b]? = _
 rw [Array.getElem?_setIfInBounds_ne (Ne.symm h)]

theorem setIf_same {w : World} {r : Nat} {o : Obj} (h : r < w.heap.size) : ({ w with heap := w.heap.setIfInBounds r o } : World).heap[r]? = some o := by
 show (w.heap.setIfInBounds r o)[r]? = _
 rw [Array.getElem?_setIfInBounds_self_of_lt h]

theorem run_setMap {r : Nat} {es : Array MapEntry} {clock : Nat} (o : Obj) (hb : w.heap[r]? = some (.map es clock)) : (setObj r o).run P w = .ok () { w with heap := w.heap.setIfInBounds r o } := by
 simp [setObj, Sem.run, hb]

theorem upd_sound (h : Frm x ρ σ w) {t : TypeId} {m k v c : C} {σ' : Nat → Slot} {um uk uv : Value} (he : updC P σ t m k v = some (c, σ')) (hm : CR (x.Gd ρ σ) ρ σ w m um) (hk : CR (x.Gd ρ σ) ρ σ w k uk) (hv : CR (x.Gd ρ σ) ρ σ w v uv) :
  EffOk P x ρ σ w ((do Instr.mapUpdate t um uk uv; pure .skip : Sem Next).run P w) none c σ' := by
 unfold updC at he
 split at he
 ·rename_i kt et q hkd
  obtain ⟨i0, inf0, d0, z0, ht0, hd0⟩ := tyOf_kind hkd
  cases d0 <;> simp [kindOf] at hd0
  obtain ⟨rfl, rfl⟩ := hd0
  rename_i kt et
  split at he
  ·rename_i kq o hkq ho
   split at he
   ·rename_i hc
    obtain ⟨hnl, hsz, hfit⟩ := hc
    have hum : um = .map (some (ρ q)) := by
     cases hm with
     | pure p => cases p
     | mpDead hd hv => rw [ho] at hd; cases hd
     | mp => rfl
    subst hum
    obtain ⟨es, clock, g1, gbo, g2, g3⟩ := (h.sto.ob q o ho hnl).ent hsz
    have hER : ER (x.Gd ρ σ) ρ σ w es.toList o.rows := ER.of (by simpa using g2) (by simpa using g3)
    have hlt := (Array.getElem?_eq_some_iff.1 g1).1
    have hck := run_checkQ (P := P) hkq hfit hk false
    have fin : ∀ (es' : Array MapEntry) (clock' : Nat) (rows' : List (List C)), (Instr.mapUpdate t (.map (some (ρ q))) uk uv).run P w = .ok () { w with heap := w.heap.setIfInBounds (ρ q) (.map es' clock') } → Born es' clock' → es'.size = rows'.length →
      (∀ (i : Nat) (row : List C), rows'[i]? = some row → row.length = 2 ∧ ∃ e, es'[i]? = some e ∧ ∀ (j : Nat) (c : C), row[j]? = some c → CR (x.Gd ρ σ) ρ σ w c (if j = 0 then e.key else e.val)) →
      EffOk P x ρ σ w ((do Instr.mapUpdate t (.map (some (ρ q))) uk uv; pure .skip : Sem Next).run P w) none .any (upd σ q (.live { o with rows := rows' })) := by
     intro es' clock' rows' hrun hbo hlen hrows
     obtain ⟨hK, hF⟩ := h.writeMap (w' := { w with heap := w.heap.setIfInBounds (ρ q) (.map es' clock') }) (k := q) (d := q) (o := o) (ob := { o with rows := rows' }) ho hnl (.inl rfl) g1
      (fun b hb => setIf_other hb) (by simp) (setIf_same hlt) rfl rfl rfl hnl rfl rfl hsz hbo hlen hrows
     have hσ : upd (upd σ q .dead) q (.live { o with rows := rows' }) = upd σ q (.live { o with rows := rows' }) := by
      funext i; unfold upd; split <;> rfl
     rw [hσ] at hK hF
     refine ⟨_, _, undef, .inr ⟨?_, rfl, rfl⟩, hK, hF, .any _⟩
     simp only [Sem.run_bind, hrun, Result.andThen_ok, Sem.run_pure]
    split at he
    ·rename_i i vc hf
     simp only [Option.some.injEq, Prod.mk.injEq] at he
     obtain ⟨rfl, rfl⟩ := he
     obtain ⟨r', h1, h2⟩ := findKey_sound (P := P) hkq hk hER hf
     cases h2 with
     | @some _ _ u e hv' hj hee hsb =>
      simp only [Nat.sub_zero, Array.getElem?_toList] at hee
      have hil : i < es.size := (Array.getElem?_eq_some_iff.1 hee).1
      refine fin (es.modify i fun e => { e with key := uk, val := uv }) clock _ ?_ (gbo.modify i uk uv) (by simp [g2]) (fun p row hp => ?_)
      ·unfold Instr.mapUpdate
       rw [Sem.run_bind, ht0.run_und w, Result.andThen_ok]
       simp only [Sem.run_bind, run_getMap g1, Result.andThen_ok, hck, h1, hee, Option.map_some, Option.getD_some]
       have : (Instr.keyThatStays e.key uk).run P w = .ok uk w := by
        unfold Instr.keyThatStays
        rw [if_pos hsb]
        rfl
       simp only [this, Result.andThen_ok, run_setMap _ g1]
      ·by_cases hpi : i = p
       ·subst hpi
        have : i < o.rows.length := by omega
        rw [List.getElem?_set_self this] at hp
        cases hp
        refine ⟨rfl, { e with key := uk, val := uv }, by simp [Array.getElem?_modify, hee], fun j c hj => ?_⟩
        match j, hj with
        | 0, hj => simp at hj; subst hj; exact hk
        | 1, hj => simp at hj; subst hj; exact hv
        | n + 2, hj => simp at hj
       ·rw [List.getElem?_set_ne hpi] at hp
        obtain ⟨a1, e', a2, a3⟩ := g3 p row hp
        exact ⟨a1, e', by simp [Array.getElem?_modify, hpi, a2], a3⟩
    ·rename_i hf
     simp only [Option.some.injEq, Prod.mk.injEq] at he
     obtain ⟨rfl, rfl⟩ := he
     obtain ⟨r', h1, h2⟩ := findKey_sound (P := P) hkq hk hER hf
     cases h2
     refine fin (es.push { key := uk, val := uv, born := clock }) (clock + 1) _ ?_ (gbo.push uk uv) (by simp [g2]) (fun p row hp => ?_)
     ·unfold Instr.mapUpdate
      rw [Sem.run_bind, ht0.run_und w, Result.andThen_ok]
      simp only [Sem.run_bind, run_getMap g1, Result.andThen_ok, hck, h1, run_setMap _ g1]
     ·by_cases hpi : p < o.rows.length
      ·rw [List.getElem?_append_left hpi] at hp
       obtain ⟨a1, e', a2, a3⟩ := g3 p row hp
       exact ⟨a1, e', by rw [Array.getElem?_push_lt (by omega)]; rw [Array.getElem?_eq_getElem (by omega)] at a2; exact a2, a3⟩
      ·rw [List.getElem?_append_right (by omega)] at hp
       have : p = o.rows.length := by
        have := (List.getElem?_eq_some_iff.1 hp).1
        simp at this; omega
       subst this
       simp only [Nat.sub_self, List.getElem?_cons_zero, Option.some.injEq] at hp
       subst hp
       refine ⟨rfl, { key := uk, val := uv, born := clock }, by rw [← g2]; simp, fun j c hj => ?_⟩
       match j, hj with
       | 0, hj => simp at hj; subst hj; exact hk
       | 1, hj => simp at hj; subst hj; exact hv
       | n + 2, hj => simp at hj
    ·simp at he
   ·simp at he
  ·simp at he
 ·simp at he

theorem sameC_eq {ks : List IntKind} {a b : C} (h : sameC (.flat ks) a b = some true) : a = b := by
 cases a <;> cases b <;> simp only [sameC] at h <;> first | (simp at h; done) | skip
 rename_i xs ys
 have hl := eqInts_len h
 congr 1
 apply List.ext_getElem?
 intro i
 by_cases hi : i < xs.length
 ·rw [List.getElem?_eq_getElem hi, List.getElem?_eq_getElem (by omega)]
  obtain ⟨k, a, h1, h2⟩ := eqInts_true h i _ _ (List.getElem?_eq_getElem hi) (List.getElem?_eq_getElem (by omega))
  rw [h1, h2]
 ·rw [List.getElem?_eq_none (by omega), List.getElem?_eq_none (by omega)]

theorem findC_at {ks : List IntKind} {k : C} : ∀ {rows : List (List C)} {i j : Nat} {v : C}, findC (.flat ks) k rows i = some (some (j, v)) → ∃ n, j = i + n ∧ rows[n]? = some [k, v]
 | [], i, j, v, h => by simp [findC] at h
 | row :: rows, i, j, v, h => by
  unfold findC at h
  split at h
  ·rename_i e u
   split at h
   ·rename_i hs
    simp only [Option.some.injEq, Prod.mk.injEq] at h
    obtain ⟨rfl, rfl⟩ := h
    exact ⟨0, rfl, by rw [sameC_eq hs]; rfl⟩
   ·obtain ⟨n, h1, h2⟩ := findC_at h
    exact ⟨n + 1, by omega, by simpa using h2⟩
   ·simp at h
  ·simp at h

theorem ent_sound (h : Frm x ρ σ w) {t : TypeId} {m k c : C} {σ' : Nat → Slot} {d : Option Nat} {um uk : Value} (he : entC P σ t m k = some (c, σ')) (hm : CR (x.Gd ρ σ) ρ σ w m um) (hk : CR (x.Gd ρ σ) ρ σ w k uk) :
  EffOk P x ρ σ w ((do pure (.value (← Instr.mapEntry t um uk)) : Sem Next).run P w) d c σ' := by
 unfold entC at he
 split at he
 ·rename_i kt et q hkd
  obtain ⟨i0, inf0, d0, z0, ht0, hd0⟩ := tyOf_kind hkd
  cases d0 <;> simp [kindOf] at hd0
  obtain ⟨rfl, rfl⟩ := hd0
  rename_i kt et
  split at he
  ·rename_i ks o ie hkq ho hie
   split at he
   ·rename_i hc
    obtain ⟨hnl, hsz, hfit⟩ := hc
    have hum : um = .map (some (ρ q)) := by
     cases hm with
     | pure p => cases p
     | mpDead hd hv => rw [ho] at hd; cases hd
     | mp => rfl
    subst hum
    obtain ⟨es, clock, g1, gbo, g2, g3⟩ := (h.sto.ob q o ho hnl).ent hsz
    have hER : ER (x.Gd ρ σ) ρ σ w es.toList o.rows := ER.of (by simpa using g2) (by simpa using g3)
    have hlt := (Array.getElem?_eq_some_iff.1 g1).1
    have hck := run_checkQ (P := P) hkq hfit hk false
    have fin : ∀ (es' : Array MapEntry) (clock' : Nat) (rows' : List (List C)) (c' : C) (v' : Value), (Instr.mapEntry t (.map (some (ρ q))) uk).run P w = .ok v' { w with heap := w.heap.setIfInBounds (ρ q) (.map es' clock') } → Born es' clock' → es'.size = rows'.length →
      (∀ (i : Nat) (row : List C), rows'[i]? = some row → row.length = 2 ∧ ∃ e, es'[i]? = some e ∧ ∀ (j : Nat) (c : C), row[j]? = some c → CR (x.Gd ρ σ) ρ σ w c (if j = 0 then e.key else e.val)) →
      CR (x.Gd ρ σ) ρ σ w c' v' →
      EffOk P x ρ σ w ((do pure (.value (← Instr.mapEntry t (.map (some (ρ q))) uk)) : Sem Next).run P w) d c' (upd σ q (.live { o with rows := rows' })) := by
     intro es' clock' rows' c' v' hrun hbo hlen hrows hcv
     obtain ⟨hK, hF⟩ := h.writeMap (w' := { w with heap := w.heap.setIfInBounds (ρ q) (.map es' clock') }) (k := q) (d := q) (o := o) (ob := { o with rows := rows' }) ho hnl (.inl rfl) g1
      (fun b hb => setIf_other hb) (by simp) (setIf_same hlt) rfl rfl rfl hnl rfl rfl hsz hbo hlen hrows
     have hσ : upd (upd σ q .dead) q (.live { o with rows := rows' }) = upd σ q (.live { o with rows := rows' }) := by
      funext i; unfold upd; split <;> rfl
     rw [hσ] at hK hF
     exact ⟨_, _, _, .inl (ok_value hrun), hK, hF, hcv.keeps hK⟩
    have two : ∀ {a : C} {p : Value} {n : Nat}, CR (x.Gd ρ σ) ρ σ w a p → CR (x.Gd ρ σ) ρ σ w (.tup [a, .int .i64 n]) (.tuple #[p, goInt n]) := by
     intro a p n hp
     refine .tup rfl fun i c hi => ?_
     match i, hi with
     | 0, hi => simp at hi; subst hi; exact hp
     | 1, hi => simp at hi; subst hi; exact .pure (.int _ _)
     | n + 2, hi => simp at hi
    split at he
    ·rename_i i vc hf
     simp only [Option.some.injEq, Prod.mk.injEq] at he
     obtain ⟨rfl, rfl⟩ := he
     obtain ⟨n, hn, hrow⟩ := findC_at hf
     obtain rfl : i = n := by omega
     obtain ⟨r', h1, h2⟩ := findKey_sound (P := P) hkq hk hER hf
     cases h2 with
     | @some _ _ u e hv' hj hee hsb =>
      simp only [Nat.sub_zero, Array.getElem?_toList] at hee
      have hil : i < es.size := (Array.getElem?_eq_some_iff.1 hee).1
      have hbi := gbo.2 i e hee
      have hsame : upd σ q (.live { o with rows := o.rows }) = σ := by
       funext z
       unfold upd
       split
       ·rename_i hz; subst hz; rw [ho]
       ·rfl
      have fin2 := fin (es.modify i fun e => { e with key := uk }) clock o.rows (.tup [vc, .int .i64 i]) (.tuple #[u, goInt i]) ?_ (gbo.modify' i _ fun _ => rfl) (by simp [g2]) (fun p row hp => ?_) (two hv')
      ·rw [hsame] at fin2
       exact fin2
      ·unfold Instr.mapEntry
       rw [Sem.run_bind, ht0.run_und w, Result.andThen_ok]
       simp only [Sem.run_bind, run_getMap g1, Result.andThen_ok, hck, h1, hee, Option.map_some, Option.getD_some]
       have : (Instr.keyThatStays e.key uk).run P w = .ok uk w := by
        unfold Instr.keyThatStays
        rw [if_pos hsb]
        rfl
       simp only [this, Result.andThen_ok, run_setMap _ g1, Sem.run_pure, hbi]
      ·obtain ⟨a1, e', a2, a3⟩ := g3 p row hp
       by_cases hpi : i = p
       ·subst hpi
        rw [hrow] at hp
        cases hp
        rw [hee] at a2
        cases a2
        refine ⟨rfl, { e with key := uk }, by simp [Array.getElem?_modify, hee], fun j c hj => ?_⟩
        match j, hj with
        | 0, hj => simp at hj; subst hj; exact hk
        | 1, hj => exact a3 1 c hj
        | n + 2, hj => simp at hj
       ·exact ⟨a1, e', by simp [Array.getElem?_modify, hpi, a2], a3⟩
    ·rename_i hf
     simp only [Option.map_eq_some_iff, Prod.mk.injEq] at he
     obtain ⟨z, hz, rfl, rfl⟩ := he
     obtain ⟨inf, dd, zv, ht⟩ := tyOf_ok hie
     have hzc := zeroC_sound (G := x.Gd ρ σ) (ρ := ρ) (σ := σ) (w := w) ht hz
     obtain ⟨r', h1, h2⟩ := findKey_sound (P := P) hkq hk hER hf
     cases h2
     have hcl := gbo.1
     refine fin (es.push { key := uk, val := zv, born := clock }) (clock + 1) _ _ (.tuple #[zv, goInt clock]) ?_ (gbo.push uk zv) (by simp [g2]) (fun p row hp => ?_) (by rw [hcl, g2]; exact two hzc)
     ·unfold Instr.mapEntry
      rw [Sem.run_bind, ht0.run_und w, Result.andThen_ok]
      simp only [Sem.run_bind, run_getMap g1, Result.andThen_ok, hck, h1, ht.run_zero w, run_setMap _ g1, Sem.run_pure]
     ·by_cases hpi : p < o.rows.length
      ·rw [List.getElem?_append_left hpi] at hp
       obtain ⟨a1, e', a2, a3⟩ := g3 p row hp
       exact ⟨a1, e', by rw [Array.getElem?_push_lt (by omega)]; rw [Array.getElem?_eq_getElem (by omega)] at a2; exact a2, a3⟩
      ·rw [List.getElem?_append_right (by omega)] at hp
       have : p = o.rows.length := by
        have := (List.getElem?_eq_some_iff.1 hp).1
        simp at this; omega
       subst this
       simp only [Nat.sub_self, List.getElem?_cons_zero, Option.some.injEq] at hp
       subst hp
       refine ⟨rfl, { key := uk, val := zv, born := clock }, by rw [← g2]; simp, fun j c hj => ?_⟩
       match j, hj with
       | 0, hj => simp at hj; subst hj; exact hk
       | 1, hj => simp at hj; subst hj; exact hzc
       | n + 2, hj => simp at hj
    ·simp at he
   ·simp at he
  ·simp at he
 ·simp at he

theorem put_sound (h : Frm x ρ σ w) {t : TypeId} {m s y c : C} {σ' : Nat → Slot} {um us uy : Value} (he : putC σ m s y = some (c, σ')) (hm : CR (x.Gd ρ σ) ρ σ w m um) (hs : CR (x.Gd ρ σ) ρ σ w s us) (hy : CR (x.Gd ρ σ) ρ σ w y uy) :
  EffOk P x ρ σ w ((do Instr.entryStore t um us uy; pure .skip : Sem Next).run P w) none c σ' := by
 unfold putC at he
 split at he
 ·rename_i q kk n
  split at he
  ·rename_i o ho
   split at he
   ·rename_i hc
    obtain ⟨hnl, hsz, hn0⟩ := hc
    split at he
    ·rename_i k old hrow
     simp only [Option.some.injEq, Prod.mk.injEq] at he
     obtain ⟨rfl, rfl⟩ := he
     have hum : um = .map (some (ρ q)) := by
      cases hm with
      | pure p => cases p
      | mpDead hd hv => rw [ho] at hd; cases hd
      | mp => rfl
     subst hum
     obtain rfl := hs.intOf
     obtain ⟨es, clock, g1, gbo, g2, g3⟩ := (h.sto.ob q o ho hnl).ent hsz
     have hlt := (Array.getElem?_eq_some_iff.1 g1).1
     obtain ⟨N, rfl⟩ : ∃ N : Nat, n = N := ⟨n.toNat, by omega⟩
     simp only [Int.toNat_natCast] at hrow ⊢
     have hN : N < o.rows.length := (List.getElem?_eq_some_iff.1 hrow).1
     have hfind := gbo.find (n := N) (by omega)
     have hrun : (Instr.entryStore t (.map (some (ρ q))) (.int kk N) uy).run P w = .ok () { w with heap := w.heap.setIfInBounds (ρ q) (.map (es.modify N fun e => { e with val := uy }) clock) } := by
      unfold Instr.entryStore
      simp only [Sem.run_bind, run_getMap g1, Result.andThen_ok, asInt, asIntOf, Sem.run_pure, hfind, run_setMap _ g1]
     obtain ⟨hK, hF⟩ := h.writeMap (w' := { w with heap := w.heap.setIfInBounds (ρ q) (.map (es.modify N fun e => { e with val := uy }) clock) }) (k := q) (d := q) (o := o) (ob := { o with rows := o.rows.set N [k, y] }) ho hnl (.inl rfl) g1
      (fun b hb => setIf_other hb) (by simp) (setIf_same hlt) rfl rfl rfl hnl rfl rfl hsz (gbo.modify' N _ fun _ => rfl) (by simp [g2]) (fun p row hp => by
       dsimp only at hp
       by_cases hpi : N = p
       ·subst hpi
        rw [List.getElem?_set_self hN] at hp
        cases hp
        obtain ⟨a1, e', a2, a3⟩ := g3 N _ hrow
        refine ⟨rfl, { e' with val := uy }, by simp [Array.getElem?_modify, a2], fun j c hj => ?_⟩
        match j, hj with
        | 0, hj => simp at hj; subst hj; exact a3 0 _ rfl
        | 1, hj => simp at hj; subst hj; exact hy
        | n + 2, hj => simp at hj
       ·rw [List.getElem?_set_ne hpi] at hp
        obtain ⟨a1, e', a2, a3⟩ := g3 p row hp
        exact ⟨a1, e', by simp [Array.getElem?_modify, hpi, a2], a3⟩)
     have hσ : upd (upd σ q .dead) q (.live { o with rows := o.rows.set N [k, y] }) = upd σ q (.live { o with rows := o.rows.set N [k, y] }) := by
      funext i; unfold upd; split <;> rfl
     rw [hσ] at hK hF
     refine ⟨_, _, undef, .inr ⟨?_, rfl, rfl⟩, hK, hF, .any _⟩
     simp only [Sem.run_bind, hrun, Result.andThen_ok, Sem.run_pure]
    ·simp at he
   ·simp at he
  ·simp at he
 ·simp at he

end
end Go.Abs

/- Slices' literals, stores and append: what they do to the abstract store, and that the model's run does what this stands for. No condition. -/
namespace Go.Abs
section
variable {P : Program} {x : Ctx} {ρ : Nat → Nat} {σ : Nat → Slot} {w : World}

theorem run_buildSlice {G : Nat → Prop} {t e : TypeId} {i : TI} {n : Nat} {parts : Array (Nat × Operand)} {evC : Operand → C} {evV : Operand → Value} {cs : List C}
  (hk : (tyOf P t).map TI.kind = some (.slice e)) (hi : tyOf P e = some i) (hp : 0 < i.size) (hn : n * i.size ≤ 1048576)
  (hf : fillC (fun q => some (q * i.size, i.size)) (zrep n i.zero) (parts.toList.map fun p => (p.1, evC p.2)) = some cs)
  (hr : ∀ p ∈ parts.toList, CR G ρ σ w (evC p.2) (evV p.2)) :
  ∃ e' vs, (Instr.buildSlice t n (parts.map fun p => (p.1, evV p.2))).run P w = .ok (.slice (some ⟨w.heap.size, 0, none⟩) n n) (w.alloc (.cells vs e')) ∧ CO G ρ σ w cs vs ∧ vs.size = n * i.size := by
 obtain ⟨i1, inf1, d1, z1, ht1, hd1⟩ := tyOf_kind hk
 cases d1 <;> simp [kindOf] at hd1
 rename_i e'
 subst hd1
 obtain ⟨inf, dd, z, ht⟩ := tyOf_ok hi
 have hz := zero_CO (G := G) (ρ := ρ) (σ := σ) (w := w) ht
 have hzl : i.zero.length = i.size := by rw [ht.zc]; simp [ht.zs]
 let zz : Array Value := (Array.range (n * i.size)).map (z.cells[· % z.cells.size]!)
 have hzz : CO G ρ σ w (zrep n i.zero) zz := by
  have hlen : (zrep n i.zero).length = n * i.size := by rw [zrep_length, hzl]
  have key : ∀ (q : Nat) (c : C), (zrep n i.zero)[q]? = some c → CR G ρ σ w c (zz.getD q undef) ∧ c.cell = true ∧ oneCell (zz.getD q undef) = true := by
   intro q c hq
   have hlt := (List.getElem?_eq_some_iff.1 hq).1
   rw [hlen] at hlt
   have hmod : q % i.size < i.size := Nat.mod_lt _ hp
   rw [zrep_get _ _ _ (by rw [hzl]; exact hlt), hzl] at hq
   have h1 := hz.1.2 _ c hq
   have h2 := hz.2 _ c hq
   have e1 : zz.getD q undef = z.cells.getD (q % i.size) undef := by
    simp only [Array.getD_eq_getD_getElem?, zz, Array.getElem?_map]
    rw [Array.getElem?_eq_getElem (by simpa using hlt)]
    simp only [Array.getElem_range, Option.map_some, Option.getD_some, ht.zs]
    rw [getElem!_pos _ _ (by rw [ht.zs]; exact hmod), Array.getElem?_eq_getElem (by rw [ht.zs]; exact hmod), Option.getD_some]
   rw [e1]
   exact ⟨h1, h2⟩
  exact ⟨⟨by simp [zz, hlen], fun q c hq => (key q c hq).1⟩, fun q c hq => (key q c hq).2⟩
 obtain ⟨vs, e1, e2, e3⟩ := fill_sound (w := w) (evV := evV) parts.toList _ zz cs hr hzz hf
 have hvs : vs.size = n * i.size := by rw [e3]; simp [zz]
 refine ⟨e', vs, ?_, e2, hvs⟩
 simp only [Instr.buildSlice, Sem.run_bind, ht1.run_und w, Result.andThen_ok, ht.run_size w]
 rw [if_neg (by omega)]
 simp only [Array.toList_map]
 by_cases hn0 : n * i.size = 0
 ·have hzz0 : (Array.range 0).map ((#[] : Array Value)[· % (#[] : Array Value).size]!) = zz := by simp [zz, hn0]
  simp only [hn0, if_true, Sem.run_pure, Result.andThen_ok, Sem.run_bind]
  rw [hzz0, e1]
  simp [newRow]
 ·simp only [hn0, if_false, Sem.run_pure, Result.andThen_ok, Sem.run_bind, ht.run_zero w]
  rw [show (Array.range (n * i.size)).map (z.cells[· % z.cells.size]!) = zz from rfl, e1]
  simp [newRow]

theorem buildSlice_sound (h : Frm x ρ σ w) {t e : TypeId} {i : TI} {d n : Nat} {parts : Array (Nat × Operand)} {evC : Operand → C} {evV : Operand → Value} {cs : List C}
  (hk : (tyOf P t).map TI.kind = some (.slice e)) (hi : tyOf P e = some i) (hd : isFree σ d = true) (hp : 0 < i.size) (hn : n * i.size ≤ 1048576)
  (hf : fillC (fun q => some (q * i.size, i.size)) (zrep n i.zero) (parts.toList.map fun p => (p.1, evC p.2)) = some cs)
  (hr : ∀ p ∈ parts.toList, CR (x.Gd ρ σ) ρ σ w (evC p.2) (evV p.2)) :
  EffOk P x ρ σ w ((do pure (.value (← Instr.buildSlice t n (parts.map fun p => (p.1, evV p.2)))) : Sem Next).run P w) (some d) (.own d i.size 0 n) (upd σ d (.live ⟨false, false, i.size, chunk i.size n cs⟩)) := by
 obtain ⟨e', vs, hrun, e2, hvs⟩ := run_buildSlice (evV := evV) hk hi hp hn hf hr
 have hcl : cs.length = n * i.size := by rw [← e2.1.1, hvs]
 obtain ⟨hK, hF⟩ := h.new (w' := w.alloc (.cells vs e')) (ob := ⟨false, false, i.size, chunk i.size n cs⟩) (cs := vs) (el := e') (kill := none) (isFree_iff hd) (by simp)
  (fun b hb => alloc_old w _ hb) (by simp) (alloc_new w _) rfl rfl rfl rfl hp (by simp [chunk_length, hvs]) (fun q row hq => by
   rw [chunk_get] at hq
   split at hq
   ·rename_i hqn
    cases hq
    have hle : (q + 1) * i.size ≤ n * i.size := Nat.mul_le_mul_right _ hqn
    rw [Nat.add_mul] at hle
    refine ⟨by simp; omega, fun j c hj => ?_⟩
    have hj1 : j < i.size := by have := (List.getElem?_eq_some_iff.1 hj).1; simp at this; omega
    rw [List.getElem?_take_of_lt hj1, List.getElem?_drop] at hj
    exact ⟨e2.1.2 _ c hj, (e2.2 _ c hj).1⟩
   ·simp at hq)
 refine ⟨_, _, _, .inl ?_, hK, hF, CR.ownNew (Nat.ne_of_gt hp) (alloc_new w _) (Nat.le_refl n) (Nat.le_of_eq hvs.symm)⟩
 simp only [Sem.run_bind, hrun, Result.andThen_ok, Sem.run_pure]

theorem in_rows_lt {q j n sz m : Nat} (h : q < n) (hj : j < sz) (hm : m = n * sz) : q * sz + j < m := by
 have := in_rows h hj; omega

theorem Frm.alloc (h : Frm x ρ σ w) (o : Obj) : Keeps (x.Gd ρ σ) (x.Gd ρ σ) ρ ρ σ σ w (w.alloc o) ∧ Frm x ρ σ (w.alloc o) := by
 have hK : Keeps (x.Gd ρ σ) (x.Gd ρ σ) ρ ρ σ σ w (w.alloc o) := by
  refine .of (fun D hD => (alloc_old w o (Array.getElem?_eq_some_iff.1 hD).1).trans hD) ⟨fun b hb hlt => ⟨hb, Nat.lt_of_lt_of_le hlt (by simp), .inl (alloc_old w o hlt)⟩, fun k hk => hk, fun k o' hk => .inr ⟨o', hk, rfl, rfl, rfl, fun hn => ⟨rfl, fun cs el fz hc => ?_⟩⟩⟩
  rw [alloc_old w o (h.sto.ob k o' hk hn).lt] at hc
  exact ⟨_, _, _, hc, Nat.le_refl _⟩
 refine ⟨hK, ⟨⟨fun k o' hk hn => (h.sto.ob k o' hk hn).keeps hK.toKeeps0 (alloc_old w o (h.sto.ob k o' hk hn).lt), h.sto.nil, h.sto.inj⟩, h.own, fun b hb hnb hex => ?_, h.rcd.keep hK.toKeeps0 (fun _ hk => hk) fun b r _ hb => (alloc_old w o (Array.getElem?_eq_some_iff.1 hb).1).trans hb, Nat.le_trans h.size (by simp), h.os, h.tape, h.output, h.hist.trans hK.toKeeps0⟩⟩
 rw [alloc_old w o (by have := h.size; omega)]
 exact h.frame b hb hnb hex

theorem buildSlice_pure (h : Frm x ρ σ w) {t e : TypeId} {i : TI} {d : Option Nat} {n : Nat} {parts : Array (Nat × Operand)} {evC : Operand → C} {evV : Operand → Value} {cs : List C}
  (hk : (tyOf P t).map TI.kind = some (.slice e)) (hi : tyOf P e = some i) (hp : 0 < i.size) (hn : n * i.size ≤ 1048576)
  (hf : fillC (fun q => some (q * i.size, i.size)) (zrep n i.zero) (parts.toList.map fun p => (p.1, evC p.2)) = some cs) (hpure : purel cs = true)
  (hr : ∀ p ∈ parts.toList, CR (x.Gd ρ σ) ρ σ w (evC p.2) (evV p.2)) :
  EffOk P x ρ σ w ((do pure (.value (← Instr.buildSlice t n (parts.map fun p => (p.1, evV p.2)))) : Sem Next).run P w) d (.sl false true (chunk i.size n cs)) σ := by
 obtain ⟨e', vs, hrun, e2, hvs⟩ := run_buildSlice (evV := evV) hk hi hp hn hf hr
 have hcl : cs.length = n * i.size := by rw [← e2.1.1, hvs]
 obtain ⟨hK, hF⟩ := h.alloc (.cells vs e')
 have hgd : x.Gd ρ σ w.heap.size := ⟨.inr (.inr h.size), by
  rintro ⟨k, o, h1, h2, h3⟩
  have := (h.sto.ob k o h1 h2).lt
  omega⟩
 refine ⟨_, _, _, .inl (ok_value hrun), hK, hF, .pure ?_⟩
 have hrow : ∀ (q : Nat) (row : List C), (chunk i.size n cs)[q]? = some row → q < n ∧ row = (cs.drop (q * i.size)).take i.size := by
  intro q row hq
  rw [chunk_get] at hq
  split at hq
  ·cases hq; exact ⟨‹_›, rfl⟩
  ·simp at hq
 have hcell : ∀ (q : Nat) (row : List C), (chunk i.size n cs)[q]? = some row → ∀ (j : Nat) (c : C), row[j]? = some c → j < i.size ∧ cs[q * i.size + j]? = some c := by
  intro q row hq j c hj
  obtain ⟨g1, rfl⟩ := hrow q row hq
  have hj1 : j < i.size := by have := (List.getElem?_eq_some_iff.1 hj).1; simp at this; omega
  rw [List.getElem?_take_of_lt hj1, List.getElem?_drop] at hj
  exact ⟨hj1, hj⟩
 refine .sl (sz := i.size) (fun q j => vs.getD (q * i.size + j) undef) hgd (by simp) (by rw [chunk_length]) (fun _ => by rw [chunk_length]) (by rw [chunk_length]; exact Nat.le_refl _) ?_ ?_ ?_ ?_
 ·intro q row hq
  obtain ⟨g1, rfl⟩ := hrow q row hq
  have hle : (q + 1) * i.size ≤ n * i.size := Nat.mul_le_mul_right _ g1
  rw [Nat.add_mul] at hle
  simp; omega
 ·intro q row hq j c hj
  obtain ⟨g1, g2⟩ := hcell q row hq j c hj
  have hlt : q * i.size + j < vs.size := in_rows_lt (hrow q row hq).1 g1 hvs
  simp only [World.cell?, alloc_new]
  simp [hlt]
 ·intro q row hq j c hj
  exact (e2.2 _ c (hcell q row hq j c hj).2).1
 ·intro q row hq j c hj
  have hg := (hcell q row hq j c hj).2
  exact ((e2.1.2 _ c hg).isPure (purel_get hpure hg)).mono fun b hb hlt => ⟨hb, Nat.lt_of_lt_of_le hlt (by simp), alloc_old w _ hlt⟩

theorem oneCell_eq (v : Value) : v.oneCell' = oneCell v := by cases v <;> rfl

theorem store_sound (h : Frm x ρ σ w) {t : TypeId} {i : TI} {k sz r j : Nat} {o : Ob} {row cs : List C} {c : C} {av v : Value}
  (hi : tyOf P t = some i) (hc : cellsC c = some cs) (hr : CR (x.Gd ρ σ) ρ σ w c v) (ha : CR (x.Gd ρ σ) ρ σ w (.ptr k sz r j) av) (hk : σ k = .live o) (hrow : o.rows[r]? = some row)
  (hnl : o.nl = false) (hsz : o.sz = sz) (hcs : cs.length = i.size) (hj : j + cs.length ≤ row.length) :
  EffOk P x ρ σ w ((do Instr.storeAt t av v; pure .skip : Sem Next).run P w) none .any (upd σ k (.live { o with rows := o.rows.set r (row.take j ++ cs ++ row.drop (j + cs.length)) })) := by
 subst hsz
 obtain ⟨inf, dd, z, ht⟩ := tyOf_ok hi
 have hz := cellsC_sound hc hr
 obtain ⟨o', ho', _, _, rfl⟩ := ha.ptrOf (by simp [isLive, hk])
 have hob := h.sto.ob k o hk hnl
 obtain ⟨⟨cur, el, hcur, hlen, hcell⟩, hpos⟩ := hob.cs (ha.ptrZ hk)
 obtain ⟨hrl, hrc⟩ := hcell r row hrow
 have hrlt : r < o.rows.length := (List.getElem?_eq_some_iff.1 hrow).1
 have hbase : (r + 1) * o.sz ≤ o.rows.length * o.sz := Nat.mul_le_mul_right _ hrlt
 rw [Nat.add_mul] at hbase
 have hvl : v.cells.toList.length = cs.length := by simpa using hz.1.1
 have hfit : r * o.sz + j + v.cells.toList.length ≤ cur.size := by rw [hvl]; omega
 have hone : ∀ u ∈ v.cells.toList, u.oneCell' = true := by
  intro u hu
  rw [oneCell_eq]
  obtain ⟨q, hq⟩ := List.getElem?_of_mem hu
  have hqlt : q < cs.length := by have := (List.getElem?_eq_some_iff.1 hq).1; omega
  have := (hz.2 q _ (List.getElem?_eq_getElem hqlt)).2
  simp only [Array.getD_eq_getD_getElem?, ← Array.getElem?_toList, hq, Option.getD_some] at this
  exact this
 have hst := run_storeCells_at P (ρ k) (r * o.sz + j) el v.cells.toList 0 cur w hcur (by simpa using hfit) hone
 simp only [Nat.add_zero] at hst
 have hrun : (Instr.storeAt t (.pointer (some ⟨ρ k, r * o.sz + j, none⟩)) v).run P w = .ok () (w.setRow (ρ k) (cur.toList.take (r * o.sz + j) ++ v.cells.toList ++ cur.toList.drop (r * o.sz + j + v.cells.toList.length)).toArray) := by
  simp only [Instr.storeAt, Instr.sureAddr, storeVar, Sem.run_bind, Sem.run_pure, Result.andThen_ok, ht.run_size w]
  rw [if_neg (by rw [hz.1.1, hcs]; simp)]
  exact hst
 obtain ⟨hK, hF⟩ := h.write (w' := w.setRow (ρ k) (cur.toList.take (r * o.sz + j) ++ v.cells.toList ++ cur.toList.drop (r * o.sz + j + v.cells.toList.length)).toArray)
  (k := k) (d := k) (o := o) (ob := { o with rows := o.rows.set r (row.take j ++ cs ++ row.drop (j + cs.length)) }) hk hnl (.inl rfl) hcur
  (fun b hb => setRow_other w _ b _ hb) (by simp [World.setRow]) (setRow_heap w _ cur _ el _ hcur) (over_size hfit) rfl rfl rfl hnl rfl rfl (by simpa using hlen) (fun q row' hq => by
   simp only [List.getElem?_set] at hq
   have hrowlen : (row.take j ++ cs ++ row.drop (j + cs.length)).length = o.sz := by simp; omega
   by_cases hqr : r = q
   ·subst hqr
    rw [if_pos rfl, if_pos hrlt] at hq
    cases hq
    refine ⟨hrowlen, fun p c' hp' => ?_⟩
    dsimp only
    have hplt : p < o.sz := by have := (List.getElem?_eq_some_iff.1 hp').1; omega
    rw [over_get hfit]
    by_cases h1 : p < j
    ·rw [if_neg (by omega)]
     rw [List.append_assoc, List.getElem?_append_left (by simp; omega), List.getElem?_take_of_lt h1] at hp'
     exact hrc p c' hp'
    ·by_cases h2 : p < j + cs.length
     ·rw [if_pos (by rw [hvl]; omega)]
      rw [List.append_assoc, List.getElem?_append_right (by simp; omega), List.getElem?_append_left (by simp; omega)] at hp'
      rw [show p - (row.take j).length = p - j from by simp; omega] at hp'
      have g1 := hz.1.2 _ c' hp'
      have g2 := hz.2 _ c' hp'
      simp only [Array.getD_eq_getD_getElem?, ← Array.getElem?_toList] at g1
      rw [List.getD_eq_getElem?_getD, show r * o.sz + p - (r * o.sz + j) = p - j from by omega]
      exact ⟨g1, g2.1⟩
     ·rw [if_neg (by rw [hvl]; omega)]
      rw [List.getElem?_append_right (by simp; omega)] at hp'
      simp only [List.getElem?_drop, List.length_append, List.length_take] at hp'
      rw [show j + cs.length + (p - (min j row.length + cs.length)) = p from by omega] at hp'
      exact hrc p c' hp'
   ·rw [if_neg hqr] at hq
    obtain ⟨h4, h5⟩ := hcell q row' hq
    refine ⟨h4, fun p c' hp' => ?_⟩
    dsimp only
    have hplt : p < o.sz := by have := (List.getElem?_eq_some_iff.1 hp').1; omega
    rw [over_get hfit, if_neg]
    ·exact h5 p c' hp'
    ·rw [hvl]
     rintro ⟨g1, g2⟩
     rcases Nat.lt_or_gt_of_ne hqr with g | g
     ·have : (r + 1) * o.sz ≤ q * o.sz := Nat.mul_le_mul_right _ g
      rw [Nat.add_mul] at this; omega
     ·have : (q + 1) * o.sz ≤ r * o.sz := Nat.mul_le_mul_right _ g
      rw [Nat.add_mul] at this; omega)
 have hσ : upd (upd σ k .dead) k (.live { o with rows := o.rows.set r (row.take j ++ cs ++ row.drop (j + cs.length)) }) = upd σ k (.live { o with rows := o.rows.set r (row.take j ++ cs ++ row.drop (j + cs.length)) }) := by
  funext q; unfold upd; split <;> rfl
 rw [hσ] at hK hF
 exact ⟨_, _, _, .inr ⟨by simp only [Sem.run_bind, hrun, Result.andThen_ok, Sem.run_pure], rfl, rfl⟩, hK, hF, .any _⟩

structure SrcOk (P : Program) (G : Nat → Prop) (ρ : Nat → Nat) (σ : Nat → Slot) (w : World) (size : Nat) (R : List (List C)) (v : Value) (news : List Value) : Prop where
 len : ∀ w', (Builtin.lenOf v).run P w' = .ok R.length w'
 first : ∀ w', w'.heap = w.heap → (Builtin.firstCells size R.length v).run P w' = .ok news.toArray w'
 sz : news.length = R.length * size
 one : ∀ u ∈ news, u.oneCell' = true
 rows : ∀ (i : Nat) (row : List C), R[i]? = some row → row.length = size ∧ ∀ (j : Nat) (c : C), row[j]? = some c → CR G ρ σ w c (news.getD (i * size + j) undef) ∧ c.cell = true

theorem split_idx {n sz p : Nat} (hs : 0 < sz) (h : p < n * sz) : p / sz < n ∧ p % sz < sz ∧ p / sz * sz + p % sz = p :=
 ⟨(Nat.div_lt_iff_lt_mul hs).2 h, Nat.mod_lt _ hs, by rw [Nat.mul_comm]; exact Nat.div_add_mod p sz⟩

theorem srcC_sound {G : Nat → Prop} (hs : StoR G ρ σ w) {size : Nat} {c : C} {v : Value} {R : List (List C)} (hp : 0 < size) (h : srcC σ size c = some R) (hr : CR G ρ σ w c v) :
  ∃ news, SrcOk P G ρ σ w size R v news := by
 -- rows that lie in memory
 have build : ∀ (b f cap : Nat) (cell : Nat → Nat → Value), v = .slice (some ⟨b, f, none⟩) R.length cap →
   (∀ (i : Nat) (row : List C), R[i]? = some row → row.length = size) →
   (∀ (i : Nat) (row : List C), R[i]? = some row → ∀ (j : Nat) (c : C), row[j]? = some c → w.cell? ⟨b, f + (i * size + j), none⟩ = some (cell i j) ∧ CR G ρ σ w c (cell i j) ∧ c.cell = true ∧ oneCell (cell i j) = true) →
   ∃ news, SrcOk P G ρ σ w size R v news := by
  rintro b f cap cell rfl hl hc
  let news : List Value := (List.range (R.length * size)).map fun p => cell (p / size) (p % size)
  have hnl : news.length = R.length * size := by simp [news]
  have hget : ∀ p, p < R.length * size → news[p]? = some (cell (p / size) (p % size)) := by
   intro p hp'; simp [news, hp']
  have hall : ∀ p, p < R.length * size → ∃ row c, R[p / size]? = some row ∧ row[p % size]? = some c := by
   intro p hp'
   obtain ⟨h1, h2, h3⟩ := split_idx hp hp'
   refine ⟨R[p / size], _, List.getElem?_eq_getElem h1, List.getElem?_eq_getElem ?_⟩
   rw [hl _ _ (List.getElem?_eq_getElem h1)]; exact h2
  refine ⟨news, fun w' => rfl, fun w' hw => ?_, hnl, fun u hu => ?_, fun i row hi => ⟨hl i row hi, fun j c hj => ?_⟩⟩
  ·refine run_firstCells_some (P := P) w' size R.length ⟨b, f, none⟩ R.length cap news hnl fun p u hpu => ?_
   have hplt : p < R.length * size := by have := (List.getElem?_eq_some_iff.1 hpu).1; omega
   obtain ⟨row, c, g1, g2⟩ := hall p hplt
   have := (hc _ _ g1 _ _ g2).1
   rw [(split_idx hp hplt).2.2] at this
   rw [addr_add]
   rw [hget p hplt] at hpu
   cases hpu
   simp only [World.cell?, hw] at this ⊢
   exact this
  ·obtain ⟨p, hpu⟩ := List.getElem?_of_mem hu
   have hplt : p < R.length * size := by have := (List.getElem?_eq_some_iff.1 hpu).1; omega
   obtain ⟨row, c, g1, g2⟩ := hall p hplt
   rw [hget p hplt] at hpu
   cases hpu
   rw [oneCell_eq]
   exact (hc _ _ g1 _ _ g2).2.2.2
  ·have hi1 : i < R.length := (List.getElem?_eq_some_iff.1 hi).1
   have hj1 : j < size := by have := (List.getElem?_eq_some_iff.1 hj).1; rw [hl i row hi] at this; exact this
   have hlt := in_rows hi1 hj1
   rw [List.getD_eq_getElem?_getD, hget _ hlt, Option.getD_some]
   rw [show (i * size + j) / size = i from by rw [Nat.mul_comm, Nat.mul_add_div hp, Nat.div_eq_of_lt hj1, Nat.add_zero],
    show (i * size + j) % size = j from by rw [Nat.add_comm, Nat.add_mul_mod_self_right, Nat.mod_eq_of_lt hj1]]
   have := hc i row hi j c hj
   exact ⟨this.2.1, this.2.2.1⟩
 have none_case : R = [] → (∃ a, v = .slice a 0 0) → ∃ news, SrcOk P G ρ σ w size R v news := by
  rintro rfl ⟨a, rfl⟩
  refine ⟨[], fun _ => rfl, fun w' _ => ?_, by simp, by simp, by simp⟩
  cases a <;> simp [Builtin.firstCells, loadCells, loadCellsFrom]
 unfold srcC at h
 split at h
 ·rename_i nl full rows
  split at h
  ·rename_i hall
   simp only [Option.some.injEq] at h
   subst h
   rw [List.all_eq_true] at hall
   have p := hr.isPure rfl
   cases p with
   | slnil => exact none_case rfl ⟨_, rfl⟩
   | slemp => exact none_case rfl ⟨_, rfl⟩
   | @sl _ _ b off sz cap n cell hG hb hn hf hc hsz hcell hcl hr' =>
    have hl : ∀ (i : Nat) (row : List C), rows[i]? = some row → row.length = size := fun i row hi => by
     have := hall row (List.mem_of_getElem? hi); simpa using this
    refine build b off cap cell (by rw [hn]) hl fun i row hi j c hj => ?_
    have e1 := hcell i row hi j c hj
    have e2 := hsz i row hi
    rw [hl i row hi] at e2
    rw [e2]
    exact ⟨e1, .pure (hr' i row hi j c hj), hcl i row hi j c hj, (hr' i row hi j c hj).cell (hcl i row hi j c hj)⟩
  ·simp at h
 ·rename_i k sz lo n
  split at h
  ·rename_i o ho
   split at h
   ·rename_i hcond
    obtain ⟨h1, h2, h3⟩ := hcond
    simp only [Option.some.injEq] at h
    have hRl : R.length = n := by rw [← h]; simp; omega
    obtain ⟨o', ho', hcase⟩ := hr.ownOf (by simp [isLive, ho])
    rw [ho] at ho'
    cases ho'
    rcases hcase with ⟨_, _, rfl, a1, _, rfl⟩ | ⟨hnl, hos, cap, hcap, rfl, hroom⟩
    ·exact none_case (List.eq_nil_of_length_eq_zero hRl) ⟨_, rfl⟩
    ·obtain ⟨⟨cs, el, g1, g2, g3⟩, _⟩ := (hs.ob k o ho hnl).cs (by rw [h2]; exact h1 ▸ hr.ownZ ho hnl)
     have hrow : ∀ (i : Nat) (row : List C), R[i]? = some row → o.rows[lo + i]? = some row ∧ i < n := by
      intro i row hi
      have hlt : i < n := by have := (List.getElem?_eq_some_iff.1 hi).1; omega
      rw [← h, List.getElem?_take_of_lt hlt, List.getElem?_drop] at hi
      exact ⟨hi, hlt⟩
     refine build (ρ k) (lo * sz) cap (fun i j => cs.getD ((lo + i) * o.sz + j) undef) (by rw [hRl]) (fun i row hi => ?_) fun i row hi j c hj => ?_
     ·rw [(g3 _ _ (hrow i row hi).1).1, h2]
     ·obtain ⟨hi1, hi2⟩ := hrow i row hi
      obtain ⟨g4, g5⟩ := g3 _ _ hi1
      have hj1 : j < o.sz := by have := (List.getElem?_eq_some_iff.1 hj).1; omega
      have hlt : (lo + i) * o.sz + j < cs.size := by
       have := in_rows (i := lo + i) (r := o.rows.length) (by omega) hj1
       omega
      refine ⟨?_, (g5 j c hj).1, (g5 j c hj).2, (g5 j c hj).1.cell (g5 j c hj).2⟩
      have : lo * sz + (i * size + j) = (lo + i) * o.sz + j := by rw [h1, h2, Nat.add_mul, Nat.add_assoc]
      rw [this]
      simp [World.cell?, g1, hlt]
   ·simp at h
  ·simp at h
 ·rename_i s
  split at h
  ·rename_i h1
   simp only [Option.some.injEq] at h
   subst h
   subst h1
   obtain rfl := hr.strOf
   refine ⟨s.data.toList.map fun b => .int .u8 b.toNat, fun w' => ?_, fun w' _ => ?_, by simp, fun u hu => ?_, fun i row hi => ?_⟩
   ·simp only [Builtin.lenOf, Sem.run_pure, List.length_map]
    rfl
   ·simp only [Builtin.firstCells, Sem.run_pure, List.length_map]
    have : s.extract 0 s.data.toList.length = s := ByteArray.extract_zero_size
    rw [this]
    congr 1
    apply Array.ext'
    simp
   ·simp only [List.mem_map] at hu
    obtain ⟨b, _, rfl⟩ := hu
    rfl
   ·simp only [List.getElem?_map, Option.map_eq_some_iff] at hi
    obtain ⟨b, hb, rfl⟩ := hi
    refine ⟨rfl, fun j c hj => ?_⟩
    cases j with
    | succ j => simp at hj
    | zero =>
     simp at hj; subst hj
     refine ⟨?_, rfl⟩
     simp [List.getD_eq_getElem?_getD, hb]
     exact .pure (.int _ _)
  ·simp at h
 ·simp at h

end
end Go.Abs

/- append, and all operations that make or write memory under one name. No condition. -/
namespace Go.Abs
section
variable {P : Program} {x : Ctx} {ρ : Nat → Nat} {σ : Nat → Slot} {w : World}

theorem not_made {dd : TypeDesc} (h : ∀ k, dd ≠ .int k) : (dd matches .int _) = false := by
 cases dd <;> first
  | rfl
  | exact absurd rfl (h _)

theorem run_app_none {G : Nat → Prop} {t u ty e : TypeId} {inf : TypeInfo} {du : TypeDesc} {R : List (List C)} {v : Value} {news : List Value} {size : Nat}
  (ht : P.underlying t = some (.slice e)) (hu : P.underlying u = some du) (hdu : ∀ k, du ≠ .int k) (hi : P.info? e = some inf) (hs : inf.size = size) (hsrc : SrcOk P G ρ σ w size R v news)
  (base : Option Addr) (n cap : Nat) (hR : R.length = 0) (hn : n ≤ cap) (hb : base = none ∨ ∃ a, base = some a) :
  (Builtin.append_ #[t, u] ty #[.slice base n cap, v]).run P w = .ok (.slice base n cap) w := by
 have h1 := hsrc.len w
 have h2 := hsrc.first w rfl
 have h3 : news = [] := List.eq_nil_of_length_eq_zero (by rw [hsrc.sz, hR, Nat.zero_mul])
 subst hs
 subst h3
 rw [hR] at h1 h2
 have hm := not_made hdu
 cases base with
 | none => simp [Builtin.append_, run_underlying ht, run_underlying hu, hm, sizeOf, typeInfo, hi, h1, h2, hn]
 | some a => simp [Builtin.append_, run_underlying ht, run_underlying hu, hm, sizeOf, typeInfo, hi, h1, h2, hn, storeCells]

theorem run_app_grow {G : Nat → Prop} {t u ty e : TypeId} {inf : TypeInfo} {du : TypeDesc} {z : Value} {R : List (List C)} {v : Value} {news olds : List Value} {size : Nat}
  (ht : P.underlying t = some (.slice e)) (hu : P.underlying u = some du) (hdu : ∀ k, du ≠ .int k) (hi : P.info? e = some inf) (hz : inf.zero = some z) (hs : inf.size = size) (hsrc : SrcOk P G ρ σ w size R v news)
  (base : Option Addr) (n cap : Nat) (hold : ∀ w', w'.heap = w.heap → (Builtin.firstCells size n (.slice base n cap)).run P w' = .ok olds.toArray w')
  (hg : cap < n + R.length) (hb : (n + R.length) * inf.bytes ≤ 140737488355328) (h63 : n + R.length ≤ 9223372036854775807) :
  (Builtin.append_ #[t, u] ty #[.slice base n cap, v]).run P w =
   .ok (.slice (some ⟨w.heap.size, 0, none⟩) (n + R.length) (grownCap w (n + R.length) cap e))
    (w.drew.alloc (.cells (olds.toArray ++ news.toArray ++ Builtin.zeroCells z.cells (grownCap w (n + R.length) cap e - (n + R.length))) e)) := by
 have h1 := hsrc.len w
 have h2 := hsrc.first w.drew rfl
 have h3 := hold w.drew rfl
 subst hs
 have hm := not_made hdu
 have g1 : ¬ (n + R.length ≤ cap) := by omega
 have g2 : ¬ (9223372036854775807 < ((n : Int) + (R.length : Int))) := by omega
 have g3 : ¬ (281474976710656 < Builtin.nextslicecap (n + R.length) cap * inf.bytes) := by
  have := growslice_fits hg hb; omega
 simp [Builtin.append_, run_underlying ht, run_underlying hu, hm, sizeOf, typeInfo, zeroValue, hi, hz, h1, h2, h3, g1, g2, g3, Question.forced, newRow, grownCap]
 rw [← List.append_toArray, Array.append_assoc]

theorem run_app_room {G : Nat → Prop} {t u ty e : TypeId} {inf : TypeInfo} {du : TypeDesc} {R : List (List C)} {v : Value} {news : List Value} {size : Nat} {cur : Array Value} {el : TypeId}
  (ht : P.underlying t = some (.slice e)) (hu : P.underlying u = some du) (hdu : ∀ k, du ≠ .int k) (hi : P.info? e = some inf) (hs : inf.size = size) (hsrc : SrcOk P G ρ σ w size R v news)
  (g n cap : Nat) (hg : w.heap[g]? = some (.cells cur el (0, 0))) (hroom : n + R.length ≤ cap) (hfit : n * size + news.length ≤ cur.size) :
  (Builtin.append_ #[t, u] ty #[.slice (some ⟨g, 0, none⟩) n cap, v]).run P w =
   .ok (.slice (some ⟨g, 0, none⟩) (n + R.length) cap) (w.setRow g (cur.toList.take (n * size) ++ news ++ cur.toList.drop (n * size + news.length)).toArray) := by
 have h1 := hsrc.len w
 have h2 := hsrc.first w rfl
 subst hs
 have hm := not_made hdu
 have hst := run_storeCells_at P g (n * inf.size) el news 0 cur w hg (by simpa using hfit) hsrc.one
 simp only [Nat.add_zero] at hst
 simp [Builtin.append_, run_underlying ht, run_underlying hu, hm, sizeOf, typeInfo, hi, h1, h2, hroom, Addr.add_lit, hst]

theorem append_sound (h : Frm x ρ σ w) {d : Nat} {t u ty : TypeId} {s y c : C} {sv yv : Value} {σ' : Nat → Slot} (ha : appendC P σ d t u s y = some (c, σ'))
  (hs : CR (x.Gd ρ σ) ρ σ w s sv) (hy : CR (x.Gd ρ σ) ρ σ w y yv) :
  EffOk P x ρ σ w ((do pure (.value (← Builtin.append_ #[t, u] ty #[sv, yv])) : Sem Next).run P w) (some d) c σ' := by
 unfold appendC at ha
 split at ha
 ·rename_i e ku hk hku
  obtain ⟨i1, inf1, d1, z1, ht1, hd1⟩ := tyOf_kind hk
  cases d1 <;> simp [kindOf] at hd1
  rename_i e'
  subst hd1
  obtain ⟨i2, inf2, d2, z2, ht2, hd2⟩ := tyOf_kind hku
  split at ha
  ·simp at ha
  ·rename_i kk i hi hnint
   have hdu : ∀ k, d2 ≠ .int k := by
    rintro k rfl
    simp only [kindOf] at hd2
    exact hnint k hd2.symm
   obtain ⟨inf, dd, z, ht⟩ := tyOf_ok hi
   split at ha
   ·rename_i R hR
    split at ha
    ·rename_i hc0
     obtain ⟨hd, hp, hbytes⟩ := hc0
     obtain ⟨news, hsrc⟩ := srcC_sound (P := P) h.sto hp hR hy
     have hby := ht.bytes
     have hzc : (Builtin.zeroCells z.cells 0).size = 0 := by simp [Builtin.zeroCells]
     -- a new block with old rows and new ones
     have grow : ∀ (em : Bool) (rows : List (List C)) (olds : List Value) (base : Option Addr) (n cap : Nat) (kill : Option Nat), n = rows.length → olds.length = n * i.size →
       (∀ w', w'.heap = w.heap → (Builtin.firstCells i.size n (.slice base n cap)).run P w' = .ok olds.toArray w') →
       (∀ (q : Nat) (row : List C), rows[q]? = some row → row.length = i.size ∧ ∀ (j : Nat) (c : C), row[j]? = some c → CR (x.Gd ρ σ) ρ σ w c (olds.getD (q * i.size + j) undef) ∧ c.cell = true) →
       cap < n + R.length → (n + R.length) * i.bytes ≤ 70368744177664 → n + R.length ≤ 70368744177664 → (∀ k, kill = some k → σ k ≠ .free ∧ σ k ≠ .gh) → (em = true → e' = tyM i.size ∧ i.size = 1) →
       EffOk P x ρ σ w ((do pure (.value (← Builtin.append_ #[t, u] ty #[.slice base n cap, yv])) : Sem Next).run P w) (some d)
        (.own d i.size 0 (n + R.length)) (upd (killS σ kill) d (.live ⟨false, em, i.size, rows ++ R⟩)) := by
      intro em rows olds base n cap kill hn hol hfirst hrows hcap hb1 hb2 hkill hBm
      have hge := grownCap_ge w (n + R.length) cap e'
      have hrun := run_app_grow (ty := ty) ht1.und ht2.und hdu ht.info ht.zero ht.size hsrc base n cap hfirst hcap (by rw [hby]; omega) (by omega)
      let cs : Array Value := olds.toArray ++ news.toArray ++ Builtin.zeroCells z.cells (grownCap w (n + R.length) cap e' - (n + R.length))
      have hsz : cs.size = grownCap w (n + R.length) cap e' * i.size := by
       simp only [cs, Array.size_append, List.size_toArray, size_zeroCells, hol, hsrc.sz, ht.zs, ← Nat.add_mul]
       congr 1; omega
      have hget : ∀ q, q < (n + R.length) * i.size → cs.getD q undef = (olds ++ news).getD q undef := by
       intro q hq
       have hl : (olds ++ news).length = (n + R.length) * i.size := by rw [List.length_append, hol, hsrc.sz, Nat.add_mul]
       simp only [cs, Array.getD_eq_getD_getElem?, List.getD_eq_getElem?_getD]
       congr 1
       rw [Array.getElem?_append_left (by simp only [Array.size_append, List.size_toArray]; rw [← List.length_append, hl]; exact hq)]
       rw [List.append_toArray, List.getElem?_toArray]
      obtain ⟨hK, hF⟩ := h.new (w' := w.drew.alloc (.cells cs e')) (ob := ⟨false, em, i.size, rows ++ R⟩) (cs := cs) (el := e') (kill := kill) (isFree_iff hd) hkill
       (fun b hb => alloc_old w.drew _ hb) (by simp) (alloc_new w.drew _) rfl rfl rfl rfl hp (by
        simp only [List.length_append, hsz, ← hn]; exact Nat.mul_le_mul_right _ hge) (fun q row hq => by
        dsimp only at hq ⊢
        by_cases hqn : q < rows.length
        ·rw [List.getElem?_append_left hqn] at hq
         obtain ⟨g1, g2⟩ := hrows q row hq
         refine ⟨g1, fun j c hj => ?_⟩
         have hj1 : j < i.size := by have := (List.getElem?_eq_some_iff.1 hj).1; omega
         have hlt : q * i.size + j < n * i.size := in_rows (by omega) hj1
         rw [hget _ (by rw [Nat.add_mul]; omega), List.getD_eq_getElem?_getD, List.getElem?_append_left (by rw [hol]; exact hlt), ← List.getD_eq_getElem?_getD]
         exact g2 j c hj
        ·rw [List.getElem?_append_right (by omega)] at hq
         obtain ⟨g1, g2⟩ := hsrc.rows _ row hq
         have hqR : q - rows.length < R.length := (List.getElem?_eq_some_iff.1 hq).1
         refine ⟨g1, fun j c hj => ?_⟩
         have hj1 : j < i.size := by have := (List.getElem?_eq_some_iff.1 hj).1; omega
         have hlt : (q - rows.length) * i.size + j < R.length * i.size := in_rows hqR hj1
         have heq : q * i.size + j = n * i.size + ((q - rows.length) * i.size + j) := by
          rw [← Nat.add_assoc, ← Nat.add_mul]; congr 2; omega
         rw [hget _ (by rw [Nat.add_mul]; omega), List.getD_eq_getElem?_getD, List.getElem?_append_right (by rw [hol]; omega), hol, ← List.getD_eq_getElem?_getD,
          show q * i.size + j - n * i.size = (q - rows.length) * i.size + j from by omega]
         exact g2 j c hj) (fun hb => ⟨(hBm hb).1, fun h2 => by rw [(hBm hb).2] at h2; cases h2⟩)
      refine ⟨_, _, _, .inl (ok_value hrun), hK, hF, ?_⟩
      exact CR.ownNew (Nat.ne_of_gt hp) (alloc_new w.drew _) hge (by rw [hsz]; exact Nat.le_refl _)
     have hmk : ∀ b, (e' == tyU && i.size == 1) = b → b = true → e' = tyM i.size ∧ i.size = 1 := by
      rintro _ rfl hb
      simp only [Bool.and_eq_true, beq_iff_eq] at hb
      rw [hb.1, hb.2]; exact ⟨rfl, rfl⟩
     have empty0 : ∀ (a : Option Addr) (w' : World), (Builtin.firstCells i.size 0 (.slice a 0 0)).run P w' = .ok ([] : List Value).toArray w' := by
      intro a w'
      cases a <;> simp [Builtin.firstCells, loadCells, loadCellsFrom]
     split at ha
     ·rename_i nl full
      split at ha
      ·rename_i hc
       obtain ⟨hb1, hb2, hnf⟩ := hc
       simp only [Option.some.injEq, Prod.mk.injEq] at ha
       obtain ⟨rfl, rfl⟩ := ha
       have hval : ∃ a, sv = .slice a 0 0 ∧ a.isNone = nl := by
        have p := hs.isPure rfl
        cases p with
        | slnil => exact ⟨none, rfl, rfl⟩
        | slemp => exact ⟨_, rfl, rfl⟩
        | sl cell hG hb hn hf hcp hsz hcell hcl hr' =>
         have := hf (by simpa using hnf)
         exact ⟨_, by rw [hn, this]; rfl, rfl⟩
       obtain ⟨a, rfl, ha'⟩ := hval
       by_cases hR0 : R.length = 0
       ·have hRn : R = [] := List.eq_nil_of_length_eq_zero hR0
        have hrun := run_app_none (ty := ty) ht1.und ht2.und hdu ht.info ht.size hsrc a 0 0 hR0 (Nat.le_refl 0) (by cases a <;> simp)
        obtain ⟨hK, hF⟩ := h.nilNew (d := d) (ob := ⟨R.isEmpty, emC R.isEmpty (!nl) e' i.size, i.size, R⟩) (kill := none) (isFree_iff hd) (by simp [hRn]) hRn (by simp)
        refine ⟨_, _, _, .inl (ok_value hrun), hK, hF, ?_⟩
        rw [hR0]
        exact .ownNil (upd_same _ _ _) (by simp [hRn]) (by simp [hRn, ha'])
       ·have hRe : R.isEmpty = false := by cases R <;> simp_all
        rw [hRe]
        have := grow (e' == tyU && i.size == 1) [] [] a 0 0 none rfl (by simp) (fun w' _ => empty0 a w') (by simp) (by omega) (by rw [Nat.zero_add]; exact hb1) (by omega) (by simp) (hmk _ rfl)
        simpa [killS] using this
      ·simp at ha
     ·rename_i rows hne
      split at ha
      ·rename_i hc
       obtain ⟨hb1, hb2, hRe, hall⟩ := hc
       simp only [Option.some.injEq, Prod.mk.injEq] at ha
       obtain ⟨rfl, rfl⟩ := ha
       have hRl : 0 < R.length := by cases R <;> simp_all
       rw [List.all_eq_true] at hall
       have p := hs.isPure rfl
       cases p with
       | slemp => exact absurd rfl hne
       | @sl _ _ b off sz cap n cell hG hb hn hf hcp hsz hcell hcl hr' =>
        have hl : ∀ (q : Nat) (row : List C), rows[q]? = some row → row.length = i.size := fun q row hq => by
         have := hall row (List.mem_of_getElem? hq); simpa using this
        have hself : srcC σ i.size (.sl false true rows) = some rows := by
         simp only [srcC]
         rw [if_pos (by rw [List.all_eq_true]; exact hall)]
        obtain ⟨olds, ho⟩ := srcC_sound (P := P) h.sto hp hself hs
        have hcap := hf rfl
        have := grow (e' == tyU && i.size == 1) rows olds (some ⟨b, off, none⟩) n cap none (by rw [hn]) (by rw [ho.sz, hn]) (fun w' hw => by have := ho.first w' hw; rw [← hn] at this; exact this) (fun q row hq => ho.rows q row hq) (by omega) (by rw [hn]; exact hb1) (by omega) (by simp) (hmk _ rfl)
        rw [hn] at this
        rw [hn]
        simpa [killS] using this
      ·simp at ha
     ·rename_i k sz lo n
      split at ha
      ·rename_i o ho
       split at ha
       ·rename_i hc
        obtain ⟨hb1, hb2, rfl, hn, rfl, hosz, hBm⟩ := hc
        simp only [Option.some.injEq, Prod.mk.injEq] at ha
        obtain ⟨rfl, rfl⟩ := ha
        obtain ⟨o', ho', hcase⟩ := hs.ownOf (by simp [isLive, ho])
        rw [ho] at ho'
        cases ho'
        have hkf : ∀ k', some k = some k' → σ k' ≠ .free ∧ σ k' ≠ .gh := by rintro k' he; cases he; rw [ho]; simp
        rcases hcase with ⟨hnl, _, hn0, a, ha', rfl⟩ | ⟨hnl, _, cap, hcap, rfl, hroom⟩
        ·have hrn := h.sto.nil k o ho hnl
         rw [hrn, hnl]
         simp only [Bool.true_and, List.nil_append]
         by_cases hR0 : R.length = 0
         ·have hRn : R = [] := List.eq_nil_of_length_eq_zero hR0
          have hrun := run_app_none (ty := ty) ht1.und ht2.und hdu ht.info ht.size hsrc a 0 0 hR0 (Nat.le_refl 0) (by cases a <;> simp)
          obtain ⟨hK, hF⟩ := h.nilNew (d := d) (ob := ⟨R.isEmpty, emC R.isEmpty o.em e' i.size, i.size, R⟩) (kill := some k) (isFree_iff hd) (by simp [hRn]) hRn hkf
          refine ⟨_, _, _, .inl (ok_value hrun), hK, hF, ?_⟩
          rw [hR0, hn0]
          exact .ownNil (upd_same _ _ _) (by simp [hRn]) (by simp [hRn, ha'])
         ·have hRe : R.isEmpty = false := by cases R <;> simp_all
          rw [hRe, hn0]
          exact grow (e' == tyU && i.size == 1) [] [] a 0 0 (some k) rfl (by simp) (fun w' _ => empty0 a w') (by simp) (by omega) (by rw [hn0] at hb1; exact hb1) (by omega) hkf (hmk _ rfl)
        ·rw [hnl]
         simp only [Bool.false_and, Nat.zero_mul]
         obtain ⟨⟨cur, el, hcur, hlen, hcell⟩, hpos⟩ := (h.sto.ob k o ho hnl).cs (by rw [hosz]; exact hs.ownZ ho hnl)
         by_cases hfits : n + R.length ≤ cap
         ·have hsize : (0 + cap) * i.size ≤ cur.size := hroom _ _ _ hcur
          rw [Nat.zero_add] at hsize
          have hfit : n * i.size + news.length ≤ cur.size := by
           rw [hsrc.sz, ← Nat.add_mul]; exact Nat.le_trans (Nat.mul_le_mul_right _ hfits) hsize
          have hrun := run_app_room (ty := ty) ht1.und ht2.und hdu ht.info ht.size hsrc (ρ k) n cap hcur hfits hfit
          obtain ⟨hK, hF⟩ := h.write (w' := w.setRow (ρ k) (cur.toList.take (n * i.size) ++ news ++ cur.toList.drop (n * i.size + news.length)).toArray)
           (k := k) (d := d) (o := o) (ob := ⟨false, o.em, i.size, o.rows ++ R⟩) ho hnl (.inr (isFree_iff hd)) hcur
           (fun b hb => setRow_other w _ b _ hb) (by simp [World.setRow]) (setRow_heap w _ cur _ el _ hcur) (over_size hfit) rfl rfl rfl rfl rfl hosz.symm (by
            simp only [List.length_append]; rw [← hn]; exact Nat.le_trans (Nat.mul_le_mul_right _ hfits) hsize) (fun q row hq => by
            dsimp only at hq ⊢
            by_cases hqn : q < o.rows.length
            ·rw [List.getElem?_append_left hqn] at hq
             obtain ⟨g1, g2⟩ := hcell q row hq
             rw [hosz] at g1 g2
             refine ⟨g1, fun j c hj => ?_⟩
             have hj1 : j < i.size := by have := (List.getElem?_eq_some_iff.1 hj).1; omega
             have hlt : q * i.size + j < n * i.size := in_rows (by omega) hj1
             rw [over_get hfit, if_neg (by omega)]
             exact g2 j c hj
            ·rw [List.getElem?_append_right (by omega)] at hq
             obtain ⟨g1, g2⟩ := hsrc.rows _ row hq
             have hqR : q - o.rows.length < R.length := (List.getElem?_eq_some_iff.1 hq).1
             refine ⟨g1, fun j c hj => ?_⟩
             have hj1 : j < i.size := by have := (List.getElem?_eq_some_iff.1 hj).1; omega
             have hlt : (q - o.rows.length) * i.size + j < R.length * i.size := in_rows hqR hj1
             have heq : q * i.size + j = n * i.size + ((q - o.rows.length) * i.size + j) := by
              rw [← Nat.add_assoc, ← Nat.add_mul]; congr 2; omega
             rw [over_get hfit, if_pos (by rw [hsrc.sz]; omega), show q * i.size + j - n * i.size = (q - o.rows.length) * i.size + j from by omega]
             exact g2 j c hj)
          refine ⟨_, _, _, .inl (ok_value hrun), hK, hF, ?_⟩
          refine CR.ownNew (Nat.ne_of_gt hp) (setRow_heap w _ cur _ el _ hcur) hfits ?_
          rw [over_size hfit]; exact hsize
         ·have hself : ∃ olds : List Value, olds.length = n * i.size ∧ (∀ w', w'.heap = w.heap → (Builtin.firstCells i.size n (.slice (some ⟨ρ k, 0, none⟩) n cap)).run P w' = .ok olds.toArray w') ∧
            (∀ (q : Nat) (row : List C), o.rows[q]? = some row → row.length = i.size ∧ ∀ (j : Nat) (c : C), row[j]? = some c → CR (x.Gd ρ σ) ρ σ w c (olds.getD (q * i.size + j) undef) ∧ c.cell = true) := by
           have hle : n * i.size ≤ cur.size := by rw [hn, ← hosz]; exact hlen
           refine ⟨cur.toList.take (n * i.size), by simp; omega, fun w' hw => ?_, fun q row hq => ?_⟩
           ·refine run_firstCells_some (P := P) w' i.size n ⟨ρ k, 0, none⟩ n cap _ (by simp; omega) fun p v hp' => ?_
            have hplt : p < n * i.size := by have := (List.getElem?_eq_some_iff.1 hp').1; simp at this; omega
            rw [List.getElem?_take_of_lt hplt] at hp'
            rw [addr_add]
            simp only [World.cell?, hw, hcur, Nat.zero_add]
            simpa using hp'
           ·obtain ⟨g1, g2⟩ := hcell q row hq
            rw [hosz] at g1 g2
            refine ⟨g1, fun j c hj => ?_⟩
            have hj1 : j < i.size := by have := (List.getElem?_eq_some_iff.1 hj).1; omega
            have hlt : q * i.size + j < n * i.size := in_rows (by rw [hn]; exact (List.getElem?_eq_some_iff.1 hq).1) hj1
            have := g2 j c hj
            rw [List.getD_eq_getElem?_getD, List.getElem?_take_of_lt hlt]
            simpa [Array.getD_eq_getD_getElem?] using this
          obtain ⟨olds, e1, e2, e3⟩ := hself
          have := grow o.em o.rows olds (some ⟨ρ k, 0, none⟩) n cap (some k) hn e1 e2 e3 (by omega) hb1 hb2 hkf (fun hb => hmk _ (by rw [hnl, hb] at hBm; simpa using hBm) rfl)
          simpa [killS] using this
       ·simp at ha
      ·simp at ha
     ·simp at ha
    ·simp at ha
   ·simp at ha
  ·simp at ha
 ·simp at ha

theorem eff_sound (h : Frm x ρ σ w) {o : Oper} {evC : Operand → C} {evV : Operand → Value} {c : C} {σ' : Nat → Slot} (he : effC P σ evC o.dst o.op = some (c, σ'))
  (hr : ∀ y ∈ o.op.operands.toList, CR (x.Gd ρ σ) ρ σ w (evC y) (evV y)) : EffOk P x ρ σ w ((execOp evV o).run P w) o.dst c σ' := by
 obtain ⟨dst, op, ty, pos, after, guard⟩ := o
 cases op <;> simp only [effC] at he <;> simp only [Op.operands] at hr <;> simp only [execOp]
 case alloc t =>
  split at he
  ·rename_i d i hi
   split at he
   ·rename_i hc
    simp only [Option.some.injEq, Prod.mk.injEq] at he
    obtain ⟨rfl, rfl⟩ := he
    exact alloc_sound h hi hc.1 hc.2
   ·simp at he
  ·simp at he
 case makeMap t r =>
  cases r with
  | some r => simp at he
  | none =>
   simp only at he
   split at he
   ·rename_i d kt et hkd
    split at he
    ·rename_i hc
     simp only [Option.some.injEq, Prod.mk.injEq] at he
     obtain ⟨rfl, rfl⟩ := he
     exact makeMap_sound h hc
    ·simp at he
   ·simp at he
 case mapUpdate t m k y =>
  split at he
  ·exact upd_sound h he (hr m (by simp)) (hr k (by simp)) (hr y (by simp))
  ·simp at he
 case insert t m k y =>
  split at he
  ·exact upd_sound h he (hr m (by simp)) (hr k (by simp)) (hr y (by simp))
  ·simp at he
 case mapEntry t m k => exact ent_sound h he (hr m (by simp)) (hr k (by simp))
 case entryStore t m s y =>
  split at he
  ·exact put_sound h he (hr m (by simp)) (hr s (by simp)) (hr y (by simp))
  ·simp at he
 case box t y =>
  split at he
  ·rename_i d cs hcs
   split at he
   ·rename_i hc
    simp only [Option.some.injEq, Prod.mk.injEq] at he
    obtain ⟨rfl, rfl⟩ := he
    exact box_sound h hcs (hr y (by simp)) hc.1 hc.2
   ·simp at he
  ·simp at he
 case buildSlice t n parts =>
  split at he
  ·rename_i e hk
   split at he
   ·rename_i i hi
    split at he
    ·rename_i hc
     split at he
     ·rename_i cs hf
      have hrp : ∀ p ∈ parts.toList, CR (x.Gd ρ σ) ρ σ w (evC p.2) (evV p.2) := fun p hp => hr p.2 (by
       simp only [List.mem_map]
       exact ⟨p, hp, rfl⟩)
      split at he
      ·rename_i hpure
       simp only [Option.some.injEq, Prod.mk.injEq] at he
       obtain ⟨rfl, rfl⟩ := he
       exact buildSlice_pure h hk hi hc.1 hc.2 hf hpure hrp
      ·split at he
       ·rename_i d
        split at he
        ·rename_i hfree
         simp only [Option.some.injEq, Prod.mk.injEq] at he
         obtain ⟨rfl, rfl⟩ := he
         exact buildSlice_sound h hk hi hfree hc.1 hc.2 hf hrp
        ·simp at he
       ·simp at he
     ·simp at he
    ·simp at he
   ·simp at he
  ·simp at he
 case makeSlice t l cp =>
  split at he
  ·rename_i d e k1 n k2 m hk hl hcp
   split at he
   ·rename_i i hi
    split at he
    ·rename_i hc
     obtain ⟨g1, g2, g3, g4, g5, g6⟩ := hc
     simp only [Option.some.injEq, Prod.mk.injEq] at he
     obtain ⟨rfl, rfl⟩ := he
     have h1 := hr l (by simp)
     have h2 := hr cp (by simp)
     rw [hl] at h1
     rw [hcp] at h2
     rw [h1.intOf, h2.intOf]
     exact make_sound h hk hi g1 g2 g3 g4 g5 g6
    ·simp at he
   ·simp at he
  ·simp at he
 case store t a y =>
  split at he
  ·rename_i i cs k sz r j hi hcs ha
   split at he
   ·rename_i o ho
    split at he
    ·rename_i row hrow
     split at he
     ·rename_i hc
      obtain ⟨g1, g2, g3, g4⟩ := hc
      simp only [Option.some.injEq, Prod.mk.injEq] at he
      obtain ⟨rfl, rfl⟩ := he
      have h1 := hr a (by simp)
      rw [ha] at h1
      exact store_sound h hi hcs (hr y (by simp)) h1 ho hrow g1 g2 g3 g4
     ·simp at he
    ·simp at he
   ·simp at he
  ·simp at he
 case call cl =>
  obtain ⟨callee, args, ats⟩ := cl
  cases callee with
  | value f => simp at he
  | invoke r m => simp at he
  | builtin b =>
   cases b <;> simp only at he
   case append =>
    split at he
    ·rename_i d s y t u h1 h2
     obtain ⟨args⟩ := args
     obtain ⟨ats⟩ := ats
     simp only at h1 h2
     subst h1
     subst h2
     have hs := hr s (by simp [Call.operands])
     have hy := hr y (by simp [Call.operands])
     have := append_sound (ty := ty) h he hs hy
     simpa [resolve, invoke, builtin] using this
    ·simp at he
   all_goals simp at he
 all_goals simp at he

end
end Go.Abs

