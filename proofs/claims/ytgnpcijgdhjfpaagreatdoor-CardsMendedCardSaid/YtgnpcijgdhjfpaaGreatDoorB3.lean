/- The machine of abstract values and the contracts of the functions of the program, which the statements of this seat share. No condition. -/
import Derived.Test.YtgnpcijgdhjfpaaGreatDoorB2
import Derived.Shelf.Strings.Builder1
import Derived.Shelf.Strings.Search3
import Derived.Shelf.Strings.Prefix
import Derived.Shelf.Strings.Split
import Derived.Shelf.Strings.Repeat
import Derived.Shelf.Strings.SlTrimAscii
import Derived.Test.YtgnpcijgdhjfpaaGreatDoorProg
import Derived.Maps.RangeRun
import Derived.Lib.OthersKept

set_option linter.unusedSimpArgs false
set_option linter.unusedVariables false
set_option linter.constructorNameAsVariable false

/- A round of a loop over a function: what a call of yield does, out of a walk of the loop's body. No condition. -/
namespace Go.Abs

structure FamOk (L : Nat) (ks : List Nat) (fam : Nat → Nat → Slot) : Prop where
 lt : ∀ k ∈ ks, L < k
 nd : ks.Nodup
 out : ∀ i k, k ∉ ks → fam i k = .free
 st : ∀ i, ∀ k ∈ ks, fam i k ≠ .free
 wi : ∀ i k o, fam i k = .live o → o.rows.all (wil ks) = true
 ce : ∀ i k o, fam i k = .live o → o.rows.all (fun r => r.all C.cell) = true

def stg (L : Nat) (fam : Nat → Nat → Slot) (stop i : Nat) : Nat → Slot := fun k => if k = L then (if i ≤ stop then .gh else .dead) else fam i k

def rfam (L : Nat) (fam : Nat → Nat → Slot) (i : Nat) : Nat → Slot := fun k => if k = L then .gh else fam i k

def yrel (L : Nat) (fam : Nat → Nat → Slot) (items : List (List C)) (stop l : Nat) : YRel := fun l' σ args r σ' =>
 l' = l ∧ ∃ i, i ≤ stop ∧ items[i]? = some args ∧ (∀ k, L ≤ k → σ k = stg L fam stop i k) ∧ r = .bool (i != stop) ∧ σ' = fun k => if L ≤ k then stg L fam stop (i + 1) k else σ k

section
variable {P : Program} {x : Ctx} {ρ : Nat → Nat} {σ : Nat → Slot} {w : World}

mutual
theorem pure_wi (ks : List Nat) : ∀ (c : C), c.isPure = true → c.wi ks = true
 | .any, h => by simp [C.isPure] at h
 | .own .., h => by simp [C.isPure] at h
 | .ptr .., h => by simp [C.isPure] at h
 | .mp .., h => by simp [C.isPure] at h
 | .fn f a b, h => by
  simp only [C.isPure, Bool.and_eq_true] at h
  simp only [C.wi, Bool.and_eq_true]
  exact ⟨purel_wil ks a h.1, purel_wil ks b h.2⟩
 | .agg l, h => by simp only [C.isPure] at h; simp only [C.wi]; exact purel_wil ks l h
 | .tup l, h => by simp only [C.isPure] at h; simp only [C.wi]; exact purel_wil ks l h
 | .int .., _ => rfl
 | .bool _, _ => rfl
 | .str _, _ => rfl
 | .pnil, _ => rfl
 | .fnil, _ => rfl
 | .sl .., _ => rfl
 | .ip .., _ => rfl
 | .md .., _ => rfl
 | .val _, _ => rfl
 | .mpin _, _ => rfl
theorem purel_wil (ks : List Nat) : ∀ (l : List C), purel l = true → wil ks l = true
 | [], _ => rfl
 | c :: l, h => by
  simp only [purel, Bool.and_eq_true] at h
  simp only [wil, Bool.and_eq_true]
  exact ⟨pure_wi ks c h.1, purel_wil ks l h.2⟩
end

mutual
theorem wi_mono {ks ks' : List Nat} (h : ∀ q, q ∈ ks → q ∈ ks') : ∀ (c : C), c.wi ks = true → c.wi ks' = true
 | .any, _ => rfl
 | .own .., g => by simp only [C.wi, List.contains_iff_mem] at g ⊢; exact h _ g
 | .ptr .., g => by simp only [C.wi, List.contains_iff_mem] at g ⊢; exact h _ g
 | .mp .., g => by simp only [C.wi, List.contains_iff_mem] at g ⊢; exact h _ g
 | .fn f a b, g => by
  simp only [C.wi, Bool.and_eq_true] at g ⊢
  exact ⟨wil_mono h a g.1, wil_mono h b g.2⟩
 | .agg l, g => by simp only [C.wi] at g ⊢; exact wil_mono h l g
 | .tup l, g => by simp only [C.wi] at g ⊢; exact wil_mono h l g
 | .int .., _ => rfl
 | .bool _, _ => rfl
 | .str _, _ => rfl
 | .pnil, _ => rfl
 | .fnil, _ => rfl
 | .sl .., _ => rfl
 | .ip .., _ => rfl
 | .md .., _ => rfl
 | .val _, _ => rfl
 | .mpin _, _ => rfl
theorem wil_mono {ks ks' : List Nat} (h : ∀ q, q ∈ ks → q ∈ ks') : ∀ (l : List C), wil ks l = true → wil ks' l = true
 | [], _ => rfl
 | c :: l, g => by
  simp only [wil, Bool.and_eq_true] at g ⊢
  exact ⟨wi_mono h c g.1, wil_mono h l g.2⟩
end

theorem Frm.setLoop {l : Nat} {r r' : Loop} {lp : List (Nat × Obj × Nat × Obj)} (h : Frm x ρ σ w) (hl : w.heap[l]? = some (.loop r)) (hex : l ∈ x.ex ∨ x.w.heap.size ≤ l)
  (hrc : ∀ p ∈ lp, p.1 ∈ x.ex ∧ x.σ p.2.2.1 ≠ .free ∧ ((σ p.2.2.1 = .gh ∧ (w.putObj l (.loop r')).heap[p.1]? = some p.2.1) ∨ (σ p.2.2.1 = .dead ∧ (w.putObj l (.loop r')).heap[p.1]? = some p.2.2.2))) :
  Keeps (x.Gd ρ σ) (x.Gd ρ σ) ρ ρ σ σ w (w.putObj l (.loop r')) ∧ Frm { x with lp := lp } ρ σ (w.putObj l (.loop r')) := by
 have hlt := (Array.getElem?_eq_some_iff.1 hl).1
 have hsz : (w.putObj l (.loop r')).heap.size = w.heap.size := by simp [World.putObj]
 have hne : ∀ k o, σ k = .live o → o.nl = false → ρ k ≠ l := by
  rintro k o h1 h2 rfl
  have := (h.sto.ob k o h1 h2).noOdd hl
  simp [oddO] at this
 have hK0 : Keeps0 (x.Gd ρ σ) (x.Gd ρ σ) ρ ρ σ σ w (w.putObj l (.loop r')) := by
  refine ⟨fun b hb hlt' => ⟨hb, by omega, ?_⟩, fun k hk => hk, fun k o hk => .inr ⟨o, hk, rfl, rfl, rfl, fun hn => ⟨rfl, fun cs el fz hc => ?_⟩⟩⟩
  ·by_cases e : b = l
   ·subst e; exact .inr ⟨_, _, hl, World.putObj_heap_same hlt, rfl, rfl⟩
   ·exact .inl (World.putObj_heap_other e)
  ·rw [World.putObj_heap_other (hne k o hk hn)] at hc
   exact ⟨_, _, _, hc, Nat.le_refl _⟩
 have hK : Keeps (x.Gd ρ σ) (x.Gd ρ σ) ρ ρ σ σ w (w.putObj l (.loop r')) := .of (fun D hD => by
  have hDl : D ≠ l := by
   intro e
   rw [e, hl] at hD; simp at hD
  rw [World.putObj_heap_other hDl]; exact hD) hK0
 refine ⟨hK, ⟨⟨fun k o hk hn => (h.sto.ob k o hk hn).keeps hK0 (World.putObj_heap_other (hne k o hk hn)), h.sto.nil, h.sto.inj⟩, h.own, fun b hlt' hnb hbx => ?_, ⟨fun b hb => ⟨(h.rcd.loop b hb).1, ?_⟩, hrc, fun p hp => by
  obtain ⟨e0, e2⟩ := h.rcd.itr p hp
  refine ⟨e0, ?_⟩
  have hpl : p.1 ≠ l := by
   intro e
   rw [e, hl] at e2; rw [← Option.some.inj e2] at e0; cases e0
  rw [World.putObj_heap_other hpl]; exact e2⟩, by rw [hsz]; exact h.size, h.os, h.tape, h.output, h.hist.trans hK0⟩⟩
 ·have hbl : b ≠ l := by
   intro e
   rcases hex with e1 | e1
   ·exact hbx (e ▸ e1)
   ·have hlt2 : b < x.w.heap.size := hlt'
    omega
  rw [World.putObj_heap_other hbl]
  exact h.frame b hlt' hnb hbx
 ·by_cases e : b = l
  ·exact ⟨r', by rw [e]; exact World.putObj_heap_same hlt⟩
  ·obtain ⟨q, hq⟩ := (h.rcd.loop b hb).2
   exact ⟨q, by rw [World.putObj_heap_other e]; exact hq⟩

def putPs (env : Nat → C) : List Nat → List C → Nat → C
 | p :: ps, c :: cs => putPs (upd env p c) ps cs
 | _, _ => env

theorem putPs_sound {G : Nat → Prop} {nt : Nat} : ∀ (ps : List Nat) (cs : List C) (us : List Value) (env : Nat → C) (t : Array Value), cs.length = us.length → t.size = nt → (∀ q, q < nt → CR G ρ σ w (env q) (t.getD q undef)) →
  (∀ (i : Nat) (c : C) (u : Value), cs[i]? = some c → us[i]? = some u → CR G ρ σ w c u) →
  ((ps.zip us).foldl (fun t (p, v) => t.setIfInBounds p v) t).size = nt ∧ ∀ q, q < nt → CR G ρ σ w (putPs env ps cs q) (((ps.zip us).foldl (fun t (p, v) => t.setIfInBounds p v) t).getD q undef)
 | [], cs, us, env, t, _, ht, he, _ => by
  simp only [List.zip_nil_left, List.foldl_nil]
  exact ⟨ht, fun q hq => by unfold putPs; exact he q hq⟩
 | p :: ps, [], us, env, t, hl, ht, he, _ => by
  have : us = [] := List.eq_nil_of_length_eq_zero (by simpa using hl.symm)
  subst this
  simp only [List.zip_nil_right, List.foldl_nil]
  exact ⟨ht, fun q hq => by unfold putPs; exact he q hq⟩
 | p :: ps, c :: cs, [], env, t, hl, ht, he, _ => by simp at hl
 | p :: ps, c :: cs, u :: us, env, t, hl, ht, he, hc => by
  simp only [List.zip_cons_cons, List.foldl_cons, putPs]
  refine putPs_sound ps cs us (upd env p c) (t.setIfInBounds p u) (by simpa using hl) (by simpa using ht) (fun q hq => ?_) fun i d v h1 h2 => hc (i + 1) d v (by simpa using h1) (by simpa using h2)
  by_cases hqp : q = p
  ·subst hqp
   rw [upd_same, Array.getD_eq_getD_getElem?, Array.getElem?_setIfInBounds_self_of_lt (by omega)]
   exact hc 0 c u rfl rfl
  ·rw [upd_ne _ _ hqp, Array.getD_eq_getD_getElem?, Array.getElem?_setIfInBounds_ne (Ne.symm hqp), ← Array.getD_eq_getD_getElem?]
   exact he q hq

theorem Frm.over {L : Nat} (h : Frm x ρ σ w) (hL : σ L = .gh) (hlp : ∀ p ∈ x.lp, p.2.2.1 ≠ L) : Frm x ρ (upd σ L .dead) w ∧ Keeps (x.Gd ρ σ) (x.Gd ρ (upd σ L .dead)) ρ ρ σ (upd σ L .dead) w w := by
 have hlv : ∀ k o, upd σ L .dead k = .live o ↔ σ k = .live o := by
  intro k o
  by_cases e : k = L
  ·subst e; rw [upd_same, hL]; simp
  ·rw [upd_ne _ _ e]
 have hown : ∀ b, Owned ρ (upd σ L .dead) b ↔ Owned ρ σ b := by
  intro b
  constructor
  ·rintro ⟨k, o, e1, e2, e3⟩; exact ⟨k, o, (hlv k o).1 e1, e2, e3⟩
  ·rintro ⟨k, o, e1, e2, e3⟩; exact ⟨k, o, (hlv k o).2 e1, e2, e3⟩
 have hK : Keeps (x.Gd ρ σ) (x.Gd ρ (upd σ L .dead)) ρ ρ σ (upd σ L .dead) w w := by
  refine .of (fun D hD => hD) ⟨fun b hb hlt => ⟨⟨hb.1, fun ho => hb.2 ((hown b).1 ho)⟩, hlt, .inl rfl⟩, fun k hk => ?_, fun k o hk => .inr ⟨o, (hlv k o).2 hk, rfl, rfl, rfl, fun hn => ⟨rfl, fun cs el fz hc => ⟨_, _, _, hc, Nat.le_refl _⟩⟩⟩⟩
  by_cases e : k = L
  ·subst e; simp
  ·rw [upd_ne _ _ e]; exact hk
 refine ⟨⟨⟨fun k o hk hn => (h.sto.ob k o ((hlv k o).1 hk) hn).keeps hK.toKeeps0 rfl, fun k o hk hn => h.sto.nil k o ((hlv k o).1 hk) hn, fun k k' o o' hk hk' hn hn' he => h.sto.inj k k' o o' ((hlv k o).1 hk) ((hlv k' o').1 hk') hn hn' he⟩,
  fun b hb => h.own b ((hown b).1 hb), h.frame, ⟨h.rcd.loop, fun p hp => ?_, h.rcd.itr⟩, h.size, h.os, h.tape, h.output, h.hist.trans hK.toKeeps0⟩, hK⟩
 obtain ⟨h1, h2, h3⟩ := h.rcd.rdy p hp
 refine ⟨h1, h2, ?_⟩
 rw [upd_ne _ _ (hlp p hp)]
 exact h3

def jumpOf : Exit → Option Code
 | .ret => some .ret
 | .exit id => some (.exit id)
 | .goto t => some (.goto t)
 | _ => none

structure RndX (y : Ctx) (nt l L : Nat) (τ : Nat → Slot) (Yo : YRel) (exx : List Nat) (lpx : List (Nat × Obj × Nat × Obj)) : Prop where
 nt : y.nt = nt
 rnd : y.rnd = some l
 σ : y.σ = τ
 Y : y.Y = Yo
 ex : y.ex = l :: exx
 lp : ∃ o o', y.lp = (l, o, L, o') :: lpx

def rndQ (y : Ctx) (L : Nat) (fam : Nat → Nat → Slot) (stop : Nat) (jc : Code) (i : Nat) : Exit → AS → Prop := fun e s' =>
 (if i = stop then jumpOf e = some jc else e = .normal) ∧ Wk y s' ⟨fun _ => .any, rfam L fam (i + 1)⟩

end
end Go.Abs

/- A round of a loop over a function, out of a walk of the loop's body. No condition. -/
namespace Go.Abs
section
variable {P : Program}

theorem Frm.lps {x : Ctx} {ρ : Nat → Nat} {σ : Nat → Slot} {w : World} {n : Nat} {r : Option Nat} {Y : YRel} (h : Frm x ρ σ w) : Frm { x with nt := n, rnd := r, Y := Y } ρ σ w :=
 ⟨h.sto, h.own, h.frame, ⟨h.rcd.loop, h.rcd.rdy, h.rcd.itr⟩, h.size, h.os, h.tape, h.output, h.hist⟩

theorem res_rfam {L stop i : Nat} {ks : List Nat} {fam : Nat → Nat → Slot} {σ : Nat → Slot} (hfam : FamOk L ks fam) (hi : i ≤ stop) (hσ : ∀ k, L ≤ k → σ k = stg L fam stop i k) : resS (L :: ks) σ = rfam L fam i := by
 funext k
 by_cases hk : k = L
 ·subst hk
  rw [resS_in (by simp), hσ k (Nat.le_refl _)]
  simp [stg, rfam, hi]
 ·by_cases hm : k ∈ ks
  ·rw [resS_in (by simp [hm]), hσ k (Nat.le_of_lt (hfam.lt k hm))]
   simp [stg, rfam, hk]
  ·rw [resS_out (by simp [hk, hm])]
   simp [rfam, hk, hfam.out i k hm]

theorem ov_stg {L stop i : Nat} {ks : List Nat} {fam : Nat → Nat → Slot} {σ σ1 : Nat → Slot} (hfam : FamOk L ks fam) (hσ : ∀ k, L ≤ k → σ k = stg L fam stop i k) (h1 : σ1 L = if i + 1 ≤ stop then .gh else .dead) (h2 : ∀ k ∈ ks, σ1 k = fam (i + 1) k) :
  ovS (L :: ks) σ σ1 = fun k => if L ≤ k then stg L fam stop (i + 1) k else σ k := by
 funext k
 by_cases hk : k = L
 ·subst hk
  rw [ovS_in (by simp), h1, if_pos (Nat.le_refl _)]
  simp [stg]
 ·by_cases hm : k ∈ ks
  ·rw [ovS_in (by simp [hm]), h2 k hm, if_pos (Nat.le_of_lt (hfam.lt k hm))]
   simp [stg, hk]
  ·rw [ovS_out (by simp [hk, hm])]
   split
   ·rename_i hle
    rw [hσ k hle]
    simp [stg, hk, hfam.out _ k hm]
   ·rfl

theorem yc_round {fn : FuncId} {t0 : Array Value} {ps : Array Tmp} {assign body jc : Code} {D l L nt stop : Nat} {ks : List Nat} {fam : Nat → Nat → Slot} {items : List (List C)} {E : Nat → C} {t : Start} {Yo : YRel} {exx : List Nat} {lpx : List (Nat × Obj × Nat × Obj)}
  (hfam : FamOk L ks fam) (hps : ∀ args ∈ items, purel args = true ∧ args.length = ps.size) (hexl : l ∉ exx) (hlpx : ∀ p ∈ lpx, p.1 ∈ exx ∧ p.2.2.1 ∈ ks) (ht0 : t0.size = nt) (htk : ∀ k ∈ L :: ks, t.σ k ≠ .free)
  (hE : ∀ q, q < nt → CR t.G t.ρ t.σ t.w (E q) (t0.getD q undef)) (hEw : ∀ q, (E q).wi ks = true)
  (hYo : (∀ l σ args r σ', ¬ Yo l σ args r σ') ∨ ∃ (tq : Start) (exo : List Nat) (lpo : List (Nat × Obj × Nat × Obj)), (∀ b ∈ exo, b ∈ exx) ∧ (∀ p ∈ lpo, p ∈ lpx) ∧ (∀ p ∈ lpx, p.1 ∈ exo → p ∈ lpo) ∧ (∀ p ∈ lpx, p ∉ lpo → tq.σ p.2.2.1 = .free) ∧ (∀ k, tq.σ k ≠ .free → k ∈ ks) ∧
   Keeps0 tq.G t.G tq.ρ t.ρ tq.σ t.σ tq.w t.w ∧ YC P Yo tq exo lpo)
  (hround : ∀ i args, items[i]? = some args → i ≤ stop → ∀ y y2 : Ctx, RndX y nt l L (rfam L fam i) Yo exx lpx → RndX y2 nt l L (rfam L fam i) Yo exx lpx →
   AWP P y assign ⟨putPs E ps.toList args, rfam L fam i⟩ (nextQ (fun s' => s'.sto L = .gh ∧ AWP P y2 body s' (rndQ y2 L fam stop jc i)) fun _ _ => False)) :
  YC P (yrel L fam items stop l) t (l :: exx) ((l, .loop { state := .ready, pending := none, fn := fn, tmps := t0, params := ps, assign := assign, body := body, defers := D }, L, .loop { state := .done, pending := some jc, fn := fn, tmps := t0, params := ps, assign := assign, body := body, defers := D }) :: lpx) := by
 intro l' σ args r σ' hy z ρ w us hex hlp hlp' hlpf hgk hF hK hus
 obtain ⟨rfl, i, hi, hit, hσ, rfl, rfl⟩ := hy
 obtain ⟨R, hR⟩ : ∃ R : Loop, R = { state := .ready, pending := none, fn := fn, tmps := t0, params := ps, assign := assign, body := body, defers := D } := ⟨_, rfl⟩
 obtain ⟨R2, hR2⟩ : ∃ R2 : Loop, R2 = { state := .done, pending := some jc, fn := fn, tmps := t0, params := ps, assign := assign, body := body, defers := D } := ⟨_, rfl⟩
 rw [← hR, ← hR2] at hlp hlp' hlpf
 have hgh : σ L = .gh := by rw [hσ L (Nat.le_refl _)]; simp [stg, hi]
 obtain ⟨hlz, hz1, hz3⟩ := hF.rcd.rdy (l', .loop R, L, .loop R2) (hlp _ (by simp))
 have hrec : w.heap[l']? = some (.loop R) := by
  rcases hz3 with ⟨_, e⟩ | ⟨e, _⟩
  ·exact e
  ·rw [hgh] at e; cases e
 have hlt := (Array.getElem?_eq_some_iff.1 hrec).1
 obtain ⟨hpu, hpl⟩ := hps args (List.mem_of_getElem? hit)
 have hsize : us.size = R.params.size := by rw [hR]; exact hus.1.trans hpl
 have hres := res_rfam hfam hi hσ
 have hLks : L ∉ ks := fun h => absurd (hfam.lt L h) (Nat.lt_irrefl _)
 have hrfk : ∀ {j k : Nat}, k ∈ ks → rfam L fam j k = fam j k := fun hk => by
  have := hfam.lt _ hk
  simp only [rfam]; rw [if_neg (by omega)]
 have hrfL : ∀ j, rfam L fam j L = .gh := fun j => by simp [rfam]
 have hpne : ∀ p ∈ lpx, p.1 ≠ l' := fun p hp e => hexl (e ▸ (hlpx p hp).1)
 -- the context of the round
 have hrec0 : ∀ lp : List (Nat × Obj × Nat × Obj), (∀ p ∈ lp, p ∈ lpx ∨ p = (l', .loop R, L, .loop R2)) → RecOk (subY z ρ σ w (L :: ks) (l' :: exx) lp) (resS (L :: ks) σ) w := by
  intro lp hlps
  refine ⟨fun b hb => ?_, fun p hp => ?_, fun p hp => by cases hp⟩
  ·have := (hF.rcd.loop b (hex b hb)).2
   exact ⟨this, this⟩
  ·rcases hlps p hp with h | h
   ·obtain ⟨g1, g2, g3⟩ := hF.rcd.rdy p (hlp p (by simp [h]))
    have hm : p.2.2.1 ∈ L :: ks := by simp [(hlpx p h).2]
    refine ⟨by simp [(hlpx p h).1], ?_, ?_⟩
    ·show resS (L :: ks) σ p.2.2.1 ≠ .free
     rw [resS_in hm]
     rcases g3 with ⟨e, _⟩ | ⟨e, _⟩ <;> rw [e] <;> simp
    ·rw [resS_in hm]; exact g3
   ·subst h
    refine ⟨by simp, ?_, .inl ⟨?_, hrec⟩⟩
    ·show resS (L :: ks) σ L ≠ .free
     rw [resS_in (by simp), hgh]; simp
    ·show resS (L :: ks) σ L = _
     rw [resS_in (by simp)]; exact hgh
 have hw0 : ∀ k ∈ L :: ks, ∀ o, σ k = .live o → o.rows.all (wil (L :: ks)) = true := by
  intro k hk o ho
  rcases List.mem_cons.1 hk with rfl | hk
  ·rw [hgh] at ho; cases ho
  ·rw [hσ k (Nat.le_of_lt (hfam.lt k hk))] at ho
   have hne : k ≠ L := by have := hfam.lt k hk; omega
   simp only [stg, if_neg hne] at ho
   have := hfam.wi i k o ho
   rw [List.all_eq_true] at this ⊢
   intro row hrow
   exact wil_mono (fun q hq => by simp [hq]) row (this row hrow)
 have hEy : ∀ q, q < nt → CR (z.Gd ρ σ) ρ σ w (E q) (t0.getD q undef) := fun q hq => (hE q hq).keeps0 hK
 obtain ⟨f0, hcr0⟩ := frm_res (hrec0 ((l', .loop R, L, .loop R2) :: lpx) (by intro p hp; rcases List.mem_cons.1 hp with h | h; exact .inr h; exact .inl h)) hF hw0
 obtain ⟨y, hyd⟩ : ∃ y : Ctx, y = { subY z ρ σ w (L :: ks) (l' :: exx) ((l', .loop R, L, .loop R2) :: lpx) with nt := nt, rnd := some l', Y := Yo } := ⟨_, rfl⟩
 obtain ⟨y2, hyd2⟩ : ∃ y2 : Ctx, y2 = { subY z ρ σ w (L :: ks) (l' :: exx) ((l', .loop { R with state := .busy }, L, .loop R2) :: lpx) with nt := nt, rnd := some l', Y := Yo } := ⟨_, rfl⟩
 have fy : Frm y ρ (rfam L fam i) w := by rw [hyd, ← hres]; exact f0.lps
 have hGd : ∀ ρ' τ b, y2.Gd ρ' τ b ↔ y.Gd ρ' τ b := by intro ρ' τ b; rw [hyd, hyd2]; exact Iff.rfl
 -- yields of outer loops
 have hYy : ∀ yy : Ctx, (∃ o o', yy = { subY z ρ σ w (L :: ks) (l' :: exx) ((l', o, L, o') :: lpx) with nt := nt, rnd := some l', Y := Yo }) → YOk P yy := by
  rintro yy ⟨o, o', rfl⟩
  refine ⟨hgk.less fun b ⟨k, o, e1, e2, e3⟩ => ⟨k, o, (resS_live (ks := L :: ks) (σ := σ) e1 (by simp)).2, e2, e3⟩, ?_⟩
  rcases hYo with h | ⟨tq, exo, lpo, g1, g2, g3, g3', g4, g5, g6⟩
  ·exact .inl h
  ·refine .inr ⟨tq, exo, lpo, fun b hb => by simp [g1 b hb], fun p hp => by simp [g2 p hp], fun p hp he => ?_, fun p hp hn => ?_, fun k hk => ?_, ?_, g6⟩
   ·rcases List.mem_cons.1 hp with h | h
    ·subst h; exact absurd (g1 _ he) hexl
    ·exact g3 p h he
   ·rcases List.mem_cons.1 hp with h | h
    ·subst h
     apply Classical.byContradiction
     intro hh
     exact hLks (g4 L hh)
    ·exact g3' p h hn
   ·have hm := g4 k hk
    show resS (L :: ks) σ k ≠ .free
    rw [resS_in (by simp [hm]), hσ k (Nat.le_of_lt (hfam.lt k hm))]
    have hne : k ≠ L := by have := hfam.lt k hm; omega
    simp only [stg, if_neg hne]
    exact hfam.st i k hm
   ·have hk := g5.trans hK
    refine ⟨fun b hb hlt => ?_, fun k hd => ?_, fun k o hk' => ?_⟩
    ·obtain ⟨q1, q2, q3⟩ := hk.pure b hb hlt
     refine ⟨⟨.inl q1, fun ho => q1.2 ?_⟩, q2, q3⟩
     obtain ⟨k, o, e1, e2, e3⟩ := ho
     exact ⟨k, o, (resS_live (ks := L :: ks) (σ := σ) e1 (by simp)).2, e2, e3⟩
    ·have hm : k ∈ L :: ks := by simp [g4 k (by rw [hd]; simp)]
     show resS (L :: ks) σ k = .dead
     rw [resS_in hm]; exact hk.dead k hd
    ·have hm : k ∈ L :: ks := by simp [g4 k (by rw [hk']; simp)]
     show resS (L :: ks) σ k = .dead ∨ ∃ o', resS (L :: ks) σ k = .live o' ∧ _
     rw [resS_in hm]; exact hk.live k o hk'
 have RX : RndX y nt l' L (rfam L fam i) Yo exx lpx := by rw [hyd]; exact ⟨rfl, rfl, hres, rfl, rfl, _, _, rfl⟩
 have RX2 : RndX y2 nt l' L (rfam L fam i) Yo exx lpx := by rw [hyd2]; exact ⟨rfl, rfl, hres, rfl, rfl, _, _, rfl⟩
 -- the slots as it begins
 have hslots := putPs_sound (G := y.Gd ρ (rfam L fam i)) (ρ := ρ) (σ := rfam L fam i) (w := w) (nt := nt) ps.toList args us.toList E t0 (by rw [hus.1.symm]; simp) ht0
  (fun q hq => by
   have := hcr0 _ _ (wi_mono (fun q hq => by simp [hq]) (E q) (hEw q)) (hEy q hq)
   rw [hres] at this
   rw [hyd]; exact this)
  (fun j c u h1 h2 => by
   have hj := hus.2 j c h1
   have hu : us.getD j undef = u := by
    rw [Array.getD_eq_getD_getElem?]
    have : us[j]? = some u := by simpa using h2
    rw [this]; rfl
   rw [hu] at hj
   have := hcr0 _ _ (pure_wi (L :: ks) c (purel_get hpu h1)) hj
   rw [hres] at this
   rw [hyd]; exact this)
 obtain ⟨T, hT⟩ : ∃ T, T = (R.params.zip us).foldl (fun tmps (p : Tmp × Value) => tmps.setIfInBounds p.1 p.2) R.tmps := ⟨_, rfl⟩
 have hTl : T = (ps.toList.zip us.toList).foldl (fun t (p : Nat × Value) => t.setIfInBounds p.1 p.2) t0 := by
  rw [hT, hR, ← Array.foldl_toList, Array.toList_zip]
 have hsim : Sim y ρ ⟨putPs E ps.toList args, rfam L fam i⟩ ⟨T, []⟩ w := by
  refine { fy with nt := ?_, defers := ⟨[], rfl, by simp, by simp⟩, inr := (fun l0 h => by rw [RX.rnd] at h; cases h; rw [RX.ex]; simp), env := fun q hq => ?_ }
  ·rw [RX.nt, hTl]; exact hslots.1
  ·rw [RX.nt] at hq
   rw [hTl]; exact hslots.2 q hq
 refine ⟨_, _, _, _, run_yield hrec hsize, ?_⟩
 refine roundIn_of_wpIn (F := Fx none) trivial ?_
 have hA := hround i args hit hi y y2 RX RX2 (hYy y ⟨_, _, hyd⟩) ρ ⟨T, []⟩ w hsim
 rw [RX.rnd] at hA
 have hR1 : R.assign = assign ∧ R.body = body := by rw [hR]; exact ⟨rfl, rfl⟩
 rw [hR1.1, hR1.2]
 have hTe : (R.params.zip us).foldl (fun tmps x => match x with | (t, a) => tmps.setIfInBounds t a) R.tmps = T := hT.symm
 rw [hTe]
 refine wpIn_mono (F := Fx (some l')) hA ?_
 rintro e a1 w1 ⟨ρ1, s1, hs1, hq⟩
 cases e with
 | normal =>
  obtain ⟨hL1, hq⟩ := hq
  have hrec1 : w1.heap[l']? = some (.loop R) := by
   have := hs1.rcd.rdy (l', .loop R, L, .loop R2) (by rw [hyd]; simp)
   rcases this.2.2 with ⟨_, e⟩ | ⟨e, _⟩
   ·exact e
   ·rw [hL1] at e; cases e
  refine ⟨_, run_beginRound hrec1 (by rw [hR]), ?_⟩
  obtain ⟨hk2, hf2⟩ := hs1.toFrm.setLoop (r' := { R with state := .busy }) (lp := (l', .loop { R with state := .busy }, L, .loop R2) :: lpx) hrec1 (.inl (by rw [RX.ex]; simp)) (fun p hp => by
   rcases List.mem_cons.1 hp with h | h
   ·subst h
    refine ⟨by rw [RX.ex]; simp, by rw [RX.σ, hrfL]; simp, .inl ⟨hL1, World.putObj_heap_same (Array.getElem?_eq_some_iff.1 hrec1).1⟩⟩
   ·obtain ⟨q1, q2, q3⟩ := hs1.rcd.rdy p (by rw [hyd]; simp [h])
    rw [World.putObj_heap_other (hpne p h)]
    exact ⟨q1, q2, q3⟩)
  have hs2 : Sim y2 ρ1 s1 a1 (w1.putObj l' (.loop { R with state := .busy })) := by
   have hf2' : Frm y2 ρ1 s1.sto (w1.putObj l' (.loop { R with state := .busy })) := by
    have := hf2
    rw [hyd] at this
    rw [hyd2]; exact this
   obtain ⟨Ds, d1, d2, d3⟩ := hs1.defers_keeps hk2
   refine { hf2' with nt := by rw [hs1.nt, RX.nt, RX2.nt], defers := ⟨Ds, d1, d2, fun D hD => ⟨?_, (d3 D hD).2⟩⟩, inr := (fun l0 h => by rw [RX2.rnd] at h; cases h; rw [RX2.ex]; simp), env := fun q hq => ?_ }
   ·have := (d3 D hD).1
    rw [hyd] at this
    rw [hyd2]; exact this
   ·have := (hs1.env q (by rw [RX.nt]; rw [RX2.nt] at hq; exact hq)).keeps hk2
    rw [hyd] at this
    rw [hyd2]; exact this
  have hB := hq (hYy y2 ⟨_, _, hyd2⟩) ρ1 a1 _ hs2
  rw [RX2.rnd] at hB
  refine wpIn_mono (F := Fx (some l')) hB ?_
  rintro e a3 w3 ⟨ρ3, s3, hs3, hcase, hwk⟩
  obtain ⟨ρ4, hs4⟩ := hwk ρ3 a3 w3 hs3
  have hbusy : w3.heap[l']? = some (.loop { R with state := .busy }) := by
   have := hs4.rcd.rdy (l', .loop { R with state := .busy }, L, .loop R2) (by rw [hyd2]; simp)
   rcases this.2.2 with ⟨_, e⟩ | ⟨e, _⟩
   ·exact e
   ·have e2 : rfam L fam (i + 1) L = .dead := e
    rw [hrfL] at e2; cases e2
  -- back to the function that called
  obtain ⟨fj, hfj⟩ : ∃ fj : Option Code → Loop, fj = fun jump => { R with state := if jump.isNone then .ready else .done, pending := jump } := ⟨_, rfl⟩
  have hset : ∀ jump : Option Code, Frm (subY z ρ σ w (L :: ks) (l' :: exx) lpx) ρ4 (rfam L fam (i + 1)) (w3.putObj l' (.loop (fj jump))) := by
   intro jump
   obtain ⟨hk5, hf5⟩ := hs4.toFrm.setLoop (r' := fj jump) (lp := lpx) hbusy (.inl (by rw [RX2.ex]; simp)) (fun p hp => by
    obtain ⟨q1, q2, q3⟩ := hs4.rcd.rdy p (by rw [hyd2]; simp [hp])
    rw [World.putObj_heap_other (hpne p hp)]
    exact ⟨q1, q2, q3⟩)
   have := hf5.lps (n := 0) (r := none) (Y := fun _ _ _ _ _ => False)
   rw [hyd2] at this
   exact this
  have back : ∀ (jump : Option Code) (σ1 : Nat → Slot), Frm (subY z ρ σ w (L :: ks) (l' :: exx) lpx) ρ4 σ1 (w3.putObj l' (.loop (fj jump))) → (∀ k, k ∉ L :: ks → σ1 k = .free) → (∀ k ∈ ks, σ1 k = fam (i + 1) k) → (σ1 L = if i + 1 ≤ stop then .gh else .dead) → (jump = none ↔ i ≠ stop) → (i = stop → jump = some jc) →
    ∃ v w', (Instr.endRound l' jump).run P w3 = .ok v w' ∧ ∃ v' ρ', Ending.returned v = .returned v' ∧ Keeps (z.Gd ρ σ) (z.Gd ρ' fun k => if L ≤ k then stg L fam stop (i + 1) k else σ k) ρ ρ' σ (fun k => if L ≤ k then stg L fam stop (i + 1) k else σ k) w w' ∧
     Frm z ρ' (fun k => if L ≤ k then stg L fam stop (i + 1) k else σ k) w' ∧ CR (z.Gd ρ' fun k => if L ≤ k then stg L fam stop (i + 1) k else σ k) ρ' (fun k => if L ≤ k then stg L fam stop (i + 1) k else σ k) w' (.bool (i != stop)) v' := by
   intro jump σ1 hf6 hout hin hL hj hjc
   refine ⟨_, _, run_endRound jump hbusy, ?_⟩
   have hfje : ({ ({ R with state := .busy } : Loop) with state := if jump.isNone then .ready else .done, pending := jump } : Loop) = fj jump := by rw [hfj]
   rw [hfje]
   have heq := ov_stg (σ := σ) (σ1 := σ1) hfam hσ hL hin
   have hnl : ∀ b r, w.heap[b]? = some (.loop r) → ¬ Owned ρ (resS (L :: ks) σ) b := by
    rintro b r hb ⟨k, o, e1, e2, rfl⟩
    have := (f0.sto.ob k o e1 e2).noOdd hb
    simp [oddO] at this
   obtain ⟨ρ', hK7, hF7, _⟩ := frm_ov (x := z) (fun b hb => ⟨(hF.rcd.loop b (hex b hb)).2, .inl (hex b hb)⟩) hF hout hf6 fun G' ρ' hk7 => by
    refine ⟨fun b hb => ⟨(hF.rcd.loop b hb).1, ?_⟩, fun p hp => ?_, fun p hp => ?_⟩
    rotate_right
    ·obtain ⟨e0, e2⟩ := hF.rcd.itr p hp
     refine ⟨e0, ?_⟩
     have hno : ¬ Owned ρ (resS (L :: ks) σ) p.1 := by
      rintro ⟨k, o, q1, q2, q3⟩
      have h1 := (f0.sto.ob k o q1 q2).noOdd (by rw [q3]; exact e2)
      rw [recO_odd (isIt_rec e0)] at h1; cases h1
     have hnx : p.1 ∉ l' :: exx := by
      intro hm
      obtain ⟨r, hr⟩ := (hF.rcd.loop p.1 (hex p.1 hm)).2
      rw [hr] at e2; rw [← Option.some.inj e2] at e0; cases e0
     exact (hf6.frame p.1 (Array.getElem?_eq_some_iff.1 e2).1 hno hnx).trans e2
    ·by_cases hm : b ∈ l' :: exx
     ·exact (hf6.rcd.loop b hm).2
     ·obtain ⟨r, hr⟩ := (hF.rcd.loop b hb).2
      exact ⟨r, (hf6.frame b (Array.getElem?_eq_some_iff.1 hr).1 (hnl b r hr) hm).trans hr⟩
    ·obtain ⟨q1, q2, q3⟩ := hF.rcd.rdy p hp
     by_cases hm : p.1 ∈ l' :: exx
     ·rcases List.mem_cons.1 (hlp' p hp hm) with h | h
      ·subst h
       refine ⟨q1, q2, ?_⟩
       have hsm : (w3.putObj l' (.loop (fj jump))).heap[l']? = some (.loop (fj jump)) := World.putObj_heap_same (Array.getElem?_eq_some_iff.1 hbusy).1
       by_cases hst : i = stop
       ·right
        refine ⟨by rw [ovS_in (by simp), hL, if_neg (by omega)], ?_⟩
        rw [hsm, hfj, hjc hst, hR, hR2]
        rfl
       ·left
        refine ⟨by rw [ovS_in (by simp), hL, if_pos (by omega)], ?_⟩
        rw [hsm, hfj, hj.2 hst, hR]
        rfl
      ·obtain ⟨g1, g2, g3⟩ := hf6.rcd.rdy p h
       have hmk : p.2.2.1 ∈ L :: ks := by simp [(hlpx p h).2]
       refine ⟨q1, q2, ?_⟩
       rw [ovS_in hmk]; exact g3
     ·obtain ⟨r, hr⟩ := (hF.rcd.loop p.1 q1).2
      have hsame := hf6.frame p.1 (Array.getElem?_eq_some_iff.1 hr).1 (hnl _ r hr) hm
      refine ⟨q1, q2, ?_⟩
      rw [hsame]
      rcases q3 with ⟨e1, e2⟩ | ⟨e1, e2⟩
      ·left
       refine ⟨?_, e2⟩
       by_cases hmk : p.2.2.1 ∈ L :: ks
       ·refine absurd (hlpf p hp fun hin' => hm ?_) (htk _ hmk)
        rcases List.mem_cons.1 hin' with h | h
        ·rw [h]; simp
        ·simp [(hlpx p h).1]
       ·rw [ovS_out hmk]; exact e1
      ·exact .inr ⟨hk7.dead _ e1, e2⟩
   rw [heq] at hK7 hF7
   refine ⟨_, ρ', rfl, hK7, hF7, ?_⟩
   have hb : jump.isNone = (i != stop) := by
    rw [Bool.eq_iff_iff]
    simp [hj]
   rw [hb]
   exact .pure (.bool _)
  have hfo : ∀ k, k ∉ L :: ks → rfam L fam (i + 1) k = .free := by
   intro k hk
   simp only [List.mem_cons, not_or] at hk
   simp [rfam, hk.1, hfam.out _ k hk.2]
  by_cases hst : i = stop
  ·rw [if_pos hst] at hcase
   obtain ⟨hfz, _⟩ := (hset (some jc)).over (L := L) (hrfL _) (fun p hp e => hLks (e ▸ (hlpx p hp).2))
   have hb := back (some jc) _ hfz (fun k hk => by
    simp only [List.mem_cons, not_or] at hk
    rw [upd_ne _ _ hk.1]; exact hfo k (by simp [hk])) (fun k hk => by
    rw [upd_ne _ _ (by have := hfam.lt k hk; omega)]; exact hrfk hk) (by rw [upd_same, if_neg (by omega)]) (by simp [hst]) (fun _ => rfl)
   cases e <;> simp only [jumpOf, Option.some.injEq, reduceCtorEq] at hcase
   all_goals
    subst hcase
    exact hb
  ·rw [if_neg hst] at hcase
   subst hcase
   exact back none _ (hset none) hfo (fun k hk => hrfk hk) (by rw [hrfL, if_pos (by omega)]) (by simp [hst]) (fun h => absurd h hst)
 | _ => exact hq.elim

end
end Go.Abs

/- Iterators by contract, and the statement 'for .. := range f'. No condition. -/
namespace Go.Abs

def finI (stop n : Nat) : Nat := if stop < n then stop + 1 else n

structure ItC (P : Program) (L : Nat) (gf : FuncId) (first caps : List C) (items : List (List C)) : Prop extends Callable P gf where
 run : ∀ (x : Ctx) (v1 v2 : Array Value) (l : Nat) (ks : List Nat) (fam : Nat → Nat → Slot) (stop : Nat), stop ≤ items.length → FamOk L ks fam → x.σ = stg L fam stop 0 → GkO P x.ρ x.σ x.w → Frm x x.ρ x.σ x.w →
  CL (x.Gd x.ρ x.σ) x.ρ x.σ x.w first v1 → CL (x.Gd x.ρ x.σ) x.ρ x.σ x.w caps v2 →
  (∃ (t : Start) (ex : List Nat) (lp : List (Nat × Obj × Nat × Obj)), (∀ b ∈ ex, b ∈ x.ex) ∧ (∀ p ∈ lp, p ∈ x.lp) ∧ (∀ p ∈ x.lp, p.1 ∈ ex → p ∈ lp) ∧ (∀ p ∈ x.lp, p ∉ lp → t.σ p.2.2.1 = .free) ∧ (∀ k, t.σ k ≠ .free → x.σ k ≠ .free) ∧ Keeps0 t.G (x.Gd x.ρ x.σ) t.ρ x.ρ t.σ x.σ t.w x.w ∧ YC P (yrel L fam items stop l) t ex lp) →
  Calls P gf (v1 ++ #[.func (.yield l) #[] #[]] ++ v2) x.w fun e w' => ∃ v ρ', e = .returned v ∧ Frm x ρ' (stg L fam stop (finI stop items.length)) w'

theorem CL_app {G : Nat → Prop} {ρ : Nat → Nat} {σ : Nat → Slot} {w : World} {a b : List C} {v u : Array Value} (h : CL G ρ σ w a v) (g : CL G ρ σ w b u) : CL G ρ σ w (a ++ b) (v ++ u) := by
 refine ⟨by simp only [Array.size_append, List.length_append, h.1, g.1], fun i c hi => ?_⟩
 have e1 := h.1
 simp only [Array.getD_eq_getD_getElem?]
 by_cases g1 : i < a.length
 ·rw [List.getElem?_append_left g1] at hi
  rw [Array.getElem?_append_left (by omega)]
  have := h.2 i c hi
  simpa [Array.getD_eq_getD_getElem?] using this
 ·rw [List.getElem?_append_right (by omega)] at hi
  rw [Array.getElem?_append_right (by omega), e1]
  have := g.2 _ c hi
  simpa [Array.getD_eq_getD_getElem?] using this

section
variable {P : Program}

theorem it_of {f : FuncId} {fn : Func} {c : Code} {first caps : List C} {items : List (List C)} {L : Nat} (res : List ResultVar) (hf : FnIs P f fn c) (hlen : Nat.ble (first.length + 1 + caps.length) fn.ntmps = true) (hrs : fn.results.toList = res) (hres : resNt fn.ntmps res = true)
  (h : ∀ x : Ctx, x.nt = fn.ntmps → ∀ (l : Nat) (ks : List Nat) (fam : Nat → Nat → Slot) (stop : Nat), x.rnd = none → stop ≤ items.length → FamOk L ks fam → x.σ = stg L fam stop 0 → x.Y = yrel L fam items stop l →
   AWP P x c ⟨envOf (first ++ [.fn (.yield l) [] []] ++ caps), stg L fam stop 0⟩ fun e s => (e = .normal ∨ e = .ret) ∧ (∃ d, retC P s res = some d) ∧ Wk x s ⟨fun _ => .any, stg L fam stop (finI stop items.length)⟩) : ItC P L f first caps items := by
 refine { hf.callable with run := fun x v1 v2 l ks fam stop hstop hfam hx0 hgk hfrm hc1 hc2 hyc => ?_ }
 subst hrs
 refine calls_of_awp hf.func hf.body ?_
 obtain ⟨y, hy⟩ : ∃ y : Ctx, y = { x with nt := fn.ntmps, rnd := none, Y := yrel L fam items stop l } := ⟨_, rfl⟩
 have hcl : CL (x.Gd x.ρ x.σ) x.ρ x.σ x.w (first ++ [.fn (.yield l) [] []] ++ caps) (v1 ++ #[.func (.yield l) #[] #[]] ++ v2) := by
  refine CL_app (CL_app hc1 ⟨rfl, fun i c hi => ?_⟩) hc2
  have : i = 0 := by
   have := (List.getElem?_eq_some_iff.1 hi).1
   simp at this; exact this
  subst this
  simp at hi; subst hi
  exact .fn rfl rfl (by simp) (by simp)
 have hfy : Frm y y.ρ y.σ y.w := by rw [hy]; exact hfrm.lps
 have hsim := sim_enterX (x := y) (nt := fn.ntmps) hfy (by rw [hy]; exact hcl) (by have := Nat.le_of_ble_eq_true hlen; simp; omega) (by rw [hy]) (by rw [hy])
 have hyok : YOk P y := by
  rw [hy]
  obtain ⟨t, ex, lp, g1, g2, g3, g4, g4', g5, g6⟩ := hyc
  exact ⟨hgk, .inr ⟨t, ex, lp, g1, g2, g3, g4, g4', g5, g6⟩⟩
 have hyσ : y.σ = stg L fam stop 0 := by rw [hy]; exact hx0
 have hA := h y (by rw [hy]) l ks fam stop (by rw [hy]) hstop hfam hyσ (by rw [hy]) hyok y.ρ _ y.w (by rw [← hyσ]; exact hsim)
 have hr : y.rnd = none := by rw [hy]
 have hw : y.w = x.w := by rw [hy]
 rw [hr, hw] at hA
 refine wpIn_mono hA ?_
 rintro e a w1 ⟨ρ, s, hs1, he, ⟨d, hd⟩, hwk⟩
 refine ⟨he, leave_sim hs1 fun w' hs => ?_⟩
 have hnt : y.nt = fn.ntmps := by rw [hy]
 obtain ⟨v, h1, h2⟩ := retC_sound (P := P) hs (by rw [hnt]; exact hres) hd
 obtain ⟨ρ', hs'⟩ := hwk ρ _ w' hs
 have hf' := hs'.toFrm
 rw [hy] at hf'
 exact ⟨v, h1, v, ρ', rfl, ⟨hf'.sto, hf'.own, hf'.frame, ⟨hf'.rcd.loop, hf'.rcd.rdy, hf'.rcd.itr⟩, hf'.size, hf'.os, hf'.tape, hf'.output, hf'.hist⟩⟩

theorem wi_or {ks : List Nat} {E : Nat → C} {env : Nat → C} {G : Nat → Prop} {ρ : Nat → Nat} {σ : Nat → Slot} {w : World} {q : Nat} {v : Value} (hE : (E q).wi ks = true ∧ (E q = env q ∨ E q = .any)) (h : CR G ρ σ w (env q) v) : CR G ρ σ w (E q) v := by
 rcases hE.2 with e | e
 ·rw [e]; exact h
 ·rw [e]; exact .any _

theorem enter_loop {x : Ctx} {ρ : Nat → Nat} {s : AS} {a : Act} {w : World} (hs : Sim x ρ s a w) (fn : FuncId) (ps : Array Tmp) (assign body : Code) :
  ∃ (l : Nat) (Ds : List Nat) (D : Nat) (W1 : World), (Instr.enterLoop fn a.tmps ps assign body x.rnd).run P w = .ok (l, marks Ds) W1 ∧ Keeps (x.Gd ρ s.sto) (x.Gd ρ s.sto) ρ ρ s.sto s.sto w W1 ∧ Frm x ρ s.sto W1 ∧
   W1.heap[l]? = some (.loop { state := .ready, pending := none, fn := fn, tmps := a.tmps, params := ps, assign := assign, body := body, defers := D }) ∧ x.w.heap.size ≤ l ∧ l ∉ x.ex ∧
   (∀ D ∈ Ds, w.heap.size ≤ D ∧ W1.heap[D]? = some (.deferred (some []))) ∧ Ds.Nodup := by
 have hsz := hs.size
 have hnex : ∀ l, w.heap.size ≤ l → l ∉ x.ex := by
  intro l hl hm
  obtain ⟨r, hr⟩ := (hs.rcd.loop l hm).2
  have := (Array.getElem?_eq_some_iff.1 hr).1
  omega
 cases hr : x.rnd with
 | none =>
  obtain ⟨k1, f1⟩ := hs.toFrm.alloc (.deferred (some []))
  obtain ⟨k2, f2⟩ := f1.alloc (.loop { state := .ready, pending := none, fn := fn, tmps := a.tmps, params := ps, assign := assign, body := body, defers := w.heap.size })
  refine ⟨w.heap.size + 1, [w.heap.size], w.heap.size, _, run_enterLoop_outer _ _ _ _ _, k1.trans k2, f2, ?_, by omega, hnex _ (by omega), ?_, by simp⟩
  ·have := World.alloc_heap_new (w.alloc (.deferred (some []))) (.loop { state := .ready, pending := none, fn := fn, tmps := a.tmps, params := ps, assign := assign, body := body, defers := w.heap.size })
   rwa [World.size_alloc] at this
  ·intro D hD
   simp at hD; subst hD
   exact ⟨Nat.le_refl _, k2.dfr _ (World.alloc_heap_new w _)⟩
 | some l0 =>
  obtain ⟨r0, hr0⟩ := (hs.rcd.loop l0 (hs.inr l0 hr)).2
  obtain ⟨k2, f2⟩ := hs.toFrm.alloc (.loop { state := .ready, pending := none, fn := fn, tmps := a.tmps, params := ps, assign := assign, body := body, defers := r0.defers })
  exact ⟨w.heap.size, [], r0.defers, _, run_enterLoop_inner hr0 _ _ _ _ _, k2, f2, World.alloc_heap_new w _, hsz, hnex _ (Nat.le_refl _), by simp, by simp⟩

end
end Go.Abs

/- The statement 'for .. := range f'. No condition. -/
namespace Go.Abs
section
variable {P : Program}

theorem run_rangeCall {gf : FuncId} {v1 v2 : Array Value} {a : Act} {g : Operand} {l : Nat} {w : World} (hg : a.eval g = .func (.func gf) v1 v2) (hc : Callable P gf) :
  ∃ d, (resolve a.eval (rangeCall g l) 0).run P w = .ok d w ∧ (invoke d.target d.args).run P w = .ok (.enter gf (v1 ++ #[.func (.yield l) #[] #[]] ++ v2)) w := by
 refine ⟨_, by simp only [resolve, rangeCall, hg, Deferred.ofValue, Sem.run_bind, Sem.run_pure, Result.andThen_ok]; rfl, ?_⟩
 simp only [invoke]
 have := run_callFunc hc (v1 ++ #[.func (.yield l) #[] #[]] ++ v2) w
 simpa [Act.eval] using this

theorem awp_range {x : Ctx} {g : Operand} {ps : Array Tmp} {assign body : Code} {s : AS} {Q : Exit → AS → Prop} (L : Nat) (ks : List Nat) (fam : Nat → Nat → Slot) (items : List (List C)) (stop : Nat) (jc : Code) (E : Nat → C) {gf : FuncId} {first caps : List C}
  (hg : s.ev g = .fn (.func gf) first caps) (hgt : ∀ t, g = .tmp t → t < x.nt) (hpu : purel first = true ∧ purel caps = true) (hit : ItC P L gf first caps items) (hstop : stop ≤ items.length) (hfam : FamOk L ks fam)
  (hL : s.sto L = .free) (h0 : ∀ k ∈ ks, s.sto k = fam 0 k) (hE : ∀ q, (E q).wi ks = true ∧ (E q = s.env q ∨ E q = .any)) (hps : ∀ args ∈ items, purel args = true ∧ args.length = ps.size)
  (hxk : ∀ k, x.σ k ≠ .free → k ∈ ks)
  (hround : ∀ i args, items[i]? = some args → i ≤ stop → ∀ (l : Nat) (y y2 : Ctx), RndX y x.nt l L (rfam L fam i) x.Y x.ex x.lp → RndX y2 x.nt l L (rfam L fam i) x.Y x.ex x.lp →
   AWP P y assign ⟨putPs E ps.toList args, rfam L fam i⟩ (nextQ (fun s' => s'.sto L = .gh ∧ AWP P y2 body s' (rndQ y2 L fam stop jc i)) fun _ _ => False))
  (hdone : stop = items.length → Q .normal ⟨s.env, ovS (L :: ks) s.sto (stg L fam stop items.length)⟩)
  (hjump : stop < items.length → AWP P x jc ⟨s.env, ovS (L :: ks) s.sto (stg L fam stop (stop + 1))⟩ Q) : AWP P x (.rangeFunc g ps assign body) s Q := by
 intro hY ρ a w hs
 refine wpIn_rangeFunc (F := Fx x.rnd) (n := 0) fun fn _ => ?_
 obtain ⟨l, Ds, D, W1, hrun, hk1, hf1, hrec, hlb, hlex, hDs, hDn⟩ := enter_loop hs fn ps assign body
 have hgv := hs.ev g hgt
 rw [hg] at hgv
 obtain ⟨v1, v2, hfv, hc1, hc2⟩ := hgv.fnOf
 obtain ⟨d, hres, hinv⟩ := run_rangeCall (a := a) (l := l) (w := W1) hfv hit.toCallable
 obtain ⟨R, hR⟩ : ∃ R : Loop, R = { state := .ready, pending := none, fn := fn, tmps := a.tmps, params := ps, assign := assign, body := body, defers := D } := ⟨_, rfl⟩
 obtain ⟨R2, hR2⟩ : ∃ R2 : Loop, R2 = { state := .done, pending := some jc, fn := fn, tmps := a.tmps, params := ps, assign := assign, body := body, defers := D } := ⟨_, rfl⟩
 rw [← hR] at hrec
 refine ⟨l, marks Ds, W1, d, W1, gf, _, W1, hrun, hres, fun _ _ => trivial, hinv, fx_depth, ?_⟩
 refine calls_fx ?_
 have hLks : L ∉ ks := fun h => absurd (hfam.lt L h) (Nat.lt_irrefl _)
 -- the slot that says that the loop is on
 obtain ⟨σ0, hσ0⟩ : ∃ σ0, σ0 = upd s.sto L .gh := ⟨_, rfl⟩
 have hlv : ∀ k o, σ0 k = .live o ↔ s.sto k = .live o := by
  intro k o
  rw [hσ0]
  by_cases e : k = L
  ·subst e; rw [upd_same, hL]; simp
  ·rw [upd_ne _ _ e]
 have hown : ∀ b, Owned ρ σ0 b ↔ Owned ρ s.sto b := by
  intro b
  constructor
  ·rintro ⟨k, o, e1, e2, e3⟩; exact ⟨k, o, (hlv k o).1 e1, e2, e3⟩
  ·rintro ⟨k, o, e1, e2, e3⟩; exact ⟨k, o, (hlv k o).2 e1, e2, e3⟩
 have hK0 : Keeps (x.Gd ρ s.sto) (x.Gd ρ σ0) ρ ρ s.sto σ0 W1 W1 := by
  refine .of (fun D hD => hD) ⟨fun b hb hlt => ⟨⟨hb.1, fun ho => hb.2 ((hown b).1 ho)⟩, hlt, .inl rfl⟩, fun k hk => ?_, fun k o hk => .inr ⟨o, (hlv k o).2 hk, rfl, rfl, rfl, fun hn => ⟨rfl, fun cs el fz hc => ⟨_, _, _, hc, Nat.le_refl _⟩⟩⟩⟩
  have : k ≠ L := by rintro rfl; rw [hL] at hk; cases hk
  rw [hσ0, upd_ne _ _ this]; exact hk
 have hLlp : ∀ p ∈ x.lp, p.2.2.1 ≠ L := fun p hp e => hLks (e ▸ hxk _ (hf1.rcd.rdy p hp).2.1)
 have hf2 : Frm x ρ σ0 W1 := by
  refine ⟨⟨fun k o hk hn => (hf1.sto.ob k o ((hlv k o).1 hk) hn).keeps hK0.toKeeps0 rfl, fun k o hk hn => hf1.sto.nil k o ((hlv k o).1 hk) hn, fun k k' o o' hk hk' hn hn' he => hf1.sto.inj k k' o o' ((hlv k o).1 hk) ((hlv k' o').1 hk') hn hn' he⟩,
   fun b hb => hf1.own b ((hown b).1 hb), hf1.frame, ⟨hf1.rcd.loop, fun p hp => ?_, hf1.rcd.itr⟩, hf1.size, hf1.os, hf1.tape, hf1.output, hf1.hist.trans hK0.toKeeps0⟩
  obtain ⟨q1, q2, q3⟩ := hf1.rcd.rdy p hp
  refine ⟨q1, q2, ?_⟩
  rw [hσ0, upd_ne _ _ (hLlp p hp)]; exact q3
 have hkk := hk1.trans hK0
 have hst0 : resS (L :: ks) σ0 = stg L fam stop 0 := by
  funext k
  by_cases e : k = L
  ·subst e; rw [resS_in (by simp), hσ0]; simp [stg]
  ·by_cases hm : k ∈ ks
   ·rw [resS_in (by simp [hm]), hσ0, upd_ne _ _ e, h0 k hm]; simp [stg, e]
   ·rw [resS_out (by simp [e, hm])]; simp [stg, e, hfam.out 0 k hm]
 have hst : ∀ k ∈ L :: ks, stg L fam stop 0 k ≠ .free := by
  intro k hk
  rcases List.mem_cons.1 hk with rfl | hk
  ·simp [stg]
  ·have : k ≠ L := by have := hfam.lt k hk; omega
   simp only [stg, if_neg this]; exact hfam.st 0 k hk
 have hw0 : ∀ k ∈ L :: ks, ∀ o, σ0 k = .live o → o.rows.all (wil (L :: ks)) = true := by
  intro k hk o ho
  rcases List.mem_cons.1 hk with rfl | hk
  ·rw [hσ0, upd_same] at ho; cases ho
  ·have hne : k ≠ L := by have := hfam.lt k hk; omega
   rw [hσ0, upd_ne _ _ hne, h0 k hk] at ho
   have := hfam.wi 0 k o ho
   rw [List.all_eq_true] at this ⊢
   intro row hrow
   exact wil_mono (fun q hq => by simp [hq]) row (this row hrow)
 obtain ⟨lpn, hlpn⟩ : ∃ lpn, lpn = (l, Obj.loop R, L, Obj.loop R2) :: x.lp := ⟨_, rfl⟩
 have hrc0 : RecOk (subY x ρ σ0 W1 (L :: ks) (l :: x.ex) lpn) (resS (L :: ks) σ0) W1 := by
  refine ⟨fun b hb => ?_, fun p hp => ?_, fun p hp => by cases hp⟩
  ·rcases List.mem_cons.1 hb with rfl | hb
   ·exact ⟨⟨R, hrec⟩, ⟨R, hrec⟩⟩
   ·have := (hf2.rcd.loop b hb).2; exact ⟨this, this⟩
  ·rw [hlpn] at hp
   rcases List.mem_cons.1 hp with rfl | hp
   ·refine ⟨by simp, ?_, .inl ⟨?_, hrec⟩⟩
    ·show resS (L :: ks) σ0 L ≠ .free
     rw [hst0]; exact hst L (by simp)
    ·show resS (L :: ks) σ0 L = _
     rw [hst0]; simp [stg]
   ·obtain ⟨q1, q2, q3⟩ := hf2.rcd.rdy p hp
    have hm : p.2.2.1 ∈ L :: ks := by simp [hxk _ q2]
    refine ⟨by simp [q1], ?_, ?_⟩
    ·show resS (L :: ks) σ0 p.2.2.1 ≠ .free
     rw [hst0]; exact hst _ hm
    ·rw [resS_in hm]; exact q3
 obtain ⟨f0, hcr0⟩ := frm_res hrc0 hf2 hw0
 obtain ⟨z, hz⟩ : ∃ z : Ctx, z = subY x ρ σ0 W1 (L :: ks) (l :: x.ex) lpn := ⟨_, rfl⟩
 have hpne : ∀ p ∈ x.lp, p.1 ≠ l := fun p hp e => hlex (e ▸ (hf2.rcd.rdy p hp).1)
 -- what the rounds do
 have hyc : YC P (yrel L fam items stop l) ⟨z.Gd z.ρ z.σ, z.ρ, z.σ, z.w⟩ (l :: x.ex) lpn := by
  rw [hlpn, hR, hR2]
  refine yc_round (nt := x.nt) (E := E) (Yo := x.Y) hfam hps hlex (fun p hp => ⟨(hf2.rcd.rdy p hp).1, hxk _ (hf2.rcd.rdy p hp).2.1⟩) hs.nt ?_ ?_ (fun q => (hE q).1) ?_ (fun i args h1 h2 y y2 r1 r2 => hround i args h1 h2 l y y2 r1 r2)
  ·intro k hk
   rw [hz]
   show resS (L :: ks) σ0 k ≠ .free
   rw [hst0]; exact hst k hk
  ·intro q hq
   have h1 := wi_or (hE q) (hs.env q hq)
   have h2 := hcr0 _ _ (wi_mono (fun q hq => by simp [hq]) (E q) (hE q).1) (h1.keeps hkk)
   rw [hz]; exact h2
  ·rcases hY.2 with hn | ⟨tq, exo, lpo, g1, g2, g3, g3', gs, g4, g5⟩
   ·exact .inl hn
   ·refine .inr ⟨tq, exo, lpo, g1, g2, g3, g3', fun k hk => ?_, ?_, g5⟩
    ·exact hxk k (gs k hk)
    ·have hk := g4.trans hf2.hist
     have hkx : ∀ k, tq.σ k = .dead ∨ (∃ o, tq.σ k = .live o) → k ∈ L :: ks := by
      intro k hh
      have : x.σ k ≠ .free := by
       rcases hh with e' | ⟨o, e'⟩
       ·rw [g4.dead k e']; simp
       ·rcases g4.live k o e' with e2 | ⟨o', e2, _⟩ <;> rw [e2] <;> simp
      simp [hxk k this]
     rw [hz]
     refine ⟨fun b hb hlt => ?_, fun k hd => ?_, fun k o hk' => ?_⟩
     ·obtain ⟨q1, q2, q3⟩ := hk.pure b hb hlt
      refine ⟨⟨.inl q1, fun ho => q1.2 ?_⟩, q2, q3⟩
      obtain ⟨k, o, e1, e2, e3⟩ := ho
      exact ⟨k, o, (resS_live (ks := L :: ks) (σ := σ0) e1 (by simp)).2, e2, e3⟩
     ·show resS (L :: ks) σ0 k = .dead
      rw [resS_in (hkx k (.inl hd))]; exact hk.dead k hd
     ·show resS (L :: ks) σ0 k = .dead ∨ ∃ o', resS (L :: ks) σ0 k = .live o' ∧ _
      rw [resS_in (hkx k (.inr ⟨o, hk'⟩))]; exact hk.live k o hk'
 have hca : CL (z.Gd z.ρ z.σ) z.ρ z.σ z.w first v1 := by
  refine ⟨hc1.1, fun i c hi => ?_⟩
  rw [hz]
  exact hcr0 _ _ (pure_wi _ c (purel_get hpu.1 hi)) ((hc1.2 i c hi).keeps hkk)
 have hcb : CL (z.Gd z.ρ z.σ) z.ρ z.σ z.w caps v2 := by
  refine ⟨hc2.1, fun i c hi => ?_⟩
  rw [hz]
  exact hcr0 _ _ (pure_wi _ c (purel_get hpu.2 hi)) ((hc2.2 i c hi).keeps hkk)
 have hzf : Frm z z.ρ z.σ z.w := by rw [hz]; exact f0
 have hgz : GkO P z.ρ z.σ z.w := by
  rw [hz]
  exact (hY.1.at hf2).less fun b ⟨k, o, e1, e2, e3⟩ => ⟨k, o, (resS_live (ks := L :: ks) (σ := σ0) e1 (by simp)).2, e2, e3⟩
 have hcall := hit.run z v1 v2 l ks fam stop hstop hfam (by rw [hz]; exact hst0) hgz hzf hca hcb
  ⟨_, l :: x.ex, lpn, by rw [hz]; exact fun b hb => hb, by rw [hz]; exact fun p hp => hp, by rw [hz]; exact fun p hp _ => hp, by rw [hz]; exact fun p hp hn => absurd hp hn, fun k hk => hk, .refl .., hyc⟩
 have hzw : z.w = W1 := by rw [hz]
 rw [hzw] at hcall
 refine hcall.mono ?_
 rintro e w3 ⟨v, ρ1, rfl, hf3⟩
 -- behind it
 have hrec3 := hf3.rcd.rdy (l, Obj.loop R, L, Obj.loop R2) (by rw [hz, hlpn]; simp)
 have hloop3 : ∃ r3 : Loop, w3.heap[l]? = some (.loop r3) ∧ r3.state ≠ .busy ∧ r3.pending = (if stop < items.length then some jc else none) := by
  have hLs : stg L fam stop (finI stop items.length) L = if stop < items.length then .dead else .gh := by
   simp only [stg, if_pos, finI]
   split
   ·rw [if_neg (by omega)]
   ·rw [if_pos (by omega)]
  rw [hLs] at hrec3
  by_cases hlt : stop < items.length
  ·rw [if_pos hlt] at hrec3 ⊢
   rcases hrec3.2.2 with ⟨e, _⟩ | ⟨_, e⟩
   ·cases e
   ·exact ⟨R2, e, by rw [hR2]; simp, by rw [hR2]⟩
  ·rw [if_neg hlt] at hrec3 ⊢
   rcases hrec3.2.2 with ⟨_, e⟩ | ⟨e, _⟩
   ·exact ⟨R, e, by rw [hR]; simp, by rw [hR]⟩
   ·cases e
 obtain ⟨r3, hr3, hb3, hp3⟩ := hloop3
 obtain ⟨_, hf4⟩ := hf3.setLoop (r' := { r3 with state := .exhausted }) (lp := x.lp) hr3 (.inl (by rw [hz]; simp)) (fun p hp => by
  obtain ⟨q1, q2, q3⟩ := hf3.rcd.rdy p (by rw [hz, hlpn]; simp [hp])
  rw [World.putObj_heap_other (hpne p hp)]
  exact ⟨q1, q2, q3⟩)
 have hf5 : Frm (subY x ρ σ0 W1 (L :: ks) (l :: x.ex) x.lp) ρ1 (stg L fam stop (finI stop items.length)) (w3.putObj l (.loop { r3 with state := .exhausted })) := by
  rw [hz] at hf4; exact hf4
 have hnl : ∀ b r, W1.heap[b]? = some (.loop r) → ¬ Owned ρ (resS (L :: ks) σ0) b := by
  rintro b r hb ⟨k, o, e1, e2, rfl⟩
  have := (f0.sto.ob k o e1 e2).noOdd hb
  simp [oddO] at this
 have hfree : ∀ k, k ∉ L :: ks → stg L fam stop (finI stop items.length) k = .free := by
  intro k hk
  simp only [List.mem_cons, not_or] at hk
  simp [stg, hk.1, hfam.out _ k hk.2]
 obtain ⟨ρ', hK7, hF7, _⟩ := frm_ov (x := x) (fun b hb => by
   rcases List.mem_cons.1 hb with rfl | hb
   ·exact ⟨⟨R, hrec⟩, .inr hlb⟩
   ·exact ⟨(hf2.rcd.loop b hb).2, .inl hb⟩) hf2 hfree hf5 fun G' ρ' hk7 => by
  refine ⟨fun b hb => ⟨(hf2.rcd.loop b hb).1, (hf5.rcd.loop b (by simp [hb])).2⟩, fun p hp => ?_, fun p hp => ?_⟩
  rotate_right
  ·obtain ⟨e0, e2⟩ := hf2.rcd.itr p hp
   refine ⟨e0, ?_⟩
   have hno : ¬ Owned ρ (resS (L :: ks) σ0) p.1 := by
    rintro ⟨k, o, q1, q2, q3⟩
    have h1 := (f0.sto.ob k o q1 q2).noOdd (by rw [q3]; exact e2)
    rw [recO_odd (isIt_rec e0)] at h1; cases h1
   have hnx : p.1 ∉ l :: x.ex := by
    intro hm
    rcases List.mem_cons.1 hm with hm | hm
    ·rw [hm, hrec] at e2; rw [← Option.some.inj e2] at e0; cases e0
    ·obtain ⟨r, hr⟩ := (hf2.rcd.loop p.1 hm).2
     rw [hr] at e2; rw [← Option.some.inj e2] at e0; cases e0
   exact (hf5.frame p.1 (Array.getElem?_eq_some_iff.1 e2).1 hno hnx).trans e2
  obtain ⟨g1, g2, g3⟩ := hf5.rcd.rdy p hp
  have hm : p.2.2.1 ∈ L :: ks := by simp [hxk _ (hf2.rcd.rdy p hp).2.1]
  refine ⟨(hf2.rcd.rdy p hp).1, (hf2.rcd.rdy p hp).2.1, ?_⟩
  rw [ovS_in hm]; exact g3
 have hov : ovS (L :: ks) σ0 (stg L fam stop (finI stop items.length)) = ovS (L :: ks) s.sto (stg L fam stop (finI stop items.length)) := by
  funext k
  by_cases hm : k ∈ L :: ks
  ·rw [ovS_in hm, ovS_in hm]
  ·rw [ovS_out hm, ovS_out hm, hσ0, upd_ne _ _ (by rintro rfl; simp at hm)]
 rw [hov] at hK7 hF7
 have hKall := hkk.trans hK7
 have hsim : Sim x ρ' ⟨s.env, ovS (L :: ks) s.sto (stg L fam stop (finI stop items.length))⟩ { a with defers := marks Ds ++ a.defers } (w3.putObj l (.loop { r3 with state := .exhausted })) := by
  obtain ⟨Do, d1, d2, d3⟩ := hs.defers
  refine { hF7 with nt := hs.nt, defers := ⟨Ds ++ Do, by rw [d1]; simp [marks], ?_, fun D hD => ?_⟩, inr := hs.inr, env := fun q hq => (hs.env q hq).keeps hKall }
  ·refine List.nodup_append.2 ⟨hDn, d2, fun a ha b hb e => ?_⟩
   subst e
   have h1 := (hDs a ha).1
   have h2 := (Array.getElem?_eq_some_iff.1 (d3 a hb).2).1
   omega
  ·rcases List.mem_append.1 hD with h | h
   ·exact ⟨Nat.le_trans hs.size (hDs D h).1, hK7.dfr D (by
     have := (hDs D h).2
     exact this)⟩
   ·exact ⟨(d3 D h).1, hKall.dfr D (d3 D h).2⟩
 refine ⟨_, _, run_endLoop hr3 hb3, ?_⟩
 by_cases hlt : stop < items.length
 ·have hp : r3.pending = some jc := by rw [hp3, if_pos hlt]
  rw [hp] at hsim ⊢
  have hfi : finI stop items.length = stop + 1 := by simp [finI, hlt]
  rw [hfi] at hsim
  exact hjump hlt hY ρ' _ _ hsim
 ·have hp : r3.pending = none := by rw [hp3, if_neg hlt]
  rw [hp] at hsim ⊢
  have hfi : finI stop items.length = items.length := by simp [finI, hlt]
  rw [hfi] at hsim
  exact ⟨ρ', _, hsim, hdone (by omega)⟩

end
end Go.Abs

/- Shapes of stores under an iterator's family, and texts of rounds. No condition. -/
namespace Go.Abs

def hiS (H : Nat) (lo hi : Nat → Slot) : Nat → Slot := fun k => if H ≤ k then hi k else lo k

theorem hiS_hi {H k : Nat} {lo hi : Nat → Slot} (h : H ≤ k) : hiS H lo hi k = hi k := by simp [hiS, h]
theorem hiS_lo {H k : Nat} {lo hi : Nat → Slot} (h : k < H) : hiS H lo hi k = lo k := by simp [hiS, Nat.not_le.2 h]

def mH (ks : List Nat) (T : List (Nat × Nat × Slot)) : Nat → Nat → Prop := fun a b => mT T a b ∨ (a = b ∧ a ∈ ks)

def oldH (H : Nat) (T : List (Nat × Nat × Slot)) (k : Nat) : Nat := if H ≤ k then k else oldT T k

mutual
theorem mt_self {m : Nat → Nat → Prop} {ks : List Nat} (h : ∀ k ∈ ks, m k k) : ∀ (c : C), c.wi ks = true → mtc m c c
 | .any, _ => by simp [mtc]
 | .own .., g => by simp only [C.wi, List.contains_iff_mem] at g; exact ⟨h _ g, rfl, rfl, rfl⟩
 | .ptr .., g => by simp only [C.wi, List.contains_iff_mem] at g; exact ⟨h _ g, rfl, rfl, rfl⟩
 | .mp .., g => by simp only [C.wi, List.contains_iff_mem] at g; exact h _ g
 | .md .., _ => by simp [mtc, C.isPure]
 | .val .., _ => by simp [mtc, C.isPure]
 | .mpin .., _ => by simp [mtc, C.isPure]
 | .fn f a b, g => by
  simp only [C.wi, Bool.and_eq_true] at g
  exact ⟨rfl, mtl_self h a g.1, mtl_self h b g.2⟩
 | .agg l, g => by simp only [C.wi] at g; exact mtl_self h l g
 | .tup l, g => by simp only [C.wi] at g; exact mtl_self h l g
 | .int .., _ => by simp [mtc, C.isPure]
 | .bool .., _ => by simp [mtc, C.isPure]
 | .str .., _ => by simp [mtc, C.isPure]
 | .pnil, _ => by simp [mtc, C.isPure]
 | .fnil, _ => by simp [mtc, C.isPure]
 | .sl .., _ => by simp [mtc, C.isPure]
 | .ip .., _ => by simp [mtc, C.isPure]
theorem mtl_self {m : Nat → Nat → Prop} {ks : List Nat} (h : ∀ k ∈ ks, m k k) : ∀ (l : List C), wil ks l = true → mtl m l l
 | [], _ => trivial
 | c :: l, g => by
  simp only [wil, Bool.and_eq_true] at g
  exact ⟨mt_self h c g.1, mtl_self h l g.2⟩
end

theorem rows_self {m : Nat → Nat → Prop} {ks : List Nat} (h : ∀ k ∈ ks, m k k) : ∀ (r : List (List C)), r.all (wil ks) = true → r.all (fun r => r.all C.cell) = true → RowsOk m r r
 | [], _, _ => .nil
 | a :: r, h1, h2 => by
  simp only [List.all_cons, Bool.and_eq_true] at h1 h2
  exact .cons (mtl_self h a h1.1) h2.1 (rows_self h r h1.2 h2.2)

section
variable {P : Program} {x : Ctx}

theorem wk_shapeH {s : AS} {E : List (Nat × C)} {T : List (Nat × Nat × Slot)} {H : Nat} {ks : List Nat} {fam : Nat → Nat → Slot} {stop i : Nat} (hfam : FamOk H ks fam) (hσ : ∀ k, H ≤ k → s.sto k = stg H fam stop i k)
  (hT : ∀ p ∈ T, p.1 < H ∧ p.2.1 < H) (n1 : (T.map (·.1)).Nodup) (n2 : (T.map (·.2.1)).Nodup) (ok : ∀ p ∈ T, SlotOk (mH (H :: ks) T) (s.sto p.2.1) p.2.2) (hx : ∀ k, x.σ k ≠ .free → mT T k k ∨ k ∈ H :: ks)
  (hE : ∀ p ∈ E, mtc (mH (H :: ks) T) (s.env p.1) p.2) : Wk x s ⟨ofL E, hiS H (stoT T) (stg H fam stop i)⟩ := by
 have hle : ∀ k ∈ H :: ks, H ≤ k := by
  intro k hk
  rcases List.mem_cons.1 hk with rfl | hk
  ·exact Nat.le_refl _
  ·exact Nat.le_of_lt (hfam.lt k hk)
 have hmT : ∀ {a b : Nat}, mT T a b → a < H ∧ b < H := by
  intro a b hm
  obtain ⟨s, hs⟩ := mem_mT.1 hm
  exact hT _ hs
 have hself : ∀ k ∈ ks, mH (H :: ks) T k k := fun k hk => .inr ⟨rfl, by simp [hk]⟩
 refine wk_shpG (m := mH (H :: ks) T) (old := oldH H T) ⟨fun a b hm => ?_, fun a b k ha hb => ?_, fun a b hm => ?_, fun a ha => ?_, fun k hk => ?_⟩ hE
 ·rcases hm with hm | ⟨rfl, hk⟩
  ·obtain ⟨s, hs⟩ := mem_mT.1 hm
   unfold oldH
   rw [if_neg (Nat.not_le.2 (hmT hm).1)]
   exact oldT_mem n1 hs
  ·unfold oldH
   rw [if_pos (hle _ hk)]
 ·rcases ha with ha | ⟨rfl, ha⟩ <;> rcases hb with hb | ⟨rfl, hb⟩
  ·obtain ⟨s, hs⟩ := mem_mT.1 ha
   obtain ⟨s', hs'⟩ := mem_mT.1 hb
   exact (Prod.mk.inj (nodup_snd n2 hs hs' rfl)).1
  ·exact absurd (hle _ hb) (Nat.not_le.2 (hmT ha).2)
  ·exact absurd (hle _ ha) (Nat.not_le.2 (hmT hb).2)
  ·rfl
 ·rcases hm with hm | ⟨rfl, hk⟩
  ·obtain ⟨q, hs⟩ := mem_mT.1 hm
   have e2 := stoT_mem n1 hs
   have e3 := ok _ hs
   simp only at e2 e3
   rw [hiS_lo (hmT hm).1, e2]
   exact e3
  ·rw [hiS_hi (hle _ hk), hσ _ (hle _ hk)]
   cases hs : stg H fam stop i a with
   | free =>
    exfalso
    rcases List.mem_cons.1 hk with rfl | hk
    ·simp only [stg, if_true] at hs
     split at hs <;> cases hs
    ·have hne : a ≠ H := fun e => Nat.lt_irrefl _ (e ▸ hfam.lt a hk)
     simp only [stg, if_neg hne] at hs
     exact hfam.st i a hk hs
   | dead => trivial
   | gh => simp [SlotOk]
   | live o =>
    have hne : a ≠ H := by
     rintro rfl
     simp only [stg, if_true] at hs
     split at hs <;> cases hs
    simp only [stg, if_neg hne] at hs
    exact ⟨rfl, rfl, rfl, rows_self hself _ (hfam.wi i a o hs) (hfam.ce i a o hs)⟩
 ·by_cases hH : H ≤ a
  ·rw [hiS_hi hH] at ha
   refine ⟨a, .inr ⟨rfl, ?_⟩⟩
   by_cases e : a = H
   ·simp [e]
   ·simp only [stg, if_neg e] at ha
    refine List.mem_cons_of_mem _ (Classical.byContradiction fun hn => ha (hfam.out i a hn))
  ·rw [hiS_lo (Nat.lt_of_not_le hH)] at ha
   obtain ⟨p, hp, rfl, hs⟩ := stoT_some ha
   exact ⟨p.2.1, .inl (mem_mT.2 ⟨p.2.2, hp⟩)⟩
 ·intro _; rcases hx k hk with h | h
  ·exact .inl h
  ·exact .inr ⟨rfl, h⟩

theorem stg_hiS {H : Nat} {ks : List Nat} {fam : Nat → Nat → Slot} {stop i : Nat} (hfam : FamOk H ks fam) : stg H fam stop i = hiS H (stoT []) (stg H fam stop i) := by
 funext k
 by_cases h : H ≤ k
 ·rw [hiS_hi h]
 ·have h := Nat.lt_of_not_le h
  rw [hiS_lo h]
  have h1 : k ≠ H := Nat.ne_of_lt h
  have h2 : k ∉ ks := fun hm => Nat.lt_asymm h (hfam.lt k hm)
  simp [stg, h1, hfam.out i k h2, stoT, freeS]

@[simp] theorem hiS_apply {H : Nat} {lo hi : Nat → Slot} {k : Nat} : hiS H lo hi k = if H ≤ k then hi k else lo k := rfl

theorem wk_endH {s : AS} {H : Nat} {ks : List Nat} {fam : Nat → Nat → Slot} {stop i : Nat} (hfam : FamOk H ks fam) (hx : x.σ = stg H fam stop 0) (hσ : ∀ k, H ≤ k → s.sto k = stg H fam stop i k) : Wk x s ⟨fun _ => .any, stg H fam stop i⟩ := by
 have := wk_shapeH (E := []) (T := []) hfam hσ (by simp) (by simp) (by simp) (by simp) (fun k hk => .inr (by
  rw [hx] at hk
  by_cases e : k = H
  ·simp [e]
  ·simp only [stg, if_neg e] at hk
   exact List.mem_cons_of_mem _ (Classical.byContradiction fun hn => hk (hfam.out _ k hn)))) (by simp)
 rw [← stg_hiS hfam] at this
 exact this

theorem hx_stg {H : Nat} {ks : List Nat} {fam : Nat → Nat → Slot} {stop : Nat} {T : List (Nat × Nat × Slot)} (hfam : FamOk H ks fam) (hx : x.σ = stg H fam stop 0) : ∀ k, x.σ k ≠ .free → mT T k k ∨ k ∈ H :: ks := fun k hk => .inr (by
  rw [hx] at hk
  by_cases e : k = H
  ·simp [e]
  ·simp only [stg, if_neg e] at hk
   exact List.mem_cons_of_mem _ (Classical.byContradiction fun hn => hk (hfam.out _ k hn)))

theorem yieldL {ops : Array Oper} {l : List Oper} {K : AS → Prop} {s : AS} {d : Option Nat} {L stop q i : Nat} {fam : Nat → Nat → Slot} {items : List (List C)} {args : List C} (hY : x.Y = yrel L fam items stop q) (hi : i ≤ stop) (hit : items[i]? = some args)
  (hσ : ∀ k, L ≤ k → s.sto k = stg L fam stop i k) (h : evalL P x.Y ops l ⟨putE s.env d (.bool (i != stop)), fun k => if L ≤ k then stg L fam stop (i + 1) k else s.sto k⟩ K) : contY P x.Y ops l K s d q args :=
 ⟨_, _, by rw [hY]; exact ⟨rfl, i, hi, hit, hσ, rfl, rfl⟩, h⟩
theorem ofL_E {ks : List Nat} {env : Nat → C} : ∀ {El : List (Nat × C)}, (∀ p ∈ El, p.2.wi ks = true ∧ env p.1 = p.2) → ∀ q, (ofL El q).wi ks = true ∧ (ofL El q = env q ∨ ofL El q = .any)
 | [], _, q => ⟨rfl, .inr rfl⟩
 | p :: l, h, q => by
  by_cases hq : q = p.1
  ·subst hq
   have := h p (by simp)
   simp only [ofL, upd_same]
   exact ⟨this.1, .inl this.2.symm⟩
  ·simp only [ofL]
   rw [upd_ne _ _ hq]
   exact ofL_E (fun q hq => h q (by simp [hq])) q

theorem wrap_id {z : Int} (h1 : -9223372036854775808 ≤ z) (h2 : z < 9223372036854775808) : IntKind.i64.wrap z = z := by
 rw [IntKind.wrap_i64]; omega

end
end Go.Abs

/- 'for .. := range f' in a function that began without objects. No condition. -/
namespace Go.Abs
section
variable {P : Program}

theorem ofL_wi {ks : List Nat} : ∀ {E : List (Nat × C)}, (∀ p ∈ E, p.2.wi ks = true) → ∀ t, (ofL E t).wi ks = true
 | [], _, t => rfl
 | p :: l, h, t => by
  by_cases hq : t = p.1
  ·subst hq
   simp only [ofL, upd_same]
   exact h p (by simp)
  ·simp only [ofL]
   rw [upd_ne _ _ hq]
   exact ofL_wi (fun q hq => h q (by simp [hq])) t

theorem wk_shpE {x : Ctx} {s : AS} {env : Nat → C} {τ : Nat → Slot} {m : Nat → Nat → Prop} {old : Nat → Nat} (h : ShpG x s.sto τ m old) (hE : ∀ t, mtc m (s.env t) (env t)) : Wk x s ⟨env, τ⟩ :=
 fun ρ a w hs => ⟨fun k => ρ (old k), { h.frm hs.toFrm with nt := hs.nt, defers := hs.defers, inr := hs.inr, env := fun t ht => h.mt_sound (hs.env t ht) (hE t) }⟩

theorem wk_shape2 {x : Ctx} {s : AS} {E : List (Nat × C)} {τ : Nat → Slot} (T : List (Nat × Nat × Slot)) (hτ : stoT T = τ) (h : Shp x s.sto T) (hE : ∀ p ∈ E, mtc (mT T) (s.env p.1) p.2) : Wk x s ⟨ofL E, τ⟩ := hτ ▸ wk_shape h hE

end
end Go.Abs

/- Short forms of the steps of a walk. No condition. -/
namespace Go.Abs
section
variable {P : Program} {x : Ctx}

theorem ZQ {c d : Code} {s : AS} {Q : Exit → AS → Prop} (h : AWP P x c s (nextQ (fun s' => AWP P x d s' Q) Q)) : AWP P x (.seq c d) s Q := awp_seq h
theorem ZR {id : Nat} {l : List Oper} {s : AS} {Q : Exit → AS → Prop} (h : ∀ K : AS → Prop, (∀ s', Q .normal s' → K s') → evalL P x.Y l.toArray l s K)
  (hnt : l.toArray.all (inNt x.nt) = true := by rw [hx]; kernel_rfl) : AWP P x (.region id l.toArray false) s Q := awp_reg1 hnt h
theorem ZD {id : Nat} {l : List Oper} {s : AS} {Q : Exit → AS → Prop} (na p : List Nat) (h : ∀ K : AS → Prop, (∀ s', Q .normal s' → K s') → evalD P x.Y l.toArray na (p.filterMap fun i => (l.toArray[i]?).map fun o => (i, o)) s K)
  (hnt : l.toArray.all (inNt x.nt) = true := by rw [hx]; kernel_rfl) (hok : okDraw .any l.toArray na p = true := by kernel_rfl) (ht : topoOk .text l.toArray = true := by kernel_rfl) (hg : topoOk .gc l.toArray = true := by kernel_rfl) :
  AWP P x (.region id l.toArray true) s Q := awp_drw3 na p hnt hok ht hg h
theorem ZC {c : Operand} {d e : Code} {s : AS} {Q : Exit → AS → Prop} {b : Bool} (h1 : b = true → AWP P x d s Q) (h2 : b = false → AWP P x e s Q) (hc : s.ev c = .bool b := by simp; rfl) (hin : ∀ t, c = .tmp t → t < x.nt := by rw [hx]; simp) :
  AWP P x (.cond c d e) s Q := awp_cond hc hin h1 h2
theorem ZP {Y : YRel} {ops : Array Oper} {l : List Oper} {K : AS → Prop} {s : AS} {d : Option Nat} {f : FuncId} {args : List C} {r : C} (hp : Pure P f args r) (h : evalL P Y ops l ⟨putE s.env d r, s.sto⟩ K)
  (hv : purel args = true := by first | (simp; done) | (simp [*]; done)) : contC P Y ops l K s d f args := callP hp hv h
theorem ZE {Y : YRel} {ops : Array Oper} {na : List Nat} {m : Nat} {l : List (Nat × Oper)} {K : AS → Prop} {s : AS} {d : Option Nat} {f : FuncId} {args : List C} {r : C} (hp : Pure P f args r)
  (h : evalD P Y ops na l ⟨putE s.env d r, s.sto⟩ K) (hv : purel args = true := by first | (simp; done) | (simp [*]; done)) (hm : m = 0 ∨ m = 1 := by simp) : contCD P Y ops na l K s d m f args := callPD hp hv hm h

theorem ZW {s : AS} {E : List (Nat × C)} {T : List (Nat × Nat × Slot)}
  (ok : ∀ p ∈ T, SlotOk (mT T) (s.sto p.2.1) p.2.2 := by simp [SlotOk] <;> (repeat' (first | (refine RowsOk.same ?_; simp [purel, C.isPure]; done) | (refine rowsCons ?_; simp [mtl, mtc, mT, mH, C.isPure, purel]; done) | (refine rowsCons ?_; simp [mtl, mtc, mT, mH, C.isPure, purel]) | refine And.intro ?_ ?_)))
  (hE : ∀ p ∈ E, mtc (mT T) (s.env p.1) p.2 := by simp [mtc, mtl, mT, C.isPure, purel] <;> (try simp (disch := omega) [wrap_id]) <;> (try omega))
  (h0 : x.σ = freeS := by exact hσ) (n1 : (T.map (·.1)).Nodup := by simp) (n2 : (T.map (·.2.1)).Nodup := by simp) : Wk x s ⟨ofL E, stoT T⟩ := wk_shape (shp0 h0 n1 n2 ok) hE
end

theorem ZF {P : Program} {f : FuncId} {fn : Func} {c : Code} {args : List C} {r : C} (res : List ResultVar) (hf : FnIs P f fn c)
  (h : ∀ x : Ctx, x.nt = fn.ntmps → x.σ = freeS → AWP P x c ⟨envOf args, freeS⟩ fun e s => (e = .normal ∨ e = .ret) ∧ ∃ d, retC P s res = some d ∧ viewC s.sto 6 d = some r)
  (hlen : Nat.ble args.length fn.ntmps = true := by kernel_rfl) (hrs : fn.results.toList = res := by kernel_rfl) (hres : resNt fn.ntmps res = true := by kernel_rfl) : Pure P f args r := pure_of res hf hlen hrs hres h
end Go.Abs

/- The shelf's contracts of Contains, Split, Repeat, HasSuffix, TrimSuffix, Trim and String at this program, laid plain by the kit's lay-plain. No condition. -/
namespace Go.Proofs
open Go.Shelf
def Tryz.lays169_ren : Go.Shelf.Ren := ⟨fun | 169 => 38 | n => n, fun | 70 => 61 | 9 => 9 | 0 => 0 | 72 => 64 | 37 => 62 | 127 => 91 | 3 => 3 | 5 => 5 | n => n, fun | n => n⟩
theorem Tryz.lays169 : Go.Proofs.Lays.n169 Tryz.prog Tryz.lays169_ren := {
 mixed := by kernel_rfl
 f169 := Tryz.func38.trans (congrArg some (by kernel_rfl))
 t0 := Tryz.underlying0
 a0 := Tryz.isAgg0
 z0 := Tryz.sizeOf0
 v0 := Tryz.zeroValue0
 t3 := Tryz.underlying3
 a3 := Tryz.isAgg3
 z3 := Tryz.sizeOf3
 v3 := Tryz.zeroValue3
 t9 := Tryz.underlying9
 a9 := Tryz.isAgg9
 z9 := Tryz.sizeOf9
 v9 := Tryz.zeroValue9
 t37 := Tryz.underlying62
 a37 := Tryz.isAgg62
 z37 := Tryz.sizeOf62
 v37 := Tryz.zeroValue62
 t70 := Tryz.underlying61
 a70 := Tryz.isAgg61
 z70 := Tryz.sizeOf61
 v70 := Tryz.zeroValue61
 t72 := Tryz.underlying64
 a72 := Tryz.isAgg64
 z72 := Tryz.sizeOf64
 v72 := Tryz.zeroValue64
 t127 := Tryz.underlying91
 a127 := Tryz.isAgg91
 z127 := Tryz.sizeOf91
 v127 := Tryz.zeroValue91 }
def Tryz.lays160_ren : Go.Shelf.Ren := ⟨fun | 160 => 103 | 232 => 115 | 231 => 114 | 227 => 116 | 234 => 118 | 233 => 117 | 236 => 120 | 235 => 119 | 228 => 132 | 271 => 134 | 151 => 133 | 197 => 130 | 120 => 140 | 152 => 139 | 260 => 138 | 137 => 141 | 119 => 142 | 224 => 127 | 225 => 126 | 217 => 125 | 266 => 136 | n => n, fun | 9 => 9 | 4 => 4 | 3 => 3 | 5 => 5 | 117 => 139 | 116 => 138 | 0 => 0 | 124 => 142 | 21 => 21 | 105 => 150 | 46 => 131 | 119 => 156 | 139 => 159 | 138 => 158 | n => n, fun | 3 => 1 | 4 => 2 | n => n⟩
theorem Tryz.lays160 : Go.Proofs.Lays.n160 Tryz.prog Tryz.lays160_ren := {
 mixed := by kernel_rfl
 f119 := Tryz.func142.trans (congrArg some (by kernel_rfl))
 f120 := Tryz.func140.trans (congrArg some (by kernel_rfl))
 f137 := Tryz.func141.trans (congrArg some (by kernel_rfl))
 f151 := Tryz.func133.trans (congrArg some (by kernel_rfl))
 f152 := Tryz.func139.trans (congrArg some (by kernel_rfl))
 f160 := Tryz.func103.trans (congrArg some (by kernel_rfl))
 f197 := Tryz.func130.trans (congrArg some (by kernel_rfl))
 f217 := Tryz.func125.trans (congrArg some (by kernel_rfl))
 f224 := Tryz.func127.trans (congrArg some (by kernel_rfl))
 f225 := Tryz.func126.trans (congrArg some (by kernel_rfl))
 f227 := Tryz.func116.trans (congrArg some (by kernel_rfl))
 f228 := Tryz.func132.trans (congrArg some (by kernel_rfl))
 f231 := Tryz.func114.trans (congrArg some (by kernel_rfl))
 f232 := Tryz.func115.trans (congrArg some (by kernel_rfl))
 f233 := Tryz.func117.trans (congrArg some (by kernel_rfl))
 f234 := Tryz.func118.trans (congrArg some (by kernel_rfl))
 f235 := Tryz.func119.trans (congrArg some (by kernel_rfl))
 f236 := Tryz.func120.trans (congrArg some (by kernel_rfl))
 f260 := Tryz.func138.trans (congrArg some (by kernel_rfl))
 f266 := Tryz.func136.trans (congrArg some (by kernel_rfl))
 f271 := Tryz.func134.trans (congrArg some (by kernel_rfl))
 t0 := Tryz.underlying0
 a0 := Tryz.isAgg0
 z0 := Tryz.sizeOf0
 v0 := Tryz.zeroValue0
 t3 := Tryz.underlying3
 a3 := Tryz.isAgg3
 z3 := Tryz.sizeOf3
 v3 := Tryz.zeroValue3
 t4 := Tryz.underlying4
 a4 := Tryz.isAgg4
 z4 := Tryz.sizeOf4
 v4 := Tryz.zeroValue4
 t5 := Tryz.underlying5
 a5 := Tryz.isAgg5
 z5 := Tryz.sizeOf5
 v5 := Tryz.zeroValue5
 t9 := Tryz.underlying9
 a9 := Tryz.isAgg9
 z9 := Tryz.sizeOf9
 v9 := Tryz.zeroValue9
 t21 := Tryz.underlying21
 a21 := Tryz.isAgg21
 z21 := Tryz.sizeOf21
 v21 := Tryz.zeroValue21
 t46 := Tryz.underlying131
 a46 := Tryz.isAgg131
 z46 := Tryz.sizeOf131
 v46 := Tryz.zeroValue131
 t105 := Tryz.underlying150
 a105 := Tryz.isAgg150
 z105 := Tryz.sizeOf150
 v105 := Tryz.zeroValue150
 t116 := Tryz.underlying138
 a116 := Tryz.isAgg138
 z116 := Tryz.sizeOf138
 t117 := Tryz.underlying139
 a117 := Tryz.isAgg139
 z117 := Tryz.sizeOf139
 v117 := Tryz.zeroValue139
 t119 := Tryz.underlying156
 a119 := Tryz.isAgg156
 z119 := Tryz.sizeOf156
 t124 := Tryz.underlying142
 a124 := Tryz.isAgg142
 z124 := Tryz.sizeOf142
 v124 := Tryz.zeroValue142
 t138 := Tryz.underlying158
 a138 := Tryz.isAgg158
 z138 := Tryz.sizeOf158
 v138 := Tryz.zeroValue158
 t139 := Tryz.underlying159
 a139 := Tryz.isAgg159
 z139 := Tryz.sizeOf159
 v139 := Tryz.zeroValue159
 g3 := by kernel_rfl
 g4 := by kernel_rfl }
def Tryz.lays144_ren : Go.Shelf.Ren := ⟨fun | 144 => 67 | 143 => 91 | 219 => 111 | 217 => 125 | 225 => 126 | 224 => 127 | 267 => 128 | 266 => 136 | 314 => 137 | n => n, fun | 9 => 9 | 4 => 4 | 3 => 3 | 5 => 5 | 46 => 131 | 146 => 144 | 51 => 143 | n => n, fun | 1 => 0 | n => n⟩
theorem Tryz.lays144 : Go.Proofs.Lays.n144 Tryz.prog Tryz.lays144_ren := {
 mixed := by kernel_rfl
 f143 := Tryz.func91.trans (congrArg some (by kernel_rfl))
 f144 := Tryz.func67.trans (congrArg some (by kernel_rfl))
 f217 := Tryz.func125.trans (congrArg some (by kernel_rfl))
 f219 := Tryz.func111.trans (congrArg some (by kernel_rfl))
 f224 := Tryz.func127.trans (congrArg some (by kernel_rfl))
 f225 := Tryz.func126.trans (congrArg some (by kernel_rfl))
 f266 := Tryz.func136.trans (congrArg some (by kernel_rfl))
 f267 := Tryz.func128.trans (congrArg some (by kernel_rfl))
 f314 := Tryz.func137.trans (congrArg some (by kernel_rfl))
 t3 := Tryz.underlying3
 a3 := Tryz.isAgg3
 z3 := Tryz.sizeOf3
 v3 := Tryz.zeroValue3
 t4 := Tryz.underlying4
 a4 := Tryz.isAgg4
 z4 := Tryz.sizeOf4
 v4 := Tryz.zeroValue4
 t5 := Tryz.underlying5
 a5 := Tryz.isAgg5
 z5 := Tryz.sizeOf5
 v5 := Tryz.zeroValue5
 t9 := Tryz.underlying9
 a9 := Tryz.isAgg9
 z9 := Tryz.sizeOf9
 v9 := Tryz.zeroValue9
 t46 := Tryz.underlying131
 a46 := Tryz.isAgg131
 z46 := Tryz.sizeOf131
 v46 := Tryz.zeroValue131
 t51 := Tryz.underlying143
 a51 := Tryz.isAgg143
 z51 := Tryz.sizeOf143
 v51 := Tryz.zeroValue143
 t146 := Tryz.underlying144
 a146 := Tryz.isAgg144
 z146 := Tryz.sizeOf144
 v146 := Tryz.zeroValue144
 g1 := by kernel_rfl }
open Go.RowKit Go.Lib in
theorem Tryz.strings_Contains (s sub : ByteArray) (m : Int) (w : World) (hs : s.size < 4294967281) (hm : w.cell? ⟨0, 0, none⟩ = some (.int .i64 m)) :
  Calls Tryz.prog 67 #[.string s, .string sub] w fun e w' => e = .returned (.bool (Lib.contains s.data.toList sub.data.toList)) ∧ w' = w := Any.strings_Contains Tryz.lays144 s sub m w hs hm
def Tryz.lays100_ren : Go.Shelf.Ren := ⟨fun | 100 => 66 | 207 => 90 | n => n, fun | 9 => 9 | 4 => 4 | 3 => 3 | n => n, fun | n => n⟩
theorem Tryz.lays100 : Go.Proofs.Lays.n100 Tryz.prog Tryz.lays100_ren := {
 mixed := by kernel_rfl
 f100 := Tryz.func66.trans (congrArg some (by kernel_rfl))
 f207 := Tryz.func90.trans (congrArg some (by kernel_rfl))
 t3 := Tryz.underlying3
 a3 := Tryz.isAgg3
 z3 := Tryz.sizeOf3
 v3 := Tryz.zeroValue3
 t4 := Tryz.underlying4
 a4 := Tryz.isAgg4
 z4 := Tryz.sizeOf4
 v4 := Tryz.zeroValue4
 t9 := Tryz.underlying9
 a9 := Tryz.isAgg9
 z9 := Tryz.sizeOf9
 v9 := Tryz.zeroValue9 }
open Go.RowKit Go.Lib in
theorem Tryz.strings_HasSuffix (s p : ByteArray) (w : World) (hs : s.size ≤ 9223372036854775807) :
  Calls Tryz.prog 66 #[.string s, .string p] w fun e w' => e = .returned (.bool (Lib.hasSuffix s.data.toList p.data.toList)) ∧ w' = w := Any.strings_HasSuffix Tryz.lays100 s p w hs
def Tryz.lays102_ren : Go.Shelf.Ren := ⟨fun | 102 => 69 | 209 => 93 | 207 => 90 | n => n, fun | 9 => 9 | 4 => 4 | 3 => 3 | n => n, fun | n => n⟩
theorem Tryz.lays102 : Go.Proofs.Lays.n102 Tryz.prog Tryz.lays102_ren := {
 mixed := by kernel_rfl
 f102 := Tryz.func69.trans (congrArg some (by kernel_rfl))
 f207 := Tryz.func90.trans (congrArg some (by kernel_rfl))
 f209 := Tryz.func93.trans (congrArg some (by kernel_rfl))
 t3 := Tryz.underlying3
 a3 := Tryz.isAgg3
 z3 := Tryz.sizeOf3
 v3 := Tryz.zeroValue3
 t4 := Tryz.underlying4
 a4 := Tryz.isAgg4
 z4 := Tryz.sizeOf4
 v4 := Tryz.zeroValue4
 t9 := Tryz.underlying9
 a9 := Tryz.isAgg9
 z9 := Tryz.sizeOf9
 v9 := Tryz.zeroValue9 }
open Go.RowKit Go.Lib in
theorem Tryz.strings_TrimSuffix (s p : ByteArray) (w : World) (hs : s.size ≤ 9223372036854775807) :
  Calls Tryz.prog 69 #[.string s, .string p] w fun e w' => e = .returned (.string ⟨(Lib.trimSuffix s.data.toList p.data.toList).toArray⟩) ∧ w' = w := Any.strings_TrimSuffix Tryz.lays102 s p w hs
def Tryz.lays146_ren : Go.Shelf.Ren := ⟨fun | 146 => 68 | 221 => 92 | 268 => 112 | 138 => 113 | 143 => 91 | 195 => 129 | 197 => 130 | 218 => 131 | 219 => 111 | 260 => 138 | 217 => 125 | 225 => 126 | 224 => 127 | 267 => 128 | 266 => 136 | 314 => 137 | n => n, fun | 9 => 9 | 31 => 22 | 3 => 3 | 4 => 4 | 0 => 0 | 105 => 150 | 21 => 21 | 5 => 5 | 46 => 131 | 119 => 156 | 139 => 159 | 138 => 158 | 146 => 144 | 51 => 143 | n => n, fun | 1 => 0 | 3 => 1 | 4 => 2 | n => n⟩
theorem Tryz.lays146 : Go.Proofs.Lays.n146 Tryz.prog Tryz.lays146_ren := {
 mixed := by kernel_rfl
 f138 := Tryz.func113.trans (congrArg some (by kernel_rfl))
 f143 := Tryz.func91.trans (congrArg some (by kernel_rfl))
 f146 := Tryz.func68.trans (congrArg some (by kernel_rfl))
 f195 := Tryz.func129.trans (congrArg some (by kernel_rfl))
 f197 := Tryz.func130.trans (congrArg some (by kernel_rfl))
 f217 := Tryz.func125.trans (congrArg some (by kernel_rfl))
 f218 := Tryz.func131.trans (congrArg some (by kernel_rfl))
 f219 := Tryz.func111.trans (congrArg some (by kernel_rfl))
 f221 := Tryz.func92.trans (congrArg some (by kernel_rfl))
 f224 := Tryz.func127.trans (congrArg some (by kernel_rfl))
 f225 := Tryz.func126.trans (congrArg some (by kernel_rfl))
 f260 := Tryz.func138.trans (congrArg some (by kernel_rfl))
 f266 := Tryz.func136.trans (congrArg some (by kernel_rfl))
 f267 := Tryz.func128.trans (congrArg some (by kernel_rfl))
 f268 := Tryz.func112.trans (congrArg some (by kernel_rfl))
 f314 := Tryz.func137.trans (congrArg some (by kernel_rfl))
 t0 := Tryz.underlying0
 a0 := Tryz.isAgg0
 z0 := Tryz.sizeOf0
 v0 := Tryz.zeroValue0
 t3 := Tryz.underlying3
 a3 := Tryz.isAgg3
 z3 := Tryz.sizeOf3
 v3 := Tryz.zeroValue3
 t4 := Tryz.underlying4
 a4 := Tryz.isAgg4
 z4 := Tryz.sizeOf4
 v4 := Tryz.zeroValue4
 t5 := Tryz.underlying5
 a5 := Tryz.isAgg5
 z5 := Tryz.sizeOf5
 v5 := Tryz.zeroValue5
 t9 := Tryz.underlying9
 a9 := Tryz.isAgg9
 z9 := Tryz.sizeOf9
 v9 := Tryz.zeroValue9
 t21 := Tryz.underlying21
 a21 := Tryz.isAgg21
 z21 := Tryz.sizeOf21
 v21 := Tryz.zeroValue21
 t31 := Tryz.underlying22
 a31 := Tryz.isAgg22
 z31 := Tryz.sizeOf22
 v31 := Tryz.zeroValue22
 t46 := Tryz.underlying131
 a46 := Tryz.isAgg131
 z46 := Tryz.sizeOf131
 v46 := Tryz.zeroValue131
 t51 := Tryz.underlying143
 a51 := Tryz.isAgg143
 z51 := Tryz.sizeOf143
 v51 := Tryz.zeroValue143
 t105 := Tryz.underlying150
 a105 := Tryz.isAgg150
 z105 := Tryz.sizeOf150
 v105 := Tryz.zeroValue150
 t119 := Tryz.underlying156
 a119 := Tryz.isAgg156
 z119 := Tryz.sizeOf156
 t138 := Tryz.underlying158
 a138 := Tryz.isAgg158
 z138 := Tryz.sizeOf158
 v138 := Tryz.zeroValue158
 t139 := Tryz.underlying159
 a139 := Tryz.isAgg159
 z139 := Tryz.sizeOf159
 v139 := Tryz.zeroValue159
 t146 := Tryz.underlying144
 a146 := Tryz.isAgg144
 z146 := Tryz.sizeOf144
 v146 := Tryz.zeroValue144
 g1 := by kernel_rfl
 g3 := by kernel_rfl
 g4 := by kernel_rfl }
open Go.RowKit Go.Lib in
theorem Tryz.strings_Split (s sep : ByteArray) (m : Int) (w : World) (hs : s.size < 4294967281) (hm : w.cell? ⟨0, 0, none⟩ = some (.int .i64 m)) (h1 : 1 ≤ sep.size) :
  Calls Tryz.prog 68 #[.string s, .string sep] w fun e w' =>
   e = .returned (.slice (some ⟨w.heap.size, 0, none⟩) (Lib.countB s sep + 1) (Lib.countB s sep + 1)) ∧ w' = w.alloc (.cells ((Lib.splitB sep 0 (Lib.countB s sep) s).map Value.string).toArray 9) := Any.strings_Split Tryz.lays146 (by kernel_rfl) s sep m w hs hm h1
def Tryz.lays105_ren : Go.Shelf.Ren := ⟨fun | 105 => 87 | 212 => 107 | 99 => 108 | 165 => 109 | 166 => 37 | 170 => 110 | 169 => 38 | 263 => 121 | 264 => 122 | 206 => 123 | 240 => 61 | 241 => 124 | 276 => 89 | 277 => 135 | n => n, fun | 9 => 9 | 3 => 3 | 4 => 4 | 20 => 20 | 0 => 0 | 46 => 131 | 109 => 132 | 5 => 5 | 72 => 64 | 76 => 72 | 51 => 143 | 146 => 144 | 53 => 146 | 148 => 147 | 70 => 61 | 37 => 62 | 75 => 71 | 127 => 91 | 164 => 119 | 80 => 74 | n => n, fun | n => n⟩
theorem Tryz.lays105 : Go.Proofs.Lays.n105 Tryz.prog Tryz.lays105_ren := {
 mixed := by kernel_rfl
 f99 := Tryz.func108.trans (congrArg some (by kernel_rfl))
 f105 := Tryz.func87.trans (congrArg some (by kernel_rfl))
 f165 := Tryz.func109.trans (congrArg some (by kernel_rfl))
 f166 := Tryz.func37.trans (congrArg some (by kernel_rfl))
 f169 := Tryz.func38.trans (congrArg some (by kernel_rfl))
 f170 := Tryz.func110.trans (congrArg some (by kernel_rfl))
 f206 := Tryz.func123.trans (congrArg some (by kernel_rfl))
 f212 := Tryz.func107.trans (congrArg some (by kernel_rfl))
 f240 := Tryz.func61.trans (congrArg some (by kernel_rfl))
 f241 := Tryz.func124.trans (congrArg some (by kernel_rfl))
 f263 := Tryz.func121.trans (congrArg some (by kernel_rfl))
 f264 := Tryz.func122.trans (congrArg some (by kernel_rfl))
 f276 := Tryz.func89.trans (congrArg some (by kernel_rfl))
 f277 := Tryz.func135.trans (congrArg some (by kernel_rfl))
 t0 := Tryz.underlying0
 a0 := Tryz.isAgg0
 z0 := Tryz.sizeOf0
 v0 := Tryz.zeroValue0
 t3 := Tryz.underlying3
 a3 := Tryz.isAgg3
 z3 := Tryz.sizeOf3
 v3 := Tryz.zeroValue3
 t4 := Tryz.underlying4
 a4 := Tryz.isAgg4
 z4 := Tryz.sizeOf4
 v4 := Tryz.zeroValue4
 t5 := Tryz.underlying5
 a5 := Tryz.isAgg5
 z5 := Tryz.sizeOf5
 v5 := Tryz.zeroValue5
 t9 := Tryz.underlying9
 a9 := Tryz.isAgg9
 z9 := Tryz.sizeOf9
 v9 := Tryz.zeroValue9
 t20 := Tryz.underlying20
 a20 := Tryz.isAgg20
 z20 := Tryz.sizeOf20
 v20 := Tryz.zeroValue20
 t37 := Tryz.underlying62
 a37 := Tryz.isAgg62
 z37 := Tryz.sizeOf62
 v37 := Tryz.zeroValue62
 t46 := Tryz.underlying131
 a46 := Tryz.isAgg131
 z46 := Tryz.sizeOf131
 v46 := Tryz.zeroValue131
 t51 := Tryz.underlying143
 a51 := Tryz.isAgg143
 z51 := Tryz.sizeOf143
 v51 := Tryz.zeroValue143
 t53 := Tryz.underlying146
 a53 := Tryz.isAgg146
 z53 := Tryz.sizeOf146
 v53 := Tryz.zeroValue146
 t70 := Tryz.underlying61
 a70 := Tryz.isAgg61
 z70 := Tryz.sizeOf61
 v70 := Tryz.zeroValue61
 t72 := Tryz.underlying64
 a72 := Tryz.isAgg64
 z72 := Tryz.sizeOf64
 v72 := Tryz.zeroValue64
 t75 := Tryz.underlying71
 a75 := Tryz.isAgg71
 z75 := Tryz.sizeOf71
 v75 := Tryz.zeroValue71
 t76 := Tryz.underlying72
 a76 := Tryz.isAgg72
 z76 := Tryz.sizeOf72
 v76 := Tryz.zeroValue72
 t109 := Tryz.underlying132
 a109 := Tryz.isAgg132
 z109 := Tryz.sizeOf132
 v109 := Tryz.zeroValue132
 t127 := Tryz.underlying91
 a127 := Tryz.isAgg91
 z127 := Tryz.sizeOf91
 v127 := Tryz.zeroValue91
 t146 := Tryz.underlying144
 a146 := Tryz.isAgg144
 z146 := Tryz.sizeOf144
 v146 := Tryz.zeroValue144
 t148 := Tryz.underlying147
 a148 := Tryz.isAgg147
 z148 := Tryz.sizeOf147
 v148 := Tryz.zeroValue147
 t164 := Tryz.underlying119
 a164 := Tryz.isAgg119
 z164 := Tryz.sizeOf119
 v164 := Tryz.zeroValue119 }
theorem Tryz.Builder_Extra_105 : Builder.Extra Tryz.prog Tryz.lays105_ren := {
 sizeBuilder := by kernel_rfl
 liesBuilder := by kernel_rfl
 t5 := Tryz.underlying5
 a5 := Tryz.isAgg5
 z5 := Tryz.sizeOf5
 v5 := Tryz.zeroValue5
 infoByte := by kernel_rfl
 cellsByte := by kernel_rfl
 sizeByte := by kernel_rfl
 neB5 := by decide }
open Go.RowKit Go.Lib in
theorem Tryz.strings_Repeat (s : ByteArray) (c : Nat) (w : World) (hc : c ≤ 9223372036854775807) (hlen : s.size * c ≤ 140737488355328) :
  Calls Tryz.prog 87 #[.string s, .int .i64 c] w fun e w' => e = .returned (.string ⟨(Lib.repeatL s.data.toList c).toArray⟩) ∧ Below w.heap.size w w' := Any.strings_Repeat Tryz.lays105 Tryz.Builder_Extra_105 s c w hc hlen
open Go.RowKit Go.Lib in
theorem Tryz.strings_Trim (s cutset : ByteArray) (w : World) (hs : s.size ≤ 9223372036854775807) (hcs : cutset.size < 4294967281)
  (hascii : ∀ (j : Nat) b, cutset.data.toList[j]? = some b → b.toNat < 128) :
  Calls Tryz.prog 103 #[.string s, .string cutset] w fun e w' => e = .returned (.string ⟨(Lib.trimS s.data.toList cutset.data.toList).toArray⟩) ∧ Below w.heap.size w w' := Any.strings_Trim_laid Tryz.lays160 (by kernel_rfl) s cutset w hs hcs hascii
end Go.Proofs

namespace Go.Proofs
open Go.Shelf Go.RowKit
set_option maxHeartbeats 2000000
set_option maxRecDepth 100000


theorem Tryz.cc_used (b : Nat) (w : World) (h0 : w.cell? ⟨b, 0, none⟩ = some (.pointer (some ⟨b, 0, none⟩))) :
  Calls Tryz.prog 61 #[.pointer (some ⟨b, 0, none⟩)] w fun e w' => e = .returned (.tuple #[]) ∧ w' = w := by
 obtain ⟨j, hj⟩ : ∃ j, Tryz.prog.info? 64 = some j := ⟨_, rfl⟩
 go_enter Tryz.func61, Tryz.ntmps61
 go_wp2
 rw [Lib.run_neq_ptr_same w _ Tryz.underlying61 hj]
 go_wp2
 go_end0
 exact ⟨rfl, rfl⟩
theorem Tryz.cc_fresh (b : Nat) (w : World) (h0 : w.cell? ⟨b, 0, none⟩ = some (.pointer none)) (hsh : w.shape? b = some (64, 2)) (hfz : w.frozen? ⟨b, 0, none⟩ = false) :
  Calls Tryz.prog 61 #[.pointer (some ⟨b, 0, none⟩)] w fun e w' => e = .returned (.tuple #[]) ∧ w' = w.setCell ⟨b, 0, none⟩ (.pointer (some ⟨b, 0, none⟩)) := by
 have hs : (Tryz.prog.info? 64).map (·.size) = some 2 := by kernel_rfl
 have hl : liesAt Tryz.prog Tryz.prog.depth 64 (2 / Tryz.prog.cellsOf 64) 0 64 1 = true := by kernel_rfl
 obtain ⟨j, hj, hjs⟩ := Option.map_eq_some_iff.1 hs
 go_enter Tryz.func61, Tryz.ntmps61
 go_wp2
 rw [Lib.run_to_unsafe w ⟨b, 0, none⟩ Tryz.underlying61 Tryz.underlying119 hj (by rw [hjs]; decide) hsh (Nat.zero_lt_succ 1)]
 simp only [Result.andThen]
 rw [Oper.upon_value]
 go_wp2
 rw [run_callFunc_extern Tryz.func89 (by kernel_rfl) (by kernel_rfl) (by kernel_rfl) (e := Extern.AbiNoEscape.same) (by kernel_rfl)]
 rw [Lib.run_noEscape]
 simp only [Result.andThen]
 rw [Oper.upon_value]
 go_wp2
 rw [Lib.run_from_unsafe w ⟨b, 0, none⟩ Tryz.underlying119 Tryz.underlying61 hj hsh hl]
 simp only [Result.andThen]
 rw [Oper.upon_value]
 go_wp2
 go_end0
 exact ⟨rfl, rfl⟩

theorem Tryz.str_some (b g cap : Nat) (p : Value) (cur : Array Value) (l : List UInt8) (w : World) (hbk : w.heap[b]? = some (.cells #[p, .slice (some ⟨g, 0, none⟩) l.length cap] 64 (0, 0))) (hg : w.heap[g]? = some (.cells cur 5 (0, 0)))
  (h0 : l ≠ []) (hc : l.length ≤ cur.size) (h63 : l.length ≤ 9223372036854775807) (hcap : l.length ≤ cap) (hcell : ∀ (j : Nat) (x : UInt8), l[j]? = some x → cur[j]? = some (Value.int .u8 x.toNat)) :
  Calls Tryz.prog 38 #[.pointer (some ⟨b, 0, none⟩)] w fun e w' => e = .returned (.string ⟨l.toArray⟩) ∧ w' = w.drew.freeze ⟨g, 0, none⟩ l.length := by
 have hl0 : l.length ≠ 0 := by simpa using h0
 have c1 : w.drew.cell? ⟨b, 1, none⟩ = some (.slice (some ⟨g, 0, none⟩) l.length cap) := by
  have : w.drew.heap[b]? = some (.cells #[p, .slice (some ⟨g, 0, none⟩) l.length cap] 64 (0, 0)) := hbk
  rw [Lib.cell_of_heap this]; rfl
 have hSD : (Builtin.unsafeSliceData_ #[62] 91 #[.slice (some ⟨g, 0, none⟩) l.length cap]).run Tryz.prog w.drew = .ok (.pointer (some ⟨g, 0, none⟩)) w.drew :=
  Lib.run_unsafeSliceData_row _ _ _ _ _ _ (by omega)
 have hUS : (Builtin.unsafeString_ #[91, 3] 9 #[.pointer (some ⟨g, 0, none⟩), .int .i64 l.length]).run Tryz.prog w.drew = .ok (.string ⟨l.toArray⟩) (w.drew.freeze ⟨g, 0, none⟩ l.length) := by
  refine Lib.run_unsafeString_row w.drew 91 3 9 5 Tryz.underlying91 (by kernel_rfl) g cur.size (by have hg' : w.drew.heap[g]? = some (.cells cur 5 (0, 0)) := hg; simp [World.shape?, hg']) l h0 hc h63 ?_
  intro j x hx
  have hg' : w.drew.heap[g]? = some (.cells cur 5 (0, 0)) := hg
  rw [show (⟨g, 0, none⟩ : Addr).add j = ⟨g, j, none⟩ by unfold Addr.add; split <;> simp_all, Lib.cell_of_heap hg']
  exact hcell j x hx
 have mixed := Tryz.lays169.mixed
 have t5 := Tryz.lays169.t127
 go_enter Tryz.func38, Tryz.ntmps38
 go_wp2
 go_region_o
 all_goals (go_wp2; go_ret; exact ⟨rfl, rfl⟩)
theorem Tryz.str_none (b : Nat) (p : Value) (w : World) (hbk : w.heap[b]? = some (.cells #[p, .slice none 0 0] 64 (0, 0))) :
  Calls Tryz.prog 38 #[.pointer (some ⟨b, 0, none⟩)] w fun e w' => e = .returned (.string ⟨#[]⟩) ∧ w' = w.drew := by
 have c1 : w.drew.cell? ⟨b, 1, none⟩ = some (.slice none 0 0) := by
  have : w.drew.heap[b]? = some (.cells #[p, .slice none 0 0] 64 (0, 0)) := hbk
  rw [Lib.cell_of_heap this]; rfl
 have hSD : (Builtin.unsafeSliceData_ #[62] 91 #[.slice none 0 0]).run Tryz.prog w.drew = .ok (.pointer none) w.drew :=
  rfl
 have hUS : (Builtin.unsafeString_ #[91, 3] 9 #[.pointer none, .int .i64 0]).run Tryz.prog w.drew = .ok (.string ⟨#[]⟩) w.drew :=
  Lib.run_unsafeString_none _ _ _ _ _
 have mixed := Tryz.lays169.mixed
 go_enter Tryz.func38, Tryz.ntmps38
 go_wp2
 go_region_o
 all_goals (go_wp2; go_ret; exact ⟨rfl, rfl⟩)
end Go.Proofs

/- Contracts of functions under which objects are given up; objects whose memory changes as they go. No condition. -/
namespace Go.Abs

def updS (σ : Nat → Slot) : List (Nat × Slot) → Nat → Slot
 | [] => σ
 | p :: l => upd (updS σ l) p.1 p.2
abbrev stoS (l : List (Nat × Slot)) : Nat → Slot := updS freeS l
def keysS (l : List (Nat × Slot)) : List Nat := l.map (·.1)

theorem updS_out {σ : Nat → Slot} : ∀ {l : List (Nat × Slot)} {k : Nat}, k ∉ keysS l → updS σ l k = σ k
 | [], k, _ => rfl
 | p :: l, k, h => by
  simp only [keysS, List.map_cons, List.mem_cons, not_or] at h
  simp only [updS]
  rw [upd_ne _ _ h.1, updS_out h.2]

theorem updS_in {σ τ : Nat → Slot} : ∀ {l : List (Nat × Slot)} {k : Nat}, k ∈ keysS l → updS σ l k = updS τ l k
 | [], k, h => by simp [keysS] at h
 | p :: l, k, h => by
  simp only [updS]
  by_cases hk : k = p.1
  ·subst hk; simp
  ·simp only [keysS, List.map_cons, List.mem_cons] at h
   rw [upd_ne _ _ hk, upd_ne _ _ hk]
   exact updS_in (h.resolve_left hk)

structure EffS (P : Program) (f : FuncId) (l0 : List (Nat × Ob)) (args : List C) (r : C) (l1 : List (Nat × Slot)) : Prop extends Callable P f where
 wa : wil (keysO l0) args = true
 w0 : ∀ p ∈ l0, p.2.rows.all (wil (keysO l0)) = true
 nf : ∀ p ∈ l1, p.2 ≠ .free ∧ p.2 ≠ .gh
 calls : ∀ (x : Ctx) (vs : Array Value), x.σ = stoO l0 → GkO P x.ρ x.σ x.w → Frm x x.ρ x.σ x.w → CL (x.Gd x.ρ x.σ) x.ρ x.σ x.w args vs → Calls P f vs x.w fun e w' =>
  ∃ v ρ', e = .returned v ∧ Frm x ρ' (stoS l1) w' ∧ CR (x.Gd ρ' (stoS l1)) ρ' (stoS l1) w' r v

theorem frm_liftS {x : Ctx} {ρ ρ1 : Nat → Nat} {σ : Nat → Slot} {w w' : World} {l0 : List (Nat × Ob)} {l1 : List (Nat × Slot)} {ex : List Nat} {lp : List (Nat × Obj × Nat × Obj)} (hex : ∀ b ∈ ex, b ∈ x.ex) (hf : Frm x ρ σ w) (h0 : ∀ k ∈ keysO l0, σ k = stoO l0 k) (h1 : ∀ k ∈ keysS l1, k ∈ keysO l0 ∨ σ k = .free)
  (f1 : Frm (subX x ρ σ w l0 ex lp) ρ1 (stoS l1) w') (hnf : ∀ p ∈ l1, p.2 ≠ .free ∧ p.2 ≠ .gh) (hrc : ∀ G' ρ', Keeps0 (x.Gd ρ σ) G' ρ ρ' σ (updS σ l1) w w' → RecOk x (updS σ l1) w') :
  ∃ ρ', Keeps (x.Gd ρ σ) (x.Gd ρ' (updS σ l1)) ρ ρ' σ (updS σ l1) w w' ∧ Frm x ρ' (updS σ l1) w' ∧
   ∀ c v, CR ((subX x ρ σ w l0 ex lp).Gd ρ1 (stoS l1)) ρ1 (stoS l1) w' c v → CR (x.Gd ρ' (updS σ l1)) ρ' (updS σ l1) w' c v := by
 have s0 : ∀ {k : Nat} {o : Ob}, stoO l0 k = .live o → k ∈ keysO l0 ∧ σ k = .live o ∧ (k, o) ∈ l0 := by
  intro k o hk
  by_cases hm : k ∈ keysO l0
  ·obtain ⟨_, o', e1, e2⟩ := updO_in (σ := freeS) (τ := freeS) hm
   have : o' = o := by rw [show stoO l0 k = _ from e1] at hk; cases hk; rfl
   subst this
   exact ⟨hm, by rw [h0 k hm]; exact hk, e2⟩
  ·rw [stoO, updO_out hm] at hk; cases hk
 have own0 : ∀ {b : Nat}, Owned ρ (stoO l0) b → Owned ρ σ b := by
  rintro b ⟨k, o, e1, e2, e3⟩
  exact ⟨k, o, (s0 e1).2.1, e2, e3⟩
 have live0 : ∀ k, stoO l0 k ≠ .dead := by
  intro k hk
  by_cases hm : k ∈ keysO l0
  ·obtain ⟨_, o', e1, _⟩ := updO_in (σ := freeS) (τ := freeS) hm
   rw [show stoO l0 k = _ from e1] at hk; cases hk
  ·rw [stoO, updO_out hm] at hk; cases hk
 have in1' : ∀ {k : Nat}, stoS l1 k ≠ .free → k ∈ keysS l1 := by
  intro k hk
  apply Classical.byContradiction
  intro hm
  rw [stoS, updS_out hm] at hk; exact hk rfl
 have in1 : ∀ {k : Nat} {o : Ob}, stoS l1 k = .live o → k ∈ keysS l1 := fun hk => in1' (by rw [hk]; simp)
 generalize hρ' : (fun k => if k ∈ keysS l1 then ρ1 k else ρ k) = ρ'
 have hin : ∀ {k : Nat}, k ∈ keysS l1 → ρ' k = ρ1 k ∧ updS σ l1 k = stoS l1 k := fun hk => ⟨by rw [← hρ']; simp [hk], updS_in hk⟩
 have hout : ∀ {k : Nat}, k ∉ keysS l1 → ρ' k = ρ k ∧ updS σ l1 k = σ k := fun hk => ⟨by rw [← hρ']; simp [hk], updS_out hk⟩
 have k01 : ∀ {k : Nat}, k ∈ keysO l0 → k ∈ keysS l1 := by
  intro k hk
  obtain ⟨_, o, e1, _⟩ := updO_in (σ := freeS) (τ := freeS) hk
  rcases f1.hist.live k o e1 with e2 | ⟨o', e2, _⟩
  ·exact in1' (by rw [e2]; simp)
  ·exact in1 e2
 -- a block that a framed object lies in
 have fr : ∀ {k : Nat} {o : Ob}, k ∉ keysS l1 → σ k = .live o → o.nl = false → ρ k < w.heap.size ∧ ¬ Owned ρ (stoO l0) (ρ k) := by
  intro k o hk ho hn
  refine ⟨(hf.sto.ob k o ho hn).lt, ?_⟩
  rintro ⟨q, oq, e1, e2, e3⟩
  have := hf.sto.inj q k oq o (s0 e1).2.1 ho e2 hn e3
  subst this
  exact hk (k01 (s0 e1).1)
 have own1 : ∀ {b : Nat}, Owned ρ' (updS σ l1) b → Owned ρ1 (stoS l1) b ∨ ∃ k o, k ∉ keysS l1 ∧ σ k = .live o ∧ o.nl = false ∧ ρ k = b := by
  rintro b ⟨k, o, e1, e2, e3⟩
  by_cases hk : k ∈ keysS l1
  ·rw [(hin hk).2] at e1
   rw [(hin hk).1] at e3
   exact .inl ⟨k, o, e1, e2, e3⟩
  ·rw [(hout hk).2] at e1
   rw [(hout hk).1] at e3
   exact .inr ⟨k, o, hk, e1, e2, e3⟩
 have same : ∀ b, b < w.heap.size → ¬ Owned ρ (stoO l0) b → Same w w' b := by
  intro b hlt hno
  by_cases he : b ∈ ex
  ·obtain ⟨r, hr⟩ := (hf.rcd.loop b (hex b he)).2
   obtain ⟨r', hr'⟩ := (f1.rcd.loop b he).2
   exact .inr ⟨_, _, hr, hr', rfl, rfl⟩
  ·exact .inl (f1.frame b hlt hno he)
 have cellsame : ∀ (k : Nat) (o : Ob), σ k = .live o → o.nl = false → ¬ Owned ρ (stoO l0) (ρ k) → w'.heap[ρ k]? = w.heap[ρ k]? := by
  intro k o hk hn hno
  refine f1.frame _ (hf.sto.ob k o hk hn).lt hno fun he => ?_
  obtain ⟨r, hr⟩ := (hf.rcd.loop _ (hex _ he)).2
  have := (hf.sto.ob k o hk hn).noOdd hr
  simp [oddO] at this
 have hK : Keeps (x.Gd ρ σ) (x.Gd ρ' (updS σ l1)) ρ ρ' σ (updS σ l1) w w' := by
  refine .of (fun D hD => (f1.frame D (Array.getElem?_eq_some_iff.1 hD).1 (fun ho => by obtain ⟨k, o, e1, e2, rfl⟩ := own0 ho; have := (hf.sto.ob k o e1 e2).noOdd hD; simp [oddO] at this)
   (fun he => by obtain ⟨r, hr⟩ := (hf.rcd.loop D (hex D he)).2; rw [hD] at hr; simp at hr)).trans hD) ⟨fun b hb hlt => ⟨⟨hb.1, fun ho => ?_⟩, Nat.lt_of_lt_of_le hlt f1.size, same b hlt fun ho => hb.2 (own0 ho)⟩, fun k hk => ?_, fun k o hk => ?_⟩
  ·rcases own1 ho with ho | ⟨k, o, _, e2, e3, e4⟩
   ·rcases f1.own b ho with ho | ho
    ·exact hb.2 (own0 ho)
    ·exact absurd hlt (Nat.not_lt.2 ho)
   ·exact hb.2 ⟨k, o, e2, e3, e4⟩
  ·by_cases hm : k ∈ keysS l1
   ·rcases h1 k hm with e | e
    ·rw [h0 k e] at hk; exact absurd hk (live0 k)
    ·rw [e] at hk; cases hk
   ·rw [(hout hm).2, hk]
  ·by_cases hm : k ∈ keysS l1
   ·rcases h1 k hm with e | e
    ·rw [h0 k e] at hk
     rw [(hin hm).2, (hin hm).1]
     exact f1.hist.live k o hk
    ·rw [e] at hk; cases hk
   ·refine .inr ⟨o, by rw [(hout hm).2, hk], rfl, rfl, rfl, fun hn => ⟨(hout hm).1, fun cs el fz hcs => ?_⟩⟩
    obtain ⟨e1, e2⟩ := fr hm hk hn
    rw [cellsame _ _ hk hn e2] at hcs
    exact ⟨_, _, _, hcs, Nat.le_refl _⟩
 have hK2 : Keeps ((subX x ρ σ w l0 ex lp).Gd ρ1 (stoS l1)) (x.Gd ρ' (updS σ l1)) ρ1 ρ' (stoS l1) (updS σ l1) w' w' := by
  refine .of (fun D hD => hD) ⟨fun b hb hlt => ⟨⟨?_, fun ho => ?_⟩, hlt, .inl rfl⟩, fun k hk => ?_, fun k o hk => .inr ⟨o, by rw [(hin (in1 hk)).2, hk], rfl, rfl, rfl, fun _ => ⟨(hin (in1 hk)).1, fun cs el fz hcs => ?_⟩⟩⟩
  ·rcases hb.1 with hb1 | hb1 | hb1
   ·exact hb1.1
   ·exact (hf.own b (own0 hb1)).elim (fun e => .inr (.inl e)) fun e => .inr (.inr e)
   ·exact .inr (.inr (Nat.le_trans hf.size hb1))
  ·rcases own1 ho with ho | ⟨k, o, e1, e2, e3, rfl⟩
   ·exact hb.2 ho
   ·obtain ⟨g1, g2⟩ := fr e1 e2 e3
    rcases hb.1 with hb1 | hb1 | hb1
    ·exact hb1.2 ⟨k, o, e2, e3, rfl⟩
    ·exact g2 hb1
    ·exact absurd g1 (Nat.not_lt.2 hb1)
  ·rw [(hin (in1' (by rw [hk]; simp))).2, hk]
  ·exact ⟨_, _, _, hcs, Nat.le_refl _⟩
 refine ⟨ρ', hK, ⟨⟨fun k o hk hn => ?_, fun k o hk hn => ?_, fun k k' o o' hk hk' hn hn' he => ?_⟩, fun b hb => ?_, fun b hlt hb hbx => ?_, hrc _ _ hK.toKeeps0, Nat.le_trans hf.size f1.size, f1.os.trans hf.os, f1.tape.trans hf.tape, f1.output.trans hf.output, hf.hist.trans hK.toKeeps0⟩, fun r v hv => hv.keeps hK2⟩
 ·by_cases hm : k ∈ keysS l1
  ·rw [(hin hm).2] at hk
   rw [(hin hm).1]
   exact (f1.sto.ob k o hk hn).keeps hK2.toKeeps0 rfl
  ·rw [(hout hm).2] at hk
   rw [(hout hm).1]
   obtain ⟨e1, e2⟩ := fr hm hk hn
   exact (hf.sto.ob k o hk hn).keeps hK.toKeeps0 (cellsame _ _ hk hn e2)
 ·by_cases hm : k ∈ keysS l1
  ·rw [(hin hm).2] at hk; exact f1.sto.nil k o hk hn
  ·rw [(hout hm).2] at hk; exact hf.sto.nil k o hk hn
 ·have mixed : ∀ {k k' : Nat} {o o' : Ob}, k ∈ keysS l1 → k' ∉ keysS l1 → stoS l1 k = .live o → σ k' = .live o' → o.nl = false → o'.nl = false → ρ1 k = ρ k' → False := by
   intro k k' o o' m1 m2 e1 e2 e3 e4 e5
   obtain ⟨g1, g2⟩ := fr m2 e2 e4
   rcases f1.own _ ⟨k, o, e1, e3, e5⟩ with g | g
   ·exact g2 g
   ·exact absurd g1 (Nat.not_lt.2 g)
  by_cases hm : k ∈ keysS l1 <;> by_cases hm' : k' ∈ keysS l1
  ·rw [(hin hm).2] at hk; rw [(hin hm').2] at hk'; rw [(hin hm).1, (hin hm').1] at he
   exact f1.sto.inj k k' o o' hk hk' hn hn' he
  ·rw [(hin hm).2] at hk; rw [(hout hm').2] at hk'; rw [(hin hm).1, (hout hm').1] at he
   exact (mixed hm hm' hk hk' hn hn' he).elim
  ·rw [(hout hm).2] at hk; rw [(hin hm').2] at hk'; rw [(hout hm).1, (hin hm').1] at he
   exact (mixed hm' hm hk' hk hn' hn he.symm).elim
  ·rw [(hout hm).2] at hk; rw [(hout hm').2] at hk'; rw [(hout hm).1, (hout hm').1] at he
   exact hf.sto.inj k k' o o' hk hk' hn hn' he
 ·rcases own1 hb with hb | ⟨k, o, _, e2, e3, e4⟩
  ·rcases f1.own b hb with hb | hb
   ·exact hf.own b (own0 hb)
   ·exact .inr (Nat.le_trans hf.size hb)
  ·exact hf.own b ⟨k, o, e2, e3, e4⟩
 ·have : ¬ Owned ρ (stoO l0) b := fun ho => (hf.own b (own0 ho)).elim hb fun e => absurd hlt (Nat.not_lt.2 e)
  exact (f1.frame b (Nat.lt_of_lt_of_le hlt hf.size) this fun he => hbx (hex b he)).trans (hf.frame b hlt hb hbx)


theorem EffS.does {P : Program} {f : FuncId} {l0 : List (Nat × Ob)} {l1 : List (Nat × Slot)} {args : List C} {r : C} (h : EffS P f l0 args r l1) {σ : Nat → Slot} (h0 : ∀ k ∈ keysO l0, σ k = stoO l0 k) (h1 : ∀ k ∈ keysS l1, k ∈ keysO l0 ∨ σ k = .free) :
  Does P f σ args r (updS σ l1) := by
 refine { h.toCallable with calls := fun x ρ w vs hgk hf hc => ?_ }
 obtain ⟨f0, hc0⟩ := frm_sub (ex := []) (lp := []) ⟨by simp, by simp, by simp⟩ hf h.w0 h0
 have hgo : GkO P ρ (stoO l0) w := hgk.less fun b ⟨k, o, e1, e2, e3⟩ => by
  by_cases hm : k ∈ keysO l0
  ·exact ⟨k, o, (h0 k hm).trans e1, e2, e3⟩
  ·rw [stoO, updO_out hm] at e1; cases e1
 refine (h.calls (subX x ρ σ w l0 [] []) vs rfl hgo f0 ⟨hc.1, fun i c hi => hc0 _ _ (wil_get h.wa hi) (hc.2 i c hi)⟩).mono ?_
 rintro e w' ⟨v, ρ1, rfl, f1, hv⟩
 obtain ⟨ρ', hK, hF, hcr⟩ := frm_liftS (by simp) hf h0 h1 f1 h.nf fun G' ρ' hk => hf.rcd.keep hk (fun k hg => by
  by_cases hm : k ∈ keysS l1
  ·rcases h1 k hm with e | e
   ·obtain ⟨_, o, e1, _⟩ := updO_in (σ := freeS) (τ := freeS) e
    rw [h0 k e, show stoO l0 k = _ from e1] at hg; cases hg
   ·rw [e] at hg; cases hg
  ·rw [updS_out hm]; exact hg) fun b r hr hb => (f1.frame b (Array.getElem?_eq_some_iff.1 hb).1 (fun ho => by
  obtain ⟨k, o, e1, e2, rfl⟩ := ho
  have h1 := (f0.sto.ob k o e1 e2).noOdd hb; rw [recO_odd hr] at h1; cases h1) (by simp)).trans hb
 exact ⟨v, ρ', rfl, hK, hF, hcr _ _ hv⟩

section
variable {P : Program}
theorem effS_of_body {f : FuncId} {fn : Func} {c : Code} {args : List C} {r : C} {l0 : List (Nat × Ob)} {l1 : List (Nat × Slot)} (res : List ResultVar) (hf : FnIs P f fn c) (hlen : Nat.ble args.length fn.ntmps = true) (hrs : fn.results.toList = res) (hres : resNt fn.ntmps res = true)
  (wa : wil (keysO l0) args = true) (w0 : ∀ p ∈ l0, p.2.rows.all (wil (keysO l0)) = true)
  (h : ∀ x : Ctx, x.nt = fn.ntmps → x.σ = stoO l0 → AWP P x c ⟨envOf args, stoO l0⟩ fun e s => (e = .normal ∨ e = .ret) ∧ ∃ d T, retC P s res = some d ∧ Shp x s.sto T ∧ mtc (mT T) d r ∧ stoT T = stoS l1) (hnf : ∀ p ∈ l1, p.2 ≠ .free ∧ p.2 ≠ .gh) : EffS P f l0 args r l1 := by
 refine { hf.callable with wa := wa, w0 := w0, nf := hnf, calls := fun x vs hx0 hgk hfrm hc => ?_ }
 subst hrs
 refine calls_of_awp hf.func hf.body ?_
 have hsim := sim_enterX (x := x.body fn.ntmps) (nt := fn.ntmps) hfrm.reNt hc (Nat.le_of_ble_eq_true hlen) rfl rfl
 have hA := h (x.body fn.ntmps) rfl hx0 (.none hgk rfl) x.ρ _ x.w (by rw [← hx0]; exact hsim)
 refine wpIn_mono hA ?_
 rintro e a w1 ⟨ρ, s, hs1, he, d, T, hd, hT, hm, hl⟩
 refine ⟨he, leave_sim hs1 fun w' hs => ?_⟩
 obtain ⟨v, h1, h2⟩ := retC_sound (P := P) hs hres hd
 have f1 := hT.gen.frm hs.toFrm
 have f2 := hT.gen.mt_sound h2 hm
 rw [hl] at f1 f2
 exact ⟨v, h1, v, _, rfl, f1.unNt, f2⟩

end

theorem Frm.killWith {x : Ctx} {ρ : Nat → Nat} {σ : Nat → Slot} {w w' : World} (h : Frm x ρ σ w) {k : Nat} {o : Ob} (hk : σ k = .live o) (hn : o.nl = false)
  (hold : ∀ b, b ≠ ρ k → w'.heap[b]? = w.heap[b]?) (hsz : w'.heap.size = w.heap.size) (hos : w'.os = w.os) (htape : w'.tape = w.tape) (hout : w'.output = w.output) :
  Keeps (x.Gd ρ σ) (x.Gd ρ (upd σ k .dead)) ρ ρ σ (upd σ k .dead) w w' ∧ Frm x ρ (upd σ k .dead) w' := by
 have hobk := h.sto.ob k o hk hn
 have live : ∀ {j oj}, upd σ k .dead j = .live oj → j ≠ k ∧ σ j = .live oj := by
  intro j oj hj
  by_cases e : j = k
  ·subst e; simp at hj
  ·rw [upd_ne _ _ e] at hj; exact ⟨e, hj⟩
 have hown : ∀ b, Owned ρ (upd σ k .dead) b → Owned ρ σ b := by
  rintro b ⟨j, oj, h1, h2, h3⟩
  exact ⟨j, oj, (live h1).2, h2, h3⟩
 have hK : Keeps (x.Gd ρ σ) (x.Gd ρ (upd σ k .dead)) ρ ρ σ (upd σ k .dead) w w' := by
  refine .of (fun D hD => (hold D (by rintro rfl; have := hobk.noOdd hD; simp [oddO] at this)).trans hD) ⟨fun b hb hlt => ⟨⟨hb.1, fun ho => hb.2 (hown b ho)⟩, by omega, .inl (hold b (by rintro rfl; exact hb.2 ⟨k, o, hk, hn, rfl⟩))⟩, fun j hj => ?_, fun j oj hj => ?_⟩
  ·by_cases e : j = k
   ·subst e; simp
   ·rw [upd_ne _ _ e]; exact hj
  ·by_cases e : j = k
   ·subst e; exact .inl (by simp)
   ·refine .inr ⟨oj, by rw [upd_ne _ _ e]; exact hj, rfl, rfl, rfl, fun hn' => ⟨rfl, fun cs el fz hc => ?_⟩⟩
    rw [hold _ (fun he => e (h.sto.inj j k oj o hj hk hn' hn he))] at hc
    exact ⟨_, _, _, hc, Nat.le_refl _⟩
 refine ⟨hK, ⟨⟨fun j oj hj hn' => ?_, fun j oj hj hn' => h.sto.nil j oj (live hj).2 hn', fun j j' oj oj' h1 h2 n1 n2 e => h.sto.inj j j' oj oj' (live h1).2 (live h2).2 n1 n2 e⟩,
  fun b hb => h.own b (hown b hb), fun b hb hnb hex => ?_, h.rcd.keep hK.toKeeps0 (fun j hj => by
   have e : j ≠ k := by rintro rfl; rw [hk] at hj; cases hj
   rw [upd_ne _ _ e]; exact hj) fun b r hr hb => (hold b (by rintro rfl; have h1 := hobk.noOdd hb; rw [recO_odd hr] at h1; cases h1)).trans hb, by rw [hsz]; exact h.size, hos.trans h.os, htape.trans h.tape, hout.trans h.output, h.hist.trans hK.toKeeps0⟩⟩
 ·exact (h.sto.ob j oj (live hj).2 hn').keeps hK.toKeeps0 (hold _ fun he => (live hj).1 (h.sto.inj j k oj o (live hj).2 hk hn' hn he))
 ·have hne : b ≠ ρ k := by
   rintro rfl
   rcases h.own _ ⟨k, o, hk, hn, rfl⟩ with h1 | h1
   ·exact hnb h1
   ·omega
  rw [hold b hne]
  exact h.frame b hb hnb hex

end Go.Abs

/- Contracts of library functions, over the model, become contracts of data; a variable of the type strings.Builder. No condition. -/
namespace Go.Abs

def detV : C → Option Value
 | .int k n => some (.int k n)
 | .bool b => some (.bool b)
 | .str s => some (.string s)
 | _ => none

theorem detV_PR {G : Nat → Prop} {w : World} {c : C} {v u : Value} (h : PR G w c v) (hd : detV c = some u) : v = u := by
 cases h <;> simp [detV] at hd <;> exact hd

theorem PL.det {G : Nat → Prop} {w : World} {l : List C} {vs : Array Value} {vl : List Value} (h : PL G w l vs) (hd : mapO detV l = some vl) : vs = vl.toArray := by
 obtain ⟨h1, h2⟩ := mapO_get hd
 have hs := h.1
 apply Array.ext
 ·simp; omega
 ·intro i hi1 hi2
  have hi3 : i < vl.length := by simpa using hi2
  obtain ⟨c, hc, hcv⟩ := h2 i _ (List.getElem?_eq_getElem hi3)
  have := detV_PR (h.2 i c hc) hcv
  simp only [Array.getD_eq_getD_getElem?, Array.getElem?_eq_getElem hi1, Option.getD_some] at this
  simpa using this

theorem pure_calls {P : Program} {f : FuncId} {fn : Func} {c : Code} {args : List C} {r : C} {vl : List Value} (hf : FnIs P f fn c) (hd : mapO detV args = some vl)
  (h : ∀ (G : Nat → Prop) (w : World), Gk P w → Calls P f vl.toArray w fun e w' => ∃ v, e = .returned v ∧ Grew w w' ∧ PR (fun b => G b ∨ w.heap.size ≤ b) w' r v) : Pure P f args r := by
 refine { hf.callable with calls := fun G w vs hgk hpl => ?_ }
 rw [hpl.det hd]
 refine (h G w hgk).mono ?_
 rintro e w' ⟨v, rfl, hg, hr⟩
 exact ⟨v, rfl, hr, hg⟩

end Go.Abs

/- A scope that no jump leads back into. No condition. -/
namespace Go
section
variable {F : Fence} {n : Nat} {P : Program} {Q : Exit → Act → World → Prop} {a : Act} {w : World}

end
end Go
namespace Go.Abs
section
variable {P : Program} {x : Ctx}

end
end Go.Abs

/- Families of objects by number, and a range over a function with them. No condition. -/
namespace Go.Abs
section
variable {P : Program} {x : Ctx}

theorem fk_ex : ∃ f : Nat → Nat, ∀ e, f e = e + 3000000 := ⟨fun e => e + 3000000, fun _ => rfl⟩
noncomputable def fk : Nat → Nat := Classical.choose fk_ex
theorem fk_eq (e : Nat) : fk e = e + 3000000 := Classical.choose_spec fk_ex e
@[simp] theorem fk_inj (e d : Nat) : (fk e = fk d) = (e = d) := by
 rw [fk_eq, fk_eq]; exact propext ⟨fun h => by omega, fun h => by rw [h]⟩
@[simp] theorem fk_ne {e n : Nat} (h : n < 3000000) : (fk e = n) = False := eq_false (by rw [fk_eq]; omega)
@[simp] theorem ne_fk {e n : Nat} (h : n < 3000000) : (n = fk e) = False := eq_false (by rw [fk_eq]; omega)

def famS (T : List (Nat × Nat × Slot)) (N : Nat) (M : Nat → Slot) : Nat → Slot := fun k => if 3000000 ≤ k ∧ k < N + 3000000 then M (k - 3000000) else stoT T k

theorem famS_apply (T : List (Nat × Nat × Slot)) (N : Nat) (M : Nat → Slot) (k : Nat) : famS T N M k = if 3000000 ≤ k ∧ k < N + 3000000 then M (k - 3000000) else stoT T k := rfl

@[simp] theorem famS_fk (T : List (Nat × Nat × Slot)) (N : Nat) (M : Nat → Slot) (e : Nat) : famS T N M (fk e) = if e < N then M e else stoT T (fk e) := by
 rw [famS_apply]
 have h1 : fk e - 3000000 = e := by rw [fk_eq]; omega
 by_cases h : e < N
 ·rw [if_pos h, if_pos (by rw [fk_eq]; omega), h1]
 ·rw [if_neg h, if_neg (by rw [fk_eq]; omega)]
@[simp] theorem famS_lo (T : List (Nat × Nat × Slot)) (N : Nat) (M : Nat → Slot) {k : Nat} (h : k < 3000000) : famS T N M k = stoT T k := by
 rw [famS_apply, if_neg (by omega)]

theorem famS_rfam {L : Nat} (hL : L < 3000000) (T : List (Nat × Nat × Slot)) (N : Nat) (M : Nat → Slot) (i : Nat) (fam : Nat → Nat → Slot) (h : fam i = famS T N M) : rfam L fam i = famS ((L, L, .gh) :: T) N M := by
 funext k
 unfold rfam
 rw [h]
 by_cases e : k = L
 ·subst e
  have : ¬ (3000000 ≤ k ∧ k < N + 3000000) := by omega
  simp [famS_apply, this, stoT]
 ·rw [if_neg e]
  simp [famS_apply, stoT, upd, e]

def mF (T : List (Nat × Nat × Slot)) (N : Nat) (old : Nat → Nat) : Nat → Nat → Prop := fun a b => mT T a b ∨ ∃ e, e < N ∧ a = fk e ∧ b = old e

theorem mF_M {T : List (Nat × Nat × Slot)} {N : Nat} {old : Nat → Nat} {e b : Nat} (he : e < N) (h : old e = b) : mF T N old (fk e) b := .inr ⟨e, he, rfl, h.symm⟩

theorem wk_fam {s : AS} {E : List (Nat × C)} {T : List (Nat × Nat × Slot)} {N : Nat} {M : Nat → Slot} (old : Nat → Nat) (hT : ∀ p ∈ T, p.1 < 3000000 ∧ p.2.1 < 3000000) (n1 : (T.map (·.1)).Nodup) (n2 : (T.map (·.2.1)).Nodup)
  (ho : ∀ e, e < N → old e = fk e ∨ (old e < 3000000 ∧ old e ∉ T.map (·.2.1) ∧ ∀ e', e' < N → old e' = old e → e' = e))
  (hm : ∀ e, e < N → SlotOk (mF T N old) (s.sto (old e)) (M e)) (ok : ∀ p ∈ T, SlotOk (mF T N old) (s.sto p.2.1) p.2.2) (hE : ∀ p ∈ E, mtc (mF T N old) (s.env p.1) p.2)
  (hx : ∀ k, x.σ k ≠ .free → (x.σ k ≠ .gh ∨ ∃ p ∈ x.lp, p.2.2.1 = k) → mF T N old k k) : Wk x s ⟨ofL E, famS T N M⟩ := by
 have mTlt : ∀ {a b}, mT T a b → a < 3000000 ∧ b < 3000000 := by
  intro a b h
  obtain ⟨q, hq⟩ := mem_mT.1 h
  exact hT _ hq
 have mTin : ∀ {a b}, mT T a b → b ∈ T.map (·.2.1) := by
  intro a b h
  obtain ⟨q, hq⟩ := mem_mT.1 h
  exact List.mem_map.2 ⟨_, hq, rfl⟩
 have ov : ∀ e, e < N → ∀ b, mT T b (old e) → False := by
  intro e he b hb
  rcases ho e he with h | ⟨h1, h2, _⟩
  ·have := (mTlt hb).2; rw [h, fk_eq] at this; omega
  ·exact h2 (mTin hb)
 refine wk_shpG (m := mF T N old) (old := fun a => if 3000000 ≤ a then old (a - 3000000) else oldT T a) ⟨fun a b h => ?_, fun a b k ha hb => ?_, fun a b h => ?_, fun a ha => ?_, hx⟩ hE
 ·rcases h with h | ⟨e, he, rfl, rfl⟩
  ·have := (mTlt h).1
   rw [if_neg (by omega)]
   obtain ⟨q, hq⟩ := mem_mT.1 h
   exact oldT_mem n1 hq
  ·have h1 : fk e - 3000000 = e := by rw [fk_eq]; omega
   rw [if_pos (by rw [fk_eq]; omega), h1]
 ·rcases ha with ha | ⟨e, he, rfl, rfl⟩ <;> rcases hb with hb | ⟨e', he', rfl, hb⟩
  ·obtain ⟨q, hq⟩ := mem_mT.1 ha
   obtain ⟨q', hq'⟩ := mem_mT.1 hb
   exact (Prod.mk.inj (nodup_snd n2 hq hq' rfl)).1
  ·subst hb; exact (ov e' he' _ ha).elim
  ·exact (ov e he _ hb).elim
  ·have : e = e' := by
    rcases ho e he with h | ⟨h1, h2, h3⟩
    ·rcases ho e' he' with g | ⟨g1, g2, g3⟩
     ·rw [h, g, fk_inj] at hb; exact hb
     ·rw [h, fk_eq] at hb; omega
    ·exact (h3 e' he' hb.symm).symm
   rw [this]
 ·rcases h with h | ⟨e, he, rfl, rfl⟩
  ·have hlt := (mTlt h).1
   obtain ⟨q, hq⟩ := mem_mT.1 h
   have h1 := ok _ hq
   have h2 := stoT_mem n1 hq
   simp only at h1 h2
   have : ¬ (3000000 ≤ a ∧ a < N + 3000000) := by omega
   simp only [famS_apply, if_neg this]
   rw [h2]; exact h1
  ·have := hm e he
   rw [famS_fk, if_pos he]
   exact this
 ·simp only [famS_apply] at ha
  split at ha
  ·rename_i hk
   exact ⟨old (a - 3000000), .inr ⟨a - 3000000, by omega, by rw [fk_eq]; omega, rfl⟩⟩
  ·obtain ⟨p, hp, rfl, hs⟩ := stoT_some ha
   exact ⟨p.2.1, .inl (mem_mT.2 ⟨p.2.2, hp⟩)⟩

theorem wk_gh {env : Nat → C} {σ σ' : Nat → Slot} (h : ∀ k, σ' k = σ k ∨ (σ k = .free ∧ σ' k = .gh)) : Wk x ⟨env, σ⟩ ⟨env, σ'⟩ := by
 intro ρ a w hs
 have hf1 := hs.toFrm
 have hlv : ∀ k o, σ' k = .live o ↔ σ k = .live o := by
  intro k o
  rcases h k with e | ⟨e1, e2⟩
  ·rw [e]
  ·rw [e1, e2]; simp
 have hown : ∀ b, Owned ρ σ' b ↔ Owned ρ σ b := by
  intro b
  constructor
  ·rintro ⟨k, o, e1, e2, e3⟩; exact ⟨k, o, (hlv k o).1 e1, e2, e3⟩
  ·rintro ⟨k, o, e1, e2, e3⟩; exact ⟨k, o, (hlv k o).2 e1, e2, e3⟩
 have hK0 : Keeps (x.Gd ρ σ) (x.Gd ρ σ') ρ ρ σ σ' w w := by
  refine .of (fun D hD => hD) ⟨fun b hb hlt => ⟨⟨hb.1, fun ho => hb.2 ((hown b).1 ho)⟩, hlt, .inl rfl⟩, fun k hk => ?_, fun k o hk => .inr ⟨o, (hlv k o).2 hk, rfl, rfl, rfl, fun hn => ⟨rfl, fun cs el fz hc => ⟨_, _, _, hc, Nat.le_refl _⟩⟩⟩⟩
  rcases h k with e | ⟨e1, e2⟩
  ·rw [e]; exact hk
  ·rw [e1] at hk; cases hk
 have hf2 : Frm x ρ σ' w := by
  refine ⟨⟨fun k o hk hn => (hf1.sto.ob k o ((hlv k o).1 hk) hn).keeps hK0.toKeeps0 rfl, fun k o hk hn => hf1.sto.nil k o ((hlv k o).1 hk) hn, fun k k' o o' hk hk' hn hn' he => hf1.sto.inj k k' o o' ((hlv k o).1 hk) ((hlv k' o').1 hk') hn hn' he⟩,
   fun b hb => hf1.own b ((hown b).1 hb), hf1.frame, ⟨hf1.rcd.loop, fun p hp => ?_, hf1.rcd.itr⟩, hf1.size, hf1.os, hf1.tape, hf1.output, hf1.hist.trans hK0.toKeeps0⟩
  obtain ⟨q1, q2, q3⟩ := hf1.rcd.rdy p hp
  refine ⟨q1, q2, ?_⟩
  rcases h p.2.2.1 with e | ⟨e1, e2⟩
  ·rw [e]; exact q3
  ·rcases q3 with ⟨q3, _⟩ | ⟨q3, _⟩ <;> exact absurd (e1.symm.trans q3) (by simp)
 exact ⟨ρ, { hf2 with nt := hs.nt, defers := hs.defers, inr := hs.inr, env := fun t ht => (hs.env t ht).keeps hK0 }⟩

theorem wk_famGh {env : Nat → C} {T : List (Nat × Nat × Slot)} (hT : ∀ p ∈ T, p.1 < 3000000) (N : Nat) : Wk x ⟨env, stoT T⟩ ⟨env, famS T N fun _ => .gh⟩ := by
 refine wk_gh fun k => ?_
 by_cases h : 3000000 ≤ k ∧ k < N + 3000000
 ·refine .inr ⟨?_, by simp [famS_apply, h]⟩
  refine Classical.byContradiction fun hf => ?_
  obtain ⟨p, hp, rfl, _⟩ := stoT_some hf
  have := hT p hp
  omega
 ·exact .inl (by simp [famS_apply, h])

structure RndS (L : Nat) (fam : Nat → Nat → Slot) (i : Nat) (y : Ctx) : Prop where
 σ : y.σ = rfam L fam i
 lp : ∀ p ∈ y.lp, p.2.2.1 = L

theorem awp_rangeG {t : Nat} {ps : Array Tmp} {assign body : Code} {Q : Exit → AS → Prop} (L : Nat) (K : List Nat) (fam : Nat → Nat → Slot) (items : List (List C)) (stop : Nat) (jc : Code) (E0 El : List (Nat × C)) {gf : FuncId} {first caps : List C}
  {s : AS} (hw0 : Wk x s ⟨ofL E0, fam 0⟩) (hx : x.σ = freeS) (hfam : FamOk L K fam) (hg : ofL E0 t = .fn (.func gf) first caps) (hgt : t < x.nt) (hpu : purel first = true ∧ purel caps = true) (hit : ItC P L gf first caps items) (hstop : stop ≤ items.length)
  (hE0 : ∀ p ∈ E0, p.2.wi K = true) (hE : ∀ p ∈ El, p.2.wi K = true ∧ ofL E0 p.1 = p.2) (hps : ∀ args ∈ items, purel args = true ∧ args.length = ps.size)
  (hround : ∀ i args, items[i]? = some args → i ≤ stop → ∀ (y y2 : Ctx), y.nt = x.nt → y2.nt = x.nt → RndS L fam i y → RndS L fam i y2 →
   AWP P y assign ⟨putPs (ofL El) ps.toList args, rfam L fam i⟩ (nextQ (fun s' => s'.sto L = .gh ∧ AWP P y2 body s' fun e s'' => (if i = stop then jumpOf e = some jc else e = .normal) ∧ Wk y2 s'' ⟨fun _ => .any, rfam L fam (i + 1)⟩) fun _ _ => False))
  (hdone : stop = items.length → ∀ s', Wk x s' ⟨ofL E0, fam items.length⟩ → Q .normal s')
  (hjump : stop < items.length → AWP P x jc ⟨ofL E0, fam (stop + 1)⟩ Q) : AWP P x (.rangeFunc (.tmp t) ps assign body) s Q := by
 have hLK : L ∉ K := fun h => Nat.lt_irrefl _ (hfam.lt L h)
 have hend : ∀ n, Wk x ⟨ofL E0, ovS (L :: K) (fam 0) (stg L fam stop n)⟩ ⟨ofL E0, fam n⟩ := by
  intro n
  have hov : ∀ k ∈ K, ovS (L :: K) (fam 0) (stg L fam stop n) k = fam n k := by
   intro k hk
   have hne : k ≠ L := fun e => hLK (e ▸ hk)
   rw [ovS_in (by simp [hk])]
   simp only [stg, if_neg hne]
  have hsh : ShpG x (ovS (L :: K) (fam 0) (stg L fam stop n)) (fam n) (fun a b => a = b ∧ a ∈ K) id := by
   refine ⟨fun a b h => h.1, fun a b k h1 h2 => h1.1.trans h2.1.symm, ?_, fun a ha => ⟨a, rfl, Classical.byContradiction fun h => ha (hfam.out n a h)⟩, fun k hk => absurd (by rw [hx]; rfl) hk⟩
   rintro a b ⟨rfl, ha⟩
   rw [hov a ha]
   cases h : fam n a with
   | free => exact (hfam.st n a ha h).elim
   | dead => exact trivial
   | gh => rfl
   | live o => exact ⟨rfl, rfl, rfl, rows_self (ks := K) (fun k hk => ⟨rfl, hk⟩) _ (hfam.wi n a o h) (hfam.ce n a o h)⟩
  exact wk_shpE hsh fun t => mt_self (ks := K) (fun k hk => ⟨rfl, hk⟩) _ (ofL_wi hE0 t)
 refine AWP.weak ?_ hw0
 intro hY ρ a w hs
 have hlp0 : ∀ p ∈ x.lp, False := by
  intro p hp
  have := (hs.toFrm.rcd.rdy p hp).2.1
  rw [hx] at this
  exact this rfl
 refine awp_range (x := x) (g := .tmp t) (s := ⟨ofL E0, fam 0⟩) L K fam items stop jc (ofL El) hg (fun t' ht => by cases ht; exact hgt) hpu hit hstop hfam (hfam.out 0 L hLK) (fun k hk => rfl) (ofL_E hE) hps (fun k hk => absurd (by rw [hx]; rfl) hk) ?_ (fun e => hdone e _ (hend _)) (fun e => AWP.weak (hjump e) (hend _)) hY ρ a w hs
 intro i args hit' hi l y y2 hy hy2
 have mk : ∀ {z : Ctx}, RndX z x.nt l L (rfam L fam i) x.Y x.ex x.lp → RndS L fam i z := by
  intro z hz
  refine ⟨hz.σ, fun p hp => ?_⟩
  obtain ⟨o, o', e⟩ := hz.lp
  rw [e] at hp
  rcases List.mem_cons.1 hp with rfl | hp
  ·rfl
  ·exact (hlp0 p hp).elim
 refine AWP.mono (hround i args hit' hi y y2 hy.nt hy2.nt (mk hy) (mk hy2)) ?_
 intro e s' he
 cases e with
 | normal => exact ⟨he.1, AWP.mono he.2 fun e' s'' h => h⟩
 | _ => exact he

theorem famOkS {L : Nat} {K : List Nat} {N : Nat} {T : Nat → List (Nat × Nat × Slot)} {M : Nat → Nat → Slot} (hL : L < 3000000) (hK : ∀ k ∈ K, L < k ∧ k < 3000000) (nd : K.Nodup) (hT : ∀ i, (T i).map (·.1) = K)
  (hst : ∀ i, ∀ p ∈ T i, ∃ o, p.2.2 = .live o ∧ o.rows.all (wil (K ++ (List.range N).map fk)) = true ∧ o.rows.all (fun r => r.all C.cell) = true)
  (hM : ∀ i e, e < N → M i e ≠ .free ∧ ∀ o, M i e = .live o → o.rows.all (wil (K ++ (List.range N).map fk)) = true ∧ o.rows.all (fun r => r.all C.cell) = true) :
  FamOk L (K ++ (List.range N).map fk) fun i => famS (T i) N (M i) := by
 have memM : ∀ {k}, k ∈ (List.range N).map fk ↔ 3000000 ≤ k ∧ k < N + 3000000 := by
  intro k
  simp only [List.mem_map, List.mem_range]
  constructor
  ·rintro ⟨a, h, rfl⟩; rw [fk_eq]; omega
  ·rintro ⟨h1, h2⟩; exact ⟨k - 3000000, by omega, by rw [fk_eq]; omega⟩
 have key : ∀ i k o, famS (T i) N (M i) k = .live o → o.rows.all (wil (K ++ (List.range N).map fk)) = true ∧ o.rows.all (fun r => r.all C.cell) = true := by
  intro i k o h
  simp only [famS_apply] at h
  split at h
  ·rename_i hk
   exact (hM i (k - 3000000) (by omega)).2 o h
  ·obtain ⟨p, hp, rfl, e⟩ := stoT_some (by rw [h]; simp)
   obtain ⟨o', h1, h2⟩ := hst i p hp
   rw [e, h1] at h
   cases h
   exact h2
 refine ⟨fun k hk => ?_, ?_, fun i k hk => ?_, fun i k hk => ?_, fun i k o h => (key i k o h).1, fun i k o h => (key i k o h).2⟩
 ·rcases List.mem_append.1 hk with hk | hk
  ·exact (hK k hk).1
  ·have := memM.1 hk; omega
 ·refine List.nodup_append.2 ⟨nd, ?_, fun a ha b hb e => ?_⟩
  ·exact List.pairwise_map.2 (List.nodup_range.imp fun h e => h (by simpa using e))
  ·subst e
   have := (hK a ha).2
   have := memM.1 hb
   omega
 ·simp only [List.mem_append, not_or] at hk
  have h1 : ¬ (3000000 ≤ k ∧ k < N + 3000000) := fun h => hk.2 (memM.2 h)
  simp only [famS_apply, if_neg h1]
  refine Classical.byContradiction fun hf => ?_
  obtain ⟨p, hp, rfl, _⟩ := stoT_some hf
  exact hk.1 (by rw [← hT i]; exact List.mem_map.2 ⟨p, hp, rfl⟩)
 ·rcases List.mem_append.1 hk with hk | hk
  ·have h1 : ¬ (3000000 ≤ k ∧ k < N + 3000000) := by have := (hK k hk).2; omega
   simp only [famS_apply, if_neg h1]
   rw [← hT i] at hk
   obtain ⟨p, hp, rfl⟩ := List.mem_map.1 hk
   rw [stoT_mem (by rw [hT i]; exact nd) hp]
   obtain ⟨o, h2, _⟩ := hst i p hp
   rw [h2]; simp
  ·have h1 := memM.1 hk
   simp only [famS_apply, if_pos h1]
   exact (hM i _ (by omega)).1

theorem wk_famR {y : Ctx} {L i : Nat} {fam : Nat → Nat → Slot} {T0 : List (Nat × Nat × Slot)} {M0 : Nat → Slot} {s : AS} {E : List (Nat × C)} {T : List (Nat × Nat × Slot)} {N : Nat} {M : Nat → Slot} (old : Nat → Nat) (hy : RndS L fam i y) (h0 : rfam L fam i = famS T0 N M0)
  (hT0 : ∀ k ∈ T0.map (·.1), mT T k k) (hLT : L ∈ T0.map (·.1)) (hM0 : ∀ e, e < N → M0 e ≠ .gh → old e = fk e)
  (hT : ∀ p ∈ T, p.1 < 3000000 ∧ p.2.1 < 3000000) (n1 : (T.map (·.1)).Nodup) (n2 : (T.map (·.2.1)).Nodup)
  (ho : ∀ e, e < N → old e = fk e ∨ (old e < 3000000 ∧ old e ∉ T.map (·.2.1) ∧ ∀ e', e' < N → old e' = old e → e' = e))
  (hm : ∀ e, e < N → SlotOk (mF T N old) (s.sto (old e)) (M e)) (ok : ∀ p ∈ T, SlotOk (mF T N old) (s.sto p.2.1) p.2.2) (hE : ∀ p ∈ E, mtc (mF T N old) (s.env p.1) p.2) : Wk y s ⟨ofL E, famS T N M⟩ := by
 refine wk_fam old hT n1 n2 ho hm ok hE fun k hk hk2 => ?_
 rcases hk2 with hk2 | ⟨p, hp, rfl⟩
 ·rw [hy.σ, h0] at hk hk2
  simp only [famS_apply] at hk hk2
  split at hk
  ·rename_i h1
   rw [if_pos h1] at hk2
   exact .inr ⟨k - 3000000, by omega, by rw [fk_eq]; omega, by rw [hM0 _ (by omega) hk2, fk_eq]; omega⟩
  ·obtain ⟨q, hq, rfl, _⟩ := stoT_some hk
   exact .inl (hT0 _ (List.mem_map.2 ⟨q, hq, rfl⟩))
 ·rw [hy.lp p hp]
  exact .inl (hT0 _ hLT)

end
end Go.Abs

/- A slice of an array that is an object: the array becomes an object of its elements. No condition. -/
namespace Go.Abs
section
variable {P : Program} {x : Ctx} {ρ : Nat → Nat} {σ : Nat → Slot} {w : World}

end
end Go.Abs

/- An object becomes data for good. No condition. -/
namespace Go.Abs
section
variable {x : Ctx}

theorem wk_frz {env : Nat → C} {σ : Nat → Slot} (t k : Nat) {c : C} {o : Ob} (hk : σ k = .live o) (hp : o.rows.all purel = true) (hc : FzC k o (env t) c) : Wk x ⟨env, σ⟩ ⟨upd env t c, upd σ k .dead⟩ := by
 intro ρ a w hs
 obtain ⟨hK, hF, hmap⟩ := hs.toFrm.freeze hk hp
 have h2 := hs.change hK hF
 refine ⟨ρ, { hF with nt := hs.nt, defers := h2.defers, inr := hs.inr, env := fun q hq => ?_ }⟩
 by_cases e : q = t
 ·subst e
  simp only [upd_same]
  exact hmap _ _ _ hc (hs.env q hq)
 ·simp only [upd_ne _ _ e]
  exact h2.env q hq

end
end Go.Abs

/- An iterator over a map that is data, in a block that no object lies in. No condition. -/
namespace Go.Abs
open Go.ChangeMaps (setBlock)
section
variable {P : Program} {x : Ctx}

abbrev itX (x : Ctx) (b : Nat) (o : Obj) : Ctx := { x with its := (b, o) :: x.its }

theorem sim_it {ρ : Nat → Nat} {s : AS} {a : Act} {w : World} {b : Nat} {o : Obj} (h : Sim x ρ s a w) (ho : isIt o = true) (hb : w.heap[b]? = some o) : Sim (itX x b o) ρ s a w where
 sto := h.sto
 own := h.own
 frame := h.frame
 rcd := ⟨h.rcd.loop, h.rcd.rdy, fun p hp => by
  rcases List.mem_cons.1 hp with rfl | hp
  ·exact ⟨ho, hb⟩
  ·exact h.rcd.itr p hp⟩
 size := h.size
 os := h.os
 tape := h.tape
 output := h.output
 hist := h.hist
 nt := h.nt
 defers := h.defers
 inr := h.inr
 env := h.env

theorem sim_un {ρ : Nat → Nat} {s : AS} {a : Act} {w : World} {b : Nat} {o : Obj} (h : Sim (itX x b o) ρ s a w) : Sim x ρ s a w ∧ w.heap[b]? = some o := by
 refine ⟨{ sto := h.sto, own := h.own, frame := h.frame, rcd := ⟨h.rcd.loop, h.rcd.rdy, fun p hp => h.rcd.itr p (List.mem_cons_of_mem _ hp)⟩, size := h.size, os := h.os, tape := h.tape, output := h.output, hist := h.hist, nt := h.nt, defers := h.defers, inr := h.inr, env := h.env }, ?_⟩
 exact (h.rcd.itr (b, o) (by simp)).2

theorem yok_it {b : Nat} {o : Obj} (h : YOk P x) : YOk P (itX x b o) := h

theorem evalL_tail {ops : Array Oper} (hY : YOk P x) {Q : Exit → Act → World → Prop} {K : AS → Prop} (hnt : ops.all (inNt x.nt) = true) (r : List Nat) (hQ : ∀ ρ s a w, Sim x ρ s a w → K s → wpOpsIn (Fx x.rnd) 0 P ops Q r a w) :
  ∀ (l : List Nat) (os : List Oper) (ρ : Nat → Nat) (s : AS) (a : Act) (w : World), (l.map fun i => ops[i]?) = os.map some → Sim x ρ s a w → evalL P x.Y ops os s K → wpOpsIn (Fx x.rnd) 0 P ops Q (l ++ r) a w
 | [], os, ρ, s, a, w, hl, h, he => by
  cases os with
  | nil => exact hQ ρ s a w h he
  | cons o os => simp at hl
 | i :: l, os, ρ, s, a, w, hl, h, he => by
  cases os with
  | nil => simp at hl
  | cons o os =>
   simp only [List.map_cons, List.cons.injEq] at hl
   rw [List.cons_append, wpOpsIn_cons]
   refine wpOpIn_mono ?_ (stepK_sound hY h hl.1 hnt he)
   rintro a' w' ⟨ρ', s', h', he'⟩
   exact evalL_tail hY hnt r hQ l os ρ' s' a' w' hl.2 h' he'

theorem wpOp_value {ops : Array Oper} {i : Nat} {o : Oper} {K : Act → World → Prop} {Q : Exit → Act → World → Prop} {a : Act} {w w' : World} {v : Value} {r : Option Nat} (hi : ops[i]? = some o) (hw : o.guard = none) (hd : ∀ c, o.op ≠ .defer c)
  (hrun : (execOp a.eval o).run P w = .ok (.value v) w') (hK : K (a.put o.dst v) w') : wpOpIn (Fx r) 0 P ops Q i K a w := by
 unfold wpOpIn
 simp only [hi]
 rw [if_pos (by simp [Region.wanted, hw])]
 refine wpIn_fx hd ?_
 rw [hrun, Oper.uponIn_value]
 exact hK

end
end Go.Abs

/- 'for k, v := range m' over a map that is data, in whatever order its entries come. No condition. -/
namespace Go.Abs
open Go.ChangeMaps (setBlock)
section
variable {P : Program} {x : Ctx}

theorem CR.valOf {G : Nat → Prop} {ρ : Nat → Nat} {σ : Nat → Slot} {w : World} {v u : Value} (h : CR G ρ σ w (.val v) u) : u = v := by
 have p := h.isPure rfl
 cases p; rfl

end
end Go.Abs

/- 'for k, v := range m' over a map that is data: the loop. No condition. -/
namespace Go.Abs
open Go.ChangeMaps (setBlock)
section
variable {P : Program} {x : Ctx}

theorem cr_over {G : Nat → Prop} {ρ : Nat → Nat} {σ : Nat → Slot} {w : World} : CR G ρ σ w (.tup [.bool false]) (.tuple #[.bool false]) := by
 refine .tup rfl fun i c hi => ?_
 match i, hi with
 | 0, hi => simp at hi; subst hi; exact .pure (.bool _)
 | n + 1, hi => simp at hi
end
end Go.Abs

/- 'for k, v := range m' over a map that is data. No condition. -/
namespace Go.Abs
section
variable {P : Program} {x : Ctx}

end
end Go.Abs

/- Maps that a function hands back as data, in whatever order they were laid. No condition. -/
namespace Go.Abs
section
variable {P : Program}

end
end Go.Abs

/- 'for k, v := range m' over a map that is data, with what comes ahead of it found by itself. No condition. -/
namespace Go.Abs
section
variable {P : Program} {x : Ctx}

end
end Go.Abs

/- 'for i, c := range s' over a string. No condition. -/
namespace Go.Abs
open Go.Lib
section
variable {P : Program} {x : Ctx}

theorem decode_pos (s : ByteArray) (i : Nat) : 0 < (Utf8.decode s i).2 := by
 unfold Utf8.decode
 dsimp only
 repeat' split
 all_goals simp

theorem sim_stepS {ρ : Nat → Nat} {s : AS} {a : Act} {w : World} {b : Nat} {t : ByteArray} {i j : Nat} (h : Sim x ρ s a w) (hb : w.heap[b]? = some (.stringIter t i)) (hx : x.w.heap.size ≤ b) (hi : ∀ p ∈ x.its, p.1 ≠ b) :
  Sim x ρ s a (w.iterAt b t j) := by
 have hs1 := iterAt_heap w b t i j hb
 have hne : ∀ k o, s.sto k = .live o → o.nl = false → ρ k ≠ b := by
  intro k o hk hn e
  have := (h.sto.ob k o hk hn).noOdd (by rw [e]; exact hb)
  cases this
 have hold : ∀ q, q ≠ b → (w.iterAt b t j).heap[q]? = w.heap[q]? := fun q hq => iterAt_other w b q t j hq
 have hsz : (w.iterAt b t j).heap.size = w.heap.size := iterAt_size w b t j
 have hK0 : Keeps0 (x.Gd ρ s.sto) (x.Gd ρ s.sto) ρ ρ s.sto s.sto w (w.iterAt b t j) := by
  refine ⟨fun q hq hlt => ⟨hq, by rw [hsz]; exact hlt, ?_⟩, fun k hk => hk, fun k o hk => .inr ⟨o, hk, rfl, rfl, rfl, fun hn => ⟨rfl, fun cs el fz hc => ?_⟩⟩⟩
  ·by_cases e : q = b
   ·subst e; exact .inr ⟨_, _, hb, hs1, rfl, rfl⟩
   ·exact .inl (hold q e)
  ·rw [hold _ (hne k o hk hn)] at hc
   exact ⟨_, _, _, hc, Nat.le_refl _⟩
 have hK : Keeps (x.Gd ρ s.sto) (x.Gd ρ s.sto) ρ ρ s.sto s.sto w (w.iterAt b t j) := .of (fun D hD => by
  have e : D ≠ b := by intro e; rw [e, hb] at hD; cases hD
  rw [hold D e]; exact hD) hK0
 have hlo : ∀ (q : Nat) (r : Loop), w.heap[q]? = some (.loop r) → (w.iterAt b t j).heap[q]? = some (.loop r) := by
  intro q r hq
  have e : q ≠ b := by intro e; rw [e, hb] at hq; cases hq
  rw [hold q e]; exact hq
 refine h.change hK ⟨⟨fun k o hk hn => (h.sto.ob k o hk hn).keeps hK0 (hold _ (hne k o hk hn)), h.sto.nil, h.sto.inj⟩, h.own, fun q hq hnq hex => ?_, ⟨fun q hq => ⟨(h.rcd.loop q hq).1, ?_⟩, fun p hp => ?_, fun p hp => ?_⟩, by rw [hsz]; exact h.size, h.os, h.tape, h.output, h.hist.trans hK0⟩
 ·rw [hold q (by omega)]
  exact h.frame q hq hnq hex
 ·obtain ⟨r, hr⟩ := (h.rcd.loop q hq).2
  exact ⟨r, hlo q r hr⟩
 ·obtain ⟨h1, h2, h3⟩ := h.rcd.rdy p hp
  obtain ⟨r, hr⟩ := (h.rcd.loop p.1 h1).2
  have e : p.1 ≠ b := by intro e; rw [e, hb] at hr; cases hr
  refine ⟨h1, h2, ?_⟩
  rw [hold p.1 e]; exact h3
 ·obtain ⟨h1, h2⟩ := h.rcd.itr p hp
  refine ⟨h1, ?_⟩
  rw [hold p.1 (hi p hp)]; exact h2

theorem cr_nextS {G : Nat → Prop} {ρ : Nat → Nat} {σ : Nat → Slot} {w : World} (i : Int) (c : Int) : CR G ρ σ w (.tup [.bool true, .int .i64 i, .int .i32 c]) (.tuple #[.bool true, .int .i64 i, .int .i32 c]) := by
 refine .pure (.tup rfl fun q d hq => ?_)
 match q, hq with
 | 0, hq => simp at hq; subst hq; exact .bool _
 | 1, hq => simp at hq; subst hq; exact .int _ _
 | 2, hq => simp at hq; subst hq; exact .int _ _
 | n + 3, hq => simp at hq

theorem loop_str {b0 b1 i1 : Nat} {ti tn tc : Tmp} {y1 y2 : TypeId} {p1 p2 : String} {a1 a2 : Array Edge} {body : Code} {Q : Exit → AS → Prop} (t : ByteArray) (J : Nat → Prop) (hJ0 : J 0) (I : Value → Nat → AS) {b : Nat}
  (hY : YOk P x) (hnt1 : #[(⟨some tn, .next (.tmp ti) true, y1, p1, a1, none⟩ : Oper), ⟨some tc, .extract (.tmp tn) 0, y2, p2, a2, none⟩].all (inNt x.nt) = true)
  (hti : ti < x.nt) (hI : ∀ v i, (I v i).env ti = .val v) (hn1 : tn ≠ ti) (hn2 : tc ≠ ti)
  (hround : ∀ v i, i < t.size → J i → ∀ y : Ctx, y.nt = x.nt → y.σ = x.σ → y.Y = x.Y →
   AWP P y body (((I v i).put (some tn) (.tup [.bool true, .int .i64 i, .int .i32 (Utf8.decode t i).1])).put (some tc) (.bool true)) (blockQ b1 (nextQ (fun s'' => J (i + (Utf8.decode t i).2) ∧ Wk y s'' (I v (i + (Utf8.decode t i).2))) (blockQ b0 Q))))
  (hdone : ∀ v i, t.size ≤ i → J i → Q .normal (((I v i).put (some tn) (.tup [.bool false])).put (some tc) (.bool false)))
  (hb : x.w.heap.size ≤ b) (hits : ∀ p ∈ x.its, p.1 ≠ b) (ρ : Nat → Nat) (a : Act) (w : World) (hs : Sim x ρ (I (.pointer (some ⟨b, 0, none⟩)) 0) a w) (hit : w.heap[b]? = some (.stringIter t 0)) :
  (Code.block b0 (.loop (.seq (.region i1 #[⟨some tn, .next (.tmp ti) true, y1, p1, a1, none⟩, ⟨some tc, .extract (.tmp tn) 0, y2, p2, a2, none⟩] false) (.seq (.cond (.tmp tc) .skip (.exit b0)) (.block b1 body))))).wpIn (Fx x.rnd) 0 P (QL x Q) a w := by
 obtain ⟨v, hv⟩ : ∃ v : Value, v = .pointer (some ⟨b, 0, none⟩) := ⟨_, rfl⟩
 rw [← hv] at hs
 refine Go.wpIn_block (wp_loop_ix (fun i a w => ∃ ρ, Sim x ρ (I v i) a w ∧ w.heap[b]? = some (.stringIter t i) ∧ J i) (fun i => t.size - i) ?_ 0 a w ⟨ρ, hs, hit, hJ0⟩)
 clear hs hit ρ a w
 rintro i a w ⟨ρ, hs, hit, hJ⟩
 have hte := hs.env ti hti
 rw [hI v i] at hte
 have htv : a.eval (.tmp ti) = v := hte.valOf
 have hd1 : ∀ q, (some tn : Option Tmp) = some q → q < x.nt := by
  rw [Array.all_eq_true_iff_forall_mem] at hnt1
  exact inNt_dst (hnt1 _ (by simp : (⟨some tn, .next (.tmp ti) true, y1, p1, a1, none⟩ : Oper) ∈ _))
 have hexec : ∀ r w', (Instr.next v true y1).run P w = .ok r w' → (execOp a.eval ⟨some tn, .next (.tmp ti) true, y1, p1, a1, none⟩).run P w = .ok (.value r) w' := by
  intro r w' hr
  unfold execOp
  simp only [htv]
  exact ok_value hr
 refine Go.wpIn_seq (wpIn_region ?_)
 show wpOpsIn _ 0 P _ _ [0, 1] a w
 rw [wpOpsIn_cons]
 have hev : ∀ {s : AS} {ρ : Nat → Nat} {a' : Act} {w' : World} {q : Bool}, Sim x ρ (s.put (some tc) (.bool q)) a' w' → tc < x.nt → a'.eval (.tmp tc) = .bool q := by
  intro s ρ a' w' q h ht
  have := h.env tc ht
  simp only [AS.put, putE, upd_same] at this
  exact this.boolOf
 have htc : tc < x.nt := by
  rw [Array.all_eq_true_iff_forall_mem] at hnt1
  exact inNt_dst (hnt1 _ (by simp : (⟨some tc, .extract (.tmp tn) 0, y2, p2, a2, none⟩ : Oper) ∈ _)) tc rfl
 by_cases hlt : i < t.size
 ·have hrun := run_next_any_at (P := P) w b t i y1 hit hlt
  refine wpOp_value rfl rfl (by simp) (hexec _ _ (by rw [hv]; exact hrun)) ?_
  have hs2 := sim_stepS (j := i + (Utf8.decode t i).2) hs hit hb hits
  have hs3 := hs2.put hd1 (cr_nextS i (Utf8.decode t i).1)
  have hnew := iterAt_heap w b t i (i + (Utf8.decode t i).2) hit
  obtain ⟨it, hitd⟩ : ∃ it : Obj, it = .stringIter t (i + (Utf8.decode t i).2) := ⟨_, rfl⟩
  rw [← hitd] at hnew
  have hs4 : Sim (itX x b it) ρ _ _ _ := sim_it hs3 (by rw [hitd]; rfl) hnew
  refine evalL_sound (x := itX x b it) (yok_it hY) hnt1 (K := fun s => s = ((I v i).put (some tn) (.tup [.bool true, .int .i64 i, .int .i32 (Utf8.decode t i).1])).put (some tc) (.bool true)) (fun ρ1 s a1 w2 hs5 hK => ?_) [1] [_] ρ _ _ _ rfl hs4 (by simp [AS.put, putE])
  subst hK
  obtain ⟨hs5x, hitw⟩ := sim_un hs5
  refine Go.wpIn_seq (Go.wpIn_cond (t := true) (hev hs5x htc) (Go.wpIn_skip ?_))
  refine Go.wpIn_block (wpIn_mono (hround v i hlt hJ (itX x b it) rfl rfl rfl (yok_it hY) ρ1 a1 w2 hs5) ?_)
  have hdp := decode_pos t i
  have hfin : ∀ (e : Exit) (s' : AS) (ρ' : Nat → Nat) (a' : Act) (w' : World), Sim (itX x b it) ρ' s' a' w' → nextQ (fun s'' => J (i + (Utf8.decode t i).2) ∧ Wk (itX x b it) s'' (I v (i + (Utf8.decode t i).2))) (blockQ b0 Q) e s' →
    Exit.then (fun a' w' => ∃ j, (∃ ρ, Sim x ρ (I v j) a' w' ∧ w'.heap[b]? = some (.stringIter t j) ∧ J j) ∧ t.size - j < t.size - i) (Exit.inBlock b0 (QL x Q)) e a' w' := by
   intro e s' ρ' a' w' h1 h2
   cases e with
   | normal =>
    obtain ⟨ρ3, h3⟩ := h2.2 ρ' a' w' h1
    obtain ⟨h4, h5⟩ := sim_un h3
    exact ⟨i + (Utf8.decode t i).2, ⟨ρ3, h4, by rw [h5, hitd], h2.1⟩, by omega⟩
   | exit id =>
    simp only [nextQ, blockQ] at h2
    simp only [Exit.then, Exit.inBlock]
    split
    ·rename_i e; rw [if_pos e] at h2; exact ⟨ρ', s', (sim_un h1).1, h2⟩
    ·rename_i e; rw [if_neg e] at h2; exact ⟨ρ', s', (sim_un h1).1, h2⟩
   | _ => exact ⟨ρ', s', (sim_un h1).1, h2⟩
  rintro e a' w' ⟨ρ', s', h1, h2⟩
  cases e with
  | exit id =>
   simp only [blockQ] at h2
   simp only [Exit.inBlock]
   split
   ·rename_i e; rw [if_pos e] at h2; exact hfin .normal s' ρ' a' w' h1 h2
   ·rename_i e; rw [if_neg e] at h2; exact hfin (.exit id) s' ρ' a' w' h1 h2
  | normal => exact hfin .normal s' ρ' a' w' h1 h2
  | ret => exact hfin .ret s' ρ' a' w' h1 h2
  | goto l => exact hfin (.goto l) s' ρ' a' w' h1 h2
  | panic c => exact hfin (.panic c) s' ρ' a' w' h1 h2
  | outgrown => exact hfin .outgrown s' ρ' a' w' h1 h2
 ·have hrun := run_next_end_at (P := P) w b t i y1 hit hlt
  refine wpOp_value rfl rfl (by simp) (hexec _ _ (by rw [hv]; exact hrun)) ?_
  refine evalL_sound hY hnt1 (K := fun s => s = ((I v i).put (some tn) (.tup [.bool false])).put (some tc) (.bool false)) (fun ρ s a w hs hK => ?_) [1] [_] ρ _ _ _ rfl (hs.put hd1 cr_over) (by simp [AS.put, putE])
  subst hK
  refine Go.wpIn_seq (Go.wpIn_cond (t := false) (hev hs htc) (Go.wpIn_exit ?_))
  show Exit.inBlock b0 (QL x Q) (.exit b0) a w
  simp only [Exit.inBlock, if_true]
  exact ⟨ρ, _, hs, hdone v i (by omega) hJ⟩

theorem awp_rangeS {i0 b0 b1 i1 : Nat} {ti tm tn tc : Tmp} {y0 y1 y2 rty : TypeId} {p0 p1 p2 : String} {a0 a1 a2 : Array Edge} {l0 : List Oper} {body : Code} {s : AS} {Q : Exit → AS → Prop} (t : ByteArray) (J : Nat → Prop) (hJ0 : J 0) (I : Value → Nat → AS)
  (hl0 : l0.getLast? = some ⟨some ti, .range rty (.tmp tm), y0, p0, a0, none⟩) (ht : P.underlying rty = some .string)
  (hnt0 : l0.toArray.all (inNt x.nt) = true) (hnt1 : #[(⟨some tn, .next (.tmp ti) true, y1, p1, a1, none⟩ : Oper), ⟨some tc, .extract (.tmp tn) 0, y2, p2, a2, none⟩].all (inNt x.nt) = true)
  (htm : tm < x.nt) (hI : ∀ v i, (I v i).env ti = .val v) (hn1 : tn ≠ ti) (hn2 : tc ≠ ti)
  (hpre : ∀ K : AS → Prop, (∀ s1, s1.env tm = .str t → (∀ v, Wk x ⟨upd s1.env ti (.val v), s1.sto⟩ (I v 0)) → K s1) → evalL P x.Y l0.toArray l0.dropLast s K)
  (hround : ∀ v i, i < t.size → J i → ∀ y : Ctx, y.nt = x.nt → y.σ = x.σ → y.Y = x.Y →
   AWP P y body (((I v i).put (some tn) (.tup [.bool true, .int .i64 i, .int .i32 (Utf8.decode t i).1])).put (some tc) (.bool true)) (blockQ b1 (nextQ (fun s'' => J (i + (Utf8.decode t i).2) ∧ Wk y s'' (I v (i + (Utf8.decode t i).2))) (blockQ b0 Q))))
  (hdone : ∀ v i, t.size ≤ i → J i → Q .normal (((I v i).put (some tn) (.tup [.bool false])).put (some tc) (.bool false))) :
  AWP P x (.seq (.region i0 l0.toArray false) (.block b0 (.loop (.seq (.region i1 #[⟨some tn, .next (.tmp ti) true, y1, p1, a1, none⟩, ⟨some tc, .extract (.tmp tn) 0, y2, p2, a2, none⟩] false) (.seq (.cond (.tmp tc) .skip (.exit b0)) (.block b1 body)))))) s Q := by
 have hne : l0 ≠ [] := by rintro rfl; simp at hl0
 have hl := hl0
 rw [List.getLast?_eq_some_getLast hne] at hl
 have h := List.dropLast_concat_getLast hne
 rw [Option.some.inj hl] at h
 generalize l0.dropLast = pre at h hpre
 subst h
 intro hY ρ a w hs
 refine Go.wpIn_seq (wpIn_region ?_)
 have hop : (pre ++ [(⟨some ti, .range rty (.tmp tm), y0, p0, a0, none⟩ : Oper)]).toArray[pre.length]? = some ⟨some ti, .range rty (.tmp tm), y0, p0, a0, none⟩ := by simp
 have hr : List.range (pre ++ [(⟨some ti, .range rty (.tmp tm), y0, p0, a0, none⟩ : Oper)]).toArray.size = List.range pre.length ++ [pre.length] := by simp [List.range_succ]
 have hd : ∀ q, (some ti : Option Tmp) = some q → q < x.nt := by
  rw [Array.all_eq_true_iff_forall_mem] at hnt0
  exact inNt_dst (hnt0 _ (Array.mem_of_getElem? hop))
 rw [hr]
 refine evalL_tail hY hnt0 [pre.length] (K := fun s1 => s1.env tm = .str t ∧ ∀ v, Wk x ⟨upd s1.env ti (.val v), s1.sto⟩ (I v 0)) (fun ρ1 s1 a1 w1 hs1 hK => ?_) _ pre ρ s a w ?_ hs (hpre _ fun s1 h1 h2 => ⟨h1, h2⟩)
 rotate_left
 ·refine List.ext_getElem? fun j => ?_
  by_cases hj : j < pre.length
  ·simp [hj, List.getElem?_append_left hj]
  ·simp [hj]
 obtain ⟨hmd, hwk⟩ := hK
 have hm := hs1.env tm htm
 rw [hmd] at hm
 have hstr := hm.strOf
 rw [wpOpsIn_cons]
 have hrun : (execOp a1.eval ⟨some ti, .range rty (.tmp tm), y0, p0, a0, none⟩).run P w1 = .ok (.value (.pointer (some ⟨w1.heap.size, 0, none⟩))) (w1.alloc (.stringIter t 0)) := by
  unfold execOp
  refine ok_value ?_
  show (Instr.range rty (a1.tmps.getD tm undef)).run P w1 = _
  rw [hstr]
  simp [Instr.range, run_underlying ht]
 have hits : ∀ p ∈ x.its, p.1 ≠ w1.heap.size := fun p hp e => by
  have := (hs1.rcd.itr p hp).2
  rw [e] at this
  simp at this
 refine wpOp_value hop rfl (by simp) hrun ?_
 obtain ⟨hK, hF⟩ := hs1.toFrm.alloc (.stringIter t 0)
 have hs2 := (hs1.change hK hF).put hd (c := .val (.pointer (some ⟨w1.heap.size, 0, none⟩))) (.pure (.val _))
 obtain ⟨ρ2, hs4⟩ := hwk _ _ _ _ hs2
 exact loop_str t J hJ0 I hY hnt1 (hd ti rfl) hI hn1 hn2 hround hdone hs1.size hits ρ2 _ _ hs4 (alloc_new w1 _)

end
end Go.Abs

/- The types of the program, as the machine knows them. No condition. -/
namespace Go.Proofs.YtgnpcijgdhjfpaaGreatDoor
open Go Go.Abs
theorem ty3 : tyOf Tryz.prog 3 = some { kind := TK.int IntKind.i64, size := 1, bytes := 8, zero := [C.int IntKind.i64 (0)] } := by kernel_rfl
theorem ty4 : tyOf Tryz.prog 4 = some { kind := TK.bool, size := 1, bytes := 1, zero := [C.bool false] } := by kernel_rfl
theorem ty5 : tyOf Tryz.prog 5 = some { kind := TK.int IntKind.u8, size := 1, bytes := 1, zero := [C.int IntKind.u8 (0)] } := by kernel_rfl
theorem ty9 : tyOf Tryz.prog 9 = some { kind := TK.string, size := 1, bytes := 16, zero := [C.str { data := { toList := [] } }] } := by kernel_rfl
theorem ty21 : tyOf Tryz.prog 21 = some { kind := TK.int IntKind.i32, size := 1, bytes := 4, zero := [C.int IntKind.i32 (0)] } := by kernel_rfl
theorem ty22 : tyOf Tryz.prog 22 = some { kind := TK.slice 9, size := 1, bytes := 24, zero := [C.sl true true []] } := by kernel_rfl
theorem ty23 : tyOf Tryz.prog 23 = some { kind := TK.slice 77, size := 1, bytes := 24, zero := [C.sl true true []] } := by kernel_rfl
theorem ty26 : tyOf Tryz.prog 26 = some { kind := TK.int IntKind.i64, size := 1, bytes := 8, zero := [C.int IntKind.i64 (0)] } := by kernel_rfl
theorem ty29 : tyOf Tryz.prog 29 = some { kind := TK.slice 33, size := 1, bytes := 24, zero := [C.sl true true []] } := by kernel_rfl
theorem ty33 : tyOf Tryz.prog 33 = some { kind := TK.slice 3, size := 1, bytes := 24, zero := [C.sl true true []] } := by kernel_rfl
theorem ty42 : tyOf Tryz.prog 42 = some { kind := TK.slice 22, size := 1, bytes := 24, zero := [C.sl true true []] } := by kernel_rfl
theorem ty61 : tyOf Tryz.prog 61 = some { kind := TK.ptr 64, size := 1, bytes := 8, zero := [C.pnil] } := by kernel_rfl
theorem ty62 : tyOf Tryz.prog 62 = some { kind := TK.slice 5, size := 1, bytes := 24, zero := [C.sl true true []] } := by kernel_rfl
theorem ty64 : tyOf Tryz.prog 64 = some { kind := TK.struct [{ off := 0, size := 1, agg := false, ok := true }, { off := 1, size := 1, agg := false, ok := true }], size := 2, bytes := 32, zero := [C.pnil, C.sl true true []] } := by kernel_rfl
theorem ty66 : tyOf Tryz.prog 66 = some { kind := TK.func, size := 1, bytes := 8, zero := [C.fnil] } := by kernel_rfl
theorem ty68 : tyOf Tryz.prog 68 = some { kind := TK.slice 9, size := 1, bytes := 24, zero := [C.sl true true []] } := by kernel_rfl
theorem ty77 : tyOf Tryz.prog 77 = some { kind := TK.struct [{ off := 0, size := 1, agg := false, ok := true }, { off := 1, size := 1, agg := false, ok := true }, { off := 2, size := 1, agg := false, ok := true }, { off := 3, size := 1, agg := false, ok := true }], size := 4, bytes := 32, zero := [C.int IntKind.i64 (0), C.int IntKind.i64 (0), C.int IntKind.i64 (0), C.int IntKind.u8 (0)] } := by kernel_rfl
theorem ty90 : tyOf Tryz.prog 90 = some { kind := TK.func, size := 1, bytes := 8, zero := [C.fnil] } := by kernel_rfl
theorem ty99 : tyOf Tryz.prog 99 = some { kind := TK.struct [{ off := 0, size := 1, agg := false, ok := true }, { off := 1, size := 1, agg := false, ok := true }, { off := 2, size := 1, agg := false, ok := true }, { off := 3, size := 1, agg := false, ok := true }, { off := 4, size := 1, agg := false, ok := true }], size := 5, bytes := 72, zero := [C.sl true true [], C.str { data := { toList := [] } }, C.str { data := { toList := [] } }, C.int IntKind.i64 (0), C.int IntKind.i64 (0)] } := by kernel_rfl
theorem ty107 : tyOf Tryz.prog 107 = some { kind := TK.struct [{ off := 0, size := 1, agg := false, ok := true }, { off := 1, size := 1, agg := false, ok := true }, { off := 2, size := 1, agg := false, ok := true }], size := 3, bytes := 32, zero := [C.int IntKind.u8 (0), C.int IntKind.i64 (0), C.str { data := { toList := [] } }] } := by kernel_rfl
theorem ty123 : tyOf Tryz.prog 123 = some { kind := TK.map 5 107, size := 1, bytes := 8, zero := [C.md true []] } := by kernel_rfl
end Go.Proofs.YtgnpcijgdhjfpaaGreatDoor

namespace Go.Proofs.YtgnpcijgdhjfpaaGreatDoor
open Go Go.Abs


@[simp] abbrev encI (z : Int) : C := .int .i64 z
@[simp] abbrev cI (z : Int) : List C := [.int .i64 z]
abbrev S (l : List UInt8) : ByteArray := ⟨l.toArray⟩
@[simp] abbrev encS (l : List UInt8) : C := .str (S l)

theorem S_size (l : List UInt8) : (S l).size = l.length := by simp [S, ByteArray.size]

theorem wrap_u8 {n : Int} (h1 : 0 ≤ n) (h2 : n < 256) : IntKind.u8.wrap n = n := by
 have e : IntKind.u8.wrap n = n % 256 := by simp [IntKind.wrap, IntKind.signed, IntKind.bits]
 rw [e]; omega

def twoB (n : Nat) : List UInt8 := [UInt8.ofNat (48 + n / 10), UInt8.ofNat (48 + n % 10)]
def valB (b : UInt8) : Int := (b.toNat : Int) - 32
def plainB (l : List UInt8) : Bool := l.all fun b => decide (32 ≤ b.toNat) && decide (b.toNat ≤ 126)
def sumB : List UInt8 → Nat → Int
 | [], _ => 0
 | b :: l, i => valB b * ((i % 96 : Nat) + 1) + sumB l (i + 1)
def checkB (l : List UInt8) : List UInt8 := twoB ((sumB l 0) % 97).toNat

set_option maxHeartbeats 4000000
set_option maxRecDepth 20000


theorem two86 (n : Nat) (hn : n < 100) : Pure Tryz.prog 86 [encI n] (encS (twoB n)) := by
 have h1 : Int.tdiv (n : Int) 10 = ((n / 10 : Nat) : Int) := rfl
 have h2 : Int.tmod (n : Int) 10 = ((n % 10 : Nat) : Int) := rfl
 obtain ⟨q, hq⟩ : ∃ q, n / 10 = q := ⟨_, rfl⟩
 obtain ⟨r, hr⟩ : ∃ r, n % 10 = r := ⟨_, rfl⟩
 have hqb : q < 10 := by omega
 have hrb : r < 10 := by omega
 unfold twoB
 rw [hq] at h1 ⊢
 rw [hr] at h2 ⊢
 have w0 : IntKind.i64.wrap (q : Int) = q := wrap_id (by omega) (by omega)
 have w1 : IntKind.i64.wrap (48 + (q : Int)) = 48 + q := wrap_id (by omega) (by omega)
 have w2 : IntKind.i64.wrap (48 + (r : Int)) = 48 + r := wrap_id (by omega) (by omega)
 have w3 : IntKind.u8.wrap (48 + (q : Int)) = 48 + q := wrap_u8 (by omega) (by omega)
 have w4 : IntKind.u8.wrap (48 + (r : Int)) = 48 + r := wrap_u8 (by omega) (by omega)
 have b1 : (0 : Int) ≤ 48 + q ∧ (48 : Int) + q < 256 := by omega
 have b2 : (0 : Int) ≤ 48 + r ∧ (48 : Int) + r < 256 := by omega
 have c1 : ((48 : Int) + q).toNat = 48 + q := by omega
 have c2 : ((48 : Int) + r).toNat = 48 + r := by omega
 clear hq hr
 refine ZF (fn := Tryz.f86) [.tmp 2] ⟨Tryz.func86, rfl, by kernel_rfl⟩ fun x hx hσ => ?_
 (repeat refine ZQ ?_); refine ZR fun K hK => ?_; simp (maxSteps := 1000000) [ty9]; refine hK _ ?_; clear hK K
 (repeat refine ZQ ?_); refine ZR fun K hK => ?_; simp (maxSteps := 1000000) [ty3, ty5, ty62, ty9, h1, h2, w0, w1, w2, w3, w4, b1, b2, c1, c2]; refine hK _ ?_; clear hK K
 (repeat refine ZQ ?_); refine awp_ret ?_; refine And.intro (Or.inr rfl) ?_
 simp [retC, resC, viewC, mapO]

theorem values88 (l : List UInt8) (hn : l.length ≤ 100000) : Pure Tryz.prog 88 [encS l] (.sl l.isEmpty false ((l.map valB).map cI)) := by
 obtain ⟨A, hA⟩ : ∃ A : Nat → List Int, ∀ i, A i = (l.take i).map valB := ⟨_, fun _ => rfl⟩
 have hA0 : A 0 = [] := by rw [hA]; rfl
 have hAl : ∀ i, i ≤ l.length → (A i).length = i := fun i hi => by rw [hA]; simp; omega
 have hAs : ∀ i (hi : i < l.length), A (i + 1) = A i ++ [valB l[i]] := fun i hi => by rw [hA, hA, List.take_succ_eq_append_getElem hi, List.map_append]; rfl
 have hAn : l.map valB = A l.length := by rw [hA, List.take_length]
 rw [hAn]
 clear hAn hA
 refine ZF (fn := Tryz.f88) [.tmp 2] ⟨Tryz.func88, rfl, by kernel_rfl⟩ fun x hx hσ => ?_
 (repeat refine ZQ ?_); refine ZR fun K hK => ?_; simp (maxSteps := 1000000) [ty33]; refine hK _ ?_; clear hK K
 (repeat refine ZQ ?_); refine ZR fun K hK => ?_; simp (maxSteps := 1000000) [ty33]; refine hK _ ?_; clear hK K
 (repeat refine ZQ ?_); refine ZR fun K hK => ?_; simp (maxSteps := 1000000) [ty9, ty62, ty5, ty3]; refine hK _ ?_; clear hK K
 (repeat refine ZQ ?_); refine awp_block ?_
 refine AWP.weak ?_ (wk_nil 3 3 1 (fu := true) (by simp) (by simp))
 refine awp_loop (fun i : Nat => ⟨ofL [(3, .own 3 1 0 i), (7, .sl false false (l.map fun u => [.int .u8 (u.toNat : Int)])), (8, encI l.length), (9, encI i)], stoT [(3, 3, .live ⟨(A i).isEmpty, false, 1, (A i).map cI⟩)]⟩)
  (fun i => i ≤ l.length) (fun i => l.length - i) 0 (Nat.zero_le _) ?_ ?_
 ·rw [hA0]
  exact ZW
 ·intro i hi
  have hAi := hAl i hi
  (repeat refine ZQ ?_); refine ZR fun K hK => ?_; simp (maxSteps := 1000000) [ty3]; refine hK _ ?_; clear hK K
  (repeat refine ZQ ?_); refine ZC (fun hc => ?_) (fun hc => ?_)
  ·simp at hc
   have hst := hAs i hc
   have hb : l[i].toNat < 256 := l[i].toNat_lt
   have w1 : IntKind.i64.wrap (l[i].toNat : Int) = l[i].toNat := wrap_id (by omega) (by omega)
   have w2 : IntKind.i64.wrap ((l[i].toNat : Int) - 32) = valB l[i] := wrap_id (by omega) (by omega)
   have w3 : IntKind.i64.wrap ((i : Int) + 1) = ((i + 1 : Nat) : Int) := by rw [wrap_id (by omega) (by omega)]; rfl
   generalize A i = acc at *
   refine awp_skip ?_
   (repeat refine ZQ ?_); refine awp_block ?_
   (repeat refine ZQ ?_); refine ZR fun K hK => ?_; simp (maxSteps := 1000000) [ty62, ty5, ty3, hc]; refine hK _ ?_; clear hK K
   (repeat refine ZQ ?_); refine ZR fun K hK => ?_; simp (maxSteps := 1000000) [ty33, ty3, ty5, w1, w2]
   refine ⟨by omega, ?_⟩
   refine hK _ ?_; clear hK K
   (repeat refine ZQ ?_); refine ZR fun K hK => ?_; simp (maxSteps := 1000000) [ty3]; refine hK _ ?_; clear hK K; (first | show AWP _ _ _ _ _ | show ∃ _, _ | skip)
   refine ⟨i + 1, by omega, by omega, ?_⟩
   rw [hst, w3]
   refine wk_shape2 [(3, 18, .live ⟨(acc ++ [valB l[i]]).isEmpty, false, 1, (acc ++ [valB l[i]]).map cI⟩)] (by first | rfl | (simp only [if_pos, if_true]; rfl)) (shp0 hσ (by simp) (by simp) ?_) ?_
   ·simp [SlotOk] <;> (repeat' (first | (refine RowsOk.same ?_; simp [purel, C.isPure]; done) | (refine rowsCons ?_; simp [mtl, mtc, mT, mH, C.isPure, purel]; done) | (refine rowsCons ?_; simp [mtl, mtc, mT, mH, C.isPure, purel]) | refine And.intro ?_ ?_))
   ·simp [mtc, mtl, mT, C.isPure, purel] <;> (try simp (disch := omega) [wrap_id]) <;> (try omega)
  ·simp at hc
   (repeat refine ZQ ?_); refine awp_exit ?_; (first | show AWP _ _ _ _ _ | show ∃ _, _ | skip)
   have hin : i = l.length := by omega
   subst hin
   have hem : (A l.length).isEmpty = l.isEmpty := by
    cases h1 : A l.length <;> cases h2 : l <;> rw [h1, h2] at hAi <;> simp at hAi <;> rfl
   (repeat refine ZQ ?_); refine ZR fun K hK => ?_; simp (maxSteps := 1000000) [ty33]; refine hK _ ?_; clear hK K
   (repeat refine ZQ ?_); refine awp_ret ?_; refine And.intro (Or.inr rfl) ?_
   have ht : List.take l.length ((A l.length).map cI) = (A l.length).map cI := List.take_of_length_le (by simp; omega)
   simp [retC, resC, viewC, mapO, purel, C.isPure, hem, hAi, ht]

theorem sumB_bd : ∀ (l : List UInt8) (i : Nat), -(100000 * l.length : Int) ≤ sumB l i ∧ sumB l i ≤ 100000 * l.length
 | [], _ => by simp [sumB]
 | b :: l, i => by
  have ih := sumB_bd l (i + 1)
  have hb : b.toNat < 256 := b.toNat_lt
  have hm : i % 96 < 96 := Nat.mod_lt _ (by decide)
  have h1 : valB b * (((i % 96 : Nat) : Int) + 1) ≤ 224 * 96 ∧ -(32 * 96) ≤ valB b * (((i % 96 : Nat) : Int) + 1) := by
   have hv : -32 ≤ valB b ∧ valB b ≤ 224 := by unfold valB; omega
   obtain ⟨m, hm2⟩ : ∃ m : Int, ((i % 96 : Nat) : Int) + 1 = m := ⟨_, rfl⟩
   rw [hm2]
   have hmb : 1 ≤ m ∧ m ≤ 96 := by omega
   have a1 : valB b * m ≤ 224 * m := Int.mul_le_mul_of_nonneg_right hv.2 (by omega)
   have a2 : -32 * m ≤ valB b * m := Int.mul_le_mul_of_nonneg_right hv.1 (by omega)
   omega
  simp only [sumB, List.length_cons]
  omega

theorem sumB_app (a b : List UInt8) : ∀ i, sumB (a ++ b) i = sumB a i + sumB b (i + a.length) := by
 induction a with
 | nil => intro i; simp [sumB]
 | cons x a ih =>
  intro i
  simp only [List.cons_append, sumB, ih, List.length_cons]
  rw [show i + 1 + a.length = i + (a.length + 1) by omega]
  omega

theorem check57 (l : List UInt8) (hn : l.length ≤ 100000) (h0 : ∀ i, i ≤ l.length → 0 ≤ sumB (l.take i) 0) : Pure Tryz.prog 57 [encS l] (encS (checkB l)) := by
 have hv := values88 l hn
 obtain ⟨A, hA⟩ : ∃ A : Nat → Int, ∀ i, A i = sumB (l.take i) 0 := ⟨_, fun _ => rfl⟩
 have hA0 : A 0 = 0 := by rw [hA]; rfl
 have hAs : ∀ i (hi : i < l.length), A (i + 1) = A i + valB l[i] * (((i % 96 : Nat) : Int) + 1) := fun i hi => by
  rw [hA, hA, List.take_succ_eq_append_getElem hi, sumB_app]
  simp only [sumB, List.length_take]
  rw [show 0 + min i l.length = i by omega]
  omega
 have hAb : ∀ i, i ≤ l.length → -10000000000 ≤ A i ∧ A i ≤ 10000000000 := fun i hi => by
  have := sumB_bd (l.take i) 0
  rw [List.length_take] at this
  rw [hA]; omega
 have hAn : A l.length = sumB l 0 := by rw [hA, List.take_length]
 have hA00 := h0 l.length (Nat.le_refl _)
 rw [List.take_length, ← hAn] at hA00
 unfold checkB
 rw [← hAn]
 clear hAn hA h0
 have hl2 : (l.map valB).length = l.length := by simp
 have hget : ∀ i (h : i < l.length) (h2 : i < (l.map valB).length), (l.map valB)[i] = valB l[i] := fun i h h2 => by simp
 generalize l.map valB = V at *
 refine ZF (fn := Tryz.f57) [.tmp 2] ⟨Tryz.func57, rfl, by kernel_rfl⟩ fun x hx hσ => ?_
 (repeat refine ZQ ?_); refine ZR fun K hK => ?_; simp (maxSteps := 1000000) [ty9]; refine hK _ ?_; clear hK K
 (repeat refine ZQ ?_); refine ZR fun K hK => ?_; simp (maxSteps := 1000000) [ty3]; refine hK _ ?_; clear hK K
 (repeat refine ZQ ?_); refine ZR fun K hK => ?_; simp (maxSteps := 1000000) [ty9, ty33, ty3]
 refine ZP (hv) ?_; simp (maxSteps := 1000000) [ty33, ty3]
 refine hK _ ?_; clear hK K
 (repeat refine ZQ ?_); refine awp_block ?_
 refine awp_loop (fun i : Nat => ⟨ofL [(3, encI (A i)), (7, .sl l.isEmpty false (V.map cI)), (8, encI l.length), (9, encI i)], stoT []⟩)
  (fun i => i ≤ l.length) (fun i => l.length - i) 0 (Nat.zero_le _) ?_ ?_
 ·rw [hA0, ← hl2]
  exact ZW
 ·intro i hi
  (repeat refine ZQ ?_); refine ZR fun K hK => ?_; simp (maxSteps := 1000000) [ty3]; refine hK _ ?_; clear hK K
  (repeat refine ZQ ?_); refine ZC (fun hc => ?_) (fun hc => ?_)
  ·simp at hc
   have hst := hAs i hc
   have hcv : i < V.length := by omega
   have hg := hget i hc hcv
   have hb : l[i].toNat < 256 := l[i].toNat_lt
   have hvb : -32 ≤ valB l[i] ∧ valB l[i] ≤ 224 := by unfold valB; omega
   have hm : i % 96 < 96 := Nat.mod_lt _ (by decide)
   have hAi := hAb i hi
   have r1 : Int.tmod (i : Int) 96 = ((i % 96 : Nat) : Int) := rfl
   obtain ⟨m, hm2⟩ : ∃ m, i % 96 = m := ⟨_, rfl⟩
   rw [hm2] at hst hm r1
   generalize valB l[i] = z at *
   have hmz : -(32 * 96) ≤ z * ((m : Int) + 1) ∧ z * ((m : Int) + 1) ≤ 224 * 96 := by
    have a1 : z * ((m : Int) + 1) ≤ 224 * ((m : Int) + 1) := Int.mul_le_mul_of_nonneg_right hvb.2 (by omega)
    have a2 : -32 * ((m : Int) + 1) ≤ z * ((m : Int) + 1) := Int.mul_le_mul_of_nonneg_right hvb.1 (by omega)
    omega
   have w0 : IntKind.i64.wrap (m : Int) = m := wrap_id (by omega) (by omega)
   have w1 : IntKind.i64.wrap ((m : Int) + 1) = (m : Int) + 1 := wrap_id (by omega) (by omega)
   have w2 : IntKind.i64.wrap (z * ((m : Int) + 1)) = z * ((m : Int) + 1) := wrap_id (by omega) (by omega)
   have w3 : IntKind.i64.wrap (A i + z * ((m : Int) + 1)) = A i + z * ((m : Int) + 1) := wrap_id (by omega) (by omega)
   have w4 : IntKind.i64.wrap ((i : Int) + 1) = ((i + 1 : Nat) : Int) := by rw [wrap_id (by omega) (by omega)]; rfl
   refine awp_skip ?_
   (repeat refine ZQ ?_); refine awp_block ?_
   (repeat refine ZQ ?_); refine ZR fun K hK => ?_; simp (maxSteps := 1000000) [ty33, ty3, hcv, hg]; refine hK _ ?_; clear hK K
   (repeat refine ZQ ?_); refine ZR fun K hK => ?_; simp (maxSteps := 1000000) [ty3, r1, w0, w1, w2, w3]; refine hK _ ?_; clear hK K
   (repeat refine ZQ ?_); refine ZR fun K hK => ?_; simp (maxSteps := 1000000) [ty3]; refine hK _ ?_; clear hK K; (first | show AWP _ _ _ _ _ | show ∃ _, _ | skip)
   refine ⟨i + 1, by omega, by omega, ?_⟩
   rw [hst, w4]
   exact ZW
  ·simp at hc
   (repeat refine ZQ ?_); refine awp_exit ?_; (first | show AWP _ _ _ _ _ | show ∃ _, _ | skip)
   have hin : i = l.length := by omega
   subst hin
   obtain ⟨n, hnn⟩ : ∃ n : Nat, A l.length = n := ⟨(A l.length).toNat, by omega⟩
   rw [hnn]
   have r1 : Int.tmod (n : Int) 97 = ((n % 97 : Nat) : Int) := rfl
   have r2 : ((n : Int) % 97).toNat = n % 97 := by omega
   have hlt : n % 97 < 97 := Nat.mod_lt _ (by decide)
   rw [r2]
   generalize n % 97 = q at *
   have w0 : IntKind.i64.wrap (q : Int) = q := wrap_id (by omega) (by omega)
   (repeat refine ZQ ?_); refine ZR fun K hK => ?_; simp (maxSteps := 1000000) [ty3, r1, w0]
   refine ZP (two86 q (by omega)) ?_; simp (maxSteps := 1000000) [ty9]
   refine hK _ ?_; clear hK K
   (repeat refine ZQ ?_); refine awp_ret ?_; refine And.intro (Or.inr rfl) ?_
   simp [retC, resC, viewC, mapO]

set_option maxHeartbeats 4000000
set_option maxRecDepth 20000


theorem S_get {l : List UInt8} {i : Nat} (h : i < l.length) : (S l).get! i = l[i] := by
 show (l.toArray)[i]! = l[i]
 simp [h]

theorem dec_ascii {l : List UInt8} {i : Nat} (h : i < l.length) (ha : l[i].toNat < 128) : Utf8.decode (S l) i = (l[i].toNat, 1) := by
 unfold Utf8.decode
 simp only [Nat.add_zero, S_get h]
 rw [if_pos ha]

theorem dec_big {l : List UInt8} {i : Nat} (h : i < l.length) (ha : 128 ≤ l[i].toNat) : 126 < (Utf8.decode (S l) i).1 := by
 unfold Utf8.decode
 simp only [Nat.add_zero, S_get h]
 rw [if_neg (by omega)]
 have hr : 126 < Utf8.runeError := by decide
 repeat' split
 all_goals first | exact hr | (simp only; omega) | (simp only [Bool.and_eq_true, decide_eq_true_eq] at *; omega)

theorem plainB_no {l : List UInt8} {i : Nat} (h : i < l.length) (hb : l[i].toNat < 32 ∨ 126 < l[i].toNat) : plainB l = false := by
 rw [Bool.eq_false_iff]
 intro e
 have := List.all_eq_true.1 e _ (List.getElem_mem h)
 simp only [Bool.and_eq_true, decide_eq_true_eq] at this
 omega
theorem plainB_yes {l : List UInt8} (h : ∀ j (hj : j < l.length), 32 ≤ l[j].toNat ∧ l[j].toNat ≤ 126) : plainB l = true := by
 refine List.all_eq_true.2 fun b hb => ?_
 obtain ⟨j, hj, rfl⟩ := List.getElem_of_mem hb
 have := h j hj
 simp [this]


theorem isPlain53 (l : List UInt8) : Pure Tryz.prog 53 [encS l] (.bool (plainB l)) := by
 have hsz := S_size l
 refine ZF (fn := Tryz.f53) [.tmp 2] ⟨Tryz.func53, rfl, by kernel_rfl⟩ fun x hx hσ => ?_
 (repeat refine ZQ ?_); refine ZR fun K hK => ?_; simp (maxSteps := 1000000) [ty4]; refine hK _ ?_; clear hK K
 refine awp_seq ?_
 refine awp_rangeS (S l) (fun i => i ≤ l.length ∧ ∀ j (hj : j < l.length), j < i → 32 ≤ l[j].toNat ∧ l[j].toNat ≤ 126) ⟨Nat.zero_le _, fun j _ hj => absurd hj (by omega)⟩
  (fun v i => ⟨ofL [(6, .val v)], stoT []⟩) rfl (by kernel_rfl) (by rw [hx]; kernel_rfl) (by rw [hx]; kernel_rfl) (by rw [hx]; decide) (fun v i => rfl) (by decide) (by decide) ?_ ?_ ?_
 ·intro K hK
  simp
  refine hK _ ?_ ?_
  ·simp
  ·intro v
   exact ZW
 ·intro v i hlt hJ y hy1 hy2 hyY
  obtain ⟨hi, hp⟩ := hJ
  rw [hsz] at hlt
  have hx := hy1.trans hx
  have hσ := hy2.trans hσ
  by_cases ha : l[i].toNat < 128
  ·have hdec := dec_ascii hlt ha
   rw [hdec]
   simp only
   by_cases h1 : l[i].toNat < 32
   ·have hno := plainB_no hlt (.inl h1)
    have hbig : (l[i].toNat : Int) < 32 := by omega
    (repeat refine ZQ ?_); refine ZR fun K hK => ?_; simp (maxSteps := 1000000) [ty21, AS.put, putE]; refine hK _ ?_; clear hK K
    (repeat refine ZQ ?_); refine ZR fun K hK => ?_; simp (maxSteps := 1000000) [ty21, ty4, hbig]; refine hK _ ?_; clear hK K
    (repeat refine ZQ ?_); refine ZC (hc := by simp [hbig]; rfl) (fun hd => ?_) (fun hd => ?_)
    ·clear hd
     (repeat refine ZQ ?_); refine ZR fun K hK => ?_; simp (maxSteps := 1000000) [ty4]; refine hK _ ?_; clear hK K
     (repeat refine ZQ ?_); refine awp_ret ?_; refine And.intro (Or.inr rfl) ?_
     rw [hno]
     simp [retC, resC, viewC, mapO]
    ·simp [hbig] at hd
   ·by_cases h2 : 126 < l[i].toNat
    ·have hno := plainB_no hlt (.inr h2)
     have hsm : ¬ (l[i].toNat : Int) < 32 := by omega
     have hbig : (126 : Int) < l[i].toNat := by omega
     (repeat refine ZQ ?_); refine ZR fun K hK => ?_; simp (maxSteps := 1000000) [ty21, AS.put, putE]; refine hK _ ?_; clear hK K
     (repeat refine ZQ ?_); refine ZR fun K hK => ?_; simp (maxSteps := 1000000) [ty21, ty4, hsm, hbig]; refine hK _ ?_; clear hK K
     (repeat refine ZQ ?_); refine ZC (hc := by simp [hbig]; rfl) (fun hd => ?_) (fun hd => ?_)
     ·clear hd
      (repeat refine ZQ ?_); refine ZR fun K hK => ?_; simp (maxSteps := 1000000) [ty4]; refine hK _ ?_; clear hK K
      (repeat refine ZQ ?_); refine awp_ret ?_; refine And.intro (Or.inr rfl) ?_
      rw [hno]
      simp [retC, resC, viewC, mapO]
     ·simp [hbig] at hd
    ·have hsm : ¬ (l[i].toNat : Int) < 32 := by omega
     have hbig : ¬ (126 : Int) < l[i].toNat := by omega
     (repeat refine ZQ ?_); refine ZR fun K hK => ?_; simp (maxSteps := 1000000) [ty21, AS.put, putE]; refine hK _ ?_; clear hK K
     (repeat refine ZQ ?_); refine ZR fun K hK => ?_; simp (maxSteps := 1000000) [ty21, ty4, hsm, hbig]; refine hK _ ?_; clear hK K
     (repeat refine ZQ ?_); refine ZC (hc := by simp [hbig]; rfl) (fun hd => ?_) (fun hd => ?_)
     ·simp [hbig] at hd
     ·clear hd
      refine awp_skip ?_; (first | show AWP _ _ _ _ _ | show ∃ _, _ | skip)
      refine ⟨⟨by omega, fun j hj hji => ?_⟩, ?_⟩
      ·by_cases e : j = i
       ·subst e; omega
       ·exact hp j hj (by omega)
      ·exact ZW
  ·have hno := plainB_no hlt (.inr (by omega))
   have hb := dec_big hlt (by omega)
   generalize Utf8.decode (S l) i = cw at *
   have hsm : ¬ (cw.1 : Int) < 32 := by omega
   have hbig : (126 : Int) < cw.1 := by omega
   (repeat refine ZQ ?_); refine ZR fun K hK => ?_; simp (maxSteps := 1000000) [ty21, AS.put, putE]; refine hK _ ?_; clear hK K
   (repeat refine ZQ ?_); refine ZR fun K hK => ?_; simp (maxSteps := 1000000) [ty21, ty4, hsm, hbig]; refine hK _ ?_; clear hK K
   (repeat refine ZQ ?_); refine ZC (hc := by simp [hbig]; rfl) (fun hd => ?_) (fun hd => ?_)
   ·clear hd
    (repeat refine ZQ ?_); refine ZR fun K hK => ?_; simp (maxSteps := 1000000) [ty4]; refine hK _ ?_; clear hK K
    (repeat refine ZQ ?_); refine awp_ret ?_; refine And.intro (Or.inr rfl) ?_
    rw [hno]
    simp [retC, resC, viewC, mapO]
   ·simp [hbig] at hd
 ·intro v i hge hJ
  obtain ⟨hi, hp⟩ := hJ
  rw [hsz] at hge
  have hyes := plainB_yes fun j hj => hp j hj (by omega)
  show AWP _ _ _ _ _
  (repeat refine ZQ ?_); refine ZR fun K hK => ?_; simp (maxSteps := 1000000) [ty4]; refine hK _ ?_; clear hK K
  (repeat refine ZQ ?_); refine awp_ret ?_; refine And.intro (Or.inr rfl) ?_
  rw [hyes]
  simp [retC, resC, viewC, mapO]

set_option maxHeartbeats 4000000
set_option maxRecDepth 20000


theorem S_at {l : List UInt8} {i : Nat} (h : i < l.length) : (S l)[i]? = some l[i] := by
 have hs : i < (S l).size := by rw [S_size]; exact h
 rw [getElem?_pos (S l) i hs]
 rfl

def textB (l : List UInt8) : Bool := decide (l.length ≤ 60) && plainB l

theorem isText34 (l : List UInt8) : Pure Tryz.prog 34 [encS l] (.bool (textB l)) := by
 have hsz := S_size l
 have c := isPlain53 l
 unfold textB
 generalize plainB l = b at *
 by_cases h : l.length ≤ 60
 ·have h' : (l.length : Int) ≤ 60 := by omega
  refine ZF (fn := Tryz.f34) [.tmp 2] ⟨Tryz.func34, rfl, by kernel_rfl⟩ fun x hx hσ => ?_
  (repeat refine ZQ ?_); refine ZR fun K hK => ?_; simp (maxSteps := 1000000) [ty4]; refine hK _ ?_; clear hK K
  (repeat refine ZQ ?_); refine ZR fun K hK => ?_; simp (maxSteps := 1000000) [ty9, ty3, ty4, hsz, h']
  refine ZP (c) ?_; simp (maxSteps := 1000000) [ty4]
  refine hK _ ?_; clear hK K
  (repeat refine ZQ ?_); refine awp_ret ?_; refine And.intro (Or.inr rfl) ?_
  simp [retC, resC, viewC, mapO, h]
 ·have h' : ¬ (l.length : Int) ≤ 60 := by omega
  refine ZF (fn := Tryz.f34) [.tmp 2] ⟨Tryz.func34, rfl, by kernel_rfl⟩ fun x hx hσ => ?_
  (repeat refine ZQ ?_); refine ZR fun K hK => ?_; simp (maxSteps := 1000000) [ty4]; refine hK _ ?_; clear hK K
  (repeat refine ZQ ?_); refine ZR fun K hK => ?_; simp (maxSteps := 1000000) [ty9, ty3, ty4, hsz, h']
  refine hK _ ?_; clear hK K
  (repeat refine ZQ ?_); refine awp_ret ?_; refine And.intro (Or.inr rfl) ?_
  simp [retC, resC, viewC, mapO, h]

theorem notText33 (l : List UInt8) : Pure Tryz.prog 33 [encS l] (.bool (!textB l)) := by
 have c := isText34 l
 refine ZF (fn := Tryz.f33) [.tmp 2] ⟨Tryz.func33, rfl, by kernel_rfl⟩ fun x hx hσ => ?_
 (repeat refine ZQ ?_); refine ZR fun K hK => ?_; simp (maxSteps := 1000000) [ty4]; refine hK _ ?_; clear hK K
 (repeat refine ZQ ?_); refine ZR fun K hK => ?_; simp (maxSteps := 1000000) [ty9, ty4]
 refine ZP (c) ?_; simp (maxSteps := 1000000) [ty4]
 refine hK _ ?_; clear hK K
 (repeat refine ZQ ?_); refine awp_ret ?_; refine And.intro (Or.inr rfl) ?_
 simp [retC, resC, viewC, mapO]

def plain1 (b : UInt8) : Bool := decide (32 ≤ b.toNat) && decide (b.toNat ≤ 126)

theorem q_has40 (b : UInt8) : Pure Tryz.prog 40 [.int .u8 (b.toNat : Int)] (.bool (plain1 b)) := by
 unfold plain1
 by_cases h : 32 ≤ b.toNat
 ·have h' : (32 : Int) ≤ b.toNat := by omega
  by_cases g : b.toNat ≤ 126
  ·have g' : (b.toNat : Int) ≤ 126 := by omega
   refine ZF (fn := Tryz.f40) [.tmp 2] ⟨Tryz.func40, rfl, by kernel_rfl⟩ fun x hx hσ => ?_
   (repeat refine ZQ ?_); refine ZR fun K hK => ?_; simp (maxSteps := 1000000) [ty4]; refine hK _ ?_; clear hK K
   (repeat refine ZQ ?_); refine ZR fun K hK => ?_; simp (maxSteps := 1000000) [ty5, ty4, h', g']; refine hK _ ?_; clear hK K
   (repeat refine ZQ ?_); refine awp_ret ?_; refine And.intro (Or.inr rfl) ?_
   simp [retC, resC, viewC, mapO, h, g]
  ·have g' : ¬ (b.toNat : Int) ≤ 126 := by omega
   refine ZF (fn := Tryz.f40) [.tmp 2] ⟨Tryz.func40, rfl, by kernel_rfl⟩ fun x hx hσ => ?_
   (repeat refine ZQ ?_); refine ZR fun K hK => ?_; simp (maxSteps := 1000000) [ty4]; refine hK _ ?_; clear hK K
   (repeat refine ZQ ?_); refine ZR fun K hK => ?_; simp (maxSteps := 1000000) [ty5, ty4, h', g']; refine hK _ ?_; clear hK K
   (repeat refine ZQ ?_); refine awp_ret ?_; refine And.intro (Or.inr rfl) ?_
   simp [retC, resC, viewC, mapO, h, g]
 ·have h' : ¬ (32 : Int) ≤ b.toNat := by omega
  refine ZF (fn := Tryz.f40) [.tmp 2] ⟨Tryz.func40, rfl, by kernel_rfl⟩ fun x hx hσ => ?_
  (repeat refine ZQ ?_); refine ZR fun K hK => ?_; simp (maxSteps := 1000000) [ty4]; refine hK _ ?_; clear hK K
  (repeat refine ZQ ?_); refine ZR fun K hK => ?_; simp (maxSteps := 1000000) [ty5, ty4, h']; refine hK _ ?_; clear hK K
  (repeat refine ZQ ?_); refine awp_ret ?_; refine And.intro (Or.inr rfl) ?_
  simp [retC, resC, viewC, mapO, h]

theorem q_plain44 (l : List UInt8) (hn : l.length ≤ 1000000) : Pure Tryz.prog 44 [encS l] (.bool (plainB l)) := by
 have hsz := S_size l
 refine ZF (fn := Tryz.f44) [.tmp 2] ⟨Tryz.func44, rfl, by kernel_rfl⟩ fun x hx hσ => ?_
 (repeat refine ZQ ?_); refine ZR fun K hK => ?_; simp (maxSteps := 1000000) [ty4]; refine hK _ ?_; clear hK K
 (repeat refine ZQ ?_); refine ZR fun K hK => ?_; simp (maxSteps := 1000000) [ty3]; refine hK _ ?_; clear hK K
 (repeat refine ZQ ?_); refine awp_block ?_
 refine awp_loop (fun i : Nat => ⟨ofL [(0, encS l), (3, encI i)], stoT []⟩)
  (fun i => i ≤ l.length ∧ ∀ j (hj : j < l.length), j < i → 32 ≤ l[j].toNat ∧ l[j].toNat ≤ 126) (fun i => l.length - i) 0 ⟨Nat.zero_le _, fun j _ hj => absurd hj (by omega)⟩ ?_ ?_
 ·exact ZW
 ·intro i ⟨hi, hp⟩
  (repeat refine ZQ ?_); refine ZR fun K hK => ?_; simp (maxSteps := 1000000) [ty9, ty3, hsz]; refine hK _ ?_; clear hK K; (first | show AWP _ _ _ _ _ | show ∃ _, _ | skip)
  by_cases hc : i < l.length
  ·have hg := S_at hc
   have c := q_has40 l[i]
   have w1 : IntKind.i64.wrap ((i : Int) + 1) = ((i + 1 : Nat) : Int) := by rw [wrap_id (by omega) (by omega)]; rfl
   have hpd : plain1 l[i] = (decide (32 ≤ l[i].toNat) && decide (l[i].toNat ≤ 126)) := rfl
   (repeat refine ZQ ?_); refine ZC (hc := by simp [hc]; rfl) (fun hd => ?_) (fun hd => ?_)
   ·clear hd
    refine awp_skip ?_
    (repeat refine ZQ ?_); refine awp_block ?_
    (repeat refine ZQ ?_); refine ZR fun K hK => ?_; simp (maxSteps := 1000000) [ty9, ty3, ty5, ty4, hg]
    refine ZP (c) ?_; simp (maxSteps := 1000000) [ty4]
    refine hK _ ?_; clear hK K; (first | show AWP _ _ _ _ _ | show ∃ _, _ | skip)
    cases hb : plain1 l[i]
    ·have hno := plainB_no hc (by rw [hpd] at hb; simp at hb; omega)
     (repeat refine ZQ ?_); refine ZC (hc := by simp [hb]; rfl) (fun hd => ?_) (fun hd => ?_)
     ·clear hd
      (repeat refine ZQ ?_); refine ZR fun K hK => ?_; simp (maxSteps := 1000000) [ty4]; refine hK _ ?_; clear hK K
      (repeat refine ZQ ?_); refine awp_ret ?_; refine And.intro (Or.inr rfl) ?_
      rw [hno]
      simp [retC, resC, viewC, mapO]
     ·simp [hb] at hd
    ·rw [hpd, Bool.and_eq_true, decide_eq_true_eq, decide_eq_true_eq] at hb
     clear hpd
     (repeat refine ZQ ?_); refine ZC (hc := by simp [hb]; rfl) (fun hd => ?_) (fun hd => ?_)
     ·simp [hb] at hd
     ·clear hd
      refine awp_skip ?_
      (repeat refine ZQ ?_); refine ZR fun K hK => ?_; simp (maxSteps := 1000000) [ty3]; refine hK _ ?_; clear hK K; (first | show AWP _ _ _ _ _ | show ∃ _, _ | skip)
      refine ⟨i + 1, ⟨by omega, fun j hj hji => ?_⟩, by omega, ?_⟩
      ·by_cases e : j = i
       ·subst e; exact hb
       ·exact hp j hj (by omega)
      ·rw [w1]
       exact ZW
   ·simp [hc] at hd
  ·have hyes := plainB_yes fun j hj => hp j hj (by omega)
   (repeat refine ZQ ?_); refine ZC (hc := by simp [hc]; rfl) (fun hd => ?_) (fun hd => ?_)
   ·simp [hc] at hd
   ·clear hd
    (repeat refine ZQ ?_); refine awp_exit ?_
    (repeat refine ZQ ?_); refine ZR fun K hK => ?_; simp (maxSteps := 1000000) [ty4]; refine hK _ ?_; clear hK K
    (repeat refine ZQ ?_); refine awp_ret ?_; refine And.intro (Or.inr rfl) ?_
    rw [hyes]
    simp [retC, resC, viewC, mapO]

theorem q_isText51 (l : List UInt8) (hn : l.length ≤ 1000000) : Pure Tryz.prog 51 [encS l] (.bool (textB l)) := by
 have hsz := S_size l
 have c := q_plain44 l hn
 unfold textB
 generalize plainB l = b at *
 by_cases h : l.length ≤ 60
 ·have h' : (l.length : Int) ≤ 60 := by omega
  refine ZF (fn := Tryz.f51) [.tmp 2] ⟨Tryz.func51, rfl, by kernel_rfl⟩ fun x hx hσ => ?_
  (repeat refine ZQ ?_); refine ZR fun K hK => ?_; simp (maxSteps := 1000000) [ty4]; refine hK _ ?_; clear hK K
  (repeat refine ZQ ?_); refine ZR fun K hK => ?_; simp (maxSteps := 1000000) [ty9, ty3, ty4, hsz, h']
  refine ZP (c) ?_; simp (maxSteps := 1000000) [ty4]
  refine hK _ ?_; clear hK K
  (repeat refine ZQ ?_); refine awp_ret ?_; refine And.intro (Or.inr rfl) ?_
  simp [retC, resC, viewC, mapO, h]
 ·have h' : ¬ (l.length : Int) ≤ 60 := by omega
  refine ZF (fn := Tryz.f51) [.tmp 2] ⟨Tryz.func51, rfl, by kernel_rfl⟩ fun x hx hσ => ?_
  (repeat refine ZQ ?_); refine ZR fun K hK => ?_; simp (maxSteps := 1000000) [ty4]; refine hK _ ?_; clear hK K
  (repeat refine ZQ ?_); refine ZR fun K hK => ?_; simp (maxSteps := 1000000) [ty9, ty3, ty4, hsz, h']
  refine hK _ ?_; clear hK K
  (repeat refine ZQ ?_); refine awp_ret ?_; refine And.intro (Or.inr rfl) ?_
  simp [retC, resC, viewC, mapO, h]

theorem q_value78 (b : UInt8) : Pure Tryz.prog 78 [.int .u8 (b.toNat : Int)] (encI (valB b)) := by
 have hb : b.toNat < 256 := b.toNat_lt
 have w1 : IntKind.i64.wrap (b.toNat : Int) = b.toNat := wrap_id (by omega) (by omega)
 have w2 : IntKind.i64.wrap ((b.toNat : Int) - 32) = valB b := wrap_id (by omega) (by omega)
 refine ZF (fn := Tryz.f78) [.tmp 2] ⟨Tryz.func78, rfl, by kernel_rfl⟩ fun x hx hσ => ?_
 (repeat refine ZQ ?_); refine ZR fun K hK => ?_; simp (maxSteps := 1000000) [ty3]; refine hK _ ?_; clear hK K
 (repeat refine ZQ ?_); refine ZR fun K hK => ?_; simp (maxSteps := 1000000) [ty5, ty3, w1, w2]; refine hK _ ?_; clear hK K
 (repeat refine ZQ ?_); refine awp_ret ?_; refine And.intro (Or.inr rfl) ?_
 simp [retC, resC, viewC, mapO]

set_option maxHeartbeats 4000000
set_option maxRecDepth 20000


theorem S_app (a b : List UInt8) : S a ++ S b = S (a ++ b) := by
 apply ByteArray.ext
 simp [S, ByteArray.data_append]

theorem enc_ascii {n : Nat} (h : n < 128) : Utf8.encode (n : Int) = S [UInt8.ofNat n] := by
 unfold Utf8.encode
 have hv : Utf8.valid (n : Int) = true := by
  unfold Utf8.valid
  simp only [Bool.or_eq_true, Bool.and_eq_true, decide_eq_true_eq]
  omega
 simp only [hv, if_true, Int.toNat_natCast]
 rw [if_pos h]

theorem wrap_i32 {n : Int} (h1 : 0 ≤ n) (h2 : n < 2147483648) : IntKind.i32.wrap n = n := by
 have e : IntKind.i32.wrap n = if 2147483648 ≤ n % 4294967296 then n % 4294967296 - 4294967296 else n % 4294967296 := by
  simp [IntKind.wrap, IntKind.signed, IntKind.bits]
 rw [e]
 split <;> omega

theorem str_add {a b : List UInt8} (h : a.length + b.length ≤ 1000000) : strBin .add (S a) (S b) = some (encS (a ++ b)) := by
 unfold strBin
 simp only [S_size]
 rw [if_neg]
 ·rw [S_app]
 ·simp only [IntKind.max, IntKind.bits, IntKind.signed]
  simp
  omega

theorem q_two79 (n : Nat) (hn : n < 100) : Pure Tryz.prog 79 [encI n] (encS (twoB n)) := by
 have h1 : Int.tdiv (n : Int) 10 = ((n / 10 : Nat) : Int) := rfl
 have h2 : Int.tmod (n : Int) 10 = ((n % 10 : Nat) : Int) := rfl
 obtain ⟨q, hq⟩ : ∃ q, n / 10 = q := ⟨_, rfl⟩
 obtain ⟨r, hr⟩ : ∃ r, n % 10 = r := ⟨_, rfl⟩
 have hqb : q < 10 := by omega
 have hrb : r < 10 := by omega
 unfold twoB
 rw [hq] at h1 ⊢
 rw [hr] at h2 ⊢
 have w0 : IntKind.i64.wrap (q : Int) = q := wrap_id (by omega) (by omega)
 have w1 : IntKind.i64.wrap (48 + (q : Int)) = 48 + q := wrap_id (by omega) (by omega)
 have w2 : IntKind.i64.wrap (48 + (r : Int)) = 48 + r := wrap_id (by omega) (by omega)
 have w3 : IntKind.i32.wrap (48 + (q : Int)) = 48 + q := wrap_i32 (by omega) (by omega)
 have w4 : IntKind.i32.wrap (48 + (r : Int)) = 48 + r := wrap_i32 (by omega) (by omega)
 have e1 : Utf8.encode (48 + (q : Int)) = S [UInt8.ofNat (48 + q)] := by rw [← enc_ascii (by omega)]; rfl
 have e2 : Utf8.encode (48 + (r : Int)) = S [UInt8.ofNat (48 + r)] := by rw [← enc_ascii (by omega)]; rfl
 have ha := str_add (a := [UInt8.ofNat (48 + q)]) (b := [UInt8.ofNat (48 + r)]) (by simp)
 clear hq hr
 generalize UInt8.ofNat (48 + q) = x at *
 generalize UInt8.ofNat (48 + r) = y at *
 refine ZF (fn := Tryz.f79) [.tmp 2] ⟨Tryz.func79, rfl, by kernel_rfl⟩ fun x hx hσ => ?_
 (repeat refine ZQ ?_); refine ZR fun K hK => ?_; simp (maxSteps := 1000000) [ty9]; refine hK _ ?_; clear hK K
 (repeat refine ZQ ?_); refine ZR fun K hK => ?_; simp (maxSteps := 1000000) [ty3, ty21, ty9, h1, h2, w0, w1, w2, w3, w4, e1, e2, ha, -strBin]; refine hK _ ?_; clear hK K
 (repeat refine ZQ ?_); refine awp_ret ?_; refine And.intro (Or.inr rfl) ?_
 simp [retC, resC, viewC, mapO]

theorem q_check47 (l : List UInt8) (hn : l.length ≤ 100000) (h0 : 0 ≤ sumB l 0) : Pure Tryz.prog 47 [encS l] (encS (checkB l)) := by
 have hsz := S_size l
 obtain ⟨A, hA⟩ : ∃ A : Nat → Int, ∀ i, A i = sumB (l.take i) 0 := ⟨_, fun _ => rfl⟩
 have hA0 : A 0 = 0 := by rw [hA]; rfl
 have hAs : ∀ i (hi : i < l.length), A (i + 1) = A i + valB l[i] * (((i % 96 : Nat) : Int) + 1) := fun i hi => by
  rw [hA, hA, List.take_succ_eq_append_getElem hi, sumB_app]
  simp only [sumB, List.length_take]
  rw [show 0 + min i l.length = i by omega]
  omega
 have hAb : ∀ i, i ≤ l.length → -10000000000 ≤ A i ∧ A i ≤ 10000000000 := fun i hi => by
  have := sumB_bd (l.take i) 0
  rw [List.length_take] at this
  rw [hA]; omega
 have hAn : A l.length = sumB l 0 := by rw [hA, List.take_length]
 rw [← hAn] at h0
 unfold checkB
 rw [← hAn]
 clear hAn hA
 obtain ⟨W, hW⟩ : ∃ W : Nat → Nat, ∀ i, W i = if i = 0 then 0 else (i - 1) % 96 + 1 := ⟨_, fun _ => rfl⟩
 have hW0 : W 0 = 0 := by rw [hW]; rfl
 have hWs : ∀ i, W i % 96 + 1 = W (i + 1) ∧ W (i + 1) = i % 96 + 1 ∧ W i ≤ 96 := fun i => by
  rw [hW, hW]
  split
  ·subst_vars; simp
  ·rw [if_neg (by omega)]; omega
 clear hW
 refine ZF (fn := Tryz.f47) [.tmp 2] ⟨Tryz.func47, rfl, by kernel_rfl⟩ fun x hx hσ => ?_
 (repeat refine ZQ ?_); refine ZR fun K hK => ?_; simp (maxSteps := 1000000) [ty9]; refine hK _ ?_; clear hK K
 (repeat refine ZQ ?_); refine ZR fun K hK => ?_; simp (maxSteps := 1000000) [ty3]; refine hK _ ?_; clear hK K
 (repeat refine ZQ ?_); refine ZR fun K hK => ?_; simp (maxSteps := 1000000) [ty3]; refine hK _ ?_; clear hK K
 (repeat refine ZQ ?_); refine awp_block ?_
 refine awp_loop (fun i : Nat => ⟨ofL [(0, encS l), (3, encI (A i)), (4, encI (W i)), (5, encI i)], stoT []⟩)
  (fun i => i ≤ l.length) (fun i => l.length - i) 0 (Nat.zero_le _) ?_ ?_
 ·rw [hA0, hW0]
  exact ZW
 ·intro i hi
  (repeat refine ZQ ?_); refine ZR fun K hK => ?_; simp (maxSteps := 1000000) [ty9, ty3, hsz]; refine hK _ ?_; clear hK K; (first | show AWP _ _ _ _ _ | show ∃ _, _ | skip)
  by_cases hc : i < l.length
  ·have hst := hAs i hc
   obtain ⟨hw1, hw2, hw3⟩ := hWs i
   have hg := S_at hc
   have hb : l[i].toNat < 256 := l[i].toNat_lt
   have hvb : -32 ≤ valB l[i] ∧ valB l[i] ≤ 224 := by unfold valB; omega
   have hAi := hAb i hi
   have cv := q_value78 l[i]
   have hm : i % 96 < 96 := Nat.mod_lt _ (by decide)
   obtain ⟨m, hm2⟩ : ∃ m, i % 96 = m := ⟨_, rfl⟩
   rw [hm2] at hst hm hw2
   rw [hw2] at hw1
   have r1 : Int.tmod (W i : Int) 96 = (m : Int) := by
    have : Int.tmod (W i : Int) 96 = ((W i % 96 : Nat) : Int) := rfl
    rw [this]; omega
   generalize valB l[i] = z at *
   have hmz : -(32 * 96) ≤ z * ((m : Int) + 1) ∧ z * ((m : Int) + 1) ≤ 224 * 96 := by
    have a1 : z * ((m : Int) + 1) ≤ 224 * ((m : Int) + 1) := Int.mul_le_mul_of_nonneg_right hvb.2 (by omega)
    have a2 : -32 * ((m : Int) + 1) ≤ z * ((m : Int) + 1) := Int.mul_le_mul_of_nonneg_right hvb.1 (by omega)
    omega
   have w0 : IntKind.i64.wrap (m : Int) = m := wrap_id (by omega) (by omega)
   have w1 : IntKind.i64.wrap ((m : Int) + 1) = (m : Int) + 1 := wrap_id (by omega) (by omega)
   have w2 : IntKind.i64.wrap (z * ((m : Int) + 1)) = z * ((m : Int) + 1) := wrap_id (by omega) (by omega)
   have w3 : IntKind.i64.wrap (A i + z * ((m : Int) + 1)) = A i + z * ((m : Int) + 1) := wrap_id (by omega) (by omega)
   have w4 : IntKind.i64.wrap ((i : Int) + 1) = ((i + 1 : Nat) : Int) := by rw [wrap_id (by omega) (by omega)]; rfl
   have w5 : ((W (i + 1) : Nat) : Int) = (m : Int) + 1 := by rw [hw2]; rfl
   (repeat refine ZQ ?_); refine ZC (hc := by simp [hc]; rfl) (fun hd => ?_) (fun hd => ?_)
   ·clear hd
    refine awp_skip ?_
    (repeat refine ZQ ?_); refine awp_block ?_
    (repeat refine ZQ ?_); refine ZR fun K hK => ?_; simp (maxSteps := 1000000) [ty3, r1, w0, w1]; refine hK _ ?_; clear hK K
    (repeat refine ZQ ?_); refine ZR fun K hK => ?_; simp (maxSteps := 1000000) [ty9, ty3, ty5, hg]
    refine ZP (cv) ?_; simp (maxSteps := 1000000) [ty3, w2, w3]
    refine hK _ ?_; clear hK K
    (repeat refine ZQ ?_); refine ZR fun K hK => ?_; simp (maxSteps := 1000000) [ty3]; refine hK _ ?_; clear hK K; (first | show AWP _ _ _ _ _ | show ∃ _, _ | skip)
    refine ⟨i + 1, by omega, by omega, ?_⟩
    rw [hst, w4, w5]
    exact ZW
   ·simp [hc] at hd
  ·(repeat refine ZQ ?_); refine ZC (hc := by simp [hc]; rfl) (fun hd => ?_) (fun hd => ?_)
   ·simp [hc] at hd
   ·clear hd
    (repeat refine ZQ ?_); refine awp_exit ?_; (first | show AWP _ _ _ _ _ | show ∃ _, _ | skip)
    have hin : i = l.length := by omega
    subst hin
    obtain ⟨n, hnn⟩ : ∃ n : Nat, A l.length = n := ⟨(A l.length).toNat, by omega⟩
    rw [hnn]
    have r1 : Int.tmod (n : Int) 97 = ((n % 97 : Nat) : Int) := rfl
    have r2 : ((n : Int) % 97).toNat = n % 97 := by omega
    have hlt : n % 97 < 97 := Nat.mod_lt _ (by decide)
    rw [r2]
    generalize n % 97 = q at *
    have w0 : IntKind.i64.wrap (q : Int) = q := wrap_id (by omega) (by omega)
    (repeat refine ZQ ?_); refine ZR fun K hK => ?_; simp (maxSteps := 1000000) [ty3, r1, w0]
    refine ZP (q_two79 q (by omega)) ?_; simp (maxSteps := 1000000) [ty9]
    refine hK _ ?_; clear hK K
    (repeat refine ZQ ?_); refine awp_ret ?_; refine And.intro (Or.inr rfl) ?_
    simp [retC, resC, viewC, mapO]

set_option maxHeartbeats 4000000
set_option maxRecDepth 20000


@[simp] abbrev cS (l : List UInt8) : List C := [encS l]
@[simp] abbrev sT (nl fu : Bool) (L : List (List UInt8)) : C := .sl nl fu (L.map cS)

def dig1 (b : UInt8) : Bool := decide (48 ≤ b.toNat) && decide (b.toNat ≤ 57)
def digB (l : List UInt8) : Bool := l.all dig1

def firstB (L : List (List UInt8)) : Int := if L.all textB = true then -1 else (L.findIdx fun l => !textB l : Nat)

theorem index52 (nl fu : Bool) (L : List (List UInt8)) (hn : L.length ≤ 100000) : Pure Tryz.prog 52 [sT nl fu L, .fn (.func 33) [] []] (encI (firstB L)) := by
 refine ZF (fn := Tryz.f52) [.tmp 4] ⟨Tryz.func52, rfl, by kernel_rfl⟩ fun x hx hσ => ?_
 (repeat refine ZQ ?_); refine ZR fun K hK => ?_; simp (maxSteps := 1000000); refine hK _ ?_; clear hK K
 (repeat refine ZQ ?_); refine ZR fun K hK => ?_; simp (maxSteps := 1000000) [ty22]; refine hK _ ?_; clear hK K
 (repeat refine ZQ ?_); refine awp_block ?_
 refine awp_loop (fun i : Nat => ⟨ofL [(0, sT nl fu L), (1, .fn (.func 33) [] []), (7, encI L.length), (8, encI i)], stoT []⟩)
  (fun i => i ≤ L.length ∧ ∀ j, (h : j < L.length) → j < i → textB L[j] = true) (fun i => L.length - i) 0 (by simp) ?_ ?_
 ·exact ZW
 ·intro i ⟨hi, hj⟩
  (repeat refine ZQ ?_); refine ZR fun K hK => ?_; simp (maxSteps := 1000000) [ty3]; refine hK _ ?_; clear hK K
  (repeat refine ZQ ?_); refine ZC (fun hc => ?_) (fun hc => ?_)
  ·simp at hc
   refine awp_skip ?_
   (repeat refine ZQ ?_); refine awp_block ?_
   (repeat refine ZQ ?_); refine ZR fun K hK => ?_; simp (maxSteps := 1000000); refine hK _ ?_; clear hK K
   (repeat refine ZQ ?_); refine ZR fun K hK => ?_; simp (maxSteps := 1000000) [ty22, ty9, hc]
   refine ZP (notText33 L[i]) ?_; simp (maxSteps := 1000000)
   refine hK _ ?_; clear hK K; (first | show AWP _ _ _ _ _ | show ∃ _, _ | skip)
   cases hb : textB L[i]
   ·have hf : firstB L = i := by
     unfold firstB
     rw [if_neg (fun e => by have := List.all_eq_true.1 e _ (List.getElem_mem hc); rw [hb] at this; cases this)]
     congr 1
     rw [List.findIdx_eq hc]
     exact ⟨by rw [hb]; rfl, fun j hji => by rw [hj j (by omega) hji]; rfl⟩
    (repeat refine ZQ ?_); refine ZC (hc := by simp [hb]; rfl) (fun hd => ?_) (fun hd => ?_)
    ·clear hd
     (repeat refine ZQ ?_); refine ZR fun K hK => ?_; simp (maxSteps := 1000000); refine hK _ ?_; clear hK K
     (repeat refine ZQ ?_); refine awp_ret ?_; refine And.intro (Or.inr rfl) ?_
     rw [hf]
     simp [retC, resC, viewC, mapO]
    ·simp [hb] at hd
   ·(repeat refine ZQ ?_); refine ZC (hc := by simp [hb]; rfl) (fun hd => ?_) (fun hd => ?_)
    ·simp [hb] at hd
    ·clear hd
     refine awp_skip ?_
     (repeat refine ZQ ?_); refine ZR fun K hK => ?_; simp (maxSteps := 1000000) [ty3]; refine hK _ ?_; clear hK K; (first | show AWP _ _ _ _ _ | show ∃ _, _ | skip)
     refine ⟨i + 1, ⟨by omega, fun j h1 h2 => ?_⟩, by omega, ?_⟩
     ·by_cases hji : j = i
      ·subst hji; assumption
      ·exact hj j h1 (by omega)
     ·exact ZW
  ·simp at hc
   (repeat refine ZQ ?_); refine awp_exit ?_; (first | show AWP _ _ _ _ _ | show ∃ _, _ | skip)
   have hf : firstB L = -1 := by
    unfold firstB
    rw [if_pos]
    exact List.all_eq_true.2 fun b hb => by
     obtain ⟨j, h1, rfl⟩ := List.getElem_of_mem hb
     exact hj j h1 (by omega)
   (repeat refine ZQ ?_); refine ZR fun K hK => ?_; simp (maxSteps := 1000000); refine hK _ ?_; clear hK K
   (repeat refine ZQ ?_); refine awp_ret ?_; refine And.intro (Or.inr rfl) ?_
   rw [hf]
   simp [retC, resC, viewC, mapO]

theorem contains32 (nl fu : Bool) (L : List (List UInt8)) (hn : L.length ≤ 100000) : Pure Tryz.prog 32 [sT nl fu L, .fn (.func 33) [] []] (.bool (!L.all textB)) := by
 have c := index52 nl fu L hn
 have hd : decide (0 ≤ firstB L) = !L.all textB := by
  unfold firstB
  cases h : L.all textB
  ·rw [if_neg (by simp)]; simp
  ·rw [if_pos rfl]; rfl
 refine ZF (fn := Tryz.f32) [.tmp 4] ⟨Tryz.func32, rfl, by kernel_rfl⟩ fun x hx hσ => ?_
 (repeat refine ZQ ?_); refine ZR fun K hK => ?_; simp (maxSteps := 1000000) [ty4]; refine hK _ ?_; clear hK K
 (repeat refine ZQ ?_); refine ZR fun K hK => ?_; simp (maxSteps := 1000000) [ty22, ty3]
 refine ZP (c) ?_; simp (maxSteps := 1000000) [ty3]
 refine hK _ ?_; clear hK K
 (repeat refine ZQ ?_); refine awp_ret ?_; refine And.intro (Or.inr rfl) ?_
 rw [← hd]
 simp [retC, resC, viewC, mapO]

def textsE (L : List (List UInt8)) : Int := if 40 < L.length then 2 else if L.all textB = true then 0 else 1

theorem q_areTexts31 (nl fu : Bool) (L : List (List UInt8)) (hl : ∀ l ∈ L, l.length ≤ 1000000) : Pure Tryz.prog 31 [sT nl fu L] (encI (textsE L)) := by
 by_cases h40 : 40 < L.length
 ·have h' : (40 : Int) < L.length := by omega
  have hV : textsE L = 2 := if_pos h40
  rw [hV]
  refine ZF (fn := Tryz.f31) [.tmp 2] ⟨Tryz.func31, rfl, by kernel_rfl⟩ fun x hx hσ => ?_
  (repeat refine ZQ ?_); refine ZR fun K hK => ?_; simp (maxSteps := 1000000) [ty26]; refine hK _ ?_; clear hK K
  (repeat refine ZQ ?_); refine ZR fun K hK => ?_; simp (maxSteps := 1000000) [ty22, ty3, h']; refine hK _ ?_; clear hK K
  (repeat refine ZQ ?_); refine ZC (hc := by simp [h40]; rfl) (fun hd => ?_) (fun hd => ?_)
  ·clear hd
   (repeat refine ZQ ?_); refine ZR fun K hK => ?_; simp (maxSteps := 1000000) [ty26]; refine hK _ ?_; clear hK K
   (repeat refine ZQ ?_); refine awp_ret ?_; refine And.intro (Or.inr rfl) ?_
   simp [retC, resC, viewC, mapO]
  ·simp [h40] at hd
 ·have h' : ¬ (40 : Int) < L.length := by omega
  have hV : textsE L = if L.all textB = true then 0 else 1 := if_neg h40
  rw [hV]
  refine ZF (fn := Tryz.f31) [.tmp 2] ⟨Tryz.func31, rfl, by kernel_rfl⟩ fun x hx hσ => ?_
  (repeat refine ZQ ?_); refine ZR fun K hK => ?_; simp (maxSteps := 1000000) [ty26]; refine hK _ ?_; clear hK K
  (repeat refine ZQ ?_); refine ZR fun K hK => ?_; simp (maxSteps := 1000000) [ty22, ty3, h']; refine hK _ ?_; clear hK K
  (repeat refine ZQ ?_); refine ZC (hc := by simp [h40]; rfl) (fun hd => ?_) (fun hd => ?_)
  ·simp [h40] at hd
  ·clear hd
   refine awp_skip ?_
   (repeat refine ZQ ?_); refine ZR fun K hK => ?_; simp (maxSteps := 1000000) [ty3]; refine hK _ ?_; clear hK K
   (repeat refine ZQ ?_); refine awp_block ?_
   refine awp_loop (fun i : Nat => ⟨ofL [(0, sT nl fu L), (3, encI i)], stoT []⟩)
    (fun i => i ≤ L.length ∧ ∀ j, (h : j < L.length) → j < i → textB L[j] = true) (fun i => L.length - i) 0 (by simp) ?_ ?_
   ·exact ZW
   ·intro i ⟨hi, hj⟩
    (repeat refine ZQ ?_); refine ZR fun K hK => ?_; simp (maxSteps := 1000000) [ty22, ty3]; refine hK _ ?_; clear hK K
    (repeat refine ZQ ?_); refine ZC (fun hc => ?_) (fun hc => ?_)
    ·simp at hc
     have c := q_isText51 L[i] (hl _ (List.getElem_mem hc))
     have w1 : IntKind.i64.wrap ((i : Int) + 1) = ((i + 1 : Nat) : Int) := by rw [wrap_id (by omega) (by omega)]; rfl
     refine awp_skip ?_
     (repeat refine ZQ ?_); refine awp_block ?_
     (repeat refine ZQ ?_); refine ZR fun K hK => ?_; simp (maxSteps := 1000000) [ty22, ty9, ty4, hc]
     refine ZP (c) ?_; simp (maxSteps := 1000000) [ty4]
     refine hK _ ?_; clear hK K; (first | show AWP _ _ _ _ _ | show ∃ _, _ | skip)
     cases hb : textB L[i]
     ·(repeat refine ZQ ?_); refine ZC (hc := by simp [hb]; rfl) (fun hd => ?_) (fun hd => ?_)
      ·clear hd
       (repeat refine ZQ ?_); refine ZR fun K hK => ?_; simp (maxSteps := 1000000) [ty26]; refine hK _ ?_; clear hK K
       (repeat refine ZQ ?_); refine awp_ret ?_; refine And.intro (Or.inr rfl) ?_
       rw [if_neg (fun e => by have := List.all_eq_true.1 e _ (List.getElem_mem hc); rw [hb] at this; cases this)]
       simp [retC, resC, viewC, mapO]
      ·simp [hb] at hd
     ·(repeat refine ZQ ?_); refine ZC (hc := by simp [hb]; rfl) (fun hd => ?_) (fun hd => ?_)
      ·simp [hb] at hd
      ·clear hd
       refine awp_skip ?_
       (repeat refine ZQ ?_); refine ZR fun K hK => ?_; simp (maxSteps := 1000000) [ty3]; refine hK _ ?_; clear hK K; (first | show AWP _ _ _ _ _ | show ∃ _, _ | skip)
       refine ⟨i + 1, ⟨by omega, fun j h1 h2 => ?_⟩, by omega, ?_⟩
       ·by_cases hji : j = i
        ·subst hji; assumption
        ·exact hj j h1 (by omega)
       ·rw [w1]
        exact ZW
    ·simp at hc
     (repeat refine ZQ ?_); refine awp_exit ?_
     (repeat refine ZQ ?_); refine ZR fun K hK => ?_; simp (maxSteps := 1000000) [ty26]; refine hK _ ?_; clear hK K
     (repeat refine ZQ ?_); refine awp_ret ?_; refine And.intro (Or.inr rfl) ?_
     rw [if_pos (List.all_eq_true.2 fun b hb => by
      obtain ⟨j, h1, rfl⟩ := List.getElem_of_mem hb
      exact hj j h1 (by omega))]
     simp [retC, resC, viewC, mapO]

set_option maxHeartbeats 4000000
set_option maxRecDepth 20000


def longB (L : List (List UInt8)) : Nat := L.foldl (fun n l => max n l.length) 0

theorem q_longest62 (nl fu : Bool) (L : List (List UInt8)) (hn : L.length ≤ 100000) : Pure Tryz.prog 62 [sT nl fu L] (encI (longB L)) := by
 have hsz := fun l => S_size l
 obtain ⟨A, hA⟩ : ∃ A : Nat → Nat, ∀ i, A i = (L.take i).foldl (fun n l => max n l.length) 0 := ⟨_, fun _ => rfl⟩
 have hA0 : A 0 = 0 := by rw [hA]; rfl
 have hAs : ∀ i (hi : i < L.length), A (i + 1) = max (A i) L[i].length := fun i hi => by rw [hA, hA, List.take_succ_eq_append_getElem hi, List.foldl_append]; rfl
 have hAn : longB L = A L.length := by rw [hA, List.take_length]; rfl
 rw [hAn]
 clear hAn hA
 refine ZF (fn := Tryz.f62) [.tmp 2] ⟨Tryz.func62, rfl, by kernel_rfl⟩ fun x hx hσ => ?_
 (repeat refine ZQ ?_); refine ZR fun K hK => ?_; simp (maxSteps := 1000000) [ty3]; refine hK _ ?_; clear hK K
 (repeat refine ZQ ?_); refine ZR fun K hK => ?_; simp (maxSteps := 1000000) [ty3]; refine hK _ ?_; clear hK K
 (repeat refine ZQ ?_); refine ZR fun K hK => ?_; simp (maxSteps := 1000000) [ty3]; refine hK _ ?_; clear hK K
 (repeat refine ZQ ?_); refine awp_block ?_
 refine awp_loop (fun i : Nat => ⟨ofL [(0, sT nl fu L), (3, encI (A i)), (4, encI i)], stoT []⟩)
  (fun i => i ≤ L.length) (fun i => L.length - i) 0 (Nat.zero_le _) ?_ ?_
 ·rw [hA0]
  exact ZW
 ·intro i hi
  (repeat refine ZQ ?_); refine ZR fun K hK => ?_; simp (maxSteps := 1000000) [ty22, ty3]; refine hK _ ?_; clear hK K
  (repeat refine ZQ ?_); refine ZC (fun hc => ?_) (fun hc => ?_)
  ·simp at hc
   have hst := hAs i hc
   have w1 : IntKind.i64.wrap ((i : Int) + 1) = ((i + 1 : Nat) : Int) := by rw [wrap_id (by omega) (by omega)]; rfl
   have hmx : (if (A i : Int) < (L[i].length : Int) then (L[i].length : Int) else (A i : Int)) = ((max (A i) L[i].length : Nat) : Int) := by split <;> omega
   refine awp_skip ?_
   (repeat refine ZQ ?_); refine awp_block ?_
   (repeat refine ZQ ?_); refine ZR fun K hK => ?_; simp (maxSteps := 1000000) [ty22, ty9, ty3, hc, hsz, hmx]; refine hK _ ?_; clear hK K
   (repeat refine ZQ ?_); refine ZR fun K hK => ?_; simp (maxSteps := 1000000) [ty3]; refine hK _ ?_; clear hK K; (first | show AWP _ _ _ _ _ | show ∃ _, _ | skip)
   refine ⟨i + 1, by omega, by omega, ?_⟩
   rw [hst, w1]
   exact ZW
  ·simp at hc
   (repeat refine ZQ ?_); refine awp_exit ?_; (first | show AWP _ _ _ _ _ | show ∃ _, _ | skip)
   have hin : i = L.length := by omega
   rw [hin]
   (repeat refine ZQ ?_); refine ZR fun K hK => ?_; simp (maxSteps := 1000000) [ty3]; refine hK _ ?_; clear hK K
   (repeat refine ZQ ?_); refine awp_ret ?_; refine And.intro (Or.inr rfl) ?_
   simp [retC, resC, viewC, mapO]

def rowB (t : List UInt8) (wide : Nat) : List UInt8 := twoB t.length ++ t ++ List.replicate (wide - t.length) 32

theorem q_row63 (t : List UInt8) (wide : Nat) (h1 : t.length ≤ wide) (h2 : wide < 100) : Pure Tryz.prog 63 [encS t, encI wide] (encS (rowB t wide)) := by
 have hsz := fun l => S_size l
 have c := q_two79 t.length (by omega)
 have ha0 := str_add (a := twoB t.length) (b := t) (by simp [twoB]; omega)
 obtain ⟨A, hA⟩ : ∃ A : Nat → List UInt8, ∀ j, A j = twoB t.length ++ t ++ List.replicate j 32 := ⟨_, fun _ => rfl⟩
 have hA0 : twoB t.length ++ t = A 0 := by rw [hA]; simp
 have hAl : ∀ j, (A j).length = t.length + 2 + j := fun j => by rw [hA]; simp [twoB]; omega
 have hAs : ∀ j, A (j + 1) = A j ++ [32] := fun j => by rw [hA, hA, List.replicate_succ', ← List.append_assoc]
 have hAn : rowB t wide = A (wide - t.length) := by rw [hA]; rfl
 rw [hA0] at ha0
 rw [hAn]
 clear hAn hA hA0
 generalize twoB t.length = tw at *
 have w1 : IntKind.i64.wrap ((wide : Int) + 2) = (wide : Int) + 2 := wrap_id (by omega) (by omega)
 refine ZF (fn := Tryz.f63) [.tmp 4] ⟨Tryz.func63, rfl, by kernel_rfl⟩ fun x hx hσ => ?_
 (repeat refine ZQ ?_); refine ZR fun K hK => ?_; simp (maxSteps := 1000000) [ty9]; refine hK _ ?_; clear hK K
 (repeat refine ZQ ?_); refine ZR fun K hK => ?_; simp (maxSteps := 1000000) [ty9, ty3, hsz]
 refine ZP (c) ?_; simp (maxSteps := 1000000) [ty9, ha0, -strBin]
 refine hK _ ?_; clear hK K
 (repeat refine ZQ ?_); refine awp_block ?_
 refine awp_loop (fun j : Nat => ⟨ofL [(1, encI wide), (5, encS (A j))], stoT []⟩)
  (fun j => j ≤ wide - t.length) (fun j => wide - t.length - j) 0 (Nat.zero_le _) ?_ ?_
 ·exact ZW
 ·intro j hj
  have hl := hAl j
  by_cases hc : j < wide - t.length
  ·have hlt : ((A j).length : Int) < (wide : Int) + 2 := by omega
   have ha := str_add (a := A j) (b := [32]) (by simp; omega)
   rw [← hAs] at ha
   (repeat refine ZQ ?_); refine ZR fun K hK => ?_; simp (maxSteps := 1000000) [ty9, ty3, hsz, w1, hlt]; refine hK _ ?_; clear hK K
   (repeat refine ZQ ?_); refine ZC (hc := by simp [hlt]; rfl) (fun hd => ?_) (fun hd => ?_)
   ·clear hd
    refine awp_skip ?_
    (repeat refine ZQ ?_); refine awp_block ?_
    (repeat refine ZQ ?_); refine ZR fun K hK => ?_; simp (maxSteps := 1000000) [ty9, ha, -strBin]; refine hK _ ?_; clear hK K; (first | show AWP _ _ _ _ _ | show ∃ _, _ | skip)
    refine ⟨j + 1, by omega, by omega, ?_⟩
    exact ZW
   ·simp [hlt] at hd
  ·have hlt : ¬ ((A j).length : Int) < (wide : Int) + 2 := by omega
   (repeat refine ZQ ?_); refine ZR fun K hK => ?_; simp (maxSteps := 1000000) [ty9, ty3, hsz, w1, hlt]; refine hK _ ?_; clear hK K
   (repeat refine ZQ ?_); refine ZC (hc := by simp [hlt]; rfl) (fun hd => ?_) (fun hd => ?_)
   ·simp [hlt] at hd
   ·clear hd
    (repeat refine ZQ ?_); refine awp_exit ?_; (first | show AWP _ _ _ _ _ | show ∃ _, _ | skip)
    have hjn : j = wide - t.length := by omega
    rw [hjn]
    (repeat refine ZQ ?_); refine ZR fun K hK => ?_; simp (maxSteps := 1000000) [ty9]; refine hK _ ?_; clear hK K
    (repeat refine ZQ ?_); refine awp_ret ?_; refine And.intro (Or.inr rfl) ?_
    simp [retC, resC, viewC, mapO]

def headB (b : UInt8) (many : Nat) (row : List UInt8) : List UInt8 := [b, UInt8.ofNat (48 + many)] ++ row
def cardB (b : UInt8) (many : Nat) (row : List UInt8) : List UInt8 := headB b many row ++ checkB (headB b many row)

theorem q_card64 (b : UInt8) (many : Nat) (row : List UInt8) (hb : b.toNat < 128) (hm : many < 10) (hr : row.length ≤ 1000) (h0 : 0 ≤ sumB (headB b many row) 0) :
  Pure Tryz.prog 64 [.int .u8 (b.toNat : Int), encI many, encS row] (encS (cardB b many row)) := by
 have hhl : (headB b many row).length = row.length + 2 := by simp [headB]
 have c := q_check47 (headB b many row) (by omega) h0
 have w1 : IntKind.i32.wrap (b.toNat : Int) = b.toNat := wrap_i32 (by omega) (by omega)
 have w2 : IntKind.i64.wrap (48 + (many : Int)) = 48 + many := wrap_id (by omega) (by omega)
 have w3 : IntKind.i32.wrap (48 + (many : Int)) = 48 + many := wrap_i32 (by omega) (by omega)
 have e1 : Utf8.encode (b.toNat : Int) = S [b] := by rw [enc_ascii hb]; simp
 have e2 : Utf8.encode (48 + (many : Int)) = S [UInt8.ofNat (48 + many)] := by rw [← enc_ascii (by omega)]; rfl
 have a1 := str_add (a := [b]) (b := [UInt8.ofNat (48 + many)]) (by simp)
 have a2 := str_add (a := [b] ++ [UInt8.ofNat (48 + many)]) (b := row) (by simp; omega)
 have hh : [b] ++ [UInt8.ofNat (48 + many)] ++ row = headB b many row := rfl
 have hck : (checkB (headB b many row)).length = 2 := rfl
 have a3 := str_add (a := headB b many row) (b := checkB (headB b many row)) (by omega)
 have hV : cardB b many row = headB b many row ++ checkB (headB b many row) := rfl
 rw [hh] at a2
 rw [hV]
 generalize headB b many row = H at *
 generalize checkB H = K at *
 generalize hx2 : [b] ++ [UInt8.ofNat (48 + many)] = X at *
 generalize UInt8.ofNat (48 + many) = y at *
 refine ZF (fn := Tryz.f64) [.tmp 6] ⟨Tryz.func64, rfl, by kernel_rfl⟩ fun x hx hσ => ?_
 (repeat refine ZQ ?_); refine ZR fun K hK => ?_; simp (maxSteps := 1000000) [ty9]; refine hK _ ?_; clear hK K
 (repeat refine ZQ ?_); refine ZR fun K hK => ?_; simp (maxSteps := 1000000) [ty5, ty21, ty9, ty3, w1, w2, w3, e1, e2, a1, a2, -strBin]; refine hK _ ?_; clear hK K
 (repeat refine ZQ ?_); refine ZR fun K hK => ?_; simp (maxSteps := 1000000) [ty9]
 refine ZP (c) ?_; simp (maxSteps := 1000000) [ty9, a3, -strBin]
 refine hK _ ?_; clear hK K
 (repeat refine ZQ ?_); refine awp_ret ?_; refine And.intro (Or.inr rfl) ?_
 simp [retC, resC, viewC, mapO]

set_option maxHeartbeats 8000000
set_option maxRecDepth 20000


def atB (R : List (List UInt8)) (i k : Nat) : UInt8 := (R.getD i []).getD k 0
def wgt (wt : Bool) (i : Nat) : Int := if wt then (i : Int) + 1 else 1
def colS (R : List (List UInt8)) (wt : Bool) (k : Nat) : Nat → Int
 | 0 => 0
 | i + 1 => colS R wt k i + valB (atB R i k) * wgt wt i
def sumsTo (R : List (List UInt8)) (wt : Bool) : Nat → List UInt8
 | 0 => []
 | k + 1 => sumsTo R wt k ++ twoB (colS R wt k R.length % 97).toNat
def sumsB (R : List (List UInt8)) (wt : Bool) : List UInt8 := sumsTo R wt (R.headD []).length

theorem sumsTo_len (R : List (List UInt8)) (wt : Bool) : ∀ k, (sumsTo R wt k).length = 2 * k
 | 0 => rfl
 | k + 1 => by simp only [sumsTo, List.length_append, sumsTo_len R wt k]; simp [twoB]; omega

structure RowsOk14 (R : List (List UInt8)) (n : Nat) : Prop where
 many : 0 < R.length ∧ R.length ≤ 50
 wide : n ≤ 1000
 len : ∀ r ∈ R, r.length = n
 val : ∀ r ∈ R, plainB r = true

theorem at_val {R : List (List UInt8)} {n : Nat} (h : RowsOk14 R n) {i k : Nat} (hi : i < R.length) (hk : k < n) :
  ∃ hk' : k < R[i].length, atB R i k = R[i][k] ∧ 0 ≤ valB (atB R i k) ∧ valB (atB R i k) ≤ 94 := by
 have hl := h.len _ (List.getElem_mem hi)
 have hk' : k < R[i].length := by omega
 have e : atB R i k = R[i][k] := by
  unfold atB
  simp [List.getD_eq_getElem?_getD, List.getElem?_eq_getElem hi, List.getElem?_eq_getElem hk']
 have hp := List.all_eq_true.1 (h.val _ (List.getElem_mem hi)) _ (List.getElem_mem hk')
 simp only [Bool.and_eq_true, decide_eq_true_eq] at hp
 refine ⟨hk', e, ?_, ?_⟩ <;> rw [e] <;> unfold valB <;> omega

theorem col_bd {R : List (List UInt8)} {n : Nat} (h : RowsOk14 R n) (wt : Bool) {k : Nat} (hk : k < n) : ∀ i, i ≤ R.length → 0 ≤ colS R wt k i ∧ colS R wt k i ≤ 10000 * i
 | 0, _ => by simp [colS]
 | i + 1, hi => by
  obtain ⟨_, _, h1, h2⟩ := at_val h (by omega : i < R.length) hk
  have ih := col_bd h wt hk i (by omega)
  have hm := h.many.2
  have hw : 1 ≤ wgt wt i ∧ wgt wt i ≤ 51 := by unfold wgt; split <;> omega
  have a1 : valB (atB R i k) * wgt wt i ≤ 94 * wgt wt i := Int.mul_le_mul_of_nonneg_right h2 (by omega)
  have a2 : 0 ≤ valB (atB R i k) * wgt wt i := Int.mul_nonneg h1 (by omega)
  simp only [colS]
  omega

theorem q_sums65 (nl fu wt : Bool) (R : List (List UInt8)) (n : Nat) (h : RowsOk14 R n) : Pure Tryz.prog 65 [sT nl fu R, .bool wt] (encS (sumsB R wt)) := by
 have hsz := fun l => S_size l
 have hpos : 0 < R.length := h.many.1
 have hr0 : R[0].length = n := h.len _ (List.getElem_mem _)
 have hnil : ¬ R = [] := by rintro e; rw [e] at hpos; simp at hpos
 have hm := h.many.2
 have hwd := h.wide
 have hV : sumsB R wt = sumsTo R wt n := by
  unfold sumsB
  have e : R.headD [] = R[0] := by cases R with
   | nil => exact absurd rfl hnil
   | cons a b => rfl
  rw [e, hr0]
 rw [hV]
 have hsl := sumsTo_len R wt
 have hst0 : sumsTo R wt 0 = [] := rfl
 have hsts : ∀ k, sumsTo R wt (k + 1) = sumsTo R wt k ++ twoB (colS R wt k R.length % 97).toNat := fun k => rfl
 have hcs : ∀ k i, colS R wt k (i + 1) = colS R wt k i + valB (atB R i k) * wgt wt i := fun k i => rfl
 have hc0 : ∀ k, colS R wt k 0 = 0 := fun k => rfl
 have hcb := fun k (hk : k < n) i (hi : i ≤ R.length) => col_bd h wt hk i hi
 have hav := fun i k (hi : i < R.length) (hk : k < n) => at_val h hi hk
 clear hV
 generalize sumsTo R wt = T at *
 generalize colS R wt = K at *
 refine ZF (fn := Tryz.f65) [.tmp 4] ⟨Tryz.func65, rfl, by kernel_rfl⟩ fun x hx hσ => ?_
 (repeat refine ZQ ?_); refine ZR fun K hK => ?_; simp (maxSteps := 1000000) [ty9]; refine hK _ ?_; clear hK K
 (repeat refine ZQ ?_); refine ZR fun K hK => ?_; simp (maxSteps := 1000000) [ty9]; refine hK _ ?_; clear hK K
 (repeat refine ZQ ?_); refine ZR fun K hK => ?_; simp (maxSteps := 1000000) [ty3]; refine hK _ ?_; clear hK K
 (repeat refine ZQ ?_); refine awp_block ?_
 refine awp_loop (fun k : Nat => ⟨ofL [(0, sT nl fu R), (1, .bool wt), (5, encS (T k)), (6, encI k)], stoT []⟩)
  (fun k => k ≤ n) (fun k => n - k) 0 (Nat.zero_le _) ?_ ?_
 ·rw [hst0]
  exact ZW
 ·intro k hk
  by_cases hkn : k < n
  ·have hkl : k < R[0].length := by omega
   (repeat refine ZQ ?_); refine ZR fun K hK => ?_; simp (maxSteps := 1000000) [ty22, ty9, ty3, hpos, hnil, hsz, hkl]; refine hK _ ?_; clear hK K
   (repeat refine ZQ ?_); refine ZC (hc := by simp [hkl]; rfl) (fun hd => ?_) (fun hd => ?_)
   ·clear hd
    refine awp_skip ?_
    (repeat refine ZQ ?_); refine awp_block ?_
    (repeat refine ZQ ?_); refine ZR fun K hK => ?_; simp (maxSteps := 1000000) [ty3]; refine hK _ ?_; clear hK K
    (repeat refine ZQ ?_); refine ZR fun K hK => ?_; simp (maxSteps := 1000000) [ty3]; refine hK _ ?_; clear hK K
    (repeat refine ZQ ?_); refine awp_block ?_
    have hKb := hcb k hkn
    have hK0 := hc0 k
    have hKs := hcs k
    have hTs := hsts k
    have hTl := hsl k
    generalize K k = F at *
    have w9 : IntKind.i64.wrap ((k : Int) + 1) = ((k + 1 : Nat) : Int) := by rw [wrap_id (by omega) (by omega)]; rfl
    refine awp_loop (fun i : Nat => ⟨ofL [(0, sT nl fu R), (1, .bool wt), (5, encS (T k)), (6, encI k), (7, encI (F i)), (8, encI i)], stoT []⟩)
     (fun i => i ≤ R.length) (fun i => R.length - i) 0 (Nat.zero_le _) ?_ ?_
    ·rw [hK0]
     exact ZW
    ·intro i hi
     (repeat refine ZQ ?_); refine ZR fun K hK => ?_; simp (maxSteps := 1000000) [ty22, ty3]; refine hK _ ?_; clear hK K
     (repeat refine ZQ ?_); refine ZC (fun hc => ?_) (fun hc => ?_)
     ·simp at hc
      obtain ⟨hk', hat, hv0, hv1⟩ := hav i k hc hkn
      have hg := S_at hk'
      have cv := q_value78 (R[i][k])
      rw [← hat] at cv hg
      have hKi := hKb i (by omega)
      have hst := hKs i
      generalize atB R i k = bt at *
      have hbt : bt.toNat < 256 := bt.toNat_lt
      generalize valB bt = z at *
      have w1 : IntKind.i64.wrap ((i : Int) + 1) = (i : Int) + 1 := wrap_id (by omega) (by omega)
      have w4 : ((i + 1 : Nat) : Int) = (i : Int) + 1 := rfl
      refine awp_skip ?_
      (repeat refine ZQ ?_); refine awp_block ?_
      (repeat refine ZQ ?_); refine ZR fun K hK => ?_; simp (maxSteps := 1000000) [ty4]; refine hK _ ?_; clear hK K; (first | show AWP _ _ _ _ _ | show ∃ _, _ | skip)
      cases wt
      ·have hw : wgt false i = 1 := rfl
       rw [hw, Int.mul_one] at hst
       have w3 : IntKind.i64.wrap (F i + z) = F i + z := wrap_id (by omega) (by omega)
       (repeat refine ZQ ?_); refine ZC (fun hd => ?_) (fun hd => ?_)
       ·simp at hd
       ·clear hd
        (repeat refine ZQ ?_); refine ZR fun K hK => ?_; simp (maxSteps := 1000000) [ty22, ty9, ty3, ty5, hc, hg]
        refine ZP (cv) ?_; simp (maxSteps := 1000000) [ty3, w3]
        refine hK _ ?_; clear hK K
        (repeat refine ZQ ?_); refine ZR fun K hK => ?_; simp (maxSteps := 1000000) [ty3, w1]; refine hK _ ?_; clear hK K; (first | show AWP _ _ _ _ _ | show ∃ _, _ | skip)
        refine ⟨i + 1, by omega, by omega, ?_⟩
        rw [hst, w4]
        exact ZW
      ·have hw : wgt true i = (i : Int) + 1 := rfl
       rw [hw] at hst
       have m1 : z * ((i : Int) + 1) ≤ 94 * ((i : Int) + 1) := Int.mul_le_mul_of_nonneg_right hv1 (by omega)
       have m2 : 0 ≤ z * ((i : Int) + 1) := Int.mul_nonneg hv0 (by omega)
       have w2 : IntKind.i64.wrap (z * ((i : Int) + 1)) = z * ((i : Int) + 1) := wrap_id (by omega) (by omega)
       have w3 : IntKind.i64.wrap (F i + z * ((i : Int) + 1)) = F i + z * ((i : Int) + 1) := wrap_id (by omega) (by omega)
       (repeat refine ZQ ?_); refine ZC (fun hd => ?_) (fun hd => ?_)
       ·clear hd
        (repeat refine ZQ ?_); refine ZR fun K hK => ?_; simp (maxSteps := 1000000) [ty22, ty9, ty3, ty5, hc, hg, w1]
        refine ZP (cv) ?_; simp (maxSteps := 1000000) [ty3, w1, w2, w3]
        refine hK _ ?_; clear hK K
        (repeat refine ZQ ?_); refine ZR fun K hK => ?_; simp (maxSteps := 1000000) [ty3, w1]; refine hK _ ?_; clear hK K; (first | show AWP _ _ _ _ _ | show ∃ _, _ | skip)
        refine ⟨i + 1, by omega, by omega, ?_⟩
        rw [hst, w4]
        exact ZW
       ·simp at hd
     ·simp at hc
      (repeat refine ZQ ?_); refine awp_exit ?_; (first | show AWP _ _ _ _ _ | show ∃ _, _ | skip)
      have hin : i = R.length := by omega
      subst hin
      have hKi := hKb R.length (Nat.le_refl _)
      obtain ⟨m, hmm⟩ : ∃ m : Nat, F R.length = m := ⟨(F R.length).toNat, by omega⟩
      rw [hmm] at hTs
      have r1 : Int.tmod (m : Int) 97 = ((m % 97 : Nat) : Int) := rfl
      have r2 : ((m : Int) % 97).toNat = m % 97 := by omega
      have hlt : m % 97 < 97 := Nat.mod_lt _ (by decide)
      rw [r2] at hTs
      rw [hmm]
      generalize m % 97 = q at *
      have w0 : IntKind.i64.wrap (q : Int) = q := wrap_id (by omega) (by omega)
      have c2 := q_two79 q (by omega)
      have ha := str_add (a := T k) (b := twoB q) (by rw [hTl]; simp [twoB]; omega)
      rw [← hTs] at ha
      generalize twoB q = tq at *
      (repeat refine ZQ ?_); refine ZR fun K hK => ?_; simp (maxSteps := 1000000) [ty3, ty9, r1, w0]
      refine ZP (c2) ?_; simp (maxSteps := 1000000) [ty9, ha, -strBin]
      refine hK _ ?_; clear hK K
      (repeat refine ZQ ?_); refine ZR fun K hK => ?_; simp (maxSteps := 1000000) [ty3, w9]; refine hK _ ?_; clear hK K; (first | show AWP _ _ _ _ _ | show ∃ _, _ | skip)
      refine ⟨k + 1, by omega, by omega, ?_⟩
      exact ZW
   ·simp [hkl] at hd
  ·have hkl : ¬ k < R[0].length := by omega
   (repeat refine ZQ ?_); refine ZR fun K hK => ?_; simp (maxSteps := 1000000) [ty22, ty9, ty3, hpos, hnil, hsz, hkl]; refine hK _ ?_; clear hK K
   (repeat refine ZQ ?_); refine ZC (hc := by simp [hkl]; rfl) (fun hd => ?_) (fun hd => ?_)
   ·simp [hkl] at hd
   ·clear hd
    (repeat refine ZQ ?_); refine awp_exit ?_; (first | show AWP _ _ _ _ _ | show ∃ _, _ | skip)
    have hkk : k = n := by omega
    rw [hkk]
    (repeat refine ZQ ?_); refine ZR fun K hK => ?_; simp (maxSteps := 1000000) [ty9]; refine hK _ ?_; clear hK K
    (repeat refine ZQ ?_); refine awp_ret ?_; refine And.intro (Or.inr rfl) ?_
    simp [retC, resC, viewC, mapO]

set_option maxHeartbeats 8000000
set_option maxRecDepth 20000


structure Pk where
 nl : Bool
 fu : Bool
 l : List (List UInt8)
@[simp] abbrev cPk (p : Pk) : List C := [sT p.nl p.fu p.l]
@[simp] abbrev sPk (nl fu : Bool) (P : List Pk) : C := .sl nl fu (P.map cPk)

def lineB (l : List UInt8) : List UInt8 := l ++ [10]
def packB (p : Pk) : List UInt8 := p.l.flatMap lineB ++ [10]
def writtenB (P : List Pk) : List UInt8 := P.flatMap packB

theorem flat_len {α : Type} (f : α → List UInt8) : ∀ (L : List α) (i : Nat), ((L.take i).flatMap f).length ≤ (L.flatMap f).length
 | [], i => by simp
 | a :: L, 0 => by simp
 | a :: L, i + 1 => by
  have := flat_len f L i
  simp only [List.take_succ_cons, List.flatMap_cons, List.length_append]
  omega
theorem flat_many {α : Type} (f : α → List UInt8) (hf : ∀ a, 1 ≤ (f a).length) : ∀ (L : List α), L.length ≤ (L.flatMap f).length
 | [] => by simp
 | a :: L => by
  have := flat_many f hf L
  have := hf a
  simp only [List.flatMap_cons, List.length_append, List.length_cons]
  omega

theorem q_written24 (nl fu : Bool) (P : List Pk) (hn : (writtenB P).length ≤ 100000) : Pure Tryz.prog 24 [sPk nl fu P] (encS (writtenB P)) := by
 have hsz := fun l => S_size l
 obtain ⟨A, hA⟩ : ∃ A : Nat → List UInt8, ∀ k, A k = (P.take k).flatMap packB := ⟨_, fun _ => rfl⟩
 have hA0 : A 0 = [] := by rw [hA]; rfl
 have hAs : ∀ k (hk : k < P.length), A (k + 1) = A k ++ packB P[k] := fun k hk => by rw [hA, hA, List.take_succ_eq_append_getElem hk, List.flatMap_append]; simp
 have hAl : ∀ k, (A k).length ≤ 100000 := fun k => by rw [hA]; exact Nat.le_trans (flat_len _ _ _) hn
 have hPl : P.length ≤ 100000 := Nat.le_trans (flat_many packB (fun p => by simp [packB]) P) hn
 have hAn : writtenB P = A P.length := by rw [hA, List.take_length]; rfl
 rw [hAn]
 clear hAn hA hn
 refine ZF (fn := Tryz.f24) [.tmp 2] ⟨Tryz.func24, rfl, by kernel_rfl⟩ fun x hx hσ => ?_
 (repeat refine ZQ ?_); refine ZR fun K hK => ?_; simp (maxSteps := 1000000) [ty9]; refine hK _ ?_; clear hK K
 (repeat refine ZQ ?_); refine ZR fun K hK => ?_; simp (maxSteps := 1000000) [ty9]; refine hK _ ?_; clear hK K
 (repeat refine ZQ ?_); refine ZR fun K hK => ?_; simp (maxSteps := 1000000) [ty3]; refine hK _ ?_; clear hK K
 (repeat refine ZQ ?_); refine awp_block ?_
 refine awp_loop (fun k : Nat => ⟨ofL [(0, sPk nl fu P), (3, encS (A k)), (4, encI k)], stoT []⟩)
  (fun k => k ≤ P.length) (fun k => P.length - k) 0 (Nat.zero_le _) ?_ ?_
 ·rw [hA0]
  exact ZW
 ·intro k hk
  (repeat refine ZQ ?_); refine ZR fun K hK => ?_; simp (maxSteps := 1000000) [ty42, ty3]; refine hK _ ?_; clear hK K
  (repeat refine ZQ ?_); refine ZC (fun hc => ?_) (fun hc => ?_)
  ·simp at hc
   have hst := hAs k hc
   have hl1 := hAl (k + 1)
   have w9 : IntKind.i64.wrap ((k : Int) + 1) = ((k + 1 : Nat) : Int) := by rw [wrap_id (by omega) (by omega)]; rfl
   obtain ⟨B, hB⟩ : ∃ B : Nat → List UInt8, ∀ i, B i = A k ++ (P[k].l.take i).flatMap lineB := ⟨_, fun _ => rfl⟩
   have hB0 : B 0 = A k := by rw [hB]; simp
   have hBs : ∀ i (hi : i < P[k].l.length), B (i + 1) = B i ++ (P[k].l[i] ++ [10]) := fun i hi => by
    rw [hB, hB, List.take_succ_eq_append_getElem hi, List.flatMap_append, ← List.append_assoc]
    simp [lineB]
   have hBn : A (k + 1) = B P[k].l.length ++ [10] := by rw [hst, hB, List.take_length]; simp [packB]
   have hBl : ∀ i, (B i).length ≤ 100000 := fun i => by
    have h1 := flat_len lineB P[k].l i
    rw [hst] at hl1
    rw [hB]
    simp only [packB, List.length_append] at hl1 ⊢
    omega
   have hml : P[k].l.length ≤ 100000 := by
    have h1 := flat_many lineB (fun l => by simp [lineB]) P[k].l
    rw [hst] at hl1
    simp only [packB, List.length_append] at hl1
    omega
   clear hB
   refine awp_skip ?_
   (repeat refine ZQ ?_); refine awp_block ?_
   (repeat refine ZQ ?_); refine ZR fun K hK => ?_; simp (maxSteps := 1000000) [ty3]; refine hK _ ?_; clear hK K
   (repeat refine ZQ ?_); refine awp_block ?_
   refine awp_loop (fun i : Nat => ⟨ofL [(0, sPk nl fu P), (3, encS (B i)), (4, encI k), (5, encI i)], stoT []⟩)
    (fun i => i ≤ P[k].l.length) (fun i => P[k].l.length - i) 0 (Nat.zero_le _) ?_ ?_
   ·rw [hB0]
    exact ZW
   ·intro i hi
    (repeat refine ZQ ?_); refine ZR fun K hK => ?_; simp (maxSteps := 1000000) [ty42, ty22, ty3, hc]; refine hK _ ?_; clear hK K
    (repeat refine ZQ ?_); refine ZC (fun hd => ?_) (fun hd => ?_)
    ·simp at hd
     have hbs := hBs i hd
     have hb0 := hBl i
     have hb1 := hBl (i + 1)
     have w1 : IntKind.i64.wrap ((i : Int) + 1) = ((i + 1 : Nat) : Int) := by rw [wrap_id (by omega) (by omega)]; rfl
     have h2 : (P[k].l[i]).length + 1 ≤ 100000 := by rw [hbs] at hb1; simp at hb1; omega
     have a1 := str_add (a := P[k].l[i]) (b := [10]) (by simp; omega)
     have a2 := str_add (a := B i) (b := P[k].l[i] ++ [10]) (by simp; omega)
     rw [← hbs] at a2
     refine awp_skip ?_
     (repeat refine ZQ ?_); refine awp_block ?_
     (repeat refine ZQ ?_); refine ZR fun K hK => ?_; simp (maxSteps := 1000000) [ty42, ty22, ty9, ty3, hc, hd, a1, a2, -strBin]; refine hK _ ?_; clear hK K
     (repeat refine ZQ ?_); refine ZR fun K hK => ?_; simp (maxSteps := 1000000) [ty3]; refine hK _ ?_; clear hK K; (first | show AWP _ _ _ _ _ | show ∃ _, _ | skip)
     refine ⟨i + 1, by omega, by omega, ?_⟩
     rw [w1]
     exact ZW
    ·simp at hd
     (repeat refine ZQ ?_); refine awp_exit ?_; (first | show AWP _ _ _ _ _ | show ∃ _, _ | skip)
     have hin : i = P[k].l.length := by omega
     have a3 := str_add (a := B P[k].l.length) (b := [10]) (by have := hBl P[k].l.length; simp; omega)
     rw [← hBn] at a3
     rw [hin]
     (repeat refine ZQ ?_); refine ZR fun K hK => ?_; simp (maxSteps := 1000000) [ty9, a3, -strBin]; refine hK _ ?_; clear hK K
     (repeat refine ZQ ?_); refine ZR fun K hK => ?_; simp (maxSteps := 1000000) [ty3]; refine hK _ ?_; clear hK K; (first | show AWP _ _ _ _ _ | show ∃ _, _ | skip)
     refine ⟨k + 1, by omega, by omega, ?_⟩
     rw [w9]
     exact ZW
  ·simp at hc
   (repeat refine ZQ ?_); refine awp_exit ?_; (first | show AWP _ _ _ _ _ | show ∃ _, _ | skip)
   have hkn : k = P.length := by omega
   rw [hkn]
   (repeat refine ZQ ?_); refine ZR fun K hK => ?_; simp (maxSteps := 1000000) [ty9]; refine hK _ ?_; clear hK K
   (repeat refine ZQ ?_); refine awp_ret ?_; refine And.intro (Or.inr rfl) ?_
   simp [retC, resC, viewC, mapO]

set_option maxHeartbeats 8000000
set_option maxRecDepth 20000


def pkAt (nl fu : Bool) (L : List (List UInt8)) (k : Nat) : Pk := ⟨nl, fu && min L.length (8 * k + 8) == L.length, (L.drop (8 * k)).take (min L.length (8 * k + 8) - 8 * k)⟩
def packsN (nl fu : Bool) (L : List (List UInt8)) (k : Nat) : List Pk := (List.range k).map (pkAt nl fu L)
def packsB (nl fu : Bool) (L : List (List UInt8)) : List Pk := packsN nl fu L ((L.length + 7) / 8)

theorem q_packs21 (nl fu : Bool) (L : List (List UInt8)) (hn : L.length ≤ 100000) : Pure Tryz.prog 21 [sT nl fu L] (.sl L.isEmpty false ((packsB nl fu L).map cPk)) := by
 obtain ⟨N, hN⟩ : ∃ N, (L.length + 7) / 8 = N := ⟨_, rfl⟩
 obtain ⟨A, hA⟩ : ∃ A : Nat → List Pk, ∀ k, A k = packsN nl fu L k := ⟨_, fun _ => rfl⟩
 have hA0 : A 0 = [] := by rw [hA]; rfl
 have hAl : ∀ k, (A k).length = k := fun k => by rw [hA]; simp [packsN]
 have hAs : ∀ k, A (k + 1) = A k ++ [pkAt nl fu L k] := fun k => by rw [hA, hA]; simp [packsN, List.range_succ]
 have hAn : packsB nl fu L = A N := by rw [hA, ← hN]; rfl
 have hem : (A N).isEmpty = L.isEmpty := by
  have := hAl N
  cases h1 : A N <;> cases h2 : L <;> rw [h1] at this <;> rw [h2] at hN <;> simp at this hN ⊢ <;> omega
 rw [hAn]
 clear hAn hA
 refine ZF (fn := Tryz.f21) [.tmp 2] ⟨Tryz.func21, rfl, by kernel_rfl⟩ fun x hx hσ => ?_
 (repeat refine ZQ ?_); refine ZR fun K hK => ?_; simp (maxSteps := 1000000) [ty42]; refine hK _ ?_; clear hK K
 (repeat refine ZQ ?_); refine ZR fun K hK => ?_; simp (maxSteps := 1000000) [ty42]; refine hK _ ?_; clear hK K
 (repeat refine ZQ ?_); refine ZR fun K hK => ?_; simp (maxSteps := 1000000) [ty3]; refine hK _ ?_; clear hK K
 (repeat refine ZQ ?_); refine awp_block ?_
 refine AWP.weak ?_ (wk_nil 3 3 1 (fu := true) (by simp) (by simp))
 refine awp_loop (fun k : Nat => ⟨ofL [(0, sT nl fu L), (3, .own 3 1 0 k), (4, encI (8 * k : Nat))], stoT [(3, 3, .live ⟨(A k).isEmpty, false, 1, (A k).map cPk⟩)]⟩)
  (fun k => k ≤ N) (fun k => N - k) 0 (Nat.zero_le _) ?_ ?_
 ·rw [hA0]
  exact ZW
 ·intro k hk
  have hlk := hAl k
  by_cases hc : 8 * k < L.length
  ·have hkN : k < N := by omega
   have hst := hAs k
   have w1 : IntKind.i64.wrap ((8 * k : Nat) : Int) = (8 * k : Nat) := wrap_id (by omega) (by omega)
   have w2 : IntKind.i64.wrap (((8 * k : Nat) : Int) + 8) = ((8 * (k + 1) : Nat) : Int) := by rw [wrap_id (by omega) (by omega)]; omega
   obtain ⟨p, hp⟩ : ∃ p : Nat, min L.length (8 * k + 8) = p := ⟨_, rfl⟩
   have hmn : (if 8 * (k + 1) < L.length then ((8 * (k + 1) : Nat) : Int) else (L.length : Int)) = (p : Int) := by split <;> omega
   have hpk : pkAt nl fu L k = ⟨nl, fu && p == L.length, (L.drop (8 * k)).take (p - 8 * k)⟩ := by unfold pkAt; rw [hp]
   rw [hpk] at hst
   have hp1 : 8 * k ≤ p := by omega
   have hp2 : p ≤ L.length := by omega
   have hci : ((8 * k : Nat) : Int) < (L.length : Int) := by omega
   generalize A k = acc at *
   obtain ⟨q, hq⟩ : ∃ q : Nat, 8 * k = q := ⟨_, rfl⟩
   obtain ⟨q2, hq2⟩ : ∃ q2 : Nat, 8 * (k + 1) = q2 := ⟨_, rfl⟩
   simp only [hq, hq2] at hst w1 w2 hmn hp1 hci ⊢
   (repeat refine ZQ ?_); refine ZR fun K hK => ?_; simp (maxSteps := 1000000) [ty22, ty3, hci]; refine hK _ ?_; clear hK K
   (repeat refine ZQ ?_); refine ZC (hc := by simp [hci]; rfl) (fun hd => ?_) (fun hd => ?_)
   ·clear hd
    refine awp_skip ?_
    (repeat refine ZQ ?_); refine awp_block ?_
    (repeat refine ZQ ?_); refine ZR fun K hK => ?_; simp (maxSteps := 1000000) [ty22, ty3, ty42, ty9, w1, w2, hmn, hp1, hp2]
    refine ⟨by omega, ?_⟩
    refine hK _ ?_; clear hK K
    (repeat refine ZQ ?_); refine ZR fun K hK => ?_; simp (maxSteps := 1000000) [ty3, w2]; refine hK _ ?_; clear hK K; (first | show AWP _ _ _ _ _ | show ∃ _, _ | skip)
    refine ⟨k + 1, by omega, by omega, ?_⟩
    rw [hst]
    refine wk_shape2 [(3, 21, .live ⟨(acc ++ [(⟨nl, fu && p == L.length, (L.drop q).take (p - q)⟩ : Pk)]).isEmpty, false, 1, (acc ++ [(⟨nl, fu && p == L.length, (L.drop q).take (p - q)⟩ : Pk)]).map cPk⟩)] (by first | rfl | (simp only [if_pos, if_true, hq2]; rfl)) (shp0 hσ (by simp) (by simp) ?_) ?_
    ·simp [SlotOk, hq2] <;> (repeat' (first | (refine RowsOk.same ?_; simp [purel, C.isPure]; done) | (refine rowsCons ?_; simp [mtl, mtc, mT, mH, C.isPure, purel]; done) | (refine rowsCons ?_; simp [mtl, mtc, mT, mH, C.isPure, purel]) | refine And.intro ?_ ?_))
    ·simp [mtc, mtl, mT, C.isPure, purel, hq2] <;> (try simp (disch := omega) [wrap_id]) <;> (try omega)
   ·simp [hci] at hd
  ·have hkn : k = N := by omega
   have hci : ¬ ((8 * k : Nat) : Int) < (L.length : Int) := by omega
   rw [hkn] at hci hlk ⊢
   obtain ⟨q, hq⟩ : ∃ q : Nat, 8 * N = q := ⟨_, rfl⟩
   simp only [hq] at hci ⊢
   (repeat refine ZQ ?_); refine ZR fun K hK => ?_; simp (maxSteps := 1000000) [ty22, ty3, hci]; refine hK _ ?_; clear hK K
   (repeat refine ZQ ?_); refine ZC (hc := by simp [hci]; rfl) (fun hd => ?_) (fun hd => ?_)
   ·simp [hci] at hd
   ·clear hd
    (repeat refine ZQ ?_); refine awp_exit ?_; (first | show AWP _ _ _ _ _ | show ∃ _, _ | skip)
    have ht : List.take N ((A N).map cPk) = (A N).map cPk := List.take_of_length_le (by simp; omega)
    (repeat refine ZQ ?_); refine ZR fun K hK => ?_; simp (maxSteps := 1000000) [ty42]; refine hK _ ?_; clear hK K
    (repeat refine ZQ ?_); refine awp_ret ?_; refine And.intro (Or.inr rfl) ?_
    simp [retC, resC, viewC, mapO, purel, C.isPure, hem, hlk, ht]

set_option maxHeartbeats 8000000
set_option maxRecDepth 20000


theorem sumB_nn : ∀ (l : List UInt8) (i : Nat), (∀ x ∈ l, 32 ≤ x.toNat) → 0 ≤ sumB l i
 | [], _, _ => Int.le_refl _
 | b :: l, i, h => by
  have ih := sumB_nn l (i + 1) fun x hx => h x (by simp [hx])
  have hb := h b (by simp)
  have hv : 0 ≤ valB b := by unfold valB; omega
  have := Int.mul_nonneg hv (by omega : (0 : Int) ≤ ((i % 96 : Nat) : Int) + 1)
  simp only [sumB]
  omega

theorem twoB_pl {n : Nat} (h : n < 100) : ∀ x ∈ twoB n, 48 ≤ x.toNat ∧ x.toNat ≤ 57 := fun x hx => by
 simp only [twoB, List.mem_cons, List.not_mem_nil, or_false] at hx
 rcases hx with rfl | rfl <;> (simp only [UInt8.toNat_ofNat']; omega)

theorem longB_le : ∀ (L : List (List UInt8)) (m : Nat), (m ≤ L.foldl (fun n l => max n l.length) m ∧ ∀ l ∈ L, l.length ≤ L.foldl (fun n l => max n l.length) m) ∧ ∀ b, m ≤ b → (∀ l ∈ L, l.length ≤ b) → L.foldl (fun n l => max n l.length) m ≤ b
 | [], m => ⟨⟨Nat.le_refl _, by simp⟩, fun b h _ => h⟩
 | a :: L, m => by
  obtain ⟨⟨h1, h2⟩, h3⟩ := longB_le L (max m a.length)
  simp only [List.foldl_cons]
  refine ⟨⟨by omega, fun l hl => ?_⟩, fun b hb hl => h3 b (by have := hl a (by simp); omega) fun l hl2 => hl l (by simp [hl2])⟩
  rcases List.mem_cons.1 hl with rfl | hl
  ·omega
  ·exact h2 l hl

theorem row_ok {t : List UInt8} {wide : Nat} (hp : plainB t = true) (h1 : t.length ≤ wide) (h2 : wide ≤ 60) : (rowB t wide).length = wide + 2 ∧ plainB (rowB t wide) = true := by
 refine ⟨by simp [rowB, twoB]; omega, List.all_eq_true.2 fun x hx => ?_⟩
 have hpt := List.all_eq_true.1 hp
 simp only [rowB, List.mem_append] at hx
 rcases hx with (hx | hx) | hx
 ·have := twoB_pl (by omega : t.length < 100) x hx
  simp only [Bool.and_eq_true, decide_eq_true_eq]; omega
 ·exact hpt x hx
 ·rw [List.eq_of_mem_replicate hx]; decide

theorem sums_pl {R : List (List UInt8)} (wt : Bool) : ∀ k, ∀ x ∈ sumsTo R wt k, 48 ≤ x.toNat ∧ x.toNat ≤ 57
 | 0, x, hx => by simp [sumsTo] at hx
 | k + 1, x, hx => by
  simp only [sumsTo, List.mem_append] at hx
  rcases hx with hx | hx
  ·exact sums_pl wt k x hx
  ·exact twoB_pl (by omega) x hx

def rowsB (L : List (List UInt8)) : List (List UInt8) := L.map fun t => rowB t (longB L)
def cardAt (L : List (List UInt8)) (i : Nat) : List UInt8 := cardB (UInt8.ofNat (49 + i)) L.length (rowB (L.getD i []) (longB L))
def cardsTo (L : List (List UInt8)) (i : Nat) : List (List UInt8) := (List.range i).map (cardAt L)
def cardsB (L : List (List UInt8)) : List (List UInt8) := cardsTo L L.length ++ [cardB 97 L.length (sumsB (rowsB L) false), cardB 98 L.length (sumsB (rowsB L) true)]

structure PackOk (L : List (List UInt8)) : Prop where
 many : 0 < L.length ∧ L.length ≤ 8
 text : ∀ l ∈ L, textB l = true

theorem PackOk.rows {L : List (List UInt8)} (h : PackOk L) : longB L ≤ 60 ∧ (∀ l ∈ L, l.length ≤ longB L) ∧ RowsOk14 (rowsB L) (longB L + 2) := by
 obtain ⟨⟨_, h2⟩, h3⟩ := longB_le L 0
 have ht : ∀ l ∈ L, l.length ≤ 60 ∧ plainB l = true := fun l hl => by
  have := h.text l hl
  unfold textB at this
  rwa [Bool.and_eq_true, decide_eq_true_eq] at this
 have hl : longB L ≤ 60 := h3 60 (by omega) fun l hl => (ht l hl).1
 refine ⟨hl, h2, ⟨by have := h.many; simp [rowsB]; omega, by omega, fun r hr => ?_, fun r hr => ?_⟩⟩
 ·obtain ⟨t, htm, rfl⟩ := List.mem_map.1 hr
  exact (row_ok (ht t htm).2 (h2 t htm) hl).1
 ·obtain ⟨t, htm, rfl⟩ := List.mem_map.1 hr
  exact (row_ok (ht t htm).2 (h2 t htm) hl).2

theorem head_nn {b : UInt8} {many : Nat} {row : List UInt8} (hb : 32 ≤ b.toNat) (hm : many < 10) (hr : ∀ x ∈ row, 32 ≤ x.toNat) : 0 ≤ sumB (headB b many row) 0 := by
 refine sumB_nn _ _ fun x hx => ?_
 simp only [headB, List.mem_append, List.mem_cons, List.not_mem_nil, or_false] at hx
 rcases hx with (rfl | rfl) | hx
 ·exact hb
 ·simp only [UInt8.toNat_ofNat']; omega
 ·exact hr x hx

theorem plain_ge {l : List UInt8} (h : plainB l = true) : ∀ x ∈ l, 32 ≤ x.toNat := fun x hx => by
 have := List.all_eq_true.1 h x hx
 simp only [Bool.and_eq_true, decide_eq_true_eq] at this
 exact this.1

set_option maxHeartbeats 8000000
set_option maxRecDepth 20000

theorem q_cards39 (nl fu : Bool) (L : List (List UInt8)) (h : PackOk L) : Pure Tryz.prog 39 [sT nl fu L] (.sl false false ((cardsB L).map cS)) := by
 obtain ⟨hw60, hle, hrows⟩ := h.rows
 have hm := h.many
 have c0 := q_longest62 nl fu L (by omega)
 obtain ⟨A, hA⟩ : ∃ A : Nat → List (List UInt8), ∀ i, A i = (rowsB L).take i := ⟨_, fun _ => rfl⟩
 have hRl : (rowsB L).length = L.length := by simp [rowsB]
 have hA0 : A 0 = [] := by rw [hA]; rfl
 have hAl : ∀ i, i ≤ L.length → (A i).length = i := fun i hi => by rw [hA, List.length_take]; omega
 have hAs : ∀ i (hi : i < L.length), A (i + 1) = A i ++ [rowB L[i] (longB L)] := fun i hi => by
  rw [hA, hA, List.take_succ_eq_append_getElem (by omega)]; simp [rowsB]
 have hAn : A L.length = rowsB L := by rw [hA, List.take_of_length_le (by omega)]
 obtain ⟨B, hB⟩ : ∃ B : Nat → List (List UInt8), ∀ i, B i = cardsTo L i := ⟨_, fun _ => rfl⟩
 have hB0 : B 0 = [] := by rw [hB]; rfl
 have hBl : ∀ i, (B i).length = i := fun i => by rw [hB]; simp [cardsTo]
 have hBs : ∀ i (hi : i < L.length), B (i + 1) = B i ++ [cardB (UInt8.ofNat (49 + i)) L.length (rowB L[i] (longB L))] := fun i hi => by
  rw [hB, hB]
  have e : L.getD i [] = L[i] := by rw [List.getD_eq_getElem?_getD, List.getElem?_eq_getElem hi]; rfl
  simp only [cardsTo, List.range_succ, List.map_append, List.map_cons, List.map_nil, cardAt, e]
 have hV : cardsB L = B L.length ++ [cardB 97 L.length (sumsB (rowsB L) false), cardB 98 L.length (sumsB (rowsB L) true)] := by rw [hB]; rfl
 rw [hV]
 have cr := fun i (hi : i < L.length) => q_row63 L[i] (longB L) (hle _ (List.getElem_mem hi)) (by omega)
 have hrk : ∀ i (hi : i < L.length), (rowB L[i] (longB L)).length = longB L + 2 ∧ plainB (rowB L[i] (longB L)) = true := fun i hi => by
  have ht := h.text _ (List.getElem_mem hi)
  unfold textB at ht
  rw [Bool.and_eq_true, decide_eq_true_eq] at ht
  exact row_ok ht.2 (hle _ (List.getElem_mem hi)) hw60
 have cc := fun i (hi : i < L.length) => q_card64 (UInt8.ofNat (49 + i)) L.length (rowB L[i] (longB L)) (by simp only [UInt8.toNat_ofNat']; omega) (by omega) (by have := (hrk i hi).1; omega)
  (head_nn (by simp only [UInt8.toNat_ofNat']; omega) (by omega) (plain_ge (hrk i hi).2))
 have hbn : ∀ i, i < L.length → ((UInt8.ofNat (49 + i)).toNat : Int) = 49 + i := fun i hi => by simp only [UInt8.toNat_ofNat']; omega
 have s1 := q_sums65 false false false (rowsB L) _ hrows
 have s2 := q_sums65 false false true (rowsB L) _ hrows
 have hsl := fun wt => sumsTo_len (rowsB L) wt (longB L + 2)
 have hse : ∀ wt, sumsB (rowsB L) wt = sumsTo (rowsB L) wt (longB L + 2) := fun wt => by
  unfold sumsB
  have e : ((rowsB L).headD []).length = longB L + 2 := by
   have hp := hrows.many.1
   have hl := hrows.len
   cases hc : rowsB L with
   | nil => rw [hc] at hp; simp at hp
   | cons a b => rw [hc] at hl; exact hl a (by simp)
  rw [e]
 have hsg : ∀ wt, ∀ x ∈ sumsB (rowsB L) wt, 32 ≤ x.toNat := fun wt x hx => by rw [hse] at hx; have := sums_pl wt _ x hx; omega
 have hsw : ∀ wt, (sumsB (rowsB L) wt).length ≤ 1000 := fun wt => by rw [hse, hsl]; omega
 have k1 := q_card64 97 L.length (sumsB (rowsB L) false) (by decide) (by omega) (hsw false) (head_nn (by decide) (by omega) (hsg false))
 have k2 := q_card64 98 L.length (sumsB (rowsB L) true) (by decide) (by omega) (hsw true) (head_nn (by decide) (by omega) (hsg true))
 have e97 : ((97 : UInt8).toNat : Int) = 97 := rfl
 have e98 : ((98 : UInt8).toNat : Int) = 98 := rfl
 rw [e97] at k1
 rw [e98] at k2
 have hne : (rowsB L).isEmpty = false := by
  have hp := hrows.many.1
  cases hc : rowsB L with
  | nil => rw [hc] at hp; simp at hp
  | cons a b => rfl
 clear hA hB hV hrows hsl hse hsg hsw
 generalize longB L = wide at *
 refine ZF (fn := Tryz.f39) [.tmp 2] ⟨Tryz.func39, rfl, by kernel_rfl⟩ fun x hx hσ => ?_
 (repeat refine ZQ ?_); refine ZR fun K hK => ?_; simp (maxSteps := 1000000) [ty22]; refine hK _ ?_; clear hK K
 (repeat refine ZQ ?_); refine ZR fun K hK => ?_; simp (maxSteps := 1000000) [ty22]; refine hK _ ?_; clear hK K
 (repeat refine ZQ ?_); refine ZR fun K hK => ?_; simp (maxSteps := 1000000) [ty22]
 refine ZP (c0) ?_; simp (maxSteps := 1000000) [ty3]
 refine hK _ ?_; clear hK K
 (repeat refine ZQ ?_); refine ZR fun K hK => ?_; simp (maxSteps := 1000000) [ty3]; refine hK _ ?_; clear hK K
 (repeat refine ZQ ?_); refine awp_block ?_
 refine AWP.weak ?_ (wk_nil 3 3 1 (fu := true) (by simp) (by simp))
 refine AWP.weak ?_ (wk_nil 4 4 1 (fu := true) (by simp) (by simp))
 refine awp_loop (fun i : Nat => ⟨ofL [(0, sT nl fu L), (3, .own 3 1 0 i), (4, .own 4 1 0 i), (5, encI wide), (6, encI i)], stoT [(3, 3, .live ⟨(A i).isEmpty, false, 1, (A i).map cS⟩), (4, 4, .live ⟨(B i).isEmpty, false, 1, (B i).map cS⟩)]⟩)
  (fun i => i ≤ L.length) (fun i => L.length - i) 0 (Nat.zero_le _) ?_ ?_
 ·rw [hA0, hB0]
  exact ZW
 ·intro i hi
  have ha := hAl i hi
  have hb := hBl i
  (repeat refine ZQ ?_); refine ZR fun K hK => ?_; simp (maxSteps := 1000000) [ty22, ty3]; refine hK _ ?_; clear hK K
  (repeat refine ZQ ?_); refine ZC (fun hc => ?_) (fun hc => ?_)
  ·simp at hc
   have hsa := hAs i hc
   have hsb := hBs i hc
   have c1 := cr i hc
   have c2 := cc i hc
   rw [hbn i hc] at c2
   have w1 : IntKind.i64.wrap ((i : Int) + 1) = ((i + 1 : Nat) : Int) := by rw [wrap_id (by omega) (by omega)]; rfl
   have w2 : IntKind.i64.wrap (49 + (i : Int)) = 49 + i := wrap_id (by omega) (by omega)
   have w3 : IntKind.u8.wrap (49 + (i : Int)) = 49 + i := wrap_u8 (by omega) (by omega)
   generalize rowB L[i] wide = row at *
   generalize cardB (UInt8.ofNat (49 + i)) L.length row = card at *
   generalize A i = X at *
   generalize B i = Z at *
   refine awp_skip ?_
   (repeat refine ZQ ?_); refine awp_block ?_
   (repeat refine ZQ ?_); refine ZR fun K hK => ?_; simp (maxSteps := 1000000) [ty22, ty9, ty3, hc]
   refine ZP (c1) ?_; simp (maxSteps := 1000000) [ty22, ty9]
   refine ⟨by omega, ?_⟩
   refine hK _ ?_; clear hK K; (first | show AWP _ _ _ _ _ | show ∃ _, _ | skip)
   have hg : (X.map cS ++ [[C.str (S row)]])[i]? = some [C.str (S row)] := by
    rw [List.getElem?_append_right (by simp; omega)]; simp [ha]
   (repeat refine ZQ ?_); refine ZR fun K hK => ?_; simp (maxSteps := 1000000) [ty22, ty9, ty3, ty5, hc, w2, w3, hg, ha]
   refine ZP (c2) ?_; simp (maxSteps := 1000000) [ty22, ty9]
   refine ⟨by omega, ?_⟩
   refine hK _ ?_; clear hK K
   (repeat refine ZQ ?_); refine ZR fun K hK => ?_; simp (maxSteps := 1000000) [ty3]; refine hK _ ?_; clear hK K; (first | show AWP _ _ _ _ _ | show ∃ _, _ | skip)
   refine ⟨i + 1, by omega, by omega, ?_⟩
   rw [hsa, hsb, w1]
   refine wk_shape2 [(3, 23, .live ⟨(X ++ [row]).isEmpty, false, 1, (X ++ [row]).map cS⟩), (4, 36, .live ⟨(Z ++ [card]).isEmpty, false, 1, (Z ++ [card]).map cS⟩)] (by first | rfl | (simp only [if_pos, if_true]; rfl)) (shp0 hσ (by simp) (by simp) ?_) ?_
   ·simp [SlotOk] <;> (repeat' (first | (refine RowsOk.same ?_; simp [purel, C.isPure]; done) | (refine rowsCons ?_; simp [mtl, mtc, mT, mH, C.isPure, purel]; done) | (refine rowsCons ?_; simp [mtl, mtc, mT, mH, C.isPure, purel]) | refine And.intro ?_ ?_))
   ·simp [mtc, mtl, mT, C.isPure, purel] <;> (try simp (disch := omega) [wrap_id]) <;> (try omega)
  ·simp at hc
   (repeat refine ZQ ?_); refine awp_exit ?_; (first | show AWP _ _ _ _ _ | show ∃ _, _ | skip)
   have hin : i = L.length := by omega
   rw [hin] at ha hb ⊢
   rw [hAn] at ha ⊢
   have hnl : (B L.length).isEmpty = false := by
    cases hq : B L.length with
    | nil => rw [hq] at hb; simp at hb; omega
    | cons a b => rfl
   have ht : List.take L.length ((rowsB L).map cS) = (rowsB L).map cS := List.take_of_length_le (by simp; omega)
   generalize B L.length = Z at *
   generalize sumsB (rowsB L) false = u1 at *
   generalize sumsB (rowsB L) true = u2 at *
   generalize cardB 97 L.length u1 = v1 at *
   generalize cardB 98 L.length u2 = v2 at *
   (repeat refine ZQ ?_); refine ZR fun K hK => ?_; simp (maxSteps := 1000000) [ty22, ty9, ty3, ty5, ty4]
   refine callL s1 (by simp [viewL, mapO, viewC, C.isPure, purel, ha, hne, ht]) (.inr rfl) ?_
   simp [ty22, ty9, ty3, ty5, ty4]
   refine callP k1 (by simp [purel, C.isPure]) ?_
   simp [ty22, ty9, ty3, ty5, ty4]
   refine callL s2 (by simp [viewL, mapO, viewC, C.isPure, purel, ha, hne, ht]) (.inr rfl) ?_
   simp [ty22, ty9, ty3, ty5, ty4]
   refine callP k2 (by simp [purel, C.isPure]) ?_
   simp [ty22, ty9, ty3, ty5, ty4]
   refine ⟨by omega, ?_⟩
   refine hK _ ?_; clear hK K
   (repeat refine ZQ ?_); refine awp_ret ?_; refine And.intro (Or.inr rfl) ?_
   have ht2 : List.take (L.length + 2) (Z.map cS ++ [[C.str (S v1)], [C.str (S v2)]]) = Z.map cS ++ [[C.str (S v1)], [C.str (S v2)]] := List.take_of_length_le (by simp; omega)
   simp [retC, resC, viewC, mapO, purel, C.isPure, hb, hnl, ht2]
   intro x hx1 hx2
   rcases hx1 with ⟨a, _, rfl⟩ | rfl | rfl <;> simp [purel, C.isPure] at hx2

set_option maxHeartbeats 8000000
set_option maxRecDepth 20000


theorem toList_loop (l : List UInt8) : ∀ (n i : Nat) (r : List UInt8), l.length - i = n → i ≤ l.length → ByteArray.toList.loop (S l) i r = r.reverse ++ l.drop i
 | 0, i, r, hn, hi => by
  unfold ByteArray.toList.loop
  rw [S_size, if_neg (by omega), List.drop_eq_nil_of_le (by omega), List.append_nil]
 | n + 1, i, r, hn, hi => by
  have hlt : i < l.length := by omega
  unfold ByteArray.toList.loop
  rw [S_size, if_pos hlt, toList_loop l n (i + 1) _ (by omega) (by omega), S_get hlt, List.drop_eq_getElem_cons hlt]
  simp

theorem S_toList (l : List UInt8) : (S l).toList = l := by
 unfold ByteArray.toList
 rw [toList_loop l l.length 0 [] (by omega) (by omega)]
 simp

theorem str_eq (a b : List UInt8) : strBin .eql (S a) (S b) = some (.bool (a == b)) := by
 unfold strBin
 rw [S_toList, S_toList]
theorem str_ne (a b : List UInt8) : strBin .neq (S a) (S b) = some (.bool (!(a == b))) := by
 unfold strBin
 rw [S_toList, S_toList]

set_option maxHeartbeats 8000000
set_option maxRecDepth 20000


def numB (l : List UInt8) : UInt8 := l.headD 0
def isSumB (l : List UInt8) : Bool := numB l == 97 || numB l == 98
def rowLenB (l : List UInt8) : Nat := if isSumB l then (l.length - 4) / 2 else l.length - 4

theorem u8_eq (b : UInt8) (n : Nat) (hn : n < 256) : ((b.toNat : Int) == (n : Int)) = (b == UInt8.ofNat n) := by
 rw [Bool.eq_iff_iff, beq_iff_eq, beq_iff_eq]
 constructor
 ·intro h
  apply UInt8.toNat_inj.1
  simp only [UInt8.toNat_ofNat']
  omega
 ·rintro rfl
  simp only [UInt8.toNat_ofNat']
  omega

set_option maxHeartbeats 8000000
set_option maxRecDepth 20000


theorem S_ext (l : List UInt8) (a b : Nat) : (S l).extract a b = S ((l.take b).drop a) := by
 apply ByteArray.ext
 apply Array.ext'
 simp [S, List.extract, List.take_drop]
 by_cases h : a ≤ b
 ·rw [show a + (b - a) = b by omega]
 ·rw [List.drop_eq_nil_of_le (by simp; omega), List.drop_eq_nil_of_le (by simp; omega)]

def bodyB (l : List UInt8) : List UInt8 := (l.take (l.length - 2)).drop 2
set_option maxHeartbeats 8000000
set_option maxRecDepth 20000


def numAt (l : List UInt8) : Nat := 10 * ((l.getD 0 0).toNat - 48) + ((l.getD 1 0).toNat - 48)
def textOfB (l : List UInt8) : Option (List UInt8) :=
 if digB (l.take 2) = true then (if numAt l ≤ l.length - 2 then some ((l.take (2 + numAt l)).drop 2) else none) else none

set_option maxHeartbeats 8000000
set_option maxRecDepth 20000


set_option maxHeartbeats 4000000
set_option maxRecDepth 20000


theorem GrewB {w w' : World} (h : Go.RowKit.Below w.heap.size w w') : Grew w w' := ⟨h.os, h.tape, h.output, h.size, h.block⟩

theorem S_list (l : List UInt8) : (S l).data.toList = l := by simp [S]
theorem repeatL_one (n : Nat) : Lib.repeatL [32] n = List.replicate n 32 := by
 induction n with
 | zero => rfl
 | succ n ih => rw [Lib.repeatL, ih]; rfl

theorem repeat87 (n : Nat) (hn : n ≤ 1000) : Pure Tryz.prog 87 [.str ⟨#[32]⟩, encI n] (encS (List.replicate n 32)) := by
 refine pure_calls (⟨Tryz.func87, rfl, by kernel_rfl⟩ : FnIs Tryz.prog 87 Tryz.f87 _) rfl fun G w _ => ?_
 refine (Tryz.strings_Repeat ⟨#[32]⟩ n w (by omega) (by show 1 * n ≤ _; omega)).mono ?_
 rintro e w' ⟨rfl, hb⟩
 refine ⟨_, rfl, GrewB hb, ?_⟩
 rw [show ((⟨#[32]⟩ : ByteArray).data.toList) = [32] from rfl, repeatL_one]
 exact .str _

theorem contains67 (l p : List UInt8) (hn : l.length ≤ 1000000) : Pure Tryz.prog 67 [encS l, encS p] (.bool (Lib.contains l p)) := by
 refine pure_calls (⟨Tryz.func67, rfl, by kernel_rfl⟩ : FnIs Tryz.prog 67 Tryz.f67 _) rfl fun G w hgk => ?_
 obtain ⟨m, hm⟩ := hgk 0 rfl
 refine (Tryz.strings_Contains (S l) (S p) m w (by rw [S_size]; omega) hm).mono ?_
 rintro e w' ⟨rfl, rfl⟩
 refine ⟨_, rfl, .refl _, ?_⟩
 rw [S_list, S_list]
 exact .bool _

theorem hasSuffix66 (l p : List UInt8) (hn : l.length ≤ 1000000) : Pure Tryz.prog 66 [encS l, encS p] (.bool (Lib.hasSuffix l p)) := by
 refine pure_calls (⟨Tryz.func66, rfl, by kernel_rfl⟩ : FnIs Tryz.prog 66 Tryz.f66 _) rfl fun G w hgk => ?_
 refine (Tryz.strings_HasSuffix (S l) (S p) w (by rw [S_size]; omega)).mono ?_
 rintro e w' ⟨rfl, rfl⟩
 refine ⟨_, rfl, .refl _, ?_⟩
 rw [S_list, S_list]
 exact .bool _

theorem trimSuffix69 (l p : List UInt8) (hn : l.length ≤ 1000000) : Pure Tryz.prog 69 [encS l, encS p] (encS (Lib.trimSuffix l p)) := by
 refine pure_calls (⟨Tryz.func69, rfl, by kernel_rfl⟩ : FnIs Tryz.prog 69 Tryz.f69 _) rfl fun G w hgk => ?_
 refine (Tryz.strings_TrimSuffix (S l) (S p) w (by rw [S_size]; omega)).mono ?_
 rintro e w' ⟨rfl, rfl⟩
 refine ⟨_, rfl, .refl _, ?_⟩
 rw [S_list, S_list]
 exact .str _

theorem trim103 (l p : List UInt8) (hn : l.length ≤ 1000000) (hp : p.length ≤ 1000) (ha : ∀ b ∈ p, b.toNat < 128) : Pure Tryz.prog 103 [encS l, encS p] (encS (Lib.trimS l p)) := by
 refine pure_calls (⟨Tryz.func103, rfl, by kernel_rfl⟩ : FnIs Tryz.prog 103 Tryz.f103 _) rfl fun G w hgk => ?_
 refine (Tryz.strings_Trim (S l) (S p) w (by rw [S_size]; omega) (by rw [S_size]; omega) (fun j b hb => by rw [S_list] at hb; exact ha b (List.mem_of_getElem? hb))).mono ?_
 rintro e w' ⟨rfl, hb⟩
 refine ⟨_, rfl, GrewB hb, ?_⟩
 rw [S_list, S_list]
 exact .str _

def splitL (p l : List UInt8) : List (List UInt8) := (Lib.splitB (S p) 0 (Lib.countB (S l) (S p)) (S l)).map fun b => b.data.toList

theorem split68 (l p : List UInt8) (hn : l.length ≤ 1000000) (hp : 1 ≤ p.length) : Pure Tryz.prog 68 [encS l, encS p] (sT false true (splitL p l)) := by
 refine pure_calls (⟨Tryz.func68, rfl, by kernel_rfl⟩ : FnIs Tryz.prog 68 Tryz.f68 _) rfl fun G w hgk => ?_
 obtain ⟨m, hm⟩ := hgk 0 rfl
 have hlen := Lib.splitB_all (S p) (by rw [S_size]; exact hp) 0 _ (S l) rfl
 refine (Tryz.strings_Split (S l) (S p) m w (by rw [S_size]; omega) hm (by rw [S_size]; exact hp)).mono ?_
 rintro e w' ⟨rfl, rfl⟩
 obtain ⟨L, hL⟩ : ∃ L, Lib.splitB (S p) 0 (Lib.countB (S l) (S p)) (S l) = L := ⟨_, rfl⟩
 rw [hL] at hlen ⊢
 have hrl : (((splitL p l).map cS)).length = L.length := by simp [splitL, hL]
 have hget : ∀ (i : Nat) (row : List C), ((splitL p l).map cS)[i]? = some row → ∃ b, L[i]? = some b ∧ row = [.str b] := by
  intro i row hi
  unfold splitL at hi
  rw [hL] at hi
  simp only [List.getElem?_map, Option.map_eq_some_iff, Option.map_map] at hi
  obtain ⟨b, hb, rfl⟩ := hi
  exact ⟨b, hb, rfl⟩
 refine ⟨_, rfl, ⟨rfl, rfl, rfl, by simp, fun b hb => alloc_old w _ hb⟩, ?_⟩
 rw [← hlen]
 refine .sl (b := w.heap.size) (off := 0) (sz := 1) (fun i _ => .string (L.getD i default)) (.inr (Nat.le_refl _)) (by simp) (by rw [hrl]) (fun _ => hrl.symm) (by rw [hrl]; exact Nat.le_refl _) ?_ ?_ ?_ ?_
 ·intro i row hi
  obtain ⟨b, _, rfl⟩ := hget i row hi
  rfl
 ·intro i row hi j c hj
  obtain ⟨b, hb, rfl⟩ := hget i row hi
  have : j = 0 := by
   have := (List.getElem?_eq_some_iff.1 hj).1
   simpa using this
  subst this
  have hlt := (List.getElem?_eq_some_iff.1 hb).1
  simp only [World.cell?, alloc_new]
  simp [List.getD_eq_getElem?_getD, hb, hlt]
 ·intro i row hi j c hj
  obtain ⟨b, hb, rfl⟩ := hget i row hi
  have := List.mem_of_getElem? hj
  simp at this; subst this; rfl
 ·intro i row hi j c hj
  obtain ⟨b, hb, rfl⟩ := hget i row hi
  have := List.mem_of_getElem? hj
  simp at this; subst this
  rw [List.getD_eq_getElem?_getD, hb]
  exact .str _

set_option maxHeartbeats 8000000
set_option maxRecDepth 20000


@[simp] abbrev cB (b : UInt8) : List C := [.int .u8 (b.toNat : Int)]
@[simp] abbrev bufO (l : List UInt8) : Ob := ⟨l.isEmpty, !l.isEmpty, 1, l.map cB⟩
@[simp] abbrev bldO (p : C) (k n : Nat) : Ob := ⟨false, true, 2, [[p, .own k 1 0 n]]⟩

theorem bld_facts {x : Ctx} {ρ : Nat → Nat} {σ : Nat → Slot} {w : World} {k : Nat} {p c : C} (hf : Frm x ρ σ w) (hk : σ k = .live ⟨false, true, 2, [[p, c]]⟩) :
  ∃ u v, w.heap[ρ k]? = some (.cells #[u, v] 64 (0, 0)) ∧ CR (x.Gd ρ σ) ρ σ w p u ∧ CR (x.Gd ρ σ) ρ σ w c v ∧ c.cell = true := by
 have hob := hf.sto.ob k _ hk rfl
 obtain ⟨cs, el, h1, h2, h3⟩ := hob.cel (by simp)
 obtain ⟨h4, h5⟩ := hob.typ _ _ _ h1 rfl
 have hsz : cs.size = 2 := h5 rfl
 have hel : el = 64 := h4
 subst hel
 obtain ⟨h6, h7⟩ := h3 0 _ rfl
 have g0 := h7 0 _ rfl
 have g1 := h7 1 _ rfl
 refine ⟨cs.getD 0 undef, cs.getD 1 undef, ?_, by simpa using g0.1, by simpa using g1.1, g1.2⟩
 rw [h1]
 have : cs = #[cs.getD 0 undef, cs.getD 1 undef] := by
  apply Array.ext
  ·simp [hsz]
  ·intro i hi1 hi2
   have : i = 0 ∨ i = 1 := by simp at hi2; omega
   rcases this with rfl | rfl <;> simp [Array.getD_eq_getD_getElem?, hi1]
 rw [← this]

theorem ptr_arg {x : Ctx} {ρ : Nat → Nat} {σ : Nat → Slot} {w : World} {k : Nat} {o : Ob} {vs : Array Value} (hk : σ k = .live o) (hc : CL (x.Gd ρ σ) ρ σ w [.ptr k 2 0 0] vs) : vs = #[.pointer (some ⟨ρ k, 0, none⟩)] := by
 obtain ⟨o', ho', hn', hsz', hpv⟩ := (hc.2 0 _ rfl).ptrOf (by simp [isLive, hk])
 have := hc.1
 apply Array.ext
 ·simpa using this
 ·intro i h2 h3
  simp only [List.size_toArray, List.length_cons, List.length_nil] at h3
  obtain rfl : i = 0 := by omega
  simp only [Array.getD_eq_getD_getElem?] at hpv
  rw [Array.getElem?_eq_getElem h2] at hpv
  simpa using hpv

theorem cc61 {σ : Nat → Slot} (k : Nat) {p c : C} (hk : σ k = .live ⟨false, true, 2, [[p, c]]⟩) (hp : p = .pnil ∨ p = .ptr k 2 0 0) :
  Does Tryz.prog 61 σ [.ptr k 2 0 0] (.tup []) (upd (upd σ k .dead) k (.live ⟨false, true, 2, [[.ptr k 2 0 0, c]]⟩)) := by
 refine { toCallable := (⟨Tryz.func61, rfl, by kernel_rfl⟩ : FnIs Tryz.prog 61 Tryz.f61 _).callable, calls := fun x ρ w vs hgk hf hc => ?_ }
 have hvs := ptr_arg hk hc
 subst hvs
 obtain ⟨u, v, h1, h2, h3, hcl⟩ := bld_facts hf hk
 have hpc : CR (x.Gd ρ σ) ρ σ w (.ptr k 2 0 0) (.pointer (some ⟨ρ k, 0, none⟩)) := hc.2 0 _ rfl
 have e2 : upd (upd σ k .dead) k (.live ⟨false, true, 2, [[p, c]]⟩) = σ := by
  funext i
  by_cases hi : i = k
  ·subst hi; rw [upd_same, hk]
  ·rw [upd_ne _ _ hi, upd_ne _ _ hi]
 rcases hp with rfl | rfl
 ·have hu : u = .pointer none := by
   have q := h2.isPure rfl
   cases q; rfl
  subst hu
  have c0 : w.cell? ⟨ρ k, 0, none⟩ = some (.pointer none) := by simp [World.cell?, h1]
  refine (Tryz.cc_fresh (ρ k) w c0 (by simp [World.shape?, h1]) (by simp [World.frozen?, h1])).mono ?_
  rintro e w' ⟨rfl, rfl⟩
  have hlt := (hf.sto.ob k _ hk rfl).lt
  obtain ⟨hK, hF⟩ := hf.write (k := k) (d := k) (w' := w.setCell ⟨ρ k, 0, none⟩ (.pointer (some ⟨ρ k, 0, none⟩))) (ob := ⟨false, true, 2, [[.ptr k 2 0 0, c]]⟩) (cs' := #[.pointer (some ⟨ρ k, 0, none⟩), v]) hk rfl (.inl rfl) h1
   (fun b hb => by simp [World.setCell, Array.getElem?_modify, Ne.symm hb]) (by simp [World.setCell]) (by simp [World.setCell, Array.getElem?_modify, h1, Array.getElem?_eq_getElem hlt]) rfl rfl rfl rfl rfl rfl rfl (by simp) (fun i row hi => by
    match i, hi with
    | 0, hi =>
     simp at hi; subst hi
     refine ⟨rfl, fun j d hj => ?_⟩
     match j, hj with
     | 0, hj => simp at hj; subst hj; exact ⟨by simpa using hpc, rfl⟩
     | 1, hj => simp at hj; subst hj; exact ⟨by simpa using h3, hcl⟩
     | n + 2, hj => simp at hj
    | n + 1, hi => simp at hi)
  exact ⟨_, _, rfl, hK, hF, .tup rfl fun i c hi => by simp at hi⟩
 ·have hu : u = .pointer (some ⟨ρ k, 0, none⟩) := by
   obtain ⟨o', ho', hn', hsz', hpv⟩ := h2.ptrOf (by simp [isLive, hk])
   simpa using hpv
  subst hu
  have c0 : w.cell? ⟨ρ k, 0, none⟩ = some (.pointer (some ⟨ρ k, 0, none⟩)) := by simp [World.cell?, h1]
  refine (Tryz.cc_used (ρ k) w c0).mono ?_
  rintro e w' ⟨rfl, rfl⟩
  rw [e2]
  exact ⟨_, ρ, rfl, .refl .., hf, .tup rfl fun i c hi => by simp at hi⟩

theorem str38 {σ : Nat → Slot} (k b : Nat) {p : C} {l : List UInt8} (hk : σ k = .live (bldO p b l.length)) (hb : σ b = .live (bufO l)) (hn : l.length ≤ 1000000) :
  Does Tryz.prog 38 σ [.ptr k 2 0 0] (encS l) (upd σ b .dead) := by
 refine { toCallable := (⟨Tryz.func38, rfl, by kernel_rfl⟩ : FnIs Tryz.prog 38 Tryz.f38 _).callable, calls := fun x ρ w vs hgk hf hc => ?_ }
 have hvs := ptr_arg hk hc
 subst hvs
 obtain ⟨u, v, h1, h2, h3, hcl⟩ := bld_facts hf hk
 obtain ⟨o, ho, hcase⟩ := h3.ownOf (by simp [isLive, hb])
 rw [hb] at ho
 cases ho
 rcases hcase with ⟨hnl, _, hn0, a, ha, rfl⟩ | ⟨hnl, _, cap, hcap, rfl, hroom⟩
 ·have hl : l = [] := by simpa using hnl
  subst hl
  simp at ha
  subst ha
  refine (Tryz.str_none (ρ k) u w h1).mono ?_
  rintro e w' ⟨rfl, rfl⟩
  obtain ⟨k1, f1⟩ := hf.grew (w' := w.drew) ⟨rfl, rfl, rfl, Nat.le_refl _, fun _ _ => rfl⟩
  obtain ⟨k2, f2, _⟩ := f1.freeze hb (by simp)
  exact ⟨_, ρ, rfl, k1.trans k2, f2, .pure (.str _)⟩
 ·have hl : l ≠ [] := by simpa using hnl
  have hob := hf.sto.ob b _ hb hnl
  obtain ⟨cs, el, g1, g2, g3⟩ := hob.cel (by simp)
  obtain ⟨g4, _⟩ := hob.typ _ _ _ g1 (by simpa using hl)
  have hel : el = 5 := g4
  subst hel
  simp only [List.length_map, Nat.mul_one] at g2
  refine (Tryz.str_some (ρ k) (ρ b) cap u cs l w (by simpa using h1) g1 hl (by simpa using g2) (by omega) hcap (fun j y hj => ?_)).mono ?_
  ·obtain ⟨g5, g6⟩ := g3 j (cB y) (by simp [hj])
   have g7 := (g6 0 _ rfl).1.isPure rfl
   have hlt : j < cs.size := by
    have := (List.getElem?_eq_some_iff.1 hj).1
    omega
   simp only [Nat.mul_one, Nat.add_zero, Array.getD_eq_getD_getElem?, Array.getElem?_eq_getElem hlt, Option.getD_some] at g7
   cases h : cs[j] <;> rw [h] at g7 <;> cases g7
   rw [Array.getElem?_eq_getElem hlt, h]
  ·rintro e w' ⟨rfl, rfl⟩
   obtain ⟨k1, f1⟩ := hf.grew (w' := w.drew) ⟨rfl, rfl, rfl, Nat.le_refl _, fun _ _ => rfl⟩
   obtain ⟨k2, f2⟩ := f1.killWith (w' := w.drew.freeze ⟨ρ b, 0, none⟩ l.length) hb hnl (fun q hq => by simp [World.freeze, hl, Array.getElem?_modify, Ne.symm hq]) (by simp [World.freeze, hl]) (by simp [World.freeze, hl]) (by simp [World.freeze, hl]) (by simp [World.freeze, hl])
   exact ⟨_, ρ, rfl, k1.trans k2, f2, .pure (.str _)⟩

set_option maxHeartbeats 4000000
set_option maxRecDepth 20000


theorem wr37_10 (p : C) (hp : p = .pnil ∨ p = .ptr 10 2 0 0) (l s : List UInt8) (hn : l.length ≤ 1000000) (hm : s.length ≤ 1000000) :
  EffS Tryz.prog 37 [(10, bldO p 1000 l.length), (1000, bufO l)] [.ptr 10 2 0 0, encS s] (.tup [encI s.length, .any])
   [(10, .live (bldO (.ptr 10 2 0 0) 1001 (l.length + s.length))), (1000, .dead), (1001, .live (bufO (l ++ s)))] := by
 have hsz := S_size s
 have hpw : wil (keysO [(10, bldO p 1000 l.length), (1000, bufO l)]) [p, .own 1000 1 0 l.length] = true := by rcases hp with rfl | rfl <;> simp [wil, C.wi, keysO]
 refine effS_of_body (fn := Tryz.f37) [.tmp 4, .tmp 5] ⟨Tryz.func37, rfl, by kernel_rfl⟩ (by kernel_rfl) (by kernel_rfl) (by kernel_rfl) ?_ ?_ (fun x hx hσ => ?_) ?_
 ·simp [wil, C.wi, keysO]
 ·intro q hq
  simp only [List.mem_cons, List.not_mem_nil, or_false] at hq
  rcases hq with rfl | rfl
  ·simp [hpw]
  ·simp [wil, C.wi]
 ·rw [show stoO [(10, bldO p 1000 l.length), (1000, bufO l)] = stoT [(10, 10, .live (bldO p 1000 l.length)), (1000, 1000, .live (bufO l))] from rfl]
  have hcc := cc61 (σ := stoT [(10, 10, .live (bldO p 1000 l.length)), (1000, 1000, .live (bufO l))]) 10 (p := p) (c := .own 1000 1 0 l.length) rfl hp
  (repeat refine ZQ ?_); refine ZR fun K hK => ?_; simp (maxSteps := 1000000) [ty3]; refine hK _ ?_; clear hK K
  (repeat refine ZQ ?_); refine ZR fun K hK => ?_; simp (maxSteps := 1000000) [ty3]
  refine doesL hcc ?_
  simp (config := { maxSteps := 1000000 }) [ty3]
  refine hK _ ?_; clear hK K
  (repeat refine ZQ ?_); refine ZR fun K hK => ?_; simp (maxSteps := 1000000) [ty62, ty64, ty61, ty9, ty5, hsz]
  refine ⟨by omega, ?_⟩
  refine hK _ ?_; clear hK K
  (repeat refine ZQ ?_); refine ZR fun K hK => ?_; simp (maxSteps := 1000000) [ty9, hsz]; refine hK _ ?_; clear hK K
  (repeat refine ZQ ?_); refine awp_ret ?_; refine And.intro (Or.inr rfl) ?_
  have hem : (if l = [] then !decide (s = []) || !l.isEmpty else !l.isEmpty) = !(l ++ s).isEmpty := by
   cases l <;> cases s <;> simp
  have hnl : (l.isEmpty && s.isEmpty) = (l ++ s).isEmpty := by cases l <;> cases s <;> simp
  rw [hem, hnl]
  have hrows : List.map cB l ++ List.map (fun b => [C.int IntKind.u8 (b.toNat : Int)]) s = List.map cB (l ++ s) := by simp
  rw [hrows]
  generalize l ++ s = ls at *
  refine ⟨.tup [encI s.length, .any], [(10, 10, .live (bldO (.ptr 10 2 0 0) 1001 (l.length + s.length))), (1000, 1000, .dead), (1001, 14, .live (bufO ls))], ?_, shpX hσ (by simp [keysO, mT]) (by simp) (by simp) ?_, ?_, rfl⟩
  ·simp [retC, resC]
   rfl
  ·simp [SlotOk]
   exact ⟨.cons (by simp [mtl, mtc, mT]) (by simp) .nil, .same (all_purel_map fun _ => rfl)⟩
  ·simp [mtc, mtl, mT, C.isPure, purel]
 ·intro q hq
  simp only [List.mem_cons, List.not_mem_nil, or_false] at hq
  rcases hq with rfl | rfl | rfl <;> simp

set_option maxHeartbeats 8000000
set_option maxRecDepth 20000


theorem rows55 (nl fu : Bool) (L : List (List UInt8)) (hn : L.length ≤ 1000) (h60 : longB L ≤ 60) (hle : ∀ l ∈ L, l.length ≤ longB L) : Pure Tryz.prog 55 [sT nl fu L] (.sl L.isEmpty false ((rowsB L).map cS)) := by
 have hsz := fun l => S_size l
 obtain ⟨A, hA⟩ : ∃ A : Nat → Nat, ∀ i, A i = (L.take i).foldl (fun n l => max n l.length) 0 := ⟨_, fun _ => rfl⟩
 have hA0 : A 0 = 0 := by rw [hA]; rfl
 have hAs : ∀ i (hi : i < L.length), A (i + 1) = max (A i) L[i].length := fun i hi => by rw [hA, hA, List.take_succ_eq_append_getElem hi, List.foldl_append]; rfl
 have hAn : A L.length = longB L := by rw [hA, List.take_length]; rfl
 clear hA
 obtain ⟨B, hB⟩ : ∃ B : Nat → List (List UInt8), ∀ i, B i = (rowsB L).take i := ⟨_, fun _ => rfl⟩
 have hRl : (rowsB L).length = L.length := by simp [rowsB]
 have hB0 : B 0 = [] := by rw [hB]; rfl
 have hBl : ∀ i, i ≤ L.length → (B i).length = i := fun i hi => by rw [hB, List.length_take]; omega
 have hBs : ∀ i (hi : i < L.length), B (i + 1) = B i ++ [twoB L[i].length ++ L[i] ++ List.replicate (longB L - L[i].length) 32] := fun i hi => by
  rw [hB, hB, List.take_succ_eq_append_getElem (by omega)]; simp [rowsB, rowB]
 have hBn : B L.length = rowsB L := by rw [hB, List.take_of_length_le (by omega)]
 rw [← hBn]
 clear hB hRl hBn
 have hl60 : ∀ i (hi : i < L.length), L[i].length ≤ longB L := fun i hi => hle _ (List.getElem_mem hi)
 clear hle
 generalize longB L = wide at *
 refine ZF (fn := Tryz.f55) [.tmp 2] ⟨Tryz.func55, rfl, by kernel_rfl⟩ fun x hx hσ => ?_
 (repeat refine ZQ ?_); refine ZR fun K hK => ?_; simp (maxSteps := 1000000) [ty22]; refine hK _ ?_; clear hK K
 (repeat refine ZQ ?_); refine ZR fun K hK => ?_; simp (maxSteps := 1000000) [ty3]; refine hK _ ?_; clear hK K
 (repeat refine ZQ ?_); refine ZR fun K hK => ?_; simp (maxSteps := 1000000) [ty68]; refine hK _ ?_; clear hK K
 (repeat refine ZQ ?_); refine awp_block ?_
 refine awp_loop (fun i : Nat => ⟨ofL [(0, sT nl fu L), (3, encI (A i)), (9, sT nl fu L), (10, encI L.length), (11, encI i)], stoT []⟩)
  (fun i => i ≤ L.length) (fun i => L.length - i) 0 (Nat.zero_le _) ?_ ?_
 ·rw [hA0]
  exact ZW
 ·intro i hi
  (repeat refine ZQ ?_); refine ZR fun K hK => ?_; simp (maxSteps := 1000000) [ty3]; refine hK _ ?_; clear hK K
  (repeat refine ZQ ?_); refine ZC (fun hc => ?_) (fun hc => ?_)
  ·simp at hc
   have hst := hAs i hc
   have w1 : IntKind.i64.wrap ((i : Int) + 1) = ((i + 1 : Nat) : Int) := by rw [wrap_id (by omega) (by omega)]; rfl
   have hmx : (if (A i : Int) < (L[i].length : Int) then (L[i].length : Int) else (A i : Int)) = ((max (A i) L[i].length : Nat) : Int) := by split <;> omega
   refine awp_skip ?_
   (repeat refine ZQ ?_); refine awp_block ?_
   (repeat refine ZQ ?_); refine ZR fun K hK => ?_; simp (maxSteps := 1000000) [ty68, ty9, hc]; refine hK _ ?_; clear hK K
   (repeat refine ZQ ?_); refine ZR fun K hK => ?_; simp (maxSteps := 1000000) [ty9, ty3, hsz, hmx]; refine hK _ ?_; clear hK K
   (repeat refine ZQ ?_); refine ZR fun K hK => ?_; simp (maxSteps := 1000000) [ty3]; refine hK _ ?_; clear hK K; (first | show AWP _ _ _ _ _ | show ∃ _, _ | skip)
   refine ⟨i + 1, by omega, by omega, ?_⟩
   rw [hst, w1]
   exact ZW
  ·simp at hc
   (repeat refine ZQ ?_); refine awp_exit ?_; (first | show AWP _ _ _ _ _ | show ∃ _, _ | skip)
   have hin : i = L.length := by omega
   rw [hin, hAn]
   (repeat refine ZQ ?_); refine ZR fun K hK => ?_; simp (maxSteps := 1000000) [ty22]; refine hK _ ?_; clear hK K
   (repeat refine ZQ ?_); refine ZR fun K hK => ?_; simp (maxSteps := 1000000) [ty68]; refine hK _ ?_; clear hK K
   (repeat refine ZQ ?_); refine awp_block ?_
   refine AWP.weak ?_ (wk_nil 6 6 1 (fu := true) (by simp) (by simp))
   refine awp_loop (fun i : Nat => ⟨ofL [(3, encI wide), (6, .own 6 1 0 i), (20, sT nl fu L), (21, encI L.length), (22, encI i)], stoT [(6, 6, .live ⟨(B i).isEmpty, false, 1, (B i).map cS⟩)]⟩)
    (fun i => i ≤ L.length) (fun i => L.length - i) 0 (Nat.zero_le _) ?_ ?_
   ·rw [hB0]
    exact ZW
   ·intro i hi
    have hBi := hBl i hi
    (repeat refine ZQ ?_); refine ZR fun K hK => ?_; simp (maxSteps := 1000000) [ty3]; refine hK _ ?_; clear hK K
    (repeat refine ZQ ?_); refine ZC (fun hd => ?_) (fun hd => ?_)
    ·simp at hd
     have hst := hBs i hd
     have hlw := hl60 i hd
     have w1 : IntKind.i64.wrap ((i : Int) + 1) = ((i + 1 : Nat) : Int) := by rw [wrap_id (by omega) (by omega)]; rfl
     have w2 : IntKind.i64.wrap ((wide : Int) - (L[i].length : Int)) = ((wide - L[i].length : Nat) : Int) := by rw [wrap_id (by omega) (by omega)]; omega
     have c1 := two86 L[i].length (by omega)
     have c2 := repeat87 (wide - L[i].length) (by omega)
     have a1 := str_add (a := twoB L[i].length) (b := L[i]) (by simp [twoB]; omega)
     have a2 := str_add (a := twoB L[i].length ++ L[i]) (b := List.replicate (wide - L[i].length) 32) (by simp [twoB]; omega)
     have hsi := hsz L[i]
     generalize twoB L[i].length = t1 at *
     generalize wide - L[i].length = n1 at *
     generalize List.replicate n1 (32 : UInt8) = t2 at *
     generalize B i = acc at *
     refine awp_skip ?_
     (repeat refine ZQ ?_); refine awp_block ?_
     (repeat refine ZQ ?_); refine ZR fun K hK => ?_; simp (maxSteps := 1000000) [ty68, ty9, hd]; refine hK _ ?_; clear hK K
     (repeat refine ZQ ?_); refine ZR fun K hK => ?_; simp (maxSteps := 1000000) [ty9, ty3, hsi]
     refine ZP (c1) ?_; simp (maxSteps := 1000000) [ty9, ty3, hsi, a1, w2, -strBin]
     refine ZP (c2) ?_; simp (maxSteps := 1000000) [ty9, ty3, ty22, hsi, a1, a2, w2, -strBin]
     refine ⟨by omega, ?_⟩
     refine hK _ ?_; clear hK K
     (repeat refine ZQ ?_); refine ZR fun K hK => ?_; simp (maxSteps := 1000000) [ty3]; refine hK _ ?_; clear hK K; (first | show AWP _ _ _ _ _ | show ∃ _, _ | skip)
     refine ⟨i + 1, by omega, by omega, ?_⟩
     rw [hst, w1]
     refine wk_shape2 [(6, 39, .live ⟨(acc ++ [t1 ++ L[i] ++ t2]).isEmpty, false, 1, (acc ++ [t1 ++ L[i] ++ t2]).map cS⟩)] (by first | rfl | (simp only [if_pos, if_true]; rfl)) (shp0 hσ (by simp) (by simp) ?_) ?_
     ·simp [SlotOk] <;> (repeat' (first | (refine RowsOk.same ?_; simp [purel, C.isPure]; done) | (refine rowsCons ?_; simp [mtl, mtc, mT, mH, C.isPure, purel]; done) | (refine rowsCons ?_; simp [mtl, mtc, mT, mH, C.isPure, purel]) | refine And.intro ?_ ?_))
     ·simp [mtc, mtl, mT, C.isPure, purel] <;> (try simp (disch := omega) [wrap_id]) <;> (try omega)
    ·simp at hd
     (repeat refine ZQ ?_); refine awp_exit ?_; (first | show AWP _ _ _ _ _ | show ∃ _, _ | skip)
     have hin : i = L.length := by omega
     rw [hin] at hBi ⊢
     have hem : (B L.length).isEmpty = L.isEmpty := by
      cases h1 : B L.length <;> cases h2 : L <;> rw [h1, h2] at hBi <;> simp at hBi <;> rfl
     (repeat refine ZQ ?_); refine ZR fun K hK => ?_; simp (maxSteps := 1000000) [ty22]; refine hK _ ?_; clear hK K
     (repeat refine ZQ ?_); refine awp_ret ?_; refine And.intro (Or.inr rfl) ?_
     have ht : List.take L.length ((B L.length).map cS) = (B L.length).map cS := List.take_of_length_le (by simp; omega)
     simp [retC, resC, viewC, mapO, purel, C.isPure, hem, hBi, ht]

set_option maxHeartbeats 8000000
set_option maxRecDepth 20000


theorem once59 (i : Nat) : Pure Tryz.prog 59 [encI i] (encI 1) := by
 refine ZF (fn := Tryz.f59) [.tmp 2] ⟨Tryz.func59, rfl, by kernel_rfl⟩ fun x hx hσ => ?_
 (repeat refine ZQ ?_); refine ZR fun K hK => ?_; simp (maxSteps := 1000000) [ty3]; refine hK _ ?_; clear hK K
 (repeat refine ZQ ?_); refine ZR fun K hK => ?_; simp (maxSteps := 1000000) [ty3]; refine hK _ ?_; clear hK K
 (repeat refine ZQ ?_); refine awp_ret ?_; refine And.intro (Or.inr rfl) ?_
 simp [retC, resC, viewC, mapO]
theorem place60 (i : Nat) (hi : i ≤ 1000) : Pure Tryz.prog 60 [encI i] (encI ((i : Int) + 1)) := by
 have w1 : IntKind.i64.wrap ((i : Int) + 1) = (i : Int) + 1 := wrap_id (by omega) (by omega)
 refine ZF (fn := Tryz.f60) [.tmp 2] ⟨Tryz.func60, rfl, by kernel_rfl⟩ fun x hx hσ => ?_
 (repeat refine ZQ ?_); refine ZR fun K hK => ?_; simp (maxSteps := 1000000) [ty3]; refine hK _ ?_; clear hK K
 (repeat refine ZQ ?_); refine ZR fun K hK => ?_; simp (maxSteps := 1000000) [ty3, w1]; refine hK _ ?_; clear hK K
 (repeat refine ZQ ?_); refine awp_ret ?_; refine And.intro (Or.inr rfl) ?_
 simp [retC, resC, viewC, mapO]

def colsB (R : List (List UInt8)) (wt : Bool) (n i j : Nat) : List Int := (List.range n).map fun k => colS R wt k (if k < j then i + 1 else i)

theorem colsB_len (R : List (List UInt8)) (wt : Bool) (n i j : Nat) : (colsB R wt n i j).length = n := by simp [colsB]
theorem colsB_get (R : List (List UInt8)) (wt : Bool) (n i j k : Nat) (h : k < n) : (colsB R wt n i j)[k]? = some (colS R wt k (if k < j then i + 1 else i)) := by simp [colsB, h]
theorem colsB_set (R : List (List UInt8)) (wt : Bool) (n i j : Nat) : (colsB R wt n i j).set j (colS R wt j (i + 1)) = colsB R wt n i (j + 1) := by
 apply List.ext_getElem?
 intro k
 by_cases hk : k < n
 ·rw [List.getElem?_set, colsB_get _ _ _ _ _ _ hk, colsB_get _ _ _ _ _ _ hk, colsB_len]
  by_cases e : j = k
  ·subst e; simp [hk]
  ·rw [if_neg e]
   by_cases h1 : k < j
   ·rw [if_pos h1, if_pos (by omega)]
   ·rw [if_neg h1, if_neg (by omega)]
 ·rw [List.getElem?_eq_none (by rw [List.length_set, colsB_len]; omega), List.getElem?_eq_none (by rw [colsB_len]; omega)]
theorem colsB_next (R : List (List UInt8)) (wt : Bool) (n i : Nat) : colsB R wt n i n = colsB R wt n (i + 1) 0 := by
 unfold colsB
 refine List.map_congr_left fun k hk => ?_
 rw [if_pos (List.mem_range.1 hk), if_neg (by omega)]

theorem q_sums58 (nl fu wt : Bool) (f : Nat) (R : List (List UInt8)) (n : Nat) (h : RowsOk14 R n) (h2 : 1 ≤ n) (hf : ∀ i : Nat, i < 50 → Pure Tryz.prog f [encI i] (encI (wgt wt i))) : Pure Tryz.prog 58 [sT nl fu R, .fn (.func f) [] []] (encS (sumsB R wt)) := by
 have hsz := fun l => S_size l
 have hpos : 0 < R.length := h.many.1
 have hr0 : R[0].length = n := h.len _ (List.getElem_mem _)
 have hnil : ¬ R = [] := by rintro e; rw [e] at hpos; simp at hpos
 have hm := h.many.2
 have hwd := h.wide
 have hV : sumsB R wt = sumsTo R wt n := by
  unfold sumsB
  have e : R.headD [] = R[0] := by cases R with
   | nil => exact absurd rfl hnil
   | cons a b => rfl
  rw [e, hr0]
 rw [hV]
 have hsl := sumsTo_len R wt
 have hst0 : sumsTo R wt 0 = [] := rfl
 have hsts : ∀ k, sumsTo R wt (k + 1) = sumsTo R wt k ++ twoB (colS R wt k R.length % 97).toNat := fun k => rfl
 have hcs : ∀ k i, colS R wt k (i + 1) = colS R wt k i + valB (atB R i k) * wgt wt i := fun k i => rfl
 have hcb := fun k (hk : k < n) i (hi : i ≤ R.length) => col_bd h wt hk i hi
 have hav := fun i k (hi : i < R.length) (hk : k < n) => at_val h hi hk
 have hlen := fun i (hi : i < R.length) => h.len _ (List.getElem_mem hi)
 have hV0 : colsB R wt n 0 0 = List.replicate n 0 := by
  unfold colsB
  rw [List.eq_replicate_iff]
  simp [colS]
 have hVl := colsB_len R wt n
 have hVg := colsB_get R wt n
 have hVs := colsB_set R wt n
 have hVn := colsB_next R wt n
 clear hV
 generalize sumsTo R wt = T at *
 generalize colS R wt = K at *
 generalize colsB R wt n = V at *
 refine ZF (fn := Tryz.f58) [.tmp 4] ⟨Tryz.func58, rfl, by kernel_rfl⟩ fun x hx hσ => ?_
 (repeat refine ZQ ?_); refine ZR fun K hK => ?_; simp (maxSteps := 1000000) [ty9]; refine hK _ ?_; clear hK K
 (repeat refine ZQ ?_); refine ZR fun K hK => ?_; simp (maxSteps := 1000000) [ty22, ty9, ty33, ty3, hpos, hnil, hsz, hr0]
 refine ⟨by omega, ?_⟩
 refine hK _ ?_; clear hK K
 (repeat refine ZQ ?_); refine ZR fun K hK => ?_; simp (maxSteps := 1000000) [ty22]; refine hK _ ?_; clear hK K
 (repeat refine ZQ ?_); refine awp_block ?_
 refine awp_loop (fun i : Nat => ⟨ofL [(0, sT nl fu R), (1, .fn (.func f) [] []), (5, .own 17 1 0 n), (18, sT nl fu R), (19, encI R.length), (20, encI i)], stoT [(17, 17, .live ⟨false, false, 1, (V i 0).map cI⟩)]⟩)
  (fun i => i ≤ R.length) (fun i => R.length - i) 0 (Nat.zero_le _) ?_ ?_
 ·rw [hV0]
  exact ZW
 ·intro i hi
  (repeat refine ZQ ?_); refine ZR fun K hK => ?_; simp (maxSteps := 1000000) [ty3]; refine hK _ ?_; clear hK K
  (repeat refine ZQ ?_); refine ZC (fun hc => ?_) (fun hc => ?_)
  ·simp at hc
   have hli := hlen i hc
   have hcv := values88 R[i] (by omega)
   have hwi := hf i (by omega)
   have w9 : IntKind.i64.wrap ((i : Int) + 1) = ((i + 1 : Nat) : Int) := by rw [wrap_id (by omega) (by omega)]; rfl
   have hmv : (R[i].map valB).length = n := by simp [hli]
   have hne : R[i].isEmpty = false := by cases hq : R[i] <;> rw [hq] at hli <;> simp at hli ⊢; omega
   rw [hne] at hcv
   have hgv : ∀ j (hj : j < n) (h : j < (R[i].map valB).length), (R[i].map valB)[j] = valB (atB R i j) := fun j hj h => by
    obtain ⟨hk', e, _⟩ := hav i j hc hj
    rw [e]; simp
   have hbv : ∀ j (hj : j < n), 0 ≤ valB (atB R i j) ∧ valB (atB R i j) ≤ 94 := fun j hj => (hav i j hc hj).2.2
   have hKs := fun j => hcs j i
   generalize List.map valB R[i] = L at *
   refine awp_skip ?_
   (repeat refine ZQ ?_); refine awp_block ?_
   (repeat refine ZQ ?_); refine ZR fun K hK => ?_; simp (maxSteps := 1000000) [ty22, ty9, hc]; refine hK _ ?_; clear hK K
   (repeat refine ZQ ?_); refine ZR fun K hK => ?_; simp (maxSteps := 1000000) [ty9, ty33, ty3]
   refine ZP (hcv) ?_; simp (maxSteps := 1000000) [ty33, ty3, hmv]
   refine hK _ ?_; clear hK K
   (repeat refine ZQ ?_); refine awp_block ?_
   refine awp_loop (fun j : Nat => ⟨ofL [(0, sT nl fu R), (1, .fn (.func f) [] []), (5, .own 17 1 0 n), (6, encI i), (18, sT nl fu R), (19, encI R.length), (20, encI i), (26, .sl false false (L.map cI)), (27, encI n), (28, encI j)], stoT [(17, 17, .live ⟨false, false, 1, (V i j).map cI⟩)]⟩)
    (fun j => j ≤ n) (fun j => n - j) 0 (Nat.zero_le _) ?_ ?_
   ·exact ZW
   ·intro j hj
    (repeat refine ZQ ?_); refine ZR fun K hK => ?_; simp (maxSteps := 1000000) [ty3]; refine hK _ ?_; clear hK K
    (repeat refine ZQ ?_); refine ZC (fun hd => ?_) (fun hd => ?_)
    ·simp at hd
     have hb := hbv j hd
     have hg := hgv j hd (by omega)
     have hVj := hVl i j
     have hgj := hVg i j j hd
     rw [if_neg (by omega)] at hgj
     have hset := hVs i j
     have hK0 := hcb j hd i (by omega)
     have hKj := hKs j
     generalize valB (atB R i j) = z at *
     have hw50 : 1 ≤ wgt wt i ∧ wgt wt i ≤ 51 := by unfold wgt; split <;> omega
     generalize wgt wt i = wg at *
     have m1 : z * wg ≤ 94 * wg := Int.mul_le_mul_of_nonneg_right hb.2 (by omega)
     have m2 : 0 ≤ z * wg := Int.mul_nonneg hb.1 (by omega)
     have w2 : IntKind.i64.wrap (z * wg) = z * wg := wrap_id (by omega) (by omega)
     have w3 : IntKind.i64.wrap (K j i + z * wg) = K j i + z * wg := wrap_id (by omega) (by omega)
     have w1 : IntKind.i64.wrap ((j : Int) + 1) = ((j + 1 : Nat) : Int) := by rw [wrap_id (by omega) (by omega)]; rfl
     rw [hKj] at hset
     have hgm : ((V i j).map cI)[j]? = some (cI (K j i)) := by rw [List.getElem?_map, hgj]; rfl
     have hsm : ((V i j).map cI).set j (cI (K j i + z * wg)) = (V i (j + 1)).map cI := by rw [← hset, List.map_set]
     generalize (V i j).map cI = Vj at *
     refine awp_skip ?_
     (repeat refine ZQ ?_); refine awp_block ?_
     (repeat refine ZQ ?_); refine ZR fun K hK => ?_; simp (maxSteps := 1000000) [ty33, ty3, hd, hmv, hg]; refine hK _ ?_; clear hK K
     (repeat refine ZQ ?_); refine ZD [2011, 10017] [0, 1, 2, 3, 4, 5, 6, 7, 8, 9, 10, 11] fun K hK => ?_; simp (maxSteps := 1000000) [ty33, ty3, hd, hVj, hgm]
     refine ZE (hwi) ?_; simp (maxSteps := 1000000) [ty3, ty33, hd, hVj, hgm, w2, w3, hsm]
     refine hK _ ?_; clear hK K
     (repeat refine ZQ ?_); refine ZR fun K hK => ?_; simp (maxSteps := 1000000) [ty3, w1]; refine hK _ ?_; clear hK K; (first | show AWP _ _ _ _ _ | show ∃ _, _ | skip)
     refine ⟨j + 1, by omega, by omega, ?_⟩
     exact ZW
    ·simp at hd
     (repeat refine ZQ ?_); refine awp_exit ?_; (first | show AWP _ _ _ _ _ | show ∃ _, _ | skip)
     have hjn : j = n := by omega
     rw [hjn, hVn]
     (repeat refine ZQ ?_); refine ZR fun K hK => ?_; simp (maxSteps := 1000000) [ty3, w9]; refine hK _ ?_; clear hK K; (first | show AWP _ _ _ _ _ | show ∃ _, _ | skip)
     refine ⟨i + 1, by omega, by omega, ?_⟩
     exact ZW
  ·simp at hc
   (repeat refine ZQ ?_); refine awp_exit ?_; (first | show AWP _ _ _ _ _ | show ∃ _, _ | skip)
   have hin : i = R.length := by omega
   rw [hin]
   have hVR := hVl R.length 0
   have hgR : ∀ k (hk : k < n) (h : k < (V R.length 0).length), (V R.length 0)[k] = K k R.length := fun k hk h => by
    have := hVg R.length 0 k hk
    rw [List.getElem?_eq_getElem h, if_neg (by omega)] at this
    exact Option.some.inj this
   clear hVg hVl hVs hVn
   generalize V R.length 0 = VR at *
   (repeat refine ZQ ?_); refine ZR fun K hK => ?_; simp (maxSteps := 1000000) [ty64]; refine hK _ ?_; clear hK K; (first | show AWP _ _ _ _ _ | show ∃ _, _ | skip)
   refine AWP.weak ?_ (wk_nilCell 10 0 1 1000 1 (o := ⟨false, true, 2, [[.pnil, .sl true true []]]⟩) (row := [.pnil, .sl true true []]) (fu := true) (by simp) rfl rfl rfl (by simp) (by decide))
   (repeat refine ZQ ?_); refine ZR fun K hK => ?_; simp (maxSteps := 1000000) [ty33]; refine hK _ ?_; clear hK K
   (repeat refine ZQ ?_); refine awp_block ?_
   refine awp_loop (fun k : Nat => ⟨ofL [(5, .own 17 1 0 n), (10, .ptr 10 2 0 0), (46, .own 17 1 0 n), (47, encI n), (48, encI k)],
    stoT [(10, 10, .live (bldO (if k = 0 then .pnil else .ptr 10 2 0 0) 1000 (2 * k))), (17, 17, .live ⟨false, false, 1, VR.map cI⟩), (1000, 1000, .live (bufO (T k)))]⟩)
    (fun k => k ≤ n) (fun k => n - k) 0 (Nat.zero_le _) ?_ ?_
   ·rw [hst0]
    exact ZW
   ·intro k hk
    have hTl := hsl k
    (repeat refine ZQ ?_); refine ZR fun K hK => ?_; simp (maxSteps := 1000000) [ty3]; refine hK _ ?_; clear hK K
    (repeat refine ZQ ?_); refine ZC (fun hd => ?_) (fun hd => ?_)
    ·simp at hd
     have hst := hsts k
     have hTl1 := hsl (k + 1)
     have hgk := hgR k hd (by omega)
     have hKb := hcb k hd R.length (Nat.le_refl _)
     obtain ⟨m, hmm⟩ : ∃ m : Nat, K k R.length = m := ⟨(K k R.length).toNat, by omega⟩
     rw [hmm] at hst hgk
     have r1 : Int.tmod (m : Int) 97 = ((m % 97 : Nat) : Int) := rfl
     have r2 : ((m : Int) % 97).toNat = m % 97 := by omega
     have hlt : m % 97 < 97 := Nat.mod_lt _ (by decide)
     rw [r2] at hst
     generalize m % 97 = q at *
     have w0 : IntKind.i64.wrap (q : Int) = q := wrap_id (by omega) (by omega)
     have w1 : IntKind.i64.wrap ((k : Int) + 1) = ((k + 1 : Nat) : Int) := by rw [wrap_id (by omega) (by omega)]; rfl
     have c2 := two86 q (by omega)
     have cw := wr37_10 (if k = 0 then .pnil else .ptr 10 2 0 0) (by split <;> simp) (T k) (twoB q) (by omega) (by simp [twoB])
     rw [← hst] at cw
     have h2q : (twoB q).length = 2 := by simp [twoB]
     rw [h2q, hTl, show 2 * k + 2 = 2 * (k + 1) by omega] at cw
     generalize twoB q = tq at *
     refine awp_skip ?_
     (repeat refine ZQ ?_); refine awp_block ?_
     (repeat refine ZQ ?_); refine ZR fun K hK => ?_; simp (maxSteps := 1000000) [ty33, ty3, hd, hVR, hgk]; refine hK _ ?_; clear hK K
     (repeat refine ZQ ?_); refine ZR fun K hK => ?_; simp (maxSteps := 1000000) [ty3, r1, w0]
     refine ZP (c2) ?_; simp (maxSteps := 1000000) [ty9, ty3]
     refine doesL (cw.does (by intro i hi; simp [keysO] at hi; rcases hi with rfl | rfl <;> simp [stoT, upd]) (by intro i hi; simp [keysS] at hi; rcases hi with rfl | rfl | rfl <;> simp [stoT, upd, keysO])) ?_
     simp [ty3, updS]
     refine hK _ ?_; clear hK K
     (repeat refine ZQ ?_); refine ZR fun K hK => ?_; simp (maxSteps := 1000000) [ty3, w1]; refine hK _ ?_; clear hK K; (first | show AWP _ _ _ _ _ | show ∃ _, _ | skip)
     refine ⟨k + 1, by omega, by omega, ?_⟩
     refine wk_shape2 [(10, 10, .live (bldO (.ptr 10 2 0 0) 1000 (2 * (k + 1)))), (17, 17, .live ⟨false, false, 1, VR.map cI⟩), (1000, 1001, .live (bufO (T (k + 1))))] (by first | rfl | (simp only [if_pos, if_true]; rfl)) (shp0 hσ (by simp) (by simp) ?_) ?_
     ·simp [SlotOk] <;> (repeat' (first | (refine RowsOk.same ?_; simp [purel, C.isPure]; done) | (refine rowsCons ?_; simp [mtl, mtc, mT, mH, C.isPure, purel]; done) | (refine rowsCons ?_; simp [mtl, mtc, mT, mH, C.isPure, purel]) | refine And.intro ?_ ?_))
     ·simp [mtc, mtl, mT, C.isPure, purel] <;> (try simp (disch := omega) [wrap_id]) <;> (try omega)
    ·simp at hd
     (repeat refine ZQ ?_); refine awp_exit ?_; (first | show AWP _ _ _ _ _ | show ∃ _, _ | skip)
     have hkn : k = n := by omega
     rw [hkn] at hTl ⊢
     have cs := str38 (σ := stoT [(10, 10, .live (bldO (if n = 0 then .pnil else .ptr 10 2 0 0) 1000 (2 * n))), (17, 17, .live ⟨false, false, 1, VR.map cI⟩), (1000, 1000, .live (bufO (T n)))]) 10 1000 (p := if n = 0 then .pnil else .ptr 10 2 0 0) (l := T n) (by rw [hTl]; rfl) rfl (by omega)
     (repeat refine ZQ ?_); refine ZR fun K hK => ?_; simp (maxSteps := 1000000) [ty9]
     refine doesL cs ?_
     simp [ty9]
     refine hK _ ?_; clear hK K
     (repeat refine ZQ ?_); refine awp_ret ?_; refine And.intro (Or.inr rfl) ?_
     simp [retC, resC, viewC, mapO]
end Go.Proofs.YtgnpcijgdhjfpaaGreatDoor

