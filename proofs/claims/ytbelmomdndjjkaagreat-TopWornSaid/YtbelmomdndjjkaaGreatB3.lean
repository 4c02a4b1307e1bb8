/- The machine of abstract values and the contracts of the functions of the program, which the statements of this seat share. No condition. -/
import Derived.Test.YtbelmomdndjjkaaGreatB2
import Derived.Shelf.SlIterI.Nil
import Derived.Shelf.SortM.Plain
import Derived.Shelf.SortM.SortNone
import Derived.Ground.GgzProg
import Derived.Ground.SlgmProg
import Derived.Test.YtbelmomdndjjkaaGreatProg
import Derived.Maps.RangeRun

set_option linter.unusedSimpArgs false
set_option linter.unusedVariables false
set_option linter.constructorNameAsVariable false

/- A round of a loop over a function: what a call of yield does, out of a walk of the loop's body. No condition. -/
namespace Go.Abs

/-- The objects that rounds work on, at each stage. -/
structure FamOk (L : Nat) (ks : List Nat) (fam : Nat → Nat → Slot) : Prop where
  lt : ∀ k ∈ ks, L < k
  nd : ks.Nodup
  out : ∀ i k, k ∉ ks → fam i k = .free
  st : ∀ i, ∀ k ∈ ks, fam i k ≠ .free
  wi : ∀ i k o, fam i k = .live o → o.rows.all (wil ks) = true
  ce : ∀ i k o, fam i k = .live o → o.rows.all (fun r => r.all C.cell) = true

/-- The store from L on, at a stage. -/
def stg (L : Nat) (fam : Nat → Nat → Slot) (stop i : Nat) : Nat → Slot := fun k => if k = L then (if i ≤ stop then .gh else .dead) else fam i k

/-- In a round. -/
def rfam (L : Nat) (fam : Nat → Nat → Slot) (i : Nat) : Nat → Slot := fun k => if k = L then .gh else fam i k

/-- What calls of yield do. -/
def yrel (L : Nat) (fam : Nat → Nat → Slot) (items : List (List C)) (stop l : Nat) : YRel := fun l' σ args r σ' =>
  l' = l ∧ ∃ i, i ≤ stop ∧ items[i]? = some args ∧ (∀ k, L ≤ k → σ k = stg L fam stop i k) ∧ r = .bool (i != stop) ∧ σ' = fun k => if L ≤ k then stg L fam stop (i + 1) k else σ k

section
variable {P : Program} {x : Ctx} {ρ : Nat → Nat} {σ : Nat → Slot} {w : World}

mutual
theorem pure_wi (ks : List Nat) : ∀ (c : C), c.isPure = true → c.wi ks = true
 | .any, h => by simp [C.isPure] at h
 | .own .., h => by simp [C.isPure] at h
 | .ptr .., h => by simp [C.isPure] at h
 | .mp .., h => by simp [C.isPure] at h
 | .fn f a b, h => by
  simp only [C.isPure, Bool.and_eq_true] at h
  simp only [C.wi, Bool.and_eq_true]
  exact ⟨purel_wil ks a h.1, purel_wil ks b h.2⟩
 | .agg l, h => by simp only [C.isPure] at h; simp only [C.wi]; exact purel_wil ks l h
 | .tup l, h => by simp only [C.isPure] at h; simp only [C.wi]; exact purel_wil ks l h
 | .int .., _ => rfl
 | .bool _, _ => rfl
 | .str _, _ => rfl
 | .pnil, _ => rfl
 | .fnil, _ => rfl
 | .sl .., _ => rfl
 | .ip .., _ => rfl
 | .md .., _ => rfl
 | .val _, _ => rfl
 | .mpin _, _ => rfl
theorem purel_wil (ks : List Nat) : ∀ (l : List C), purel l = true → wil ks l = true
 | [], _ => rfl
 | c :: l, h => by
  simp only [purel, Bool.and_eq_true] at h
  simp only [wil, Bool.and_eq_true]
  exact ⟨pure_wi ks c h.1, purel_wil ks l h.2⟩
end

mutual
theorem wi_mono {ks ks' : List Nat} (h : ∀ q, q ∈ ks → q ∈ ks') : ∀ (c : C), c.wi ks = true → c.wi ks' = true
 | .any, _ => rfl
 | .own .., g => by simp only [C.wi, List.contains_iff_mem] at g ⊢; exact h _ g
 | .ptr .., g => by simp only [C.wi, List.contains_iff_mem] at g ⊢; exact h _ g
 | .mp .., g => by simp only [C.wi, List.contains_iff_mem] at g ⊢; exact h _ g
 | .fn f a b, g => by
  simp only [C.wi, Bool.and_eq_true] at g ⊢
  exact ⟨wil_mono h a g.1, wil_mono h b g.2⟩
 | .agg l, g => by simp only [C.wi] at g ⊢; exact wil_mono h l g
 | .tup l, g => by simp only [C.wi] at g ⊢; exact wil_mono h l g
 | .int .., _ => rfl
 | .bool _, _ => rfl
 | .str _, _ => rfl
 | .pnil, _ => rfl
 | .fnil, _ => rfl
 | .sl .., _ => rfl
 | .ip .., _ => rfl
 | .md .., _ => rfl
 | .val _, _ => rfl
 | .mpin _, _ => rfl
theorem wil_mono {ks ks' : List Nat} (h : ∀ q, q ∈ ks → q ∈ ks') : ∀ (l : List C), wil ks l = true → wil ks' l = true
 | [], _ => rfl
 | c :: l, g => by
  simp only [wil, Bool.and_eq_true] at g ⊢
  exact ⟨wi_mono h c g.1, wil_mono h l g.2⟩
end

/-- The record of a loop is set. -/
theorem Frm.setLoop {l : Nat} {r r' : Loop} {lp : List (Nat × Obj × Nat × Obj)} (h : Frm x ρ σ w) (hl : w.heap[l]? = some (.loop r)) (hex : l ∈ x.ex ∨ x.w.heap.size ≤ l)
    (hrc : ∀ p ∈ lp, p.1 ∈ x.ex ∧ x.σ p.2.2.1 ≠ .free ∧ ((σ p.2.2.1 = .gh ∧ (w.putObj l (.loop r')).heap[p.1]? = some p.2.1) ∨ (σ p.2.2.1 = .dead ∧ (w.putObj l (.loop r')).heap[p.1]? = some p.2.2.2))) :
    Keeps (x.Gd ρ σ) (x.Gd ρ σ) ρ ρ σ σ w (w.putObj l (.loop r')) ∧ Frm { x with lp := lp } ρ σ (w.putObj l (.loop r')) := by
  have hlt := (Array.getElem?_eq_some_iff.1 hl).1
  have hsz : (w.putObj l (.loop r')).heap.size = w.heap.size := by simp [World.putObj]
  have hne : ∀ k o, σ k = .live o → o.nl = false → ρ k ≠ l := by
    rintro k o h1 h2 rfl
    have := (h.sto.ob k o h1 h2).noOdd hl
    simp [oddO] at this
  have hK0 : Keeps0 (x.Gd ρ σ) (x.Gd ρ σ) ρ ρ σ σ w (w.putObj l (.loop r')) := by
    refine ⟨fun b hb hlt' => ⟨hb, by omega, ?_⟩, fun k hk => hk, fun k o hk => .inr ⟨o, hk, rfl, rfl, rfl, fun hn => ⟨rfl, fun cs el fz hc => ?_⟩⟩⟩
    · by_cases e : b = l
      · subst e; exact .inr ⟨_, _, hl, World.putObj_heap_same hlt, rfl, rfl⟩
      · exact .inl (World.putObj_heap_other e)
    · rw [World.putObj_heap_other (hne k o hk hn)] at hc
      exact ⟨_, _, _, hc, Nat.le_refl _⟩
  have hK : Keeps (x.Gd ρ σ) (x.Gd ρ σ) ρ ρ σ σ w (w.putObj l (.loop r')) := .of (fun D hD => by
    have hDl : D ≠ l := by
      intro e
      rw [e, hl] at hD; simp at hD
    rw [World.putObj_heap_other hDl]; exact hD) hK0
  refine ⟨hK, ⟨⟨fun k o hk hn => (h.sto.ob k o hk hn).keeps hK0 (World.putObj_heap_other (hne k o hk hn)), h.sto.nil, h.sto.inj⟩, h.own, fun b hlt' hnb hbx => ?_, ⟨fun b hb => ⟨(h.rcd.loop b hb).1, ?_⟩, hrc, fun p hp => by
    obtain ⟨⟨m, s0, a0, c0, e1⟩, e2⟩ := h.rcd.itr p hp
    refine ⟨⟨m, s0, a0, c0, e1⟩, ?_⟩
    have hpl : p.1 ≠ l := by
      intro e
      rw [e, hl, e1] at e2; cases e2
    rw [World.putObj_heap_other hpl]; exact e2⟩, by rw [hsz]; exact h.size, h.os, h.tape, h.output, h.hist.trans hK0⟩⟩
  · have hbl : b ≠ l := by
      intro e
      rcases hex with e1 | e1
      · exact hbx (e ▸ e1)
      · have hlt2 : b < x.w.heap.size := hlt'
        omega
    rw [World.putObj_heap_other hbl]
    exact h.frame b hlt' hnb hbx
  · by_cases e : b = l
    · exact ⟨r', by rw [e]; exact World.putObj_heap_same hlt⟩
    · obtain ⟨q, hq⟩ := (h.rcd.loop b hb).2
      exact ⟨q, by rw [World.putObj_heap_other e]; exact hq⟩

/-- The slots of a round as it begins. -/
def putPs (env : Nat → C) : List Nat → List C → Nat → C
  | p :: ps, c :: cs => putPs (upd env p c) ps cs
  | _, _ => env

theorem putPs_sound {G : Nat → Prop} {nt : Nat} : ∀ (ps : List Nat) (cs : List C) (us : List Value) (env : Nat → C) (t : Array Value), cs.length = us.length → t.size = nt → (∀ q, q < nt → CR G ρ σ w (env q) (t.getD q undef)) →
  (∀ (i : Nat) (c : C) (u : Value), cs[i]? = some c → us[i]? = some u → CR G ρ σ w c u) →
  ((ps.zip us).foldl (fun t (p, v) => t.setIfInBounds p v) t).size = nt ∧ ∀ q, q < nt → CR G ρ σ w (putPs env ps cs q) (((ps.zip us).foldl (fun t (p, v) => t.setIfInBounds p v) t).getD q undef)
 | [], cs, us, env, t, _, ht, he, _ => by
  simp only [List.zip_nil_left, List.foldl_nil]
  exact ⟨ht, fun q hq => by unfold putPs; exact he q hq⟩
 | p :: ps, [], us, env, t, hl, ht, he, _ => by
  have : us = [] := List.eq_nil_of_length_eq_zero (by simpa using hl.symm)
  subst this
  simp only [List.zip_nil_right, List.foldl_nil]
  exact ⟨ht, fun q hq => by unfold putPs; exact he q hq⟩
 | p :: ps, c :: cs, [], env, t, hl, ht, he, _ => by simp at hl
 | p :: ps, c :: cs, u :: us, env, t, hl, ht, he, hc => by
  simp only [List.zip_cons_cons, List.foldl_cons, putPs]
  refine putPs_sound ps cs us (upd env p c) (t.setIfInBounds p u) (by simpa using hl) (by simpa using ht) (fun q hq => ?_) fun i d v h1 h2 => hc (i + 1) d v (by simpa using h1) (by simpa using h2)
  by_cases hqp : q = p
  ·subst hqp
   rw [upd_same, Array.getD_eq_getD_getElem?, Array.getElem?_setIfInBounds_self_of_lt (by omega)]
   exact hc 0 c u rfl rfl
  ·rw [upd_ne _ _ hqp, Array.getD_eq_getD_getElem?, Array.getElem?_setIfInBounds_ne (Ne.symm hqp), ← Array.getD_eq_getD_getElem?]
   exact he q hq

/-- The slot of a loop that is over. -/
theorem Frm.over {L : Nat} (h : Frm x ρ σ w) (hL : σ L = .gh) (hlp : ∀ p ∈ x.lp, p.2.2.1 ≠ L) : Frm x ρ (upd σ L .dead) w ∧ Keeps (x.Gd ρ σ) (x.Gd ρ (upd σ L .dead)) ρ ρ σ (upd σ L .dead) w w := by
  have hlv : ∀ k o, upd σ L .dead k = .live o ↔ σ k = .live o := by
    intro k o
    by_cases e : k = L
    · subst e; rw [upd_same, hL]; simp
    · rw [upd_ne _ _ e]
  have hown : ∀ b, Owned ρ (upd σ L .dead) b ↔ Owned ρ σ b := by
    intro b
    constructor
    · rintro ⟨k, o, e1, e2, e3⟩; exact ⟨k, o, (hlv k o).1 e1, e2, e3⟩
    · rintro ⟨k, o, e1, e2, e3⟩; exact ⟨k, o, (hlv k o).2 e1, e2, e3⟩
  have hK : Keeps (x.Gd ρ σ) (x.Gd ρ (upd σ L .dead)) ρ ρ σ (upd σ L .dead) w w := by
    refine .of (fun D hD => hD) ⟨fun b hb hlt => ⟨⟨hb.1, fun ho => hb.2 ((hown b).1 ho)⟩, hlt, .inl rfl⟩, fun k hk => ?_, fun k o hk => .inr ⟨o, (hlv k o).2 hk, rfl, rfl, rfl, fun hn => ⟨rfl, fun cs el fz hc => ⟨_, _, _, hc, Nat.le_refl _⟩⟩⟩⟩
    by_cases e : k = L
    · subst e; simp
    · rw [upd_ne _ _ e]; exact hk
  refine ⟨⟨⟨fun k o hk hn => (h.sto.ob k o ((hlv k o).1 hk) hn).keeps hK.toKeeps0 rfl, fun k o hk hn => h.sto.nil k o ((hlv k o).1 hk) hn, fun k k' o o' hk hk' hn hn' he => h.sto.inj k k' o o' ((hlv k o).1 hk) ((hlv k' o').1 hk') hn hn' he⟩,
    fun b hb => h.own b ((hown b).1 hb), h.frame, ⟨h.rcd.loop, fun p hp => ?_, h.rcd.itr⟩, h.size, h.os, h.tape, h.output, h.hist.trans hK.toKeeps0⟩, hK⟩
  obtain ⟨h1, h2, h3⟩ := h.rcd.rdy p hp
  refine ⟨h1, h2, ?_⟩
  rw [upd_ne _ _ (hlp p hp)]
  exact h3

/-- How a body is left. -/
def jumpOf : Exit → Option Code
  | .ret => some .ret
  | .exit id => some (.exit id)
  | .goto t => some (.goto t)
  | _ => none

/-- The context of a round. -/
structure RndX (y : Ctx) (nt l L : Nat) (τ : Nat → Slot) (Yo : YRel) (exx : List Nat) (lpx : List (Nat × Obj × Nat × Obj)) : Prop where
  nt : y.nt = nt
  rnd : y.rnd = some l
  σ : y.σ = τ
  Y : y.Y = Yo
  ex : y.ex = l :: exx
  lp : ∃ o o', y.lp = (l, o, L, o') :: lpx

/-- At a round's end. -/
def rndQ (y : Ctx) (L : Nat) (fam : Nat → Nat → Slot) (stop : Nat) (jc : Code) (i : Nat) : Exit → AS → Prop := fun e s' =>
  (if i = stop then jumpOf e = some jc else e = .normal) ∧ Wk y s' ⟨fun _ => .any, rfam L fam (i + 1)⟩

end
end Go.Abs

/- A round of a loop over a function, out of a walk of the loop's body. No condition. -/
namespace Go.Abs
section
variable {P : Program}

theorem Frm.lps {x : Ctx} {ρ : Nat → Nat} {σ : Nat → Slot} {w : World} {n : Nat} {r : Option Nat} {Y : YRel} (h : Frm x ρ σ w) : Frm { x with nt := n, rnd := r, Y := Y } ρ σ w :=
 ⟨h.sto, h.own, h.frame, ⟨h.rcd.loop, h.rcd.rdy, h.rcd.itr⟩, h.size, h.os, h.tape, h.output, h.hist⟩

theorem res_rfam {L stop i : Nat} {ks : List Nat} {fam : Nat → Nat → Slot} {σ : Nat → Slot} (hfam : FamOk L ks fam) (hi : i ≤ stop) (hσ : ∀ k, L ≤ k → σ k = stg L fam stop i k) : resS (L :: ks) σ = rfam L fam i := by
 funext k
 by_cases hk : k = L
 ·subst hk
  rw [resS_in (by simp), hσ k (Nat.le_refl _)]
  simp [stg, rfam, hi]
 ·by_cases hm : k ∈ ks
  ·rw [resS_in (by simp [hm]), hσ k (Nat.le_of_lt (hfam.lt k hm))]
   simp [stg, rfam, hk]
  ·rw [resS_out (by simp [hk, hm])]
   simp [rfam, hk, hfam.out i k hm]

theorem ov_stg {L stop i : Nat} {ks : List Nat} {fam : Nat → Nat → Slot} {σ σ1 : Nat → Slot} (hfam : FamOk L ks fam) (hσ : ∀ k, L ≤ k → σ k = stg L fam stop i k) (h1 : σ1 L = if i + 1 ≤ stop then .gh else .dead) (h2 : ∀ k ∈ ks, σ1 k = fam (i + 1) k) :
  ovS (L :: ks) σ σ1 = fun k => if L ≤ k then stg L fam stop (i + 1) k else σ k := by
 funext k
 by_cases hk : k = L
 ·subst hk
  rw [ovS_in (by simp), h1, if_pos (Nat.le_refl _)]
  simp [stg]
 ·by_cases hm : k ∈ ks
  ·rw [ovS_in (by simp [hm]), h2 k hm, if_pos (Nat.le_of_lt (hfam.lt k hm))]
   simp [stg, hk]
  ·rw [ovS_out (by simp [hk, hm])]
   split
   ·rename_i hle
    rw [hσ k hle]
    simp [stg, hk, hfam.out _ k hm]
   ·rfl

/-- ONE ROUND. -/
theorem yc_round {fn : FuncId} {t0 : Array Value} {ps : Array Tmp} {assign body jc : Code} {D l L nt stop : Nat} {ks : List Nat} {fam : Nat → Nat → Slot} {items : List (List C)} {E : Nat → C} {t : Start} {Yo : YRel} {exx : List Nat} {lpx : List (Nat × Obj × Nat × Obj)}
    (hfam : FamOk L ks fam) (hps : ∀ args ∈ items, purel args = true ∧ args.length = ps.size) (hexl : l ∉ exx) (hlpx : ∀ p ∈ lpx, p.1 ∈ exx ∧ p.2.2.1 ∈ ks) (ht0 : t0.size = nt) (htk : ∀ k ∈ L :: ks, t.σ k ≠ .free)
    (hE : ∀ q, q < nt → CR t.G t.ρ t.σ t.w (E q) (t0.getD q undef)) (hEw : ∀ q, (E q).wi ks = true)
    (hYo : (∀ l σ args r σ', ¬ Yo l σ args r σ') ∨ ∃ (to : Start) (exo : List Nat) (lpo : List (Nat × Obj × Nat × Obj)), (∀ b ∈ exo, b ∈ exx) ∧ (∀ p ∈ lpo, p ∈ lpx) ∧ (∀ p ∈ lpx, p.1 ∈ exo → p ∈ lpo) ∧ (∀ p ∈ lpx, p ∉ lpo → to.σ p.2.2.1 = .free) ∧ (∀ k, to.σ k ≠ .free → k ∈ ks) ∧
      Keeps0 to.G t.G to.ρ t.ρ to.σ t.σ to.w t.w ∧ YC P Yo to exo lpo)
    (hround : ∀ i args, items[i]? = some args → i ≤ stop → ∀ y y2 : Ctx, RndX y nt l L (rfam L fam i) Yo exx lpx → RndX y2 nt l L (rfam L fam i) Yo exx lpx →
      AWP P y assign ⟨putPs E ps.toList args, rfam L fam i⟩ (nextQ (fun s' => s'.sto L = .gh ∧ AWP P y2 body s' (rndQ y2 L fam stop jc i)) fun _ _ => False)) :
    YC P (yrel L fam items stop l) t (l :: exx) ((l, .loop { state := .ready, pending := none, fn := fn, tmps := t0, params := ps, assign := assign, body := body, defers := D }, L, .loop { state := .done, pending := some jc, fn := fn, tmps := t0, params := ps, assign := assign, body := body, defers := D }) :: lpx) := by
  intro l' σ args r σ' hy z ρ w us hex hlp hlp' hlpf hF hK hus
  obtain ⟨rfl, i, hi, hit, hσ, rfl, rfl⟩ := hy
  obtain ⟨R, hR⟩ : ∃ R : Loop, R = { state := .ready, pending := none, fn := fn, tmps := t0, params := ps, assign := assign, body := body, defers := D } := ⟨_, rfl⟩
  obtain ⟨R2, hR2⟩ : ∃ R2 : Loop, R2 = { state := .done, pending := some jc, fn := fn, tmps := t0, params := ps, assign := assign, body := body, defers := D } := ⟨_, rfl⟩
  rw [← hR, ← hR2] at hlp hlp' hlpf
  have hgh : σ L = .gh := by rw [hσ L (Nat.le_refl _)]; simp [stg, hi]
  obtain ⟨hlz, hz1, hz3⟩ := hF.rcd.rdy (l', .loop R, L, .loop R2) (hlp _ (by simp))
  have hrec : w.heap[l']? = some (.loop R) := by
    rcases hz3 with ⟨_, e⟩ | ⟨e, _⟩
    · exact e
    · rw [hgh] at e; cases e
  have hlt := (Array.getElem?_eq_some_iff.1 hrec).1
  obtain ⟨hpu, hpl⟩ := hps args (List.mem_of_getElem? hit)
  have hsize : us.size = R.params.size := by rw [hR]; exact hus.1.trans hpl
  have hres := res_rfam hfam hi hσ
  have hLks : L ∉ ks := fun h => absurd (hfam.lt L h) (Nat.lt_irrefl _)
  have hrfk : ∀ {j k : Nat}, k ∈ ks → rfam L fam j k = fam j k := fun hk => by
    have := hfam.lt _ hk
    simp only [rfam]; rw [if_neg (by omega)]
  have hrfL : ∀ j, rfam L fam j L = .gh := fun j => by simp [rfam]
  have hpne : ∀ p ∈ lpx, p.1 ≠ l' := fun p hp e => hexl (e ▸ (hlpx p hp).1)
  -- the context of the round
  have hrec0 : ∀ lp : List (Nat × Obj × Nat × Obj), (∀ p ∈ lp, p ∈ lpx ∨ p = (l', .loop R, L, .loop R2)) → RecOk (subY z ρ σ w (L :: ks) (l' :: exx) lp) (resS (L :: ks) σ) w := by
    intro lp hlps
    refine ⟨fun b hb => ?_, fun p hp => ?_, fun p hp => by cases hp⟩
    · have := (hF.rcd.loop b (hex b hb)).2
      exact ⟨this, this⟩
    · rcases hlps p hp with h | h
      · obtain ⟨g1, g2, g3⟩ := hF.rcd.rdy p (hlp p (by simp [h]))
        have hm : p.2.2.1 ∈ L :: ks := by simp [(hlpx p h).2]
        refine ⟨by simp [(hlpx p h).1], ?_, ?_⟩
        · show resS (L :: ks) σ p.2.2.1 ≠ .free
          rw [resS_in hm]
          rcases g3 with ⟨e, _⟩ | ⟨e, _⟩ <;> rw [e] <;> simp
        · rw [resS_in hm]; exact g3
      · subst h
        refine ⟨by simp, ?_, .inl ⟨?_, hrec⟩⟩
        · show resS (L :: ks) σ L ≠ .free
          rw [resS_in (by simp), hgh]; simp
        · show resS (L :: ks) σ L = _
          rw [resS_in (by simp)]; exact hgh
  have hw0 : ∀ k ∈ L :: ks, ∀ o, σ k = .live o → o.rows.all (wil (L :: ks)) = true := by
    intro k hk o ho
    rcases List.mem_cons.1 hk with rfl | hk
    · rw [hgh] at ho; cases ho
    · rw [hσ k (Nat.le_of_lt (hfam.lt k hk))] at ho
      have hne : k ≠ L := by have := hfam.lt k hk; omega
      simp only [stg, if_neg hne] at ho
      have := hfam.wi i k o ho
      rw [List.all_eq_true] at this ⊢
      intro row hrow
      exact wil_mono (fun q hq => by simp [hq]) row (this row hrow)
  have hEy : ∀ q, q < nt → CR (z.Gd ρ σ) ρ σ w (E q) (t0.getD q undef) := fun q hq => (hE q hq).keeps0 hK
  obtain ⟨f0, hcr0⟩ := frm_res (hrec0 ((l', .loop R, L, .loop R2) :: lpx) (by intro p hp; rcases List.mem_cons.1 hp with h | h; exact .inr h; exact .inl h)) hF hw0
  obtain ⟨y, hyd⟩ : ∃ y : Ctx, y = { subY z ρ σ w (L :: ks) (l' :: exx) ((l', .loop R, L, .loop R2) :: lpx) with nt := nt, rnd := some l', Y := Yo } := ⟨_, rfl⟩
  obtain ⟨y2, hyd2⟩ : ∃ y2 : Ctx, y2 = { subY z ρ σ w (L :: ks) (l' :: exx) ((l', .loop { R with state := .busy }, L, .loop R2) :: lpx) with nt := nt, rnd := some l', Y := Yo } := ⟨_, rfl⟩
  have fy : Frm y ρ (rfam L fam i) w := by rw [hyd, ← hres]; exact f0.lps
  have hGd : ∀ ρ' τ b, y2.Gd ρ' τ b ↔ y.Gd ρ' τ b := by intro ρ' τ b; rw [hyd, hyd2]; exact Iff.rfl
  -- yields of outer loops
  have hYy : ∀ yy : Ctx, (∃ o o', yy = { subY z ρ σ w (L :: ks) (l' :: exx) ((l', o, L, o') :: lpx) with nt := nt, rnd := some l', Y := Yo }) → YOk P yy := by
    rintro yy ⟨o, o', rfl⟩
    rcases hYo with h | ⟨to, exo, lpo, g1, g2, g3, g3', g4, g5, g6⟩
    · exact .inl h
    · refine .inr ⟨to, exo, lpo, fun b hb => by simp [g1 b hb], fun p hp => by simp [g2 p hp], fun p hp he => ?_, fun p hp hn => ?_, fun k hk => ?_, ?_, g6⟩
      · rcases List.mem_cons.1 hp with h | h
        · subst h; exact absurd (g1 _ he) hexl
        · exact g3 p h he
      · rcases List.mem_cons.1 hp with h | h
        · subst h
          apply Classical.byContradiction
          intro hh
          exact hLks (g4 L hh)
        · exact g3' p h hn
      · have hm := g4 k hk
        show resS (L :: ks) σ k ≠ .free
        rw [resS_in (by simp [hm]), hσ k (Nat.le_of_lt (hfam.lt k hm))]
        have hne : k ≠ L := by have := hfam.lt k hm; omega
        simp only [stg, if_neg hne]
        exact hfam.st i k hm
      · have hk := g5.trans hK
        refine ⟨fun b hb hlt => ?_, fun k hd => ?_, fun k o hk' => ?_⟩
        · obtain ⟨q1, q2, q3⟩ := hk.pure b hb hlt
          refine ⟨⟨.inl q1, fun ho => q1.2 ?_⟩, q2, q3⟩
          obtain ⟨k, o, e1, e2, e3⟩ := ho
          exact ⟨k, o, (resS_live (ks := L :: ks) (σ := σ) e1 (by simp)).2, e2, e3⟩
        · have hm : k ∈ L :: ks := by simp [g4 k (by rw [hd]; simp)]
          show resS (L :: ks) σ k = .dead
          rw [resS_in hm]; exact hk.dead k hd
        · have hm : k ∈ L :: ks := by simp [g4 k (by rw [hk']; simp)]
          show resS (L :: ks) σ k = .dead ∨ ∃ o', resS (L :: ks) σ k = .live o' ∧ _
          rw [resS_in hm]; exact hk.live k o hk'
  have RX : RndX y nt l' L (rfam L fam i) Yo exx lpx := by rw [hyd]; exact ⟨rfl, rfl, hres, rfl, rfl, _, _, rfl⟩
  have RX2 : RndX y2 nt l' L (rfam L fam i) Yo exx lpx := by rw [hyd2]; exact ⟨rfl, rfl, hres, rfl, rfl, _, _, rfl⟩
  -- the slots as it begins
  have hslots := putPs_sound (G := y.Gd ρ (rfam L fam i)) (ρ := ρ) (σ := rfam L fam i) (w := w) (nt := nt) ps.toList args us.toList E t0 (by rw [hus.1.symm]; simp) ht0
    (fun q hq => by
      have := hcr0 _ _ (wi_mono (fun q hq => by simp [hq]) (E q) (hEw q)) (hEy q hq)
      rw [hres] at this
      rw [hyd]; exact this)
    (fun j c u h1 h2 => by
      have hj := hus.2 j c h1
      have hu : us.getD j undef = u := by
        rw [Array.getD_eq_getD_getElem?]
        have : us[j]? = some u := by simpa using h2
        rw [this]; rfl
      rw [hu] at hj
      have := hcr0 _ _ (pure_wi (L :: ks) c (purel_get hpu h1)) hj
      rw [hres] at this
      rw [hyd]; exact this)
  obtain ⟨T, hT⟩ : ∃ T, T = (R.params.zip us).foldl (fun tmps (p : Tmp × Value) => tmps.setIfInBounds p.1 p.2) R.tmps := ⟨_, rfl⟩
  have hTl : T = (ps.toList.zip us.toList).foldl (fun t (p : Nat × Value) => t.setIfInBounds p.1 p.2) t0 := by
    rw [hT, hR, ← Array.foldl_toList, Array.toList_zip]
  have hsim : Sim y ρ ⟨putPs E ps.toList args, rfam L fam i⟩ ⟨T, []⟩ w := by
    refine { fy with nt := ?_, defers := ⟨[], rfl, by simp, by simp⟩, inr := (fun l0 h => by rw [RX.rnd] at h; cases h; rw [RX.ex]; simp), env := fun q hq => ?_ }
    · rw [RX.nt, hTl]; exact hslots.1
    · rw [RX.nt] at hq
      rw [hTl]; exact hslots.2 q hq
  refine ⟨_, _, _, _, run_yield hrec hsize, ?_⟩
  refine roundIn_of_wpIn (F := Fx none) trivial ?_
  have hA := hround i args hit hi y y2 RX RX2 (hYy y ⟨_, _, hyd⟩) ρ ⟨T, []⟩ w hsim
  rw [RX.rnd] at hA
  have hR1 : R.assign = assign ∧ R.body = body := by rw [hR]; exact ⟨rfl, rfl⟩
  rw [hR1.1, hR1.2]
  have hTe : (R.params.zip us).foldl (fun tmps x => match x with | (t, a) => tmps.setIfInBounds t a) R.tmps = T := hT.symm
  rw [hTe]
  refine wpIn_mono (F := Fx (some l')) hA ?_
  rintro e a1 w1 ⟨ρ1, s1, hs1, hq⟩
  cases e with
  | normal =>
    obtain ⟨hL1, hq⟩ := hq
    have hrec1 : w1.heap[l']? = some (.loop R) := by
      have := hs1.rcd.rdy (l', .loop R, L, .loop R2) (by rw [hyd]; simp)
      rcases this.2.2 with ⟨_, e⟩ | ⟨e, _⟩
      · exact e
      · rw [hL1] at e; cases e
    refine ⟨_, run_beginRound hrec1 (by rw [hR]), ?_⟩
    obtain ⟨hk2, hf2⟩ := hs1.toFrm.setLoop (r' := { R with state := .busy }) (lp := (l', .loop { R with state := .busy }, L, .loop R2) :: lpx) hrec1 (.inl (by rw [RX.ex]; simp)) (fun p hp => by
      rcases List.mem_cons.1 hp with h | h
      · subst h
        refine ⟨by rw [RX.ex]; simp, by rw [RX.σ, hrfL]; simp, .inl ⟨hL1, World.putObj_heap_same (Array.getElem?_eq_some_iff.1 hrec1).1⟩⟩
      · obtain ⟨q1, q2, q3⟩ := hs1.rcd.rdy p (by rw [hyd]; simp [h])
        rw [World.putObj_heap_other (hpne p h)]
        exact ⟨q1, q2, q3⟩)
    have hs2 : Sim y2 ρ1 s1 a1 (w1.putObj l' (.loop { R with state := .busy })) := by
      have hf2' : Frm y2 ρ1 s1.sto (w1.putObj l' (.loop { R with state := .busy })) := by
        have := hf2
        rw [hyd] at this
        rw [hyd2]; exact this
      obtain ⟨Ds, d1, d2, d3⟩ := hs1.defers_keeps hk2
      refine { hf2' with nt := by rw [hs1.nt, RX.nt, RX2.nt], defers := ⟨Ds, d1, d2, fun D hD => ⟨?_, (d3 D hD).2⟩⟩, inr := (fun l0 h => by rw [RX2.rnd] at h; cases h; rw [RX2.ex]; simp), env := fun q hq => ?_ }
      · have := (d3 D hD).1
        rw [hyd] at this
        rw [hyd2]; exact this
      · have := (hs1.env q (by rw [RX.nt]; rw [RX2.nt] at hq; exact hq)).keeps hk2
        rw [hyd] at this
        rw [hyd2]; exact this
    have hB := hq (hYy y2 ⟨_, _, hyd2⟩) ρ1 a1 _ hs2
    rw [RX2.rnd] at hB
    refine wpIn_mono (F := Fx (some l')) hB ?_
    rintro e a3 w3 ⟨ρ3, s3, hs3, hcase, hwk⟩
    obtain ⟨ρ4, hs4⟩ := hwk ρ3 a3 w3 hs3
    have hbusy : w3.heap[l']? = some (.loop { R with state := .busy }) := by
      have := hs4.rcd.rdy (l', .loop { R with state := .busy }, L, .loop R2) (by rw [hyd2]; simp)
      rcases this.2.2 with ⟨_, e⟩ | ⟨e, _⟩
      · exact e
      · have e2 : rfam L fam (i + 1) L = .dead := e
        rw [hrfL] at e2; cases e2
    -- back to the function that called
    obtain ⟨fj, hfj⟩ : ∃ fj : Option Code → Loop, fj = fun jump => { R with state := if jump.isNone then .ready else .done, pending := jump } := ⟨_, rfl⟩
    have hset : ∀ jump : Option Code, Frm (subY z ρ σ w (L :: ks) (l' :: exx) lpx) ρ4 (rfam L fam (i + 1)) (w3.putObj l' (.loop (fj jump))) := by
      intro jump
      obtain ⟨hk5, hf5⟩ := hs4.toFrm.setLoop (r' := fj jump) (lp := lpx) hbusy (.inl (by rw [RX2.ex]; simp)) (fun p hp => by
        obtain ⟨q1, q2, q3⟩ := hs4.rcd.rdy p (by rw [hyd2]; simp [hp])
        rw [World.putObj_heap_other (hpne p hp)]
        exact ⟨q1, q2, q3⟩)
      have := hf5.lps (n := 0) (r := none) (Y := fun _ _ _ _ _ => False)
      rw [hyd2] at this
      exact this
    have back : ∀ (jump : Option Code) (σ1 : Nat → Slot), Frm (subY z ρ σ w (L :: ks) (l' :: exx) lpx) ρ4 σ1 (w3.putObj l' (.loop (fj jump))) → (∀ k, k ∉ L :: ks → σ1 k = .free) → (∀ k ∈ ks, σ1 k = fam (i + 1) k) → (σ1 L = if i + 1 ≤ stop then .gh else .dead) → (jump = none ↔ i ≠ stop) → (i = stop → jump = some jc) →
        ∃ v w', (Instr.endRound l' jump).run P w3 = .ok v w' ∧ ∃ v' ρ', Ending.returned v = .returned v' ∧ Keeps (z.Gd ρ σ) (z.Gd ρ' fun k => if L ≤ k then stg L fam stop (i + 1) k else σ k) ρ ρ' σ (fun k => if L ≤ k then stg L fam stop (i + 1) k else σ k) w w' ∧
          Frm z ρ' (fun k => if L ≤ k then stg L fam stop (i + 1) k else σ k) w' ∧ CR (z.Gd ρ' fun k => if L ≤ k then stg L fam stop (i + 1) k else σ k) ρ' (fun k => if L ≤ k then stg L fam stop (i + 1) k else σ k) w' (.bool (i != stop)) v' := by
      intro jump σ1 hf6 hout hin hL hj hjc
      refine ⟨_, _, run_endRound jump hbusy, ?_⟩
      have hfje : ({ ({ R with state := .busy } : Loop) with state := if jump.isNone then .ready else .done, pending := jump } : Loop) = fj jump := by rw [hfj]
      rw [hfje]
      have heq := ov_stg (σ := σ) (σ1 := σ1) hfam hσ hL hin
      have hnl : ∀ b r, w.heap[b]? = some (.loop r) → ¬ Owned ρ (resS (L :: ks) σ) b := by
        rintro b r hb ⟨k, o, e1, e2, rfl⟩
        have := (f0.sto.ob k o e1 e2).noOdd hb
        simp [oddO] at this
      obtain ⟨ρ', hK7, hF7, _⟩ := frm_ov (x := z) (fun b hb => ⟨(hF.rcd.loop b (hex b hb)).2, .inl (hex b hb)⟩) hF hout hf6 fun G' ρ' hk7 => by
        refine ⟨fun b hb => ⟨(hF.rcd.loop b hb).1, ?_⟩, fun p hp => ?_, fun p hp => ?_⟩
        rotate_right
        · obtain ⟨⟨m, s0, a0, c0, e1⟩, e2⟩ := hF.rcd.itr p hp
          refine ⟨⟨m, s0, a0, c0, e1⟩, ?_⟩
          have hno : ¬ Owned ρ (resS (L :: ks) σ) p.1 := by
            rintro ⟨k, o, q1, q2, q3⟩
            have h1 := (f0.sto.ob k o q1 q2).noOdd (by rw [q3]; exact e2)
            rw [e1] at h1; cases h1
          have hnx : p.1 ∉ l' :: exx := by
            intro hm
            obtain ⟨r, hr⟩ := (hF.rcd.loop p.1 (hex p.1 hm)).2
            rw [hr, e1] at e2; cases e2
          exact (hf6.frame p.1 (Array.getElem?_eq_some_iff.1 e2).1 hno hnx).trans e2
        · by_cases hm : b ∈ l' :: exx
          · exact (hf6.rcd.loop b hm).2
          · obtain ⟨r, hr⟩ := (hF.rcd.loop b hb).2
            exact ⟨r, (hf6.frame b (Array.getElem?_eq_some_iff.1 hr).1 (hnl b r hr) hm).trans hr⟩
        · obtain ⟨q1, q2, q3⟩ := hF.rcd.rdy p hp
          by_cases hm : p.1 ∈ l' :: exx
          · rcases List.mem_cons.1 (hlp' p hp hm) with h | h
            · subst h
              refine ⟨q1, q2, ?_⟩
              have hsm : (w3.putObj l' (.loop (fj jump))).heap[l']? = some (.loop (fj jump)) := World.putObj_heap_same (Array.getElem?_eq_some_iff.1 hbusy).1
              by_cases hst : i = stop
              · right
                refine ⟨by rw [ovS_in (by simp), hL, if_neg (by omega)], ?_⟩
                rw [hsm, hfj, hjc hst, hR, hR2]
                rfl
              · left
                refine ⟨by rw [ovS_in (by simp), hL, if_pos (by omega)], ?_⟩
                rw [hsm, hfj, hj.2 hst, hR]
                rfl
            · obtain ⟨g1, g2, g3⟩ := hf6.rcd.rdy p h
              have hmk : p.2.2.1 ∈ L :: ks := by simp [(hlpx p h).2]
              refine ⟨q1, q2, ?_⟩
              rw [ovS_in hmk]; exact g3
          · obtain ⟨r, hr⟩ := (hF.rcd.loop p.1 q1).2
            have hsame := hf6.frame p.1 (Array.getElem?_eq_some_iff.1 hr).1 (hnl _ r hr) hm
            refine ⟨q1, q2, ?_⟩
            rw [hsame]
            rcases q3 with ⟨e1, e2⟩ | ⟨e1, e2⟩
            · left
              refine ⟨?_, e2⟩
              by_cases hmk : p.2.2.1 ∈ L :: ks
              · refine absurd (hlpf p hp fun hin' => hm ?_) (htk _ hmk)
                rcases List.mem_cons.1 hin' with h | h
                · rw [h]; simp
                · simp [(hlpx p h).1]
              · rw [ovS_out hmk]; exact e1
            · exact .inr ⟨hk7.dead _ e1, e2⟩
      rw [heq] at hK7 hF7
      refine ⟨_, ρ', rfl, hK7, hF7, ?_⟩
      have hb : jump.isNone = (i != stop) := by
        rw [Bool.eq_iff_iff]
        simp [hj]
      rw [hb]
      exact .pure (.bool _)
    have hfo : ∀ k, k ∉ L :: ks → rfam L fam (i + 1) k = .free := by
      intro k hk
      simp only [List.mem_cons, not_or] at hk
      simp [rfam, hk.1, hfam.out _ k hk.2]
    by_cases hst : i = stop
    · rw [if_pos hst] at hcase
      obtain ⟨hfz, _⟩ := (hset (some jc)).over (L := L) (hrfL _) (fun p hp e => hLks (e ▸ (hlpx p hp).2))
      have hb := back (some jc) _ hfz (fun k hk => by
        simp only [List.mem_cons, not_or] at hk
        rw [upd_ne _ _ hk.1]; exact hfo k (by simp [hk])) (fun k hk => by
        rw [upd_ne _ _ (by have := hfam.lt k hk; omega)]; exact hrfk hk) (by rw [upd_same, if_neg (by omega)]) (by simp [hst]) (fun _ => rfl)
      cases e <;> simp only [jumpOf, Option.some.injEq, reduceCtorEq] at hcase
      all_goals
        subst hcase
        exact hb
    · rw [if_neg hst] at hcase
      subst hcase
      exact back none _ (hset none) hfo (fun k hk => hrfk hk) (by rw [hrfL, if_pos (by omega)]) (by simp [hst]) (fun h => absurd h hst)
  | _ => exact hq.elim

end
end Go.Abs

/- Iterators by contract, and the statement 'for .. := range f'. No condition. -/
namespace Go.Abs

/-- At which stage an iterator ends. -/
def finI (stop n : Nat) : Nat := if stop < n then stop + 1 else n

/-- THE CONTRACT OF AN ITERATOR: it calls yield with the items, one by one, until it is told to stop. -/
structure ItC (P : Program) (L : Nat) (gf : FuncId) (first caps : List C) (items : List (List C)) : Prop extends Callable P gf where
  run : ∀ (x : Ctx) (v1 v2 : Array Value) (l : Nat) (ks : List Nat) (fam : Nat → Nat → Slot) (stop : Nat), stop ≤ items.length → FamOk L ks fam → x.σ = stg L fam stop 0 → Frm x x.ρ x.σ x.w →
    CL (x.Gd x.ρ x.σ) x.ρ x.σ x.w first v1 → CL (x.Gd x.ρ x.σ) x.ρ x.σ x.w caps v2 →
    (∃ (t : Start) (ex : List Nat) (lp : List (Nat × Obj × Nat × Obj)), (∀ b ∈ ex, b ∈ x.ex) ∧ (∀ p ∈ lp, p ∈ x.lp) ∧ (∀ p ∈ x.lp, p.1 ∈ ex → p ∈ lp) ∧ (∀ p ∈ x.lp, p ∉ lp → t.σ p.2.2.1 = .free) ∧ (∀ k, t.σ k ≠ .free → x.σ k ≠ .free) ∧ Keeps0 t.G (x.Gd x.ρ x.σ) t.ρ x.ρ t.σ x.σ t.w x.w ∧ YC P (yrel L fam items stop l) t ex lp) →
    Calls P gf (v1 ++ #[.func (.yield l) #[] #[]] ++ v2) x.w fun e w' => ∃ v ρ', e = .returned v ∧ Frm x ρ' (stg L fam stop (finI stop items.length)) w'

theorem CL_app {G : Nat → Prop} {ρ : Nat → Nat} {σ : Nat → Slot} {w : World} {a b : List C} {v u : Array Value} (h : CL G ρ σ w a v) (g : CL G ρ σ w b u) : CL G ρ σ w (a ++ b) (v ++ u) := by
 refine ⟨by simp only [Array.size_append, List.length_append, h.1, g.1], fun i c hi => ?_⟩
 have e1 := h.1
 simp only [Array.getD_eq_getD_getElem?]
 by_cases g1 : i < a.length
 ·rw [List.getElem?_append_left g1] at hi
  rw [Array.getElem?_append_left (by omega)]
  have := h.2 i c hi
  simpa [Array.getD_eq_getD_getElem?] using this
 ·rw [List.getElem?_append_right (by omega)] at hi
  rw [Array.getElem?_append_right (by omega), e1]
  have := g.2 _ c hi
  simpa [Array.getD_eq_getD_getElem?] using this

section
variable {P : Program}

/-- AN ITERATOR'S CONTRACT FROM ITS BODY. -/
theorem it_of {f : FuncId} {fn : Func} {c : Code} {first caps : List C} {items : List (List C)} {L : Nat} (res : List ResultVar) (hf : FnIs P f fn c) (hlen : Nat.ble (first.length + 1 + caps.length) fn.ntmps = true) (hrs : fn.results.toList = res) (hres : resNt fn.ntmps res = true)
    (h : ∀ x : Ctx, x.nt = fn.ntmps → ∀ (l : Nat) (ks : List Nat) (fam : Nat → Nat → Slot) (stop : Nat), x.rnd = none → stop ≤ items.length → FamOk L ks fam → x.σ = stg L fam stop 0 → x.Y = yrel L fam items stop l →
      AWP P x c ⟨envOf (first ++ [.fn (.yield l) [] []] ++ caps), stg L fam stop 0⟩ fun e s => (e = .normal ∨ e = .ret) ∧ (∃ d, retC P s res = some d) ∧ Wk x s ⟨fun _ => .any, stg L fam stop (finI stop items.length)⟩) : ItC P L f first caps items := by
  refine { hf.callable with run := fun x v1 v2 l ks fam stop hstop hfam hx0 hfrm hc1 hc2 hyc => ?_ }
  subst hrs
  refine calls_of_awp hf.func hf.body ?_
  obtain ⟨y, hy⟩ : ∃ y : Ctx, y = { x with nt := fn.ntmps, rnd := none, Y := yrel L fam items stop l } := ⟨_, rfl⟩
  have hcl : CL (x.Gd x.ρ x.σ) x.ρ x.σ x.w (first ++ [.fn (.yield l) [] []] ++ caps) (v1 ++ #[.func (.yield l) #[] #[]] ++ v2) := by
    refine CL_app (CL_app hc1 ⟨rfl, fun i c hi => ?_⟩) hc2
    have : i = 0 := by
      have := (List.getElem?_eq_some_iff.1 hi).1
      simp at this; exact this
    subst this
    simp at hi; subst hi
    exact .fn rfl rfl (by simp) (by simp)
  have hfy : Frm y y.ρ y.σ y.w := by rw [hy]; exact hfrm.lps
  have hsim := sim_enterX (x := y) (nt := fn.ntmps) hfy (by rw [hy]; exact hcl) (by have := Nat.le_of_ble_eq_true hlen; simp; omega) (by rw [hy]) (by rw [hy])
  have hyok : YOk P y := by
    rw [hy]
    obtain ⟨t, ex, lp, g1, g2, g3, g4, g4', g5, g6⟩ := hyc
    exact .inr ⟨t, ex, lp, g1, g2, g3, g4, g4', g5, g6⟩
  have hyσ : y.σ = stg L fam stop 0 := by rw [hy]; exact hx0
  have hA := h y (by rw [hy]) l ks fam stop (by rw [hy]) hstop hfam hyσ (by rw [hy]) hyok y.ρ _ y.w (by rw [← hyσ]; exact hsim)
  have hr : y.rnd = none := by rw [hy]
  have hw : y.w = x.w := by rw [hy]
  rw [hr, hw] at hA
  refine wpIn_mono hA ?_
  rintro e a w1 ⟨ρ, s, hs1, he, ⟨d, hd⟩, hwk⟩
  refine ⟨he, leave_sim hs1 fun w' hs => ?_⟩
  have hnt : y.nt = fn.ntmps := by rw [hy]
  obtain ⟨v, h1, h2⟩ := retC_sound (P := P) hs (by rw [hnt]; exact hres) hd
  obtain ⟨ρ', hs'⟩ := hwk ρ _ w' hs
  have hf' := hs'.toFrm
  rw [hy] at hf'
  exact ⟨v, h1, v, ρ', rfl, ⟨hf'.sto, hf'.own, hf'.frame, ⟨hf'.rcd.loop, hf'.rcd.rdy, hf'.rcd.itr⟩, hf'.size, hf'.os, hf'.tape, hf'.output, hf'.hist⟩⟩

theorem wi_or {ks : List Nat} {E : Nat → C} {env : Nat → C} {G : Nat → Prop} {ρ : Nat → Nat} {σ : Nat → Slot} {w : World} {q : Nat} {v : Value} (hE : (E q).wi ks = true ∧ (E q = env q ∨ E q = .any)) (h : CR G ρ σ w (env q) v) : CR G ρ σ w (E q) v := by
 rcases hE.2 with e | e
 ·rw [e]; exact h
 ·rw [e]; exact .any _

/-- What entering a loop lays. -/
theorem enter_loop {x : Ctx} {ρ : Nat → Nat} {s : AS} {a : Act} {w : World} (hs : Sim x ρ s a w) (fn : FuncId) (ps : Array Tmp) (assign body : Code) :
    ∃ (l : Nat) (Ds : List Nat) (D : Nat) (W1 : World), (Instr.enterLoop fn a.tmps ps assign body x.rnd).run P w = .ok (l, marks Ds) W1 ∧ Keeps (x.Gd ρ s.sto) (x.Gd ρ s.sto) ρ ρ s.sto s.sto w W1 ∧ Frm x ρ s.sto W1 ∧
      W1.heap[l]? = some (.loop { state := .ready, pending := none, fn := fn, tmps := a.tmps, params := ps, assign := assign, body := body, defers := D }) ∧ x.w.heap.size ≤ l ∧ l ∉ x.ex ∧
      (∀ D ∈ Ds, w.heap.size ≤ D ∧ W1.heap[D]? = some (.deferred (some []))) ∧ Ds.Nodup := by
  have hsz := hs.size
  have hnex : ∀ l, w.heap.size ≤ l → l ∉ x.ex := by
    intro l hl hm
    obtain ⟨r, hr⟩ := (hs.rcd.loop l hm).2
    have := (Array.getElem?_eq_some_iff.1 hr).1
    omega
  cases hr : x.rnd with
  | none =>
    obtain ⟨k1, f1⟩ := hs.toFrm.alloc (.deferred (some []))
    obtain ⟨k2, f2⟩ := f1.alloc (.loop { state := .ready, pending := none, fn := fn, tmps := a.tmps, params := ps, assign := assign, body := body, defers := w.heap.size })
    refine ⟨w.heap.size + 1, [w.heap.size], w.heap.size, _, run_enterLoop_outer _ _ _ _ _, k1.trans k2, f2, ?_, by omega, hnex _ (by omega), ?_, by simp⟩
    · have := World.alloc_heap_new (w.alloc (.deferred (some []))) (.loop { state := .ready, pending := none, fn := fn, tmps := a.tmps, params := ps, assign := assign, body := body, defers := w.heap.size })
      rwa [World.size_alloc] at this
    · intro D hD
      simp at hD; subst hD
      exact ⟨Nat.le_refl _, k2.dfr _ (World.alloc_heap_new w _)⟩
  | some l0 =>
    obtain ⟨r0, hr0⟩ := (hs.rcd.loop l0 (hs.inr l0 hr)).2
    obtain ⟨k2, f2⟩ := hs.toFrm.alloc (.loop { state := .ready, pending := none, fn := fn, tmps := a.tmps, params := ps, assign := assign, body := body, defers := r0.defers })
    exact ⟨w.heap.size, [], r0.defers, _, run_enterLoop_inner hr0 _ _ _ _ _, k2, f2, World.alloc_heap_new w _, hsz, hnex _ (Nat.le_refl _), by simp, by simp⟩

end
end Go.Abs

/- The statement 'for .. := range f'. No condition. -/
namespace Go.Abs
section
variable {P : Program}

theorem run_rangeCall {gf : FuncId} {v1 v2 : Array Value} {a : Act} {g : Operand} {l : Nat} {w : World} (hg : a.eval g = .func (.func gf) v1 v2) (hc : Callable P gf) :
  ∃ d, (resolve a.eval (rangeCall g l) 0).run P w = .ok d w ∧ (invoke d.target d.args).run P w = .ok (.enter gf (v1 ++ #[.func (.yield l) #[] #[]] ++ v2)) w := by
 refine ⟨_, by simp only [resolve, rangeCall, hg, Deferred.ofValue, Sem.run_bind, Sem.run_pure, Result.andThen_ok]; rfl, ?_⟩
 simp only [invoke]
 have := run_callFunc hc (v1 ++ #[.func (.yield l) #[] #[]] ++ v2) w
 simpa [Act.eval] using this

/-- A RANGE OVER A FUNCTION. -/
theorem awp_range {x : Ctx} {g : Operand} {ps : Array Tmp} {assign body : Code} {s : AS} {Q : Exit → AS → Prop} (L : Nat) (ks : List Nat) (fam : Nat → Nat → Slot) (items : List (List C)) (stop : Nat) (jc : Code) (E : Nat → C) {gf : FuncId} {first caps : List C}
    (hg : s.ev g = .fn (.func gf) first caps) (hgt : ∀ t, g = .tmp t → t < x.nt) (hpu : purel first = true ∧ purel caps = true) (hit : ItC P L gf first caps items) (hstop : stop ≤ items.length) (hfam : FamOk L ks fam)
    (hL : s.sto L = .free) (h0 : ∀ k ∈ ks, s.sto k = fam 0 k) (hE : ∀ q, (E q).wi ks = true ∧ (E q = s.env q ∨ E q = .any)) (hps : ∀ args ∈ items, purel args = true ∧ args.length = ps.size)
    (hxk : ∀ k, x.σ k ≠ .free → k ∈ ks)
    (hround : ∀ i args, items[i]? = some args → i ≤ stop → ∀ (l : Nat) (y y2 : Ctx), RndX y x.nt l L (rfam L fam i) x.Y x.ex x.lp → RndX y2 x.nt l L (rfam L fam i) x.Y x.ex x.lp →
      AWP P y assign ⟨putPs E ps.toList args, rfam L fam i⟩ (nextQ (fun s' => s'.sto L = .gh ∧ AWP P y2 body s' (rndQ y2 L fam stop jc i)) fun _ _ => False))
    (hdone : stop = items.length → Q .normal ⟨s.env, ovS (L :: ks) s.sto (stg L fam stop items.length)⟩)
    (hjump : stop < items.length → AWP P x jc ⟨s.env, ovS (L :: ks) s.sto (stg L fam stop (stop + 1))⟩ Q) : AWP P x (.rangeFunc g ps assign body) s Q := by
  intro hY ρ a w hs
  refine wpIn_rangeFunc (F := Fx x.rnd) (n := 0) fun fn _ => ?_
  obtain ⟨l, Ds, D, W1, hrun, hk1, hf1, hrec, hlb, hlex, hDs, hDn⟩ := enter_loop hs fn ps assign body
  have hgv := hs.ev g hgt
  rw [hg] at hgv
  obtain ⟨v1, v2, hfv, hc1, hc2⟩ := hgv.fnOf
  obtain ⟨d, hres, hinv⟩ := run_rangeCall (a := a) (l := l) (w := W1) hfv hit.toCallable
  obtain ⟨R, hR⟩ : ∃ R : Loop, R = { state := .ready, pending := none, fn := fn, tmps := a.tmps, params := ps, assign := assign, body := body, defers := D } := ⟨_, rfl⟩
  obtain ⟨R2, hR2⟩ : ∃ R2 : Loop, R2 = { state := .done, pending := some jc, fn := fn, tmps := a.tmps, params := ps, assign := assign, body := body, defers := D } := ⟨_, rfl⟩
  rw [← hR] at hrec
  refine ⟨l, marks Ds, W1, d, W1, gf, _, W1, hrun, hres, fun _ _ => trivial, hinv, fx_depth, ?_⟩
  refine calls_fx ?_
  have hLks : L ∉ ks := fun h => absurd (hfam.lt L h) (Nat.lt_irrefl _)
  -- the slot that says that the loop is on
  obtain ⟨σ0, hσ0⟩ : ∃ σ0, σ0 = upd s.sto L .gh := ⟨_, rfl⟩
  have hlv : ∀ k o, σ0 k = .live o ↔ s.sto k = .live o := by
    intro k o
    rw [hσ0]
    by_cases e : k = L
    · subst e; rw [upd_same, hL]; simp
    · rw [upd_ne _ _ e]
  have hown : ∀ b, Owned ρ σ0 b ↔ Owned ρ s.sto b := by
    intro b
    constructor
    · rintro ⟨k, o, e1, e2, e3⟩; exact ⟨k, o, (hlv k o).1 e1, e2, e3⟩
    · rintro ⟨k, o, e1, e2, e3⟩; exact ⟨k, o, (hlv k o).2 e1, e2, e3⟩
  have hK0 : Keeps (x.Gd ρ s.sto) (x.Gd ρ σ0) ρ ρ s.sto σ0 W1 W1 := by
    refine .of (fun D hD => hD) ⟨fun b hb hlt => ⟨⟨hb.1, fun ho => hb.2 ((hown b).1 ho)⟩, hlt, .inl rfl⟩, fun k hk => ?_, fun k o hk => .inr ⟨o, (hlv k o).2 hk, rfl, rfl, rfl, fun hn => ⟨rfl, fun cs el fz hc => ⟨_, _, _, hc, Nat.le_refl _⟩⟩⟩⟩
    have : k ≠ L := by rintro rfl; rw [hL] at hk; cases hk
    rw [hσ0, upd_ne _ _ this]; exact hk
  have hLlp : ∀ p ∈ x.lp, p.2.2.1 ≠ L := fun p hp e => hLks (e ▸ hxk _ (hf1.rcd.rdy p hp).2.1)
  have hf2 : Frm x ρ σ0 W1 := by
    refine ⟨⟨fun k o hk hn => (hf1.sto.ob k o ((hlv k o).1 hk) hn).keeps hK0.toKeeps0 rfl, fun k o hk hn => hf1.sto.nil k o ((hlv k o).1 hk) hn, fun k k' o o' hk hk' hn hn' he => hf1.sto.inj k k' o o' ((hlv k o).1 hk) ((hlv k' o').1 hk') hn hn' he⟩,
      fun b hb => hf1.own b ((hown b).1 hb), hf1.frame, ⟨hf1.rcd.loop, fun p hp => ?_, hf1.rcd.itr⟩, hf1.size, hf1.os, hf1.tape, hf1.output, hf1.hist.trans hK0.toKeeps0⟩
    obtain ⟨q1, q2, q3⟩ := hf1.rcd.rdy p hp
    refine ⟨q1, q2, ?_⟩
    rw [hσ0, upd_ne _ _ (hLlp p hp)]; exact q3
  have hkk := hk1.trans hK0
  have hst0 : resS (L :: ks) σ0 = stg L fam stop 0 := by
    funext k
    by_cases e : k = L
    · subst e; rw [resS_in (by simp), hσ0]; simp [stg]
    · by_cases hm : k ∈ ks
      · rw [resS_in (by simp [hm]), hσ0, upd_ne _ _ e, h0 k hm]; simp [stg, e]
      · rw [resS_out (by simp [e, hm])]; simp [stg, e, hfam.out 0 k hm]
  have hst : ∀ k ∈ L :: ks, stg L fam stop 0 k ≠ .free := by
    intro k hk
    rcases List.mem_cons.1 hk with rfl | hk
    · simp [stg]
    · have : k ≠ L := by have := hfam.lt k hk; omega
      simp only [stg, if_neg this]; exact hfam.st 0 k hk
  have hw0 : ∀ k ∈ L :: ks, ∀ o, σ0 k = .live o → o.rows.all (wil (L :: ks)) = true := by
    intro k hk o ho
    rcases List.mem_cons.1 hk with rfl | hk
    · rw [hσ0, upd_same] at ho; cases ho
    · have hne : k ≠ L := by have := hfam.lt k hk; omega
      rw [hσ0, upd_ne _ _ hne, h0 k hk] at ho
      have := hfam.wi 0 k o ho
      rw [List.all_eq_true] at this ⊢
      intro row hrow
      exact wil_mono (fun q hq => by simp [hq]) row (this row hrow)
  obtain ⟨lpn, hlpn⟩ : ∃ lpn, lpn = (l, Obj.loop R, L, Obj.loop R2) :: x.lp := ⟨_, rfl⟩
  have hrc0 : RecOk (subY x ρ σ0 W1 (L :: ks) (l :: x.ex) lpn) (resS (L :: ks) σ0) W1 := by
    refine ⟨fun b hb => ?_, fun p hp => ?_, fun p hp => by cases hp⟩
    · rcases List.mem_cons.1 hb with rfl | hb
      · exact ⟨⟨R, hrec⟩, ⟨R, hrec⟩⟩
      · have := (hf2.rcd.loop b hb).2; exact ⟨this, this⟩
    · rw [hlpn] at hp
      rcases List.mem_cons.1 hp with rfl | hp
      · refine ⟨by simp, ?_, .inl ⟨?_, hrec⟩⟩
        · show resS (L :: ks) σ0 L ≠ .free
          rw [hst0]; exact hst L (by simp)
        · show resS (L :: ks) σ0 L = _
          rw [hst0]; simp [stg]
      · obtain ⟨q1, q2, q3⟩ := hf2.rcd.rdy p hp
        have hm : p.2.2.1 ∈ L :: ks := by simp [hxk _ q2]
        refine ⟨by simp [q1], ?_, ?_⟩
        · show resS (L :: ks) σ0 p.2.2.1 ≠ .free
          rw [hst0]; exact hst _ hm
        · rw [resS_in hm]; exact q3
  obtain ⟨f0, hcr0⟩ := frm_res hrc0 hf2 hw0
  obtain ⟨z, hz⟩ : ∃ z : Ctx, z = subY x ρ σ0 W1 (L :: ks) (l :: x.ex) lpn := ⟨_, rfl⟩
  have hpne : ∀ p ∈ x.lp, p.1 ≠ l := fun p hp e => hlex (e ▸ (hf2.rcd.rdy p hp).1)
  -- what the rounds do
  have hyc : YC P (yrel L fam items stop l) ⟨z.Gd z.ρ z.σ, z.ρ, z.σ, z.w⟩ (l :: x.ex) lpn := by
    rw [hlpn, hR, hR2]
    refine yc_round (nt := x.nt) (E := E) (Yo := x.Y) hfam hps hlex (fun p hp => ⟨(hf2.rcd.rdy p hp).1, hxk _ (hf2.rcd.rdy p hp).2.1⟩) hs.nt ?_ ?_ (fun q => (hE q).1) ?_ (fun i args h1 h2 y y2 r1 r2 => hround i args h1 h2 l y y2 r1 r2)
    · intro k hk
      rw [hz]
      show resS (L :: ks) σ0 k ≠ .free
      rw [hst0]; exact hst k hk
    · intro q hq
      have h1 := wi_or (hE q) (hs.env q hq)
      have h2 := hcr0 _ _ (wi_mono (fun q hq => by simp [hq]) (E q) (hE q).1) (h1.keeps hkk)
      rw [hz]; exact h2
    · rcases hY with hn | ⟨to, exo, lpo, g1, g2, g3, g3', gs, g4, g5⟩
      · exact .inl hn
      · refine .inr ⟨to, exo, lpo, g1, g2, g3, g3', fun k hk => ?_, ?_, g5⟩
        · exact hxk k (gs k hk)
        · have hk := g4.trans hf2.hist
          have hkx : ∀ k, to.σ k = .dead ∨ (∃ o, to.σ k = .live o) → k ∈ L :: ks := by
            intro k hh
            have : x.σ k ≠ .free := by
              rcases hh with e' | ⟨o, e'⟩
              · rw [g4.dead k e']; simp
              · rcases g4.live k o e' with e2 | ⟨o', e2, _⟩ <;> rw [e2] <;> simp
            simp [hxk k this]
          rw [hz]
          refine ⟨fun b hb hlt => ?_, fun k hd => ?_, fun k o hk' => ?_⟩
          · obtain ⟨q1, q2, q3⟩ := hk.pure b hb hlt
            refine ⟨⟨.inl q1, fun ho => q1.2 ?_⟩, q2, q3⟩
            obtain ⟨k, o, e1, e2, e3⟩ := ho
            exact ⟨k, o, (resS_live (ks := L :: ks) (σ := σ0) e1 (by simp)).2, e2, e3⟩
          · show resS (L :: ks) σ0 k = .dead
            rw [resS_in (hkx k (.inl hd))]; exact hk.dead k hd
          · show resS (L :: ks) σ0 k = .dead ∨ ∃ o', resS (L :: ks) σ0 k = .live o' ∧ _
            rw [resS_in (hkx k (.inr ⟨o, hk'⟩))]; exact hk.live k o hk'
  have hca : CL (z.Gd z.ρ z.σ) z.ρ z.σ z.w first v1 := by
    refine ⟨hc1.1, fun i c hi => ?_⟩
    rw [hz]
    exact hcr0 _ _ (pure_wi _ c (purel_get hpu.1 hi)) ((hc1.2 i c hi).keeps hkk)
  have hcb : CL (z.Gd z.ρ z.σ) z.ρ z.σ z.w caps v2 := by
    refine ⟨hc2.1, fun i c hi => ?_⟩
    rw [hz]
    exact hcr0 _ _ (pure_wi _ c (purel_get hpu.2 hi)) ((hc2.2 i c hi).keeps hkk)
  have hzf : Frm z z.ρ z.σ z.w := by rw [hz]; exact f0
  have hcall := hit.run z v1 v2 l ks fam stop hstop hfam (by rw [hz]; exact hst0) hzf hca hcb
    ⟨_, l :: x.ex, lpn, by rw [hz]; exact fun b hb => hb, by rw [hz]; exact fun p hp => hp, by rw [hz]; exact fun p hp _ => hp, by rw [hz]; exact fun p hp hn => absurd hp hn, fun k hk => hk, .refl .., hyc⟩
  have hzw : z.w = W1 := by rw [hz]
  rw [hzw] at hcall
  refine hcall.mono ?_
  rintro e w3 ⟨v, ρ1, rfl, hf3⟩
  -- behind it
  have hrec3 := hf3.rcd.rdy (l, Obj.loop R, L, Obj.loop R2) (by rw [hz, hlpn]; simp)
  have hloop3 : ∃ r3 : Loop, w3.heap[l]? = some (.loop r3) ∧ r3.state ≠ .busy ∧ r3.pending = (if stop < items.length then some jc else none) := by
    have hLs : stg L fam stop (finI stop items.length) L = if stop < items.length then .dead else .gh := by
      simp only [stg, if_pos, finI]
      split
      · rw [if_neg (by omega)]
      · rw [if_pos (by omega)]
    rw [hLs] at hrec3
    by_cases hlt : stop < items.length
    · rw [if_pos hlt] at hrec3 ⊢
      rcases hrec3.2.2 with ⟨e, _⟩ | ⟨_, e⟩
      · cases e
      · exact ⟨R2, e, by rw [hR2]; simp, by rw [hR2]⟩
    · rw [if_neg hlt] at hrec3 ⊢
      rcases hrec3.2.2 with ⟨_, e⟩ | ⟨e, _⟩
      · exact ⟨R, e, by rw [hR]; simp, by rw [hR]⟩
      · cases e
  obtain ⟨r3, hr3, hb3, hp3⟩ := hloop3
  obtain ⟨_, hf4⟩ := hf3.setLoop (r' := { r3 with state := .exhausted }) (lp := x.lp) hr3 (.inl (by rw [hz]; simp)) (fun p hp => by
    obtain ⟨q1, q2, q3⟩ := hf3.rcd.rdy p (by rw [hz, hlpn]; simp [hp])
    rw [World.putObj_heap_other (hpne p hp)]
    exact ⟨q1, q2, q3⟩)
  have hf5 : Frm (subY x ρ σ0 W1 (L :: ks) (l :: x.ex) x.lp) ρ1 (stg L fam stop (finI stop items.length)) (w3.putObj l (.loop { r3 with state := .exhausted })) := by
    rw [hz] at hf4; exact hf4
  have hnl : ∀ b r, W1.heap[b]? = some (.loop r) → ¬ Owned ρ (resS (L :: ks) σ0) b := by
    rintro b r hb ⟨k, o, e1, e2, rfl⟩
    have := (f0.sto.ob k o e1 e2).noOdd hb
    simp [oddO] at this
  have hfree : ∀ k, k ∉ L :: ks → stg L fam stop (finI stop items.length) k = .free := by
    intro k hk
    simp only [List.mem_cons, not_or] at hk
    simp [stg, hk.1, hfam.out _ k hk.2]
  obtain ⟨ρ', hK7, hF7, _⟩ := frm_ov (x := x) (fun b hb => by
      rcases List.mem_cons.1 hb with rfl | hb
      · exact ⟨⟨R, hrec⟩, .inr hlb⟩
      · exact ⟨(hf2.rcd.loop b hb).2, .inl hb⟩) hf2 hfree hf5 fun G' ρ' hk7 => by
    refine ⟨fun b hb => ⟨(hf2.rcd.loop b hb).1, (hf5.rcd.loop b (by simp [hb])).2⟩, fun p hp => ?_, fun p hp => ?_⟩
    rotate_right
    · obtain ⟨⟨m, s0, a0, c0, e1⟩, e2⟩ := hf2.rcd.itr p hp
      refine ⟨⟨m, s0, a0, c0, e1⟩, ?_⟩
      have hno : ¬ Owned ρ (resS (L :: ks) σ0) p.1 := by
        rintro ⟨k, o, q1, q2, q3⟩
        have h1 := (f0.sto.ob k o q1 q2).noOdd (by rw [q3]; exact e2)
        rw [e1] at h1; cases h1
      have hnx : p.1 ∉ l :: x.ex := by
        intro hm
        rcases List.mem_cons.1 hm with hm | hm
        · rw [hm, hrec, e1] at e2; cases e2
        · obtain ⟨r, hr⟩ := (hf2.rcd.loop p.1 hm).2
          rw [hr, e1] at e2; cases e2
      exact (hf5.frame p.1 (Array.getElem?_eq_some_iff.1 e2).1 hno hnx).trans e2
    obtain ⟨g1, g2, g3⟩ := hf5.rcd.rdy p hp
    have hm : p.2.2.1 ∈ L :: ks := by simp [hxk _ (hf2.rcd.rdy p hp).2.1]
    refine ⟨(hf2.rcd.rdy p hp).1, (hf2.rcd.rdy p hp).2.1, ?_⟩
    rw [ovS_in hm]; exact g3
  have hov : ovS (L :: ks) σ0 (stg L fam stop (finI stop items.length)) = ovS (L :: ks) s.sto (stg L fam stop (finI stop items.length)) := by
    funext k
    by_cases hm : k ∈ L :: ks
    · rw [ovS_in hm, ovS_in hm]
    · rw [ovS_out hm, ovS_out hm, hσ0, upd_ne _ _ (by rintro rfl; simp at hm)]
  rw [hov] at hK7 hF7
  have hKall := hkk.trans hK7
  have hsim : Sim x ρ' ⟨s.env, ovS (L :: ks) s.sto (stg L fam stop (finI stop items.length))⟩ { a with defers := marks Ds ++ a.defers } (w3.putObj l (.loop { r3 with state := .exhausted })) := by
    obtain ⟨Do, d1, d2, d3⟩ := hs.defers
    refine { hF7 with nt := hs.nt, defers := ⟨Ds ++ Do, by rw [d1]; simp [marks], ?_, fun D hD => ?_⟩, inr := hs.inr, env := fun q hq => (hs.env q hq).keeps hKall }
    · refine List.nodup_append.2 ⟨hDn, d2, fun a ha b hb e => ?_⟩
      subst e
      have h1 := (hDs a ha).1
      have h2 := (Array.getElem?_eq_some_iff.1 (d3 a hb).2).1
      omega
    · rcases List.mem_append.1 hD with h | h
      · exact ⟨Nat.le_trans hs.size (hDs D h).1, hK7.dfr D (by
          have := (hDs D h).2
          exact this)⟩
      · exact ⟨(d3 D h).1, hKall.dfr D (d3 D h).2⟩
  refine ⟨_, _, run_endLoop hr3 hb3, ?_⟩
  by_cases hlt : stop < items.length
  · have hp : r3.pending = some jc := by rw [hp3, if_pos hlt]
    rw [hp] at hsim ⊢
    have hfi : finI stop items.length = stop + 1 := by simp [finI, hlt]
    rw [hfi] at hsim
    exact hjump hlt hY ρ' _ _ hsim
  · have hp : r3.pending = none := by rw [hp3, if_neg hlt]
    rw [hp] at hsim ⊢
    have hfi : finI stop items.length = items.length := by simp [finI, hlt]
    rw [hfi] at hsim
    exact ⟨ρ', _, hsim, hdone (by omega)⟩

end
end Go.Abs

/- Shapes of stores under an iterator's family, and texts of rounds. No condition. -/
namespace Go.Abs

/-- A store of own objects, below H, and of others. -/
def hiS (H : Nat) (lo hi : Nat → Slot) : Nat → Slot := fun k => if H ≤ k then hi k else lo k

theorem hiS_hi {H k : Nat} {lo hi : Nat → Slot} (h : H ≤ k) : hiS H lo hi k = hi k := by simp [hiS, h]
theorem hiS_lo {H k : Nat} {lo hi : Nat → Slot} (h : k < H) : hiS H lo hi k = lo k := by simp [hiS, Nat.not_le.2 h]

/-- New keys and old ones: from H on, as they are. -/
def mH (ks : List Nat) (T : List (Nat × Nat × Slot)) : Nat → Nat → Prop := fun a b => mT T a b ∨ (a = b ∧ a ∈ ks)

def oldH (H : Nat) (T : List (Nat × Nat × Slot)) (k : Nat) : Nat := if H ≤ k then k else oldT T k

mutual
theorem mt_self {m : Nat → Nat → Prop} {ks : List Nat} (h : ∀ k ∈ ks, m k k) : ∀ (c : C), c.wi ks = true → mtc m c c
 | .any, _ => by simp [mtc]
 | .own .., g => by simp only [C.wi, List.contains_iff_mem] at g; exact ⟨h _ g, rfl, rfl, rfl⟩
 | .ptr .., g => by simp only [C.wi, List.contains_iff_mem] at g; exact ⟨h _ g, rfl, rfl, rfl⟩
 | .mp .., g => by simp only [C.wi, List.contains_iff_mem] at g; exact h _ g
 | .md .., _ => by simp [mtc, C.isPure]
 | .val .., _ => by simp [mtc, C.isPure]
 | .mpin .., _ => by simp [mtc, C.isPure]
 | .fn f a b, g => by
  simp only [C.wi, Bool.and_eq_true] at g
  exact ⟨rfl, mtl_self h a g.1, mtl_self h b g.2⟩
 | .agg l, g => by simp only [C.wi] at g; exact mtl_self h l g
 | .tup l, g => by simp only [C.wi] at g; exact mtl_self h l g
 | .int .., _ => by simp [mtc, C.isPure]
 | .bool .., _ => by simp [mtc, C.isPure]
 | .str .., _ => by simp [mtc, C.isPure]
 | .pnil, _ => by simp [mtc, C.isPure]
 | .fnil, _ => by simp [mtc, C.isPure]
 | .sl .., _ => by simp [mtc, C.isPure]
 | .ip .., _ => by simp [mtc, C.isPure]
theorem mtl_self {m : Nat → Nat → Prop} {ks : List Nat} (h : ∀ k ∈ ks, m k k) : ∀ (l : List C), wil ks l = true → mtl m l l
 | [], _ => trivial
 | c :: l, g => by
  simp only [wil, Bool.and_eq_true] at g
  exact ⟨mt_self h c g.1, mtl_self h l g.2⟩
end

theorem rows_self {m : Nat → Nat → Prop} {ks : List Nat} (h : ∀ k ∈ ks, m k k) : ∀ (r : List (List C)), r.all (wil ks) = true → r.all (fun r => r.all C.cell) = true → RowsOk m r r
 | [], _, _ => .nil
 | a :: r, h1, h2 => by
  simp only [List.all_cons, Bool.and_eq_true] at h1 h2
  exact .cons (mtl_self h a h1.1) h2.1 (rows_self h r h1.2 h2.2)

section
variable {P : Program} {x : Ctx}

/-- LESS IS KNOWN, under an iterator's family. -/
theorem wk_shapeH {s : AS} {E : List (Nat × C)} {T : List (Nat × Nat × Slot)} {H : Nat} {ks : List Nat} {fam : Nat → Nat → Slot} {stop i : Nat} (hfam : FamOk H ks fam) (hσ : ∀ k, H ≤ k → s.sto k = stg H fam stop i k)
    (hT : ∀ p ∈ T, p.1 < H ∧ p.2.1 < H) (n1 : (T.map (·.1)).Nodup) (n2 : (T.map (·.2.1)).Nodup) (ok : ∀ p ∈ T, SlotOk (mH (H :: ks) T) (s.sto p.2.1) p.2.2) (hx : ∀ k, x.σ k ≠ .free → mT T k k ∨ k ∈ H :: ks)
    (hE : ∀ p ∈ E, mtc (mH (H :: ks) T) (s.env p.1) p.2) : Wk x s ⟨ofL E, hiS H (stoT T) (stg H fam stop i)⟩ := by
  have hle : ∀ k ∈ H :: ks, H ≤ k := by
    intro k hk
    rcases List.mem_cons.1 hk with rfl | hk
    · exact Nat.le_refl _
    · exact Nat.le_of_lt (hfam.lt k hk)
  have hmT : ∀ {a b : Nat}, mT T a b → a < H ∧ b < H := by
    intro a b hm
    obtain ⟨s, hs⟩ := mem_mT.1 hm
    exact hT _ hs
  have hself : ∀ k ∈ ks, mH (H :: ks) T k k := fun k hk => .inr ⟨rfl, by simp [hk]⟩
  refine wk_shpG (m := mH (H :: ks) T) (old := oldH H T) ⟨fun a b hm => ?_, fun a b k ha hb => ?_, fun a b hm => ?_, fun a ha => ?_, fun k hk => ?_⟩ hE
  · rcases hm with hm | ⟨rfl, hk⟩
    · obtain ⟨s, hs⟩ := mem_mT.1 hm
      unfold oldH
      rw [if_neg (Nat.not_le.2 (hmT hm).1)]
      exact oldT_mem n1 hs
    · unfold oldH
      rw [if_pos (hle _ hk)]
  · rcases ha with ha | ⟨rfl, ha⟩ <;> rcases hb with hb | ⟨rfl, hb⟩
    · obtain ⟨s, hs⟩ := mem_mT.1 ha
      obtain ⟨s', hs'⟩ := mem_mT.1 hb
      exact (Prod.mk.inj (nodup_snd n2 hs hs' rfl)).1
    · exact absurd (hle _ hb) (Nat.not_le.2 (hmT ha).2)
    · exact absurd (hle _ ha) (Nat.not_le.2 (hmT hb).2)
    · rfl
  · rcases hm with hm | ⟨rfl, hk⟩
    · obtain ⟨q, hs⟩ := mem_mT.1 hm
      have e2 := stoT_mem n1 hs
      have e3 := ok _ hs
      simp only at e2 e3
      rw [hiS_lo (hmT hm).1, e2]
      exact e3
    · rw [hiS_hi (hle _ hk), hσ _ (hle _ hk)]
      cases hs : stg H fam stop i a with
      | free =>
        exfalso
        rcases List.mem_cons.1 hk with rfl | hk
        · simp only [stg, if_true] at hs
          split at hs <;> cases hs
        · have hne : a ≠ H := fun e => Nat.lt_irrefl _ (e ▸ hfam.lt a hk)
          simp only [stg, if_neg hne] at hs
          exact hfam.st i a hk hs
      | dead => trivial
      | gh => simp [SlotOk]
      | live o =>
        have hne : a ≠ H := by
          rintro rfl
          simp only [stg, if_true] at hs
          split at hs <;> cases hs
        simp only [stg, if_neg hne] at hs
        exact ⟨rfl, rfl, rfl, rows_self hself _ (hfam.wi i a o hs) (hfam.ce i a o hs)⟩
  · by_cases hH : H ≤ a
    · rw [hiS_hi hH] at ha
      refine ⟨a, .inr ⟨rfl, ?_⟩⟩
      by_cases e : a = H
      · simp [e]
      · simp only [stg, if_neg e] at ha
        refine List.mem_cons_of_mem _ (Classical.byContradiction fun hn => ha (hfam.out i a hn))
    · rw [hiS_lo (Nat.lt_of_not_le hH)] at ha
      obtain ⟨p, hp, rfl, hs⟩ := stoT_some ha
      exact ⟨p.2.1, .inl (mem_mT.2 ⟨p.2.2, hp⟩)⟩
  · intro _; rcases hx k hk with h | h
    · exact .inl h
    · exact .inr ⟨rfl, h⟩

theorem stg_hiS {H : Nat} {ks : List Nat} {fam : Nat → Nat → Slot} {stop i : Nat} (hfam : FamOk H ks fam) : stg H fam stop i = hiS H (stoT []) (stg H fam stop i) := by
 funext k
 by_cases h : H ≤ k
 ·rw [hiS_hi h]
 ·have h := Nat.lt_of_not_le h
  rw [hiS_lo h]
  have h1 : k ≠ H := Nat.ne_of_lt h
  have h2 : k ∉ ks := fun hm => Nat.lt_asymm h (hfam.lt k hm)
  simp [stg, h1, hfam.out i k h2, stoT, freeS]

@[simp] theorem hiS_apply {H : Nat} {lo hi : Nat → Slot} {k : Nat} : hiS H lo hi k = if H ≤ k then hi k else lo k := rfl

/-- An iterator's end. -/
theorem wk_endH {s : AS} {H : Nat} {ks : List Nat} {fam : Nat → Nat → Slot} {stop i : Nat} (hfam : FamOk H ks fam) (hx : x.σ = stg H fam stop 0) (hσ : ∀ k, H ≤ k → s.sto k = stg H fam stop i k) : Wk x s ⟨fun _ => .any, stg H fam stop i⟩ := by
  have := wk_shapeH (E := []) (T := []) hfam hσ (by simp) (by simp) (by simp) (by simp) (fun k hk => .inr (by
    rw [hx] at hk
    by_cases e : k = H
    · simp [e]
    · simp only [stg, if_neg e] at hk
      exact List.mem_cons_of_mem _ (Classical.byContradiction fun hn => hk (hfam.out _ k hn)))) (by simp)
  rw [← stg_hiS hfam] at this
  exact this

theorem hx_stg {H : Nat} {ks : List Nat} {fam : Nat → Nat → Slot} {stop : Nat} {T : List (Nat × Nat × Slot)} (hfam : FamOk H ks fam) (hx : x.σ = stg H fam stop 0) : ∀ k, x.σ k ≠ .free → mT T k k ∨ k ∈ H :: ks := fun k hk => .inr (by
  rw [hx] at hk
  by_cases e : k = H
  ·simp [e]
  ·simp only [stg, if_neg e] at hk
   exact List.mem_cons_of_mem _ (Classical.byContradiction fun hn => hk (hfam.out _ k hn)))

/-- A call of yield in an iterator. -/
theorem yieldL {ops : Array Oper} {l : List Oper} {K : AS → Prop} {s : AS} {d : Option Nat} {L stop q i : Nat} {fam : Nat → Nat → Slot} {items : List (List C)} {args : List C} (hY : x.Y = yrel L fam items stop q) (hi : i ≤ stop) (hit : items[i]? = some args)
    (hσ : ∀ k, L ≤ k → s.sto k = stg L fam stop i k) (h : evalL P x.Y ops l ⟨putE s.env d (.bool (i != stop)), fun k => if L ≤ k then stg L fam stop (i + 1) k else s.sto k⟩ K) : contY P x.Y ops l K s d q args :=
  ⟨_, _, by rw [hY]; exact ⟨rfl, i, hi, hit, hσ, rfl, rfl⟩, h⟩
theorem yieldD {ops : Array Oper} {na : List Nat} {l : List (Nat × Oper)} {K : AS → Prop} {s : AS} {d : Option Nat} {m L stop q i : Nat} {fam : Nat → Nat → Slot} {items : List (List C)} {args : List C} (hm : m = 0) (hY : x.Y = yrel L fam items stop q) (hi : i ≤ stop) (hit : items[i]? = some args)
  (hσ : ∀ k, L ≤ k → s.sto k = stg L fam stop i k) (h : evalD P x.Y ops na l ⟨putE s.env d (.bool (i != stop)), fun k => if L ≤ k then stg L fam stop (i + 1) k else s.sto k⟩ K) : contYD P x.Y ops na l K s d m q args :=
 ⟨hm, _, _, by rw [hY]; exact ⟨rfl, i, hi, hit, hσ, rfl, rfl⟩, h⟩

theorem ofL_E {ks : List Nat} {env : Nat → C} : ∀ {El : List (Nat × C)}, (∀ p ∈ El, p.2.wi ks = true ∧ env p.1 = p.2) → ∀ q, (ofL El q).wi ks = true ∧ (ofL El q = env q ∨ ofL El q = .any)
 | [], _, q => ⟨rfl, .inr rfl⟩
 | p :: l, h, q => by
  by_cases hq : q = p.1
  ·subst hq
   have := h p (by simp)
   simp only [ofL, upd_same]
   exact ⟨this.1, .inl this.2.symm⟩
  ·simp only [ofL]
   rw [upd_ne _ _ hq]
   exact ofL_E (fun q hq => h q (by simp [hq])) q

/-- A family of an iterator's own objects, over the one that it was called for. -/
theorem famUp {L H : Nat} {ks2 : List Nat} {fam2 : Nat → Nat → Slot} {stop2 : Nat} (hfam : FamOk H ks2 fam2) (K : List Nat) (F : Nat → List (Nat × Nat × Slot)) (j : Nat → Nat) (hLH : L < H) (hK : ∀ k ∈ K, L < k ∧ k < H) (nd : K.Nodup) (hF : ∀ i, (F i).map (·.1) = K)
    (hst : ∀ i, ∀ p ∈ F i, p.2.2 ≠ .free ∧ ∀ o, p.2.2 = .live o → o.rows.all (wil (K ++ H :: ks2)) = true ∧ o.rows.all (fun r => r.all C.cell) = true) :
    FamOk L (K ++ H :: ks2) (fun i => hiS H (stoT (F i)) (stg H fam2 stop2 (j i))) := by
  have hmem : ∀ {i k : Nat}, k < H → stoT (F i) k ≠ .free → ∃ p ∈ F i, p.1 = k ∧ stoT (F i) k = p.2.2 := fun _ h => stoT_some h
  have hin : ∀ {i k : Nat}, k ∈ K → ∃ p ∈ F i, p.1 = k ∧ stoT (F i) k = p.2.2 := by
    intro i k hk
    have : k ∈ (F i).map (·.1) := by rw [hF i]; exact hk
    obtain ⟨p, hp, rfl⟩ := List.mem_map.1 this
    exact ⟨p, hp, rfl, stoT_mem (by rw [hF i]; exact nd) hp⟩
  have hle : ∀ k ∈ H :: ks2, H ≤ k := by
    intro k hk
    rcases List.mem_cons.1 hk with rfl | hk
    · exact Nat.le_refl _
    · exact Nat.le_of_lt (hfam.lt k hk)
  have live : ∀ {i k : Nat} {o : Ob}, hiS H (stoT (F i)) (stg H fam2 stop2 (j i)) k = .live o → (k < H ∧ ∃ p ∈ F i, p.2.2 = .live o) ∨ (fam2 (j i) k = .live o) := by
    intro i k o h
    by_cases hH : H ≤ k
    · rw [hiS_hi hH] at h
      right
      by_cases e : k = H
      · subst e
        simp only [stg, if_true] at h
        split at h <;> cases h
      · simpa only [stg, if_neg e] using h
    · have hH := Nat.lt_of_not_le hH
      rw [hiS_lo hH] at h
      obtain ⟨p, hp, rfl, h1⟩ := stoT_some (T := F i) (k := k) (by rw [h]; simp)
      exact .inl ⟨hH, p, hp, h1 ▸ h⟩
  refine ⟨fun k hk => ?_, ?_, fun i k hk => ?_, fun i k hk => ?_, fun i k o h => ?_, fun i k o h => ?_⟩
  · rcases List.mem_append.1 hk with hk | hk
    · exact (hK k hk).1
    · exact Nat.lt_of_lt_of_le hLH (hle k hk)
  · rw [List.nodup_append]
    refine ⟨nd, List.nodup_cons.2 ⟨fun h => Nat.lt_irrefl _ (hfam.lt _ h), hfam.nd⟩, ?_⟩
    rintro a ha b hb rfl
    exact Nat.lt_irrefl _ (Nat.lt_of_lt_of_le (hK a ha).2 (hle a hb))
  · simp only [List.mem_append, not_or] at hk
    by_cases hH : H ≤ k
    · rw [hiS_hi hH]
      have h1 : k ≠ H := fun e => hk.2 (by simp [e])
      simp only [stg, if_neg h1]
      exact hfam.out _ k fun h => hk.2 (by simp [h])
    · rw [hiS_lo (Nat.lt_of_not_le hH)]
      refine Classical.byContradiction fun hn => ?_
      obtain ⟨p, hp, rfl, _⟩ := stoT_some hn
      exact hk.1 (by rw [← hF i]; exact List.mem_map.2 ⟨p, hp, rfl⟩)
  · rcases List.mem_append.1 hk with hk | hk
    · rw [hiS_lo (hK k hk).2]
      obtain ⟨p, hp, rfl, h1⟩ := hin (i := i) hk
      rw [h1]
      exact (hst i p hp).1
    · rw [hiS_hi (hle k hk)]
      by_cases e : k = H
      · subst e
        simp only [stg, if_true]
        split <;> simp
      · simp only [stg, if_neg e]
        refine hfam.st _ k ?_
        simpa [e] using hk
  · rcases live h with ⟨_, p, hp, h1⟩ | h1
    · exact ((hst i p hp).2 o h1).1
    · have := hfam.wi _ _ _ h1
      rw [List.all_eq_true] at this ⊢
      exact fun r hr => wil_mono (fun q hq => by simp [hq]) r (this r hr)
  · rcases live h with ⟨_, p, hp, h1⟩ | h1
    · exact ((hst i p hp).2 o h1).2
    · exact hfam.ce _ _ _ h1

/-- A family of objects of a function that is called for none. -/
theorem famOf {L : Nat} (K : List Nat) (F : Nat → List (Nat × Nat × Slot)) (hK : ∀ k ∈ K, L < k) (nd : K.Nodup) (hF : ∀ i, (F i).map (·.1) = K)
    (hst : ∀ i, ∀ p ∈ F i, p.2.2 ≠ .free ∧ ∀ o, p.2.2 = .live o → o.rows.all (wil K) = true ∧ o.rows.all (fun r => r.all C.cell) = true) : FamOk L K (fun i => stoT (F i)) := by
  have live : ∀ {i k : Nat} {o : Ob}, stoT (F i) k = .live o → ∃ p ∈ F i, p.2.2 = .live o := by
    intro i k o h
    obtain ⟨p, hp, rfl, h1⟩ := stoT_some (T := F i) (k := k) (by rw [h]; simp)
    exact ⟨p, hp, h1 ▸ h⟩
  refine ⟨hK, nd, fun i k hk => ?_, fun i k hk => ?_, fun i k o h => ?_, fun i k o h => ?_⟩
  · refine Classical.byContradiction fun hn => ?_
    obtain ⟨p, hp, rfl, _⟩ := stoT_some hn
    exact hk (by rw [← hF i]; exact List.mem_map.2 ⟨p, hp, rfl⟩)
  · have : k ∈ (F i).map (·.1) := by rw [hF i]; exact hk
    obtain ⟨p, hp, rfl⟩ := List.mem_map.1 this
    rw [stoT_mem (by rw [hF i]; exact nd) hp]
    exact (hst i p hp).1
  · obtain ⟨p, hp, h1⟩ := live h
    exact ((hst i p hp).2 o h1).1
  · obtain ⟨p, hp, h1⟩ := live h
    exact ((hst i p hp).2 o h1).2

theorem hx_rfam {y : Ctx} {L i : Nat} {ks : List Nat} {fam : Nat → Nat → Slot} (hfam : FamOk L ks fam) (hσ : y.σ = rfam L fam i) : ∀ k, y.σ k ≠ .free → k = L ∨ k ∈ ks := by
 intro k hk
 rw [hσ] at hk
 by_cases e : k = L
 ·exact .inl e
 ·simp only [rfam, if_neg e] at hk
  exact .inr (Classical.byContradiction fun hn => hk (hfam.out _ k hn))

theorem ov_up {L H S n i0 stop2 : Nat} {K ks2 : List Nat} {fam2 : Nat → Nat → Slot} {F : Nat → List (Nat × Nat × Slot)} {j : Nat → Nat} {σ : Nat → Slot} (hfam : FamOk H ks2 fam2) (hLH : L < H) (hσ : ∀ k, H ≤ k → σ k = stg H fam2 stop2 i0 k) :
  ∀ k, H ≤ k → ovS (L :: (K ++ H :: ks2)) σ (stg L (fun i => hiS H (stoT (F i)) (stg H fam2 stop2 (j i))) S n) k = stg H fam2 stop2 (j n) k := by
 intro k hk
 have hkL : k ≠ L := by omega
 by_cases hm : k ∈ H :: ks2
 ·rw [ovS_in (by simp only [List.mem_cons, List.mem_append]; exact .inr (.inr (List.mem_cons.1 hm)))]
  simp only [stg, if_neg hkL, hiS_hi hk]
 ·have h1 : k ≠ H := fun e => hm (by simp [e])
  have h2 : k ∉ ks2 := fun e => hm (by simp [e])
  by_cases hK : k ∈ K
  ·rw [ovS_in (by simp [hK])]
   simp only [stg, if_neg hkL, hiS_hi hk]
  ·rw [ovS_out (by simp [hkL, hK, h1, h2]), hσ k hk]
   simp only [stg, if_neg h1]
   rw [hfam.out _ k h2, hfam.out _ k h2]

theorem rfam_hi {L H i : Nat} {F : Nat → List (Nat × Nat × Slot)} {hi : Nat → Nat → Slot} (h : L < H) : rfam L (fun i => hiS H (stoT (F i)) (hi i)) i = hiS H (stoT ((L, L, .gh) :: F i)) (hi i) := by
 funext k
 by_cases e : k = L
 ·subst e
  rw [hiS_lo h]
  simp [rfam]
 ·simp only [rfam, if_neg e]
  by_cases hk : H ≤ k
  ·rw [hiS_hi hk, hiS_hi hk]
  ·have hk := Nat.lt_of_not_le hk
   rw [hiS_lo hk, hiS_lo hk]
   simp [e]

theorem rfam_stoT {L i : Nat} {F : Nat → List (Nat × Nat × Slot)} : rfam L (fun i => stoT (F i)) i = stoT ((L, L, .gh) :: F i) := by
 funext k
 by_cases e : k = L
 ·subst e; simp [rfam]
 ·simp [rfam, e]

-- lists that are thinned out
theorem filter_get {α : Type} (p : α → Bool) : ∀ {l : List α} {i : Nat} (hi : i < l.length), p l[i] = true → (l.filter p)[(l.take i).countP p]? = some l[i]
 | [], i, hi, _ => by simp at hi
 | a :: l, 0, _, h => by
  simp only [List.getElem_cons_zero] at h
  simp [h]
 | a :: l, i + 1, hi, h => by
  simp only [List.getElem_cons_succ] at h
  have := filter_get p (l := l) (i := i) (by simpa using hi) h
  by_cases ha : p a = true
  ·simp [ha, List.filter_cons, List.countP_cons, this]
  ·simp [ha, List.filter_cons, List.countP_cons, this]

theorem count_step {α : Type} (p : α → Bool) {l : List α} {i : Nat} (hi : i < l.length) : (l.take (i + 1)).countP p = (l.take i).countP p + if p l[i] = true then 1 else 0 := by
 rw [List.take_succ_eq_append_getElem hi, List.countP_append, List.countP_singleton]

theorem count_mono {α : Type} (p : α → Bool) (l : List α) {a b : Nat} (h : a ≤ b) : (l.take a).countP p ≤ (l.take b).countP p := by
 have : l.take a = (l.take b).take a := by rw [List.take_take, Nat.min_eq_left h]
 rw [this]
 exact List.Sublist.countP_le (List.take_sublist _ _)

theorem filter_ix {α : Type} (p : α → Bool) : ∀ {l : List α} {k : Nat}, k < (l.filter p).length → ∃ i, ∃ hi : i < l.length, p l[i] = true ∧ (l.take i).countP p = k
 | [], k, h => by simp at h
 | a :: l, k, h => by
  by_cases ha : p a = true
  ·cases k with
   | zero => exact ⟨0, by simp, by simpa using ha, by simp⟩
   | succ k =>
    simp only [List.filter_cons, ha, if_true, List.length_cons, Nat.add_lt_add_iff_right] at h
    obtain ⟨i, hi, h1, h2⟩ := filter_ix p h
    exact ⟨i + 1, by simpa using hi, by simpa using h1, by simp [List.countP_cons, ha, h2]⟩
  ·simp only [List.filter_cons, ha, Bool.false_eq_true, if_false] at h
   obtain ⟨i, hi, h1, h2⟩ := filter_ix p h
   exact ⟨i + 1, by simpa using hi, by simpa using h1, by simp [List.countP_cons, ha, h2]⟩

theorem wrap_id {z : Int} (h1 : -9223372036854775808 ≤ z) (h2 : z < 9223372036854775808) : IntKind.i64.wrap z = z := by
 rw [IntKind.wrap_i64]; omega

end
end Go.Abs

/- 'for .. := range f' in a function that began without objects. No condition. -/
namespace Go.Abs
section
variable {P : Program}

theorem ofL_wi {ks : List Nat} : ∀ {E : List (Nat × C)}, (∀ p ∈ E, p.2.wi ks = true) → ∀ t, (ofL E t).wi ks = true
 | [], _, t => rfl
 | p :: l, h, t => by
  by_cases hq : t = p.1
  ·subst hq
   simp only [ofL, upd_same]
   exact h p (by simp)
  ·simp only [ofL]
   rw [upd_ne _ _ hq]
   exact ofL_wi (fun q hq => h q (by simp [hq])) t

theorem wk_shpE {x : Ctx} {s : AS} {env : Nat → C} {τ : Nat → Slot} {m : Nat → Nat → Prop} {old : Nat → Nat} (h : ShpG x s.sto τ m old) (hE : ∀ t, mtc m (s.env t) (env t)) : Wk x s ⟨env, τ⟩ :=
 fun ρ a w hs => ⟨fun k => ρ (old k), { h.frm hs.toFrm with nt := hs.nt, defers := hs.defers, inr := hs.inr, env := fun t ht => h.mt_sound (hs.env t ht) (hE t) }⟩

theorem wk_shape2 {x : Ctx} {s : AS} {E : List (Nat × C)} {τ : Nat → Slot} (T : List (Nat × Nat × Slot)) (hτ : stoT T = τ) (h : Shp x s.sto T) (hE : ∀ p ∈ E, mtc (mT T) (s.env p.1) p.2) : Wk x s ⟨ofL E, τ⟩ := hτ ▸ wk_shape h hE

/-- A shape in a round. -/
theorem wk_round {y : Ctx} {s : AS} {L : Nat} {K : List Nat} (T : List (Nat × Nat × Slot)) {τ : Nat → Slot} (hτ : stoT T = τ) (hy : ∀ k, y.σ k ≠ .free → k ∈ L :: K) (hT : ∀ k ∈ L :: K, mT T k k) (n1 : (T.map (·.1)).Nodup) (n2 : (T.map (·.2.1)).Nodup) (ok : ∀ p ∈ T, SlotOk (mT T) (s.sto p.2.1) p.2.2) {E : List (Nat × C)} (hE : ∀ p ∈ E, mtc (mT T) (s.env p.1) p.2) : Wk y s ⟨ofL E, τ⟩ :=
  wk_shape2 T hτ ⟨n1, n2, ok, fun k hk _ => hT k (hy k hk)⟩ hE

/-- A RANGE OVER A FUNCTION, in a function that began without objects. -/
theorem awp_range0 {x : Ctx} {t : Nat} {ps : Array Tmp} {assign body : Code} {Q : Exit → AS → Prop} (L : Nat) (K : List Nat) (F : Nat → List (Nat × Nat × Slot)) (items : List (List C)) (stop : Nat) (jc : Code) (E0 El : List (Nat × C)) {gf : FuncId} {first caps : List C}
    {s : AS} (hw0 : Wk x s ⟨ofL E0, stoT (F 0)⟩) (hx : x.σ = freeS) (hg : ofL E0 t = .fn (.func gf) first caps) (hgt : t < x.nt) (hpu : purel first = true ∧ purel caps = true) (hit : ItC P L gf first caps items) (hstop : stop ≤ items.length)
    (hK : ∀ k ∈ K, L < k) (nd : K.Nodup) (hF : ∀ i, (F i).map (·.1) = K ∧ (F i).map (·.2.1) = K) (hst : ∀ i, ∀ p ∈ F i, ∃ o, p.2.2 = .live o ∧ o.rows.all (wil K) = true ∧ o.rows.all (fun r => r.all C.cell) = true)
    (hE0 : ∀ p ∈ E0, p.2.wi K = true) (hE : ∀ p ∈ El, p.2.wi K = true ∧ ofL E0 p.1 = p.2) (hps : ∀ args ∈ items, purel args = true ∧ args.length = ps.size)
    (hround : ∀ i args, items[i]? = some args → i ≤ stop → ∀ (y y2 : Ctx), y.nt = x.nt → y2.nt = x.nt → (∀ k, y.σ k ≠ .free → k ∈ L :: K) → (∀ k, y2.σ k ≠ .free → k ∈ L :: K) →
      AWP P y assign ⟨putPs (ofL El) ps.toList args, stoT ((L, L, .gh) :: F i)⟩ (nextQ (fun s' => s'.sto L = .gh ∧ AWP P y2 body s' fun e s'' => (if i = stop then jumpOf e = some jc else e = .normal) ∧ Wk y2 s'' ⟨fun _ => .any, stoT ((L, L, .gh) :: F (i + 1))⟩) fun _ _ => False))
    (hdone : stop = items.length → ∀ s', Wk x s' ⟨ofL E0, stoT (F items.length)⟩ → Q .normal s')
    (hjump : stop < items.length → AWP P x jc ⟨ofL E0, stoT (F (stop + 1))⟩ Q) : AWP P x (.rangeFunc (.tmp t) ps assign body) s Q := by
  refine AWP.weak ?_ hw0
  have hfam : FamOk L K (fun i => stoT (F i)) := famOf K F hK nd (fun i => (hF i).1) fun i p hp => by
    obtain ⟨o, h1, h2⟩ := hst i p hp
    exact ⟨by rw [h1]; simp, fun o' e => by rw [h1] at e; cases e; exact h2⟩
  have hLK : L ∉ K := fun h => Nat.lt_irrefl _ (hK L h)
  have hfree : ∀ i k, k ∉ K → stoT (F i) k = .free := fun i k hk => hfam.out i k hk
  have hself : ∀ n, ∀ k ∈ K, mT (F n) k k := by
    intro n k hk
    have hk2 := hk
    rw [← (hF n).1] at hk2
    obtain ⟨p, hp, rfl⟩ := List.mem_map.1 hk2
    have e : (F n).map (·.1) = (F n).map (·.2.1) := (hF n).1.trans (hF n).2.symm
    have : p.1 = p.2.1 := (List.map_inj_left.1 e) p hp
    exact mem_mT.2 ⟨p.2.2, by rw [show (p.1, p.1, p.2.2) = p from Prod.ext rfl (Prod.ext this rfl)]; exact hp⟩
  -- what there is behind the loop
  have hend : ∀ n, Wk x ⟨ofL E0, ovS (L :: K) (stoT (F 0)) (stg L (fun i => stoT (F i)) stop n)⟩ ⟨ofL E0, stoT (F n)⟩ := by
    intro n
    have hsh : Shp x (ovS (L :: K) (stoT (F 0)) (stg L (fun i => stoT (F i)) stop n)) (F n) := by
      refine ⟨by rw [(hF n).1]; exact nd, by rw [(hF n).2]; exact nd, fun p hp => ?_, fun k hk _ => absurd (by rw [hx]; rfl) hk⟩
      have e : (F n).map (·.1) = (F n).map (·.2.1) := (hF n).1.trans (hF n).2.symm
      have h1 : p.1 = p.2.1 := (List.map_inj_left.1 e) p hp
      have hpK : p.1 ∈ K := by rw [← (hF n).1]; exact List.mem_map.2 ⟨p, hp, rfl⟩
      have hne : p.1 ≠ L := fun e => hLK (e ▸ hpK)
      have h2 : ovS (L :: K) (stoT (F 0)) (stg L (fun i => stoT (F i)) stop n) p.2.1 = p.2.2 := by
        rw [← h1, ovS_in (by simp [hpK])]
        simp only [stg, if_neg hne]
        exact stoT_mem (by rw [(hF n).1]; exact nd) hp
      rw [h2]
      obtain ⟨o, h3, h4, h5⟩ := hst n p hp
      rw [h3]
      exact ⟨rfl, rfl, rfl, rows_self (hself n) _ h4 h5⟩
    exact wk_shpE hsh.gen fun t => mt_self (hself n) _ (ofL_wi hE0 t)
  refine awp_range L K (fun i => stoT (F i)) items stop jc (ofL El) hg (fun t' ht => by cases ht; exact hgt) hpu hit hstop hfam (hfree 0 L hLK) (fun k hk => rfl) (ofL_E hE) hps (fun k hk => absurd (by rw [hx]; rfl) hk) ?_ (fun e => hdone e _ (hend _)) (fun e => AWP.weak (hjump e) (hend _))
  intro i args hit' hi l y y2 hy hy2
  rw [rfam_stoT]
  refine AWP.mono (hround i args hit' hi y y2 hy.nt hy2.nt (fun k hk => by have := hx_rfam hfam hy.σ k hk; simpa using this) (fun k hk => by have := hx_rfam hfam hy2.σ k hk; simpa using this)) ?_
  intro e s' he
  cases e with
  | normal =>
    refine ⟨he.1, AWP.mono he.2 ?_⟩
    intro e' s'' h
    unfold rndQ
    rw [rfam_stoT]
    exact h
  | _ => exact he

end
end Go.Abs

/- Short forms of the steps of a walk. No condition. -/
namespace Go.Abs
section
variable {P : Program} {x : Ctx}

theorem ZQ {c d : Code} {s : AS} {Q : Exit → AS → Prop} (h : AWP P x c s (nextQ (fun s' => AWP P x d s' Q) Q)) : AWP P x (.seq c d) s Q := awp_seq h
theorem ZR {id : Nat} {l : List Oper} {s : AS} {Q : Exit → AS → Prop} (h : ∀ K : AS → Prop, (∀ s', Q .normal s' → K s') → evalL P x.Y l.toArray l s K)
  (hnt : l.toArray.all (inNt x.nt) = true := by rw [hx]; kernel_rfl) : AWP P x (.region id l.toArray false) s Q := awp_reg1 hnt h
theorem ZD {id : Nat} {l : List Oper} {s : AS} {Q : Exit → AS → Prop} (na p : List Nat) (h : ∀ K : AS → Prop, (∀ s', Q .normal s' → K s') → evalD P x.Y l.toArray na (p.filterMap fun i => (l.toArray[i]?).map fun o => (i, o)) s K)
  (hnt : l.toArray.all (inNt x.nt) = true := by rw [hx]; kernel_rfl) (hok : okDraw .any l.toArray na p = true := by kernel_rfl) (ht : topoOk .text l.toArray = true := by kernel_rfl) (hg : topoOk .gc l.toArray = true := by kernel_rfl) :
  AWP P x (.region id l.toArray true) s Q := awp_drw3 na p hnt hok ht hg h
theorem ZC {c : Operand} {d e : Code} {s : AS} {Q : Exit → AS → Prop} {b : Bool} (h1 : b = true → AWP P x d s Q) (h2 : b = false → AWP P x e s Q) (hc : s.ev c = .bool b := by simp; rfl) (hin : ∀ t, c = .tmp t → t < x.nt := by rw [hx]; simp) :
  AWP P x (.cond c d e) s Q := awp_cond hc hin h1 h2
theorem ZP {Y : YRel} {ops : Array Oper} {l : List Oper} {K : AS → Prop} {s : AS} {d : Option Nat} {f : FuncId} {args : List C} {r : C} (hp : Pure P f args r) (h : evalL P Y ops l ⟨putE s.env d r, s.sto⟩ K)
  (hv : purel args = true := by first | (simp; done) | (simp [*]; done)) : contC P Y ops l K s d f args := callP hp hv h
theorem ZE {Y : YRel} {ops : Array Oper} {na : List Nat} {m : Nat} {l : List (Nat × Oper)} {K : AS → Prop} {s : AS} {d : Option Nat} {f : FuncId} {args : List C} {r : C} (hp : Pure P f args r)
  (h : evalD P Y ops na l ⟨putE s.env d r, s.sto⟩ K) (hv : purel args = true := by first | (simp; done) | (simp [*]; done)) (hm : m = 0 ∨ m = 1 := by simp) : contCD P Y ops na l K s d m f args := callPD hp hv hm h

/-- A shape. -/
theorem Zw {s : AS} {E : List (Nat × C)} {T : List (Nat × Nat × Slot)}
    (ok : ∀ p ∈ T, SlotOk (mT T) (s.sto p.2.1) p.2.2 := by simp [SlotOk] <;> (repeat' (first | exact .same (by simp [purel, C.isPure]) | exact .cons (by simp [mtl, mtc, mT, mH, C.isPure, purel]) (by simp) .nil | refine And.intro ?_ ?_)))
    (hE : ∀ p ∈ E, mtc (mT T) (s.env p.1) p.2 := by simp [mtc, mtl, mT, C.isPure, purel] <;> (try simp (disch := omega) [wrap_id]) <;> (try omega))
    (h0 : x.σ = freeS := by exact hσ) (n1 : (T.map (·.1)).Nodup := by simp) (n2 : (T.map (·.2.1)).Nodup := by simp) : Wk x s ⟨ofL E, stoT T⟩ := wk_shape (shp0 h0 n1 n2 ok) hE
theorem ZW {s : AS} {E : List (Nat × C)} {T : List (Nat × Nat × Slot)}
  (ok : ∀ p ∈ T, SlotOk (mT T) (s.sto p.2.1) p.2.2 := by simp [SlotOk] <;> (repeat' (first | (refine RowsOk.same ?_; simp [purel, C.isPure]; done) | (refine rowsCons ?_; simp [mtl, mtc, mT, mH, C.isPure, purel]; done) | (refine rowsCons ?_; simp [mtl, mtc, mT, mH, C.isPure, purel]) | refine And.intro ?_ ?_)))
  (hE : ∀ p ∈ E, mtc (mT T) (s.env p.1) p.2 := by simp [mtc, mtl, mT, C.isPure, purel] <;> (try simp (disch := omega) [wrap_id]) <;> (try omega))
  (h0 : x.σ = freeS := by exact hσ) (n1 : (T.map (·.1)).Nodup := by simp) (n2 : (T.map (·.2.1)).Nodup := by simp) : Wk x s ⟨ofL E, stoT T⟩ := wk_shape (shp0 h0 n1 n2 ok) hE
end

theorem ZF {P : Program} {f : FuncId} {fn : Func} {c : Code} {args : List C} {r : C} (res : List ResultVar) (hf : FnIs P f fn c)
  (h : ∀ x : Ctx, x.nt = fn.ntmps → x.σ = freeS → AWP P x c ⟨envOf args, freeS⟩ fun e s => (e = .normal ∨ e = .ret) ∧ ∃ d, retC P s res = some d ∧ viewC s.sto 6 d = some r)
  (hlen : Nat.ble args.length fn.ntmps = true := by kernel_rfl) (hrs : fn.results.toList = res := by kernel_rfl) (hres : resNt fn.ntmps res = true := by kernel_rfl) : Pure P f args r := pure_of res hf hlen hrs hres h
end Go.Abs

/- The shelf's contracts of maps.Keys, slices.Sorted and slices.Sort at this program, laid plain by the kit's lay-plain. No condition. -/
namespace Go.Proofs
open Go.Shelf
def Tryz.keysA_ren : Go.Shelf.Ren := ⟨fun | 7 => 44 | 10 => 65 | n => n, fun | 23 => 66 | 26 => 3 | 3 => 3 | 28 => 95 | 0 => 0 | 27 => 74 | 33 => 58 | 4 => 4 | n => n, fun | n => n⟩
theorem Tryz.keysA : Go.Proofs.SlLaysZI.n7 Tryz.prog Tryz.keysA_ren := {
 mixed := by kernel_rfl
 f7 := ⟨Tryz.f44.name, by decide, Tryz.func44.trans (congrArg some (by kernel_rfl))⟩
 f10 := ⟨Tryz.f65.name, by decide, Tryz.func65.trans (congrArg some (by kernel_rfl))⟩
 t0 := Tryz.underlying0
 a0 := Tryz.isAgg0
 z0 := Tryz.sizeOf0
 v0 := Tryz.zeroValue0
 t4 := Tryz.underlying4
 a4 := Tryz.isAgg4
 z4 := Tryz.sizeOf4
 v4 := Tryz.zeroValue4
 t23 := Tryz.underlying66
 a23 := Tryz.isAgg66
 z23 := Tryz.sizeOf66
 v23 := Tryz.zeroValue66
 t26 := Tryz.underlying3
 a26 := Tryz.isAgg3
 z26 := Tryz.sizeOf3
 v26 := Tryz.zeroValue3
 t27 := Tryz.underlying74
 a27 := Tryz.isAgg74
 z27 := Tryz.sizeOf74
 v27 := Tryz.zeroValue74
 t28 := Tryz.underlying95
 a28 := Tryz.isAgg95
 z28 := Tryz.sizeOf95
 v28 := Tryz.zeroValue95
 t33 := Tryz.underlying58
 a33 := Tryz.isAgg58
 z33 := Tryz.sizeOf58
 v33 := Tryz.zeroValue58 }
def Tryz.sortedA_ren : Go.Shelf.Ren := ⟨fun | 6 => 43 | 8 => 22 | 9 => 64 | 11 => 49 | 13 => 82 | 12 => 81 | 23 => 111 | 24 => 112 | 14 => 102 | 15 => 103 | 16 => 104 | 17 => 105 | 18 => 106 | 19 => 107 | 20 => 108 | 21 => 109 | 22 => 110 | 25 => 123 | 26 => 124 | 27 => 125 | 28 => 126 | 29 => 127 | 30 => 128 | 31 => 135 | n => n, fun | 26 => 3 | 28 => 95 | 24 => 43 | 0 => 0 | 3 => 3 | 37 => 92 | 48 => 174 | 50 => 176 | 4 => 4 | 40 => 166 | 39 => 165 | 45 => 171 | 5 => 5 | 9 => 9 | 51 => 187 | 55 => 191 | 57 => 197 | 58 => 141 | 33 => 58 | n => n, fun | n => n⟩
theorem Tryz.sortedA : Go.Proofs.SlLaysZI.n6 Tryz.prog Tryz.sortedA_ren := {
 mixed := by kernel_rfl
 f6 := ⟨Tryz.f43.name, by decide, Tryz.func43.trans (congrArg some (by kernel_rfl))⟩
 f8 := ⟨Tryz.f22.name, by decide, Tryz.func22.trans (congrArg some (by kernel_rfl))⟩
 f11 := ⟨Tryz.f49.name, by decide, Tryz.func49.trans (congrArg some (by kernel_rfl))⟩
 t0 := Tryz.underlying0
 a0 := Tryz.isAgg0
 z0 := Tryz.sizeOf0
 v0 := Tryz.zeroValue0
 t24 := Tryz.underlying43
 a24 := Tryz.isAgg43
 z24 := Tryz.sizeOf43
 v24 := Tryz.zeroValue43
 t26 := Tryz.underlying3
 a26 := Tryz.isAgg3
 z26 := Tryz.sizeOf3
 v26 := Tryz.zeroValue3
 t28 := Tryz.underlying95
 a28 := Tryz.isAgg95
 z28 := Tryz.sizeOf95
 v28 := Tryz.zeroValue95
 i26 := by kernel_rfl }
def Tryz.sortA_ren : Go.Shelf.Ren := ⟨fun | 5 => 64 | 8 => 82 | 7 => 81 | 19 => 111 | 20 => 112 | 10 => 102 | 11 => 103 | 12 => 104 | 13 => 105 | 14 => 106 | 15 => 107 | 16 => 108 | 17 => 109 | 18 => 110 | 30 => 123 | 31 => 124 | 32 => 125 | 33 => 126 | 34 => 127 | 35 => 128 | 40 => 135 | n => n, fun | 23 => 43 | 25 => 3 | 3 => 3 | 32 => 92 | 22 => 43 | 0 => 0 | 44 => 174 | 46 => 176 | 4 => 4 | 36 => 166 | 35 => 165 | 41 => 171 | 5 => 5 | 9 => 9 | 53 => 187 | 57 => 191 | 63 => 197 | 64 => 141 | n => n, fun | n => n⟩
theorem Tryz.sortA : Go.Proofs.SlLaysM.n5 Tryz.prog Tryz.sortA_ren := {
 mixed := by kernel_rfl
 f5 := ⟨Tryz.f64.name, by decide, Tryz.func64.trans (congrArg some (by kernel_rfl))⟩
 f7 := ⟨Tryz.f81.name, by decide, Tryz.func81.trans (congrArg some (by kernel_rfl))⟩
 f8 := Tryz.func82.trans (congrArg some (by kernel_rfl))
 f10 := ⟨Tryz.f102.name, by decide, Tryz.func102.trans (congrArg some (by kernel_rfl))⟩
 f11 := ⟨Tryz.f103.name, by decide, Tryz.func103.trans (congrArg some (by kernel_rfl))⟩
 f12 := ⟨Tryz.f104.name, by decide, Tryz.func104.trans (congrArg some (by kernel_rfl))⟩
 f13 := ⟨Tryz.f105.name, by decide, Tryz.func105.trans (congrArg some (by kernel_rfl))⟩
 f14 := ⟨Tryz.f106.name, by decide, Tryz.func106.trans (congrArg some (by kernel_rfl))⟩
 f15 := ⟨Tryz.f107.name, by decide, Tryz.func107.trans (congrArg some (by kernel_rfl))⟩
 f16 := ⟨Tryz.f108.name, by decide, Tryz.func108.trans (congrArg some (by kernel_rfl))⟩
 f17 := ⟨Tryz.f109.name, by decide, Tryz.func109.trans (congrArg some (by kernel_rfl))⟩
 f18 := ⟨Tryz.f110.name, by decide, Tryz.func110.trans (congrArg some (by kernel_rfl))⟩
 f19 := Tryz.func111.trans (congrArg some (by kernel_rfl))
 f20 := Tryz.func112.trans (congrArg some (by kernel_rfl))
 f30 := ⟨Tryz.f123.name, by decide, Tryz.func123.trans (congrArg some (by kernel_rfl))⟩
 f31 := Tryz.func124.trans (congrArg some (by kernel_rfl))
 f32 := Tryz.func125.trans (congrArg some (by kernel_rfl))
 f33 := ⟨Tryz.f126.name, by decide, Tryz.func126.trans (congrArg some (by kernel_rfl))⟩
 f34 := ⟨Tryz.f127.name, by decide, Tryz.func127.trans (congrArg some (by kernel_rfl))⟩
 f35 := ⟨Tryz.f128.name, by decide, Tryz.func128.trans (congrArg some (by kernel_rfl))⟩
 f40 := ⟨Tryz.f135.name, by decide, Tryz.func135.trans (congrArg some (by kernel_rfl))⟩
 t0 := Tryz.underlying0
 a0 := Tryz.isAgg0
 z0 := Tryz.sizeOf0
 v0 := Tryz.zeroValue0
 t3 := Tryz.underlying3
 a3 := Tryz.isAgg3
 z3 := Tryz.sizeOf3
 v3 := Tryz.zeroValue3
 t4 := Tryz.underlying4
 a4 := Tryz.isAgg4
 z4 := Tryz.sizeOf4
 v4 := Tryz.zeroValue4
 t5 := Tryz.underlying5
 a5 := Tryz.isAgg5
 z5 := Tryz.sizeOf5
 v5 := Tryz.zeroValue5
 t9 := Tryz.underlying9
 a9 := Tryz.isAgg9
 z9 := Tryz.sizeOf9
 v9 := Tryz.zeroValue9
 t22 := Tryz.underlying43
 a22 := Tryz.isAgg43
 z22 := Tryz.sizeOf43
 v22 := Tryz.zeroValue43
 t23 := Tryz.underlying43
 a23 := Tryz.isAgg43
 z23 := Tryz.sizeOf43
 v23 := Tryz.zeroValue43
 t25 := Tryz.underlying3
 a25 := Tryz.isAgg3
 z25 := Tryz.sizeOf3
 v25 := Tryz.zeroValue3
 t32 := Tryz.underlying92
 a32 := Tryz.isAgg92
 z32 := Tryz.sizeOf92
 v32 := Tryz.zeroValue92
 t35 := Tryz.underlying165
 a35 := Tryz.isAgg165
 z35 := Tryz.sizeOf165
 v35 := Tryz.zeroValue165
 t36 := Tryz.underlying166
 a36 := Tryz.isAgg166
 z36 := Tryz.sizeOf166
 v36 := Tryz.zeroValue166
 t41 := Tryz.underlying171
 a41 := Tryz.isAgg171
 z41 := Tryz.sizeOf171
 v41 := Tryz.zeroValue171
 t44 := Tryz.underlying174
 a44 := Tryz.isAgg174
 z44 := Tryz.sizeOf174
 v44 := Tryz.zeroValue174
 t46 := Tryz.underlying176
 a46 := Tryz.isAgg176
 z46 := Tryz.sizeOf176
 v46 := Tryz.zeroValue176
 t53 := Tryz.underlying187
 a53 := Tryz.isAgg187
 z53 := Tryz.sizeOf187
 v53 := Tryz.zeroValue187
 t57 := Tryz.underlying191
 a57 := Tryz.isAgg191
 z57 := Tryz.sizeOf191
 v57 := Tryz.zeroValue191
 t63 := Tryz.underlying197
 a63 := Tryz.isAgg197
 z63 := Tryz.sizeOf197
 v63 := Tryz.zeroValue197
 t64 := Tryz.underlying141
 a64 := Tryz.isAgg141
 z64 := Tryz.sizeOf141
 v64 := Tryz.zeroValue141 }
end Go.Proofs

namespace Go.Proofs
open Go.RowKit Go.Maps Go.Sort Go.Shelf

/-- slices.Sort's two contracts, at the fence that asks nothing. -/
theorem Tryz.sortsA (m : Nat) : AnyZI.SortsIn Tryz.prog Tryz.sortedA_ren Fence.wide m :=
  ⟨fun blk off cap ss W hH hblk hsz => callsIn_wide.2 (AnyM.slices_Sort_int Tryz.sortA blk off cap ss W hH hblk hsz),
   fun p cap W => callsIn_wide.2 (AnyM.slices_Sort_int_none Tryz.sortA p cap W)⟩

/-- maps.Keys. -/
theorem Tryz.keys_c (mb : Option Nat) (W : World) : Calls Tryz.prog 44 #[.map mb] W fun e w' => e = .returned (.func (.func 65) #[] #[.pointer (some ⟨W.heap.size, 0, none⟩)]) ∧ w' = W.alloc (.cells #[.map mb] 66) :=
  (callsIn_wide (n := 6)).1 (AnyZI.keys_in Tryz.keysA Fence.wide 6 trivial rfl mb W)

/-- slices.Sorted of maps.Keys. -/
theorem Tryz.sorted_c {H : Type} (Bm b nn : Nat) (D0 : DataW H) (R : Value → Option (DataW H × List MemPlace)) (w : World) (hBm : Bm < w.heap.size) (hm : w.cell? ⟨Bm, 0, none⟩ = some (.map (some b))) (hown : w.ownsMap Tryz.prog 3 R b nn D0)
    (hmax : Maps.size D0 ≤ maxLen) (hbytes : Maps.size D0 * 8 ≤ 140737488355328) :
    Calls Tryz.prog 43 #[.func (.func 65) #[] #[.pointer (some ⟨Bm, 0, none⟩)]] w fun e w' => ∃ (v : Value) (ss : List Int), e = .returned v ∧ ss.Perm (intKeys D0) ∧
      w'.ownsRow w.heap.size 3 1 v ss.length ((ss.mergeSort (fun x y => decide (x ≤ y))).map encZ) ∧ (v = .slice none 0 0 ↔ ss = []) ∧ Below w.heap.size w w' := by
  refine (callsIn_wide (n := 6)).1 ?_
  have hseq : SeqGives Fence.wide 3 Tryz.prog 65 #[.pointer (some ⟨Bm, 0, none⟩)] encZ (fun ss => ss.Perm (intKeys D0)) (Maps.size D0) w :=
    AnyZI.keys_gives (ρ := Tryz.keysA_ren) { Tryz.keysA with } Fence.wide _ trivial rfl (by omega) Bm b nn D0 w hBm hm hown
  exact AnyZI.sorted_in Tryz.sortedA Fence.wide 6 trivial trivial trivial trivial rfl (by omega) (Tryz.sortsA _) (enters_of Tryz.func64 (by kernel_rfl) rfl) 65 #[.pointer (some ⟨Bm, 0, none⟩)] trivial (enters_of Tryz.func65 (by kernel_rfl) rfl) _ _ hmax hbytes w hseq

end Go.Proofs

/- The types of the program, as the machine knows them. No condition. -/
namespace Go.Proofs.YtbelmomdndjjkaaGreat
open Go Go.Abs
theorem ty3 : tyOf Tryz.prog 3 = some { kind := TK.int IntKind.i64, size := 1, bytes := 8, zero := [C.int IntKind.i64 (0)] } := by kernel_rfl
theorem ty4 : tyOf Tryz.prog 4 = some { kind := TK.bool, size := 1, bytes := 1, zero := [C.bool false] } := by kernel_rfl
theorem ty23 : tyOf Tryz.prog 23 = some { kind := TK.struct [{ off := 0, size := 1, agg := false, ok := true }, { off := 1, size := 1, agg := false, ok := true }], size := 2, bytes := 16, zero := [C.int IntKind.i64 (0), C.int IntKind.i64 (0)] } := by kernel_rfl
theorem ty25 : tyOf Tryz.prog 25 = some { kind := TK.struct [{ off := 0, size := 1, agg := false, ok := true }, { off := 1, size := 1, agg := false, ok := true }, { off := 2, size := 1, agg := false, ok := true }, { off := 3, size := 1, agg := false, ok := true }, { off := 4, size := 1, agg := false, ok := true }, { off := 5, size := 2, agg := true, ok := true }, { off := 7, size := 1, agg := false, ok := true }], size := 8, bytes := 64, zero := [C.int IntKind.i64 (0), C.int IntKind.i64 (0), C.int IntKind.i64 (0), C.int IntKind.i64 (0), C.int IntKind.i64 (0), C.int IntKind.i64 (0), C.int IntKind.i64 (0), C.int IntKind.i64 (0)] } := by kernel_rfl
theorem ty26 : tyOf Tryz.prog 26 = some { kind := TK.slice 55, size := 1, bytes := 24, zero := [C.sl true true []] } := by kernel_rfl
theorem ty28 : tyOf Tryz.prog 28 = some { kind := TK.struct [{ off := 0, size := 8, agg := true, ok := true }, { off := 8, size := 1, agg := false, ok := true }, { off := 9, size := 1, agg := false, ok := true }], size := 10, bytes := 96, zero := [C.int IntKind.i64 (0), C.int IntKind.i64 (0), C.int IntKind.i64 (0), C.int IntKind.i64 (0), C.int IntKind.i64 (0), C.int IntKind.i64 (0), C.int IntKind.i64 (0), C.int IntKind.i64 (0), C.int IntKind.i64 (0), C.sl true true []] } := by kernel_rfl
theorem ty30 : tyOf Tryz.prog 30 = some { kind := TK.struct [{ off := 0, size := 1, agg := false, ok := true }, { off := 1, size := 1, agg := false, ok := true }], size := 2, bytes := 16, zero := [C.int IntKind.i64 (0), C.int IntKind.i64 (0)] } := by kernel_rfl
theorem ty32 : tyOf Tryz.prog 32 = some { kind := TK.struct [{ off := 0, size := 1, agg := false, ok := true }, { off := 1, size := 1, agg := false, ok := true }, { off := 2, size := 1, agg := false, ok := true }, { off := 3, size := 1, agg := false, ok := true }, { off := 4, size := 2, agg := true, ok := true }], size := 6, bytes := 48, zero := [C.int IntKind.i64 (0), C.int IntKind.i64 (0), C.int IntKind.i64 (0), C.int IntKind.i64 (0), C.int IntKind.i64 (0), C.int IntKind.i64 (0)] } := by kernel_rfl
theorem ty34 : tyOf Tryz.prog 34 = some { kind := TK.int IntKind.i64, size := 1, bytes := 8, zero := [C.int IntKind.i64 (0)] } := by kernel_rfl
theorem ty39 : tyOf Tryz.prog 39 = some { kind := TK.struct [{ off := 0, size := 1, agg := false, ok := true }, { off := 1, size := 1, agg := false, ok := true }], size := 2, bytes := 32, zero := [C.int IntKind.i64 (0), C.sl true true []] } := by kernel_rfl
theorem ty40 : tyOf Tryz.prog 40 = some { kind := TK.slice 39, size := 1, bytes := 24, zero := [C.sl true true []] } := by kernel_rfl
theorem ty42 : tyOf Tryz.prog 42 = some { kind := TK.struct [{ off := 0, size := 8, agg := true, ok := true }, { off := 8, size := 1, agg := false, ok := true }, { off := 9, size := 1, agg := false, ok := true }, { off := 10, size := 1, agg := false, ok := true }, { off := 11, size := 1, agg := false, ok := true }, { off := 12, size := 1, agg := false, ok := true }], size := 13, bytes := 120, zero := [C.int IntKind.i64 (0), C.int IntKind.i64 (0), C.int IntKind.i64 (0), C.int IntKind.i64 (0), C.int IntKind.i64 (0), C.int IntKind.i64 (0), C.int IntKind.i64 (0), C.int IntKind.i64 (0), C.int IntKind.i64 (0), C.int IntKind.i64 (0), C.int IntKind.i64 (0), C.sl true true [], C.int IntKind.i64 (0)] } := by kernel_rfl
theorem ty43 : tyOf Tryz.prog 43 = some { kind := TK.slice 3, size := 1, bytes := 24, zero := [C.sl true true []] } := by kernel_rfl
theorem ty53 : tyOf Tryz.prog 53 = some { kind := TK.slice 82, size := 1, bytes := 24, zero := [C.sl true true []] } := by kernel_rfl
theorem ty55 : tyOf Tryz.prog 55 = some { kind := TK.struct [{ off := 0, size := 1, agg := false, ok := true }, { off := 1, size := 1, agg := false, ok := true }], size := 2, bytes := 32, zero := [C.int IntKind.i64 (0), C.sl true true []] } := by kernel_rfl
theorem ty63 : tyOf Tryz.prog 63 = some { kind := TK.struct [{ off := 0, size := 1, agg := false, ok := true }, { off := 1, size := 1, agg := false, ok := true }], size := 2, bytes := 16, zero := [C.int IntKind.i64 (0), C.int IntKind.i64 (0)] } := by kernel_rfl
theorem ty64 : tyOf Tryz.prog 64 = some { kind := TK.func, size := 1, bytes := 8, zero := [C.fnil] } := by kernel_rfl
theorem ty65 : tyOf Tryz.prog 65 = some { kind := TK.map 3 43, size := 1, bytes := 8, zero := [C.md true []] } := by kernel_rfl
theorem ty66 : tyOf Tryz.prog 66 = some { kind := TK.map 3 3, size := 1, bytes := 8, zero := [C.md true []] } := by kernel_rfl
theorem ty67 : tyOf Tryz.prog 67 = some { kind := TK.map 3 3, size := 1, bytes := 8, zero := [C.md true []] } := by kernel_rfl
theorem ty69 : tyOf Tryz.prog 69 = some { kind := TK.struct [{ off := 0, size := 13, agg := true, ok := true }, { off := 13, size := 1, agg := false, ok := true }, { off := 14, size := 1, agg := false, ok := true }], size := 15, bytes := 136, zero := [C.int IntKind.i64 (0), C.int IntKind.i64 (0), C.int IntKind.i64 (0), C.int IntKind.i64 (0), C.int IntKind.i64 (0), C.int IntKind.i64 (0), C.int IntKind.i64 (0), C.int IntKind.i64 (0), C.int IntKind.i64 (0), C.int IntKind.i64 (0), C.int IntKind.i64 (0), C.sl true true [], C.int IntKind.i64 (0), C.md true [], C.md true []] } := by kernel_rfl
theorem ty74 : tyOf Tryz.prog 74 = some { kind := TK.func, size := 1, bytes := 8, zero := [C.fnil] } := by kernel_rfl
theorem ty82 : tyOf Tryz.prog 82 = some { kind := TK.struct [{ off := 0, size := 1, agg := false, ok := true }, { off := 1, size := 1, agg := false, ok := true }, { off := 2, size := 1, agg := false, ok := true }, { off := 3, size := 1, agg := false, ok := true }, { off := 4, size := 1, agg := false, ok := true }], size := 5, bytes := 40, zero := [C.int IntKind.i64 (0), C.int IntKind.i64 (0), C.int IntKind.i64 (0), C.int IntKind.i64 (0), C.int IntKind.i64 (0)] } := by kernel_rfl
theorem ty87 : tyOf Tryz.prog 87 = some { kind := TK.ptr 117, size := 1, bytes := 8, zero := [C.pnil] } := by kernel_rfl
theorem ty93 : tyOf Tryz.prog 93 = some { kind := TK.int IntKind.u64, size := 1, bytes := 8, zero := [C.int IntKind.u64 (0)] } := by kernel_rfl
theorem ty95 : tyOf Tryz.prog 95 = some { kind := TK.func, size := 1, bytes := 8, zero := [C.fnil] } := by kernel_rfl
theorem ty103 : tyOf Tryz.prog 103 = some { kind := TK.slice 137, size := 1, bytes := 24, zero := [C.sl true true []] } := by kernel_rfl
theorem ty106 : tyOf Tryz.prog 106 = some { kind := TK.struct [{ off := 0, size := 1, agg := false, ok := true }, { off := 1, size := 1, agg := false, ok := true }], size := 2, bytes := 16, zero := [C.int IntKind.i64 (0), C.int IntKind.i64 (0)] } := by kernel_rfl
theorem ty108 : tyOf Tryz.prog 108 = some { kind := TK.struct [{ off := 0, size := 2, agg := true, ok := true }, { off := 2, size := 2, agg := true, ok := true }, { off := 4, size := 1, agg := false, ok := true }, { off := 5, size := 1, agg := false, ok := true }], size := 6, bytes := 48, zero := [C.int IntKind.i64 (0), C.int IntKind.i64 (0), C.int IntKind.i64 (0), C.int IntKind.i64 (0), C.int IntKind.i64 (0), C.int IntKind.i64 (0)] } := by kernel_rfl
theorem ty110 : tyOf Tryz.prog 110 = some { kind := TK.struct [{ off := 0, size := 1, agg := false, ok := true }, { off := 1, size := 1, agg := false, ok := true }], size := 2, bytes := 16, zero := [C.int IntKind.i64 (0), C.int IntKind.i64 (0)] } := by kernel_rfl
theorem ty115 : tyOf Tryz.prog 115 = some { kind := TK.slice 118, size := 1, bytes := 24, zero := [C.sl true true []] } := by kernel_rfl
theorem ty117 : tyOf Tryz.prog 117 = some { kind := TK.struct [{ off := 0, size := 10, agg := true, ok := true }, { off := 10, size := 1, agg := false, ok := true }], size := 11, bytes := 120, zero := [C.int IntKind.i64 (0), C.int IntKind.i64 (0), C.int IntKind.i64 (0), C.int IntKind.i64 (0), C.int IntKind.i64 (0), C.int IntKind.i64 (0), C.int IntKind.i64 (0), C.int IntKind.i64 (0), C.int IntKind.i64 (0), C.sl true true [], C.sl true true []] } := by kernel_rfl
theorem ty118 : tyOf Tryz.prog 118 = some { kind := TK.map 63 3, size := 1, bytes := 8, zero := [C.md true []] } := by kernel_rfl
theorem ty121 : tyOf Tryz.prog 121 = some { kind := TK.slice 63, size := 1, bytes := 24, zero := [C.sl true true []] } := by kernel_rfl
theorem ty127 : tyOf Tryz.prog 127 = some { kind := TK.struct [{ off := 0, size := 8, agg := true, ok := true }, { off := 8, size := 1, agg := false, ok := true }], size := 9, bytes := 88, zero := [C.int IntKind.i64 (0), C.int IntKind.i64 (0), C.int IntKind.i64 (0), C.int IntKind.i64 (0), C.int IntKind.i64 (0), C.int IntKind.i64 (0), C.int IntKind.i64 (0), C.int IntKind.i64 (0), C.sl true true []] } := by kernel_rfl
theorem ty131 : tyOf Tryz.prog 131 = some { kind := TK.func, size := 1, bytes := 8, zero := [C.fnil] } := by kernel_rfl
theorem ty133 : tyOf Tryz.prog 133 = some { kind := TK.struct [{ off := 0, size := 1, agg := false, ok := true }, { off := 1, size := 1, agg := false, ok := true }], size := 2, bytes := 16, zero := [C.int IntKind.i64 (0), C.int IntKind.i64 (0)] } := by kernel_rfl
theorem ty137 : tyOf Tryz.prog 137 = some { kind := TK.struct [{ off := 0, size := 1, agg := false, ok := true }, { off := 1, size := 1, agg := false, ok := true }], size := 2, bytes := 16, zero := [C.int IntKind.i64 (0), C.int IntKind.i64 (0)] } := by kernel_rfl
theorem ty147 : tyOf Tryz.prog 147 = some { kind := TK.map 150 3, size := 1, bytes := 8, zero := [C.md true []] } := by kernel_rfl
theorem ty150 : tyOf Tryz.prog 150 = some { kind := TK.struct [{ off := 0, size := 1, agg := false, ok := true }, { off := 1, size := 1, agg := false, ok := true }], size := 2, bytes := 16, zero := [C.int IntKind.i64 (0), C.int IntKind.i64 (0)] } := by kernel_rfl
theorem ty154 : tyOf Tryz.prog 154 = some { kind := TK.map 137 3, size := 1, bytes := 8, zero := [C.md true []] } := by kernel_rfl
theorem ty157 : tyOf Tryz.prog 157 = some { kind := TK.func, size := 1, bytes := 8, zero := [C.fnil] } := by kernel_rfl
theorem ty158 : tyOf Tryz.prog 158 = some { kind := TK.array 4 3, size := 4, bytes := 32, zero := [C.int IntKind.i64 (0), C.int IntKind.i64 (0), C.int IntKind.i64 (0), C.int IntKind.i64 (0)] } := by kernel_rfl
theorem ty178 : tyOf Tryz.prog 178 = some { kind := TK.func, size := 1, bytes := 8, zero := [C.fnil] } := by kernel_rfl
theorem ty180 : tyOf Tryz.prog 180 = some { kind := TK.func, size := 1, bytes := 8, zero := [C.fnil] } := by kernel_rfl
theorem ty183 : tyOf Tryz.prog 183 = some { kind := TK.struct [{ off := 0, size := 2, agg := true, ok := true }, { off := 2, size := 2, agg := true, ok := true }], size := 4, bytes := 32, zero := [C.int IntKind.i64 (0), C.int IntKind.i64 (0), C.int IntKind.i64 (0), C.int IntKind.i64 (0)] } := by kernel_rfl
end Go.Proofs.YtbelmomdndjjkaaGreat

namespace Go.Proofs.YtbelmomdndjjkaaGreat
open Go Go.Abs

structure Wh where
 full : Int
 read : Int
 slip : Int
 skew : Int
 circle : Int
 glow : Int
 ghigh : Int
 wrong : Int

/-- A walk. -/
structure Wl where
  sense : Int
  side : Int
  inside : Int
  start : Int
  fin : Int

/-- An area and a skew. -/
structure Tr where
  area : Int
  skew : Int
deriving DecidableEq

@[simp] abbrev encI (z : Int) : C := .int .i64 z
@[simp] abbrev cI (z : Int) : List C := [.int .i64 z]
@[simp] abbrev cWh (w : Wh) : List C := [encI w.full, encI w.read, encI w.slip, encI w.skew, encI w.circle, encI w.glow, encI w.ghigh, encI w.wrong]
@[simp] abbrev cWl (x : Wl) : List C := [encI x.sense, encI x.side, encI x.inside, encI x.start, encI x.fin]
@[simp] abbrev cTr (t : Tr) : List C := [encI t.area, encI t.skew]
@[simp] abbrev encWh (w : Wh) : C := .agg (cWh w)
@[simp] abbrev encWl (x : Wl) : C := .agg (cWl x)
@[simp] abbrev encTr (t : Tr) : C := .agg (cTr t)
@[simp] abbrev sWl (nl fu : Bool) (l : List Wl) : C := .sl nl fu (l.map cWl)
@[simp] abbrev cDesk (w : Wh) (nl fu : Bool) (l : List Wl) : List C := [encI w.full, encI w.read, encI w.slip, encI w.skew, encI w.circle, encI w.glow, encI w.ghigh, encI w.wrong, sWl nl fu l]
@[simp] abbrev encDesk (w : Wh) (nl fu : Bool) (l : List Wl) : C := .agg (cDesk w nl fu l)
@[simp] abbrev obWh (w : Wh) : Ob := ⟨false, false, 8, [cWh w]⟩
@[simp] abbrev obDesk (w : Wh) (nl fu : Bool) (l : List Wl) : Ob := ⟨false, false, 9, [cDesk w nl fu l]⟩

structure WhOk (w : Wh) : Prop where
 full : 10 ≤ w.full ∧ w.full ≤ 10000
 read : 0 ≤ w.read ∧ w.read ≤ 20
 slip : 0 ≤ w.slip ∧ w.slip ≤ 20
 skew : 0 ≤ w.skew ∧ w.skew ≤ 20
 circle : 0 ≤ w.circle ∧ w.circle ≤ 9999
 guess : 0 ≤ w.glow ∧ w.glow ≤ w.ghigh ∧ w.ghigh ≤ 9999
 wrong : 0 ≤ w.wrong ∧ w.wrong ≤ 8

structure WlOk (w : Wh) (x : Wl) : Prop where
 sense : x.sense = 1 ∨ x.sense = -1
 side : x.side = 1 ∨ x.side = -1
 inside : 0 ≤ x.inside ∧ x.inside ≤ 1
 start : 0 ≤ x.start ∧ x.start ≤ w.full - 1
 fin : 0 ≤ x.fin ∧ x.fin ≤ w.full - 1

/-- How many areas, how many skews. -/
def nA (w : Wh) : Nat := (w.ghigh - w.glow + 1).toNat
def nS (w : Wh) : Nat := (2 * w.skew + 1).toNat

/-- All areas with all skews. -/
def allT (w : Wh) : List Tr := (List.range (nA w * nS w)).map fun i => ⟨w.glow + (i / nS w : Nat), -w.skew + (i % nS w : Nat)⟩

theorem allT_len (w : Wh) : (allT w).length = nA w * nS w := by simp [allT]

theorem allT_get {w : Wh} {a s : Nat} (ha : a < nA w) (hs : s < nS w) : (allT w)[a * nS w + s]? = some ⟨w.glow + a, -w.skew + s⟩ := by
 have h1 : a * nS w + s < nA w * nS w := in_rows ha hs
 have h2 : (a * nS w + s) / nS w = a := by
  rw [Nat.mul_comm, Nat.mul_add_div (by omega), Nat.div_eq_of_lt hs, Nat.add_zero]
 have h3 : (a * nS w + s) % nS w = s := by
  rw [Nat.mul_comm, Nat.mul_add_mod, Nat.mod_eq_of_lt hs]
 simp only [allT, List.getElem?_map, List.getElem?_range h1, Option.map_some, h2, h3]

theorem allT_mem {w : Wh} {t : Tr} : t ∈ allT w ↔ (w.glow ≤ t.area ∧ t.area ≤ w.ghigh) ∧ -w.skew ≤ t.skew ∧ t.skew ≤ w.skew := by
 constructor
 ·intro h
  simp only [allT, List.mem_map, List.mem_range] at h
  obtain ⟨i, hi, rfl⟩ := h
  have hs : 0 < nS w := Nat.pos_of_ne_zero fun e => by rw [e] at hi; simp at hi
  have h1 : i / nS w < nA w := by rw [Nat.div_lt_iff_lt_mul hs]; exact hi
  have h2 : i % nS w < nS w := Nat.mod_lt _ hs
  generalize i / nS w = a at h1
  generalize i % nS w = b at h2
  unfold nA at h1
  unfold nS at h2
  simp only
  omega
 ·obtain ⟨a, s⟩ := t
  rintro ⟨⟨h1, h2⟩, h3, h4⟩
  simp only at h1 h2 h3 h4
  have ha : (a - w.glow).toNat < nA w := by unfold nA; omega
  have hs : (s + w.skew).toNat < nS w := by unfold nS; omega
  refine List.mem_of_getElem? (i := (a - w.glow).toNat * nS w + (s + w.skew).toNat) ?_
  rw [allT_get ha hs]
  congr 2
  ·omega
  ·omega


set_option maxHeartbeats 1000000

@[simp] abbrev itTr (l : List Tr) : List (List C) := l.map fun t => [encTr t]

theorem it_all (w : Wh) (nl fu : Bool) (l : List Wl) (hw : WhOk w) : ItC Tryz.prog 1000000 115 [encDesk w nl fu l] [] (itTr (allT w)) := by
 have hg := hw.guess
 have hk := hw.skew
 have hA : (nA w : Int) = w.ghigh - w.glow + 1 := by unfold nA; omega
 have hS : (nS w : Int) = 2 * w.skew + 1 := by unfold nS; omega
 have hlen : (itTr (allT w)).length = nA w * nS w := by simp [allT_len]
 refine it_of (fn := Tryz.f115) [] ⟨Tryz.func115, rfl, by kernel_rfl⟩ (by kernel_rfl) (by kernel_rfl) (by kernel_rfl) fun x hx q ks fam stop hrnd hstop hfam hσ hY => ?_; rw [stg_hiS hfam]
 rw [hlen] at hstop ⊢
 (repeat refine ZQ ?_); refine ZR fun K hK => ?_; simp (maxSteps := 1000000) [ty127]; refine hK _ ?_; clear hK K
 (repeat refine ZQ ?_); refine ZR fun K hK => ?_; simp (maxSteps := 1000000) [ty127, ty25, ty23, ty3]; refine hK _ ?_; clear hK K
 (repeat refine ZQ ?_); refine awp_block ?_
 refine awp_loop (fun a : Nat => ⟨ofL [(1, .fn (.yield q) [] []), (2, .ptr 2 9 0 0), (4, encI (w.glow + a))], hiS 1000000 (stoT [(2, 2, .live (obDesk w nl fu l))]) (stg 1000000 fam stop (a * nS w))⟩)
  (fun a => a ≤ nA w ∧ a * nS w ≤ stop) (fun a => nA w - a) 0 (by simp) ?_ ?_
 ·simp only [Nat.zero_mul]
  refine wk_shapeH hfam ?_ (by simp) (by simp) (by simp) ?_ (hx_stg hfam hσ) ?_
  ·intro k hk
   have hne : ∀ n : Nat, n < 1000 → k ≠ n := fun n hn => by omega
   simp [upd, hk, hne]
  ·simp [SlotOk] <;> (repeat' (first | exact .same (by simp [purel, C.isPure]) | exact .cons (by simp [mtl, mtc, mT, mH, C.isPure, purel]) (by simp) .nil | refine And.intro ?_ ?_))
  ·simp [mtc, mtl, mH, mT, C.isPure, purel] <;> (try simp (disch := omega) [wrap_id]) <;> (try omega)
 ·intro a ⟨ha, hst⟩
  (repeat refine ZQ ?_); refine ZR fun K hK => ?_; simp (maxSteps := 1000000) [ty127, ty25, ty23, ty3]; refine hK _ ?_; clear hK K
  (repeat refine ZQ ?_); refine ZC (fun hc => ?_) (fun hc => ?_)
  ·simp at hc
   refine awp_skip ?_
   (repeat refine ZQ ?_); refine awp_block ?_
   (repeat refine ZQ ?_); refine ZR fun K hK => ?_; simp (maxSteps := 1000000) [ty127, ty25, ty23, ty3]; refine hK _ ?_; clear hK K
   (repeat refine ZQ ?_); refine awp_block ?_
   refine awp_loop (fun s : Nat => ⟨ofL [(1, .fn (.yield q) [] []), (2, .ptr 2 9 0 0), (4, encI (w.glow + a)), (5, encI (-w.skew + s))], hiS 1000000 (stoT [(2, 2, .live (obDesk w nl fu l))]) (stg 1000000 fam stop (a * nS w + s))⟩)
    (fun s => s ≤ nS w ∧ a * nS w + s ≤ stop) (fun s => nS w - s) 0 (by simpa using hst) ?_ ?_
   ·simp only [Nat.add_zero]
    rw [wrap_id (by omega) (by omega)]
    refine wk_shapeH hfam ?_ (by simp) (by simp) (by simp) ?_ (hx_stg hfam hσ) ?_
    ·intro k hk
     have hne : ∀ n : Nat, n < 1000 → k ≠ n := fun n hn => by omega
     simp [upd, hk, hne]
    ·simp [SlotOk] <;> (repeat' (first | exact .same (by simp [purel, C.isPure]) | exact .cons (by simp [mtl, mtc, mT, mH, C.isPure, purel]) (by simp) .nil | refine And.intro ?_ ?_))
    ·simp [mtc, mtl, mH, mT, C.isPure, purel] <;> (try simp (disch := omega) [wrap_id]) <;> (try omega)
   ·intro s ⟨hs, hst2⟩
    (repeat refine ZQ ?_); refine ZR fun K hK => ?_; simp (maxSteps := 1000000) [ty127, ty25, ty23, ty3]; refine hK _ ?_; clear hK K
    (repeat refine ZQ ?_); refine ZC (fun hc => ?_) (fun hc => ?_)
    ·simp at hc
     refine awp_skip ?_
     (repeat refine ZQ ?_); refine awp_block ?_
     (repeat refine ZQ ?_); refine ZR fun K hK => ?_; simp (maxSteps := 1000000) [ty133, ty3]
     refine yieldL hY hst2 (by simp [allT_get (w := w) (a := a) (s := s) (by omega) (by omega)]) (by intro k hk; simp [hk]) ?_
     simp
     refine hK _ ?_; clear hK K
     (repeat refine ZQ ?_); refine ZC (fun hc => ?_) (fun hc => ?_)
     ·simp at hc
      (repeat refine ZQ ?_); refine awp_ret ?_; refine And.intro (Or.inr rfl) ?_
      refine ⟨⟨_, rfl⟩, ?_⟩
      have : finI stop (nA w * nS w) = a * nS w + s + 1 := by
       have := in_rows (i := a) (q := s) (r := nA w) (sz := nS w) (by omega) (by omega)
       unfold finI; rw [if_pos (by omega)]; omega
      rw [this]
      exact wk_endH hfam hσ (fun k hk => by show (if 1000000 ≤ k then _ else _) = _; rw [if_pos hk])
     ·simp at hc
      refine awp_skip ?_
      (repeat refine ZQ ?_); refine ZR fun K hK => ?_; simp (maxSteps := 1000000) [ty3]; refine hK _ ?_; clear hK K; (first | show AWP _ _ _ _ _ | show ∃ _, _ | skip)
      refine ⟨s + 1, by omega, by omega, ?_⟩
      rw [show a * nS w + (s + 1) = a * nS w + s + 1 by omega]
      refine wk_shapeH hfam ?_ (by simp) (by simp) (by simp) ?_ (hx_stg hfam hσ) ?_
      ·intro k hk
       have hne : ∀ n : Nat, n < 1000 → k ≠ n := fun n hn => by omega
       simp [upd, hk, hne]
      ·simp [SlotOk] <;> (repeat' (first | exact .same (by simp [purel, C.isPure]) | exact .cons (by simp [mtl, mtc, mT, mH, C.isPure, purel]) (by simp) .nil | refine And.intro ?_ ?_))
      ·simp [mtc, mtl, mH, mT, C.isPure, purel] <;> (try simp (disch := omega) [wrap_id]) <;> (try omega)
    ·simp at hc
     (repeat refine ZQ ?_); refine awp_exit ?_
     (repeat refine ZQ ?_); refine ZR fun K hK => ?_; simp (maxSteps := 1000000) [ty3]; refine hK _ ?_; clear hK K; (first | show AWP _ _ _ _ _ | show ∃ _, _ | skip)
     have hsn : s = nS w := by omega
     refine ⟨a + 1, ⟨by omega, by rw [Nat.add_mul]; omega⟩, by omega, ?_⟩
     rw [show (a + 1) * nS w = a * nS w + s by rw [Nat.add_mul]; omega]
     refine wk_shapeH hfam ?_ (by simp) (by simp) (by simp) ?_ (hx_stg hfam hσ) ?_
     ·intro k hk
      have hne : ∀ n : Nat, n < 1000 → k ≠ n := fun n hn => by omega
      simp [upd, hk, hne]
     ·simp [SlotOk] <;> (repeat' (first | exact .same (by simp [purel, C.isPure]) | exact .cons (by simp [mtl, mtc, mT, mH, C.isPure, purel]) (by simp) .nil | refine And.intro ?_ ?_))
     ·simp [mtc, mtl, mH, mT, C.isPure, purel] <;> (try simp (disch := omega) [wrap_id]) <;> (try omega)
  ·simp at hc
   (repeat refine ZQ ?_); refine awp_exit ?_; (first | show AWP _ _ _ _ _ | show ∃ _, _ | skip)
   have han : a = nA w := by omega
   refine ⟨by simp, ⟨_, rfl⟩, ?_⟩
   have : finI stop (nA w * nS w) = a * nS w := by
    subst han
    unfold finI; rw [if_neg (by omega)]
   rw [this]
   exact wk_endH hfam hσ (fun k hk => by show (if 1000000 ≤ k then _ else _) = _; rw [if_pos hk])

set_option maxHeartbeats 1000000

theorem tmod_fix {a f : Int} (hf : 0 < f) : (a.tmod f < 0 → a.tmod f + f = a % f) ∧ (0 ≤ a.tmod f → a.tmod f = a % f) := by
 have h1 := Int.emod_nonneg a (Int.ne_of_gt hf)
 have h2 := Int.emod_lt_of_pos a hf
 have h3 := Int.tmod_eq_emod (a := a) (b := f)
 have h4 : (f.natAbs : Int) = f := Int.natAbs_of_nonneg (Int.le_of_lt hf)
 by_cases h : 0 ≤ a ∨ f ∣ a
 ·rw [if_pos h] at h3
  constructor <;> intro h <;> omega
 ·rw [if_neg h] at h3
  constructor
  ·intro h; omega
  ·intro h; omega

theorem tmod_bd {a f : Int} (hf : 0 < f) : -f ≤ a.tmod f ∧ a.tmod f < f := by
 have h1 := Int.emod_nonneg a (Int.ne_of_gt hf)
 have h2 := Int.emod_lt_of_pos a hf
 have := tmod_fix (a := a) hf
 by_cases h : a.tmod f < 0
 ·have := this.1 h; omega
 ·have := this.2 (by omega); omega

theorem turns_c (w : Wh) (nl fu : Bool) (l : List Wl) (n lo hi : Int) (hw : WhOk w) (h1 : -999999 ≤ n ∧ n ≤ 999999) (h2 : -999 ≤ lo ∧ lo ≤ 999) (h3 : -999 ≤ hi ∧ hi ≤ 999) :
  Pure Tryz.prog 137 [encDesk w nl fu l, encI n, encI lo, encI hi] (.bool (decide ((n - lo) % w.full ≤ hi - lo))) := by
 have hf := hw.full
 have hb := tmod_bd (a := n - lo) (f := w.full) (by omega)
 have htm := tmod_fix (a := n - lo) (f := w.full) (by omega)
 refine ZF (fn := Tryz.f137) [.tmp 8] ⟨Tryz.func137, rfl, by kernel_rfl⟩ fun x hx hσ => ?_
 (repeat refine ZQ ?_); refine ZR fun K hK => ?_; simp (maxSteps := 1000000) [ty127]; refine hK _ ?_; clear hK K
 (repeat refine ZQ ?_); refine ZR fun K hK => ?_; simp (maxSteps := 1000000) [ty127, ty25, ty3, wrap_id (z := n - lo) (by omega) (by omega), show w.full ≠ 0 by omega]; refine hK _ ?_; clear hK K
 (repeat refine ZQ ?_); refine ZR fun K hK => ?_; simp (maxSteps := 1000000) [ty3]; refine hK _ ?_; clear hK K
 (repeat refine ZQ ?_); refine ZC (fun hc => ?_) (fun hc => ?_)
 ·simp at hc
  (repeat refine ZQ ?_); refine ZR fun K hK => ?_; simp (maxSteps := 1000000) [ty127, ty25, ty3]; refine hK _ ?_; clear hK K
  (repeat refine ZQ ?_); refine ZR fun K hK => ?_; simp (maxSteps := 1000000) [ty3]; refine hK _ ?_; clear hK K
  (repeat refine ZQ ?_); refine awp_ret ?_; refine And.intro (Or.inr rfl) ?_
  have := htm.1 hc
  rw [wrap_id (by omega) (by omega), wrap_id (by omega) (by omega), this]
  simp [retC, resC, viewC, mapO]
 ·simp at hc
  refine awp_skip ?_
  (repeat refine ZQ ?_); refine ZR fun K hK => ?_; simp (maxSteps := 1000000) [ty3]; refine hK _ ?_; clear hK K
  (repeat refine ZQ ?_); refine awp_ret ?_; refine And.intro (Or.inr rfl) ?_
  have := htm.2 hc
  rw [wrap_id (by omega) (by omega), this]
  simp [retC, resC, viewC, mapO]

/-- Is a walk right? -/
def rightB (w : Wh) (x : Wl) (t : Tr) : Bool :=
  let lo := if x.sense > 0 then -2 * w.read - w.slip else -2 * w.read
  let hi := if x.sense > 0 then 2 * w.read else 2 * w.read + w.slip
  decide ((x.fin - x.start - (x.sense * (t.area - x.inside * w.circle) + x.side * t.skew) - lo) % w.full ≤ hi - lo)

structure TrOk (t : Tr) : Prop where
 area : 0 ≤ t.area ∧ t.area ≤ 9999
 skew : -20 ≤ t.skew ∧ t.skew ≤ 20

theorem roll_bd {w : Wh} {x : Wl} {t : Tr} (hw : WhOk w) (hx : WlOk w x) (ht : TrOk t) : (0 ≤ x.inside * w.circle ∧ x.inside * w.circle ≤ 9999) ∧ (-9999 ≤ x.sense * (t.area - x.inside * w.circle) ∧ x.sense * (t.area - x.inside * w.circle) ≤ 9999) ∧
  (-20 ≤ x.side * t.skew ∧ x.side * t.skew ≤ 20) := by
 have h1 := hw.circle
 have h2 := ht.area
 have h3 := ht.skew
 have hi : x.inside = 0 ∨ x.inside = 1 := by have := hx.inside; omega
 refine ⟨?_, ?_, ?_⟩
 ·rcases hi with e | e <;> rw [e] <;> omega
 ·rcases hi with e | e <;> rcases hx.sense with e' | e' <;> rw [e, e'] <;> omega
 ·rcases hx.side with e' | e' <;> rw [e'] <;> omega

theorem right_c (w : Wh) (nl fu : Bool) (l : List Wl) (y : Wl) (t : Tr) (hw : WhOk w) (hy : WlOk w y) (ht : TrOk t) : Pure Tryz.prog 131 [encDesk w nl fu l, encWl y, encTr t] (.bool (rightB w y t)) := by
 obtain ⟨b1, b2, b3⟩ := roll_bd hw hy ht
 have hf := hw.full
 have hr := hw.read
 have hs := hw.slip
 have y1 := hy.start
 have y2 := hy.fin
 have a1 := ht.area
 refine ZF (fn := Tryz.f131) [.tmp 6] ⟨Tryz.func131, rfl, by kernel_rfl⟩ fun x hx hσ => ?_
 (repeat refine ZQ ?_); refine ZR fun K hK => ?_; simp (maxSteps := 1000000) [ty127, ty82, ty133]; refine hK _ ?_; clear hK K
 (repeat refine ZQ ?_); refine ZR fun K hK => ?_; simp (maxSteps := 1000000) [ty127, ty25, ty82, ty133, ty3]; refine hK _ ?_; clear hK K; (first | show AWP _ _ _ _ _ | show ∃ _, _ | skip)
 rw [wrap_id (z := y.inside * w.circle) (by omega) (by omega), wrap_id (z := t.area - y.inside * w.circle) (by omega) (by omega), wrap_id (z := y.sense * (t.area - y.inside * w.circle)) (by omega) (by omega), wrap_id (z := y.side * t.skew) (by omega) (by omega)]
 rw [wrap_id (by omega) (by omega)]
 (repeat refine ZQ ?_); refine ZD [] [0, 1, 2, 3, 4, 5, 6, 7, 8, 9] fun K hK => ?_; simp (maxSteps := 1000000) [ty127, ty25, ty3]; refine hK _ ?_; clear hK K; (first | show AWP _ _ _ _ _ | show ∃ _, _ | skip)
 rw [wrap_id (z := -2 * w.read) (by omega) (by omega), wrap_id (z := 2 * w.read) (by omega) (by omega)]
 (repeat refine ZQ ?_); refine ZR fun K hK => ?_; simp (maxSteps := 1000000) [ty82, ty3]; refine hK _ ?_; clear hK K
 (repeat refine ZQ ?_); refine ZC (fun hc => ?_) (fun hc => ?_)
 ·simp at hc
  (repeat refine ZQ ?_); refine ZR fun K hK => ?_; simp (maxSteps := 1000000) [ty127, ty25, ty3]; refine hK _ ?_; clear hK K; (first | show AWP _ _ _ _ _ | show ∃ _, _ | skip)
  rw [wrap_id (by omega) (by omega)]
  (repeat refine ZQ ?_); refine ZR fun K hK => ?_; simp (maxSteps := 1000000) [ty127, ty82, ty3]
  rw [wrap_id (z := y.fin - y.start) (by omega) (by omega), wrap_id (by omega) (by omega)]
  refine ZP (turns_c w nl fu l _ _ _ hw (by omega) (by omega) (by omega)) ?_; simp (maxSteps := 1000000)
  refine hK _ ?_; clear hK K
  (repeat refine ZQ ?_); refine awp_ret ?_; refine And.intro (Or.inr rfl) ?_
  simp [retC, resC, viewC, mapO, rightB, hc]
 ·simp at hc
  have hc' : ¬ y.sense > 0 := by omega
  (repeat refine ZQ ?_); refine ZR fun K hK => ?_; simp (maxSteps := 1000000) [ty127, ty25, ty3]; refine hK _ ?_; clear hK K; (first | show AWP _ _ _ _ _ | show ∃ _, _ | skip)
  rw [wrap_id (by omega) (by omega)]
  (repeat refine ZQ ?_); refine ZR fun K hK => ?_; simp (maxSteps := 1000000) [ty127, ty82, ty3]
  rw [wrap_id (z := y.fin - y.start) (by omega) (by omega), wrap_id (by omega) (by omega)]
  refine ZP (turns_c w nl fu l _ _ _ hw (by omega) (by omega) (by omega)) ?_; simp (maxSteps := 1000000)
  refine hK _ ?_; clear hK K
  (repeat refine ZQ ?_); refine awp_ret ?_; refine And.intro (Or.inr rfl) ?_
  simp [retC, resC, viewC, mapO, rightB, hc']

set_option maxHeartbeats 1000000

/-- How many walks are not right. -/
def wrongsN (w : Wh) (l : List Wl) (t : Tr) : Nat := l.countP fun x => !rightB w x t

theorem wrongsN_le (w : Wh) (l : List Wl) (t : Tr) : wrongsN w l t ≤ l.length := List.countP_le_length

theorem wrongsN_step (w : Wh) (l : List Wl) (t : Tr) {i : Nat} (hi : i < l.length) : wrongsN w (l.take (i + 1)) t = wrongsN w (l.take i) t + if rightB w l[i] t then 0 else 1 := by
 unfold wrongsN
 rw [List.take_succ_eq_append_getElem hi, List.countP_append, List.countP_singleton]
 cases rightB w l[i] t <;> simp

theorem wrongs_c (w : Wh) (nl fu : Bool) (l : List Wl) (t : Tr) (hw : WhOk w) (hl : ∀ y ∈ l, WlOk w y) (hn : l.length ≤ 1000) (ht : TrOk t) : Pure Tryz.prog 116 [encDesk w nl fu l, encTr t] (encI (wrongsN w l t)) := by
 refine ZF (fn := Tryz.f116) [.tmp 4] ⟨Tryz.func116, rfl, by kernel_rfl⟩ fun x hx hσ => ?_
 (repeat refine ZQ ?_); refine ZR fun K hK => ?_; simp (maxSteps := 1000000) [ty127, ty133]; refine hK _ ?_; clear hK K
 (repeat refine ZQ ?_); refine ZR fun K hK => ?_; simp (maxSteps := 1000000) [ty3]; refine hK _ ?_; clear hK K
 (repeat refine ZQ ?_); refine ZR fun K hK => ?_; simp (maxSteps := 1000000) [ty127, ty53, ty3]; refine hK _ ?_; clear hK K
 (repeat refine ZQ ?_); refine awp_block ?_
 refine awp_loop (fun i : Nat => ⟨ofL [(2, .ptr 2 9 0 0), (3, .ptr 3 2 0 0), (5, encI (wrongsN w (l.take i) t)), (9, sWl nl fu l), (10, encI l.length), (11, encI i)], stoT [(2, 2, .live (obDesk w nl fu l)), (3, 3, .live ⟨false, false, 2, [cTr t]⟩)]⟩)
  (fun i => i ≤ l.length) (fun i => l.length - i) 0 (by simp) ?_ ?_
 ·exact Zw (hE := by simp [mtc, mtl, mT, C.isPure, purel, wrongsN] <;> (try simp (disch := omega) [wrap_id]) <;> (try omega))
 ·intro i hi
  (repeat refine ZQ ?_); refine ZR fun K hK => ?_; simp (maxSteps := 1000000) [ty3]; refine hK _ ?_; clear hK K
  (repeat refine ZQ ?_); refine ZC (fun hc => ?_) (fun hc => ?_)
  ·simp at hc
   refine awp_skip ?_
   (repeat refine ZQ ?_); refine awp_block ?_
   (repeat refine ZQ ?_); refine ZR fun K hK => ?_; simp (maxSteps := 1000000) [ty53, ty82, hc]; refine hK _ ?_; clear hK K
   (repeat refine ZQ ?_); refine ZR fun K hK => ?_; simp (maxSteps := 1000000) [ty127, ty82, ty133]
   refine ZP (right_c w nl fu l l[i] t hw (hl _ (List.getElem_mem hc)) ht) ?_; simp (maxSteps := 1000000)
   refine hK _ ?_; clear hK K; (first | show AWP _ _ _ _ _ | show ∃ _, _ | skip)
   have hst := wrongsN_step w l t hc
   have hle := wrongsN_le w (l.take i) t
   rw [List.length_take] at hle
   cases hb : rightB w l[i] t
   ·rw [hb] at hst
    simp at hst
    (repeat refine ZQ ?_); refine ZC (hc := by simp [hb]; rfl) (fun hd => ?_) (fun hd => ?_)
    ·clear hd
     (repeat refine ZQ ?_); refine ZR fun K hK => ?_; simp (maxSteps := 1000000) [ty3]; refine hK _ ?_; clear hK K
     (repeat refine ZQ ?_); refine ZR fun K hK => ?_; simp (maxSteps := 1000000) [ty3]; refine hK _ ?_; clear hK K; (first | show AWP _ _ _ _ _ | show ∃ _, _ | skip)
     refine ⟨i + 1, by omega, by omega, ?_⟩
     exact Zw (hE := by simp [mtc, mtl, mT, C.isPure, purel, hst] <;> (try simp (disch := omega) [wrap_id]) <;> (try omega))
    ·simp at hd
   ·rw [hb] at hst
    simp at hst
    (repeat refine ZQ ?_); refine ZC (hc := by simp [hb]; rfl) (fun hd => ?_) (fun hd => ?_)
    ·simp at hd
    ·clear hd
     refine awp_skip ?_
     (repeat refine ZQ ?_); refine ZR fun K hK => ?_; simp (maxSteps := 1000000) [ty3]; refine hK _ ?_; clear hK K; (first | show AWP _ _ _ _ _ | show ∃ _, _ | skip)
     refine ⟨i + 1, by omega, by omega, ?_⟩
     exact Zw (hE := by simp [mtc, mtl, mT, C.isPure, purel, hst] <;> (try simp (disch := omega) [wrap_id]) <;> (try omega))
  ·simp at hc
   (repeat refine ZQ ?_); refine awp_exit ?_
   (repeat refine ZQ ?_); refine ZR fun K hK => ?_; simp (maxSteps := 1000000); refine hK _ ?_; clear hK K
   (repeat refine ZQ ?_); refine awp_ret ?_; refine And.intro (Or.inr rfl) ?_
   have : l.take i = l := List.take_of_length_le hc
   rw [this]
   simp [retC, resC, viewC, mapO]

set_option maxHeartbeats 2000000

def isT (w : Wh) (l : List Wl) (t : Tr) : Bool := decide ((wrongsN w l t : Int) ≤ w.wrong)
def truthsL (w : Wh) (l : List Wl) : List Tr := (allT w).filter (isT w l)

theorem allT_ok {w : Wh} (hw : WhOk w) {t : Tr} (h : t ∈ allT w) : TrOk t := by
 have := allT_mem.1 h
 have := hw.guess
 have := hw.skew
 constructor <;> omega

theorem stop_ix {w : Wh} {l : List Wl} {stop : Nat} (h : stop ≤ (truthsL w l).length) : ∃ S, S ≤ (allT w).length ∧ ((allT w).take S).countP (isT w l) = stop ∧
  (∀ hS : S < (allT w).length, isT w l (allT w)[S] = true ∧ stop < (truthsL w l).length) ∧ (S = (allT w).length → stop = (truthsL w l).length) := by
 rcases Nat.lt_or_ge stop (truthsL w l).length with h1 | h1
 ·obtain ⟨S, hS, h2, h3⟩ := filter_ix (isT w l) h1
  exact ⟨S, Nat.le_of_lt hS, h3, fun _ => ⟨h2, h1⟩, fun e => absurd e (Nat.ne_of_lt hS)⟩
 ·refine ⟨(allT w).length, Nat.le_refl _, ?_, fun h => absurd h (Nat.lt_irrefl _), fun _ => Nat.le_antisymm h h1⟩
  rw [List.take_length, List.countP_eq_length_filter]
  exact (Nat.le_antisymm h h1).symm

theorem it_truths (w : Wh) (nl fu : Bool) (l : List Wl) (hw : WhOk w) (hl : ∀ y ∈ l, WlOk w y) (hn : l.length ≤ 1000) : ItC Tryz.prog 2000000 84 [encDesk w nl fu l] [] (itTr (truthsL w l)) := by
  have hwr := hw.wrong
  refine it_of (fn := Tryz.f84) [] ⟨Tryz.func84, rfl, by kernel_rfl⟩ (by kernel_rfl) (by kernel_rfl) (by kernel_rfl) fun x hx q ks fam stop hrnd hstop hfam hσ hY => ?_; rw [stg_hiS hfam]
  rw [show (itTr (truthsL w l)).length = (truthsL w l).length by simp] at hstop ⊢
  obtain ⟨S, hS, hSj, hSt, hSn⟩ := stop_ix hstop
  obtain ⟨j, hj⟩ : ∃ j : Nat → Nat, j = fun i => ((allT w).take i).countP (isT w l) := ⟨_, rfl⟩
  (repeat refine ZQ ?_); refine ZR fun K hK => ?_; simp (maxSteps := 1000000) [ty127, ty178]; refine hK _ ?_; clear hK K
  (repeat refine ZQ ?_); refine ZR fun K hK => ?_; simp (maxSteps := 1000000) [ty127]; refine hK _ ?_; clear hK K
  (repeat refine ZQ ?_); refine awp_block ?_
  obtain ⟨F, hF⟩ : ∃ F : List (Nat × Nat × Slot), F = [(1000002, 1000002, .live (obDesk w nl fu l)), (1000003, 1000003, .live ⟨false, false, 1, [[.fn (.yield q) [] []]]⟩)] := ⟨_, rfl⟩
  refine AWP.weak (t := ⟨ofL [(2, .ptr 1000002 9 0 0), (3, .ptr 1000003 1 0 0), (6, .fn (.func 115) [encDesk w nl fu l] [])], hiS 2000000 (stoT [(1000002, 2, .live (obDesk w nl fu l)), (1000003, 3, .live ⟨false, false, 1, [[.fn (.yield q) [] []]]⟩)]) (stg 2000000 fam stop 0)⟩) ?_ ?_
  rotate_left
  · refine wk_shapeH hfam ?_ (by simp) (by simp) (by simp) ?_ (hx_stg hfam hσ) ?_
    · intro k hk
      have hne : ∀ n : Nat, n < 1000 → k ≠ n := fun n hn => by omega
      simp [upd, hk, hne]
    · simp [SlotOk] <;> (repeat' (first | exact .same (by simp [purel, C.isPure]) | exact .cons (by simp [mtl, mtc, mT, mH, C.isPure, purel]) (by simp) .nil | refine And.intro ?_ ?_))
    · simp [mtc, mtl, mH, mT, C.isPure, purel] <;> (try simp (disch := omega) [wrap_id]) <;> (try omega)
  have hfam1 : FamOk 1000000 ([1000002, 1000003] ++ 2000000 :: ks) (fun i => hiS 2000000 (stoT F) (stg 2000000 fam stop (j i))) :=
    famUp hfam [1000002, 1000003] (fun _ => F) j (by decide) (by simp) (by simp) (by simp [hF]) (by simp [hF, wil, purel, C.wi])
  refine awp_range 1000000 ([1000002, 1000003] ++ 2000000 :: ks) (fun i => hiS 2000000 (stoT F) (stg 2000000 fam stop (j i))) (itTr (allT w)) S .ret (ofL [(2, .ptr 1000002 9 0 0), (3, .ptr 1000003 1 0 0)])
    (first := [encDesk w nl fu l]) (caps := []) (by rfl) (fun t ht => by cases ht; rw [hx]; decide) ⟨by simp [purel, C.isPure], rfl⟩ (it_all w nl fu l hw) (by simpa using hS) hfam1 (by simp) ?_ ?_ ?_ ?_ ?_ ?_ ?_
  · intro k hk
    simp [hF, hj]
  · exact ofL_E (by simp [C.wi, wil])
  · intro args ha
    obtain ⟨t, ht, rfl⟩ := List.mem_map.1 ha
    simp [purel, C.isPure]
  · intro k hk
    have := (hx_stg (T := []) hfam hσ k hk)
    simp [mT] at this
    simp [this]
  · intro i args hit hi q2 y y2 hy hy2
    obtain ⟨t, hit', rfl⟩ : ∃ t, (allT w)[i]? = some t ∧ args = [encTr t] := by
      simp only [List.getElem?_map, Option.map_eq_some_iff] at hit
      obtain ⟨t, h1, h2⟩ := hit
      exact ⟨t, h1, h2.symm⟩
    have hiN := (List.getElem?_eq_some_iff.1 hit').1
    have hti : (allT w)[i] = t := (List.getElem?_eq_some_iff.1 hit').2
    have htok := allT_ok hw (List.mem_of_getElem? hit')
    have hstep := count_step (isT w l) hiN
    rw [hti] at hstep
    rw [rfam_hi (by decide)]
    have hx1 := hy.nt.trans hx
    have hx2 := hy2.nt.trans hx
    clear hx
    have hx := hx1
    (repeat refine ZQ ?_); refine ZR fun K hK => ?_; simp (maxSteps := 1000000) [ty133, hF, putPs]; refine hK _ ?_; clear hK K; (first | show AWP _ _ _ _ _ | show ∃ _, _ | skip)
    refine ⟨by simp, ?_⟩
    clear hx
    have hx := hx2
    have hxr : ∀ k, y2.σ k ≠ .free → mT ((1000000, 1000000, .gh) :: F) k k ∨ k ∈ 2000000 :: ks := by
      intro k hk
      have := hx_rfam hfam1 hy2.σ k hk
      simp at this
      rcases this with rfl | rfl | rfl | rfl | h <;> simp [mT, hF, *]
    (repeat refine ZQ ?_); refine awp_block ?_
    cases hb : isT w l t
    · have hb' : w.wrong < (wrongsN w l t : Int) := by simpa [isT] using hb
      rw [hb] at hstep
      (repeat refine ZQ ?_); refine ZD [4010] [0, 1, 2, 3, 4, 5, 6, 7, 8, 9, 10, 11, 12] fun K hK => ?_; simp (maxSteps := 1000000) [ty127, ty133, ty178, ty25, ty3, hF]
      refine ZE (wrongs_c w nl fu l t hw hl hn htok) ?_; simp (maxSteps := 1000000) [ty127, ty133, ty178, ty25, ty3, hF, hb', Int.not_le.2 hb']
      refine hK _ ?_; clear hK K
      (repeat refine ZQ ?_); refine ZC (fun hd => ?_) (fun hd => ?_)
      · simp at hd
      · refine awp_skip ?_; (first | show AWP _ _ _ _ _ | show ∃ _, _ | skip)
        have hne : i ≠ S := by
          rintro rfl
          have := (hSt hiN).1
          rw [hti, hb] at this
          cases this
        refine ⟨by rw [if_neg hne], ?_⟩
        rw [rfam_hi (by decide), show j (i + 1) = j i by rw [hj]; simpa using hstep]
        refine wk_shapeH (E := []) hfam ?_ (by simp [hF]) (by simp [hF]) (by simp [hF]) ?_ hxr (by simp)
        · intro k hk
          have hne : ∀ n : Nat, n < 1000 → k ≠ n := fun n hn => by omega
          simp [upd, hk, hne]
        · simp [SlotOk, hF] <;> (repeat' (first | exact .same (by simp [purel, C.isPure]) | exact .cons (by simp [mtl, mtc, mT, mH, C.isPure, purel]) (by simp) .nil | refine And.intro ?_ ?_))
    · have hb' : (wrongsN w l t : Int) ≤ w.wrong := by simpa [isT] using hb
      rw [hb] at hstep
      simp at hstep
      (repeat refine ZQ ?_); refine ZD [4010] [0, 1, 2, 3, 4, 5, 6, 7, 8, 9, 10, 11, 12] fun K hK => ?_; simp (maxSteps := 1000000) [ty127, ty133, ty178, ty25, ty3, hF]
      refine ZE (wrongs_c w nl fu l t hw hl hn htok) ?_; simp (maxSteps := 1000000) [ty127, ty133, ty178, ty25, ty3, hF, hb']
      have hji : j i ≤ stop := by rw [← hSj, hj]; exact count_mono _ _ hi
      have hget : (itTr (truthsL w l))[j i]? = some [encTr t] := by
        have := filter_get (isT w l) hiN (by rw [hti]; exact hb)
        rw [hti] at this
        rw [hj]
        simp [truthsL, this]
      refine yieldD (by decide) (hy2.Y.trans hY) hji hget (by intro k hk; have hne : ∀ n : Nat, n < 1000 → k ≠ n := fun n hn => by omega
                                                              simp [upd, hk, hne]) ?_
      simp
      refine hK _ ?_; clear hK K
      (repeat refine ZQ ?_); refine ZC (fun hd => ?_) (fun hd => ?_)
      · simp at hd
        have hiS' : i = S := by
          refine Nat.le_antisymm hi (Nat.le_of_not_lt fun hlt => ?_)
          have h1 := count_mono (isT w l) (allT w) (a := i + 1) (b := S) hlt
          rw [hSj, hstep] at h1
          rw [hj] at hd
          simp only at hd
          omega
        repeat refine awp_seq ?_
        refine awp_ret ?_
        refine ⟨by rw [if_pos hiS']; rfl, ?_⟩
        rw [rfam_hi (by decide), show j (i + 1) = j i + 1 by rw [hj]; simpa using hstep]
        refine wk_shapeH (E := []) hfam ?_ (by simp [hF]) (by simp [hF]) (by simp [hF]) ?_ hxr (by simp)
        · intro k hk
          have hne : ∀ n : Nat, n < 1000 → k ≠ n := fun n hn => by omega
          simp [upd, hk, hne]
        · simp [SlotOk, hF] <;> (repeat' (first | exact .same (by simp [purel, C.isPure]) | exact .cons (by simp [mtl, mtc, mT, mH, C.isPure, purel]) (by simp) .nil | refine And.intro ?_ ?_))
      · simp at hd
        refine awp_skip ?_; (first | show AWP _ _ _ _ _ | show ∃ _, _ | skip)
        have hne : i ≠ S := by
          rintro rfl
          rw [hj] at hd
          exact hd hSj
        refine ⟨by rw [if_neg hne], ?_⟩
        rw [rfam_hi (by decide), show j (i + 1) = j i + 1 by rw [hj]; simpa using hstep]
        refine wk_shapeH (E := []) hfam ?_ (by simp [hF]) (by simp [hF]) (by simp [hF]) ?_ hxr (by simp)
        · intro k hk
          have hne : ∀ n : Nat, n < 1000 → k ≠ n := fun n hn => by omega
          simp [upd, hk, hne]
        · simp [SlotOk, hF] <;> (repeat' (first | exact .same (by simp [purel, C.isPure]) | exact .cons (by simp [mtl, mtc, mT, mH, C.isPure, purel]) (by simp) .nil | refine And.intro ?_ ?_))
  · intro hSN
    rw [show (itTr (allT w)).length = (allT w).length by simp] at hSN ⊢
    refine ⟨.inl rfl, ⟨_, rfl⟩, ?_⟩
    have h1 := hSn hSN
    have h2 : finI stop (truthsL w l).length = j (allT w).length := by
      unfold finI
      rw [if_neg (by omega), hj]
      simp only
      rw [← hSN, hSj, h1]
    rw [h2]
    exact wk_endH hfam hσ (ov_up (i0 := 0) hfam (by decide) (fun k hk => by simp [hk]))
  · intro hlt
    rw [show (itTr (allT w)).length = (allT w).length by simp] at hlt
    obtain ⟨h1, h2⟩ := hSt hlt
    refine awp_ret ?_
    refine ⟨.inr rfl, ⟨_, rfl⟩, ?_⟩
    have hstep := count_step (isT w l) hlt
    rw [if_pos h1, hSj] at hstep
    have h3 : finI stop (truthsL w l).length = j (S + 1) := by
      unfold finI
      rw [if_pos h2, hj]
      simp only
      rw [hstep]
    rw [h3]
    exact wk_endH hfam hσ (ov_up (i0 := 0) hfam (by decide) (fun k hk => by simp [hk]))

set_option maxHeartbeats 4000000

def withinB (n lo hi : Int) : Bool := decide (lo ≤ n ∧ n ≤ hi)
def oneB (n : Int) : Bool := (n == 1) || (n == -1)

/-- Is a wheel valid? -/
def wheelB (w : Wh) : Bool := withinB w.full 10 10000 && withinB w.read 0 20 && withinB w.slip 0 20 && withinB w.skew 0 20 && withinB w.circle 0 9999 && withinB w.glow 0 w.ghigh && decide (w.ghigh ≤ 9999) && withinB w.wrong 0 8

/-- Is a walk valid? -/
def walkB (w : Wh) (x : Wl) : Bool := oneB x.sense && oneB x.side && withinB x.inside 0 1 && withinB x.start 0 (w.full - 1) && withinB x.fin 0 (w.full - 1)

theorem wheelB_iff {w : Wh} : wheelB w = true ↔ WhOk w := by
 simp only [wheelB, withinB, Bool.and_eq_true, decide_eq_true_eq]
 constructor
 ·rintro ⟨⟨⟨⟨⟨⟨⟨h1, h2⟩, h3⟩, h4⟩, h5⟩, h6⟩, h7⟩, h8⟩
  exact ⟨h1, h2, h3, h4, h5, ⟨h6.1, h6.2, h7⟩, h8⟩
 ·rintro ⟨h1, h2, h3, h4, h5, h6, h8⟩
  exact ⟨⟨⟨⟨⟨⟨⟨h1, h2⟩, h3⟩, h4⟩, h5⟩, h6.1, h6.2.1⟩, h6.2.2⟩, h8⟩

theorem walkB_iff {w : Wh} {x : Wl} : walkB w x = true ↔ WlOk w x := by
 simp only [walkB, withinB, oneB, Bool.and_eq_true, Bool.or_eq_true, beq_iff_eq, decide_eq_true_eq]
 constructor
 ·rintro ⟨⟨⟨⟨h1, h2⟩, h3⟩, h4⟩, h5⟩
  exact ⟨h1, h2, h3, h4, h5⟩
 ·rintro ⟨h1, h2, h3, h4, h5⟩
  exact ⟨⟨⟨⟨h1, h2⟩, h3⟩, h4⟩, h5⟩

theorem within61 (n lo hi : Int) : Pure Tryz.prog 99 [encI n, encI lo, encI hi] (.bool (withinB n lo hi)) := by
 refine ZF (fn := Tryz.f99) [.tmp 6] ⟨Tryz.func99, rfl, by kernel_rfl⟩ fun x hx hσ => ?_
 (repeat refine ZQ ?_); refine ZR fun K hK => ?_; simp (maxSteps := 1000000); refine hK _ ?_; clear hK K; (first | show AWP _ _ _ _ _ | show ∃ _, _ | skip)
 by_cases h : lo ≤ n
 ·(repeat refine ZQ ?_); refine ZR fun K hK => ?_; simp (maxSteps := 1000000) [ty3, h]; refine hK _ ?_; clear hK K
  (repeat refine ZQ ?_); refine awp_ret ?_; refine And.intro (Or.inr rfl) ?_
  simp [retC, resC, viewC, mapO, h, withinB]
 ·(repeat refine ZQ ?_); refine ZR fun K hK => ?_; simp (maxSteps := 1000000) [ty3, h]; refine hK _ ?_; clear hK K
  (repeat refine ZQ ?_); refine awp_ret ?_; refine And.intro (Or.inr rfl) ?_
  simp [retC, resC, viewC, mapO, h, withinB]

theorem within79 (n lo hi : Int) : Pure Tryz.prog 33 [encI n, encI lo, encI hi] (.bool (withinB n lo hi)) := by
 refine ZF (fn := Tryz.f33) [.tmp 6] ⟨Tryz.func33, rfl, by kernel_rfl⟩ fun x hx hσ => ?_
 (repeat refine ZQ ?_); refine ZR fun K hK => ?_; simp (maxSteps := 1000000); refine hK _ ?_; clear hK K; (first | show AWP _ _ _ _ _ | show ∃ _, _ | skip)
 by_cases h : lo ≤ n
 ·(repeat refine ZQ ?_); refine ZR fun K hK => ?_; simp (maxSteps := 1000000) [ty3, h]; refine hK _ ?_; clear hK K
  (repeat refine ZQ ?_); refine awp_ret ?_; refine And.intro (Or.inr rfl) ?_
  simp [retC, resC, viewC, mapO, h, withinB]
 ·(repeat refine ZQ ?_); refine ZR fun K hK => ?_; simp (maxSteps := 1000000) [ty3, h]; refine hK _ ?_; clear hK K
  (repeat refine ZQ ?_); refine awp_ret ?_; refine And.intro (Or.inr rfl) ?_
  simp [retC, resC, viewC, mapO, h, withinB]

theorem within60 (n lo hi : Int) : Pure Tryz.prog 52 [encI n, encI lo, encI hi] (.bool (withinB n lo hi)) := by
 refine ZF (fn := Tryz.f52) [.tmp 6] ⟨Tryz.func52, rfl, by kernel_rfl⟩ fun x hx hσ => ?_
 (repeat refine ZQ ?_); refine ZR fun K hK => ?_; simp (maxSteps := 1000000); refine hK _ ?_; clear hK K
 (repeat refine ZQ ?_); refine ZR fun K hK => ?_; simp (maxSteps := 1000000)
 refine ZP (within79 n lo hi) ?_; simp (maxSteps := 1000000)
 refine hK _ ?_; clear hK K
 (repeat refine ZQ ?_); refine awp_ret ?_; refine And.intro (Or.inr rfl) ?_
 simp [retC, resC, viewC, mapO]

theorem one50 (n : Int) : Pure Tryz.prog 98 [encI n] (.bool (oneB n)) := by
 refine ZF (fn := Tryz.f98) [.tmp 2] ⟨Tryz.func98, rfl, by kernel_rfl⟩ fun x hx hσ => ?_
 (repeat refine ZQ ?_); refine ZR fun K hK => ?_; simp (maxSteps := 1000000); refine hK _ ?_; clear hK K; (first | show AWP _ _ _ _ _ | show ∃ _, _ | skip)
 cases h : (n == (1 : Int))
 ·(repeat refine ZQ ?_); refine ZR fun K hK => ?_; simp (maxSteps := 1000000) [ty3, h]; refine hK _ ?_; clear hK K
  (repeat refine ZQ ?_); refine awp_ret ?_; refine And.intro (Or.inr rfl) ?_
  simp [retC, resC, viewC, mapO, h, oneB]
 ·(repeat refine ZQ ?_); refine ZR fun K hK => ?_; simp (maxSteps := 1000000) [ty3, h]; refine hK _ ?_; clear hK K
  (repeat refine ZQ ?_); refine awp_ret ?_; refine And.intro (Or.inr rfl) ?_
  simp [retC, resC, viewC, mapO, h, oneB]

theorem one53 (n : Int) : Pure Tryz.prog 53 [encI n] (.bool (oneB n)) := by
 refine ZF (fn := Tryz.f53) [.tmp 2] ⟨Tryz.func53, rfl, by kernel_rfl⟩ fun x hx hσ => ?_
 (repeat refine ZQ ?_); refine ZR fun K hK => ?_; simp (maxSteps := 1000000); refine hK _ ?_; clear hK K; (first | show AWP _ _ _ _ _ | show ∃ _, _ | skip)
 cases h : (n == (1 : Int))
 ·(repeat refine ZQ ?_); refine ZR fun K hK => ?_; simp (maxSteps := 1000000) [ty3, h]; refine hK _ ?_; clear hK K
  (repeat refine ZQ ?_); refine awp_ret ?_; refine And.intro (Or.inr rfl) ?_
  simp [retC, resC, viewC, mapO, h, oneB]
 ·(repeat refine ZQ ?_); refine ZR fun K hK => ?_; simp (maxSteps := 1000000) [ty3, h]; refine hK _ ?_; clear hK K
  (repeat refine ZQ ?_); refine awp_ret ?_; refine And.intro (Or.inr rfl) ?_
  simp [retC, resC, viewC, mapO, h, oneB]

theorem isWheel64 (w : Wh) : Pure Tryz.prog 96 [encWh w] (.bool (wheelB w)) := by
 refine ZF (fn := Tryz.f96) [.tmp 2] ⟨Tryz.func96, rfl, by kernel_rfl⟩ fun x hx hσ => ?_
 (repeat refine ZQ ?_); refine ZR fun K hK => ?_; simp (maxSteps := 1000000) [ty25]; refine hK _ ?_; clear hK K; (first | show AWP _ _ _ _ _ | show ∃ _, _ | skip)
 cases h1 : withinB w.full 10 10000
 ·(repeat refine ZQ ?_); refine ZR fun K hK => ?_; simp (maxSteps := 1000000) [ty25, ty23, ty3, h1]
  (repeat (first | (refine callP (within61 _ _ _) (by simp) ?_; simp (maxSteps := 1000000) [ty25, ty23, ty3, h1]) | (refine callPD (within61 _ _ _) (by simp) (by simp) ?_; simp (maxSteps := 1000000) [ty25, ty23, ty3, h1])))
  refine hK _ ?_; clear hK K
  (repeat refine ZQ ?_); refine awp_ret ?_; refine And.intro (Or.inr rfl) ?_
  simp [retC, resC, viewC, mapO, wheelB, h1]
 ·cases h2 : withinB w.read 0 20
  ·(repeat refine ZQ ?_); refine ZR fun K hK => ?_; simp (maxSteps := 1000000) [ty25, ty23, ty3, h1, h2]
   (repeat (first | (refine callP (within61 _ _ _) (by simp) ?_; simp (maxSteps := 1000000) [ty25, ty23, ty3, h1, h2]) | (refine callPD (within61 _ _ _) (by simp) (by simp) ?_; simp (maxSteps := 1000000) [ty25, ty23, ty3, h1, h2])))
   refine hK _ ?_; clear hK K
   (repeat refine ZQ ?_); refine awp_ret ?_; refine And.intro (Or.inr rfl) ?_
   simp [retC, resC, viewC, mapO, wheelB, h1, h2]
  ·cases h3 : withinB w.slip 0 20
   ·(repeat refine ZQ ?_); refine ZR fun K hK => ?_; simp (maxSteps := 1000000) [ty25, ty23, ty3, h1, h2, h3]
    (repeat (first | (refine callP (within61 _ _ _) (by simp) ?_; simp (maxSteps := 1000000) [ty25, ty23, ty3, h1, h2, h3]) | (refine callPD (within61 _ _ _) (by simp) (by simp) ?_; simp (maxSteps := 1000000) [ty25, ty23, ty3, h1, h2, h3])))
    refine hK _ ?_; clear hK K
    (repeat refine ZQ ?_); refine awp_ret ?_; refine And.intro (Or.inr rfl) ?_
    simp [retC, resC, viewC, mapO, wheelB, h1, h2, h3]
   ·cases h4 : withinB w.skew 0 20
    ·(repeat refine ZQ ?_); refine ZR fun K hK => ?_; simp (maxSteps := 1000000) [ty25, ty23, ty3, h1, h2, h3, h4]
     (repeat (first | (refine callP (within61 _ _ _) (by simp) ?_; simp (maxSteps := 1000000) [ty25, ty23, ty3, h1, h2, h3, h4]) | (refine callPD (within61 _ _ _) (by simp) (by simp) ?_; simp (maxSteps := 1000000) [ty25, ty23, ty3, h1, h2, h3, h4])))
     refine hK _ ?_; clear hK K
     (repeat refine ZQ ?_); refine awp_ret ?_; refine And.intro (Or.inr rfl) ?_
     simp [retC, resC, viewC, mapO, wheelB, h1, h2, h3, h4]
    ·cases h5 : withinB w.circle 0 9999
     ·(repeat refine ZQ ?_); refine ZR fun K hK => ?_; simp (maxSteps := 1000000) [ty25, ty23, ty3, h1, h2, h3, h4, h5]
      (repeat (first | (refine callP (within61 _ _ _) (by simp) ?_; simp (maxSteps := 1000000) [ty25, ty23, ty3, h1, h2, h3, h4, h5]) | (refine callPD (within61 _ _ _) (by simp) (by simp) ?_; simp (maxSteps := 1000000) [ty25, ty23, ty3, h1, h2, h3, h4, h5])))
      refine hK _ ?_; clear hK K
      (repeat refine ZQ ?_); refine awp_ret ?_; refine And.intro (Or.inr rfl) ?_
      simp [retC, resC, viewC, mapO, wheelB, h1, h2, h3, h4, h5]
     ·cases h6 : withinB w.glow 0 w.ghigh
      ·(repeat refine ZQ ?_); refine ZR fun K hK => ?_; simp (maxSteps := 1000000) [ty25, ty23, ty3, h1, h2, h3, h4, h5, h6]
       (repeat (first | (refine callP (within61 _ _ _) (by simp) ?_; simp (maxSteps := 1000000) [ty25, ty23, ty3, h1, h2, h3, h4, h5, h6]) | (refine callPD (within61 _ _ _) (by simp) (by simp) ?_; simp (maxSteps := 1000000) [ty25, ty23, ty3, h1, h2, h3, h4, h5, h6])))
       refine hK _ ?_; clear hK K
       (repeat refine ZQ ?_); refine awp_ret ?_; refine And.intro (Or.inr rfl) ?_
       simp [retC, resC, viewC, mapO, wheelB, h1, h2, h3, h4, h5, h6]
      ·cases h7 : decide (w.ghigh ≤ 9999)
       ·(repeat refine ZQ ?_); refine ZR fun K hK => ?_; simp (maxSteps := 1000000) [ty25, ty23, ty3, h1, h2, h3, h4, h5, h6, h7]
        (repeat (first | (refine callP (within61 _ _ _) (by simp) ?_; simp (maxSteps := 1000000) [ty25, ty23, ty3, h1, h2, h3, h4, h5, h6, h7]) | (refine callPD (within61 _ _ _) (by simp) (by simp) ?_; simp (maxSteps := 1000000) [ty25, ty23, ty3, h1, h2, h3, h4, h5, h6, h7])))
        refine hK _ ?_; clear hK K
        (repeat refine ZQ ?_); refine awp_ret ?_; refine And.intro (Or.inr rfl) ?_
        simp [retC, resC, viewC, mapO, wheelB, h1, h2, h3, h4, h5, h6, h7]
       ·cases h8 : withinB w.wrong 0 8
        ·(repeat refine ZQ ?_); refine ZR fun K hK => ?_; simp (maxSteps := 1000000) [ty25, ty23, ty3, h1, h2, h3, h4, h5, h6, h7, h8]
         (repeat (first | (refine callP (within61 _ _ _) (by simp) ?_; simp (maxSteps := 1000000) [ty25, ty23, ty3, h1, h2, h3, h4, h5, h6, h7, h8]) | (refine callPD (within61 _ _ _) (by simp) (by simp) ?_; simp (maxSteps := 1000000) [ty25, ty23, ty3, h1, h2, h3, h4, h5, h6, h7, h8])))
         refine hK _ ?_; clear hK K
         (repeat refine ZQ ?_); refine awp_ret ?_; refine And.intro (Or.inr rfl) ?_
         simp [retC, resC, viewC, mapO, wheelB, h1, h2, h3, h4, h5, h6, h7, h8]
        ·(repeat refine ZQ ?_); refine ZR fun K hK => ?_; simp (maxSteps := 1000000) [ty25, ty23, ty3, h1, h2, h3, h4, h5, h6, h7, h8]
         (repeat (first | (refine callP (within61 _ _ _) (by simp) ?_; simp (maxSteps := 1000000) [ty25, ty23, ty3, h1, h2, h3, h4, h5, h6, h7, h8]) | (refine callPD (within61 _ _ _) (by simp) (by simp) ?_; simp (maxSteps := 1000000) [ty25, ty23, ty3, h1, h2, h3, h4, h5, h6, h7, h8])))
         refine hK _ ?_; clear hK K
         (repeat refine ZQ ?_); refine awp_ret ?_; refine And.intro (Or.inr rfl) ?_
         simp [retC, resC, viewC, mapO, wheelB, h1, h2, h3, h4, h5, h6, h7, h8]

theorem isWheel67 (w : Wh) : Pure Tryz.prog 34 [encWh w] (.bool (wheelB w)) := by
 refine ZF (fn := Tryz.f34) [.tmp 2] ⟨Tryz.func34, rfl, by kernel_rfl⟩ fun x hx hσ => ?_
 (repeat refine ZQ ?_); refine ZR fun K hK => ?_; simp (maxSteps := 1000000) [ty25]; refine hK _ ?_; clear hK K; (first | show AWP _ _ _ _ _ | show ∃ _, _ | skip)
 cases h1 : withinB w.full 10 10000
 ·(repeat refine ZQ ?_); refine ZR fun K hK => ?_; simp (maxSteps := 1000000) [ty25, ty23, ty3, h1]
  (repeat (first | (refine callP (within60 _ _ _) (by simp) ?_; simp (maxSteps := 1000000) [ty25, ty23, ty3, h1]) | (refine callPD (within60 _ _ _) (by simp) (by simp) ?_; simp (maxSteps := 1000000) [ty25, ty23, ty3, h1])))
  refine hK _ ?_; clear hK K
  (repeat refine ZQ ?_); refine awp_ret ?_; refine And.intro (Or.inr rfl) ?_
  simp [retC, resC, viewC, mapO, wheelB, h1]
 ·cases h2 : withinB w.read 0 20
  ·(repeat refine ZQ ?_); refine ZR fun K hK => ?_; simp (maxSteps := 1000000) [ty25, ty23, ty3, h1, h2]
   (repeat (first | (refine callP (within60 _ _ _) (by simp) ?_; simp (maxSteps := 1000000) [ty25, ty23, ty3, h1, h2]) | (refine callPD (within60 _ _ _) (by simp) (by simp) ?_; simp (maxSteps := 1000000) [ty25, ty23, ty3, h1, h2])))
   refine hK _ ?_; clear hK K
   (repeat refine ZQ ?_); refine awp_ret ?_; refine And.intro (Or.inr rfl) ?_
   simp [retC, resC, viewC, mapO, wheelB, h1, h2]
  ·cases h3 : withinB w.slip 0 20
   ·(repeat refine ZQ ?_); refine ZR fun K hK => ?_; simp (maxSteps := 1000000) [ty25, ty23, ty3, h1, h2, h3]
    (repeat (first | (refine callP (within60 _ _ _) (by simp) ?_; simp (maxSteps := 1000000) [ty25, ty23, ty3, h1, h2, h3]) | (refine callPD (within60 _ _ _) (by simp) (by simp) ?_; simp (maxSteps := 1000000) [ty25, ty23, ty3, h1, h2, h3])))
    refine hK _ ?_; clear hK K
    (repeat refine ZQ ?_); refine awp_ret ?_; refine And.intro (Or.inr rfl) ?_
    simp [retC, resC, viewC, mapO, wheelB, h1, h2, h3]
   ·cases h4 : withinB w.skew 0 20
    ·(repeat refine ZQ ?_); refine ZR fun K hK => ?_; simp (maxSteps := 1000000) [ty25, ty23, ty3, h1, h2, h3, h4]
     (repeat (first | (refine callP (within60 _ _ _) (by simp) ?_; simp (maxSteps := 1000000) [ty25, ty23, ty3, h1, h2, h3, h4]) | (refine callPD (within60 _ _ _) (by simp) (by simp) ?_; simp (maxSteps := 1000000) [ty25, ty23, ty3, h1, h2, h3, h4])))
     refine hK _ ?_; clear hK K
     (repeat refine ZQ ?_); refine awp_ret ?_; refine And.intro (Or.inr rfl) ?_
     simp [retC, resC, viewC, mapO, wheelB, h1, h2, h3, h4]
    ·cases h5 : withinB w.circle 0 9999
     ·(repeat refine ZQ ?_); refine ZR fun K hK => ?_; simp (maxSteps := 1000000) [ty25, ty23, ty3, h1, h2, h3, h4, h5]
      (repeat (first | (refine callP (within60 _ _ _) (by simp) ?_; simp (maxSteps := 1000000) [ty25, ty23, ty3, h1, h2, h3, h4, h5]) | (refine callPD (within60 _ _ _) (by simp) (by simp) ?_; simp (maxSteps := 1000000) [ty25, ty23, ty3, h1, h2, h3, h4, h5])))
      refine hK _ ?_; clear hK K
      (repeat refine ZQ ?_); refine awp_ret ?_; refine And.intro (Or.inr rfl) ?_
      simp [retC, resC, viewC, mapO, wheelB, h1, h2, h3, h4, h5]
     ·cases h6 : withinB w.glow 0 w.ghigh
      ·(repeat refine ZQ ?_); refine ZR fun K hK => ?_; simp (maxSteps := 1000000) [ty25, ty23, ty3, h1, h2, h3, h4, h5, h6]
       (repeat (first | (refine callP (within60 _ _ _) (by simp) ?_; simp (maxSteps := 1000000) [ty25, ty23, ty3, h1, h2, h3, h4, h5, h6]) | (refine callPD (within60 _ _ _) (by simp) (by simp) ?_; simp (maxSteps := 1000000) [ty25, ty23, ty3, h1, h2, h3, h4, h5, h6])))
       refine hK _ ?_; clear hK K
       (repeat refine ZQ ?_); refine awp_ret ?_; refine And.intro (Or.inr rfl) ?_
       simp [retC, resC, viewC, mapO, wheelB, h1, h2, h3, h4, h5, h6]
      ·cases h7 : decide (w.ghigh ≤ 9999)
       ·(repeat refine ZQ ?_); refine ZR fun K hK => ?_; simp (maxSteps := 1000000) [ty25, ty23, ty3, h1, h2, h3, h4, h5, h6, h7]
        (repeat (first | (refine callP (within60 _ _ _) (by simp) ?_; simp (maxSteps := 1000000) [ty25, ty23, ty3, h1, h2, h3, h4, h5, h6, h7]) | (refine callPD (within60 _ _ _) (by simp) (by simp) ?_; simp (maxSteps := 1000000) [ty25, ty23, ty3, h1, h2, h3, h4, h5, h6, h7])))
        refine hK _ ?_; clear hK K
        (repeat refine ZQ ?_); refine awp_ret ?_; refine And.intro (Or.inr rfl) ?_
        simp [retC, resC, viewC, mapO, wheelB, h1, h2, h3, h4, h5, h6, h7]
       ·cases h8 : withinB w.wrong 0 8
        ·(repeat refine ZQ ?_); refine ZR fun K hK => ?_; simp (maxSteps := 1000000) [ty25, ty23, ty3, h1, h2, h3, h4, h5, h6, h7, h8]
         (repeat (first | (refine callP (within60 _ _ _) (by simp) ?_; simp (maxSteps := 1000000) [ty25, ty23, ty3, h1, h2, h3, h4, h5, h6, h7, h8]) | (refine callPD (within60 _ _ _) (by simp) (by simp) ?_; simp (maxSteps := 1000000) [ty25, ty23, ty3, h1, h2, h3, h4, h5, h6, h7, h8])))
         refine hK _ ?_; clear hK K
         (repeat refine ZQ ?_); refine awp_ret ?_; refine And.intro (Or.inr rfl) ?_
         simp [retC, resC, viewC, mapO, wheelB, h1, h2, h3, h4, h5, h6, h7, h8]
        ·(repeat refine ZQ ?_); refine ZR fun K hK => ?_; simp (maxSteps := 1000000) [ty25, ty23, ty3, h1, h2, h3, h4, h5, h6, h7, h8]
         (repeat (first | (refine callP (within60 _ _ _) (by simp) ?_; simp (maxSteps := 1000000) [ty25, ty23, ty3, h1, h2, h3, h4, h5, h6, h7, h8]) | (refine callPD (within60 _ _ _) (by simp) (by simp) ?_; simp (maxSteps := 1000000) [ty25, ty23, ty3, h1, h2, h3, h4, h5, h6, h7, h8])))
         refine hK _ ?_; clear hK K
         (repeat refine ZQ ?_); refine awp_ret ?_; refine And.intro (Or.inr rfl) ?_
         simp [retC, resC, viewC, mapO, wheelB, h1, h2, h3, h4, h5, h6, h7, h8]

theorem strange65 (w : Wh) (y : Wl) (hw : WhOk w) : Pure Tryz.prog 97 [encWl y, .ip (cWh w) 0] (.bool (!walkB w y)) := by
 have hf := hw.full
 have hwr : IntKind.i64.wrap (w.full - 1) = w.full - 1 := wrap_id (by omega) (by omega)
 refine ZF (fn := Tryz.f97) [.tmp 3] ⟨Tryz.func97, rfl, by kernel_rfl⟩ fun x hx hσ => ?_
 (repeat refine ZQ ?_); refine ZR fun K hK => ?_; simp (maxSteps := 1000000) [ty82]; refine hK _ ?_; clear hK K; (first | show AWP _ _ _ _ _ | show ∃ _, _ | skip)
 cases h1 : oneB y.sense
 ·(repeat refine ZQ ?_); refine ZR fun K hK => ?_; simp (maxSteps := 1000000) [ty25, ty82, ty3, hwr, h1]
  (repeat (first | (refine callP (one50 _) (by simp) ?_; simp (maxSteps := 1000000) [ty25, ty82, ty3, hwr, h1]) | (refine callPD (one50 _) (by simp) (by simp) ?_; simp (maxSteps := 1000000) [ty25, ty82, ty3, hwr, h1]) | (refine callP (within61 _ _ _) (by simp) ?_; simp (maxSteps := 1000000) [ty25, ty82, ty3, hwr, h1]) | (refine callPD (within61 _ _ _) (by simp) (by simp) ?_; simp (maxSteps := 1000000) [ty25, ty82, ty3, hwr, h1])))
  refine hK _ ?_; clear hK K
  (repeat refine ZQ ?_); refine awp_ret ?_; refine And.intro (Or.inr rfl) ?_
  simp [retC, resC, viewC, mapO, walkB, h1]
 ·cases h2 : oneB y.side
  ·(repeat refine ZQ ?_); refine ZR fun K hK => ?_; simp (maxSteps := 1000000) [ty25, ty82, ty3, hwr, h1, h2]
   (repeat (first | (refine callP (one50 _) (by simp) ?_; simp (maxSteps := 1000000) [ty25, ty82, ty3, hwr, h1, h2]) | (refine callPD (one50 _) (by simp) (by simp) ?_; simp (maxSteps := 1000000) [ty25, ty82, ty3, hwr, h1, h2]) | (refine callP (within61 _ _ _) (by simp) ?_; simp (maxSteps := 1000000) [ty25, ty82, ty3, hwr, h1, h2]) | (refine callPD (within61 _ _ _) (by simp) (by simp) ?_; simp (maxSteps := 1000000) [ty25, ty82, ty3, hwr, h1, h2])))
   refine hK _ ?_; clear hK K
   (repeat refine ZQ ?_); refine awp_ret ?_; refine And.intro (Or.inr rfl) ?_
   simp [retC, resC, viewC, mapO, walkB, h1, h2]
  ·cases h3 : withinB y.inside 0 1
   ·(repeat refine ZQ ?_); refine ZR fun K hK => ?_; simp (maxSteps := 1000000) [ty25, ty82, ty3, hwr, h1, h2, h3]
    (repeat (first | (refine callP (one50 _) (by simp) ?_; simp (maxSteps := 1000000) [ty25, ty82, ty3, hwr, h1, h2, h3]) | (refine callPD (one50 _) (by simp) (by simp) ?_; simp (maxSteps := 1000000) [ty25, ty82, ty3, hwr, h1, h2, h3]) | (refine callP (within61 _ _ _) (by simp) ?_; simp (maxSteps := 1000000) [ty25, ty82, ty3, hwr, h1, h2, h3]) | (refine callPD (within61 _ _ _) (by simp) (by simp) ?_; simp (maxSteps := 1000000) [ty25, ty82, ty3, hwr, h1, h2, h3])))
    refine hK _ ?_; clear hK K
    (repeat refine ZQ ?_); refine awp_ret ?_; refine And.intro (Or.inr rfl) ?_
    simp [retC, resC, viewC, mapO, walkB, h1, h2, h3]
   ·cases h4 : withinB y.start 0 (w.full - 1)
    ·(repeat refine ZQ ?_); refine ZR fun K hK => ?_; simp (maxSteps := 1000000) [ty25, ty82, ty3, hwr, h1, h2, h3, h4]
     (repeat (first | (refine callP (one50 _) (by simp) ?_; simp (maxSteps := 1000000) [ty25, ty82, ty3, hwr, h1, h2, h3, h4]) | (refine callPD (one50 _) (by simp) (by simp) ?_; simp (maxSteps := 1000000) [ty25, ty82, ty3, hwr, h1, h2, h3, h4]) | (refine callP (within61 _ _ _) (by simp) ?_; simp (maxSteps := 1000000) [ty25, ty82, ty3, hwr, h1, h2, h3, h4]) | (refine callPD (within61 _ _ _) (by simp) (by simp) ?_; simp (maxSteps := 1000000) [ty25, ty82, ty3, hwr, h1, h2, h3, h4])))
     refine hK _ ?_; clear hK K
     (repeat refine ZQ ?_); refine awp_ret ?_; refine And.intro (Or.inr rfl) ?_
     simp [retC, resC, viewC, mapO, walkB, h1, h2, h3, h4]
    ·cases h5 : withinB y.fin 0 (w.full - 1)
     ·(repeat refine ZQ ?_); refine ZR fun K hK => ?_; simp (maxSteps := 1000000) [ty25, ty82, ty3, hwr, h1, h2, h3, h4, h5]
      (repeat (first | (refine callP (one50 _) (by simp) ?_; simp (maxSteps := 1000000) [ty25, ty82, ty3, hwr, h1, h2, h3, h4, h5]) | (refine callPD (one50 _) (by simp) (by simp) ?_; simp (maxSteps := 1000000) [ty25, ty82, ty3, hwr, h1, h2, h3, h4, h5]) | (refine callP (within61 _ _ _) (by simp) ?_; simp (maxSteps := 1000000) [ty25, ty82, ty3, hwr, h1, h2, h3, h4, h5]) | (refine callPD (within61 _ _ _) (by simp) (by simp) ?_; simp (maxSteps := 1000000) [ty25, ty82, ty3, hwr, h1, h2, h3, h4, h5])))
      refine hK _ ?_; clear hK K
      (repeat refine ZQ ?_); refine awp_ret ?_; refine And.intro (Or.inr rfl) ?_
      simp [retC, resC, viewC, mapO, walkB, h1, h2, h3, h4, h5]
     ·(repeat refine ZQ ?_); refine ZR fun K hK => ?_; simp (maxSteps := 1000000) [ty25, ty82, ty3, hwr, h1, h2, h3, h4, h5]
      (repeat (first | (refine callP (one50 _) (by simp) ?_; simp (maxSteps := 1000000) [ty25, ty82, ty3, hwr, h1, h2, h3, h4, h5]) | (refine callPD (one50 _) (by simp) (by simp) ?_; simp (maxSteps := 1000000) [ty25, ty82, ty3, hwr, h1, h2, h3, h4, h5]) | (refine callP (within61 _ _ _) (by simp) ?_; simp (maxSteps := 1000000) [ty25, ty82, ty3, hwr, h1, h2, h3, h4, h5]) | (refine callPD (within61 _ _ _) (by simp) (by simp) ?_; simp (maxSteps := 1000000) [ty25, ty82, ty3, hwr, h1, h2, h3, h4, h5])))
      refine hK _ ?_; clear hK K
      (repeat refine ZQ ?_); refine awp_ret ?_; refine And.intro (Or.inr rfl) ?_
      simp [retC, resC, viewC, mapO, walkB, h1, h2, h3, h4, h5]

theorem isWalk25 (w : Wh) (y : Wl) (hw : WhOk w) : Pure Tryz.prog 35 [encWh w, encWl y] (.bool (walkB w y)) := by
 have hf := hw.full
 have hwr : IntKind.i64.wrap (w.full - 1) = w.full - 1 := wrap_id (by omega) (by omega)
 refine ZF (fn := Tryz.f35) [.tmp 4] ⟨Tryz.func35, rfl, by kernel_rfl⟩ fun x hx hσ => ?_
 (repeat refine ZQ ?_); refine ZR fun K hK => ?_; simp (maxSteps := 1000000) [ty25, ty82]; refine hK _ ?_; clear hK K; (first | show AWP _ _ _ _ _ | show ∃ _, _ | skip)
 cases h1 : oneB y.sense
 ·(repeat refine ZQ ?_); refine ZR fun K hK => ?_; simp (maxSteps := 1000000) [ty25, ty82, ty3, hwr, h1]
  (repeat (first | (refine callP (one53 _) (by simp) ?_; simp (maxSteps := 1000000) [ty25, ty82, ty3, hwr, h1]) | (refine callPD (one53 _) (by simp) (by simp) ?_; simp (maxSteps := 1000000) [ty25, ty82, ty3, hwr, h1]) | (refine callP (within60 _ _ _) (by simp) ?_; simp (maxSteps := 1000000) [ty25, ty82, ty3, hwr, h1]) | (refine callPD (within60 _ _ _) (by simp) (by simp) ?_; simp (maxSteps := 1000000) [ty25, ty82, ty3, hwr, h1])))
  refine hK _ ?_; clear hK K
  (repeat refine ZQ ?_); refine awp_ret ?_; refine And.intro (Or.inr rfl) ?_
  simp [retC, resC, viewC, mapO, walkB, h1]
 ·cases h2 : oneB y.side
  ·(repeat refine ZQ ?_); refine ZR fun K hK => ?_; simp (maxSteps := 1000000) [ty25, ty82, ty3, hwr, h1, h2]
   (repeat (first | (refine callP (one53 _) (by simp) ?_; simp (maxSteps := 1000000) [ty25, ty82, ty3, hwr, h1, h2]) | (refine callPD (one53 _) (by simp) (by simp) ?_; simp (maxSteps := 1000000) [ty25, ty82, ty3, hwr, h1, h2]) | (refine callP (within60 _ _ _) (by simp) ?_; simp (maxSteps := 1000000) [ty25, ty82, ty3, hwr, h1, h2]) | (refine callPD (within60 _ _ _) (by simp) (by simp) ?_; simp (maxSteps := 1000000) [ty25, ty82, ty3, hwr, h1, h2])))
   refine hK _ ?_; clear hK K
   (repeat refine ZQ ?_); refine awp_ret ?_; refine And.intro (Or.inr rfl) ?_
   simp [retC, resC, viewC, mapO, walkB, h1, h2]
  ·cases h3 : withinB y.inside 0 1
   ·(repeat refine ZQ ?_); refine ZR fun K hK => ?_; simp (maxSteps := 1000000) [ty25, ty82, ty3, hwr, h1, h2, h3]
    (repeat (first | (refine callP (one53 _) (by simp) ?_; simp (maxSteps := 1000000) [ty25, ty82, ty3, hwr, h1, h2, h3]) | (refine callPD (one53 _) (by simp) (by simp) ?_; simp (maxSteps := 1000000) [ty25, ty82, ty3, hwr, h1, h2, h3]) | (refine callP (within60 _ _ _) (by simp) ?_; simp (maxSteps := 1000000) [ty25, ty82, ty3, hwr, h1, h2, h3]) | (refine callPD (within60 _ _ _) (by simp) (by simp) ?_; simp (maxSteps := 1000000) [ty25, ty82, ty3, hwr, h1, h2, h3])))
    refine hK _ ?_; clear hK K
    (repeat refine ZQ ?_); refine awp_ret ?_; refine And.intro (Or.inr rfl) ?_
    simp [retC, resC, viewC, mapO, walkB, h1, h2, h3]
   ·cases h4 : withinB y.start 0 (w.full - 1)
    ·(repeat refine ZQ ?_); refine ZR fun K hK => ?_; simp (maxSteps := 1000000) [ty25, ty82, ty3, hwr, h1, h2, h3, h4]
     (repeat (first | (refine callP (one53 _) (by simp) ?_; simp (maxSteps := 1000000) [ty25, ty82, ty3, hwr, h1, h2, h3, h4]) | (refine callPD (one53 _) (by simp) (by simp) ?_; simp (maxSteps := 1000000) [ty25, ty82, ty3, hwr, h1, h2, h3, h4]) | (refine callP (within60 _ _ _) (by simp) ?_; simp (maxSteps := 1000000) [ty25, ty82, ty3, hwr, h1, h2, h3, h4]) | (refine callPD (within60 _ _ _) (by simp) (by simp) ?_; simp (maxSteps := 1000000) [ty25, ty82, ty3, hwr, h1, h2, h3, h4])))
     refine hK _ ?_; clear hK K
     (repeat refine ZQ ?_); refine awp_ret ?_; refine And.intro (Or.inr rfl) ?_
     simp [retC, resC, viewC, mapO, walkB, h1, h2, h3, h4]
    ·cases h5 : withinB y.fin 0 (w.full - 1)
     ·(repeat refine ZQ ?_); refine ZR fun K hK => ?_; simp (maxSteps := 1000000) [ty25, ty82, ty3, hwr, h1, h2, h3, h4, h5]
      (repeat (first | (refine callP (one53 _) (by simp) ?_; simp (maxSteps := 1000000) [ty25, ty82, ty3, hwr, h1, h2, h3, h4, h5]) | (refine callPD (one53 _) (by simp) (by simp) ?_; simp (maxSteps := 1000000) [ty25, ty82, ty3, hwr, h1, h2, h3, h4, h5]) | (refine callP (within60 _ _ _) (by simp) ?_; simp (maxSteps := 1000000) [ty25, ty82, ty3, hwr, h1, h2, h3, h4, h5]) | (refine callPD (within60 _ _ _) (by simp) (by simp) ?_; simp (maxSteps := 1000000) [ty25, ty82, ty3, hwr, h1, h2, h3, h4, h5])))
      refine hK _ ?_; clear hK K
      (repeat refine ZQ ?_); refine awp_ret ?_; refine And.intro (Or.inr rfl) ?_
      simp [retC, resC, viewC, mapO, walkB, h1, h2, h3, h4, h5]
     ·(repeat refine ZQ ?_); refine ZR fun K hK => ?_; simp (maxSteps := 1000000) [ty25, ty82, ty3, hwr, h1, h2, h3, h4, h5]
      (repeat (first | (refine callP (one53 _) (by simp) ?_; simp (maxSteps := 1000000) [ty25, ty82, ty3, hwr, h1, h2, h3, h4, h5]) | (refine callPD (one53 _) (by simp) (by simp) ?_; simp (maxSteps := 1000000) [ty25, ty82, ty3, hwr, h1, h2, h3, h4, h5]) | (refine callP (within60 _ _ _) (by simp) ?_; simp (maxSteps := 1000000) [ty25, ty82, ty3, hwr, h1, h2, h3, h4, h5]) | (refine callPD (within60 _ _ _) (by simp) (by simp) ?_; simp (maxSteps := 1000000) [ty25, ty82, ty3, hwr, h1, h2, h3, h4, h5])))
      refine hK _ ?_; clear hK K
      (repeat refine ZQ ?_); refine awp_ret ?_; refine And.intro (Or.inr rfl) ?_
      simp [retC, resC, viewC, mapO, walkB, h1, h2, h3, h4, h5]

set_option maxHeartbeats 2000000

/-- Where the first strange walk is. -/
def firstI (w : Wh) (l : List Wl) : Int := if l.all (walkB w) then -1 else (l.findIdx fun y => !walkB w y : Nat)

theorem firstI_at {w : Wh} {l : List Wl} {i : Nat} (hi : i < l.length) (h0 : ∀ j, (h : j < l.length) → j < i → walkB w l[j] = true) (h1 : walkB w l[i] = false) : firstI w l = i := by
 unfold firstI
 rw [if_neg]
 ·congr 1
  rw [List.findIdx_eq hi]
  exact ⟨by simp [h1], fun j hj => by simp [h0 j (by omega) hj]⟩
 ·intro h
  rw [List.all_eq_true] at h
  rw [h _ (List.getElem_mem hi)] at h1
  cases h1

theorem firstI_neg (w : Wh) (l : List Wl) : decide (0 ≤ firstI w l) = !l.all (walkB w) := by
 unfold firstI
 cases l.all (walkB w) <;> simp

theorem index80 (w : Wh) (nl fu : Bool) (l : List Wl) (hw : WhOk w) (hn : l.length ≤ 1000) : Pure Tryz.prog 122 [sWl nl fu l, .fn (.func 97) [] [.ip (cWh w) 0]] (encI (firstI w l)) := by
 refine ZF (fn := Tryz.f122) [.tmp 4] ⟨Tryz.func122, rfl, by kernel_rfl⟩ fun x hx hσ => ?_
 (repeat refine ZQ ?_); refine ZR fun K hK => ?_; simp (maxSteps := 1000000); refine hK _ ?_; clear hK K
 (repeat refine ZQ ?_); refine ZR fun K hK => ?_; simp (maxSteps := 1000000) [ty53]; refine hK _ ?_; clear hK K
 (repeat refine ZQ ?_); refine awp_block ?_
 refine awp_loop (fun i : Nat => ⟨ofL [(0, sWl nl fu l), (1, .fn (.func 97) [] [.ip (cWh w) 0]), (7, encI l.length), (8, encI i)], stoT []⟩)
  (fun i => i ≤ l.length ∧ ∀ j, (h : j < l.length) → j < i → walkB w l[j] = true) (fun i => l.length - i) 0 (by simp) ?_ ?_
 ·exact Zw
 ·intro i ⟨hi, hj⟩
  (repeat refine ZQ ?_); refine ZR fun K hK => ?_; simp (maxSteps := 1000000) [ty3]; refine hK _ ?_; clear hK K
  (repeat refine ZQ ?_); refine ZC (fun hc => ?_) (fun hc => ?_)
  ·simp at hc
   refine awp_skip ?_
   (repeat refine ZQ ?_); refine awp_block ?_
   (repeat refine ZQ ?_); refine ZR fun K hK => ?_; simp (maxSteps := 1000000); refine hK _ ?_; clear hK K
   (repeat refine ZQ ?_); refine ZR fun K hK => ?_; simp (maxSteps := 1000000) [ty53, ty82, hc]
   refine ZP (strange65 w l[i] hw) ?_; simp (maxSteps := 1000000)
   refine hK _ ?_; clear hK K; (first | show AWP _ _ _ _ _ | show ∃ _, _ | skip)
   cases hb : walkB w l[i]
   ·(repeat refine ZQ ?_); refine ZC (hc := by simp [hb]; rfl) (fun hd => ?_) (fun hd => ?_)
    ·clear hd
     (repeat refine ZQ ?_); refine ZR fun K hK => ?_; simp (maxSteps := 1000000); refine hK _ ?_; clear hK K
     (repeat refine ZQ ?_); refine awp_ret ?_; refine And.intro (Or.inr rfl) ?_
     rw [firstI_at hc hj hb]
     simp [retC, resC, viewC, mapO]
    ·simp at hd
   ·(repeat refine ZQ ?_); refine ZC (hc := by simp [hb]; rfl) (fun hd => ?_) (fun hd => ?_)
    ·simp at hd
    ·clear hd
     refine awp_skip ?_
     (repeat refine ZQ ?_); refine ZR fun K hK => ?_; simp (maxSteps := 1000000) [ty3]; refine hK _ ?_; clear hK K; (first | show AWP _ _ _ _ _ | show ∃ _, _ | skip)
     refine ⟨i + 1, ⟨by omega, fun j h1 h2 => ?_⟩, by omega, ?_⟩
     ·by_cases hji : j = i
      ·subst hji; assumption
      ·exact hj j h1 (by omega)
     ·exact Zw
  ·simp at hc
   (repeat refine ZQ ?_); refine awp_exit ?_
   (repeat refine ZQ ?_); refine ZR fun K hK => ?_; simp (maxSteps := 1000000); refine hK _ ?_; clear hK K
   (repeat refine ZQ ?_); refine awp_ret ?_; refine And.intro (Or.inr rfl) ?_
   have : l.all (walkB w) = true := by
    rw [List.all_eq_true]
    intro y hy
    obtain ⟨i', hi', rfl⟩ := List.getElem_of_mem hy
    exact hj i' hi' (by omega)
   have : firstI w l = -1 := by unfold firstI; rw [if_pos this]
   rw [this]
   simp [retC, resC, viewC, mapO]

theorem contains66 (w : Wh) (nl fu : Bool) (l : List Wl) (hw : WhOk w) (hn : l.length ≤ 1000) : Pure Tryz.prog 100 [sWl nl fu l, .fn (.func 97) [] [.ip (cWh w) 0]] (.bool (!l.all (walkB w))) := by
 refine ZF (fn := Tryz.f100) [.tmp 4] ⟨Tryz.func100, rfl, by kernel_rfl⟩ fun x hx hσ => ?_
 (repeat refine ZQ ?_); refine ZR fun K hK => ?_; simp (maxSteps := 1000000); refine hK _ ?_; clear hK K
 (repeat refine ZQ ?_); refine ZR fun K hK => ?_; simp (maxSteps := 1000000)
 refine ZP (index80 w nl fu l hw hn) ?_; simp (maxSteps := 1000000) [ty3]
 refine hK _ ?_; clear hK K
 (repeat refine ZQ ?_); refine awp_ret ?_; refine And.intro (Or.inr rfl) ?_
 simp [retC, resC, viewC, mapO]
 exact firstI_neg w l

/-- What Check answers. -/
def checkI (w : Wh) (l : List Wl) : Int := if wheelB w = false then 30 else if l.length > 8 ∨ l.all (walkB w) = false then 31 else 0

theorem check30 (w : Wh) (nl fu : Bool) (l : List Wl) (hn : l.length ≤ 1000) : Pure Tryz.prog 79 [encWh w, sWl nl fu l] (encI (checkI w l)) := by
 refine ZF (fn := Tryz.f79) [.tmp 4] ⟨Tryz.func79, rfl, by kernel_rfl⟩ fun x hx hσ => ?_
 (repeat refine ZQ ?_); refine ZR fun K hK => ?_; simp (maxSteps := 1000000) [ty25]; refine hK _ ?_; clear hK K
 (repeat refine ZQ ?_); refine ZR fun K hK => ?_; simp (maxSteps := 1000000) [ty25]
 refine ZP (isWheel64 w) ?_; simp (maxSteps := 1000000)
 refine hK _ ?_; clear hK K; (first | show AWP _ _ _ _ _ | show ∃ _, _ | skip)
 cases hb : wheelB w
 ·(repeat refine ZQ ?_); refine ZC (hc := by simp [hb]; rfl) (fun hd => ?_) (fun hd => ?_)
  ·clear hd
   (repeat refine ZQ ?_); refine ZR fun K hK => ?_; simp (maxSteps := 1000000); refine hK _ ?_; clear hK K
   (repeat refine ZQ ?_); refine awp_ret ?_; refine And.intro (Or.inr rfl) ?_
   simp [retC, resC, viewC, mapO, checkI, hb]
  ·simp at hd
 ·have hw := wheelB_iff.1 hb
  (repeat refine ZQ ?_); refine ZC (hc := by simp [hb]; rfl) (fun hd => ?_) (fun hd => ?_)
  ·simp at hd
  ·clear hd
   refine awp_skip ?_
   (repeat refine ZQ ?_); refine ZR fun K hK => ?_; simp (maxSteps := 1000000); refine hK _ ?_; clear hK K; (first | show AWP _ _ _ _ _ | show ∃ _, _ | skip)
   by_cases hl8 : (8 : Int) < (l.length : Int)
   ·(repeat refine ZQ ?_); refine ZR fun K hK => ?_; simp (maxSteps := 1000000) [ty53, ty3, hl8]; refine hK _ ?_; clear hK K
    (repeat refine ZQ ?_); refine ZC (hc := by simp [hl8]; rfl) (fun hd => ?_) (fun hd => ?_)
    ·clear hd
     (repeat refine ZQ ?_); refine ZR fun K hK => ?_; simp (maxSteps := 1000000); refine hK _ ?_; clear hK K
     (repeat refine ZQ ?_); refine awp_ret ?_; refine And.intro (Or.inr rfl) ?_
     simp [retC, resC, viewC, mapO, checkI, hb]
     omega
    ·simp at hd
   ·(repeat refine ZQ ?_); refine ZR fun K hK => ?_; simp (maxSteps := 1000000) [ty53, ty3, hl8]
    refine callL (contains66 w nl fu l hw hn) (by simp [viewL, mapO, viewC, C.isPure, purel]) (.inr rfl) ?_
    simp
    refine hK _ ?_; clear hK K; (first | show AWP _ _ _ _ _ | show ∃ _, _ | skip)
    cases ha : l.all (walkB w)
    ·(repeat refine ZQ ?_); refine ZC (hc := by simp [ha]; rfl) (fun hd => ?_) (fun hd => ?_)
     ·clear hd
      (repeat refine ZQ ?_); refine ZR fun K hK => ?_; simp (maxSteps := 1000000); refine hK _ ?_; clear hK K
      (repeat refine ZQ ?_); refine awp_ret ?_; refine And.intro (Or.inr rfl) ?_
      simp [retC, resC, viewC, mapO, checkI, hb, ha]
     ·simp at hd
    ·(repeat refine ZQ ?_); refine ZC (hc := by simp [ha]; rfl) (fun hd => ?_) (fun hd => ?_)
     ·simp at hd
     ·clear hd
      refine awp_skip ?_
      (repeat refine ZQ ?_); refine ZR fun K hK => ?_; simp (maxSteps := 1000000); refine hK _ ?_; clear hK K
      (repeat refine ZQ ?_); refine awp_ret ?_; refine And.intro (Or.inr rfl) ?_
      simp [retC, resC, viewC, mapO, checkI, hb, ha]
      omega

set_option maxHeartbeats 2000000

theorem itTr_get {L : List Tr} {i : Nat} {args : List C} (h : (itTr L)[i]? = some args) : ∃ t, L[i]? = some t ∧ args = [encTr t] := by
 simp only [List.getElem?_map, Option.map_eq_some_iff] at h
 obtain ⟨t, h1, h2⟩ := h
 exact ⟨t, h1, h2.symm⟩

/-- What open answers. -/
def openI (w : Wh) (l : List Wl) (is : Bool) : Int := if checkI w l ≠ 0 then checkI w l else if is = false then 1 else if truthsL w l = [] then 3 else 0

theorem checkI_ok {w : Wh} {l : List Wl} (h : checkI w l = 0) : WhOk w ∧ (∀ y ∈ l, WlOk w y) ∧ l.length ≤ 8 := by
 unfold checkI at h
 split at h
 ·omega
 ·rename_i h1
  split at h
  ·omega
  ·rename_i h2
   simp only [not_or, Bool.not_eq_false] at h1 h2
   refine ⟨wheelB_iff.1 h1, fun y hy => walkB_iff.1 ?_, by omega⟩
   rw [List.all_eq_true] at h2
   exact h2.2 y hy

@[simp] abbrev z9 : List C := [encI 0, encI 0, encI 0, encI 0, encI 0, encI 0, encI 0, encI 0, .sl true true []]

@[simp] abbrev Fop (w : Wh) (nl fu : Bool) (l : List Wl) (a : List C) : List (Nat × Nat × Slot) := [(2000006, 2000006, .live ⟨false, false, 9, [a]⟩), (2000007, 2000007, .live ⟨false, false, 1, [[encI 0]]⟩), (2000008, 2000008, .live (obDesk w nl fu l))]

theorem open49 (w : Wh) (nl fu is : Bool) (l : List Wl) (hn : l.length ≤ 1000) : Pure Tryz.prog 68 [encWh w, sWl nl fu l, .bool is] (.tup [encDesk w nl fu l, encI (openI w l is)]) := by
 refine ZF (fn := Tryz.f68) [.cell 6 127, .cell 7 34] ⟨Tryz.func68, rfl, by kernel_rfl⟩ fun x hx hσ => ?_
 (repeat refine ZQ ?_); refine ZR fun K hK => ?_; simp (maxSteps := 1000000) [ty25, ty127, ty34]; refine hK _ ?_; clear hK K
 (repeat refine ZQ ?_); refine ZR fun K hK => ?_; simp (maxSteps := 1000000) [ty25, ty127]; refine hK _ ?_; clear hK K
 (repeat refine ZQ ?_); refine ZR fun K hK => ?_; simp (maxSteps := 1000000) [ty25]
 refine ZP (check30 w nl fu l hn) ?_; simp (maxSteps := 1000000)
 refine hK _ ?_; clear hK K
 (repeat refine ZQ ?_); refine ZR fun K hK => ?_; simp (maxSteps := 1000000) [ty34]; refine hK _ ?_; clear hK K; (first | show AWP _ _ _ _ _ | show ∃ _, _ | skip)
 by_cases hz : checkI w l = 0
 ·obtain ⟨hw, hl, h8⟩ := checkI_ok hz
  (repeat refine ZQ ?_); refine ZC (hc := by simp [hz]; rfl) (fun hd => ?_) (fun hd => ?_)
  ·simp at hd
  ·clear hd
   refine awp_skip ?_
   (repeat refine ZQ ?_); refine ZR fun K hK => ?_; simp (maxSteps := 1000000); refine hK _ ?_; clear hK K; (first | show AWP _ _ _ _ _ | show ∃ _, _ | skip)
   cases is
   ·(repeat refine ZQ ?_); refine ZC (fun hd => ?_) (fun hd => ?_)
    ·clear hd
     (repeat refine ZQ ?_); refine ZR fun K hK => ?_; simp (maxSteps := 1000000) [ty127, ty34]; refine hK _ ?_; clear hK K
     (repeat refine ZQ ?_); refine awp_ret ?_; refine And.intro (Or.inr rfl) ?_
     simp [retC, resC, viewC, mapO, ty127, ty34, openI, hz]
    ·simp at hd
   ·(repeat refine ZQ ?_); refine ZC (fun hd => ?_) (fun hd => ?_)
    ·simp at hd
    ·clear hd
     refine awp_skip ?_
     (repeat refine ZQ ?_); refine ZR fun K hK => ?_; simp (maxSteps := 1000000) [ty127]; refine hK _ ?_; clear hK K
     (repeat refine ZQ ?_)
     refine awp_block ?_
     refine awp_range0 2000000 [2000006, 2000007, 2000008] (fun i => if i = 0 then Fop w nl fu l z9 else Fop w nl fu l (cDesk w nl fu l)) (itTr (truthsL w l)) 0 .ret
      [(6, .ptr 2000006 9 0 0), (7, .ptr 2000007 1 0 0), (8, .ptr 2000008 9 0 0), (24, .fn (.func 84) [encDesk w nl fu l] [])] [(6, .ptr 2000006 9 0 0), (7, .ptr 2000007 1 0 0), (8, .ptr 2000008 9 0 0)]
      (first := [encDesk w nl fu l]) (caps := []) ?_ hσ (by simp) (by rw [hx]; decide) ⟨by simp [purel, C.isPure], rfl⟩ (it_truths w nl fu l hw hl hn) (Nat.zero_le _) (by simp) (by simp) ?_ ?_ ?_ ?_ ?_ ?_ ?_ ?_
     ·refine wk_shape2 [(2000006, 6, .live ⟨false, false, 9, [z9]⟩), (2000007, 7, .live ⟨false, false, 1, [[encI 0]]⟩), (2000008, 8, .live (obDesk w nl fu l))] (by first | rfl | (simp only [if_pos, if_true, Fop]; rfl)) (shp0 hσ (by simp) (by simp) ?_) ?_
      ·simp [SlotOk] <;> (repeat' (first | exact .same (by simp [purel, C.isPure]) | exact .cons (by simp [mtl, mtc, mT, mH, C.isPure, purel]) (by simp) .nil | refine And.intro ?_ ?_))
      ·simp [mtc, mtl, mT, C.isPure, purel] <;> (try simp (disch := omega) [wrap_id]) <;> (try omega)
     ·intro i; split <;> simp [Fop]
     ·intro i; split <;> simp [Fop, wil, C.wi]
     ·simp [C.wi, wil]
     ·simp [C.wi, wil]
     ·intro args ha
      obtain ⟨t, ht, rfl⟩ := List.mem_map.1 ha
      simp [purel, C.isPure]
     ·intro i args hit hi y y2 hy1 hy2 hyσ hy
      obtain rfl : i = 0 := by omega
      obtain ⟨t, ht, rfl⟩ := itTr_get hit
      have hx := hy2.trans hx
      simp only [if_true, Nat.zero_add, if_neg (show ¬ 1 = 0 by decide)]
      refine awp_skip ?_
      refine ⟨by simp, ?_⟩
      (repeat refine ZQ ?_); refine awp_block ?_
      (repeat refine ZQ ?_); refine ZR fun K hK => ?_; simp (maxSteps := 1000000) [ty127, ty34, putPs]; refine hK _ ?_; clear hK K
      refine awp_ret ?_
      refine ⟨rfl, ?_⟩
      refine wk_round (E := []) [(2000000, 2000000, .gh), (2000006, 2000006, .live ⟨false, false, 9, [cDesk w nl fu l]⟩), (2000007, 2000007, .live ⟨false, false, 1, [[encI 0]]⟩), (2000008, 2000008, .live (obDesk w nl fu l))] (by first | rfl | (simp <;> rfl)) hy (by simp [mT]) (by simp) (by simp) ?_ (by simp)
      ·simp [SlotOk] <;> (repeat' (first | exact .same (by simp [purel, C.isPure]) | exact .cons (by simp [mtl, mtc, mT, mH, C.isPure, purel]) (by simp) .nil | refine And.intro ?_ ?_)) <;> (try simp (disch := omega) [wrap_id]) <;> (try omega)
     ·intro he s' hs'
      refine AWP.weak ?_ hs'
      have hT : truthsL w l = [] := List.eq_nil_of_length_eq_zero (by simpa using he.symm)
      rw [← he, if_pos rfl]
      (repeat refine ZQ ?_); refine ZR fun K hK => ?_; simp (maxSteps := 1000000) [ty127, ty34]; refine hK _ ?_; clear hK K
      (repeat refine ZQ ?_); refine awp_ret ?_; refine And.intro (Or.inr rfl) ?_
      simp [retC, resC, viewC, mapO, ty127, ty34, openI, hz, hT]
     ·intro hlt
      have hT : truthsL w l ≠ [] := by
       intro e; rw [e] at hlt; simp at hlt
      rw [if_neg (by omega)]
      refine awp_ret ?_
      refine ⟨.inr rfl, ?_⟩
      simp [retC, resC, viewC, mapO, ty127, ty34, openI, hz, hT]
 ·(repeat refine ZQ ?_); refine ZC (hc := by simp [hz]; rfl) (fun hd => ?_) (fun hd => ?_)
  ·clear hd
   (repeat refine ZQ ?_); refine ZR fun K hK => ?_; simp (maxSteps := 1000000) [ty127, ty34]; refine hK _ ?_; clear hK K
   (repeat refine ZQ ?_); refine awp_ret ?_; refine And.intro (Or.inr rfl) ?_
   simp [retC, resC, viewC, mapO, ty127, ty34, openI, hz]
  ·simp [hz] at hd

set_option maxHeartbeats 2000000

theorem allT_bd {w : Wh} (hw : WhOk w) : (allT w).length ≤ 410000 := by
 rw [allT_len]
 have h1 := hw.guess
 have h2 := hw.skew
 have ha : nA w ≤ 10000 := by unfold nA; omega
 have hs : nS w ≤ 41 := by unfold nS; omega
 exact Nat.mul_le_mul ha hs

theorem truthsL_bd {w : Wh} (l : List Wl) (hw : WhOk w) : (truthsL w l).length ≤ 410000 := Nat.le_trans (List.length_filter_le _ _) (allT_bd hw)

theorem openI_ok {w : Wh} {l : List Wl} {is : Bool} (h : openI w l is = 0) : checkI w l = 0 ∧ is = true ∧ truthsL w l ≠ [] := by
 unfold openI at h
 split at h
 ·contradiction
 ·rename_i h1
  split at h
  ·omega
  ·split at h
   ·omega
   ·rename_i h2 h3
    exact ⟨Classical.byContradiction fun e => h1 e, by simpa using h2, h3⟩

set_option maxHeartbeats 1000000

/-- The rows of a map whose keys are integers. -/
@[simp] abbrev rowsKV (kv : List (Int × C)) : List (List C) := kv.map fun p => [encI p.1, p.2]

theorem mp_val {G : Nat → Prop} {ρ : Nat → Nat} {σ : Nat → Slot} {w : World} {k : Nat} {o : Ob} {v : Value} (hk : σ k = .live o) (h : CR G ρ σ w (.mp k) v) : v = .map (some (ρ k)) := by
 cases h with
 | pure p => cases p
 | mpDead hd hv => rw [hk] at hd; cases hd
 | mp => rfl

/-- maps.Keys. -/
theorem keys78 {σ : Nat → Slot} (k e : Nat) {o : Ob} (hk : σ k = .live o) (hn : o.nl = false) (hz : o.sz = 0) (he : isFree σ e = true) : Does Tryz.prog 44 σ [.mp k] (.fn (.func 65) [] [.ptr e 1 0 0]) (upd σ e (.live ⟨false, false, 1, [[.mp k]]⟩)) := by
  refine { toCallable := (⟨Tryz.func44, rfl, by kernel_rfl⟩ : FnIs Tryz.prog 44 Tryz.f44 _).callable, calls := fun x ρ w vs hf hc => ?_ }
  have h1 := hc.2 0 _ rfl
  have hv := mp_val hk h1
  have hvs : vs = #[.map (some (ρ k))] := by
    have := hc.1
    apply Array.ext
    · simpa using this
    · intro i h2 h3
      simp only [List.size_toArray, List.length_cons, List.length_nil] at h3
      obtain rfl : i = 0 := by omega
      simp only [Array.getD_eq_getD_getElem?] at hv
      rw [Array.getElem?_eq_getElem h2] at hv
      simpa using hv
  subst hvs
  refine (Tryz.keys_c (some (ρ k)) w).mono ?_
  rintro e' w' ⟨rfl, rfl⟩
  obtain ⟨hK, hF⟩ := hf.new (w' := w.alloc (.cells #[.map (some (ρ k))] 66)) (ob := ⟨false, false, 1, [[.mp k]]⟩) (cs := #[.map (some (ρ k))]) (el := 66) (kill := none) (isFree_iff he) (by simp)
    (fun b hb => alloc_old w _ hb) (by simp) (alloc_new w _) rfl rfl rfl rfl Nat.zero_lt_one (by simp) (fun i row hi => by
      match i, hi with
      | 0, hi =>
        simp at hi; subst hi
        refine ⟨rfl, fun j c hj => ?_⟩
        match j, hj with
        | 0, hj => simp at hj; subst hj; exact ⟨by simpa using CR.mp hk hn hz, rfl⟩
        | n + 1, hj => simp at hj
      | n + 1, hi => simp at hi)
  refine ⟨_, _, rfl, hK, hF, .fn rfl rfl (by simp) (fun i c hi => ?_)⟩
  match i, hi with
  | 0, hi =>
    simp at hi; subst hi
    have := CR.ptr (G := x.Gd (upd ρ e w.heap.size) (upd σ e (.live ⟨false, false, 1, [[.mp k]]⟩))) (ρ := upd ρ e w.heap.size) (σ := upd σ e (.live ⟨false, false, 1, [[.mp k]]⟩)) (w := w.alloc (.cells #[.map (some (ρ k))] 66)) (k := e) (sz := 1) (i := 0) (j := 0) (f := 0)
      (upd_same _ _ _) rfl rfl (by decide) (by simp)
    rw [upd_same] at this
    simpa using this
  | n + 1, hi => simp at hi

/-- Keys in order. -/
def sortI (l : List Int) : List Int := l.mergeSort fun x y => decide (x ≤ y)

theorem sortI_perm {l m : List Int} (h : l.Perm m) : sortI l = sortI m := by
 have tr : ∀ a b c : Int, decide (a ≤ b) = true → decide (b ≤ c) = true → decide (a ≤ c) = true := by intro a b c; simp; omega
 have to : ∀ a b : Int, (decide (a ≤ b) || decide (b ≤ a)) = true := by intro a b; simp; omega
 unfold sortI
 refine List.Perm.eq_of_pairwise (le := fun a b => a ≤ b) (fun a b _ _ h1 h2 => by omega) ?_ ?_ ((List.mergeSort_perm _ _).trans (h.trans (List.mergeSort_perm _ _).symm))
 ·exact (List.pairwise_mergeSort tr to l).imp (by simp)
 ·exact (List.pairwise_mergeSort tr to m).imp (by simp)

theorem rows_keys {G : Nat → Prop} {ρ : Nat → Nat} {σ : Nat → Slot} {w : World} : ∀ {es : List MapEntry} {kv : List (Int × C)}, ER G ρ σ w es (rowsKV kv) → es.map (·.key) = kv.map fun p => Value.int .i64 p.1
 | [], [], _ => rfl
 | [], _ :: _, h => by cases h
 | _ :: _, [], h => by cases h
 | e :: es, p :: kv, h => by
  cases h with
  | cons hk hv h =>
   simp only [List.map_cons, hk.intOf, rows_keys h]

/-- slices.Sorted of maps.Keys. -/
theorem sorted77 {σ : Nat → Slot} (k e d : Nat) {em : Bool} (kv : List (Int × C)) (hk : σ k = .live ⟨false, em, 0, rowsKV kv⟩) (he : σ e = .live ⟨false, false, 1, [[.mp k]]⟩) (hd : isFree σ d = true) (hnd : (kv.map (·.1)).Nodup)
    (hbd : ∀ p ∈ kv, -1000000000 ≤ p.1 ∧ p.1 ≤ 1000000000) (hlen : kv.length ≤ 10000000) :
    Does Tryz.prog 43 σ [.fn (.func 65) [] [.ptr e 1 0 0]] (.own d 1 0 kv.length) (upd σ d (.live ⟨kv.isEmpty, false, 1, (sortI (kv.map (·.1))).map cI⟩)) := by
  refine { toCallable := (⟨Tryz.func43, rfl, by kernel_rfl⟩ : FnIs Tryz.prog 43 Tryz.f43 _).callable, calls := fun x ρ w vs hf hc => ?_ }
  have h1 := hc.2 0 _ rfl
  obtain ⟨v1, v2, hfv, hc1, hc2⟩ := h1.fnOf
  obtain ⟨o', ho', hn', hsz', hpv⟩ := (hc2.2 0 _ rfl).ptrOf (by simp [isLive, he])
  have e1 : v1 = #[] := Array.eq_empty_of_size_eq_zero hc1.1
  have e2 : v2 = #[.pointer (some ⟨ρ e, 0, none⟩)] := by
    have := hc2.1
    apply Array.ext
    · simpa using this
    · intro i h2 h3
      simp only [List.size_toArray, List.length_cons, List.length_nil] at h3
      obtain rfl : i = 0 := by omega
      simp only [Array.getD_eq_getD_getElem?] at hpv
      rw [Array.getElem?_eq_getElem h2] at hpv
      simpa using hpv
  have hvs : vs = #[.func (.func 65) #[] #[.pointer (some ⟨ρ e, 0, none⟩)]] := by
    have := hc.1
    apply Array.ext
    · simpa using this
    · intro i h2 h3
      simp only [List.size_toArray, List.length_cons, List.length_nil] at h3
      obtain rfl : i = 0 := by omega
      simp only [Array.getD_eq_getD_getElem?] at hfv
      rw [Array.getElem?_eq_getElem h2] at hfv
      rw [e1, e2] at hfv
      simpa using hfv
  subst hvs
  -- the box, the map
  have hob := hf.sto.ob e _ he rfl
  obtain ⟨cs, el, c1, c2, c3⟩ := hob.cel (by simp)
  have hbm := (c3 0 _ rfl).2 0 _ rfl
  have hmv := mp_val hk hbm.1
  obtain ⟨es, q, g1, g2, g3, g4⟩ := (hf.sto.ob k _ hk rfl).ent rfl
  have hER : ER (x.Gd ρ σ) ρ σ w es.toList (rowsKV kv) := ER.of (by simpa using g3) (by simpa using g4)
  have hkeys := rows_keys hER
  have hu : Tryz.prog.underlying 3 = some (.int .i64) := by kernel_rfl
  have hmem : ∀ x ∈ es.toList, ∃ a : Int, x.key = .int .i64 a ∧ -1000000000 ≤ a ∧ a ≤ 1000000000 := by
    intro y hy
    have : y.key ∈ es.toList.map (·.key) := List.mem_map.2 ⟨y, hy, rfl⟩
    rw [hkeys] at this
    obtain ⟨p, hp, h2⟩ := List.mem_map.1 this
    exact ⟨p.1, h2.symm, hbd p hp⟩
  obtain ⟨R, hR⟩ : ∃ R : Value → Option (DataW Unit × List MemPlace), R = fun _ => some (.map [], []) := ⟨_, rfl⟩
  have hwf : ∀ a : Int, -1000000000 ≤ a → a ≤ 1000000000 → (Lit.int .i64 a).wf = true := by
    intro a h1 h2
    have e1 : (IntKind.i64).min = -9223372036854775808 := by decide
    have e2 : (IntKind.i64).max = 9223372036854775807 := by decide
    simp only [Lit.wf, e1, e2, Bool.and_eq_true, decide_eq_true_eq]
    omega
  have hrd : ∀ y ∈ es.toList, ∀ a : Int, y.key = .int .i64 a → Go.WideElems.rd Tryz.prog 3 R y = some (.int .i64 a, .map []) := by
    intro y hy a ha
    obtain ⟨a', ha', b1, b2⟩ := hmem y hy
    rw [ha] at ha'
    cases ha'
    unfold Go.WideElems.rd
    rw [ha, Go.Maps.keyOf_int_mk hu (hwf a b1 b2), hR]
    rfl
  have hown : w.ownsMap Tryz.prog 3 R (ρ k) es.size (.map ((es.toList.map (Go.WideElems.rg Tryz.prog 3 R)).foldr DataW.insert [])) := by
    refine ⟨es, q, g1, ⟨?_, ⟨g2.old.1, g2.old.2, ?_⟩, fun y hy => ?_⟩, Nat.le_refl _, rfl⟩
    · rw [g3]
      have : maxLen = 9223372036854775807 := by decide
      simp only [List.length_map, this]
      omega
    · rw [hkeys]
      have : kv.map (fun p => Value.int .i64 p.1) = (kv.map (·.1)).map (Value.int .i64) := by simp
      rw [this]
      exact (List.pairwise_map.2 (hnd.imp (fun h e => h (by cases e; rfl))))
    · obtain ⟨a, ha, _⟩ := hmem y hy
      exact ⟨_, hrd y hy a ha⟩
  have hik : (intKeys (DataW.map ((es.toList.map (Go.WideElems.rg Tryz.prog 3 R)).foldr DataW.insert []))).Perm (kv.map (·.1)) := by
    show (((es.toList.map (Go.WideElems.rg Tryz.prog 3 R)).foldr DataW.insert []).map fun p => Go.intOf p.1).Perm _
    refine ((Go.WideShapes.sorted_perm _).map _).trans (List.Perm.of_eq ?_)
    rw [List.map_map]
    have h2 : ∀ y ∈ es.toList, ((fun p : Lit × DataW Unit => Go.intOf p.1) ∘ Go.WideElems.rg Tryz.prog 3 R) y = (match y.key with | .int _ a => a | _ => 0) := by
      intro y hy
      obtain ⟨a, ha, _⟩ := hmem y hy
      simp only [Function.comp, Go.WideElems.rg, hrd y hy a ha, Option.getD_some, ha, Go.intOf]
    rw [List.map_congr_left h2]
    have h3 : es.toList.map (fun y => match y.key with | .int _ a => a | _ => (0 : Int)) = (es.toList.map (·.key)).map fun v => match v with | .int _ a => a | _ => (0 : Int) := by simp
    rw [h3, hkeys]
    simp
  have hsize : Go.Maps.size (DataW.map ((es.toList.map (Go.WideElems.rg Tryz.prog 3 R)).foldr DataW.insert [])) = kv.length := by
    rw [Go.Maps.size_eq, (Go.WideShapes.sorted_perm _).length_eq, List.length_map]
    simp [g3]
  have hcell : w.cell? ⟨ρ e, 0, none⟩ = some (.map (some (ρ k))) := by
    simp only [Nat.zero_mul, Nat.zero_add] at hmv
    simp only [World.cell?, c1]
    have : 0 < cs.size := by simp at c2; omega
    simp only [Array.getD_eq_getD_getElem?] at hmv
    rw [Array.getElem?_eq_getElem this] at hmv ⊢
    simpa using hmv
  have hmx : maxLen = 9223372036854775807 := by decide
  refine (Tryz.sorted_c (ρ e) (ρ k) es.size _ R w hob.lt hcell hown (by rw [hsize, hmx]; omega) (by rw [hsize]; omega)).mono ?_
  rintro e' w' ⟨v, ss, rfl, hss, hrow, hnil, hbel⟩
  have hgrew : Grew w w' := ⟨hbel.os, hbel.tape, hbel.output, hbel.size, hbel.block⟩
  have hperm := hss.trans hik
  have hsl : ss.length = kv.length := by rw [hperm.length_eq]; simp
  have hsort : ss.mergeSort (fun x y => decide (x ≤ y)) = sortI (kv.map (·.1)) := sortI_perm hperm
  have hsortl : (sortI (kv.map (·.1))).length = kv.length := by unfold sortI; simp
  rw [hsort] at hrow
  by_cases hemp : kv = []
  · subst hemp
    have : v = .slice none 0 0 := hnil.2 (List.eq_nil_of_length_eq_zero hsl)
    subst this
    obtain ⟨k1, f1⟩ := hf.nilNew (d := d) (ob := ⟨true, false, 1, []⟩) (kill := none) (isFree_iff hd) rfl rfl (by simp)
    obtain ⟨k2, f2⟩ := f1.grew hgrew
    have h0 : sortI (([] : List (Int × C)).map (·.1)) = [] := List.eq_nil_of_length_eq_zero (by simpa using hsortl)
    rw [h0]
    exact ⟨_, ρ, rfl, k1.trans k2, f2, .ownNil (upd_same _ _ _) rfl rfl⟩
  · rcases hrow.2 with ⟨rfl, hz⟩ | ⟨g, cap, cur, rfl, hb, hg, hc1', hc2', hc3', hc4'⟩
    · exact absurd (List.eq_nil_of_length_eq_zero (hsl ▸ hz)) hemp
    · have hke : kv.isEmpty = false := by cases kv <;> simp_all
      rw [hke]
      simp only [Nat.mul_one] at hc3' hc4'
      have hget : ∀ i, i < kv.length → cur.getD i undef = .int .i64 ((sortI (kv.map (·.1))).getD i 0) := by
        intro i hi
        have h5 : cur.toList[i]? = ((sortI (kv.map (·.1))).map encZ)[i]? := by
          rw [← hc4', List.getElem?_take_of_lt (by omega)]
        rw [List.getElem?_map, List.getElem?_eq_getElem (show i < (sortI (kv.map (·.1))).length by omega)] at h5
        simp only [Array.getElem?_toList, Option.map_some] at h5
        simp [Array.getD_eq_getD_getElem?, h5, List.getD_eq_getElem?_getD, List.getElem?_eq_getElem (show i < (sortI (kv.map (·.1))).length by omega)]
      obtain ⟨k1, f1⟩ := hf.adopt hgrew (d := d) (ob := ⟨false, false, 1, (sortI (kv.map (·.1))).map cI⟩) (isFree_iff hd) hb hg rfl Nat.zero_lt_one (by simp; omega) (fun i row hi => by
        simp only [List.getElem?_map, Option.map_eq_some_iff] at hi
        obtain ⟨a, ha, rfl⟩ := hi
        have hi' : i < kv.length := by have := (List.getElem?_eq_some_iff.1 ha).1; omega
        refine ⟨rfl, fun j c hj => ?_⟩
        match j, hj with
        | 0, hj =>
          simp at hj; subst hj
          refine ⟨?_, rfl⟩
          simp only [Nat.mul_one, Nat.add_zero]
          rw [hget i hi', List.getD_eq_getElem?_getD, ha]
          exact .int _ _
        | n + 1, hj => simp at hj)
      refine ⟨_, _, rfl, k1, f1, ?_⟩
      have := CR.ownNew (G := x.Gd (upd ρ d g) (upd σ d (.live ⟨false, false, 1, (sortI (kv.map (·.1))).map cI⟩))) (ρ := ρ) (σ := σ) (d := d) (sz := 1) (n := ss.length) (cap := cap) (em := false) (rows := (sortI (kv.map (·.1))).map cI) (by decide) hg hc1' (by omega)
      rw [hsl] at this ⊢
      exact this

set_option maxHeartbeats 2000000

set_option maxHeartbeats 2000000

-- a map that counts
def bump : List (Int × Int) → Int → List (Int × Int)
 | [], a => [(a, 1)]
 | p :: kv, a => if a = p.1 then (p.1, p.2 + 1) :: kv else p :: bump kv a

def rowsII (kv : List (Int × Int)) : List (List C) := kv.map fun p => [encI p.1, encI p.2]

theorem rowsII_KV (kv : List (Int × Int)) : rowsII kv = rowsKV (kv.map fun p => (p.1, encI p.2)) := by simp [rowsII]

@[simp] theorem rowsII_len (kv : List (Int × Int)) : (rowsII kv).length = kv.length := by simp [rowsII]
@[simp] theorem rowsII_nil : rowsII [] = [] := rfl
@[simp] theorem rowsII_pure (kv : List (Int × Int)) : (rowsII kv).all purel = true := by simp [rowsII, purel, C.isPure]
@[simp] theorem rowsII_wil (K : List Nat) (kv : List (Int × Int)) : (rowsII kv).all (wil K) = true := by simp [rowsII, wil, C.wi]
@[simp] theorem rowsII_cell (kv : List (Int × Int)) : (rowsII kv).all (fun r => r.all C.cell) = true := by simp [rowsII]

theorem find_bump (a : Int) : ∀ (kv : List (Int × Int)) (i : Nat), (∃ j n, findC .int (encI a) (rowsII kv) i = some (some (i + j, encI n)) ∧ (rowsII kv).set j [encI a, encI (n + 1)] = rowsII (bump kv a) ∧ (a, n) ∈ kv) ∨
  (findC .int (encI a) (rowsII kv) i = some none ∧ rowsII kv ++ [[encI a, encI 1]] = rowsII (bump kv a))
 | [], i => .inr ⟨rfl, rfl⟩
 | p :: kv, i => by
  by_cases h : a = p.1
  ·subst h
   exact .inl ⟨0, p.2, by simp [rowsII, findC, sameC], by simp [rowsII, bump], by simp⟩
  ·have hb : (a == p.1) = false := by simpa using h
   have hf : findC .int (encI a) (rowsII (p :: kv)) i = findC .int (encI a) (rowsII kv) (i + 1) := by
    simp [rowsII, findC, sameC, hb]
   rcases find_bump a kv (i + 1) with ⟨j, n, h1, h2, h3⟩ | ⟨h1, h2⟩
   ·refine .inl ⟨j + 1, n, by rw [hf, h1]; congr 3; omega, ?_, by simp [h3]⟩
    have : rowsII (p :: kv) = [encI p.1, encI p.2] :: rowsII kv := rfl
    rw [this, List.set_cons_succ, h2]
    simp [bump, h, rowsII]
   ·refine .inr ⟨by rw [hf, h1], ?_⟩
    have : rowsII (p :: kv) = [encI p.1, encI p.2] :: rowsII kv := rfl
    rw [this, List.cons_append, h2]
    simp [bump, h, rowsII]

theorem bump_keys (a : Int) : ∀ (kv : List (Int × Int)) (b : Int), b ∈ (bump kv a).map (·.1) ↔ b ∈ kv.map (·.1) ∨ b = a
 | [], b => by simp [bump]
 | p :: kv, b => by
  unfold bump
  split
  ·rename_i h; subst h
   simp only [List.map_cons, List.mem_cons]
   constructor
   ·exact fun h => .inl h
   ·rintro (h | h)
    ·exact h
    ·exact .inl h
  ·have ih := bump_keys a kv b
   simp only [List.map_cons, List.mem_cons, ih, or_assoc]

theorem bump_nodup (a : Int) : ∀ (kv : List (Int × Int)), (kv.map (·.1)).Nodup → ((bump kv a).map (·.1)).Nodup
 | [], _ => by simp [bump]
 | p :: kv, h => by
  unfold bump
  split
  ·exact h
  ·rename_i hne
   simp only [List.map_cons, List.nodup_cons] at h ⊢
   refine ⟨fun hm => ?_, bump_nodup a kv h.2⟩
   rcases (bump_keys a kv p.1).1 hm with h1 | h1
   ·exact h.1 h1
   ·exact hne h1.symm

theorem bump_bd (a : Int) {N : Int} : ∀ (kv : List (Int × Int)), (∀ p ∈ kv, 0 ≤ p.2 ∧ p.2 ≤ N) → 0 ≤ N → ∀ p ∈ bump kv a, 0 ≤ p.2 ∧ p.2 ≤ N + 1
 | [], _, hN, p, hp => by
  simp [bump] at hp; subst hp; simp only; omega
 | q :: kv, h, hN, p, hp => by
  unfold bump at hp
  have hq := h q (by simp)
  split at hp
  ·rcases List.mem_cons.1 hp with rfl | hp
   ·simp only; omega
   ·have := h p (by simp [hp]); omega
  ·rcases List.mem_cons.1 hp with rfl | hp
   ·omega
   ·exact bump_bd a kv (fun r hr => h r (by simp [hr])) hN p hp

def kvOf (f : Tr → Int) (L : List Tr) : List (Int × Int) := L.foldl (fun kv t => bump kv (f t)) []

theorem kvOf_step (f : Tr → Int) {L : List Tr} {i : Nat} (hi : i < L.length) : kvOf f (L.take (i + 1)) = bump (kvOf f (L.take i)) (f L[i]) := by
 unfold kvOf
 rw [List.take_succ_eq_append_getElem hi, List.foldl_append]
 rfl

theorem kvOf_app (f : Tr → Int) (L : List Tr) (t : Tr) : kvOf f (L ++ [t]) = bump (kvOf f L) (f t) := by
 unfold kvOf; rw [List.foldl_append]; rfl

theorem list_rev_ind {α : Type} {P : List α → Prop} (h0 : P []) (h1 : ∀ l a, P l → P (l ++ [a])) : ∀ l, P l := by
 intro l
 have : ∀ n, ∀ l : List α, l.length = n → P l := by
  intro n
  induction n with
  | zero => intro l hl; rw [List.eq_nil_of_length_eq_zero hl]; exact h0
  | succ n ih =>
   intro l hl
   have hne : l ≠ [] := by rintro rfl; simp at hl
   rw [← List.dropLast_concat_getLast hne]
   exact h1 _ _ (ih _ (by simp [hl]))
 exact this _ l rfl

theorem kvOf_facts (f : Tr → Int) (L : List Tr) : (∀ b, b ∈ (kvOf f L).map (·.1) ↔ ∃ t ∈ L, f t = b) ∧ ((kvOf f L).map (·.1)).Nodup ∧ ∀ p ∈ kvOf f L, 0 ≤ p.2 ∧ p.2 ≤ L.length := by
 induction L using list_rev_ind with
 | h0 => simp [kvOf]
 | h1 L t ih =>
  obtain ⟨h1, h2, h3⟩ := ih
  rw [kvOf_app]
  refine ⟨fun b => ?_, bump_nodup _ _ h2, fun p hp => ?_⟩
  ·rw [bump_keys, h1]
   constructor
   ·rintro (⟨t', ht, e⟩ | rfl)
    ·exact ⟨t', by simp [ht], e⟩
    ·exact ⟨t, by simp, rfl⟩
   ·rintro ⟨t', ht, e⟩
    rcases List.mem_append.1 ht with ht | ht
    ·exact .inl ⟨t', ht, e⟩
    ·simp at ht; subst ht; exact .inr e.symm
  ·have := bump_bd (f t) _ h3 (Int.natCast_nonneg _) p hp
   simpa using this

/-- The distinct numbers that truths have, ascending. -/
def kindsL (f : Tr → Int) (L : List Tr) : List Int := sortI ((kvOf f L).map (·.1))

theorem kindsL_len (f : Tr → Int) (L : List Tr) : (kindsL f L).length = (kvOf f L).length := by simp [kindsL, sortI]
theorem kindsL_mem (f : Tr → Int) (L : List Tr) (b : Int) : b ∈ kindsL f L ↔ ∃ t ∈ L, f t = b := by
 rw [← (kvOf_facts f L).1 b]; unfold kindsL sortI; exact (List.mergeSort_perm _ _).mem_iff
theorem kindsL_nodup (f : Tr → Int) (L : List Tr) : (kindsL f L).Nodup := (List.mergeSort_perm _ _).nodup_iff.2 (kvOf_facts f L).2.1
theorem kindsL_sorted (f : Tr → Int) (L : List Tr) : (kindsL f L).Pairwise (· ≤ ·) := by
 have tr : ∀ a b c : Int, decide (a ≤ b) = true → decide (b ≤ c) = true → decide (a ≤ c) = true := by intro a b c; simp; omega
 have to : ∀ a b : Int, (decide (a ≤ b) || decide (b ≤ a)) = true := by intro a b; simp; omega
 exact (List.pairwise_mergeSort tr to _).imp (by simp)
theorem kindsL_empty (f : Tr → Int) (L : List Tr) : (kindsL f L).isEmpty = (kvOf f L).isEmpty := by
 have := kindsL_len f L
 cases h : kindsL f L <;> cases h2 : kvOf f L <;> simp_all

theorem area59 (t : Tr) : Pure Tryz.prog 70 [encTr t] (encI t.area) := by
 refine ZF (fn := Tryz.f70) [.tmp 2] ⟨Tryz.func70, rfl, by kernel_rfl⟩ fun x hx hσ => ?_
 (repeat refine ZQ ?_); refine ZR fun K hK => ?_; simp (maxSteps := 1000000) [ty133]; refine hK _ ?_; clear hK K
 (repeat refine ZQ ?_); refine ZR fun K hK => ?_; simp (maxSteps := 1000000) [ty133, ty3]; refine hK _ ?_; clear hK K
 (repeat refine ZQ ?_); refine awp_ret ?_; refine And.intro (Or.inr rfl) ?_
 simp [retC, resC, viewC, mapO]
theorem skew70 (t : Tr) : Pure Tryz.prog 101 [encTr t] (encI t.skew) := by
 refine ZF (fn := Tryz.f101) [.tmp 2] ⟨Tryz.func101, rfl, by kernel_rfl⟩ fun x hx hσ => ?_
 (repeat refine ZQ ?_); refine ZR fun K hK => ?_; simp (maxSteps := 1000000) [ty133]; refine hK _ ?_; clear hK K
 (repeat refine ZQ ?_); refine ZR fun K hK => ?_; simp (maxSteps := 1000000) [ty133, ty3]; refine hK _ ?_; clear hK K
 (repeat refine ZQ ?_); refine awp_ret ?_; refine And.intro (Or.inr rfl) ?_
 simp [retC, resC, viewC, mapO]

end Go.Proofs.YtbelmomdndjjkaaGreat

/- A scope that no jump leads back into. No condition. -/
namespace Go
section
variable {F : Fence} {n : Nat} {P : Program} {Q : Exit → Act → World → Prop} {a : Act} {w : World}

/-- As Q; no jump. -/
def Exit.noJump (Q : Exit → Act → World → Prop) : Exit → Act → World → Prop
  | .goto _, _, _ => False
  | e, a, w => Q e a w

theorem stepR_scope {b : Frame} {a : Act} {k : List Item} {cs : List Frame} {w : World} {c : Code} : step P (lone (b.atR a (.code (.scope c) :: k)) cs w) = .next (lone (b.atR a (.code c :: .inScope c :: k)) cs w) :=
 step_lone_go (by simp [stepG, stepG.exec, Frame.atR])
theorem stepR_inScope {b : Frame} {a : Act} {k : List Item} {cs : List Frame} {w : World} {c : Code} : step P (lone (b.atR a (.inScope c :: k)) cs w) = .next (lone (b.atR a k) cs w) :=
 step_lone_go (by simp [stepG, stepG.exec, Frame.atR])

theorem wpIn_scope_straight {c : Code} (h : c.wpIn F n P (Exit.noJump Q) a w) : (Code.scope c).wpIn F n P Q a w := by
 intro b k cs hro hb hr
 have h0 : (lone (b.atR a (.code (.scope c) :: k)) cs w).fenced P F := fenced_calm hb hr rfl
 obtain ⟨e, a₁, w₁, hq, harr⟩ := h b (.inScope c :: k) cs hro hb hr
 cases e with
 | normal => exact ⟨.normal, a₁, w₁, hq, .head h0 stepR_scope (StepsIn.trans harr (.one (fenced_calm hb hr rfl) stepR_inScope))⟩
 | exit id =>
  have hx : exitTo id (.inScope c :: k) = exitTo id k := by simp [exitTo]
  exact ⟨_, a₁, w₁, hq, fun k' hk => .head h0 stepR_scope (harr.1 k' (by rw [hx]; exact hk)),
   fun hr' hk => let ⟨k₁, h1, h2⟩ := harr.2 hr' (by rw [hx]; exact hk); ⟨k₁, h1, .head h0 stepR_scope h2⟩⟩
 | goto l => exact hq.elim
 | ret => exact ⟨_, a₁, w₁, hq, .of_steps (.one h0 stepR_scope) harr⟩
 | panic ch => exact ⟨_, a₁, w₁, hq, .of_steps (.one h0 stepR_scope) harr⟩
 | outgrown => exact ⟨_, a₁, w₁, hq, .of_steps (.one h0 stepR_scope) harr⟩
end
end Go
namespace Go.Abs
section
variable {P : Program} {x : Ctx}

def noJumpQ (Q : Exit → AS → Prop) : Exit → AS → Prop
 | .goto _, _ => False
 | e, s => Q e s

theorem awp_scope {c : Code} {s : AS} {Q : Exit → AS → Prop} (h : AWP P x c s (noJumpQ Q)) : AWP P x (.scope c) s Q := by
 intro hY ρ a w hs
 refine Go.wpIn_scope_straight (wpIn_mono (h hY ρ a w hs) ?_)
 rintro e a' w' ⟨ρ', s', h1, h2⟩
 cases e with
 | goto l => exact h2
 | _ => exact ⟨ρ', s', h1, h2⟩
end
end Go.Abs

/- Families of objects by number, and a range over a function with them. No condition. -/
namespace Go.Abs
section
variable {P : Program} {x : Ctx}

theorem fk_ex : ∃ f : Nat → Nat, ∀ e, f e = e + 3000000 := ⟨fun e => e + 3000000, fun _ => rfl⟩
/-- The key of object e of the family. -/
noncomputable def fk : Nat → Nat := Classical.choose fk_ex
theorem fk_eq (e : Nat) : fk e = e + 3000000 := Classical.choose_spec fk_ex e
@[simp] theorem fk_inj (e d : Nat) : (fk e = fk d) = (e = d) := by
 rw [fk_eq, fk_eq]; exact propext ⟨fun h => by omega, fun h => by rw [h]⟩
@[simp] theorem fk_ne {e n : Nat} (h : n < 3000000) : (fk e = n) = False := eq_false (by rw [fk_eq]; omega)
@[simp] theorem ne_fk {e n : Nat} (h : n < 3000000) : (n = fk e) = False := eq_false (by rw [fk_eq]; omega)

/-- A store: a list, and N slots from 3000000 on. -/
def famS (T : List (Nat × Nat × Slot)) (N : Nat) (M : Nat → Slot) : Nat → Slot := fun k => if 3000000 ≤ k ∧ k < N + 3000000 then M (k - 3000000) else stoT T k

theorem famS_apply (T : List (Nat × Nat × Slot)) (N : Nat) (M : Nat → Slot) (k : Nat) : famS T N M k = if 3000000 ≤ k ∧ k < N + 3000000 then M (k - 3000000) else stoT T k := rfl

@[simp] theorem famS_fk (T : List (Nat × Nat × Slot)) (N : Nat) (M : Nat → Slot) (e : Nat) : famS T N M (fk e) = if e < N then M e else stoT T (fk e) := by
 rw [famS_apply]
 have h1 : fk e - 3000000 = e := by rw [fk_eq]; omega
 by_cases h : e < N
 ·rw [if_pos h, if_pos (by rw [fk_eq]; omega), h1]
 ·rw [if_neg h, if_neg (by rw [fk_eq]; omega)]
@[simp] theorem famS_lo (T : List (Nat × Nat × Slot)) (N : Nat) (M : Nat → Slot) {k : Nat} (h : k < 3000000) : famS T N M k = stoT T k := by
 rw [famS_apply, if_neg (by omega)]

theorem famS_rfam {L : Nat} (hL : L < 3000000) (T : List (Nat × Nat × Slot)) (N : Nat) (M : Nat → Slot) (i : Nat) (fam : Nat → Nat → Slot) (h : fam i = famS T N M) : rfam L fam i = famS ((L, L, .gh) :: T) N M := by
 funext k
 unfold rfam
 rw [h]
 by_cases e : k = L
 ·subst e
  have : ¬ (3000000 ≤ k ∧ k < N + 3000000) := by omega
  simp [famS_apply, this, stoT]
 ·rw [if_neg e]
  simp [famS_apply, stoT, upd, e]

/-- New keys and old ones. -/
def mF (T : List (Nat × Nat × Slot)) (N : Nat) (old : Nat → Nat) : Nat → Nat → Prop := fun a b => mT T a b ∨ ∃ e, e < N ∧ a = fk e ∧ b = old e

/-- A SHAPE WITH A FAMILY. -/
theorem wk_fam {s : AS} {E : List (Nat × C)} {T : List (Nat × Nat × Slot)} {N : Nat} {M : Nat → Slot} (old : Nat → Nat) (hT : ∀ p ∈ T, p.1 < 3000000 ∧ p.2.1 < 3000000) (n1 : (T.map (·.1)).Nodup) (n2 : (T.map (·.2.1)).Nodup)
    (ho : ∀ e, e < N → old e = fk e ∨ (old e < 3000000 ∧ old e ∉ T.map (·.2.1) ∧ ∀ e', e' < N → old e' = old e → e' = e))
    (hm : ∀ e, e < N → SlotOk (mF T N old) (s.sto (old e)) (M e)) (ok : ∀ p ∈ T, SlotOk (mF T N old) (s.sto p.2.1) p.2.2) (hE : ∀ p ∈ E, mtc (mF T N old) (s.env p.1) p.2)
    (hx : ∀ k, x.σ k ≠ .free → (x.σ k ≠ .gh ∨ ∃ p ∈ x.lp, p.2.2.1 = k) → mF T N old k k) : Wk x s ⟨ofL E, famS T N M⟩ := by
  have mTlt : ∀ {a b}, mT T a b → a < 3000000 ∧ b < 3000000 := by
    intro a b h
    obtain ⟨q, hq⟩ := mem_mT.1 h
    exact hT _ hq
  have mTin : ∀ {a b}, mT T a b → b ∈ T.map (·.2.1) := by
    intro a b h
    obtain ⟨q, hq⟩ := mem_mT.1 h
    exact List.mem_map.2 ⟨_, hq, rfl⟩
  have ov : ∀ e, e < N → ∀ b, mT T b (old e) → False := by
    intro e he b hb
    rcases ho e he with h | ⟨h1, h2, _⟩
    · have := (mTlt hb).2; rw [h, fk_eq] at this; omega
    · exact h2 (mTin hb)
  refine wk_shpG (m := mF T N old) (old := fun a => if 3000000 ≤ a then old (a - 3000000) else oldT T a) ⟨fun a b h => ?_, fun a b k ha hb => ?_, fun a b h => ?_, fun a ha => ?_, hx⟩ hE
  · rcases h with h | ⟨e, he, rfl, rfl⟩
    · have := (mTlt h).1
      rw [if_neg (by omega)]
      obtain ⟨q, hq⟩ := mem_mT.1 h
      exact oldT_mem n1 hq
    · have h1 : fk e - 3000000 = e := by rw [fk_eq]; omega
      rw [if_pos (by rw [fk_eq]; omega), h1]
  · rcases ha with ha | ⟨e, he, rfl, rfl⟩ <;> rcases hb with hb | ⟨e', he', rfl, hb⟩
    · obtain ⟨q, hq⟩ := mem_mT.1 ha
      obtain ⟨q', hq'⟩ := mem_mT.1 hb
      exact (Prod.mk.inj (nodup_snd n2 hq hq' rfl)).1
    · subst hb; exact (ov e' he' _ ha).elim
    · exact (ov e he _ hb).elim
    · have : e = e' := by
        rcases ho e he with h | ⟨h1, h2, h3⟩
        · rcases ho e' he' with g | ⟨g1, g2, g3⟩
          · rw [h, g, fk_inj] at hb; exact hb
          · rw [h, fk_eq] at hb; omega
        · exact (h3 e' he' hb.symm).symm
      rw [this]
  · rcases h with h | ⟨e, he, rfl, rfl⟩
    · have hlt := (mTlt h).1
      obtain ⟨q, hq⟩ := mem_mT.1 h
      have h1 := ok _ hq
      have h2 := stoT_mem n1 hq
      simp only at h1 h2
      have : ¬ (3000000 ≤ a ∧ a < N + 3000000) := by omega
      simp only [famS_apply, if_neg this]
      rw [h2]; exact h1
    · have := hm e he
      rw [famS_fk, if_pos he]
      exact this
  · simp only [famS_apply] at ha
    split at ha
    · rename_i hk
      exact ⟨old (a - 3000000), .inr ⟨a - 3000000, by omega, by rw [fk_eq]; omega, rfl⟩⟩
    · obtain ⟨p, hp, rfl, hs⟩ := stoT_some ha
      exact ⟨p.2.1, .inl (mem_mT.2 ⟨p.2.2, hp⟩)⟩

/-- Slots that say nothing. -/
theorem wk_gh {env : Nat → C} {σ σ' : Nat → Slot} (h : ∀ k, σ' k = σ k ∨ (σ k = .free ∧ σ' k = .gh)) : Wk x ⟨env, σ⟩ ⟨env, σ'⟩ := by
  intro ρ a w hs
  have hf1 := hs.toFrm
  have hlv : ∀ k o, σ' k = .live o ↔ σ k = .live o := by
    intro k o
    rcases h k with e | ⟨e1, e2⟩
    · rw [e]
    · rw [e1, e2]; simp
  have hown : ∀ b, Owned ρ σ' b ↔ Owned ρ σ b := by
    intro b
    constructor
    · rintro ⟨k, o, e1, e2, e3⟩; exact ⟨k, o, (hlv k o).1 e1, e2, e3⟩
    · rintro ⟨k, o, e1, e2, e3⟩; exact ⟨k, o, (hlv k o).2 e1, e2, e3⟩
  have hK0 : Keeps (x.Gd ρ σ) (x.Gd ρ σ') ρ ρ σ σ' w w := by
    refine .of (fun D hD => hD) ⟨fun b hb hlt => ⟨⟨hb.1, fun ho => hb.2 ((hown b).1 ho)⟩, hlt, .inl rfl⟩, fun k hk => ?_, fun k o hk => .inr ⟨o, (hlv k o).2 hk, rfl, rfl, rfl, fun hn => ⟨rfl, fun cs el fz hc => ⟨_, _, _, hc, Nat.le_refl _⟩⟩⟩⟩
    rcases h k with e | ⟨e1, e2⟩
    · rw [e]; exact hk
    · rw [e1] at hk; cases hk
  have hf2 : Frm x ρ σ' w := by
    refine ⟨⟨fun k o hk hn => (hf1.sto.ob k o ((hlv k o).1 hk) hn).keeps hK0.toKeeps0 rfl, fun k o hk hn => hf1.sto.nil k o ((hlv k o).1 hk) hn, fun k k' o o' hk hk' hn hn' he => hf1.sto.inj k k' o o' ((hlv k o).1 hk) ((hlv k' o').1 hk') hn hn' he⟩,
      fun b hb => hf1.own b ((hown b).1 hb), hf1.frame, ⟨hf1.rcd.loop, fun p hp => ?_, hf1.rcd.itr⟩, hf1.size, hf1.os, hf1.tape, hf1.output, hf1.hist.trans hK0.toKeeps0⟩
    obtain ⟨q1, q2, q3⟩ := hf1.rcd.rdy p hp
    refine ⟨q1, q2, ?_⟩
    rcases h p.2.2.1 with e | ⟨e1, e2⟩
    · rw [e]; exact q3
    · rcases q3 with ⟨q3, _⟩ | ⟨q3, _⟩ <;> exact absurd (e1.symm.trans q3) (by simp)
  exact ⟨ρ, { hf2 with nt := hs.nt, defers := hs.defers, inr := hs.inr, env := fun t ht => (hs.env t ht).keeps hK0 }⟩

theorem wk_famGh {env : Nat → C} {T : List (Nat × Nat × Slot)} (hT : ∀ p ∈ T, p.1 < 3000000) (N : Nat) : Wk x ⟨env, stoT T⟩ ⟨env, famS T N fun _ => .gh⟩ := by
 refine wk_gh fun k => ?_
 by_cases h : 3000000 ≤ k ∧ k < N + 3000000
 ·refine .inr ⟨?_, by simp [famS_apply, h]⟩
  refine Classical.byContradiction fun hf => ?_
  obtain ⟨p, hp, rfl, _⟩ := stoT_some hf
  have := hT p hp
  omega
 ·exact .inl (by simp [famS_apply, h])

/-- In a round of a loop. -/
structure RndS (L : Nat) (fam : Nat → Nat → Slot) (i : Nat) (y : Ctx) : Prop where
  σ : y.σ = rfam L fam i
  lp : ∀ p ∈ y.lp, p.2.2.1 = L

/-- A RANGE OVER A FUNCTION, in a function that began without objects, any family. -/
theorem awp_rangeG {t : Nat} {ps : Array Tmp} {assign body : Code} {Q : Exit → AS → Prop} (L : Nat) (K : List Nat) (fam : Nat → Nat → Slot) (items : List (List C)) (stop : Nat) (jc : Code) (E0 El : List (Nat × C)) {gf : FuncId} {first caps : List C}
    {s : AS} (hw0 : Wk x s ⟨ofL E0, fam 0⟩) (hx : x.σ = freeS) (hfam : FamOk L K fam) (hg : ofL E0 t = .fn (.func gf) first caps) (hgt : t < x.nt) (hpu : purel first = true ∧ purel caps = true) (hit : ItC P L gf first caps items) (hstop : stop ≤ items.length)
    (hE0 : ∀ p ∈ E0, p.2.wi K = true) (hE : ∀ p ∈ El, p.2.wi K = true ∧ ofL E0 p.1 = p.2) (hps : ∀ args ∈ items, purel args = true ∧ args.length = ps.size)
    (hround : ∀ i args, items[i]? = some args → i ≤ stop → ∀ (y y2 : Ctx), y.nt = x.nt → y2.nt = x.nt → RndS L fam i y → RndS L fam i y2 →
      AWP P y assign ⟨putPs (ofL El) ps.toList args, rfam L fam i⟩ (nextQ (fun s' => s'.sto L = .gh ∧ AWP P y2 body s' fun e s'' => (if i = stop then jumpOf e = some jc else e = .normal) ∧ Wk y2 s'' ⟨fun _ => .any, rfam L fam (i + 1)⟩) fun _ _ => False))
    (hdone : stop = items.length → ∀ s', Wk x s' ⟨ofL E0, fam items.length⟩ → Q .normal s')
    (hjump : stop < items.length → AWP P x jc ⟨ofL E0, fam (stop + 1)⟩ Q) : AWP P x (.rangeFunc (.tmp t) ps assign body) s Q := by
  have hLK : L ∉ K := fun h => Nat.lt_irrefl _ (hfam.lt L h)
  have hend : ∀ n, Wk x ⟨ofL E0, ovS (L :: K) (fam 0) (stg L fam stop n)⟩ ⟨ofL E0, fam n⟩ := by
    intro n
    have hov : ∀ k ∈ K, ovS (L :: K) (fam 0) (stg L fam stop n) k = fam n k := by
      intro k hk
      have hne : k ≠ L := fun e => hLK (e ▸ hk)
      rw [ovS_in (by simp [hk])]
      simp only [stg, if_neg hne]
    have hsh : ShpG x (ovS (L :: K) (fam 0) (stg L fam stop n)) (fam n) (fun a b => a = b ∧ a ∈ K) id := by
      refine ⟨fun a b h => h.1, fun a b k h1 h2 => h1.1.trans h2.1.symm, ?_, fun a ha => ⟨a, rfl, Classical.byContradiction fun h => ha (hfam.out n a h)⟩, fun k hk => absurd (by rw [hx]; rfl) hk⟩
      rintro a b ⟨rfl, ha⟩
      rw [hov a ha]
      cases h : fam n a with
      | free => exact (hfam.st n a ha h).elim
      | dead => exact trivial
      | gh => rfl
      | live o => exact ⟨rfl, rfl, rfl, rows_self (ks := K) (fun k hk => ⟨rfl, hk⟩) _ (hfam.wi n a o h) (hfam.ce n a o h)⟩
    exact wk_shpE hsh fun t => mt_self (ks := K) (fun k hk => ⟨rfl, hk⟩) _ (ofL_wi hE0 t)
  refine AWP.weak ?_ hw0
  intro hY ρ a w hs
  have hlp0 : ∀ p ∈ x.lp, False := by
    intro p hp
    have := (hs.toFrm.rcd.rdy p hp).2.1
    rw [hx] at this
    exact this rfl
  refine awp_range (x := x) (g := .tmp t) (s := ⟨ofL E0, fam 0⟩) L K fam items stop jc (ofL El) hg (fun t' ht => by cases ht; exact hgt) hpu hit hstop hfam (hfam.out 0 L hLK) (fun k hk => rfl) (ofL_E hE) hps (fun k hk => absurd (by rw [hx]; rfl) hk) ?_ (fun e => hdone e _ (hend _)) (fun e => AWP.weak (hjump e) (hend _)) hY ρ a w hs
  intro i args hit' hi l y y2 hy hy2
  have mk : ∀ {z : Ctx}, RndX z x.nt l L (rfam L fam i) x.Y x.ex x.lp → RndS L fam i z := by
    intro z hz
    refine ⟨hz.σ, fun p hp => ?_⟩
    obtain ⟨o, o', e⟩ := hz.lp
    rw [e] at hp
    rcases List.mem_cons.1 hp with rfl | hp
    · rfl
    · exact (hlp0 p hp).elim
  refine AWP.mono (hround i args hit' hi y y2 hy.nt hy2.nt (mk hy) (mk hy2)) ?_
  intro e s' he
  cases e with
  | normal => exact ⟨he.1, AWP.mono he.2 fun e' s'' h => h⟩
  | _ => exact he

/-- A family of the store's shape. -/
theorem famOkS {L : Nat} {K : List Nat} {N : Nat} {T : Nat → List (Nat × Nat × Slot)} {M : Nat → Nat → Slot} (hL : L < 3000000) (hK : ∀ k ∈ K, L < k ∧ k < 3000000) (nd : K.Nodup) (hT : ∀ i, (T i).map (·.1) = K)
    (hst : ∀ i, ∀ p ∈ T i, ∃ o, p.2.2 = .live o ∧ o.rows.all (wil (K ++ (List.range N).map fk)) = true ∧ o.rows.all (fun r => r.all C.cell) = true)
    (hM : ∀ i e, e < N → M i e ≠ .free ∧ ∀ o, M i e = .live o → o.rows.all (wil (K ++ (List.range N).map fk)) = true ∧ o.rows.all (fun r => r.all C.cell) = true) :
    FamOk L (K ++ (List.range N).map fk) fun i => famS (T i) N (M i) := by
  have memM : ∀ {k}, k ∈ (List.range N).map fk ↔ 3000000 ≤ k ∧ k < N + 3000000 := by
    intro k
    simp only [List.mem_map, List.mem_range]
    constructor
    · rintro ⟨a, h, rfl⟩; rw [fk_eq]; omega
    · rintro ⟨h1, h2⟩; exact ⟨k - 3000000, by omega, by rw [fk_eq]; omega⟩
  have key : ∀ i k o, famS (T i) N (M i) k = .live o → o.rows.all (wil (K ++ (List.range N).map fk)) = true ∧ o.rows.all (fun r => r.all C.cell) = true := by
    intro i k o h
    simp only [famS_apply] at h
    split at h
    · rename_i hk
      exact (hM i (k - 3000000) (by omega)).2 o h
    · obtain ⟨p, hp, rfl, e⟩ := stoT_some (by rw [h]; simp)
      obtain ⟨o', h1, h2⟩ := hst i p hp
      rw [e, h1] at h
      cases h
      exact h2
  refine ⟨fun k hk => ?_, ?_, fun i k hk => ?_, fun i k hk => ?_, fun i k o h => (key i k o h).1, fun i k o h => (key i k o h).2⟩
  · rcases List.mem_append.1 hk with hk | hk
    · exact (hK k hk).1
    · have := memM.1 hk; omega
  · refine List.nodup_append.2 ⟨nd, ?_, fun a ha b hb e => ?_⟩
    · exact List.pairwise_map.2 (List.nodup_range.imp fun h e => h (by simpa using e))
    · subst e
      have := (hK a ha).2
      have := memM.1 hb
      omega
  · simp only [List.mem_append, not_or] at hk
    have h1 : ¬ (3000000 ≤ k ∧ k < N + 3000000) := fun h => hk.2 (memM.2 h)
    simp only [famS_apply, if_neg h1]
    refine Classical.byContradiction fun hf => ?_
    obtain ⟨p, hp, rfl, _⟩ := stoT_some hf
    exact hk.1 (by rw [← hT i]; exact List.mem_map.2 ⟨p, hp, rfl⟩)
  · rcases List.mem_append.1 hk with hk | hk
    · have h1 : ¬ (3000000 ≤ k ∧ k < N + 3000000) := by have := (hK k hk).2; omega
      simp only [famS_apply, if_neg h1]
      rw [← hT i] at hk
      obtain ⟨p, hp, rfl⟩ := List.mem_map.1 hk
      rw [stoT_mem (by rw [hT i]; exact nd) hp]
      obtain ⟨o, h2, _⟩ := hst i p hp
      rw [h2]; simp
    · have h1 := memM.1 hk
      simp only [famS_apply, if_pos h1]
      exact (hM i _ (by omega)).1

/-- A shape with a family, in a round. -/
theorem wk_famR {y : Ctx} {L i : Nat} {fam : Nat → Nat → Slot} {T0 : List (Nat × Nat × Slot)} {M0 : Nat → Slot} {s : AS} {E : List (Nat × C)} {T : List (Nat × Nat × Slot)} {N : Nat} {M : Nat → Slot} (old : Nat → Nat) (hy : RndS L fam i y) (h0 : rfam L fam i = famS T0 N M0)
    (hT0 : ∀ k ∈ T0.map (·.1), mT T k k) (hLT : L ∈ T0.map (·.1)) (hM0 : ∀ e, e < N → M0 e ≠ .gh → old e = fk e)
    (hT : ∀ p ∈ T, p.1 < 3000000 ∧ p.2.1 < 3000000) (n1 : (T.map (·.1)).Nodup) (n2 : (T.map (·.2.1)).Nodup)
    (ho : ∀ e, e < N → old e = fk e ∨ (old e < 3000000 ∧ old e ∉ T.map (·.2.1) ∧ ∀ e', e' < N → old e' = old e → e' = e))
    (hm : ∀ e, e < N → SlotOk (mF T N old) (s.sto (old e)) (M e)) (ok : ∀ p ∈ T, SlotOk (mF T N old) (s.sto p.2.1) p.2.2) (hE : ∀ p ∈ E, mtc (mF T N old) (s.env p.1) p.2) : Wk y s ⟨ofL E, famS T N M⟩ := by
  refine wk_fam old hT n1 n2 ho hm ok hE fun k hk hk2 => ?_
  rcases hk2 with hk2 | ⟨p, hp, rfl⟩
  · rw [hy.σ, h0] at hk hk2
    simp only [famS_apply] at hk hk2
    split at hk
    · rename_i h1
      rw [if_pos h1] at hk2
      exact .inr ⟨k - 3000000, by omega, by rw [fk_eq]; omega, by rw [hM0 _ (by omega) hk2, fk_eq]; omega⟩
    · obtain ⟨q, hq, rfl, _⟩ := stoT_some hk
      exact .inl (hT0 _ (List.mem_map.2 ⟨q, hq, rfl⟩))
  · rw [hy.lp p hp]
    exact .inl (hT0 _ hLT)

end
end Go.Abs

/- A slice of an array that is an object: the array becomes an object of its elements. No condition. -/
namespace Go.Abs
section
variable {P : Program} {x : Ctx} {ρ : Nat → Nat} {σ : Nat → Slot} {w : World}

end
end Go.Abs

/- An object becomes data for good. No condition. -/
namespace Go.Abs
section
variable {x : Ctx}

/-- A slot's object becomes data. -/
theorem wk_frz {env : Nat → C} {σ : Nat → Slot} (t k : Nat) {c : C} {o : Ob} (hk : σ k = .live o) (hp : o.rows.all purel = true) (hc : FzC k o (env t) c) : Wk x ⟨env, σ⟩ ⟨upd env t c, upd σ k .dead⟩ := by
  intro ρ a w hs
  obtain ⟨hK, hF, hmap⟩ := hs.toFrm.freeze hk hp
  have h2 := hs.change hK hF
  refine ⟨ρ, { hF with nt := hs.nt, defers := h2.defers, inr := hs.inr, env := fun q hq => ?_ }⟩
  by_cases e : q = t
  · subst e
    simp only [upd_same]
    exact hmap _ _ _ hc (hs.env q hq)
  · simp only [upd_ne _ _ e]
    exact h2.env q hq

end
end Go.Abs

/- An iterator over a map that is data, in a block that no object lies in. No condition. -/
namespace Go.Abs
open Go.ChangeMaps (setBlock)
section
variable {P : Program} {x : Ctx}

/-- A context in which an iterator stands still. -/
abbrev itX (x : Ctx) (b : Nat) (o : Obj) : Ctx := { x with its := (b, o) :: x.its }

theorem sim_it {ρ : Nat → Nat} {s : AS} {a : Act} {w : World} {b : Nat} {o : Obj} (h : Sim x ρ s a w) (ho : ∃ m s a c, o = .mapIter m s a c) (hb : w.heap[b]? = some o) : Sim (itX x b o) ρ s a w where
 sto := h.sto
 own := h.own
 frame := h.frame
 rcd := ⟨h.rcd.loop, h.rcd.rdy, fun p hp => by
  rcases List.mem_cons.1 hp with rfl | hp
  ·exact ⟨ho, hb⟩
  ·exact h.rcd.itr p hp⟩
 size := h.size
 os := h.os
 tape := h.tape
 output := h.output
 hist := h.hist
 nt := h.nt
 defers := h.defers
 inr := h.inr
 env := h.env

theorem sim_un {ρ : Nat → Nat} {s : AS} {a : Act} {w : World} {b : Nat} {o : Obj} (h : Sim (itX x b o) ρ s a w) : Sim x ρ s a w ∧ w.heap[b]? = some o := by
 refine ⟨{ sto := h.sto, own := h.own, frame := h.frame, rcd := ⟨h.rcd.loop, h.rcd.rdy, fun p hp => h.rcd.itr p (List.mem_cons_of_mem _ hp)⟩, size := h.size, os := h.os, tape := h.tape, output := h.output, hist := h.hist, nt := h.nt, defers := h.defers, inr := h.inr, env := h.env }, ?_⟩
 exact (h.rcd.itr (b, o) (by simp)).2

theorem yok_it {b : Nat} {o : Obj} (h : YOk P x) : YOk P (itX x b o) := h

/-- The iterator goes on. -/
theorem sim_step {ρ : Nat → Nat} {s : AS} {a : Act} {w : World} {b : Nat} {m m' : Option Nat} {si si' : Nat} {se se' : Array Nat} {ci ci' : Nat} (h : Sim x ρ s a w) (hb : w.heap[b]? = some (.mapIter m si se ci)) (hx : x.w.heap.size ≤ b) (hi : ∀ p ∈ x.its, p.1 ≠ b) :
    Sim x ρ s a (setBlock w b (.mapIter m' si' se' ci')) := by
  have hs := MapKept.heap_set (o' := .mapIter m' si' se' ci') hb
  have hne : ∀ k o, s.sto k = .live o → o.nl = false → ρ k ≠ b := by
    intro k o hk hn e
    have := (h.sto.ob k o hk hn).noOdd (by rw [e]; exact hb)
    cases this
  have hold : ∀ q, q ≠ b → (setBlock w b (.mapIter m' si' se' ci')).heap[q]? = w.heap[q]? := hs.2
  have hsz : (setBlock w b (.mapIter m' si' se' ci')).heap.size = w.heap.size := by simp [setBlock]
  have hK0 : Keeps0 (x.Gd ρ s.sto) (x.Gd ρ s.sto) ρ ρ s.sto s.sto w (setBlock w b (.mapIter m' si' se' ci')) := by
    refine ⟨fun q hq hlt => ⟨hq, by rw [hsz]; exact hlt, ?_⟩, fun k hk => hk, fun k o hk => .inr ⟨o, hk, rfl, rfl, rfl, fun hn => ⟨rfl, fun cs el fz hc => ?_⟩⟩⟩
    · by_cases e : q = b
      · subst e; exact .inr ⟨_, _, hb, hs.1, rfl, rfl⟩
      · exact .inl (hold q e)
    · rw [hold _ (hne k o hk hn)] at hc
      exact ⟨_, _, _, hc, Nat.le_refl _⟩
  have hK : Keeps (x.Gd ρ s.sto) (x.Gd ρ s.sto) ρ ρ s.sto s.sto w (setBlock w b (.mapIter m' si' se' ci')) := .of (fun D hD => by
    have e : D ≠ b := by intro e; rw [e, hb] at hD; cases hD
    rw [hold D e]; exact hD) hK0
  have hlo : ∀ (q : Nat) (r : Loop), w.heap[q]? = some (.loop r) → (setBlock w b (.mapIter m' si' se' ci')).heap[q]? = some (.loop r) := by
    intro q r hq
    have e : q ≠ b := by intro e; rw [e, hb] at hq; cases hq
    rw [hold q e]; exact hq
  refine h.change hK ⟨⟨fun k o hk hn => (h.sto.ob k o hk hn).keeps hK0 (hold _ (hne k o hk hn)), h.sto.nil, h.sto.inj⟩, h.own, fun q hq hnq hex => ?_, ⟨fun q hq => ⟨(h.rcd.loop q hq).1, ?_⟩, fun p hp => ?_, fun p hp => ?_⟩, by rw [hsz]; exact h.size, h.os, h.tape, h.output, h.hist.trans hK0⟩
  · rw [hold q (by omega)]
    exact h.frame q hq hnq hex
  · obtain ⟨r, hr⟩ := (h.rcd.loop q hq).2
    exact ⟨r, hlo q r hr⟩
  · obtain ⟨h1, h2, h3⟩ := h.rcd.rdy p hp
    obtain ⟨r, hr⟩ := (h.rcd.loop p.1 h1).2
    have e : p.1 ≠ b := by intro e; rw [e, hb] at hr; cases hr
    refine ⟨h1, h2, ?_⟩
    rw [hold p.1 e]; exact h3
  · obtain ⟨h1, h2⟩ := h.rcd.itr p hp
    refine ⟨h1, ?_⟩
    rw [hold p.1 (hi p hp)]; exact h2

/-- What the walk of a list leaves to the rest of its region. -/
theorem evalL_tail {ops : Array Oper} (hY : YOk P x) {Q : Exit → Act → World → Prop} {K : AS → Prop} (hnt : ops.all (inNt x.nt) = true) (r : List Nat) (hQ : ∀ ρ s a w, Sim x ρ s a w → K s → wpOpsIn (Fx x.rnd) 0 P ops Q r a w) :
    ∀ (l : List Nat) (os : List Oper) (ρ : Nat → Nat) (s : AS) (a : Act) (w : World), (l.map fun i => ops[i]?) = os.map some → Sim x ρ s a w → evalL P x.Y ops os s K → wpOpsIn (Fx x.rnd) 0 P ops Q (l ++ r) a w
  | [], os, ρ, s, a, w, hl, h, he => by
    cases os with
    | nil => exact hQ ρ s a w h he
    | cons o os => simp at hl
  | i :: l, os, ρ, s, a, w, hl, h, he => by
    cases os with
    | nil => simp at hl
    | cons o os =>
      simp only [List.map_cons, List.cons.injEq] at hl
      rw [List.cons_append, wpOpsIn_cons]
      refine wpOpIn_mono ?_ (stepK_sound hY h hl.1 hnt he)
      rintro a' w' ⟨ρ', s', h', he'⟩
      exact evalL_tail hY hnt r hQ l os ρ' s' a' w' hl.2 h' he'

/-- One operation that gives a value. -/
theorem wpOp_value {ops : Array Oper} {i : Nat} {o : Oper} {K : Act → World → Prop} {Q : Exit → Act → World → Prop} {a : Act} {w w' : World} {v : Value} {r : Option Nat} (hi : ops[i]? = some o) (hw : o.guard = none) (hd : ∀ c, o.op ≠ .defer c)
    (hrun : (execOp a.eval o).run P w = .ok (.value v) w') (hK : K (a.put o.dst v) w') : wpOpIn (Fx r) 0 P ops Q i K a w := by
  unfold wpOpIn
  simp only [hi]
  rw [if_pos (by simp [Region.wanted, hw])]
  refine wpIn_fx hd ?_
  rw [hrun, Oper.uponIn_value]
  exact hK

end
end Go.Abs

/- 'for k, v := range m' over a map that is data, in whatever order its entries come. No condition. -/
namespace Go.Abs
open Go.ChangeMaps (setBlock)
section
variable {P : Program} {x : Ctx}

abbrev PinM := Option (Nat × Array MapEntry × Nat)

theorem CR.valOf {G : Nat → Prop} {ρ : Nat → Nat} {σ : Nat → Slot} {w : World} {v u : Value} (h : CR G ρ σ w (.val v) u) : u = v := by
 have p := h.isPure rfl
 cases p; rfl

theorem CR.mpinOf {G : Nat → Prop} {ρ : Nat → Nat} {σ : Nat → Slot} {w : World} {b clock : Nat} {es : Array MapEntry} {u : Value} (h : CR G ρ σ w (.mpin (some (b, es, clock))) u) : u = .map (some b) ∧ w.heap[b]? = some (.map es clock) := by
 have p := h.isPure rfl
 cases p with
 | mpin hG hb hc => exact ⟨rfl, hc⟩

/-- What a value stands for in every world. -/
def FlatV (c : C) (v : Value) : Prop := ∀ G w, PR G w c v

/-- How far an iterator is. -/
def ItS (w : World) (b : Nat) (R vis : List (List C)) : PinM → Prop
  | none => R = [] ∧ vis = [] ∧ w.heap[b]? = some (.mapIter none 0 #[] 0)
  | some (m, es, clock) => ∃ (rows0 : List (List C)) (is : List Nat) (c0 : Nat), Born es clock ∧ es.size = rows0.length ∧
      (∀ (i : Nat) (row : List C), rows0[i]? = some row → ∃ k v e, row = [k, v] ∧ es[i]? = some e ∧ FlatV k e.key ∧ FlatV v e.val) ∧
      rows0.Perm R ∧ w.heap[b]? = some (.mapIter (some m) clock is.toArray c0) ∧ clock ≤ c0 ∧ is.Nodup ∧ (∀ i ∈ is, i < rows0.length) ∧ vis = is.map (fun i => rows0.getD i [])

theorem its_left {rows0 : List (List C)} {is : List Nat} (nd : is.Nodup) (hi : ∀ i ∈ is, i < rows0.length) : ((is ++ (List.range rows0.length).filter fun i => !is.contains i).map fun i => rows0.getD i []).Perm rows0 := by
 have h1 : (is ++ (List.range rows0.length).filter fun i => !is.contains i).Perm (List.range rows0.length) := by
  refine (List.perm_ext_iff_of_nodup ?_ List.nodup_range).2 fun i => ?_
  ·rw [List.nodup_append]
   refine ⟨nd, List.nodup_range.filter _, fun a ha c hc e => ?_⟩
   subst e
   have := (List.mem_filter.1 hc).2
   simp [ha] at this
  ·rw [List.mem_append, List.mem_filter, List.mem_range]
   constructor
   ·rintro (h | h)
    ·exact hi i h
    ·exact h.1
   ·intro h
    by_cases g : i ∈ is
    ·exact .inl g
    ·exact .inr ⟨h, by simp [g]⟩
 refine (h1.map _).trans ?_
 have : (List.range rows0.length).map (fun i => rows0.getD i []) = rows0 := by
  refine List.ext_getElem (by simp) fun i h1 h2 => ?_
  simp [List.getD_eq_getElem?_getD, List.getElem?_eq_getElem h2]
 rw [this]

end
end Go.Abs

/- 'for k, v := range m' over a map that is data: the loop. No condition. -/
namespace Go.Abs
open Go.ChangeMaps (setBlock)
section
variable {P : Program} {x : Ctx}

theorem run_nextNil {w : World} {b : Nat} {y : TypeId} (h : w.heap[b]? = some (.mapIter none 0 #[] 0)) : (Instr.next (.pointer (some ⟨b, 0, none⟩)) false y).run P w = .ok (.tuple #[.bool false]) w := by
 simp [Instr.next, getObj, Sem.run, h]

theorem cr_over {G : Nat → Prop} {ρ : Nat → Nat} {σ : Nat → Slot} {w : World} : CR G ρ σ w (.tup [.bool false]) (.tuple #[.bool false]) := by
 refine .tup rfl fun i c hi => ?_
 match i, hi with
 | 0, hi => simp at hi; subst hi; exact .pure (.bool _)
 | n + 1, hi => simp at hi
theorem cr_next {G : Nat → Prop} {ρ : Nat → Nat} {σ : Nat → Slot} {w : World} {k e : C} {kv ev : Value} (h1 : FlatV k kv) (h2 : FlatV e ev) : CR G ρ σ w (.tup [.bool true, k, e]) (.tuple #[.bool true, kv, ev]) := by
 refine .tup rfl fun i c hi => ?_
 match i, hi with
 | 0, hi => simp at hi; subst hi; exact .pure (.bool _)
 | 1, hi => simp at hi; subst hi; exact .pure (h1 _ _)
 | 2, hi => simp at hi; subst hi; exact .pure (h2 _ _)
 | n + 3, hi => simp at hi
theorem cr_entry {G : Nat → Prop} {ρ : Nat → Nat} {σ : Nat → Slot} {w : World} {k e : C} {kv ev : Value} (h1 : FlatV k kv) (h2 : FlatV e ev) : CR G ρ σ w (.tup [k, e]) (.tuple #[kv, ev]) := by
 refine .tup rfl fun i c hi => ?_
 match i, hi with
 | 0, hi => simp at hi; subst hi; exact .pure (h1 _ _)
 | 1, hi => simp at hi; subst hi; exact .pure (h2 _ _)
 | n + 2, hi => simp at hi

theorem loop_md {b0 b1 i1 i2 : Nat} {ti tm tn tc te : Tmp} {y1 y2 y3 : TypeId} {p1 p2 p3 : String} {a1 a2 a3 : Array Edge} {post : List Oper} {body : Code} {Q : Exit → AS → Prop} {R : List (List C)} (I : Value → PinM → List (List C) → AS) {b : Nat} {pm : PinM}
  (hY : YOk P x) (hnt1 : #[(⟨some tn, .next (.tmp ti) false, y1, p1, a1, none⟩ : Oper), ⟨some tc, .extract (.tmp tn) 0, y2, p2, a2, none⟩].all (inNt x.nt) = true) (hnt2 : (⟨some te, .entry (.tmp ti), y3, p3, a3, none⟩ :: post).toArray.all (inNt x.nt) = true)
  (hti : ti < x.nt) (htm : tm < x.nt) (hI : ∀ v pm vis, (I v pm vis).env ti = .val v ∧ (I v pm vis).env tm = .mpin pm) (hn1 : tn ≠ ti) (hn2 : tc ≠ ti) (hn3 : tn ≠ tm) (hn4 : tc ≠ tm)
  (hround : ∀ v pm vis k e, (∃ rest, (vis ++ [k, e] :: rest).Perm R) → ∀ y : Ctx, y.nt = x.nt → y.σ = x.σ → y.Y = x.Y → ∀ K : AS → Prop, (∀ s', AWP P y body s' (blockQ b1 (nextQ (fun s'' => Wk y s'' (I v pm (vis ++ [[k, e]]))) (blockQ b0 Q))) → K s') →
   evalL P y.Y (⟨some te, .entry (.tmp ti), y3, p3, a3, none⟩ :: post).toArray post ((((I v pm vis).put (some tn) (.tup [.bool true, k, e])).put (some tc) (.bool true)).put (some te) (.tup [k, e])) K)
  (hdone : ∀ v pm vis, vis.Perm R → Q .normal (((I v pm vis).put (some tn) (.tup [.bool false])).put (some tc) (.bool false)))
  (hb : x.w.heap.size ≤ b) (hits : ∀ p ∈ x.its, p.1 ≠ b) (ρ : Nat → Nat) (a : Act) (w : World) (hs : Sim x ρ (I (.pointer (some ⟨b, 0, none⟩)) pm []) a w) (hit : ItS w b R [] pm) :
  (Code.block b0 (.loop (.seq (.region i1 #[⟨some tn, .next (.tmp ti) false, y1, p1, a1, none⟩, ⟨some tc, .extract (.tmp tn) 0, y2, p2, a2, none⟩] false) (.seq (.cond (.tmp tc) .skip (.exit b0)) (.block b1 (.seq (.region i2 (⟨some te, .entry (.tmp ti), y3, p3, a3, none⟩ :: post).toArray false) body)))))).wpIn (Fx x.rnd) 0 P (QL x Q) a w := by
 obtain ⟨v, hv⟩ : ∃ v : Value, v = .pointer (some ⟨b, 0, none⟩) := ⟨_, rfl⟩
 rw [← hv] at hs
 refine Go.wpIn_block (wp_loop_ix (fun vis a w => ∃ ρ, Sim x ρ (I v pm vis) a w ∧ ItS w b R vis pm) (fun vis => R.length - vis.length) ?_ [] a w ⟨ρ, hs, hit⟩)
 clear hs hit ρ a w
 rintro vis a w ⟨ρ, hs, hit⟩
 have hte := hs.env ti hti
 rw [(hI v pm vis).1] at hte
 have htv : a.eval (.tmp ti) = v := hte.valOf
 have hd1 : ∀ t, (some tn : Option Tmp) = some t → t < x.nt := by
  rw [Array.all_eq_true_iff_forall_mem] at hnt1
  exact inNt_dst (hnt1 _ (by simp : (⟨some tn, .next (.tmp ti) false, y1, p1, a1, none⟩ : Oper) ∈ _))
 have hexec : ∀ r w', (Instr.next v false y1).run P w = .ok r w' → (execOp a.eval ⟨some tn, .next (.tmp ti) false, y1, p1, a1, none⟩).run P w = .ok (.value r) w' := by
  intro r w' hr
  unfold execOp
  simp only [htv]
  exact ok_value hr
 refine Go.wpIn_seq (wpIn_region ?_)
 show wpOpsIn _ 0 P _ _ [0, 1] a w
 rw [wpOpsIn_cons]
 have hev : ∀ {s : AS} {ρ : Nat → Nat} {a' : Act} {w' : World} {q : Bool}, Sim x ρ (s.put (some tc) (.bool q)) a' w' → tc < x.nt → a'.eval (.tmp tc) = .bool q := by
  intro s ρ a' w' q h ht
  have := h.env tc ht
  simp only [AS.put, putE, upd_same] at this
  exact this.boolOf
 have htc : tc < x.nt := by
  rw [Array.all_eq_true_iff_forall_mem] at hnt1
  exact inNt_dst (hnt1 _ (by simp : (⟨some tc, .extract (.tmp tn) 0, y2, p2, a2, none⟩ : Oper) ∈ _)) tc rfl
 have over : vis.Perm R → ∀ ρ a' w', Sim x ρ ((I v pm vis).put (some tn) (.tup [.bool false])) a' w' →
   wpOpsIn (Fx x.rnd) 0 P #[(⟨some tn, .next (.tmp ti) false, y1, p1, a1, none⟩ : Oper), ⟨some tc, .extract (.tmp tn) 0, y2, p2, a2, none⟩] (Exit.then (fun a' w' => (Code.seq (.cond (.tmp tc) .skip (.exit b0)) (.block b1 (.seq (.region i2 (⟨some te, .entry (.tmp ti), y3, p3, a3, none⟩ :: post).toArray false) body))).wpIn (Fx x.rnd) 0 P (Exit.then (fun a' w' => ∃ j, (∃ ρ, Sim x ρ (I v pm j) a' w' ∧ ItS w' b R j pm) ∧ R.length - j.length < R.length - vis.length) (Exit.inBlock b0 (QL x Q))) a' w') (Exit.then (fun a' w' => ∃ j, (∃ ρ, Sim x ρ (I v pm j) a' w' ∧ ItS w' b R j pm) ∧ R.length - j.length < R.length - vis.length) (Exit.inBlock b0 (QL x Q)))) [1] a' w' := by
  intro hp ρ a' w' hs'
  refine evalL_sound hY hnt1 (K := fun s => s = ((I v pm vis).put (some tn) (.tup [.bool false])).put (some tc) (.bool false)) (fun ρ s a w hs hK => ?_) [1] [_] ρ _ a' w' rfl hs' (by simp [AS.put, putE])
  subst hK
  refine Go.wpIn_seq (Go.wpIn_cond (t := false) (hev hs htc) (Go.wpIn_exit ?_))
  show Exit.inBlock b0 (QL x Q) (.exit b0) a w
  simp only [Exit.inBlock, if_true]
  exact ⟨ρ, _, hs, hdone v pm vis hp⟩
 rcases pm with _ | ⟨m, es, clock⟩
 ·obtain ⟨hR, hvis, hheap⟩ := hit
  refine wpOp_value rfl rfl (by simp) (hexec _ _ (by rw [hv]; exact run_nextNil hheap)) ?_
  exact over (by rw [hR, hvis]) ρ _ w (hs.put hd1 cr_over)
 ·obtain ⟨rows0, is, c0, hbo, hsz, hent, hperm, hiter, hcl, nd, hlt, hvis⟩ := hit
  have hmv := hs.env tm htm
  rw [(hI v _ vis).2] at hmv
  obtain ⟨_, hmap⟩ := hmv.mpinOf
  have hborn := hbo.old
  have hl := its_left nd hlt
  rcases run_next_at (P := P) w y1 b m clock c0 is.toArray es clock hiter hmap hborn.1 hcl with ⟨h0, hrun⟩ | ⟨e, he, w1, hw1, hrun⟩
  ·refine wpOp_value rfl rfl (by simp) (hexec _ _ (by rw [hv]; exact hrun)) ?_
   refine over ?_ ρ _ w (hs.put hd1 cr_over)
   have hnil : ((List.range rows0.length).filter fun i => !is.contains i) = [] := by
    rw [List.filter_eq_nil_iff]
    intro i hi
    have hi' : i < es.size := by rw [hsz]; exact List.mem_range.1 hi
    have hb1 := hbo.2 i es[i] (Array.getElem?_eq_getElem hi')
    intro hc
    have : es[i] ∈ leftOf es is.toArray := by
     unfold leftOf
     rw [Array.mem_filter]
     exact ⟨Array.getElem_mem hi', by rw [hb1]; simpa using hc⟩
    have := Array.size_pos_of_mem this
    omega
   rw [hnil, List.append_nil] at hl
   rw [hvis]
   exact hl.trans hperm
  ·have hem : e ∈ leftOf es is.toArray := by simpa using he
   unfold leftOf at hem
   rw [Array.mem_filter] at hem
   obtain ⟨hee, hni⟩ := hem
   obtain ⟨i, hi, rfl⟩ := Array.getElem_of_mem hee
   have hbi := hbo.2 i es[i] (Array.getElem?_eq_getElem hi)
   rw [hbi] at hni
   have hnm : i ∉ is := by simpa using hni
   have hin : i < rows0.length := by omega
   obtain ⟨k, ev, e2, hrow, he2, hf1, hf2⟩ := hent i rows0[i] (List.getElem?_eq_getElem hin)
   rw [Array.getElem?_eq_getElem hi] at he2
   cases he2
   have hgd : rows0.getD i [] = [k, ev] := by rw [List.getD_eq_getElem?_getD, List.getElem?_eq_getElem hin, hrow]; rfl
   have nd2 : (is ++ [i]).Nodup := by
    rw [List.nodup_append]
    exact ⟨nd, by simp, fun a ha c hc e => by simp at hc; subst hc; exact hnm (e ▸ ha)⟩
   have hlt2 : ∀ j ∈ is ++ [i], j < rows0.length := fun j hj => by
    rcases List.mem_append.1 hj with h | h
    ·exact hlt j h
    ·simp at h; omega
   have hp2 := (its_left nd2 hlt2).trans hperm
   have hvis2 : vis ++ [[k, ev]] = (is ++ [i]).map fun i => rows0.getD i [] := by rw [hvis, List.map_append, List.map_cons, List.map_nil, hgd]
   have hrest : ∃ rest, (vis ++ [k, ev] :: rest).Perm R := by
    refine ⟨((List.range rows0.length).filter fun j => !(is ++ [i]).contains j).map fun j => rows0.getD j [], ?_⟩
    rw [List.map_append, ← hvis2] at hp2
    have e3 : ∀ q : List (List C), vis ++ [k, ev] :: q = vis ++ [[k, ev]] ++ q := by simp
    rw [e3]
    exact hp2
   refine wpOp_value rfl rfl (by simp) (hexec _ _ (by rw [hv]; exact hrun)) ?_
   have hs1 : Sim x ρ (I v (some (m, es, clock)) vis) a w1 := by
    rcases hw1 with rfl | rfl
    ·exact hs
    ·exact hs.drew
   have hit1 : w1.heap[b]? = some (.mapIter (some m) clock is.toArray c0) := by rcases hw1 with rfl | rfl <;> exact hiter
   have hs2 := sim_step (m' := some m) (si' := clock) (se' := is.toArray.push es[i].born) (ci' := clock) hs1 hit1 hb hits
   have hs3 := hs2.put hd1 (cr_next hf1 hf2)
   have hnew := (MapKept.heap_set (o' := .mapIter (some m) clock (is.toArray.push es[i].born) clock) hit1).1
   obtain ⟨it, hitd⟩ : ∃ it : Obj, it = .mapIter (some m) clock (is.toArray.push es[i].born) clock := ⟨_, rfl⟩
   rw [← hitd] at hnew hs3 ⊢
   have hs4 : Sim (itX x b it) ρ _ _ _ := sim_it hs3 ⟨_, _, _, _, hitd⟩ hnew
   refine evalL_sound (x := itX x b it) (yok_it hY) hnt1 (K := fun s => s = ((I v (some (m, es, clock)) vis).put (some tn) (.tup [.bool true, k, ev])).put (some tc) (.bool true)) (fun ρ1 s a1 w2 hs5 hK => ?_) [1] [_] ρ _ _ _ rfl hs4 (by simp [AS.put, putE])
   subst hK
   obtain ⟨hs5x, hitw⟩ := sim_un hs5
   refine Go.wpIn_seq (Go.wpIn_cond (t := true) (hev hs5x htc) (Go.wpIn_skip ?_))
   refine Go.wpIn_block (Go.wpIn_seq (wpIn_region ?_))
   have hr : List.range (⟨some te, .entry (.tmp ti), y3, p3, a3, none⟩ :: post : List Oper).toArray.size = 0 :: (List.range post.length).map (· + 1) := by simp [List.range_succ_eq_map]
   rw [hr, wpOpsIn_cons]
   have hti2 := hs5x.env ti hti
   have htm2 := hs5x.env tm htm
   simp only [AS.put, putE] at hti2 htm2
   rw [upd_ne _ _ hn2.symm, upd_ne _ _ hn1.symm, (hI v _ vis).1] at hti2
   rw [upd_ne _ _ hn4.symm, upd_ne _ _ hn3.symm, (hI v _ vis).2] at htm2
   have htv2 : a1.eval (.tmp ti) = v := hti2.valOf
   obtain ⟨_, hmap2⟩ := htm2.mpinOf
   rw [hitd] at hitw
   have hre := run_entry_at (P := P) w2 b m clock is.toArray es clock es[i] hitw hmap2 (by simp) hborn.2
   have hd3 : ∀ t, (some te : Option Tmp) = some t → t < x.nt := by
    rw [Array.all_eq_true_iff_forall_mem] at hnt2
    exact inNt_dst (hnt2 _ (by simp : (⟨some te, .entry (.tmp ti), y3, p3, a3, none⟩ : Oper) ∈ _))
   have hexec3 : (execOp a1.eval ⟨some te, .entry (.tmp ti), y3, p3, a3, none⟩).run P w2 = .ok (.value (.tuple #[es[i].key, es[i].val])) w2 := by
    unfold execOp
    simp only [htv2]
    rw [hv]
    exact ok_value hre
   refine wpOp_value (o := ⟨some te, .entry (.tmp ti), y3, p3, a3, none⟩) rfl rfl (by simp) hexec3 ?_
   have hs6 : Sim (itX x b it) ρ1 _ _ w2 := hs5.put (x := itX x b it) hd3 (cr_entry hf1 hf2)
   refine evalL_sound (x := itX x b it) (yok_it hY) hnt2 (K := fun s' => AWP P (itX x b it) body s' (blockQ b1 (nextQ (fun s'' => Wk (itX x b it) s'' (I v (some (m, es, clock)) (vis ++ [[k, ev]]))) (blockQ b0 Q)))) (fun ρ2 s a2 w3 hs7 hA => ?_) _ post ρ1 _ _ _ ?_ hs6 (hround v _ vis k ev hrest (itX x b it) rfl rfl rfl _ fun _ h => h)
   ·refine wpIn_mono (hA (yok_it hY) ρ2 a2 w3 hs7) ?_
    have hfin : ∀ (e : Exit) (s' : AS) (ρ' : Nat → Nat) (a' : Act) (w' : World), Sim (itX x b it) ρ' s' a' w' → nextQ (fun s'' => Wk (itX x b it) s'' (I v (some (m, es, clock)) (vis ++ [[k, ev]]))) (blockQ b0 Q) e s' →
      Exit.then (fun a' w' => ∃ j, (∃ ρ, Sim x ρ (I v (some (m, es, clock)) j) a' w' ∧ ItS w' b R j (some (m, es, clock))) ∧ R.length - j.length < R.length - vis.length) (Exit.inBlock b0 (QL x Q)) e a' w' := by
     intro e s' ρ' a' w' h1 h2
     cases e with
     | normal =>
      obtain ⟨ρ3, h3⟩ := h2 ρ' a' w' h1
      obtain ⟨h4, h5⟩ := sim_un h3
      refine ⟨vis ++ [[k, ev]], ⟨ρ3, h4, rows0, is ++ [i], clock, hbo, hsz, hent, hperm, ?_, Nat.le_refl _, nd2, hlt2, hvis2⟩, ?_⟩
      ·rw [h5, hitd, hbi]; simp
      ·obtain ⟨rest, hrp⟩ := hrest
       have := hrp.length_eq
       simp at this ⊢
       omega
     | exit id =>
      simp only [nextQ, blockQ] at h2
      simp only [Exit.then, Exit.inBlock]
      split
      ·rename_i e; rw [if_pos e] at h2; exact ⟨ρ', s', (sim_un h1).1, h2⟩
      ·rename_i e; rw [if_neg e] at h2; exact ⟨ρ', s', (sim_un h1).1, h2⟩
     | _ => exact ⟨ρ', s', (sim_un h1).1, h2⟩
    rintro e a' w' ⟨ρ', s', h1, h2⟩
    cases e with
    | exit id =>
     simp only [blockQ] at h2
     simp only [Exit.inBlock]
     split
     ·rename_i e; rw [if_pos e] at h2; exact hfin .normal s' ρ' a' w' h1 h2
     ·rename_i e; rw [if_neg e] at h2; exact hfin (.exit id) s' ρ' a' w' h1 h2
    | normal => exact hfin .normal s' ρ' a' w' h1 h2
    | ret => exact hfin .ret s' ρ' a' w' h1 h2
    | goto l => exact hfin (.goto l) s' ρ' a' w' h1 h2
    | panic c => exact hfin (.panic c) s' ρ' a' w' h1 h2
    | outgrown => exact hfin .outgrown s' ρ' a' w' h1 h2
   ·refine List.ext_getElem? fun j => ?_
    by_cases hj : j < post.length <;> simp [hj]

end
end Go.Abs

/- 'for k, v := range m' over a map that is data. No condition. -/
namespace Go.Abs
section
variable {P : Program} {x : Ctx}

theorem sim_env {ρ : Nat → Nat} {s : AS} {a : Act} {w : World} {t : Nat} {c : C} (h : Sim x ρ s a w) (hc : CR (x.Gd ρ s.sto) ρ s.sto w c (a.tmps.getD t undef)) : Sim x ρ ⟨upd s.env t c, s.sto⟩ a w := by
 refine { h.toFrm with nt := h.nt, defers := h.defers, inr := h.inr, env := fun q hq => ?_ }
 by_cases e : q = t
 ·subst e; simp only [upd_same]; exact hc
 ·simp only [upd_ne _ _ e]; exact h.env q hq

theorem awp_rangeMd {i0 b0 b1 i1 i2 : Nat} {ti tm tn tc te : Tmp} {y0 y1 y2 y3 rty kt et : TypeId} {p0 p1 p2 p3 : String} {a0 a1 a2 a3 : Array Edge} {l0 pre post : List Oper} {body : Code} {s : AS} {Q : Exit → AS → Prop} {nl : Bool} (R : List (List C)) (I : Value → PinM → List (List C) → AS)
  (hl0 : l0 = pre ++ [⟨some ti, .range rty (.tmp tm), y0, p0, a0, none⟩]) (ht : P.underlying rty = some (.map kt et)) (hfl : ∀ row ∈ R, flatl row = true)
  (hnt0 : l0.toArray.all (inNt x.nt) = true) (hnt1 : #[(⟨some tn, .next (.tmp ti) false, y1, p1, a1, none⟩ : Oper), ⟨some tc, .extract (.tmp tn) 0, y2, p2, a2, none⟩].all (inNt x.nt) = true) (hnt2 : (⟨some te, .entry (.tmp ti), y3, p3, a3, none⟩ :: post).toArray.all (inNt x.nt) = true)
  (htm : tm < x.nt) (hI : ∀ v pm vis, (I v pm vis).env ti = .val v ∧ (I v pm vis).env tm = .mpin pm) (hn0 : tm ≠ ti) (hn1 : tn ≠ ti) (hn2 : tc ≠ ti) (hn3 : tn ≠ tm) (hn4 : tc ≠ tm)
  (hpre : ∀ K : AS → Prop, (∀ s1, s1.env tm = .md nl R → (∀ v pm, Wk x ⟨upd (upd s1.env ti (.val v)) tm (.mpin pm), s1.sto⟩ (I v pm [])) → K s1) → evalL P x.Y l0.toArray pre s K)
  (hround : ∀ v pm vis k e, (∃ rest, (vis ++ [k, e] :: rest).Perm R) → ∀ y : Ctx, y.nt = x.nt → y.σ = x.σ → y.Y = x.Y → ∀ K : AS → Prop, (∀ s', AWP P y body s' (blockQ b1 (nextQ (fun s'' => Wk y s'' (I v pm (vis ++ [[k, e]]))) (blockQ b0 Q))) → K s') →
   evalL P y.Y (⟨some te, .entry (.tmp ti), y3, p3, a3, none⟩ :: post).toArray post ((((I v pm vis).put (some tn) (.tup [.bool true, k, e])).put (some tc) (.bool true)).put (some te) (.tup [k, e])) K)
  (hdone : ∀ v pm vis, vis.Perm R → Q .normal (((I v pm vis).put (some tn) (.tup [.bool false])).put (some tc) (.bool false))) :
  AWP P x (.seq (.region i0 l0.toArray false) (.block b0 (.loop (.seq (.region i1 #[⟨some tn, .next (.tmp ti) false, y1, p1, a1, none⟩, ⟨some tc, .extract (.tmp tn) 0, y2, p2, a2, none⟩] false) (.seq (.cond (.tmp tc) .skip (.exit b0)) (.block b1 (.seq (.region i2 (⟨some te, .entry (.tmp ti), y3, p3, a3, none⟩ :: post).toArray false) body))))))) s Q := by
 intro hY ρ a w hs
 refine Go.wpIn_seq (wpIn_region ?_)
 have hop : l0.toArray[pre.length]? = some ⟨some ti, .range rty (.tmp tm), y0, p0, a0, none⟩ := by rw [hl0]; simp
 have hr : List.range l0.toArray.size = List.range pre.length ++ [pre.length] := by rw [hl0]; simp [List.range_succ]
 have hd : ∀ t, (some ti : Option Tmp) = some t → t < x.nt := by
  rw [Array.all_eq_true_iff_forall_mem] at hnt0
  exact inNt_dst (hnt0 _ (Array.mem_of_getElem? hop))
 rw [hr]
 refine evalL_tail hY hnt0 [pre.length] (K := fun s1 => s1.env tm = .md nl R ∧ ∀ v pm, Wk x ⟨upd (upd s1.env ti (.val v)) tm (.mpin pm), s1.sto⟩ (I v pm [])) (fun ρ1 s1 a1 w1 hs1 hK => ?_) _ pre ρ s a w ?_ hs (hpre _ fun s1 h1 h2 => ⟨h1, h2⟩)
 rotate_left
 ·refine List.ext_getElem? fun j => ?_
  rw [hl0]
  by_cases hj : j < pre.length
  ·simp [hj, List.getElem?_append_left hj]
  ·simp [hj]
 obtain ⟨hmd, hwk⟩ := hK
 have hm := hs1.env tm htm
 rw [hmd] at hm
 have hp := hm.isPure rfl
 rw [wpOpsIn_cons]
 have hexec : ∀ r w', (Instr.range rty (a1.tmps.getD tm undef)).run P w1 = .ok r w' → (execOp a1.eval ⟨some ti, .range rty (.tmp tm), y0, p0, a0, none⟩).run P w1 = .ok (.value r) w' := by
  intro r w' hr
  unfold execOp
  exact ok_value hr
 have hits : ∀ p ∈ x.its, p.1 ≠ w1.heap.size := fun p hp e => by
  have := (hs1.rcd.itr p hp).2
  rw [e] at this
  simp at this
 obtain ⟨it, pm, hrun, hcr, hits0⟩ : ∃ (it : Obj) (pm : PinM), (Instr.range rty (a1.tmps.getD tm undef)).run P w1 = .ok (.pointer (some ⟨w1.heap.size, 0, none⟩)) (w1.alloc it) ∧ CR (x.Gd ρ1 s1.sto) ρ1 s1.sto (w1.alloc it) (.mpin pm) (a1.tmps.getD tm undef) ∧ ItS (w1.alloc it) w1.heap.size R [] pm := by
  cases nl with
  | true =>
   generalize a1.tmps.getD tm undef = u at *
   cases hp with
   | mdnil => exact ⟨_, none, run_range_nilMap w1 rty kt et ht, .pure .mpinN, rfl, rfl, alloc_new w1 _⟩
  | false =>
   obtain ⟨m, es, clock, rows0, h1, h2, h3⟩ := hp.bag rfl
   rw [h1]
   refine ⟨_, some (m, es, clock), run_range_map w1 rty kt et m es clock ht h2.heap, .pure (.mpin h2.good (Nat.lt_of_lt_of_le h2.lt (by simp)) ((alloc_old w1 _ h2.lt).trans h2.heap)), rows0, [], clock, h2.born, h2.size, fun i row hi => ?_, h3.1, alloc_new w1 _, Nat.le_refl _, by simp, by simp, rfl⟩
   obtain ⟨k, v, e, rfl, e2, e3, e4⟩ := h2.ent i row hi
   have hf := hfl _ (h3.1.mem_iff.1 (List.mem_of_getElem? hi))
   simp only [flatl, Bool.and_eq_true] at hf
   exact ⟨k, v, e, rfl, e2, fun G w => e3.flat hf.1, fun G w => e4.flat hf.2.1⟩
 refine wpOp_value hop rfl (by simp) (hexec _ _ hrun) ?_
 obtain ⟨hK, hF⟩ := hs1.toFrm.alloc it
 have hs2 := (hs1.change hK hF).put hd (c := .val (.pointer (some ⟨w1.heap.size, 0, none⟩))) (.pure (.val _))
 have hs3 := sim_env (t := tm) (c := .mpin pm) hs2 (by
  have e : (a1.put (some ti) (.pointer (some ⟨w1.heap.size, 0, none⟩))).tmps.getD tm undef = a1.tmps.getD tm undef := by
   simp [Act.put, Array.getD_eq_getD_getElem?, Array.getElem?_setIfInBounds, hn0.symm]
  rw [e]
  exact hcr)
 obtain ⟨ρ2, hs4⟩ := hwk _ pm _ _ _ hs3
 exact loop_md I hY hnt1 hnt2 (hd ti rfl) htm hI hn1 hn2 hn3 hn4 hround hdone hs1.size hits ρ2 _ _ hs4 hits0

end
end Go.Abs

/- Maps that a function hands back as data, in whatever order they were laid. No condition. -/
namespace Go.Abs
section
variable {P : Program}

theorem pure_ofB {f : FuncId} {fn : Func} {c : Code} {args : List C} {rows : List (List C)} (res : List ResultVar) (hf : FnIs P f fn c) (hlen : Nat.ble args.length fn.ntmps = true) (hrs : fn.results.toList = res) (hres : resNt fn.ntmps res = true)
  (h : ∀ x : Ctx, x.nt = fn.ntmps → x.σ = freeS → AWP P x c ⟨envOf args, freeS⟩ fun e s => (e = .normal ∨ e = .ret) ∧ ∃ d r', retC P s res = some d ∧ viewC s.sto 6 d = some (.md false r') ∧ BagEq r' rows) : Pure P f args (.md false rows) := by
 subst hrs
 refine { hf.callable with calls := fun G w vs hpl => ?_ }
 refine calls_of_awp hf.func hf.body ?_
 refine wpIn_mono (h { G := G, ρ := fun _ => 0, σ := freeS, w := w, nt := fn.ntmps } rfl rfl (.none rfl) _ _ _ (sim_enter hpl (Nat.le_of_ble_eq_true hlen))) ?_
 rintro e a w1 ⟨ρ, s, hs1, he, d, r', hd, hv, hbag⟩
 refine ⟨he, leave_sim hs1 fun w' hs => ?_⟩
 have hown0 : ∀ b, ¬ Owned (fun _ => 0) (fun _ => Slot.free) b := by rintro b ⟨k, o, h1, _⟩; cases h1
 obtain ⟨v, h1, h2⟩ := retC_sound (P := P) hs hres hd
 have h3 := viewC_sound hs.sto hv h2
 obtain ⟨b, es, clock, rows0, rfl, _, _⟩ := h3.bag rfl
 refine ⟨_, h1, _, rfl, .mdp hbag (h3.mono fun b hb hlt => ⟨?_, hlt, rfl⟩), ⟨hs.os, hs.tape, hs.output, hs.size, fun b hb => hs.frame b hb (hown0 b) (by simp)⟩⟩
 rcases hb with hb | hb
 ·rcases hb.1 with hb1 | hb1 | hb1
  ·exact .inl hb1
  ·exact absurd hb1 (hown0 b)
  ·exact .inr hb1
 ·rcases hs.own b hb with hb1 | hb1
  ·exact absurd hb1 (hown0 b)
  ·exact .inr hb1

/-- What is found, where all keys can be looked at. -/
theorem findC_spec (q : KQ) (k : C) : ∀ (L : List (List C)) (i : Nat), (∀ row ∈ L, ∃ c v b, row = [c, v] ∧ sameC q k c = some b) →
    ∃ r, findC q k L i = some r ∧ (r = none → ∀ c v, [c, v] ∈ L → sameC q k c = some false) ∧ ∀ j v, r = some (j, v) → ∃ c, [c, v] ∈ L ∧ sameC q k c = some true
  | [], i, _ => ⟨none, rfl, fun _ c v h => by simp at h, fun j v h => by cases h⟩
  | row :: L, i, h => by
    obtain ⟨c, v, b, rfl, hb⟩ := h row (by simp)
    cases b
    · obtain ⟨r, h1, h2, h3⟩ := findC_spec q k L (i + 1) fun row hr => h row (by simp [hr])
      refine ⟨r, by simp only [findC, hb]; exact h1, fun hr c' v' hm => ?_, fun j v' hr => ?_⟩
      · rcases List.mem_cons.1 hm with e | e
        · cases e; exact hb
        · exact h2 hr c' v' e
      · obtain ⟨c', h4, h5⟩ := h3 j v' hr
        exact ⟨c', by simp [h4], h5⟩
    · exact ⟨some (i, v), by simp only [findC, hb], fun hr => (by cases hr), fun j v' hr => (by cases hr; exact ⟨c, by simp, hb⟩)⟩

/-- Two orders of the rows of one map. -/
theorem bag_of {rows' rows : List (List C)} (hp : rows'.Perm rows) (hd : ∀ c v v', [c, v] ∈ rows → [c, v'] ∈ rows → v = v') (h2 : ∀ row ∈ rows, ∃ c v, row = [c, v])
    (hall : ∀ q k, (∀ c v, [c, v] ∈ rows → sameC q k c = none) ∨ ((∀ c v, [c, v] ∈ rows → ∃ b, sameC q k c = some b) ∧ ∀ c v c' v', [c, v] ∈ rows → [c', v'] ∈ rows → sameC q k c = some true → sameC q k c' = some true → c = c')) : BagEq rows' rows := by
  refine ⟨hp, fun q k i r hr i' => ?_⟩
  rcases hall q k with hn | ⟨hs, hu⟩
  · cases rows with
    | nil =>
      rw [List.perm_nil.1 hp]
      exact findC_any q k [] i i' hr
    | cons row L =>
      obtain ⟨c, v, rfl⟩ := h2 row (by simp)
      simp only [findC, hn c v (by simp)] at hr
      cases hr
  · have hsome : ∀ L : List (List C), (∀ row ∈ L, row ∈ rows) → ∀ row ∈ L, ∃ c v b, row = [c, v] ∧ sameC q k c = some b := fun L hL row hm => by
      obtain ⟨c, v, rfl⟩ := h2 row (hL row hm)
      obtain ⟨b, hb⟩ := hs c v (hL _ hm)
      exact ⟨c, v, b, rfl, hb⟩
    obtain ⟨r1, f1, f2, f3⟩ := findC_spec q k rows i (hsome rows fun _ h => h)
    obtain ⟨r2, g1, g2, g3⟩ := findC_spec q k rows' i' (hsome rows' fun row h => hp.mem_iff.1 h)
    rw [f1] at hr
    cases hr
    refine ⟨r2, g1, ?_⟩
    cases r with
    | none => cases r2 with
      | none => rfl
      | some p =>
        obtain ⟨c, m1, m2⟩ := g3 p.1 p.2 rfl
        have := f2 rfl c p.2 (hp.mem_iff.1 m1)
        rw [m2] at this; cases this
    | some p =>
      obtain ⟨c, m1, m2⟩ := f3 p.1 p.2 rfl
      cases r2 with
      | none =>
        have := g2 rfl c p.2 (hp.mem_iff.2 m1)
        rw [m2] at this; cases this
      | some p' =>
        obtain ⟨c', m3, m4⟩ := g3 p'.1 p'.2 rfl
        have e := hu c p.2 c' p'.2 m1 (hp.mem_iff.1 m3) m2 m4
        subst e
        simp [hd c p.2 p'.2 m1 (hp.mem_iff.1 m3)]

end
end Go.Abs

namespace Go.Proofs.YtbelmomdndjjkaaGreat
open Go Go.Abs

set_option maxHeartbeats 2000000

-- the plain law of wear: states, and maps of them

/-- A gain, and how many visits are wrong. -/
structure St where
  g : Int
  n : Int
deriving DecidableEq

def bumpS : List (St × Int) → St → List (St × Int)
 | [], a => [(a, 1)]
 | p :: kv, a => if a = p.1 then (p.1, IntKind.i64.wrap (p.2 + 1)) :: kv else p :: bumpS kv a

def kvS (L : List St) : List (St × Int) := L.foldl bumpS []

@[simp] abbrev keyS (k : St) : C := .agg [encI k.g, encI k.n]
def rowS (p : St × Int) : List C := [keyS p.1, encI p.2]
def rowsS (kv : List (St × Int)) : List (List C) := kv.map rowS

@[simp] theorem rowsS_len (kv : List (St × Int)) : (rowsS kv).length = kv.length := by simp [rowsS]
@[simp] theorem rowsS_nil : rowsS [] = [] := rfl
@[simp] theorem rowsS_pure (kv : List (St × Int)) : (rowsS kv).all purel = true := by simp [rowsS, rowS, purel, C.isPure]

theorem same_key {k l : St} : sameC (.flat [.i64, .i64]) (keyS k) (keyS l) = some (decide (k = l)) := by
 by_cases h : k = l
 ·subst h; simp [sameC, eqInts]
 ·have h1 : (decide (k.g = l.g) && decide (k.n = l.n)) = false := by
   cases e : (decide (k.g = l.g) && decide (k.n = l.n)) with
   | false => rfl
   | true =>
    simp only [Bool.and_eq_true, decide_eq_true_eq] at e
    obtain ⟨a, b⟩ := k
    obtain ⟨c, d⟩ := l
    simp only at e
    exact absurd (by rw [e.1, e.2]) h
  simp [sameC, eqInts, h1, h]

theorem find_bumpS (a : St) : ∀ (kv : List (St × Int)) (i : Nat), (∃ j n, findC (.flat [.i64, .i64]) (keyS a) (rowsS kv) i = some (some (i + j, encI n)) ∧ (rowsS kv).set j [keyS a, encI (IntKind.i64.wrap (n + 1))] = rowsS (bumpS kv a) ∧ (rowsS kv)[j]? = some [keyS a, encI n]) ∨
  (findC (.flat [.i64, .i64]) (keyS a) (rowsS kv) i = some none ∧ rowsS kv ++ [[keyS a, encI 1]] = rowsS (bumpS kv a))
 | [], i => .inr ⟨rfl, rfl⟩
 | p :: kv, i => by
  have hr : rowsS (p :: kv) = [keyS p.1, encI p.2] :: rowsS kv := rfl
  by_cases h : a = p.1
  ·subst h
   refine .inl ⟨0, p.2, ?_, by simp [rowsS, rowS, bumpS], by rw [hr]; rfl⟩
   rw [hr]; unfold findC; simp only [same_key, decide_true]; rfl
  ·have hf : findC (.flat [.i64, .i64]) (keyS a) (rowsS (p :: kv)) i = findC (.flat [.i64, .i64]) (keyS a) (rowsS kv) (i + 1) := by
    rw [hr]; conv => lhs; unfold findC
    simp only [same_key, h, decide_false]
   rcases find_bumpS a kv (i + 1) with ⟨j, n, h1, h2, h3⟩ | ⟨h1, h2⟩
   ·refine .inl ⟨j + 1, n, by rw [hf, h1]; congr 3; omega, ?_, by rw [hr, List.getElem?_cons_succ]; exact h3⟩
    rw [hr, List.set_cons_succ, h2]
    simp [bumpS, h, rowsS, rowS]
   ·refine .inr ⟨by rw [hf, h1], ?_⟩
    rw [hr, List.cons_append, h2]
    simp [bumpS, h, rowsS, rowS]

theorem bumpS_keys (a : St) : ∀ (kv : List (St × Int)) (b : St), b ∈ (bumpS kv a).map (·.1) ↔ b ∈ kv.map (·.1) ∨ b = a
 | [], b => by simp [bumpS]
 | p :: kv, b => by
  unfold bumpS
  split
  ·rename_i h; subst h
   simp only [List.map_cons, List.mem_cons]
   constructor
   ·exact fun h => .inl h
   ·rintro (h | h)
    ·exact h
    ·exact .inl h
  ·have ih := bumpS_keys a kv b
   simp only [List.map_cons, List.mem_cons, ih, or_assoc]

theorem bumpS_nodup (a : St) : ∀ (kv : List (St × Int)), (kv.map (·.1)).Nodup → ((bumpS kv a).map (·.1)).Nodup
 | [], _ => by simp [bumpS]
 | p :: kv, h => by
  unfold bumpS
  split
  ·exact h
  ·rename_i hne
   simp only [List.map_cons, List.nodup_cons] at h ⊢
   refine ⟨fun hm => ?_, bumpS_nodup a kv h.2⟩
   rcases (bumpS_keys a kv p.1).1 hm with h1 | h1
   ·exact h.1 h1
   ·exact hne h1.symm

theorem bumpS_mem (a : St) : ∀ (kv : List (St × Int)), (kv.map (·.1)).Nodup → ∀ b n, (b, n) ∈ bumpS kv a ↔ if b = a then ((∃ m, (b, m) ∈ kv ∧ n = IntKind.i64.wrap (m + 1)) ∨ (a ∉ kv.map (·.1) ∧ n = 1)) else (b, n) ∈ kv
 | [], _, b, n => by
  simp only [bumpS, List.mem_singleton, Prod.mk.injEq, List.not_mem_nil, List.map_nil, not_false_eq_true, true_and, false_and, exists_false, false_or]
  split
  ·rename_i h; simp [h]
  ·rename_i h; simp [h]
 | p :: kv, hnd, b, n => by
  simp only [List.map_cons, List.nodup_cons] at hnd
  unfold bumpS
  split
  ·rename_i h; subst h
   by_cases hb : b = p.1
   ·subst hb
    rw [if_pos rfl]
    constructor
    ·intro hm
     rcases List.mem_cons.1 hm with e | e
     ·refine .inl ⟨p.2, List.mem_cons.2 (.inl rfl), ?_⟩
      cases e; rfl
     ·exact absurd (List.mem_map.2 ⟨_, e, rfl⟩) hnd.1
    ·rintro (⟨m, hm, hn⟩ | ⟨hm, _⟩)
     ·rcases List.mem_cons.1 hm with e | e
      ·refine List.mem_cons.2 (.inl ?_)
       rw [← e, hn]
      ·exact absurd (List.mem_map.2 ⟨_, e, rfl⟩) hnd.1
     ·exact absurd (by simp) hm
   ·rw [if_neg hb]
    simp only [List.mem_cons]
    constructor
    ·rintro (e | e)
     ·cases e; exact absurd rfl hb
     ·exact .inr e
    ·rintro (e | e)
     ·rw [← e] at hb; exact absurd rfl hb
     ·exact .inr e
  ·rename_i hne
   have ih := bumpS_mem a kv hnd.2 b n
   rw [List.mem_cons, ih]
   by_cases hb : b = a
   ·subst hb
    rw [if_pos rfl, if_pos rfl]
    simp only [List.mem_cons, List.map_cons, not_or]
    constructor
    ·rintro (e | ⟨m, e1, e2⟩ | ⟨e1, e2⟩)
     ·rw [← e] at hne; exact absurd rfl hne
     ·exact .inl ⟨m, .inr e1, e2⟩
     ·exact .inr ⟨⟨hne, e1⟩, e2⟩
    ·rintro (⟨m, e | e, e2⟩ | ⟨e1, e2⟩)
     ·rw [← e] at hne; exact absurd rfl hne
     ·exact .inr (.inl ⟨m, e, e2⟩)
     ·exact .inr (.inr ⟨e1.2, e2⟩)
   ·rw [if_neg hb, if_neg hb, List.mem_cons]

/-- What a number that is counted up is. -/
def cntW : Nat → Int
  | 0 => 0
  | n + 1 => IntKind.i64.wrap (cntW n + 1)

theorem cntW_one : cntW 1 = 1 := by decide

theorem kvS_app (L : List St) (t : St) : kvS (L ++ [t]) = bumpS (kvS L) t := by
 unfold kvS; rw [List.foldl_append]; rfl

theorem kvS_facts (L : List St) : ((kvS L).map (·.1)).Nodup ∧ (∀ b, b ∈ (kvS L).map (·.1) ↔ b ∈ L) ∧ ∀ b n, (b, n) ∈ kvS L ↔ b ∈ L ∧ n = cntW (L.count b) := by
 induction L using list_rev_ind with
 | h0 => simp [kvS]
 | h1 L t ih =>
  obtain ⟨h1, h2, h3⟩ := ih
  rw [kvS_app]
  refine ⟨bumpS_nodup _ _ h1, fun b => ?_, fun b n => ?_⟩
  ·rw [bumpS_keys, h2]; simp
  ·rw [bumpS_mem _ _ h1, h2, List.count_append]
   by_cases hb : b = t
   ·subst hb
    rw [if_pos rfl]
    simp only [List.mem_append, List.mem_singleton, or_true, true_and, List.count_singleton_self]
    constructor
    ·rintro (⟨m, hm, rfl⟩ | ⟨h4, h5⟩)
     ·rw [((h3 _ _).1 hm).2]; rfl
     ·rw [List.count_eq_zero.2 h4, h5, Nat.zero_add, cntW_one]
    ·intro h
     by_cases hm : b ∈ L
     ·exact .inl ⟨_, (h3 _ _).2 ⟨hm, rfl⟩, h⟩
     ·rw [List.count_eq_zero.2 hm, Nat.zero_add, cntW_one] at h
      exact .inr ⟨hm, h⟩
   ·have hb' : ¬ t = b := fun e => hb e.symm
    rw [if_neg hb, h3]
    simp [hb, List.count_singleton, hb']

theorem kvS_perm {L L' : List St} (h : L.Perm L') : (kvS L).Perm (kvS L') := by
 have hn : ∀ L, (kvS L).Nodup := fun L => by
  have := (kvS_facts L).1
  exact (List.pairwise_map.1 this).imp fun h e => h (by rw [e])
 refine (List.perm_ext_iff_of_nodup (hn _) (hn _)).2 fun p => ?_
 obtain ⟨b, n⟩ := p
 rw [(kvS_facts L).2.2, (kvS_facts L').2.2, h.mem_iff, h.count_eq]

theorem eqInts1 {ks : List IntKind} {x : List C} {d : Int} (h : eqInts ks x [.int .i64 d] ≠ none) : ∃ z, ks = [.i64] ∧ x = [.int .i64 z] := by
 cases ks with
 | nil => exact absurd (by cases x <;> rfl) h
 | cons k ks =>
  cases x with
  | nil => exact absurd rfl h
  | cons c xs =>
   cases c with
   | int k1 a =>
    simp only [eqInts] at h
    split at h
    ·rename_i hk
     obtain ⟨rfl, rfl⟩ := hk
     cases ks with
     | nil =>
      cases xs with
      | nil => exact ⟨a, rfl, rfl⟩
      | cons e es => exact absurd rfl h
     | cons k' ks => exact absurd (by cases xs with
       | nil => rfl
       | cons e es => cases e <;> rfl) h
    ·exact absurd rfl h
   | _ => exact absurd rfl h

theorem eqInts2 {ks : List IntKind} {x : List C} {b d : Int} (h : eqInts ks x [.int .i64 b, .int .i64 d] ≠ none) : ∃ y z, ks = [.i64, .i64] ∧ x = [.int .i64 y, .int .i64 z] := by
 cases ks with
 | nil => exact absurd (by cases x <;> rfl) h
 | cons k ks =>
  cases x with
  | nil => exact absurd rfl h
  | cons c xs =>
   cases c with
   | int k1 a =>
    simp only [eqInts] at h
    split at h
    ·rename_i hk
     obtain ⟨rfl, rfl⟩ := hk
     have h' : eqInts ks xs [.int .i64 d] ≠ none := fun e => by rw [e] at h; exact h rfl
     obtain ⟨z, rfl, rfl⟩ := eqInts1 h'
     exact ⟨a, z, rfl, rfl⟩
    ·exact absurd rfl h
   | _ => exact absurd rfl h

theorem kvS_bag {L L' : List St} (h : L.Perm L') : BagEq (rowsS (kvS L)) (rowsS (kvS L')) := by
 have hu : ∀ c v, [c, v] ∈ rowsS (kvS L') → ∃ b n, (b, n) ∈ kvS L' ∧ c = keyS b ∧ v = encI n := fun c v hm => by
  obtain ⟨p, hp, e⟩ := List.mem_map.1 hm
  simp only [rowS, List.cons.injEq, and_true] at e
  exact ⟨p.1, p.2, hp, e.1.symm, e.2.symm⟩
 have hk : ∀ {b b' : St}, keyS b = keyS b' → b = b' := fun {b b'} e => by
  obtain ⟨x, y⟩ := b
  obtain ⟨z, u⟩ := b'
  simp only [C.agg.injEq, List.cons.injEq, C.int.injEq, true_and, and_true] at e
  rw [e.1, e.2]
 refine bag_of ((kvS_perm h).map _) (fun c v v' h1 h2 => ?_) (fun row hr => ?_) fun q k => ?_
 ·obtain ⟨b, n, m1, rfl, rfl⟩ := hu _ _ h1
  obtain ⟨b', n', m2, e, rfl⟩ := hu _ _ h2
  obtain rfl := hk e
  have e1 := ((kvS_facts L').2.2 b n).1 m1
  have e2 := ((kvS_facts L').2.2 b n').1 m2
  rw [e1.2, e2.2]
 ·obtain ⟨p, hp, e⟩ := List.mem_map.1 hr
  exact ⟨_, _, e.symm⟩
 ·have hnone : (∀ b : St, sameC q k (keyS b) = none) ∨ ∃ ks x, q = .flat ks ∧ k = .agg x := by
   cases q <;> cases k <;> simp [sameC]
  rcases hnone with hn | ⟨ks, x, rfl, rfl⟩
  ·refine .inl fun c v hm => ?_
   obtain ⟨b, n, _, rfl, rfl⟩ := hu _ _ hm
   exact hn b
  ·by_cases hsh : ∃ y z, ks = [.i64, .i64] ∧ x = [.int .i64 y, .int .i64 z]
   ·obtain ⟨y, z, rfl, rfl⟩ := hsh
    refine .inr ⟨fun c v hm => ?_, fun c v c' v' h1 h2 e1 e2 => ?_⟩
    ·obtain ⟨b, n, _, rfl, rfl⟩ := hu _ _ hm
     exact ⟨_, same_key (k := ⟨y, z⟩)⟩
    ·obtain ⟨b, n, _, rfl, rfl⟩ := hu _ _ h1
     obtain ⟨b', n', _, rfl, rfl⟩ := hu _ _ h2
     have f1 := same_key (k := ⟨y, z⟩) (l := b)
     have f2 := same_key (k := ⟨y, z⟩) (l := b')
     simp only [keyS, encI] at f1 f2 e1 e2
     rw [f1] at e1
     rw [f2] at e2
     simp only [Option.some.injEq, decide_eq_true_eq] at e1 e2
     rw [← e1, ← e2]
   ·refine .inl fun c v hm => ?_
    obtain ⟨b, n, _, rfl, rfl⟩ := hu _ _ hm
    refine Classical.byContradiction fun hne => hsh ?_
    exact eqInts2 hne

end Go.Proofs.YtbelmomdndjjkaaGreat

namespace Go.Proofs.YtbelmomdndjjkaaGreat
open Go Go.Abs

set_option maxHeartbeats 2000000

/-- What the gains of an instrument hang on: the greatest gain, the last day, how much it falls, how many visits are wrong, and the gains of each visit by its day. -/
structure Co where
  gain : Int
  last : Int
  drop : Int
  wrong : Int
  G : List (Int × List Int)

def wrG (G : List (Int × List Int)) (day g : Int) : Int := match G.find? (fun p => p.1 == day) with
 | some p => if g ∈ p.2 then 0 else 1
 | none => 0
def knB (K : List (Int × Int)) (day g : Int) : Bool := match K.find? (fun p => p.1 == day) with
 | some p => p.2 == g
 | none => true
def alC (c : Co) (K : List (Int × Int)) (day g : Int) : Bool := decide (-c.gain ≤ g) && decide (g ≤ c.gain) && knB K day g

def seqN (a : Int) (n : Nat) : List Int := (List.range n).map fun i => a + (i : Nat)
def seqI (a b : Int) : List Int := seqN a (b - a + 1).toNat

theorem seqN_step (a : Int) (n : Nat) : seqN a (n + 1) = seqN a n ++ [a + (n : Nat)] := by simp [seqN, List.range_succ]
theorem seqN_len (a : Int) (n : Nat) : (seqN a n).length = n := by simp [seqN]
theorem mem_seqN {a : Int} {n : Nat} {x : Int} : x ∈ seqN a n ↔ a ≤ x ∧ x < a + n := by
 simp only [seqN, List.mem_map, List.mem_range]
 constructor
 ·rintro ⟨i, h, rfl⟩; omega
 ·intro h; exact ⟨(x - a).toNat, by omega, by omega⟩
theorem mem_seqI {a b x : Int} : x ∈ seqI a b ↔ a ≤ x ∧ x ≤ b := by
 unfold seqI; rw [mem_seqN]; omega

def firstN (c : Co) (K : List (Int × Int)) (n : Nat) : List St := ((seqN (-c.gain) n).filter (alC c K 0)).map fun g => ⟨g, wrG c.G 0 g⟩
def firstL (c : Co) (K : List (Int × Int)) : List St := ((seqI (-c.gain) c.gain).filter (alC c K 0)).map fun g => ⟨g, wrG c.G 0 g⟩
def stepN (c : Co) (K : List (Int × Int)) (day : Int) (x : St) (n : Nat) : List St := ((seqN (x.g - c.drop) n).filter (alC c K day)).map fun g => ⟨g, x.n + wrG c.G day g⟩
def stepL (c : Co) (K : List (Int × Int)) (day : Int) (x : St) : List St := ((seqI (x.g - c.drop) x.g).filter (alC c K day)).map fun g => ⟨g, x.n + wrG c.G day g⟩
def nextL (c : Co) (K : List (Int × Int)) (day : Int) (L : List St) : List St := L.flatMap (stepL c K day)

theorem firstN_step (c : Co) (K : List (Int × Int)) (n : Nat) : kvS (firstN c K (n + 1)) = if alC c K 0 (-c.gain + (n : Nat)) then bumpS (kvS (firstN c K n)) ⟨-c.gain + (n : Nat), wrG c.G 0 (-c.gain + (n : Nat))⟩ else kvS (firstN c K n) := by
 unfold firstN
 rw [seqN_step, List.filter_append, List.map_append]
 split
 ·rename_i h
  rw [List.filter_cons_of_pos h, List.filter_nil, List.map_cons, List.map_nil, kvS_app]
 ·rename_i h
  rw [List.filter_cons_of_neg h, List.filter_nil, List.map_nil, List.append_nil]

theorem stepN_step (c : Co) (K : List (Int × Int)) (day : Int) (x : St) (L : List St) (n : Nat) : kvS (L ++ stepN c K day x (n + 1)) = if alC c K day (x.g - c.drop + (n : Nat)) then bumpS (kvS (L ++ stepN c K day x n)) ⟨x.g - c.drop + (n : Nat), x.n + wrG c.G day (x.g - c.drop + (n : Nat))⟩ else kvS (L ++ stepN c K day x n) := by
 unfold stepN
 rw [seqN_step, List.filter_append, List.map_append]
 split
 ·rename_i h
  rw [List.filter_cons_of_pos h, List.filter_nil, List.map_cons, List.map_nil, ← List.append_assoc, kvS_app]
 ·rename_i h
  rw [List.filter_cons_of_neg h, List.filter_nil, List.map_nil, List.append_nil]

/-- The states on a day, each with how often it was counted. -/
def stS (c : Co) (K : List (Int × Int)) : Nat → List (St × Int)
  | 0 => kvS (firstL c K)
  | d + 1 => kvS (nextL c K ((d + 1 : Nat) : Int) ((stS c K d).map (·.1)))

def fewL (L : List Int) : Int := L.foldl (fun n x => if n < 0 ∨ x < n then x else n) (-1)
def fewC (c : Co) (K : List (Int × Int)) : Int := fewL ((stS c K c.last.toNat).map (·.1.n))
def canC (c : Co) (K : List (Int × Int)) : Bool := decide (0 ≤ fewC c K) && decide (fewC c K ≤ c.wrong)

def setK : List (Int × Int) → Int → Int → List (Int × Int)
 | [], a, n => [(a, n)]
 | p :: r, a, n => if a = p.1 then (p.1, n) :: r else p :: setK r a n
def ownC (day g : Int) (K : List (Int × Int)) : List (Int × Int) := K.foldl (fun o p => setK o p.1 p.2) [(day, g)]
def clashB (day g : Int) (K : List (Int × Int)) : Bool := K.any fun p => p.1 == day && p.2 != g
def onB (c : Co) (day : Int) (K : List (Int × Int)) (g : Int) : Bool := !clashB day g K && canC c (ownC day g K)
/-- The gains of a day, where some are known. -/
def onC (c : Co) (day : Int) (K : List (Int × Int)) : List Int := (seqI (-c.gain) c.gain).filter (onB c day K)

theorem fewL_app (L : List Int) (x : Int) : fewL (L ++ [x]) = if fewL L < 0 ∨ x < fewL L then x else fewL L := by
 unfold fewL; rw [List.foldl_append]; rfl

theorem fewL_spec (L : List Int) (h : ∀ x ∈ L, 0 ≤ x) : (L = [] ∧ fewL L = -1) ∨ (fewL L ∈ L ∧ ∀ x ∈ L, fewL L ≤ x) := by
 induction L using list_rev_ind with
 | h0 => exact .inl ⟨rfl, rfl⟩
 | h1 L x ih =>
  right
  rw [fewL_app]
  have hx := h x (by simp)
  rcases ih fun y hy => h y (by simp [hy]) with ⟨rfl, h1⟩ | ⟨h1, h2⟩
  ·rw [h1, if_pos (.inl (by omega))]
   simp
  ·have h0 := h (fewL L) (by simp [h1])
   split
   ·rename_i hc
    refine ⟨by simp, fun y hy => ?_⟩
    rcases List.mem_append.1 hy with e | e
    ·have := h2 y e; omega
    ·simp only [List.mem_singleton] at e; omega
   ·rename_i hc
    refine ⟨by simp [h1], fun y hy => ?_⟩
    rcases List.mem_append.1 hy with e | e
    ·exact h2 y e
    ·simp only [List.mem_singleton] at e; omega

theorem fewL_perm {L L' : List Int} (hp : L.Perm L') (h : ∀ x ∈ L, 0 ≤ x) : fewL L = fewL L' := by
 have h' : ∀ x ∈ L', 0 ≤ x := fun x hx => h x (hp.mem_iff.2 hx)
 rcases fewL_spec L h with ⟨rfl, h1⟩ | ⟨h1, h2⟩
 ·rw [List.nil_perm.1 hp]
 ·rcases fewL_spec L' h' with ⟨rfl, h3⟩ | ⟨h3, h4⟩
  ·rw [List.perm_nil.1 hp] at h1; simp at h1
  ·have := h2 _ (hp.mem_iff.2 h3)
   have := h4 _ (hp.mem_iff.1 h1)
   omega

-- paths

def Good (c : Co) (K : List (Int × Int)) (p : Nat → Int) (d : Nat) : Prop := (∀ i, i ≤ d → alC c K (i : Int) (p i) = true) ∧ ∀ i, i < d → 0 ≤ p i - p (i + 1) ∧ p i - p (i + 1) ≤ c.drop
def wrs (G : List (Int × List Int)) (p : Nat → Int) : Nat → Int
 | 0 => wrG G 0 (p 0)
 | d + 1 => wrs G p d + wrG G ((d + 1 : Nat) : Int) (p (d + 1))

theorem wrG_bd (G : List (Int × List Int)) (day g : Int) : 0 ≤ wrG G day g ∧ wrG G day g ≤ 1 := by
 unfold wrG
 split
 ·split <;> omega
 ·omega

theorem wrs_bd (G : List (Int × List Int)) (p : Nat → Int) : ∀ d : Nat, 0 ≤ wrs G p d ∧ wrs G p d ≤ d + 1
 | 0 => by have := wrG_bd G 0 (p 0); simp only [wrs]; omega
 | d + 1 => by
  have := wrs_bd G p d
  have := wrG_bd G ((d + 1 : Nat) : Int) (p (d + 1))
  simp only [wrs]; omega

theorem wrs_congr {G : List (Int × List Int)} {p q : Nat → Int} : ∀ {d : Nat}, (∀ i, i ≤ d → p i = q i) → wrs G p d = wrs G q d
 | 0, h => by simp only [wrs, h 0 (Nat.le_refl _)]
 | d + 1, h => by simp only [wrs, h (d + 1) (Nat.le_refl _), wrs_congr (p := p) (q := q) (d := d) fun i hi => h i (by omega)]

theorem Good.congr {c : Co} {K : List (Int × Int)} {p q : Nat → Int} {d : Nat} (h : ∀ i, i ≤ d → p i = q i) (hg : Good c K p d) : Good c K q d :=
 ⟨fun i hi => by rw [← h i hi]; exact hg.1 i hi, fun i hi => by rw [← h i (by omega), ← h (i + 1) (by omega)]; exact hg.2 i hi⟩

theorem alC_bd {c : Co} {K : List (Int × Int)} {day g : Int} (h : alC c K day g = true) : -c.gain ≤ g ∧ g ≤ c.gain := by
 simp only [alC, Bool.and_eq_true, decide_eq_true_eq] at h
 exact h.1

theorem reach (c : Co) (K : List (Int × Int)) : ∀ (d : Nat) (x : St), x ∈ (stS c K d).map (·.1) ↔ ∃ p, Good c K p d ∧ p d = x.g ∧ wrs c.G p d = x.n
 | 0, x => by
  unfold stS
  rw [(kvS_facts _).2.1]
  simp only [firstL, List.mem_map, List.mem_filter, mem_seqI]
  constructor
  ·rintro ⟨g, ⟨_, h2⟩, rfl⟩
   refine ⟨fun _ => g, ⟨fun i hi => ?_, fun i hi => by omega⟩, rfl, rfl⟩
   obtain rfl : i = 0 := by omega
   exact h2
  ·rintro ⟨p, h1, h2, h3⟩
   have ha := h1.1 0 (Nat.le_refl _)
   refine ⟨x.g, ⟨?_, ?_⟩, ?_⟩
   ·rw [← h2]; exact alC_bd ha
   ·rw [← h2]; exact ha
   ·rw [← h2]
    have : wrG c.G 0 (p 0) = x.n := h3
    rw [this, h2]
 | d + 1, x => by
  unfold stS
  rw [(kvS_facts _).2.1]
  simp only [nextL, stepL, List.mem_flatMap]
  constructor
  ·rintro ⟨y, hy, hx⟩
   obtain ⟨p, h1, h2, h3⟩ := (reach c K d y).1 hy
   obtain ⟨g, hg, rfl⟩ := List.mem_map.1 hx
   obtain ⟨hg, hal⟩ := List.mem_filter.1 hg
   rw [mem_seqI] at hg
   have he : ∀ i, i ≤ d → p i = (fun i => if i ≤ d then p i else g) i := fun i hi => by simp [hi]
   have hn : ¬ d + 1 ≤ d := by omega
   refine ⟨fun i => if i ≤ d then p i else g, ⟨fun i hi => ?_, fun i hi => ?_⟩, by simp only [if_neg hn], ?_⟩
   ·by_cases hid : i ≤ d
    ·simp only [if_pos hid]; exact h1.1 i hid
    ·obtain rfl : i = d + 1 := by omega
     simp only [if_neg hid]; exact hal
   ·by_cases hid : i + 1 ≤ d
    ·simp only [if_pos (show i ≤ d by omega), if_pos hid]; exact h1.2 i (by omega)
    ·obtain rfl : i = d := by omega
     simp only [if_neg hid, if_pos (Nat.le_refl _)]; rw [h2]; omega
   ·simp only [wrs, ← wrs_congr he, h3, if_neg hn]
  ·rintro ⟨p, h1, h2, h3⟩
   refine ⟨⟨p d, wrs c.G p d⟩, (reach c K d _).2 ⟨p, ⟨fun i hi => h1.1 i (by omega), fun i hi => h1.2 i (by omega)⟩, rfl, rfl⟩, ?_⟩
   have hd := h1.2 d (by omega)
   have ha := h1.1 (d + 1) (Nat.le_refl _)
   refine List.mem_map.2 ⟨p (d + 1), List.mem_filter.2 ⟨mem_seqI.2 (by simp only; omega), ha⟩, ?_⟩
   have : wrs c.G p d + wrG c.G ((d + 1 : Nat) : Int) (p (d + 1)) = x.n := h3
   show (⟨p (d + 1), wrs c.G p d + wrG c.G ((d + 1 : Nat) : Int) (p (d + 1))⟩ : St) = x
   rw [this, h2]

theorem stS_bd (c : Co) (K : List (Int × Int)) (d : Nat) {x : St} (h : x ∈ (stS c K d).map (·.1)) : (-c.gain ≤ x.g ∧ x.g ≤ c.gain) ∧ 0 ≤ x.n ∧ x.n ≤ d + 1 := by
 obtain ⟨p, h1, h2, h3⟩ := (reach c K d x).1 h
 have := alC_bd (h1.1 d (Nat.le_refl _))
 have := wrs_bd c.G p d
 rw [← h2, ← h3]
 exact ⟨by omega, by omega⟩

theorem few_spec (c : Co) (K : List (Int × Int)) : (fewC c K = -1 ∧ ∀ p, ¬ Good c K p c.last.toNat) ∨ (0 ≤ fewC c K ∧ (∃ p, Good c K p c.last.toNat ∧ wrs c.G p c.last.toNat = fewC c K) ∧ ∀ p, Good c K p c.last.toNat → fewC c K ≤ wrs c.G p c.last.toNat) := by
 have hr := reach c K c.last.toNat
 have hb := fun x (h : x ∈ (stS c K c.last.toNat).map (·.1)) => stS_bd c K c.last.toNat h
 have hm : (stS c K c.last.toNat).map (·.1.n) = ((stS c K c.last.toNat).map (·.1)).map (·.n) := by simp
 have h0 : ∀ n ∈ (stS c K c.last.toNat).map (·.1.n), 0 ≤ n := fun n hn => by
  rw [hm] at hn
  obtain ⟨x, hx, rfl⟩ := List.mem_map.1 hn
  exact (hb x hx).2.1
 rcases fewL_spec _ h0 with ⟨h1, h2⟩ | ⟨h1, h2⟩
 ·refine .inl ⟨h2, fun p hp => ?_⟩
  have := (hr ⟨_, _⟩).2 ⟨p, hp, rfl, rfl⟩
  rw [List.map_eq_nil_iff] at h1
  rw [h1] at this
  simp at this
 ·refine .inr ⟨h0 _ h1, ?_, fun p hp => ?_⟩
  ·have h1' := h1
   rw [hm] at h1'
   obtain ⟨x, hx, e⟩ := List.mem_map.1 h1'
   obtain ⟨p, hp, _, e2⟩ := (hr x).1 hx
   exact ⟨p, hp, by rw [e2, e]; rw [← hm]; rfl⟩
  ·have := (hr ⟨_, _⟩).2 ⟨p, hp, rfl, rfl⟩
   refine h2 _ ?_
   rw [hm]
   exact List.mem_map.2 ⟨_, this, rfl⟩

/-- A truth. -/
def Tru (c : Co) (p : Nat → Int) : Prop := Good c [] p c.last.toNat ∧ wrs c.G p c.last.toNat ≤ c.wrong

theorem canC_iff (c : Co) (K : List (Int × Int)) : canC c K = true ↔ ∃ p, Good c K p c.last.toNat ∧ wrs c.G p c.last.toNat ≤ c.wrong := by
 simp only [canC, Bool.and_eq_true, decide_eq_true_eq]
 rcases few_spec c K with ⟨h1, h2⟩ | ⟨h1, ⟨p, hp, he⟩, h2⟩
 ·constructor
  ·intro h; omega
  ·rintro ⟨p, hp, _⟩; exact absurd hp (h2 p)
 ·constructor
  ·intro h; exact ⟨p, hp, by rw [he]; exact h.2⟩
  ·rintro ⟨q, hq, hw⟩
   exact ⟨h1, Int.le_trans (h2 q hq) hw⟩

theorem good_known {c : Co} {K : List (Int × Int)} {p : Nat → Int} {d : Nat} : Good c K p d ↔ Good c [] p d ∧ ∀ i, i ≤ d → knB K (i : Int) (p i) = true := by
 have hal : ∀ i : Nat, alC c K i (p i) = true ↔ alC c [] i (p i) = true ∧ knB K i (p i) = true := fun i => by
  simp only [alC, Bool.and_eq_true]
  constructor
  ·exact fun h => ⟨⟨h.1, rfl⟩, h.2⟩
  ·exact fun h => ⟨h.1.1, h.2⟩
 constructor
 ·intro h
  exact ⟨⟨fun i hi => ((hal i).1 (h.1 i hi)).1, h.2⟩, fun i hi => ((hal i).1 (h.1 i hi)).2⟩
 ·intro h
  exact ⟨fun i hi => (hal i).2 ⟨h.1.1 i hi, h.2 i hi⟩, h.1.2⟩

theorem can_nil (c : Co) : canC c [] = true ↔ ∃ p, Tru c p := canC_iff c []

theorem kn_one {a : Nat} {n : Int} {i : Nat} {g : Int} : knB [((a : Int), n)] (i : Int) g = true ↔ (i = a → g = n) := by
 by_cases h : i = a
 ·subst h
  have : knB [((i : Int), n)] i g = (n == g) := by simp [knB]
  rw [this, beq_iff_eq]
  exact ⟨fun e _ => e.symm, fun e => (e rfl).symm⟩
 ·have h' : ((a : Int) == (i : Int)) = false := by rw [beq_eq_false_iff_ne]; omega
  simp [knB, h, h']

theorem can_one (c : Co) (a : Nat) (n : Int) (ha : a ≤ c.last.toNat) : canC c [((a : Int), n)] = true ↔ ∃ p, Tru c p ∧ p a = n := by
 rw [canC_iff]
 constructor
 ·rintro ⟨p, hp, hw⟩
  obtain ⟨h1, h2⟩ := good_known.1 hp
  exact ⟨p, ⟨h1, hw⟩, kn_one.1 (h2 a ha) rfl⟩
 ·rintro ⟨p, ⟨h1, hw⟩, e⟩
  exact ⟨p, good_known.2 ⟨h1, fun i hi => kn_one.2 fun hia => by rw [hia, e]⟩, hw⟩

theorem on_nil (c : Co) (a : Nat) (ha : a ≤ c.last.toNat) (g : Int) : g ∈ onC c a [] ↔ ∃ p, Tru c p ∧ p a = g := by
 simp only [onC, List.mem_filter, onB, clashB, ownC, List.any_nil, List.foldl_nil, Bool.not_false, Bool.true_and]
 rw [can_one c a g ha]
 constructor
 ·exact fun h => h.2
 ·rintro ⟨p, hp, rfl⟩
  exact ⟨mem_seqI.2 (alC_bd (hp.1.1 a ha)), p, hp, rfl⟩

end Go.Proofs.YtbelmomdndjjkaaGreat

