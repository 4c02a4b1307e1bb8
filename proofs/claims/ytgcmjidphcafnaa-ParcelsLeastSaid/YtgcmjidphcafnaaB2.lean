/- The machine of abstract values and the contracts of the functions of the program, which the statements of this seat share. No condition. -/
import Derived.Test.YtgcmjidphcafnaaB1

set_option linter.unusedSimpArgs false
set_option linter.unusedVariables false
set_option linter.constructorNameAsVariable false

/- Regions whose order Go leaves open: the theorem. No condition. -/
namespace Go.Abs

section
variable {P : Program} {ops : Array Oper}

theorem pairs_congr {ρ ρ' : Operand → C} {ps : List (Nat × Operand)} (h : ∀ p ∈ ps, ρ p.2 = ρ' p.2) : (ps.map fun p => (p.1, ρ p.2)) = ps.map fun p => (p.1, ρ' p.2) :=
  List.map_congr_left fun p hp => by rw [h p hp]

theorem Ex.congr {m : Nat} {σ σ' : Nat → Slot} {ρ ρ' : Operand → C} {d : Option Nat} {op : Op} {c : C} (h : Ex P m σ ρ d op c σ') (hr : ∀ y ∈ op.operands.toList, ρ y = ρ' y) : Ex P m σ ρ' d op c σ' := by
  cases op <;> simp only [Op.operands] at hr
  case call cl =>
    obtain ⟨callee, args, ats⟩ := cl
    have hargs : args.toList.map ρ = args.toList.map ρ' := List.map_congr_left fun y hy => hr y (by
      cases callee <;> simp [Call.operands] at hy ⊢ <;> first | exact .inr hy | exact hy)
    cases callee with
    | value f =>
      have hf : ρ f = ρ' f := hr f (by simp [Call.operands])
      simp only [Ex] at h ⊢
      rw [← hf, ← hargs]
      exact h
    | invoke r m => simp [Ex, isEff, valC] at h
    | builtin b =>
      cases b
      case append =>
        simp only [Ex, isEff, if_true, effC] at h ⊢
        split at h
        · rename_i e s y t u h1 h2
          rw [← hr s (by simp [Call.operands, h1]), ← hr y (by simp [Call.operands, h1])]
          exact h
        · simp at h
      all_goals
        simp only [Ex, isEff, Bool.false_eq_true, if_false, valC] at h ⊢
        rw [← hargs]
        exact h
  case build t ps =>
    have := pairs_congr (ρ := ρ) (ρ' := ρ') (ps := ps.toList) fun p hp => hr p.2 (by simp only [List.mem_map]; exact ⟨p, hp, rfl⟩)
    simp only [Ex, isEff, Bool.false_eq_true, if_false, valC] at h ⊢
    rw [← this]
    exact h
  case buildSlice t n ps =>
    have := pairs_congr (ρ := ρ) (ρ' := ρ') (ps := ps.toList) fun p hp => hr p.2 (by simp only [List.mem_map]; exact ⟨p, hp, rfl⟩)
    simp only [Ex, isEff, if_true, effC] at h ⊢
    rw [← this]
    exact h
  case makeFunc f a b =>
    have h1 : a.toList.map ρ = a.toList.map ρ' := List.map_congr_left fun y hy => hr y (by simp at hy ⊢; exact .inl hy)
    have h2 : b.toList.map ρ = b.toList.map ρ' := List.map_congr_left fun y hy => hr y (by simp at hy ⊢; exact .inr hy)
    simp only [Ex, isEff, Bool.false_eq_true, if_false, valC] at h ⊢
    rw [← h1, ← h2]
    exact h
  case slice t y lo hi mx =>
    have h0 : ρ y = ρ' y := hr y (by simp)
    have h1 : lo.map ρ = lo.map ρ' := by cases lo <;> simp_all
    have h2 : hi.map ρ = hi.map ρ' := by cases hi <;> simp_all
    have h3 : mx.map ρ = mx.map ρ' := by cases mx <;> simp_all
    simp only [Ex, isEff, Bool.false_eq_true, if_false, valC] at h ⊢
    rw [← h0, ← h1, ← h2, ← h3]
    exact h
  all_goals
    simp only [Ex, isEff, Bool.false_eq_true, if_false, if_true, valC, effC] at h ⊢
    first
      | exact h
      | (simp_all; done)

theorem dPre_congr {ρ ρ' : Operand → C} {na : List Nat} {i : Nat} {op : Op} (hr : ∀ y ∈ op.operands.toList, ρ y = ρ' y) (h : dPre na i ρ op = true) : dPre na i ρ' op = true := by
  cases op with
  | call cl =>
    obtain ⟨callee, args, ats⟩ := cl
    cases callee with
    | builtin b =>
      cases b
      case append =>
        simp only [dPre, Bool.and_eq_true, Bool.or_eq_true, List.all_eq_true] at h ⊢
        refine ⟨h.1.imp id fun h y hy => ?_, h.2.imp id fun h => ?_⟩
        · rw [← hr y (by simp [Op.operands, Call.operands] at hy ⊢; exact hy)]
          exact h y hy
        · cases he : args.toList with
          | nil => rw [he] at h; exact h
          | cons y l =>
            rw [he] at h
            simp only [ownFirst] at h ⊢
            rw [← hr y (by have : y ∈ args.toList := by rw [he]; simp
                           simp [Op.operands, Call.operands] at this ⊢; exact this)]
            exact h
      all_goals rfl
    | _ => rfl
  | load t a =>
    simp only [dPre] at h ⊢
    rw [← hr a (by simp [Op.operands])]; exact h
  | store t a y =>
    simp only [dPre] at h ⊢
    rw [← hr a (by simp [Op.operands])]; exact h
  | _ => rfl

theorem Ex.any {m : Nat} {σ σ' : Nat → Slot} {ρ : Operand → C} {d : Option Nat} {op : Op} {c : C} (h : Ex P m σ ρ d op c σ') : Ex P 0 σ ρ d op c σ' := by
  cases op with
  | call cl =>
    obtain ⟨callee, args, ats⟩ := cl
    cases callee with
    | value f =>
      simp only [Ex] at h ⊢
      split at h
      · rename_i g first caps hfo
        try simp only [hfo]
        rcases h with ⟨_, h⟩ | ⟨_, h⟩ | ⟨_, h⟩ | ⟨_, h⟩
        · exact .inl ⟨by simp, h⟩
        · exact .inr (.inl ⟨by simp, h⟩)
        · exact .inr (.inr (.inl ⟨by simp, h.1, fun h => by simp at h⟩))
        · exact .inr (.inr (.inr ⟨by simp, h⟩))
      · exact h.elim
    | _ => exact h
  | _ => exact h

/-- A step where the order is open: what it gives. -/
def Exd (P : Program) (ops : Array Oper) (na : List Nat) (i : Nat) (s : AS) (o : Oper) (c : C) (σ' : Nat → Slot) : Prop :=
  (wantC ops s.env o = some true ∧ dPre na i s.ev o.op = true ∧ dPost na i c o.op = true ∧ Ex P (mode na i) s.sto s.ev o.dst o.op c σ') ∨ (wantC ops s.env o = some false ∧ c = .tup [] ∧ σ' = s.sto)

/-- What is asked of the result of a slice's literal. -/
def dPostS (na : List Nat) (i : Nat) (o : Oper) (s : AS) : Prop :=
  match o.op, o.dst with
  | .buildSlice .., some d => (if na.contains i then !(s.env d).isPure else (s.env d).isPure) = true
  | .buildSlice .., none => False
  | _, _ => True

/-- One operation of a region whose order is open. -/
def stepD (P : Program) (ops : Array Oper) (na : List Nat) (i : Nat) (s : AS) (o : Oper) (K : AS → Prop) : Prop :=
  match wantC ops s.env o with
  | some true => dPre na i s.ev o.op = true ∧ opK P (mode na i) s o fun s' => dPostS na i o s' ∧ K s'
  | some false => K (s.put o.dst (.tup []))
  | none => False

def evalD (P : Program) (ops : Array Oper) (na : List Nat) : List (Nat × Oper) → AS → (AS → Prop) → Prop
  | [], s, K => K s
  | (i, o) :: l, s, K => stepD P ops na i s o fun s' => evalD P ops na l s' K

theorem stepD_iff {na : List Nat} {i : Nat} {s : AS} {o : Oper} {K : AS → Prop} (h : stepD P ops na i s o K) : ∃ c σ', Exd P ops na i s o c σ' ∧ K ⟨putE s.env o.dst c, σ'⟩ := by
  unfold stepD at h
  split at h
  · rename_i hw
    obtain ⟨h1, h2⟩ := h
    rw [opK_iff] at h2
    obtain ⟨c, σ', h3, h4, h5⟩ := h2
    refine ⟨c, σ', .inl ⟨hw, h1, ?_, h3⟩, h5⟩
    unfold dPostS at h4
    split at h4
    · rename_i e1 e2
      rw [e1]
      simp only [e2, putE, upd_same] at h4
      exact h4
    · exact h4.elim
    · rename_i hne hne2
      cases hop : o.op with
      | buildSlice t n ps =>
        cases hd : o.dst with
        | none => exact absurd hd (hne2 _ _ _ hop)
        | some d => exact absurd hd (hne _ _ _ _ hop)
      | _ => rfl
  · rename_i hw
    exact ⟨_, _, .inr ⟨hw, rfl, rfl⟩, h⟩
  · exact h.elim

/-- The relational form. -/
def evalR (P : Program) (ops : Array Oper) (na : List Nat) : List (Nat × Oper) → AS → (AS → Prop) → Prop
  | [], s, K => K s
  | (i, o) :: l, s, K => ∃ c σ', Exd P ops na i s o c σ' ∧ evalR P ops na l ⟨putE s.env o.dst c, σ'⟩ K

theorem evalR_of {na : List Nat} {K : AS → Prop} : ∀ {l : List (Nat × Oper)} {s : AS}, evalD P ops na l s K → evalR P ops na l s K
  | [], _, h => h
  | (i, o) :: l, s, h => by
    obtain ⟨c, σ', h1, h2⟩ := stepD_iff h
    exact ⟨c, σ', h1, evalR_of h2⟩

theorem Exd.stepK {na : List Nat} {i : Nat} {s : AS} {o : Oper} {c : C} {σ' : Nat → Slot} {K : AS → Prop} (h : Exd P ops na i s o c σ') (hK : K ⟨putE s.env o.dst c, σ'⟩) : stepK P ops s o K := by
  rw [stepK_iff]
  refine ⟨c, σ', ?_, hK⟩
  rcases h with ⟨h1, _, _, h2⟩ | h
  · exact .inl ⟨h1, h2.any⟩
  · exact .inr h

/-- Slots that an operation does not look at make no difference. -/
theorem Exd.env {na : List Nat} {i : Nat} {s : AS} {o : Oper} {c : C} {σ' : Nat → Slot} (h : Exd P ops na i s o c σ') {env' : Nat → C} (he : ∀ t, t ∈ o.looksAt ops → env' t = s.env t) :
    Exd P ops na i ⟨env', s.sto⟩ o c σ' := by
  have hw : wantC ops env' o = wantC ops s.env o := by
    unfold wantC
    cases hg : o.guard with
    | none => rfl
    | some gw =>
      obtain ⟨j, want⟩ := gw
      simp only
      cases hd : (ops[j]?).bind (·.dst) with
      | none => rfl
      | some t =>
        simp only
        rw [he t (by simp [Oper.looksAt, hg, hd])]
  have hev : ∀ y ∈ o.op.operands.toList, s.ev y = AS.ev ⟨env', s.sto⟩ y := by
    intro y hy
    cases y with
    | tmp t =>
      refine (he t ?_).symm
      exact List.mem_append_left _ (List.mem_filterMap.2 ⟨.tmp t, hy, rfl⟩)
    | _ => rfl
  unfold Exd at *
  simp only
  rw [hw]
  rcases h with ⟨h1, h2, h3, h4⟩ | h
  · exact .inl ⟨h1, dPre_congr hev h2, h3, h4.congr hev⟩
  · exact .inr h

/-- How an operation stands to the store. -/
def Facts (P : Program) (ops : Array Oper) (na : List Nat) (i : Nat) (env : Nat → C) (o : Oper) (k : Nat) (σ : Nat → Slot) (c : C) (σ' : Nat → Slot) : Prop :=
  (σ' = σ ∧ ∀ τ, Exd P ops na i ⟨env, τ⟩ o c τ) ∨
  (k = 1 ∧ σ' = σ ∧ ∀ τ, Ext σ τ → Exd P ops na i ⟨env, τ⟩ o c τ) ∨
  (k = 2 ∧ ∃ e ob, o.dst = some e ∧ σ e = .free ∧ σ' = upd σ e (.live ob) ∧ ∀ τ, τ e = .free → Exd P ops na i ⟨env, τ⟩ o c (upd τ e (.live ob))) ∨
  (k = 3 ∧ ∀ e ob, σ' e = .free → o.dst ≠ some e → σ e = .free ∧ Exd P ops na i ⟨env, upd σ e (.live ob)⟩ o c (upd σ' e (.live ob))) ∨
  (k = 5 ∧ ∃ e ob, o.dst = some e ∧ σ e = .free ∧ σ' = upd σ e (.live ob)) ∨
  (k = 6 ∧ σ' = σ ∧ (∀ τ, Ext σ τ → Exd P ops na i ⟨env, τ⟩ o c τ) ∧ (∀ q sl, na.contains (q + 10000) = true → Exd P ops na i ⟨env, upd σ q sl⟩ o c (upd σ q sl)) ∧ ∀ q sl τ, na.contains (q + 10000) = true → Ext (upd σ q sl) τ → Exd P ops na i ⟨env, τ⟩ o c τ) ∨
  (k = 7 ∧ (∀ e ob, σ' e = .free → o.dst ≠ some e → σ e = .free ∧ Exd P ops na i ⟨env, upd σ e (.live ob)⟩ o c (upd σ' e (.live ob))) ∧ ∃ q ob, na.contains (q + 10000) = true ∧ σ' = upd σ q (.live ob)) ∨
  (k = 8 ∧ ∃ B obs, (∀ q, B ≤ q → q < B + obs.length → σ q = .free) ∧ σ' = updK σ B obs ∧ ∀ τ, (∀ q, B ≤ q → q < B + obs.length → τ q = .free) → Exd P ops na i ⟨env, τ⟩ o c (updK τ B obs)) ∨ k = 9 ∨
  (k = 10 ∧ ∃ q e ob, na.contains (q + 10000) = true ∧ o.dst = some e ∧ σ e = .free ∧ upd σ q .dead e = .free ∧ σ' = upd (upd σ q .dead) e (.live ob))

theorem Exd.facts {na : List Nat} {i : Nat} {s : AS} {o : Oper} {c : C} {σ' : Nat → Slot} (h : Exd P ops na i s o c σ') (hc : cls na i o.op ≤ 3 ∨ cls na i o.op = 5 ∨ cls na i o.op = 6 ∨ cls na i o.op = 7 ∨ cls na i o.op = 8 ∨ cls na i o.op = 9 ∨ cls na i o.op = 10) :
    Facts P ops na i s.env o (cls na i o.op) s.sto c σ' := by
  rcases h with ⟨h1, h2, h3, h4⟩ | ⟨h1, rfl, rfl⟩
  · have up : ∀ {τ τ' : Nat → Slot}, Ex P (mode na i) τ s.ev o.dst o.op c τ' → Exd P ops na i ⟨s.env, τ⟩ o c τ' := fun g => .inl ⟨h1, h2, h3, g⟩
    by_cases g5 : cls na i o.op = 5
    · obtain ⟨e, ob, e1, e2, e3⟩ := ex_cls5 g5 h4
      exact .inr (.inr (.inr (.inr (.inl ⟨g5, e, ob, e1, e2, e3⟩))))
    by_cases g6 : cls na i o.op = 6
    · obtain ⟨e1, e2, e3⟩ := ex_cls6 g6 h2 h4
      exact .inr (.inr (.inr (.inr (.inr (.inl ⟨g6, e1, fun τ hτ => up (e2 τ hτ), fun q sl hq => up (e3 q sl hq), fun q sl τ hq hτ => up ((ex_cls6 g6 h2 (e3 q sl hq)).2.1 τ hτ)⟩)))))
    by_cases g7 : cls na i o.op = 7
    · obtain ⟨e1, e2⟩ := ex_cls7 g7 h2 h4
      exact .inr (.inr (.inr (.inr (.inr (.inr (.inl ⟨g7, fun e ob hf hd => ⟨(e1 e ob hf hd).1, up (e1 e ob hf hd).2⟩, e2⟩))))))
    by_cases g8 : cls na i o.op = 8
    · obtain ⟨B, obs, e1, e2, e3⟩ := ex_cls8 g8 h4
      exact .inr (.inr (.inr (.inr (.inr (.inr (.inr (.inl ⟨g8, B, obs, e1, e2, fun τ hτ => up (e3 τ hτ)⟩)))))))
    by_cases g9 : cls na i o.op = 9
    · exact .inr (.inr (.inr (.inr (.inr (.inr (.inr (.inr (.inl g9))))))))
    by_cases g10 : cls na i o.op = 10
    · obtain ⟨q, e, ob, e1, e2, e3, e4, e5⟩ := ex_cls10 g10 h2 h4
      exact .inr (.inr (.inr (.inr (.inr (.inr (.inr (.inr (.inr ⟨g10, q, e, ob, e1, e2, e3, e4, e5⟩))))))))
    rcases Nat.lt_or_ge 2 (cls na i o.op) with g | g
    · have g3 : cls na i o.op = 3 := by omega
      refine .inr (.inr (.inr (.inl ⟨g3, fun e ob hf hd => ?_⟩)))
      obtain ⟨g4, g5⟩ := ex_cls3 (ob := ob) g3 h4 hf hd
      exact ⟨g4, up g5⟩
    · rcases Nat.lt_or_ge 1 (cls na i o.op) with g' | g'
      · have g3 : cls na i o.op = 2 := by omega
        obtain ⟨e, ob, e1, e2, e3, e4⟩ := ex_cls2 g3 h2 h3 h4
        exact .inr (.inr (.inl ⟨g3, e, ob, e1, e2, e3, fun τ hτ => up (e4 τ hτ)⟩))
      · rcases Nat.lt_or_ge 0 (cls na i o.op) with g'' | g''
        · have g3 : cls na i o.op = 1 := by omega
          obtain ⟨e1, e2⟩ := ex_cls1 g3 h4
          exact .inr (.inl ⟨g3, e1, fun τ hτ => up (e2 τ hτ)⟩)
        · have g3 : cls na i o.op = 0 := by omega
          obtain ⟨e1, e2⟩ := ex_cls0 g3 h3 h4
          exact .inl ⟨e1, fun τ => up (e2 τ)⟩
  · exact .inl ⟨rfl, fun τ => .inr ⟨h1, rfl, rfl⟩⟩

/-- Two neighbours change places. -/
theorem swap {na : List Nat} {i j : Nat} {oi oj : Oper} {s : AS} {ci cj : C} {σ1 σ2 : Nat → Slot} (hap : oj.apart ops oi = true) (hco : compat (cls na j oj.op) (cls na i oi.op) = true)
    (hj : Exd P ops na j s oj cj σ1) (hi : Exd P ops na i ⟨putE s.env oj.dst cj, σ1⟩ oi ci σ2) :
    ∃ σ1', Exd P ops na i s oi ci σ1' ∧ Exd P ops na j ⟨putE s.env oi.dst ci, σ1'⟩ oj cj σ2 ∧ putE (putE s.env oi.dst ci) oj.dst cj = putE (putE s.env oj.dst cj) oi.dst ci := by
  obtain ⟨a1, a2, a3⟩ := Oper.apart_spec hap
  have henv : putE (putE s.env oi.dst ci) oj.dst cj = putE (putE s.env oj.dst cj) oi.dst ci := by
    cases hdi : oi.dst with
    | none => rfl
    | some di =>
      cases hdj : oj.dst with
      | none => rfl
      | some dj => exact upd_comm _ (fun e => a2 dj hdj (by rw [hdi, e])) _ _
  have hcle : (cls na j oj.op ≤ 3 ∨ cls na j oj.op = 5 ∨ cls na j oj.op = 6 ∨ cls na j oj.op = 7 ∨ cls na j oj.op = 8 ∨ cls na j oj.op = 9 ∨ cls na j oj.op = 10) ∧ (cls na i oi.op ≤ 3 ∨ cls na i oi.op = 5 ∨ cls na i oi.op = 6 ∨ cls na i oi.op = 7 ∨ cls na i oi.op = 8 ∨ cls na i oi.op = 9 ∨ cls na i oi.op = 10) := by
    simp only [compat, Bool.or_eq_true, Bool.and_eq_true, beq_iff_eq, decide_eq_true_eq] at hco
    omega
  have hi' : Exd P ops na i ⟨s.env, σ1⟩ oi ci σ2 := hi.env (env' := s.env) fun t ht => by
    cases hdj : oj.dst with
    | none => rfl
    | some dj =>
      simp only [putE]
      rw [upd_ne _ _ (show t ≠ dj from fun e => a1 dj hdj (e ▸ ht))]
  have lift : ∀ {σ τ : Nat → Slot}, Exd P ops na j ⟨s.env, σ⟩ oj cj τ → Exd P ops na j ⟨putE s.env oi.dst ci, σ⟩ oj cj τ := fun g => g.env (env' := putE s.env oi.dst ci) fun t ht => by
    cases hdi : oi.dst with
    | none => rfl
    | some di =>
      simp only [putE]
      rw [upd_ne _ _ (show t ≠ di from fun e => a3 di hdi (e ▸ ht))]
  have fj := hj.facts hcle.1
  have fi := hi'.facts hcle.2
  simp only at fi
  rcases fj with ⟨rfl, fj⟩ | fj
  · exact ⟨σ2, hi', lift (fj σ2), henv⟩
  rcases fi with ⟨rfl, fi⟩ | fi
  · exact ⟨s.sto, fi s.sto, lift hj, henv⟩
  rcases fj with ⟨kj, rfl, fj⟩ | ⟨kj, e, ob, d1, d2, rfl, fj⟩ | ⟨kj, fj⟩ | ⟨kj, fj⟩ | ⟨kj, rfl, fj, fjq, fjt⟩ | ⟨kj, fj, q, obq, hq, rfl⟩ | ⟨kj, B, obs, d2, rfl, fj⟩ | kj | ⟨kj, _⟩
  · rcases fi with ⟨ki, rfl, fi⟩ | ⟨ki, e', ob', d1', d2', rfl, fi⟩ | ⟨ki, fi⟩ | ⟨ki, e', ob', d1', d2', rfl⟩ | ⟨ki, rfl, fi, _⟩ | ⟨ki, fi⟩ | ⟨ki, B', obs', d2', rfl, fi⟩ | ki | ⟨ki, _⟩
    · exact ⟨s.sto, hi', lift hj, henv⟩
    · exact ⟨_, fi s.sto d2', lift (fj _ (Ext.upd d2')), henv⟩
    · rw [kj, ki] at hco; simp [compat] at hco
    · exact ⟨_, hi', lift (fj _ (Ext.upd d2')), henv⟩
    · exact ⟨s.sto, hi', lift hj, henv⟩
    · rw [kj, ki] at hco; simp [compat] at hco
    · exact ⟨_, hi', lift (fj _ (updK_ext d2')), henv⟩
    · rw [kj, ki] at hco; simp [compat] at hco
    · rw [kj, ki] at hco; simp [compat] at hco
  · rcases fi with ⟨ki, rfl, fi⟩ | ⟨ki, e', ob', d1', d2', rfl, fi⟩ | ⟨ki, fi⟩ | ⟨ki, fi⟩ | ⟨ki, fi⟩ | ⟨ki, fi⟩ | ⟨ki, B', obs', d2', rfl, fi⟩ | ki | ⟨ki, _⟩
    · rw [kj, ki] at hco; simp [compat] at hco
    · have hne : e' ≠ e := fun hh => a2 e d1 (by rw [d1', hh])
      rw [upd_ne _ _ hne] at d2'
      refine ⟨_, fi s.sto d2', lift ?_, henv⟩
      rw [upd_comm _ (Ne.symm hne)]
      exact fj _ (by rw [upd_ne _ _ (Ne.symm hne)]; exact d2)
    · rw [kj, ki] at hco; simp [compat] at hco
    · rw [kj, ki] at hco; simp [compat] at hco
    · rw [kj, ki] at hco; simp [compat] at hco
    · rw [kj, ki] at hco; simp [compat] at hco
    · have hout : ¬ (B' ≤ e ∧ e < B' + obs'.length) := fun hh => by have := d2' e hh.1 hh.2; simp at this
      have hfree : ∀ q, B' ≤ q → q < B' + obs'.length → s.sto q = .free := fun q h1 h2 => by
        have := d2' q h1 h2
        rwa [upd_ne _ _ (fun hh => hout (by rw [← hh]; exact ⟨h1, h2⟩))] at this
      refine ⟨_, fi s.sto hfree, lift ?_, henv⟩
      rw [← updK_upd hout]
      exact fj _ (by rw [updK_out hout]; exact d2)
    · rw [kj, ki] at hco; simp [compat] at hco
    · rw [kj, ki] at hco; simp [compat] at hco
  · rcases fi with ⟨ki, rfl, fi⟩ | ⟨ki, e', ob', d1', d2', rfl, fi⟩ | ⟨ki, fi⟩ | ⟨ki, fi⟩ | ⟨ki, fi⟩ | ⟨ki, fi⟩ | ⟨ki, fi⟩ | ki | ⟨ki, _⟩
    · rw [kj, ki] at hco; simp [compat] at hco
    · obtain ⟨g1, g2⟩ := fj e' ob' d2' (fun hh => a2 e' hh d1')
      exact ⟨_, fi s.sto g1, lift g2, henv⟩
    all_goals (rw [kj, ki] at hco; simp [compat] at hco)
  · rcases fi with ⟨ki, _⟩ | ⟨ki, _⟩ | ⟨ki, _⟩ | ⟨ki, _⟩ | ⟨ki, _⟩ | ⟨ki, _⟩ | ⟨ki, _⟩ | ki | ⟨ki, _⟩ <;> (rw [kj, ki] at hco; simp [compat] at hco)
  · rcases fi with ⟨ki, rfl, fi⟩ | ⟨ki, e', ob', d1', d2', rfl, fi⟩ | ⟨ki, fi⟩ | ⟨ki, fi⟩ | ⟨ki, rfl, fi, _⟩ | ⟨ki, fi, q, obq, hq, rfl⟩ | ⟨ki, B', obs', d2', rfl, fi⟩ | ki | ⟨ki, q, e, ob, g1, g2, g3, g4, rfl⟩
    · exact ⟨s.sto, hi', lift hj, henv⟩
    · exact ⟨_, fi s.sto d2', lift (fj _ (Ext.upd d2')), henv⟩
    · rw [kj, ki] at hco; simp [compat] at hco
    · rw [kj, ki] at hco; simp [compat] at hco
    · exact ⟨s.sto, hi', lift hj, henv⟩
    · exact ⟨_, hi', lift (fjq q _ hq), henv⟩
    · exact ⟨_, hi', lift (fj _ (updK_ext d2')), henv⟩
    · rw [kj, ki] at hco; simp [compat] at hco
    · exact ⟨_, hi', lift (fjt _ _ _ g1 (Ext.upd g4)), henv⟩
  · rcases fi with ⟨ki, rfl, fi⟩ | ⟨ki, e', ob', d1', d2', rfl, fi⟩ | ⟨ki, fi⟩ | ⟨ki, fi⟩ | ⟨ki, rfl, fi, fiq, _⟩ | ⟨ki, fi⟩ | ⟨ki, fi⟩ | ki | ⟨ki, _⟩
    · rw [kj, ki] at hco; simp [compat] at hco
    · obtain ⟨g1, g2⟩ := fj e' ob' d2' (fun hh => a2 e' hh d1')
      exact ⟨_, fi s.sto g1, lift g2, henv⟩
    · rw [kj, ki] at hco; simp [compat] at hco
    · rw [kj, ki] at hco; simp [compat] at hco
    · refine ⟨s.sto, ?_, lift hj, henv⟩
      have := fiq q (s.sto q) hq
      have e : upd (upd s.sto q (.live obq)) q (s.sto q) = s.sto := by
        funext z
        by_cases hz : z = q
        · subst hz; simp [upd]
        · simp [upd, hz]
      rw [e] at this
      exact this
    · rw [kj, ki] at hco; simp [compat] at hco
    · rw [kj, ki] at hco; simp [compat] at hco
    · rw [kj, ki] at hco; simp [compat] at hco
    · rw [kj, ki] at hco; simp [compat] at hco
  · rcases fi with ⟨ki, rfl, fi⟩ | ⟨ki, e', ob', d1', d2', rfl, fi⟩ | ⟨ki, fi⟩ | ⟨ki, fi⟩ | ⟨ki, fi⟩ | ⟨ki, fi⟩ | ⟨ki, B', obs', d2', rfl, fi⟩ | ki | ⟨ki, _⟩
    · rw [kj, ki] at hco; simp [compat] at hco
    · have hout : ¬ (B ≤ e' ∧ e' < B + obs.length) := fun hh => by
        obtain ⟨o, ho⟩ := updK_in (σ := s.sto) (obs := obs) hh.1 hh.2
        rw [ho] at d2'; simp at d2'
      rw [updK_out hout] at d2'
      refine ⟨_, fi s.sto d2', lift ?_, henv⟩
      rw [updK_upd hout]
      exact fj _ fun q h1 h2 => by rw [upd_ne _ _ (fun hh => hout (by rw [← hh]; exact ⟨h1, h2⟩))]; exact d2 q h1 h2
    · rw [kj, ki] at hco; simp [compat] at hco
    · rw [kj, ki] at hco; simp [compat] at hco
    · rw [kj, ki] at hco; simp [compat] at hco
    · rw [kj, ki] at hco; simp [compat] at hco
    · have hdis : ∀ q, B ≤ q → q < B + obs.length → ¬ (B' ≤ q ∧ q < B' + obs'.length) := fun q h1 h2 hh => by
        obtain ⟨o, ho⟩ := updK_in (σ := s.sto) (obs := obs) h1 h2
        rw [d2' q hh.1 hh.2] at ho; simp at ho
      have hfree : ∀ q, B' ≤ q → q < B' + obs'.length → s.sto q = .free := fun q h1 h2 => by
        have := d2' q h1 h2
        rwa [updK_out (fun hh => hdis q hh.1 hh.2 ⟨h1, h2⟩)] at this
      refine ⟨_, fi s.sto hfree, lift ?_, henv⟩
      rw [updK_comm hdis]
      exact fj _ fun q h1 h2 => by rw [updK_out (hdis q h1 h2)]; exact d2 q h1 h2
    · rw [kj, ki] at hco; simp [compat] at hco
    · rw [kj, ki] at hco; simp [compat] at hco
  · rcases fi with ⟨ki, _⟩ | ⟨ki, _⟩ | ⟨ki, _⟩ | ⟨ki, _⟩ | ⟨ki, _⟩ | ⟨ki, _⟩ | ⟨ki, _⟩ | ki | ⟨ki, _⟩ <;> (rw [kj, ki] at hco; simp [compat] at hco)
  · rcases fi with ⟨ki, _⟩ | ⟨ki, _⟩ | ⟨ki, _⟩ | ⟨ki, _⟩ | ⟨ki, _⟩ | ⟨ki, _⟩ | ⟨ki, _⟩ | ki | ⟨ki, _⟩ <;> (rw [kj, ki] at hco; simp [compat] at hco)

end
end Go.Abs

