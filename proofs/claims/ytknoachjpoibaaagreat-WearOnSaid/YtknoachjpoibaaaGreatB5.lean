/- The machine of abstract values and the contracts of the functions of the program, which the statements of this seat share. No condition. -/
import Derived.Test.YtknoachjpoibaaaGreatB4
import Derived.ProofKit
import Derived.OpenShut
import Derived.ChangeStays
import Derived.Test.YtknoachjpoibaaaGreatRows
import Derived.WalkKit

set_option linter.unusedSimpArgs false
set_option linter.unusedVariables false
set_option linter.constructorNameAsVariable false

namespace Go.Proofs.YtknoachjpoibaaaGreat
open Go Go.Abs

set_option maxHeartbeats 4000000

-- numbers that an iterator yields, as a slice

noncomputable def apC (N i : Nat) : C := if i = 0 ∨ N < i then .sl true true [] else .own (fk (i - 1)) 1 0 i
def apSl (L : List Int) (i e : Nat) : Slot := if e + 1 = i then .live ⟨false, false, 1, (L.take i).map cI⟩ else if e + 1 < i then .dead else .gh

theorem apC_zero (N : Nat) : apC N 0 = .sl true true [] := if_pos (.inl rfl)
theorem apC_succ {N i : Nat} (h : i < N) : apC N (i + 1) = .own (fk i) 1 0 (i + 1) := by
 unfold apC; rw [if_neg (by omega)]; rfl
theorem apC_cell (N i : Nat) : C.cell (apC N i) = true := by unfold apC; split <;> rfl
theorem ints_pure (L : List Int) : (L.map cI).all purel = true := all_purel_map fun _ => rfl
theorem ints_wil (K : List Nat) (L : List Int) : (L.map cI).all (wil K) = true := by
 rw [List.all_eq_true]; intro r hr; obtain ⟨z, _, rfl⟩ := List.mem_map.1 hr; rfl
theorem ints_cell (L : List Int) : (L.map cI).all (fun r => r.all C.cell) = true := by
 rw [List.all_eq_true]; intro r hr; obtain ⟨z, _, rfl⟩ := List.mem_map.1 hr; rfl

theorem apSl_ok {K : List Nat} (L : List Int) (i e : Nat) : apSl L i e ≠ .free ∧ ∀ o, apSl L i e = .live o → o.rows.all (wil K) = true ∧ o.rows.all (fun r => r.all C.cell) = true := by
 unfold apSl
 split
 ·refine ⟨by simp, fun o ho => ?_⟩
  cases ho
  exact ⟨ints_wil _ _, ints_cell _⟩
 ·split <;> exact ⟨by simp, fun o ho => by cases ho⟩

theorem apSl_next {m : Nat → Nat → Prop} (L : List Int) {i e : Nat} (he : e ≠ i) : SlotOk m (apSl L i e) (apSl L (i + 1) e) := by
 unfold apSl
 by_cases h1 : e + 1 = i
 ·rw [if_pos h1, if_neg (by omega), if_pos (by omega)]; trivial
 ·rw [if_neg h1]
  by_cases h2 : e + 1 < i
  ·rw [if_pos h2, if_neg (by omega), if_pos (by omega)]; trivial
  ·rw [if_neg h2, if_neg (by omega), if_neg (by omega)]; rfl

theorem take_ints (L : List Int) {i : Nat} (hi : i < L.length) : (L.take (i + 1)).map cI = (L.take i).map cI ++ [[encI L[i]]] := by
 rw [List.take_succ_eq_append_getElem hi, List.map_append]; rfl

@[simp] noncomputable abbrev Ta (N i : Nat) : List (Nat × Nat × Slot) := [(1000002, 1000002, .live (o1 (apC N i)))]

theorem appendSeq99 (g : FuncId) (first caps : List C) (L : List Int) (hp1 : purel first = true) (hp2 : purel caps = true) (hit : ItC Tryz.prog 1000000 g first caps (itI L)) (hn : L.length ≤ 1000000) :
  Pure Tryz.prog 99 [.sl true true [], .fn (.func g) first caps] (slI L) := by
 have w1 : ∀ K, wil K first = true := fun K => purel_wil K first hp1
 have w2 : ∀ K, wil K caps = true := fun K => purel_wil K caps hp2
 obtain ⟨N, hN⟩ : ∃ N, L.length = N := ⟨_, rfl⟩
 have hil : (itI L).length = N := by simp [hN]
 refine ZF (fn := Tryz.f99) [.tmp 4] ⟨Tryz.func99, rfl, by kernel_rfl⟩ fun x hx hσ => ?_
 (repeat refine ZQ ?_); refine ZR fun K hK => ?_; simp (maxSteps := 1000000) [ty29]; refine hK _ ?_; clear hK K
 (repeat refine ZQ ?_)
 (repeat refine ZQ ?_); refine ZR fun K hK => ?_; simp (maxSteps := 1000000) [ty128]; refine hK _ ?_; clear hK K
 (repeat refine ZQ ?_); refine awp_block ?_
 have hfam := famOkS (L := 1000000) (K := [1000002]) (N := N) (T := fun i => Ta N i) (M := fun i e => apSl L i e) (by decide) (by simp) (by simp) (fun i => by simp)
  (fun i p hp => by
   simp only [Ta, List.mem_cons, List.not_mem_nil, or_false] at hp
   subst hp
   refine ⟨_, rfl, ?_, ?_⟩
   ·unfold apC
    split
    ·simp [wil, C.wi]
    ·have : i - 1 < N := by omega
     simp [wil, C.wi, this]
   ·simp only [List.all_cons, List.all_nil, apC_cell]; rfl)
  (fun i e he => apSl_ok L i e)
 refine awp_rangeG 1000000 _ _ (itI L) N .ret [(2, .ptr 1000002 1 0 0), (6, .fn (.func g) first caps)] [(2, .ptr 1000002 1 0 0)] (first := first) (caps := caps) ?_ hσ hfam (by simp) (by rw [hx]; decide) ⟨hp1, hp2⟩ hit (by omega)
  (by simp [C.wi, wil, w1, w2]) (by simp [C.wi, wil]) ?_ ?_ ?_ ?_
 ·refine Wk.trans (wk_shape (E := [(2, .ptr 1000002 1 0 0), (6, .fn (.func g) first caps)]) (T := [(1000002, 2, .live (o1 (.sl true true [])))]) (shp0 hσ (by simp) (by simp) ?_) ?_) ?_
  ·simp [SlotOk]
   exact .same (by simp [purel, C.isPure])
  ·simp [mtc, mtl, mT, C.isPure, purel, hp1, hp2]
   exact ⟨mtl_pure _ _ hp1, mtl_pure _ _ hp2⟩
  ·have e1 : (fun e => apSl L 0 e) = fun _ => Slot.gh := by
    funext e; unfold apSl; rw [if_neg (by omega), if_neg (by omega)]
   simp only [Ta, e1, apC_zero]
   exact wk_famGh (by simp) N
 ·intro args ha
  obtain ⟨t, ht, rfl⟩ := List.mem_map.1 ha
  simp [purel, C.isPure]
 ·intro i args hit hi y y2 hy1 hy2 hyS hy2S
  obtain ⟨t, ht, rfl⟩ := itI_get hit
  have hi' : i < L.length := (List.getElem?_eq_some_iff.1 ht).1
  have hti : L[i] = t := (List.getElem?_eq_some_iff.1 ht).2
  have hr0 := fun i => famS_rfam (L := 1000000) (by decide) (Ta N i) N (fun e => apSl L i e) i (fun i => famS (Ta N i) N fun e => apSl L i e) rfl
  rw [hr0 i, hr0 (i + 1)]
  have hx0 := hx
  have hx := hy1.trans hx0
  (repeat refine ZQ ?_); refine ZR fun K hK => ?_; simp (maxSteps := 1000000) [ty3, putPs]; refine hK _ ?_; clear hK K; (first | show AWP _ _ _ _ _ | show ∃ _, _ | skip)
  refine ⟨by simp, ?_⟩
  have hx := hy2.trans hx0
  (repeat refine ZQ ?_); refine awp_block ?_
  have hsN := apC_succ (N := N) (i := i) (by omega)
  have hrow := take_ints L hi'
  rw [hti] at hrow
  by_cases h0 : i = 0
  ·subst h0
   rw [apC_zero]
   have e0 : (L.take 0).map cI = [] := rfl
   rw [e0] at hrow
   refine AWP.weak ?_ (wk_nilCell 1000002 0 0 1000 1 (o := o1 (.sl true true [])) (row := [.sl true true []]) (fu := true) (by simp) rfl rfl rfl (by simp [stoT]) (by decide))
   (repeat refine ZQ ?_); refine ZR fun K hK => ?_; simp (maxSteps := 1000000) [ty29, ty3]; refine hK _ ?_; clear hK K; (first | show AWP _ _ _ _ _ | show ∃ _, _ | skip)
   refine ⟨by rw [if_neg (by omega)], ?_⟩
   have hsl1 : apSl L 1 0 = .live ⟨false, false, 1, (L.take 1).map cI⟩ := if_pos rfl
   refine wk_famR (E := []) (T := (1000000, 1000000, .gh) :: Ta N 1) (fun e => if e = 0 then 11 else fk e) hy2S (hr0 0) (by simp [mT]) (by simp) ?_ (by simp) (by simp) (by simp) ?_ ?_ ?_ (by simp)
   ·intro e he hne
    exact absurd (by unfold apSl; rw [if_neg (by omega), if_neg (by omega)]) hne
   ·intro e he
    by_cases hej : e = 0
    ·subst hej
     refine .inr ⟨by simp, by simp, fun e' _ h => ?_⟩
     simp only [if_true] at h
     split at h
     ·assumption
     ·simp at h
    ·simp [hej]
   ·intro e he
    by_cases hej : e = 0
    ·subst hej
     rw [hsl1, hrow]
     simp
     exact ⟨rfl, rfl, rfl, .same (by simp [purel, C.isPure])⟩
    ·simp [hej, he]
     exact apSl_next L hej
   ·have hsN1 : apC N 1 = .own (fk 0) 1 0 1 := apC_succ (by omega)
    simp [SlotOk, hsN1]
    exact .cons (by simp [mtl, mtc, mT, mF]; omega) (by simp) .nil
  ·obtain ⟨n, rfl⟩ : ∃ n, i = n + 1 := ⟨i - 1, by omega⟩
   have hsn := apC_succ (N := N) (i := n) (by omega)
   rw [hsn]
   have hnN : n < N := by omega
   have hsl : apSl L (n + 1) n = .live ⟨false, false, 1, (L.take (n + 1)).map cI⟩ := if_pos rfl
   have hAl : ((L.take (n + 1)).map cI).length = n + 1 := by simp; omega
   have hAp := ints_pure (L.take (n + 1))
   generalize hA : (L.take (n + 1)).map cI = A at *
   have hA2 : (L.take (n + 1 + 1)).map cI = A ++ [[encI t]] := hrow
   (repeat refine ZQ ?_); refine ZR fun K hK => ?_; simp (maxSteps := 1000000) [ty29, ty3, hnN, hsl, hAl]
   refine ⟨by omega, ?_⟩
   refine hK _ ?_; clear hK K; (first | show AWP _ _ _ _ _ | show ∃ _, _ | skip)
   refine ⟨by rw [if_neg (by omega)], ?_⟩
   have hsl1 : apSl L (n + 1 + 1) (n + 1) = .live ⟨false, false, 1, A ++ [[encI t]]⟩ := by rw [← hA2]; exact if_pos rfl
   have hsn2 := apC_succ (N := N) (i := n + 1) (by omega)
   refine wk_famR (E := []) (T := (1000000, 1000000, .gh) :: Ta N (n + 1 + 1)) (fun e => if e = n + 1 then 11 else fk e) hy2S (hr0 (n + 1)) (by simp [mT]) (by simp) ?_ (by simp) (by simp) (by simp) ?_ ?_ ?_ (by simp)
   ·intro e he hne
    by_cases hej : e = n + 1
    ·subst hej
     exact absurd (by unfold apSl; rw [if_neg (by omega), if_neg (by omega)]) hne
    ·simp [hej]
   ·intro e he
    by_cases hej : e = n + 1
    ·subst hej
     refine .inr ⟨by simp, by simp, fun e' _ h => ?_⟩
     simp only [if_true] at h
     split at h
     ·assumption
     ·simp at h
    ·simp [hej]
   ·intro e he
    by_cases hej : e = n + 1
    ·subst hej
     rw [hsl1]
     simp
     exact ⟨rfl, rfl, rfl, .same (by simp [purel, C.isPure]; exact fun x h => List.all_eq_true.1 hAp x h)⟩
    ·by_cases hen : e = n
     ·subst hen
      have hd : apSl L (e + 1 + 1) e = .dead := by unfold apSl; rw [if_neg (by omega), if_pos (by omega)]
      rw [hd]
      simp [hej]
      trivial
     ·simp [hej, hen, he]
      exact apSl_next L hej
   ·simp [SlotOk, hsn2]
    exact .cons (by simp [mtl, mtc, mT, mF]; omega) (by simp) .nil
 ·intro he s' hs'
  refine AWP.weak ?_ hs'
  rw [hil]
  by_cases h0 : N = 0
  ·have hLn : L = [] := List.eq_nil_of_length_eq_zero (by omega)
   rw [h0]
   simp only [Ta, apC_zero]
   (repeat refine ZQ ?_); refine ZR fun K hK => ?_; simp (maxSteps := 1000000) [ty29]; refine hK _ ?_; clear hK K
   (repeat refine ZQ ?_); refine awp_ret ?_; refine And.intro (Or.inr rfl) ?_
   simp [retC, resC, viewC, mapO, hLn]
  ·obtain ⟨n, hn1⟩ : ∃ n, N = n + 1 := ⟨N - 1, by omega⟩
   have hsn := apC_succ (N := N) (i := n) (by omega)
   have hLe : L.isEmpty = false := by
    cases L with
    | nil => simp at hN; omega
    | cons a l => rfl
   have hsl : apSl L (n + 1) n = .live ⟨false, false, 1, L.map cI⟩ := by
    unfold apSl; rw [if_pos rfl, List.take_of_length_le (by omega)]
   subst hn1
   simp only [Ta, hsn]
   (repeat refine ZQ ?_); refine ZR fun K hK => ?_; simp (maxSteps := 1000000) [ty29]; refine hK _ ?_; clear hK K
   (repeat refine ZQ ?_); refine awp_ret ?_; refine And.intro (Or.inr rfl) ?_
   refine ⟨_, by simp [retC, resC]; rfl, ?_⟩
   rw [viewC_own (o := ⟨false, false, 1, L.map cI⟩) (by simp [hsl]) rfl (by simp [hN]) (ints_pure L)]
   simp [hLe]
 ·intro hlt
  rw [hil] at hlt
  omega

theorem collect63 (g : FuncId) (first caps : List C) (L : List Int) (hp1 : purel first = true) (hp2 : purel caps = true) (hit : ItC Tryz.prog 1000000 g first caps (itI L)) (hn : L.length ≤ 1000000) :
  Pure Tryz.prog 63 [.fn (.func g) first caps] (slI L) := by
 have h := appendSeq99 g first caps L hp1 hp2 hit hn
 simp only [slI] at h
 refine ZF (fn := Tryz.f63) [.tmp 2] ⟨Tryz.func63, rfl, by kernel_rfl⟩ fun x hx hσ => ?_
 (repeat refine ZQ ?_); refine ZR fun K hK => ?_; simp (maxSteps := 1000000) [ty29]; refine hK _ ?_; clear hK K
 (repeat refine ZQ ?_); refine ZR fun K hK => ?_; simp (maxSteps := 1000000) [ty128, ty29]
 refine callP h (by simp [purel, C.isPure, hp1, hp2]) ?_
 simp
 refine hK _ ?_; clear hK K
 (repeat refine ZQ ?_); refine awp_ret ?_; refine And.intro (Or.inr rfl) ?_
 simp [retC, resC, viewC, mapO]

set_option maxHeartbeats 8000000

-- the gains of a day, and the doubt

theorem onC_bd {c : Co} {day : Int} {M : List (Int × Int)} {g : Int} (h : g ∈ onC c day M) : -c.gain ≤ g ∧ g ≤ c.gain := mem_seqI.1 (List.mem_filter.1 h).1

theorem onC_len (c : Co) (day : Int) (M : List (Int × Int)) (hg : 0 ≤ c.gain ∧ c.gain ≤ 50) : (onC c day M).length ≤ 101 := by
 have h := List.length_filter_le (onB c day M) (seqI (-c.gain) c.gain)
 have h2 : (seqI (-c.gain) c.gain).length = (c.gain - -c.gain + 1).toNat := seqN_len _ _
 unfold onC
 omega

theorem collOn (w : Ws) (G : List (Int × List Int)) (nl nl' : Bool) (M M' : List (Int × Int)) (day : Int) (hw : WsNum w G) (hM : M.length ≤ 1) :
  Pure Tryz.prog 63 [.fn (.func 98) [] [.ip (cCd w G nl' M') 0, .ip [encI day] 0, .ip [.md nl (rowsK M)] 0]] (slI (onC (co w G) day M)) :=
 collect63 98 [] _ _ rfl (by simp [purel, C.isPure]) (on98 w G nl nl' M M' day hw hM) (by have := onC_len (co w G) day M hw.gain; omega)

def spanL (L : List Int) : Int := L.getLastD 0 - L.headD 0
def doubtTo (c : Co) (M : List (Int × Int)) : Nat → Int
 | 0 => 0
 | d + 1 => doubtTo c M d + spanL (onC c (d : Nat) M)
/-- The doubt, where some gains are known. -/
def doubtC (c : Co) (M : List (Int × Int)) : Int := doubtTo c M (c.last + 1).toNat

theorem spanL_at {L : List Int} (h : 0 < L.length) : L[L.length - 1]'(by omega) - L[0] = spanL L := by
 cases L with
 | nil => simp at h
 | cons a l => simp [spanL, List.getLastD_eq_getLast?, List.getLast?_eq_getElem?]

theorem doubt67 (w : Ws) (G : List (Int × List Int)) (nl nl' : Bool) (M M' : List (Int × Int)) (hw : WsNum w G) (hM : M.length ≤ 1) (hne : ∀ d : Nat, d ≤ w.last.toNat → onC (co w G) d M ≠ []) :
  Pure Tryz.prog 67 [encCd w G nl' M', .md nl (rowsK M)] (encI (doubtC (co w G) M)) := by
 have hl := hw.last
 have hg := hw.gain
 obtain ⟨N, hN⟩ : ∃ N : Nat, (w.last + 1).toNat = N := ⟨_, rfl⟩
 have hN' : (N : Int) = w.last + 1 := by omega
 have hd : doubtC (co w G) M = doubtTo (co w G) M N := by unfold doubtC; rw [hN]
 have hbd : ∀ d : Nat, -100 * (d : Int) ≤ doubtTo (co w G) M d ∧ doubtTo (co w G) M d ≤ 100 * (d : Int) := by
  intro d
  induction d with
  | zero => simp [doubtTo]
  | succ d ih =>
   have h1 : -100 ≤ spanL (onC (co w G) (d : Nat) M) ∧ spanL (onC (co w G) (d : Nat) M) ≤ 100 := by
    by_cases h0 : 0 < (onC (co w G) (d : Nat) M).length
    ·rw [← spanL_at h0]
     have h2 := onC_bd (List.getElem_mem (l := onC (co w G) (d : Nat) M) (n := (onC (co w G) (d : Nat) M).length - 1) (by omega))
     have h3 := onC_bd (List.getElem_mem (l := onC (co w G) (d : Nat) M) (n := 0) h0)
     simp only at h2 h3
     omega
    ·have : onC (co w G) (d : Nat) M = [] := List.eq_nil_of_length_eq_zero (by omega)
     rw [this]; simp [spanL]
   simp only [doubtTo]
   omega
 have hw1 : IntKind.i64.wrap (w.last + 1) = (N : Int) := by rw [wrap_id (by omega) (by omega)]; omega
 rw [hd]
 refine ZF (fn := Tryz.f67) [.tmp 4] ⟨Tryz.func67, rfl, by kernel_rfl⟩ fun x hx hσ => ?_
 (repeat refine ZQ ?_); refine ZR fun K hK => ?_; simp (maxSteps := 1000000) [ty89]; refine hK _ ?_; clear hK K
 (repeat refine ZQ ?_); refine ZR fun K hK => ?_; simp (maxSteps := 1000000) [ty3]; refine hK _ ?_; clear hK K
 (repeat refine ZQ ?_); refine ZR fun K hK => ?_; simp (maxSteps := 1000000) [ty89, ty28, ty3, hw1]; refine hK _ ?_; clear hK K
 (repeat refine ZQ ?_); refine awp_block ?_
 refine awp_loop (fun i : Nat => ⟨ofL [(1, .md nl (rowsK M)), (2, .ptr 2 15 0 0), (5, encI (doubtTo (co w G) M i)), (11, encI N), (12, encI i)], stoT [(2, 2, .live (obCd w G nl' M'))]⟩)
  (fun i => i ≤ N) (fun i => N - i) 0 (Nat.zero_le _) ?_ ?_
 ·simp only [doubtTo]
  exact Zw
 ·intro i hi
  (repeat refine ZQ ?_); refine ZR fun K hK => ?_; simp (maxSteps := 1000000) [ty3]; refine hK _ ?_; clear hK K
  (repeat refine ZQ ?_); refine ZC (fun hc => ?_) (fun hc => ?_)
  ·simp at hc
   have hb1 := hbd i
   have hb2 := hbd (i + 1)
   have hst : doubtTo (co w G) M (i + 1) = doubtTo (co w G) M i + spanL (onC (co w G) (i : Nat) M) := rfl
   have hnn := hne i (by omega)
   have hbb := fun z (hz : z ∈ onC (co w G) (i : Nat) M) => onC_bd hz
   have hcoll := collOn w G nl nl' M M' i hw hM
   have hlen := onC_len (co w G) i M hg
   generalize onC (co w G) (i : Nat) M = L at *
   have h0 : 0 < L.length := List.length_pos_iff.2 hnn
   have hsp := spanL_at h0
   rw [← hsp] at hst
   have h2 := hbb _ (List.getElem_mem (show L.length - 1 < L.length by omega))
   have h3 := hbb _ (List.getElem_mem h0)
   simp only at h2 h3
   have hm1 : IntKind.i64.wrap ((L.length : Int) - 1) = ((L.length - 1 : Nat) : Int) := by rw [wrap_id (by omega) (by omega)]; omega
   have hlt : L.length - 1 < L.length := by omega
   have hws : IntKind.i64.wrap (L[L.length - 1] - L[0]) = L[L.length - 1] - L[0] := wrap_id (by omega) (by omega)
   have hwt : IntKind.i64.wrap (doubtTo (co w G) M i + (L[L.length - 1] - L[0])) = doubtTo (co w G) M (i + 1) := by rw [← hst]; exact wrap_id (by omega) (by omega)
   refine awp_skip ?_
   (repeat refine ZQ ?_); refine awp_block ?_
   (repeat refine ZQ ?_); refine ZR fun K hK => ?_; simp (maxSteps := 1000000) [ty3]; refine hK _ ?_; clear hK K
   (repeat refine ZQ ?_); refine ZR fun K hK => ?_; simp (maxSteps := 1000000) [ty89, ty3, ty87]
   refine ZP (on60 w G nl nl' M M' i) ?_; simp (maxSteps := 1000000) [ty92]
   refine ZP (hcoll) ?_; simp (maxSteps := 1000000) [ty29]
   refine hK _ ?_; clear hK K
   (repeat refine ZQ ?_); refine ZD [] [0, 1, 2, 3, 4, 5, 6, 7, 8, 9, 10, 11, 12] fun K hK => ?_; simp (maxSteps := 1000000) [ty29, ty3, hm1, h0, hlt, hws, hwt]; refine hK _ ?_; clear hK K
   (repeat refine ZQ ?_); refine ZR fun K hK => ?_; simp (maxSteps := 1000000) [ty3]; refine hK _ ?_; clear hK K; (first | show AWP _ _ _ _ _ | show ∃ _, _ | skip)
   rw [wrap_id (by omega) (by omega)]
   refine ⟨i + 1, by omega, by omega, ?_⟩
   exact Zw
  ·simp at hc
   (repeat refine ZQ ?_); refine awp_exit ?_; (first | show AWP _ _ _ _ _ | show ∃ _, _ | skip)
   have hiN : i = N := by omega
   rw [hiN]
   (repeat refine ZQ ?_); refine ZR fun K hK => ?_; simp (maxSteps := 1000000) [ty3]; refine hK _ ?_; clear hK K
   (repeat refine ZQ ?_); refine awp_ret ?_; refine And.intro (Or.inr rfl) ?_
   simp [retC, resC, viewC, mapO]

/-- What On answers. -/
def onW (w : Ws) (day : Int) : List Int := if openW w (dayB w day) = 0 then onC (co w (gl w)) day [] else []

theorem open_yes {w : Ws} {is : Bool} (hn : WsLen w) (hz : openW w is = 0) : Pure Tryz.prog 57 [encWs w, .bool is] (.tup [encCd w (gl w) true [], encI 0]) := by
 have h := open57 w is hn
 rw [if_pos hz, hz] at h
 exact h
theorem open_no {w : Ws} {is : Bool} (hn : WsLen w) (hz : openW w is ≠ 0) : Pure Tryz.prog 57 [encWs w, .bool is] (.tup [zCd, encI (openW w is)]) := by
 have h := open57 w is hn
 rw [if_neg hz] at h
 exact h

theorem w_on18 (w : Ws) (day : Int) (hn : WsLen w) : Pure Tryz.prog 18 [encWs w, encI day] (.tup [slI (onW w day), encI (openW w (dayB w day))]) := by
 by_cases hz : openW w (dayB w day) = 0
 ·obtain ⟨hok, his, hcan⟩ := openW_ok hz
  have hop := open_yes hn hz
  have hco := collOn w (gl w) true true [] [] day hok.num (by simp)
  simp only [rowsK_nil] at hco
  have hT : onW w day = onC (co w (gl w)) day [] := if_pos hz
  refine ZF (fn := Tryz.f18) [.tmp 4, .tmp 5] ⟨Tryz.func18, rfl, by kernel_rfl⟩ fun x hx hσ => ?_
  (repeat refine ZQ ?_); refine ZR fun K hK => ?_; simp (maxSteps := 1000000) [ty28, ty37]; refine hK _ ?_; clear hK K
  (repeat refine ZQ ?_); refine ZD [] [0, 1, 2, 3, 4, 5, 6, 7, 8, 9, 10] fun K hK => ?_; simp (maxSteps := 1000000) [ty28, ty3]
  refine ZE (isDay62 w day) ?_; simp (maxSteps := 1000000) [ty28]
  refine ZE (hop) ?_; simp (maxSteps := 1000000) [ty89]
  refine hK _ ?_; clear hK K
  (repeat refine ZQ ?_); refine ZR fun K hK => ?_; simp (maxSteps := 1000000) [ty37]; refine hK _ ?_; clear hK K
  (repeat refine ZQ ?_); refine ZC (fun hd => ?_) (fun hd => ?_)
  ·simp at hd
  ·clear hd
   refine awp_skip ?_
   (repeat refine ZQ ?_); refine ZR fun K hK => ?_; simp (maxSteps := 1000000) [ty89, ty3, ty87]
   refine ZP (on60 w (gl w) true true [] [] day) ?_; simp (maxSteps := 1000000) [ty92]
   refine ZP (hco) ?_; simp (maxSteps := 1000000) [ty29]
   refine hK _ ?_; clear hK K
   (repeat refine ZQ ?_); refine awp_ret ?_; refine And.intro (Or.inr rfl) ?_
   simp [retC, resC, viewC, mapO, hT, hz]
 ·have hop := open_no hn hz
  have hT : onW w day = [] := if_neg hz
  refine ZF (fn := Tryz.f18) [.tmp 4, .tmp 5] ⟨Tryz.func18, rfl, by kernel_rfl⟩ fun x hx hσ => ?_
  (repeat refine ZQ ?_); refine ZR fun K hK => ?_; simp (maxSteps := 1000000) [ty28, ty37]; refine hK _ ?_; clear hK K
  (repeat refine ZQ ?_); refine ZD [] [0, 1, 2, 3, 4, 5, 6, 7, 8, 9, 10] fun K hK => ?_; simp (maxSteps := 1000000) [ty28, ty3]
  refine ZE (isDay62 w day) ?_; simp (maxSteps := 1000000) [ty28]
  refine ZE (hop) ?_; simp (maxSteps := 1000000) [ty89]
  refine hK _ ?_; clear hK K
  (repeat refine ZQ ?_); refine ZR fun K hK => ?_; simp (maxSteps := 1000000) [ty37]; refine hK _ ?_; clear hK K
  (repeat refine ZQ ?_); refine ZC (hc := by simp [hz]; rfl) (fun hd => ?_) (fun hd => ?_)
  ·clear hd
   (repeat refine ZQ ?_); refine ZR fun K hK => ?_; simp (maxSteps := 1000000) [ty37]; refine hK _ ?_; clear hK K
   (repeat refine ZQ ?_); refine awp_ret ?_; refine And.intro (Or.inr rfl) ?_
   simp [retC, resC, viewC, mapO, hT]
  ·simp [hz] at hd

end Go.Proofs.YtknoachjpoibaaaGreat

/- 'for .. := range f' in a round of another one. No condition. -/
namespace Go.Abs
section
variable {P : Program}

/-- A RANGE OVER A FUNCTION, in a round of another one. -/
theorem awp_rangeIn {x : Ctx} {t : Nat} {ps : Array Tmp} {assign body : Code} {Q : Exit → AS → Prop} (L : Nat) (K : List Nat) (F : Nat → List (Nat × Nat × Slot)) (items : List (List C)) (stop : Nat) (jc : Code) (E0 El : List (Nat × C)) {gf : FuncId} {first caps : List C}
    {s : AS} (hw0 : Wk x s ⟨ofL E0, stoT (F 0)⟩) (hxk : ∀ k, x.σ k ≠ .free → k ∈ K) (hg : ofL E0 t = .fn (.func gf) first caps) (hgt : t < x.nt) (hpu : purel first = true ∧ purel caps = true) (hit : ItC P L gf first caps items) (hstop : stop ≤ items.length)
    (hK : ∀ k ∈ K, L < k) (nd : K.Nodup) (hF : ∀ i, (F i).map (·.1) = K ∧ (F i).map (·.2.1) = K) (hst : ∀ i, ∀ p ∈ F i, p.2.2 = .gh ∨ ∃ o, p.2.2 = .live o ∧ o.rows.all (wil K) = true ∧ o.rows.all (fun r => r.all C.cell) = true)
    (hE0 : ∀ p ∈ E0, p.2.wi K = true) (hE : ∀ p ∈ El, p.2.wi K = true ∧ ofL E0 p.1 = p.2) (hps : ∀ args ∈ items, purel args = true ∧ args.length = ps.size)
    (hround : ∀ i args, items[i]? = some args → i ≤ stop → ∀ (y y2 : Ctx), y.nt = x.nt → y2.nt = x.nt → (∀ k, y.σ k ≠ .free → k ∈ L :: K) → (∀ k, y2.σ k ≠ .free → k ∈ L :: K) →
      AWP P y assign ⟨putPs (ofL El) ps.toList args, stoT ((L, L, .gh) :: F i)⟩ (nextQ (fun s' => s'.sto L = .gh ∧ AWP P y2 body s' fun e s'' => (if i = stop then jumpOf e = some jc else e = .normal) ∧ Wk y2 s'' ⟨fun _ => .any, stoT ((L, L, .gh) :: F (i + 1))⟩) fun _ _ => False))
    (hdone : stop = items.length → ∀ s', Wk x s' ⟨ofL E0, stoT (F items.length)⟩ → Q .normal s')
    (hjump : stop < items.length → AWP P x jc ⟨ofL E0, stoT (F (stop + 1))⟩ Q) : AWP P x (.rangeFunc (.tmp t) ps assign body) s Q := by
  refine AWP.weak ?_ hw0
  have hfam : FamOk L K (fun i => stoT (F i)) := famOf K F hK nd (fun i => (hF i).1) fun i p hp => by
    rcases hst i p hp with h1 | ⟨o, h1, h2⟩
    · exact ⟨by rw [h1]; simp, fun o' e => by rw [h1] at e; cases e⟩
    · exact ⟨by rw [h1]; simp, fun o' e => by rw [h1] at e; cases e; exact h2⟩
  have hLK : L ∉ K := fun h => Nat.lt_irrefl _ (hK L h)
  have hfree : ∀ i k, k ∉ K → stoT (F i) k = .free := fun i k hk => hfam.out i k hk
  have hself : ∀ n, ∀ k ∈ K, mT (F n) k k := by
    intro n k hk
    have hk2 := hk
    rw [← (hF n).1] at hk2
    obtain ⟨p, hp, rfl⟩ := List.mem_map.1 hk2
    have e : (F n).map (·.1) = (F n).map (·.2.1) := (hF n).1.trans (hF n).2.symm
    have : p.1 = p.2.1 := (List.map_inj_left.1 e) p hp
    exact mem_mT.2 ⟨p.2.2, by rw [show (p.1, p.1, p.2.2) = p from Prod.ext rfl (Prod.ext this rfl)]; exact hp⟩
  -- what there is behind the loop
  have hend : ∀ n, Wk x ⟨ofL E0, ovS (L :: K) (stoT (F 0)) (stg L (fun i => stoT (F i)) stop n)⟩ ⟨ofL E0, stoT (F n)⟩ := by
    intro n
    have hsh : Shp x (ovS (L :: K) (stoT (F 0)) (stg L (fun i => stoT (F i)) stop n)) (F n) := by
      refine ⟨by rw [(hF n).1]; exact nd, by rw [(hF n).2]; exact nd, fun p hp => ?_, fun k hk _ => hself n k (hxk k hk)⟩
      have e : (F n).map (·.1) = (F n).map (·.2.1) := (hF n).1.trans (hF n).2.symm
      have h1 : p.1 = p.2.1 := (List.map_inj_left.1 e) p hp
      have hpK : p.1 ∈ K := by rw [← (hF n).1]; exact List.mem_map.2 ⟨p, hp, rfl⟩
      have hne : p.1 ≠ L := fun e => hLK (e ▸ hpK)
      have h2 : ovS (L :: K) (stoT (F 0)) (stg L (fun i => stoT (F i)) stop n) p.2.1 = p.2.2 := by
        rw [← h1, ovS_in (by simp [hpK])]
        simp only [stg, if_neg hne]
        exact stoT_mem (by rw [(hF n).1]; exact nd) hp
      rw [h2]
      rcases hst n p hp with h3 | ⟨o, h3, h4, h5⟩
      · rw [h3]; rfl
      · rw [h3]
        exact ⟨rfl, rfl, rfl, rows_self (hself n) _ h4 h5⟩
    exact wk_shpE hsh.gen fun t => mt_self (hself n) _ (ofL_wi hE0 t)
  refine awp_range L K (fun i => stoT (F i)) items stop jc (ofL El) hg (fun t' ht => by cases ht; exact hgt) hpu hit hstop hfam (hfree 0 L hLK) (fun k hk => rfl) (ofL_E hE) hps hxk ?_ (fun e => hdone e _ (hend _)) (fun e => AWP.weak (hjump e) (hend _))
  intro i args hit' hi l y y2 hy hy2
  rw [rfam_stoT]
  refine AWP.mono (hround i args hit' hi y y2 hy.nt hy2.nt (fun k hk => by have := hx_rfam hfam hy.σ k hk; simpa using this) (fun k hk => by have := hx_rfam hfam hy2.σ k hk; simpa using this)) ?_
  intro e s' he
  cases e with
  | normal =>
    refine ⟨he.1, AWP.mono he.2 ?_⟩
    intro e' s'' h
    unfold rndQ
    rw [rfam_stoT]
    exact h
  | _ => exact he

end
end Go.Abs

namespace Go.Proofs.YtknoachjpoibaaaGreat
open Go Go.Abs

set_option maxHeartbeats 4000000

@[simp] abbrev encP (p : Int × Int) : C := .agg [encI p.1, encI p.2]
def rowsP (v : Int × Int → Int) (ks : List (Int × Int)) : List (List C) := ks.map fun p => [encP p, encI (v p)]
@[simp] theorem rowsP_pure (v : Int × Int → Int) (ks : List (Int × Int)) : (rowsP v ks).all purel = true := by simp [rowsP, purel, C.isPure]
@[simp] theorem rowsP_wil (K : List Nat) (v : Int × Int → Int) (ks : List (Int × Int)) : (rowsP v ks).all (wil K) = true := by simp [rowsP, wil, C.wi]

theorem doesD {P : Program} {Y : YRel} {ops : Array Oper} {na : List Nat} {l : List (Nat × Oper)} {K : AS → Prop} {s : AS} {d : Option Nat} {f : FuncId} {args : List C} {r : C} {σ' : Nat → Slot} (hp : Does P f s.sto args r σ')
  (h : evalD P Y ops na l ⟨putE s.env d r, σ'⟩ K) : contCD P Y ops na l K s d 0 f args :=
 .inr (.inr (.inl ⟨.inl rfl, r, σ', hp, fun h => by simp at h, h⟩))

set_option maxHeartbeats 4000000

/-- A class. -/
structure Cl where
  size : Int
  most : Int

@[simp] abbrev cCl (c : Cl) : List C := [encI c.size, encI c.most]
@[simp] abbrev encCl (c : Cl) : C := .agg (cCl c)
def classB (c : Cl) : Bool := areaB c.size && countB c.most

set_option maxHeartbeats 4000000

def andU (a b : Int) : Int := IntKind.u64.wrap (BitVec.ofInt IntKind.u64.bits a &&& BitVec.ofInt IntKind.u64.bits b).toNat
def addU (a b : Int) : Int := IntKind.u64.wrap (a + b)
def shrU (a : Int) (b : Nat) : Int := a.fdiv (2 ^ (min b IntKind.u64.bits))
def p1 (x : Int) : Int := addU (andU (shrU x 1) 6148914691236517205) (andU x 6148914691236517205)
def p2 (x : Int) : Int := addU (andU (shrU x 2) 3689348814741910323) (andU x 3689348814741910323)
def p3 (x : Int) : Int := andU (addU (shrU x 4) x) 1085102592571150095
def p4 (x : Int) (n : Nat) : Int := addU x (shrU x n)
set_option maxHeartbeats 4000000

@[simp] theorem take_mapLen {α : Type} (f : α → List C) (l : List α) : List.take l.length (l.map f) = l.map f := List.take_of_length_le (by simp)

/-- The tests of a set. -/
def listS (t : Ti) (s : Nat) : List Int := fixTo (fun i => s.testBit i) t.ts.length

set_option maxHeartbeats 8000000

-- Drift

def driftS (s : Int × Int) (n : Int) : Int × Int := (if s.1 < 0 ∨ n < s.1 then n else s.1, if s.2 < n then n else s.2)
def driftIn (c : Co) (a b g : Int) (s : Int × Int) : Int × Int := (onC c b [(a, g)]).foldl (fun s later => driftS s (g - later)) s
def driftL (c : Co) (a b : Int) : Int × Int := (onC c a []).foldl (fun s g => driftIn c a b g s) (-1, 0)
def isAB (w : Ws) (a b : Int) : Bool := dayB w a && dayB w b && decide (a ≤ b)
def driftW (w : Ws) (a b : Int) : Int × Int := if openW w (isAB w a b) = 0 then driftL (co w (gl w)) a b else (0, 0)

theorem fold_step {α β : Type} (f : β → α → β) (s : β) {L : List α} {i : Nat} (hi : i < L.length) : (L.take (i + 1)).foldl f s = f ((L.take i).foldl f s) L[i] := by
 rw [List.take_succ_eq_append_getElem hi, List.foldl_append]; rfl

@[simp] abbrev obSp (s : Int × Int) : Ob := ⟨false, false, 2, [[encI s.1, encI s.2]]⟩
@[simp] abbrev Fo (w : Ws) (a b : Int) (s : Int × Int) : List (Nat × Nat × Slot) := [(2000004, 2000004, .live (obI a)), (2000005, 2000005, .live (obI b)), (2000006, 2000006, .live (obSp (0, 0))), (2000008, 2000008, .live (obCd w (gl w) true [])), (2000010, 2000010, .live (obSp s))]
@[simp] abbrev Fi (w : Ws) (a b g : Int) (s : Int × Int) : List (Nat × Nat × Slot) := (1000011, 1000011, .live (obI g)) :: (2000000, 2000000, .gh) :: Fo w a b s


theorem w_drift22 (w : Ws) (a b : Int) (hn : WsLen w) : Pure Tryz.prog 22 [encWs w, encI a, encI b] (.tup [encP (driftW w a b), encI (openW w (isAB w a b))]) := by
 by_cases hz : openW w (isAB w a b) = 0
 ·obtain ⟨hok, his, hcan⟩ := openW_ok hz
  have hop := open_yes hn hz
  have hnum := hok.num
  have hg := hnum.gain
  have hV : driftW w a b = driftL (co w (gl w)) a b := if_pos hz
  rw [hV, hz]
  have hit1 := on98b w (gl w) true true [] [] a hnum (by simp)
  have hit2 := fun g => on98 w (gl w) false true [(a, g)] [] b hnum (by simp)
  simp only [rowsK_nil] at hit1
  have hob : ∀ g, rowsK [(a, g)] = [[encI a, encI g]] := fun g => rfl
  simp only [hob] at hit2
  have hon2 := fun g => on60 w (gl w) false true [(a, g)] [] b
  simp only [hob] at hon2
  have hm1 : ∀ z ∈ onC (co w (gl w)) a [], -50 ≤ z ∧ z ≤ 50 := fun z hz' => by
   have h1 := onC_bd hz'
   simp only at h1
   omega
  have hm2 : ∀ g, ∀ z ∈ onC (co w (gl w)) b [(a, g)], -50 ≤ z ∧ z ≤ 50 := fun g z hz' => by
   have h1 := onC_bd hz'
   simp only at h1
   omega
  have hD : driftL (co w (gl w)) a b = (onC (co w (gl w)) a []).foldl (fun s g => driftIn (co w (gl w)) a b g s) (-1, 0) := rfl
  have hDi : ∀ g s, driftIn (co w (gl w)) a b g s = (onC (co w (gl w)) b [(a, g)]).foldl (fun s later => driftS s (g - later)) s := fun g s => rfl
  rw [hD]
  simp only [hDi]
  generalize onC (co w (gl w)) a [] = L at *
  obtain ⟨L2, hL2⟩ : ∃ L2 : Int → List Int, ∀ g, onC (co w (gl w)) b [(a, g)] = L2 g := ⟨_, fun _ => rfl⟩
  simp only [hL2] at hit2 hm2 ⊢
  clear hL2 hDi hD hV
  obtain ⟨S, hS⟩ : ∃ S : Nat → Int × Int, ∀ i, (L.take i).foldl (fun s g => (L2 g).foldl (fun s later => driftS s (g - later)) s) (-1, 0) = S i := ⟨_, fun _ => rfl⟩
  have hS0 : S 0 = (-1, 0) := by rw [← hS]; rfl
  have hSs : ∀ i (hi : i < L.length), S (i + 1) = (L2 L[i]).foldl (fun s later => driftS s (L[i] - later)) (S i) := fun i hi => by
   rw [← hS, ← hS, fold_step _ _ hi]
  have hSN : L.foldl (fun s g => (L2 g).foldl (fun s later => driftS s (g - later)) s) (-1, 0) = S L.length := by rw [← hS, List.take_length]
  rw [hSN]
  clear hS hSN
  unfold isAB at his
  simp only [Bool.and_eq_true, decide_eq_true_eq] at his
  obtain ⟨⟨h1, h2⟩, h3⟩ := his
  have hab : isAB w a b = true := by unfold isAB; rw [h1, h2, decide_eq_true h3]; rfl
  rw [hab] at hop
  refine ZF (fn := Tryz.f22) [.cell 6 23, .tmp 7] ⟨Tryz.func22, rfl, by kernel_rfl⟩ fun x hx hσ => ?_
  (repeat refine ZQ ?_); refine ZR fun K hK => ?_; simp (maxSteps := 1000000) [ty28, ty37, ty3, ty23]; refine hK _ ?_; clear hK K
  (repeat refine ZQ ?_); refine ZD [] [0, 1, 2, 3, 4, 5, 6, 7, 8, 9, 10, 11, 12, 13, 14, 15, 16, 17, 18, 19, 20] fun K hK => ?_; simp (maxSteps := 1000000) [ty28, ty3, ty4]
  refine ZE (isDay62 w a) ?_; simp (maxSteps := 1000000) [ty28, ty3, ty4, h1]
  refine ZE (isDay62 w b) ?_; simp (maxSteps := 1000000) [ty28, ty3, ty4, h2, h3]
  refine ZE (hop) ?_; simp (maxSteps := 1000000) [ty89]
  refine hK _ ?_; clear hK K
  (repeat refine ZQ ?_); refine ZR fun K hK => ?_; simp (maxSteps := 1000000) [ty37]; refine hK _ ?_; clear hK K
  (repeat refine ZQ ?_); refine ZC (fun hd => ?_) (fun hd => ?_)
  ·simp at hd
  ·clear hd
   refine awp_skip ?_
   (repeat refine ZQ ?_); refine ZR fun K hK => ?_; simp (maxSteps := 1000000) [ty23, ty3]; refine hK _ ?_; clear hK K
   (repeat refine ZQ ?_); refine ZR fun K hK => ?_; simp (maxSteps := 1000000) [ty89, ty3, ty87]
   refine ZP (on60 w (gl w) true true [] [] a) ?_; simp (maxSteps := 1000000) [ty92]
   refine hK _ ?_; clear hK K
   (repeat refine ZQ ?_); refine awp_block ?_
   refine awp_range0 2000000 [2000004, 2000005, 2000006, 2000008, 2000010] (fun i => Fo w a b (S i)) (itI L) L.length .ret
    [(4, .ptr 2000004 1 0 0), (5, .ptr 2000005 1 0 0), (6, .ptr 2000006 2 0 0), (8, .ptr 2000008 15 0 0), (10, .ptr 2000010 2 0 0), (39, .fn (.func 98) [] [.ip (cCd w (gl w) true []) 0, .ip [encI a] 0, .ip [.md true []] 0])] [(4, .ptr 2000004 1 0 0), (5, .ptr 2000005 1 0 0), (8, .ptr 2000008 15 0 0), (10, .ptr 2000010 2 0 0)]
    (first := []) (caps := [.ip (cCd w (gl w) true []) 0, .ip [encI a] 0, .ip [.md true []] 0]) ?_ hσ (by simp) (by rw [hx]; decide) ⟨rfl, by simp [purel, C.isPure]⟩ hit1 (by simp) (by simp) (by simp) (fun i => by simp) (fun i => by simp [wil, C.wi]) (by simp [C.wi, wil]) (by simp [C.wi, wil]) ?_ ?_ ?_ ?_
   ·rw [hS0]
    refine wk_shape2 [(2000004, 4, .live (obI a)), (2000005, 5, .live (obI b)), (2000006, 6, .live (obSp (0, 0))), (2000008, 8, .live (obCd w (gl w) true [])), (2000010, 10, .live (obSp (-1, 0)))] (by first | rfl | (simp only [if_pos, if_true]; rfl)) (shp0 hσ (by simp) (by simp) ?_) ?_
    ·simp [SlotOk] <;> (repeat' (first | (refine RowsOk.same ?_; simp [purel, C.isPure]; done) | (refine rowsCons ?_; simp [mtl, mtc, mT, mH, C.isPure, purel]; done) | (refine rowsCons ?_; simp [mtl, mtc, mT, mH, C.isPure, purel]) | refine And.intro ?_ ?_))
    ·simp [mtc, mtl, mT, C.isPure, purel] <;> (try simp (disch := omega) [wrap_id]) <;> (try omega)
   ·intro args ha
    obtain ⟨y, hy, rfl⟩ := List.mem_map.1 ha
    simp [purel, C.isPure]
   ·intro i args hit hi y y2 hy1 hy2 hyσ hy
    obtain ⟨g, ht, rfl⟩ := itI_get hit
    have hi' := (List.getElem?_eq_some_iff.1 ht).1
    have hti : L[i] = g := (List.getElem?_eq_some_iff.1 ht).2
    have hgb := hm1 g (List.mem_of_getElem? ht)
    have hsi := hSs i hi'
    rw [hti] at hsi
    have hlb := hm2 g
    have hitg := hit2 g
    have hong := hon2 g
    generalize L2 g = U at *
    obtain ⟨R, hR⟩ : ∃ R : Nat → Int × Int, ∀ m, (U.take m).foldl (fun s later => driftS s (g - later)) (S i) = R m := ⟨_, fun _ => rfl⟩
    have hR0 : R 0 = S i := by rw [← hR]; rfl
    have hRs : ∀ m (hm : m < U.length), R (m + 1) = driftS (R m) (g - U[m]) := fun m hm => by rw [← hR, ← hR, fold_step _ _ hm]
    have hRN : U.foldl (fun s later => driftS s (g - later)) (S i) = R U.length := by rw [← hR, List.take_length]
    rw [hRN] at hsi
    rw [hsi, ← hR0]
    clear hR hRN
    have hx0 := hx
    have hx := hy1.trans hx0
    (repeat refine ZQ ?_); refine ZR fun K hK => ?_; simp (maxSteps := 1000000) [ty3, putPs]; refine hK _ ?_; clear hK K; (first | show AWP _ _ _ _ _ | show ∃ _, _ | skip)
    refine ⟨by simp, ?_⟩
    have hx := hy2.trans hx0
    (repeat refine ZQ ?_); refine awp_block ?_
    (repeat refine ZQ ?_); refine ZR fun K hK => ?_; simp (maxSteps := 1000000) [ty89, ty87, ty3, keyQ, findC]
    refine doesL (does_frz 43 (o := ⟨false, false, 0, [[encI a, encI g]]⟩) (args' := [encCd w (gl w) true [], encI b, .md false [[encI a, encI g]]]) (by simp) (by simp [purel, C.isPure]) (.cons (.inl rfl) (.cons (.inl rfl) (.cons (fz_mp rfl rfl) .nil))) (by simp [purel, C.isPure]) hong (by simp [C.isPure, purel])) ?_
    simp [ty92]
    refine hK _ ?_; clear hK K
    (repeat refine ZQ ?_); refine awp_block ?_
    refine awp_rangeIn 1000000 [1000011, 2000000, 2000004, 2000005, 2000006, 2000008, 2000010] (fun m => Fi w a b g (R m)) (itI U) U.length .ret
     [(10, .ptr 2000010 2 0 0), (11, .ptr 1000011 1 0 0), (47, .fn (.func 98) [] [.ip (cCd w (gl w) true []) 0, .ip [encI b] 0, .ip [.md false [[encI a, encI g]]] 0])] [(10, .ptr 2000010 2 0 0), (11, .ptr 1000011 1 0 0)]
     (first := []) (caps := [.ip (cCd w (gl w) true []) 0, .ip [encI b] 0, .ip [.md false [[encI a, encI g]]] 0]) ?_ (fun k hk => List.mem_cons_of_mem _ (hy k hk)) (by simp) (by rw [hx]; decide) ⟨rfl, by simp [purel, C.isPure]⟩ hitg (by simp) (by simp) (by simp) (fun i => by simp) (fun i => by simp [wil, C.wi]) (by simp [C.wi, wil]) (by simp [C.wi, wil]) ?_ ?_ ?_ ?_
    ·refine wk_round [(1000011, 11, .live (obI g)), (2000000, 2000000, .gh), (2000004, 2000004, .live (obI a)), (2000005, 2000005, .live (obI b)), (2000006, 2000006, .live (obSp (0, 0))), (2000008, 2000008, .live (obCd w (gl w) true [])), (2000010, 2000010, .live (obSp (R 0)))] rfl hy (by simp [mT]) (by simp) (by simp) ?_ ?_
     ·simp [SlotOk] <;> (repeat' (first | (refine RowsOk.same ?_; simp [purel, C.isPure]; done) | refine And.intro ?_ ?_))
     ·simp [mtc, mtl, mT, C.isPure, purel]
    ·intro args ha
     obtain ⟨y, hy, rfl⟩ := List.mem_map.1 ha
     simp [purel, C.isPure]
    ·intro m args hit hm y3 y4 hz1 hz2 hzσ hz
     have hy := hz
     obtain ⟨l, ht, rfl⟩ := itI_get hit
     have hm' := (List.getElem?_eq_some_iff.1 ht).1
     have htm : U[m] = l := (List.getElem?_eq_some_iff.1 ht).2
     have hlbb := hlb l (List.mem_of_getElem? ht)
     have hrs := hRs m hm'
     rw [htm] at hrs
     have hw1 : IntKind.i64.wrap (g - l) = g - l := wrap_id (by omega) (by omega)
     rw [hrs]
     generalize R m = r at *
     obtain ⟨lo, hi2⟩ := r
     have hx1 := hx
     have hx := hz1.trans hx1
     (repeat refine ZQ ?_); refine ZR fun K hK => ?_; simp (maxSteps := 1000000) [ty3, putPs]; refine hK _ ?_; clear hK K; (first | show AWP _ _ _ _ _ | show ∃ _, _ | skip)
     refine ⟨by simp, ?_⟩
     have hx := hz2.trans hx1
     (repeat refine ZQ ?_); refine awp_block ?_
     (repeat refine ZQ ?_); refine ZR fun K hK => ?_; simp (maxSteps := 1000000) [ty3, hw1]; refine hK _ ?_; clear hK K; (first | show AWP _ _ _ _ _ | show ∃ _, _ | skip)
     have hne : m ≠ U.length := by omega
     have hmax : (if hi2 < g - l then C.int IntKind.i64 (g - l) else C.int IntKind.i64 hi2) = C.int IntKind.i64 (if hi2 < g - l then g - l else hi2) := by split <;> rfl
     by_cases q1 : lo < 0
     ·have hds : driftS (lo, hi2) (g - l) = (g - l, if hi2 < g - l then g - l else hi2) := by unfold driftS; simp only [q1, true_or, if_true]
      rw [hds]
      (repeat refine ZQ ?_); refine ZR fun K hK => ?_; simp (maxSteps := 1000000) [ty23, ty3, q1]; refine hK _ ?_; clear hK K
      (repeat refine ZQ ?_); refine ZC (fun hd => ?_) (fun hd => ?_)
      ·clear hd
       (repeat refine ZQ ?_); refine ZR fun K hK => ?_; simp (maxSteps := 1000000) [ty23, ty3]; refine hK _ ?_; clear hK K; (first | show AWP _ _ _ _ _ | show ∃ _, _ | skip)
       by_cases q3 : hi2 < g - l
       ·(repeat refine ZQ ?_); refine ZR fun K hK => ?_; simp (maxSteps := 1000000) [ty23, ty3, q3]; refine hK _ ?_; clear hK K; (first | show AWP _ _ _ _ _ | show ∃ _, _ | skip)
        refine ⟨by rw [if_neg hne], ?_⟩
        rw [if_pos q3]
        refine wk_round (E := []) ((1000000, 1000000, .gh) :: Fi w a b g (g - l, g - l)) (by first | rfl | (simp <;> rfl)) hy (by simp [mT]) (by simp) (by simp) ?_ (by simp)
        ·simp [SlotOk] <;> (repeat' (first | (refine RowsOk.same ?_; simp [purel, C.isPure]; done) | (refine rowsCons ?_; simp [mtl, mtc, mT, mH, C.isPure, purel]; done) | (refine rowsCons ?_; simp [mtl, mtc, mT, mH, C.isPure, purel]) | refine And.intro ?_ ?_)) <;> (try simp (disch := omega) [wrap_id]) <;> (try omega)
       ·(repeat refine ZQ ?_); refine ZR fun K hK => ?_; simp (maxSteps := 1000000) [ty23, ty3, q3]; refine hK _ ?_; clear hK K; (first | show AWP _ _ _ _ _ | show ∃ _, _ | skip)
        refine ⟨by rw [if_neg hne], ?_⟩
        rw [if_neg q3]
        refine wk_round (E := []) ((1000000, 1000000, .gh) :: Fi w a b g (g - l, hi2)) (by first | rfl | (simp <;> rfl)) hy (by simp [mT]) (by simp) (by simp) ?_ (by simp)
        ·simp [SlotOk] <;> (repeat' (first | (refine RowsOk.same ?_; simp [purel, C.isPure]; done) | (refine rowsCons ?_; simp [mtl, mtc, mT, mH, C.isPure, purel]; done) | (refine rowsCons ?_; simp [mtl, mtc, mT, mH, C.isPure, purel]) | refine And.intro ?_ ?_)) <;> (try simp (disch := omega) [wrap_id]) <;> (try omega)
      ·simp at hd
     ·by_cases q2 : g - l < lo
      ·have hds : driftS (lo, hi2) (g - l) = (g - l, if hi2 < g - l then g - l else hi2) := by unfold driftS; simp only [q2, or_true, if_true]
       rw [hds]
       (repeat refine ZQ ?_); refine ZR fun K hK => ?_; simp (maxSteps := 1000000) [ty23, ty3, q1, q2]; refine hK _ ?_; clear hK K
       (repeat refine ZQ ?_); refine ZC (hc := by simp [q2]; rfl) (fun hd => ?_) (fun hd => ?_)
       ·clear hd
        (repeat refine ZQ ?_); refine ZR fun K hK => ?_; simp (maxSteps := 1000000) [ty23, ty3]; refine hK _ ?_; clear hK K; (first | show AWP _ _ _ _ _ | show ∃ _, _ | skip)
        by_cases q3 : hi2 < g - l
        ·(repeat refine ZQ ?_); refine ZR fun K hK => ?_; simp (maxSteps := 1000000) [ty23, ty3, q3]; refine hK _ ?_; clear hK K; (first | show AWP _ _ _ _ _ | show ∃ _, _ | skip)
         refine ⟨by rw [if_neg hne], ?_⟩
         rw [if_pos q3]
         refine wk_round (E := []) ((1000000, 1000000, .gh) :: Fi w a b g (g - l, g - l)) (by first | rfl | (simp <;> rfl)) hy (by simp [mT]) (by simp) (by simp) ?_ (by simp)
         ·simp [SlotOk] <;> (repeat' (first | (refine RowsOk.same ?_; simp [purel, C.isPure]; done) | (refine rowsCons ?_; simp [mtl, mtc, mT, mH, C.isPure, purel]; done) | (refine rowsCons ?_; simp [mtl, mtc, mT, mH, C.isPure, purel]) | refine And.intro ?_ ?_)) <;> (try simp (disch := omega) [wrap_id]) <;> (try omega)
        ·(repeat refine ZQ ?_); refine ZR fun K hK => ?_; simp (maxSteps := 1000000) [ty23, ty3, q3]; refine hK _ ?_; clear hK K; (first | show AWP _ _ _ _ _ | show ∃ _, _ | skip)
         refine ⟨by rw [if_neg hne], ?_⟩
         rw [if_neg q3]
         refine wk_round (E := []) ((1000000, 1000000, .gh) :: Fi w a b g (g - l, hi2)) (by first | rfl | (simp <;> rfl)) hy (by simp [mT]) (by simp) (by simp) ?_ (by simp)
         ·simp [SlotOk] <;> (repeat' (first | (refine RowsOk.same ?_; simp [purel, C.isPure]; done) | (refine rowsCons ?_; simp [mtl, mtc, mT, mH, C.isPure, purel]; done) | (refine rowsCons ?_; simp [mtl, mtc, mT, mH, C.isPure, purel]) | refine And.intro ?_ ?_)) <;> (try simp (disch := omega) [wrap_id]) <;> (try omega)
       ·simp [q2] at hd
      ·have hds : driftS (lo, hi2) (g - l) = (lo, if hi2 < g - l then g - l else hi2) := by unfold driftS; rw [if_neg (by rintro (h | h) <;> contradiction)]
       rw [hds]
       (repeat refine ZQ ?_); refine ZR fun K hK => ?_; simp (maxSteps := 1000000) [ty23, ty3, q1, q2]; refine hK _ ?_; clear hK K
       (repeat refine ZQ ?_); refine ZC (hc := by simp [q2]; rfl) (fun hd => ?_) (fun hd => ?_)
       ·simp [q2] at hd
       ·clear hd
        refine awp_skip ?_; (first | show AWP _ _ _ _ _ | show ∃ _, _ | skip)
        by_cases q3 : hi2 < g - l
        ·(repeat refine ZQ ?_); refine ZR fun K hK => ?_; simp (maxSteps := 1000000) [ty23, ty3, q3]; refine hK _ ?_; clear hK K; (first | show AWP _ _ _ _ _ | show ∃ _, _ | skip)
         refine ⟨by rw [if_neg hne], ?_⟩
         rw [if_pos q3]
         refine wk_round (E := []) ((1000000, 1000000, .gh) :: Fi w a b g (lo, g - l)) (by first | rfl | (simp <;> rfl)) hy (by simp [mT]) (by simp) (by simp) ?_ (by simp)
         ·simp [SlotOk] <;> (repeat' (first | (refine RowsOk.same ?_; simp [purel, C.isPure]; done) | (refine rowsCons ?_; simp [mtl, mtc, mT, mH, C.isPure, purel]; done) | (refine rowsCons ?_; simp [mtl, mtc, mT, mH, C.isPure, purel]) | refine And.intro ?_ ?_)) <;> (try simp (disch := omega) [wrap_id]) <;> (try omega)
        ·(repeat refine ZQ ?_); refine ZR fun K hK => ?_; simp (maxSteps := 1000000) [ty23, ty3, q3]; refine hK _ ?_; clear hK K; (first | show AWP _ _ _ _ _ | show ∃ _, _ | skip)
         refine ⟨by rw [if_neg hne], ?_⟩
         rw [if_neg q3]
         refine wk_round (E := []) ((1000000, 1000000, .gh) :: Fi w a b g (lo, hi2)) (by first | rfl | (simp <;> rfl)) hy (by simp [mT]) (by simp) (by simp) ?_ (by simp)
         ·simp [SlotOk] <;> (repeat' (first | (refine RowsOk.same ?_; simp [purel, C.isPure]; done) | (refine rowsCons ?_; simp [mtl, mtc, mT, mH, C.isPure, purel]; done) | (refine rowsCons ?_; simp [mtl, mtc, mT, mH, C.isPure, purel]) | refine And.intro ?_ ?_)) <;> (try simp (disch := omega) [wrap_id]) <;> (try omega)
    ·intro he s' hs'
     have hrl : (itI U).length = U.length := he.symm
     rw [hrl] at hs'
     refine ⟨by rw [if_neg (by omega)], ?_⟩
     refine hs'.trans ?_
     refine wk_round (E := []) ((2000000, 2000000, .gh) :: Fo w a b (R U.length)) (by first | rfl | (simp <;> rfl)) hy (by simp [mT]) (by simp) (by simp) ?_ (by simp)
     ·simp [SlotOk] <;> (repeat' (first | (refine RowsOk.same ?_; simp [purel, C.isPure]; done) | (refine rowsCons ?_; simp [mtl, mtc, mT, mH, C.isPure, purel]; done) | (refine rowsCons ?_; simp [mtl, mtc, mT, mH, C.isPure, purel]) | refine And.intro ?_ ?_)) <;> (try simp (disch := omega) [wrap_id]) <;> (try omega)
    ·intro hlt
     simp at hlt
   ·intro he s' hs'
    refine AWP.weak ?_ hs'
    have hrl : (itI L).length = L.length := he.symm
    rw [hrl]
    (repeat refine ZQ ?_); refine ZR fun K hK => ?_; simp (maxSteps := 1000000) [ty23]; refine hK _ ?_; clear hK K
    (repeat refine ZQ ?_); refine awp_ret ?_; refine And.intro (Or.inr rfl) ?_
    simp [retC, resC, viewC, mapO, ty23]
   ·intro hlt
    simp at hlt
 ·have hop := open_no hn hz
  have hV : driftW w a b = (0, 0) := if_neg hz
  rw [hV]
  cases h1 : dayB w a
  ·have hab : isAB w a b = false := by unfold isAB; rw [h1]; rfl
   rw [hab] at hop hz ⊢
   refine ZF (fn := Tryz.f22) [.cell 6 23, .tmp 7] ⟨Tryz.func22, rfl, by kernel_rfl⟩ fun x hx hσ => ?_
   (repeat refine ZQ ?_); refine ZR fun K hK => ?_; simp (maxSteps := 1000000) [ty28, ty37, ty3, ty23]; refine hK _ ?_; clear hK K
   (repeat refine ZQ ?_); refine ZD [] [0, 1, 2, 3, 4, 5, 6, 7, 8, 9, 10, 11, 12, 13, 14, 15, 16, 17, 18, 19, 20] fun K hK => ?_; simp (maxSteps := 1000000) [ty28, ty3, ty4]
   refine ZE (isDay62 w a) ?_; simp (maxSteps := 1000000) [ty28, ty3, ty4, h1]
   refine ZE (hop) ?_; simp (maxSteps := 1000000) [ty89]
   refine hK _ ?_; clear hK K
   (repeat refine ZQ ?_); refine ZR fun K hK => ?_; simp (maxSteps := 1000000) [ty37]; refine hK _ ?_; clear hK K
   (repeat refine ZQ ?_); refine ZC (hc := by simp [hz]; rfl) (fun hd => ?_) (fun hd => ?_)
   ·clear hd
    (repeat refine ZQ ?_); refine ZR fun K hK => ?_; simp (maxSteps := 1000000) [ty37, ty23]; refine hK _ ?_; clear hK K
    (repeat refine ZQ ?_); refine awp_ret ?_; refine And.intro (Or.inr rfl) ?_
    simp [retC, resC, viewC, mapO, hz, ty23]
   ·simp [hz] at hd
  ·cases h2 : dayB w b
   ·have hab : isAB w a b = false := by unfold isAB; rw [h1, h2]; rfl
    rw [hab] at hop hz ⊢
    refine ZF (fn := Tryz.f22) [.cell 6 23, .tmp 7] ⟨Tryz.func22, rfl, by kernel_rfl⟩ fun x hx hσ => ?_
    (repeat refine ZQ ?_); refine ZR fun K hK => ?_; simp (maxSteps := 1000000) [ty28, ty37, ty3, ty23]; refine hK _ ?_; clear hK K
    (repeat refine ZQ ?_); refine ZD [] [0, 1, 2, 3, 4, 5, 6, 7, 8, 9, 10, 11, 12, 13, 14, 15, 16, 17, 18, 19, 20] fun K hK => ?_; simp (maxSteps := 1000000) [ty28, ty3, ty4]
    refine ZE (isDay62 w a) ?_; simp (maxSteps := 1000000) [ty28, ty3, ty4, h1]
    refine ZE (isDay62 w b) ?_; simp (maxSteps := 1000000) [ty28, ty3, ty4, h2]
    refine ZE (hop) ?_; simp (maxSteps := 1000000) [ty89]
    refine hK _ ?_; clear hK K
    (repeat refine ZQ ?_); refine ZR fun K hK => ?_; simp (maxSteps := 1000000) [ty37]; refine hK _ ?_; clear hK K
    (repeat refine ZQ ?_); refine ZC (hc := by simp [hz]; rfl) (fun hd => ?_) (fun hd => ?_)
    ·clear hd
     (repeat refine ZQ ?_); refine ZR fun K hK => ?_; simp (maxSteps := 1000000) [ty37, ty23]; refine hK _ ?_; clear hK K
     (repeat refine ZQ ?_); refine awp_ret ?_; refine And.intro (Or.inr rfl) ?_
     simp [retC, resC, viewC, mapO, hz, ty23]
    ·simp [hz] at hd
   ·by_cases h3 : a ≤ b
    ·have hab : isAB w a b = true := by unfold isAB; rw [h1, h2, decide_eq_true h3]; rfl
     rw [hab] at hop hz ⊢
     refine ZF (fn := Tryz.f22) [.cell 6 23, .tmp 7] ⟨Tryz.func22, rfl, by kernel_rfl⟩ fun x hx hσ => ?_
     (repeat refine ZQ ?_); refine ZR fun K hK => ?_; simp (maxSteps := 1000000) [ty28, ty37, ty3, ty23]; refine hK _ ?_; clear hK K
     (repeat refine ZQ ?_); refine ZD [] [0, 1, 2, 3, 4, 5, 6, 7, 8, 9, 10, 11, 12, 13, 14, 15, 16, 17, 18, 19, 20] fun K hK => ?_; simp (maxSteps := 1000000) [ty28, ty3, ty4]
     refine ZE (isDay62 w a) ?_; simp (maxSteps := 1000000) [ty28, ty3, ty4, h1]
     refine ZE (isDay62 w b) ?_; simp (maxSteps := 1000000) [ty28, ty3, ty4, h2, h3]
     refine ZE (hop) ?_; simp (maxSteps := 1000000) [ty89]
     refine hK _ ?_; clear hK K
     (repeat refine ZQ ?_); refine ZR fun K hK => ?_; simp (maxSteps := 1000000) [ty37]; refine hK _ ?_; clear hK K
     (repeat refine ZQ ?_); refine ZC (hc := by simp [hz]; rfl) (fun hd => ?_) (fun hd => ?_)
     ·clear hd
      (repeat refine ZQ ?_); refine ZR fun K hK => ?_; simp (maxSteps := 1000000) [ty37, ty23]; refine hK _ ?_; clear hK K
      (repeat refine ZQ ?_); refine awp_ret ?_; refine And.intro (Or.inr rfl) ?_
      simp [retC, resC, viewC, mapO, hz, ty23]
     ·simp [hz] at hd
    ·have hab : isAB w a b = false := by unfold isAB; rw [h1, h2, decide_eq_false h3]; rfl
     rw [hab] at hop hz ⊢
     refine ZF (fn := Tryz.f22) [.cell 6 23, .tmp 7] ⟨Tryz.func22, rfl, by kernel_rfl⟩ fun x hx hσ => ?_
     (repeat refine ZQ ?_); refine ZR fun K hK => ?_; simp (maxSteps := 1000000) [ty28, ty37, ty3, ty23]; refine hK _ ?_; clear hK K
     (repeat refine ZQ ?_); refine ZD [] [0, 1, 2, 3, 4, 5, 6, 7, 8, 9, 10, 11, 12, 13, 14, 15, 16, 17, 18, 19, 20] fun K hK => ?_; simp (maxSteps := 1000000) [ty28, ty3, ty4]
     refine ZE (isDay62 w a) ?_; simp (maxSteps := 1000000) [ty28, ty3, ty4, h1]
     refine ZE (isDay62 w b) ?_; simp (maxSteps := 1000000) [ty28, ty3, ty4, h2, h3]
     refine ZE (hop) ?_; simp (maxSteps := 1000000) [ty89]
     refine hK _ ?_; clear hK K
     (repeat refine ZQ ?_); refine ZR fun K hK => ?_; simp (maxSteps := 1000000) [ty37]; refine hK _ ?_; clear hK K
     (repeat refine ZQ ?_); refine ZC (hc := by simp [hz]; rfl) (fun hd => ?_) (fun hd => ?_)
     ·clear hd
      (repeat refine ZQ ?_); refine ZR fun K hK => ?_; simp (maxSteps := 1000000) [ty37, ty23]; refine hK _ ?_; clear hK K
      (repeat refine ZQ ?_); refine awp_ret ?_; refine And.intro (Or.inr rfl) ?_
      simp [retC, resC, viewC, mapO, hz, ty23]
     ·simp [hz] at hd

set_option maxHeartbeats 4000000

-- the reference of the trials: what is valid, what a truth is

theorem q_within60 (n lo hi : Int) : Pure Tryz.prog 55 [encI n, encI lo, encI hi] (.bool (withinB n lo hi)) := by
 refine ZF (fn := Tryz.f55) [.tmp 6] ⟨Tryz.func55, rfl, by kernel_rfl⟩ fun x hx hσ => ?_
 (repeat refine ZQ ?_); refine ZR fun K hK => ?_; simp (maxSteps := 1000000); refine hK _ ?_; clear hK K
 (repeat refine ZQ ?_); refine ZR fun K hK => ?_; simp (maxSteps := 1000000)
 refine ZP (within79 n lo hi) ?_; simp (maxSteps := 1000000)
 refine hK _ ?_; clear hK K
 (repeat refine ZQ ?_); refine awp_ret ?_; refine And.intro (Or.inr rfl) ?_
 simp [retC, resC, viewC, mapO]

theorem q_in74 (nl fu : Bool) (A : List Int) (n : Int) (hn : A.length ≤ 1000000) : Pure Tryz.prog 131 [.sl nl fu (A.map cI), encI n] (.bool (decide (n ∈ A))) := by
 refine ZF (fn := Tryz.f131) [.tmp 4] ⟨Tryz.func131, rfl, by kernel_rfl⟩ fun x hx hσ => ?_
 (repeat refine ZQ ?_); refine ZR fun K hK => ?_; simp (maxSteps := 1000000); refine hK _ ?_; clear hK K
 (repeat refine ZQ ?_); refine ZR fun K hK => ?_; simp (maxSteps := 1000000)
 refine ZP (in41 nl fu A n hn) ?_; simp (maxSteps := 1000000)
 refine hK _ ?_; clear hK K
 (repeat refine ZQ ?_); refine awp_ret ?_; refine And.intro (Or.inr rfl) ?_
 simp [retC, resC, viewC, mapO]

theorem q_seen25 (a g : Int) (ha : 0 ≤ a ∧ a ≤ 9000) (hg : -50 ≤ g ∧ g ≤ 50) : Pure Tryz.prog 52 [encI a, encI g] (encI (seenA a g)) := by
 have hb := mul_bd ha hg
 have hd : seenA a g = a + a * g / 1000 := rfl
 have hbd := seenA_bd ha hg
 generalize hn : a * g = n at *
 have hwn : IntKind.i64.wrap n = n := wrap_id (by omega) (by omega)
 have hq : n.tdiv 1000 = if 0 ≤ n then n / 1000 else -(-n / 1000) := by
  split
  ·exact Int.tdiv_eq_ediv_of_nonneg (by omega)
  ·have := Int.neg_tdiv (a := -n) (b := 1000)
   rw [Int.neg_neg] at this
   rw [this, Int.tdiv_eq_ediv_of_nonneg (by omega)]
 obtain ⟨q, hqe⟩ : ∃ q, q = n.tdiv 1000 := ⟨_, rfl⟩
 rw [← hqe] at hq
 have hqb : -1000 ≤ q ∧ q ≤ 1000 := by split at hq <;> omega
 have h2 : IntKind.i64.wrap q = q := wrap_id (by omega) (by omega)
 have h3 : IntKind.i64.wrap (q * 1000) = q * 1000 := wrap_id (by omega) (by omega)
 refine ZF (fn := Tryz.f52) [.tmp 4] ⟨Tryz.func52, rfl, by kernel_rfl⟩ fun x hx hσ => ?_
 (repeat refine ZQ ?_); refine ZR fun K hK => ?_; simp (maxSteps := 1000000); refine hK _ ?_; clear hK K
 (repeat refine ZQ ?_); refine ZR fun K hK => ?_; simp (maxSteps := 1000000) [ty3, hn, hwn, ← hqe, h2]; refine hK _ ?_; clear hK K; (first | show AWP _ _ _ _ _ | show ∃ _, _ | skip)
 by_cases h0 : n < q * 1000
 ·(repeat refine ZQ ?_); refine ZR fun K hK => ?_; simp (maxSteps := 1000000) [ty3, hn, hwn, h3, h0]; refine hK _ ?_; clear hK K
  (repeat refine ZQ ?_); refine ZC (hc := by simp [h0]; rfl) (fun hc => ?_) (fun hc => ?_)
  ·clear hc
   have h4 : IntKind.i64.wrap (q - 1) = q - 1 := wrap_id (by omega) (by omega)
   have h5 : a + (q - 1) = seenA a g := by rw [hd]; split at hq <;> omega
   have h6 : IntKind.i64.wrap (seenA a g) = seenA a g := wrap_id (by omega) (by omega)
   (repeat refine ZQ ?_); refine ZR fun K hK => ?_; simp (maxSteps := 1000000) [ty3, h4]; refine hK _ ?_; clear hK K
   (repeat refine ZQ ?_); refine ZR fun K hK => ?_; simp (maxSteps := 1000000) [ty3, h5, h6]; refine hK _ ?_; clear hK K
   (repeat refine ZQ ?_); refine awp_ret ?_; refine And.intro (Or.inr rfl) ?_
   simp [retC, resC, viewC, mapO]
  ·simp [h0] at hc
 ·(repeat refine ZQ ?_); refine ZR fun K hK => ?_; simp (maxSteps := 1000000) [ty3, hn, hwn, h3, h0]; refine hK _ ?_; clear hK K
  (repeat refine ZQ ?_); refine ZC (hc := by simp [h0]; rfl) (fun hc => ?_) (fun hc => ?_)
  ·simp [h0] at hc
  ·clear hc
   refine awp_skip ?_; (first | show AWP _ _ _ _ _ | show ∃ _, _ | skip)
   have h5 : a + q = seenA a g := by rw [hd]; split at hq <;> omega
   have h6 : IntKind.i64.wrap (seenA a g) = seenA a g := wrap_id (by omega) (by omega)
   (repeat refine ZQ ?_); refine ZR fun K hK => ?_; simp (maxSteps := 1000000) [ty3, h5, h6]; refine hK _ ?_; clear hK K
   (repeat refine ZQ ?_); refine awp_ret ?_; refine And.intro (Or.inr rfl) ?_
   simp [retC, resC, viewC, mapO]

theorem q_of86 (w : Wh) (n : Int) : Pure Tryz.prog 171 [encWh w, encI n] (encWh (oneW w n)) := by
 refine ZF (fn := Tryz.f171) [.cell 4 25] ⟨Tryz.func171, rfl, by kernel_rfl⟩ fun x hx hσ => ?_
 (repeat refine ZQ ?_); refine ZR fun K hK => ?_; simp (maxSteps := 1000000) [ty25]; refine hK _ ?_; clear hK K
 (repeat refine ZQ ?_); refine ZR fun K hK => ?_; simp (maxSteps := 1000000) [ty25, ty23]; refine hK _ ?_; clear hK K
 (repeat refine ZQ ?_); refine ZR fun K hK => ?_; simp (maxSteps := 1000000) [ty25]; refine hK _ ?_; clear hK K
 (repeat refine ZQ ?_); refine awp_ret ?_; refine And.intro (Or.inr rfl) ?_
 simp [retC, resC, viewC, mapO, ty25, oneW]

theorem tellA_zero {w : Wh} {y : Ts} {g : Int} (h : openI (oneW w (seenA y.area g)) y.l true ≠ 0) : tellA w y g = [] := numsI_zero h

theorem q_allows61 (t : Ti) (y : Ts) (k : Tr) (ha : 0 ≤ y.area ∧ y.area ≤ 9000) (hn : y.l.length ≤ 1000) (hg : -50 ≤ k.area ∧ k.area ≤ 50) : Pure Tryz.prog 166 [encTi t, encTs y, encTr k] (.bool (allowB t.w y k)) := by
 have hlen := numsI_len Tr.skew (oneW t.w (seenA y.area k.area)) y.l
 refine ZF (fn := Tryz.f166) [.tmp 6] ⟨Tryz.func166, rfl, by kernel_rfl⟩ fun x hx hσ => ?_
 (repeat refine ZQ ?_); refine ZR fun K hK => ?_; simp (maxSteps := 1000000) [ty62, ty119, ty166]; refine hK _ ?_; clear hK K
 (repeat refine ZQ ?_); refine ZD [] [0, 1, 2, 3, 4, 5, 6, 7, 8, 9, 10, 11, 12, 13, 14, 15] fun K hK => ?_; simp (maxSteps := 1000000) [ty62, ty25, ty119, ty3, ty166]
 refine ZE (q_seen25 y.area k.area ha hg) ?_; simp (maxSteps := 1000000) [ty25, ty62]
 refine ZE (q_of86 t.w (seenA y.area k.area)) ?_; simp (maxSteps := 1000000) [ty119, ty117]
 refine ZE (ref37 (oneW t.w (seenA y.area k.area)) y.nl y.fu y.l hn) ?_; simp (maxSteps := 1000000) [ty29]
 refine hK _ ?_; clear hK K; (first | show AWP _ _ _ _ _ | show ∃ _, _ | skip)
 by_cases hz : openI (oneW t.w (seenA y.area k.area)) y.l true = 0
 ·(repeat refine ZQ ?_); refine ZR fun K hK => ?_; simp (maxSteps := 1000000) [ty37, ty166, ty3, ty29, hz]
  refine ZP (q_in74 _ _ (numsI Tr.skew (oneW t.w (seenA y.area k.area)) y.l) k.skew (by omega)) ?_; simp (maxSteps := 1000000) [ty4]
  refine hK _ ?_; clear hK K
  (repeat refine ZQ ?_); refine awp_ret ?_; refine And.intro (Or.inr rfl) ?_
  simp [retC, resC, viewC, mapO, allowB, tellA]
  exact decide_eq_decide.2 Iff.rfl
 ·have hz' : (openI (oneW t.w (seenA y.area k.area)) y.l true == 0) = false := by simpa using hz
  have h0 := tellA_zero (w := t.w) (y := y) (g := k.area) hz
  (repeat refine ZQ ?_); refine ZR fun K hK => ?_; simp (maxSteps := 1000000) [ty37, ty166, ty3, ty29, hz']; refine hK _ ?_; clear hK K
  (repeat refine ZQ ?_); refine awp_ret ?_; refine And.intro (Or.inr rfl) ?_
  simp [retC, resC, viewC, mapO, allowB, h0]

set_option maxHeartbeats 8000000

-- Due

def byC (c : Cl) (g : Int) : Bool := decide (c.most < absI (seenA c.size g - c.size))
/-- The first day on which the instrument can err beyond a class. -/
def dueO (c : Co) (k : Cl) : Option Nat := (List.range (c.last + 1).toNat).find? fun d => (onC c (d : Nat) []).any (byC k)
def dueV (w : Ws) (k : Cl) : Int := if openW w (classB k) = 0 then (match dueO (co w (gl w)) k with | some d => (d : Int) | none => 0) else 0
def dueE (w : Ws) (k : Cl) : Int := if openW w (classB k) = 0 then (match dueO (co w (gl w)) k with | some _ => 0 | none => 3) else openW w (classB k)

theorem dueO_some {c : Co} {k : Cl} {i N : Nat} (hN : (c.last + 1).toNat = N) (hi : i < N) (h0 : ∀ d, d < i → (onC c (d : Nat) []).any (byC k) = false) (h1 : (onC c (i : Nat) []).any (byC k) = true) : dueO c k = some i := by
 unfold dueO
 rw [hN, List.find?_range_eq_some]
 exact ⟨h1, List.mem_range.2 hi, fun j hj => by rw [h0 j hj]; rfl⟩
theorem dueO_none {c : Co} {k : Cl} {N : Nat} (hN : (c.last + 1).toNat = N) (h0 : ∀ d, d < N → (onC c (d : Nat) []).any (byC k) = false) : dueO c k = none := by
 unfold dueO
 rw [hN, List.find?_range_eq_none]
 exact fun j hj => by rw [h0 j hj]; rfl


theorem w_due16 (w : Ws) (k : Cl) (hn : WsLen w) : Pure Tryz.prog 16 [encWs w, encCl k] (.tup [encI (dueV w k), encI (dueE w k)]) := by
 have hcb : classB k = (areaB k.size && countB k.most) := rfl
 by_cases hz : openW w (classB k) = 0
 ·obtain ⟨hok, his, hcan⟩ := openW_ok hz
  have hop := open_yes hn hz
  have hnum := hok.num
  have hl := hok.last
  have hV : dueV w k = (match dueO (co w (gl w)) k with | some d => (d : Int) | none => 0) := if_pos hz
  have hE : dueE w k = (match dueO (co w (gl w)) k with | some _ => 0 | none => 3) := if_pos hz
  rw [hV, hE]
  obtain ⟨N, hN⟩ : ∃ N : Nat, (w.last + 1).toNat = N := ⟨_, rfl⟩
  have hN' : (N : Int) = w.last + 1 := by omega
  have hw1 : IntKind.i64.wrap (w.last + 1) = (N : Int) := by rw [wrap_id (by omega) (by omega)]; omega
  have hsome := fun i hi => dueO_some (c := co w (gl w)) (k := k) (i := i) hN hi
  have hnone := dueO_none (c := co w (gl w)) (k := k) hN
  have hit := fun day : Nat => on98 w (gl w) true true [] [] day hnum (by simp)
  simp only [rowsK_nil] at hit
  have hmem : ∀ (day : Nat), ∀ z ∈ onC (co w (gl w)) (day : Nat) [], -50 ≤ z ∧ z ≤ 50 := fun day z hz' => by
   have h1 := onC_bd hz'
   have h2 := hnum.gain
   simp only at h1
   omega
  have hln := fun day : Nat => onC_len (co w (gl w)) (day : Nat) [] hnum.gain
  generalize dueO (co w (gl w)) k = D at *
  rw [hcb, Bool.and_eq_true] at his
  obtain ⟨h1, h2⟩ := his
  have ha := areaB_iff.1 h1
  rw [hcb, h1, h2] at hop
  simp only [Bool.and_self] at hop
  refine ZF (fn := Tryz.f16) [.cell 4 3, .cell 5 37] ⟨Tryz.func16, rfl, by kernel_rfl⟩ fun x hx hσ => ?_
  (repeat refine ZQ ?_); refine ZR fun K hK => ?_; simp (maxSteps := 1000000) [ty28, ty37, ty3, ty31]; refine hK _ ?_; clear hK K
  (repeat refine ZQ ?_); refine ZD [] [0, 1, 2, 3, 4, 5, 6, 7, 8, 9, 10, 11, 12, 13, 14, 15] fun K hK => ?_; simp (maxSteps := 1000000) [ty28, ty3, ty4, ty31]
  refine ZE (isArea58 k.size) ?_; simp (maxSteps := 1000000) [ty28, ty3, ty4, ty31, h1]
  refine ZE (isCount59 k.most) ?_; simp (maxSteps := 1000000) [ty28, ty3, ty4, ty31, h2]
  refine ZE (hop) ?_; simp (maxSteps := 1000000) [ty89]
  refine hK _ ?_; clear hK K
  (repeat refine ZQ ?_); refine ZR fun K hK => ?_; simp (maxSteps := 1000000) [ty37]; refine hK _ ?_; clear hK K
  (repeat refine ZQ ?_); refine ZC (fun hd => ?_) (fun hd => ?_)
  ·simp at hd
  ·clear hd
   refine awp_skip ?_
   (repeat refine ZQ ?_); refine ZR fun K hK => ?_; simp (maxSteps := 1000000) [ty28, ty3, hw1]; refine hK _ ?_; clear hK K
   (repeat refine ZQ ?_); refine awp_block ?_
   refine awp_loop (fun i : Nat => ⟨ofL [(3, .ptr 3 2 0 0), (4, .ptr 4 1 0 0), (5, .ptr 5 1 0 0), (6, .ptr 6 15 0 0), (29, encI N), (30, encI i)], stoT [(3, 3, .live ⟨false, false, 2, [cCl k]⟩), (4, 4, .live (obI 0)), (5, 5, .live (obI 0)), (6, 6, .live (obCd w (gl w) true []))]⟩)
    (fun i => i ≤ N ∧ ∀ d, d < i → (onC (co w (gl w)) (d : Nat) []).any (byC k) = false) (fun i => N - i) 0 (by simp) ?_ ?_
   ·exact ZW
   ·intro i ⟨hi, hd0⟩
    (repeat refine ZQ ?_); refine ZR fun K hK => ?_; simp (maxSteps := 1000000) [ty3]; refine hK _ ?_; clear hK K
    (repeat refine ZQ ?_); refine ZC (fun hc1 => ?_) (fun hc1 => ?_)
    ·simp at hc1
     have hwi : IntKind.i64.wrap ((i : Int) + 1) = ((i + 1 : Nat) : Int) := by rw [wrap_id (by omega) (by omega)]; rfl
     have hsm := hsome i hc1 hd0
     have hiti := hit i
     have hmi := hmem i
     have hli := hln i
     have hd1 : (onC (co w (gl w)) (i : Nat) []).any (byC k) = false → ∀ d, d < i + 1 → (onC (co w (gl w)) (d : Nat) []).any (byC k) = false := fun h d hd => by
      by_cases e : d = i
      ·rw [e]; exact h
      ·exact hd0 d (by omega)
     clear hnone hsome hit hmem hln
     generalize hLL : onC (co w (gl w)) (i : Nat) [] = L at *
     refine awp_skip ?_
     (repeat refine ZQ ?_); refine awp_block ?_
     (repeat refine ZQ ?_); refine ZR fun K hK => ?_; simp (maxSteps := 1000000) [ty3]; refine hK _ ?_; clear hK K
     (repeat refine ZQ ?_); refine ZR fun K hK => ?_; simp (maxSteps := 1000000) [ty89, ty3, ty87]
     refine ZP (on60 w (gl w) true true [] [] i) ?_; simp (maxSteps := 1000000) [ty92]
     refine hK _ ?_; clear hK K
     (repeat refine ZQ ?_); refine awp_block ?_
     obtain ⟨stop, hstop⟩ : ∃ stop, stop = L.findIdx (byC k) := ⟨_, rfl⟩
     have hsl : stop ≤ L.length := hstop ▸ List.findIdx_le_length
     refine awp_range0 1000000 [1000003, 1000004, 1000005, 1000006, 1000008] (fun m => [(1000003, 1000003, .live ⟨false, false, 2, [cCl k]⟩), (1000004, 1000004, .live (obI (if stop < m then (i : Int) else 0))), (1000005, 1000005, .live (obI 0)), (1000006, 1000006, .live (obCd w (gl w) true [])), (1000008, 1000008, .live (obI i))]) (itI L) stop .ret
      [(3, .ptr 1000003 2 0 0), (4, .ptr 1000004 1 0 0), (5, .ptr 1000005 1 0 0), (6, .ptr 1000006 15 0 0), (8, .ptr 1000008 1 0 0), (29, encI N), (30, encI i), (35, .fn (.func 98) [] [.ip (cCd w (gl w) true []) 0, .ip [encI i] 0, .ip [.md true []] 0])] [(3, .ptr 1000003 2 0 0), (4, .ptr 1000004 1 0 0), (5, .ptr 1000005 1 0 0), (8, .ptr 1000008 1 0 0)]
      (first := []) (caps := [.ip (cCd w (gl w) true []) 0, .ip [encI i] 0, .ip [.md true []] 0]) ?_ hσ (by simp) (by rw [hx]; decide) ⟨rfl, by simp [purel, C.isPure]⟩ hiti (by simpa using hsl) (by simp) (by simp) (fun i => by simp) (fun i => by simp [wil, C.wi]) (by simp [C.wi, wil]) (by simp [C.wi, wil]) ?_ ?_ ?_ ?_
     ·refine wk_shape2 [(1000003, 3, .live ⟨false, false, 2, [cCl k]⟩), (1000004, 4, .live (obI (if stop < 0 then (i : Int) else 0))), (1000005, 5, .live (obI 0)), (1000006, 6, .live (obCd w (gl w) true [])), (1000008, 8, .live (obI i))] (by first | rfl | (simp only [if_pos, if_true]; rfl)) (shp0 hσ (by simp) (by simp) ?_) ?_
      ·simp [SlotOk] <;> (repeat' (first | (refine RowsOk.same ?_; simp [purel, C.isPure]; done) | (refine rowsCons ?_; simp [mtl, mtc, mT, mH, C.isPure, purel]; done) | (refine rowsCons ?_; simp [mtl, mtc, mT, mH, C.isPure, purel]) | refine And.intro ?_ ?_))
      ·simp [mtc, mtl, mT, C.isPure, purel] <;> (try simp (disch := omega) [wrap_id]) <;> (try omega)
     ·intro args ha
      obtain ⟨y, hy, rfl⟩ := List.mem_map.1 ha
      simp [purel, C.isPure]
     ·intro m args hit hm y y2 hy1 hy2 hyσ hy
      obtain ⟨g, ht, rfl⟩ := itI_get hit
      have hm' := (List.getElem?_eq_some_iff.1 ht).1
      have htm : L[m] = g := (List.getElem?_eq_some_iff.1 ht).2
      have hgb := hmi g (List.mem_of_getElem? ht)
      have hsb := seenA_bd ha hgb
      have hw2 : IntKind.i64.wrap (seenA k.size g - k.size) = seenA k.size g - k.size := wrap_id (by omega) (by omega)
      have hw3 : IntKind.i64.wrap (-(seenA k.size g - k.size)) = -(seenA k.size g - k.size) := wrap_id (by omega) (by omega)
      have hby : byC k g = decide (k.most < if seenA k.size g - k.size < -(seenA k.size g - k.size) then -(seenA k.size g - k.size) else seenA k.size g - k.size) := by
       unfold byC absI
       congr 2
       split <;> split <;> omega
      have hx0 := hx
      have hx := hy1.trans hx0
      (repeat refine ZQ ?_); refine ZR fun K hK => ?_; simp (maxSteps := 1000000) [ty3, putPs]; refine hK _ ?_; clear hK K; (first | show AWP _ _ _ _ _ | show ∃ _, _ | skip)
      refine ⟨by simp, ?_⟩
      have hx := hy2.trans hx0
      (repeat refine ZQ ?_); refine awp_block ?_
      (repeat refine ZQ ?_); refine ZD [] [0, 1, 2, 3, 4, 5, 6, 7] fun K hK => ?_; simp (maxSteps := 1000000) [ty3, ty31]
      refine ZE (seen61 k.size g ha hgb) ?_; simp (maxSteps := 1000000) [ty3, ty31, hw2]
      refine hK _ ?_; clear hK K; (first | show AWP _ _ _ _ _ | show ∃ _, _ | skip)
      cases hb : byC k g
      ·have hne : m ≠ stop := by
        rintro rfl
        have := List.findIdx_getElem (p := byC k) (xs := L) (w := by rw [← hstop]; exact hm')
        simp only [← hstop, htm, hb] at this
        cases this
       rw [hb] at hby
       have hby := of_decide_eq_false hby.symm
       (repeat refine ZQ ?_); refine ZR fun K hK => ?_; simp (maxSteps := 1000000) [ty3, ty31, hw3, hby]; refine hK _ ?_; clear hK K
       (repeat refine ZQ ?_); refine ZC (hc := by simp [hby]; rfl) (fun hd => ?_) (fun hd => ?_)
       ·simp [hby] at hd
       ·clear hd
        refine awp_skip ?_
        refine ⟨by rw [if_neg hne], ?_⟩
        rw [if_neg (show ¬ stop < m + 1 by omega)]
        rw [if_neg (show ¬ stop < m by omega)]
        refine wk_round (E := []) [(1000000, 1000000, .gh), (1000003, 1000003, .live ⟨false, false, 2, [cCl k]⟩), (1000004, 1000004, .live (obI 0)), (1000005, 1000005, .live (obI 0)), (1000006, 1000006, .live (obCd w (gl w) true [])), (1000008, 1000008, .live (obI i))] (by first | rfl | (simp <;> rfl)) hy (by simp [mT]) (by simp) (by simp) ?_ (by simp)
        ·simp [SlotOk] <;> (repeat' (first | (refine RowsOk.same ?_; simp [purel, C.isPure]; done) | (refine rowsCons ?_; simp [mtl, mtc, mT, mH, C.isPure, purel]; done) | (refine rowsCons ?_; simp [mtl, mtc, mT, mH, C.isPure, purel]) | refine And.intro ?_ ?_)) <;> (try simp (disch := omega) [wrap_id]) <;> (try omega)
      ·have heq : m = stop := by
        refine Nat.le_antisymm hm (Classical.byContradiction fun hlt => ?_)
        have := List.not_of_lt_findIdx (p := byC k) (xs := L) (i := m) (by rw [← hstop]; omega)
        simp only [htm, hb] at this
        cases this
       rw [hb] at hby
       have hby := of_decide_eq_true hby.symm
       (repeat refine ZQ ?_); refine ZR fun K hK => ?_; simp (maxSteps := 1000000) [ty3, ty31, hw3, hby]; refine hK _ ?_; clear hK K
       (repeat refine ZQ ?_); refine ZC (hc := by simp [hby]; rfl) (fun hd => ?_) (fun hd => ?_)
       ·clear hd
        (repeat refine ZQ ?_); refine ZR fun K hK => ?_; simp (maxSteps := 1000000) [ty3, ty37]; refine hK _ ?_; clear hK K
        refine awp_ret ?_
        refine ⟨by rw [if_pos heq]; rfl, ?_⟩
        rw [if_pos (show stop < m + 1 by omega)]
        refine wk_round (E := []) [(1000000, 1000000, .gh), (1000003, 1000003, .live ⟨false, false, 2, [cCl k]⟩), (1000004, 1000004, .live (obI i)), (1000005, 1000005, .live (obI 0)), (1000006, 1000006, .live (obCd w (gl w) true [])), (1000008, 1000008, .live (obI i))] (by first | rfl | (simp <;> rfl)) hy (by simp [mT]) (by simp) (by simp) ?_ (by simp)
        ·simp [SlotOk] <;> (repeat' (first | (refine RowsOk.same ?_; simp [purel, C.isPure]; done) | (refine rowsCons ?_; simp [mtl, mtc, mT, mH, C.isPure, purel]; done) | (refine rowsCons ?_; simp [mtl, mtc, mT, mH, C.isPure, purel]) | refine And.intro ?_ ?_)) <;> (try simp (disch := omega) [wrap_id]) <;> (try omega)
       ·simp [hby] at hd
     ·intro he s' hs'
      refine AWP.weak ?_ hs'
      have hany : L.any (byC k) = false := by
       rw [Bool.eq_false_iff]
       intro e
       obtain ⟨g, hg, h1⟩ := List.any_eq_true.1 e
       have := List.findIdx_lt_length_of_exists ⟨g, hg, h1⟩
       rw [← hstop, he] at this
       simp at this
      rw [if_neg (by omega)]
      (repeat refine ZQ ?_); refine ZR fun K hK => ?_; simp (maxSteps := 1000000) [ty3]; refine hK _ ?_; clear hK K; (first | show AWP _ _ _ _ _ | show ∃ _, _ | skip)
      refine ⟨i + 1, ⟨by omega, hd1 hany⟩, by omega, ?_⟩
      rw [hwi]
      refine wk_shape2 [(3, 1000003, .live ⟨false, false, 2, [cCl k]⟩), (4, 1000004, .live (obI 0)), (5, 1000005, .live (obI 0)), (6, 1000006, .live (obCd w (gl w) true []))] (by first | rfl | (simp only [if_pos, if_true]; rfl)) (shp0 hσ (by simp) (by simp) ?_) ?_
      ·simp [SlotOk] <;> (repeat' (first | (refine RowsOk.same ?_; simp [purel, C.isPure]; done) | (refine rowsCons ?_; simp [mtl, mtc, mT, mH, C.isPure, purel]; done) | (refine rowsCons ?_; simp [mtl, mtc, mT, mH, C.isPure, purel]) | refine And.intro ?_ ?_))
      ·simp [mtc, mtl, mT, C.isPure, purel] <;> (try simp (disch := omega) [wrap_id]) <;> (try omega)
     ·intro hlt
      have hlt' : stop < L.length := by simpa using hlt
      have hany : L.any (byC k) = true := by
       have := List.findIdx_getElem (p := byC k) (xs := L) (w := by rw [← hstop]; exact hlt')
       exact List.any_eq_true.2 ⟨_, List.getElem_mem _, this⟩
      have hD := hsm hany
      rw [if_pos (by omega), hD]
      refine awp_ret ?_
      refine ⟨.inr rfl, ?_⟩
      simp [retC, resC, viewC, mapO, ty3, ty37]
    ·simp at hc1
     (repeat refine ZQ ?_); refine awp_exit ?_; (first | show AWP _ _ _ _ _ | show ∃ _, _ | skip)
     have hiN : i = N := by omega
     subst hiN
     have hD := hnone hd0
     rw [hD]
     (repeat refine ZQ ?_); refine ZR fun K hK => ?_; simp (maxSteps := 1000000) [ty3, ty37]; refine hK _ ?_; clear hK K
     (repeat refine ZQ ?_); refine awp_ret ?_; refine And.intro (Or.inr rfl) ?_
     simp [retC, resC, viewC, mapO, ty3, ty37]
 ·have hop := open_no hn hz
  have hV : dueV w k = 0 := if_neg hz
  have hE : dueE w k = openW w (classB k) := if_neg hz
  rw [hV, hE]
  cases h1 : areaB k.size
  ·have hc0 : classB k = false := by rw [hcb, h1]; rfl
   rw [hc0] at hop hz ⊢
   refine ZF (fn := Tryz.f16) [.cell 4 3, .cell 5 37] ⟨Tryz.func16, rfl, by kernel_rfl⟩ fun x hx hσ => ?_
   (repeat refine ZQ ?_); refine ZR fun K hK => ?_; simp (maxSteps := 1000000) [ty28, ty37, ty3, ty31]; refine hK _ ?_; clear hK K
   (repeat refine ZQ ?_); refine ZD [] [0, 1, 2, 3, 4, 5, 6, 7, 8, 9, 10, 11, 12, 13, 14, 15] fun K hK => ?_; simp (maxSteps := 1000000) [ty28, ty3, ty4, ty31]
   refine ZE (isArea58 k.size) ?_; simp (maxSteps := 1000000) [ty28, ty3, ty4, ty31, h1]
   refine ZE (hop) ?_; simp (maxSteps := 1000000) [ty89]
   refine hK _ ?_; clear hK K
   (repeat refine ZQ ?_); refine ZR fun K hK => ?_; simp (maxSteps := 1000000) [ty37]; refine hK _ ?_; clear hK K
   (repeat refine ZQ ?_); refine ZC (hc := by simp [hz]; rfl) (fun hd => ?_) (fun hd => ?_)
   ·clear hd
    (repeat refine ZQ ?_); refine ZR fun K hK => ?_; simp (maxSteps := 1000000) [ty37, ty3]; refine hK _ ?_; clear hK K
    (repeat refine ZQ ?_); refine awp_ret ?_; refine And.intro (Or.inr rfl) ?_
    simp [retC, resC, viewC, mapO, hz, ty3, ty37]
   ·simp [hz] at hd
  ·have hc0 : classB k = countB k.most := by rw [hcb, h1]; rfl
   rw [hc0] at hop hz ⊢
   refine ZF (fn := Tryz.f16) [.cell 4 3, .cell 5 37] ⟨Tryz.func16, rfl, by kernel_rfl⟩ fun x hx hσ => ?_
   (repeat refine ZQ ?_); refine ZR fun K hK => ?_; simp (maxSteps := 1000000) [ty28, ty37, ty3, ty31]; refine hK _ ?_; clear hK K
   (repeat refine ZQ ?_); refine ZD [] [0, 1, 2, 3, 4, 5, 6, 7, 8, 9, 10, 11, 12, 13, 14, 15] fun K hK => ?_; simp (maxSteps := 1000000) [ty28, ty3, ty4, ty31]
   refine ZE (isArea58 k.size) ?_; simp (maxSteps := 1000000) [ty28, ty3, ty4, ty31, h1]
   refine ZE (isCount59 k.most) ?_; simp (maxSteps := 1000000) [ty28, ty3, ty4, ty31]
   refine ZE (hop) ?_; simp (maxSteps := 1000000) [ty89]
   refine hK _ ?_; clear hK K
   (repeat refine ZQ ?_); refine ZR fun K hK => ?_; simp (maxSteps := 1000000) [ty37]; refine hK _ ?_; clear hK K
   (repeat refine ZQ ?_); refine ZC (hc := by simp [hz]; rfl) (fun hd => ?_) (fun hd => ?_)
   ·clear hd
    (repeat refine ZQ ?_); refine ZR fun K hK => ?_; simp (maxSteps := 1000000) [ty37, ty3]; refine hK _ ?_; clear hK K
    (repeat refine ZQ ?_); refine awp_ret ?_; refine And.intro (Or.inr rfl) ?_
    simp [retC, resC, viewC, mapO, hz, ty3, ty37]
   ·simp [hz] at hd

set_option maxHeartbeats 8000000

-- Blame

def blameL (L : List Int) (a s : Int) : Int := if L.countP (fun g => seenA a g == s) = L.length then 1 else if L.countP (fun g => seenA a g == s) = 0 then 2 else 3
def blameW (w : Ws) (day a s : Int) : Int := if openW w (dayB w day && areaB a && countB s) = 0 then blameL (onC (co w (gl w)) day []) a s else 0


theorem w_blame50 (w : Ws) (day a s : Int) (hn : WsLen w) : Pure Tryz.prog 50 [encWs w, encI day, encI a, encI s] (.tup [encI (blameW w day a s), encI (openW w (dayB w day && areaB a && countB s))]) := by
 by_cases hz : openW w (dayB w day && areaB a && countB s) = 0
 ·obtain ⟨hok, his, hcan⟩ := openW_ok hz
  have hop := open_yes hn hz
  have hnum := hok.num
  have hT : blameW w day a s = blameL (onC (co w (gl w)) day []) a s := if_pos hz
  have hit := on98 w (gl w) true true [] [] day hnum (by simp)
  simp only [rowsK_nil] at hit
  have hmem : ∀ z ∈ onC (co w (gl w)) day [], -50 ≤ z ∧ z ≤ 50 := fun z hz' => by
   have h1 := onC_bd hz'
   have h2 := hnum.gain
   simp only at h1
   omega
  have hln := onC_len (co w (gl w)) day [] hnum.gain
  rw [hT, hz]
  generalize onC (co w (gl w)) day [] = L at *
  simp only [Bool.and_eq_true] at his
  obtain ⟨⟨h1, h2⟩, h3⟩ := his
  have ha := areaB_iff.1 h2
  rw [h1, h2, h3] at hop
  simp only [Bool.and_self] at hop
  have hst := fun i (hi : i < L.length) => count_step (fun g => seenA a g == s) hi
  have hcb := fun i => List.countP_le_length (p := fun g => seenA a g == s) (l := L.take i)
  obtain ⟨n, hnn⟩ : ∃ n : Nat → Nat, ∀ i, (L.take i).countP (fun g => seenA a g == s) = n i := ⟨_, fun _ => rfl⟩
  have hn0 : n 0 = 0 := by rw [← hnn]; simp
  have hnN : L.countP (fun g => seenA a g == s) = n L.length := by rw [← hnn, List.take_length]
  have hbl : blameL L a s = if n L.length = L.length then 1 else if n L.length = 0 then 2 else 3 := by unfold blameL; rw [hnN]
  rw [hbl]
  simp only [hnn] at hst hcb
  have hnl : ∀ i, i ≤ L.length → n i ≤ i := fun i hi => by have := hcb i; rw [List.length_take] at this; omega
  refine ZF (fn := Tryz.f50) [.tmp 8, .tmp 9] ⟨Tryz.func50, rfl, by kernel_rfl⟩ fun x hx hσ => ?_
  (repeat refine ZQ ?_); refine ZR fun K hK => ?_; simp (maxSteps := 1000000) [ty28, ty37, ty3]; refine hK _ ?_; clear hK K
  (repeat refine ZQ ?_); refine ZD [] [0, 1, 2, 3, 4, 5, 6, 7, 8, 9, 10, 11, 12, 13, 14, 15, 16, 17, 18] fun K hK => ?_; simp (maxSteps := 1000000) [ty28, ty3, ty4]
  refine ZE (isDay62 w day) ?_; simp (maxSteps := 1000000) [ty28, ty3, ty4, h1]
  refine ZE (isArea58 a) ?_; simp (maxSteps := 1000000) [ty28, ty3, ty4, h2]
  refine ZE (isCount59 s) ?_; simp (maxSteps := 1000000) [ty28, ty3, ty4, h3]
  refine ZE (hop) ?_; simp (maxSteps := 1000000) [ty89]
  refine hK _ ?_; clear hK K
  (repeat refine ZQ ?_); refine ZR fun K hK => ?_; simp (maxSteps := 1000000) [ty37]; refine hK _ ?_; clear hK K
  (repeat refine ZQ ?_); refine ZC (fun hd => ?_) (fun hd => ?_)
  ·simp at hd
  ·clear hd
   refine awp_skip ?_
   (repeat refine ZQ ?_); refine ZR fun K hK => ?_; simp (maxSteps := 1000000) [ty3]; refine hK _ ?_; clear hK K
   (repeat refine ZQ ?_); refine ZR fun K hK => ?_; simp (maxSteps := 1000000) [ty89, ty3, ty87]
   refine ZP (on60 w (gl w) true true [] [] day) ?_; simp (maxSteps := 1000000) [ty92]
   refine hK _ ?_; clear hK K
   (repeat refine ZQ ?_); refine awp_block ?_
   refine awp_range0 1000000 [1000006, 1000007, 1000012, 1000013] (fun i => [(1000006, 1000006, .live (obI a)), (1000007, 1000007, .live (obI s)), (1000012, 1000012, .live (obI (n i : Nat))), (1000013, 1000013, .live (obI ((i - n i : Nat) : Int)))]) (itI L) L.length .ret
    [(6, .ptr 1000006 1 0 0), (7, .ptr 1000007 1 0 0), (12, .ptr 1000012 1 0 0), (13, .ptr 1000013 1 0 0), (36, .fn (.func 98) [] [.ip (cCd w (gl w) true []) 0, .ip [encI day] 0, .ip [.md true []] 0])] [(6, .ptr 1000006 1 0 0), (7, .ptr 1000007 1 0 0), (12, .ptr 1000012 1 0 0), (13, .ptr 1000013 1 0 0)]
    (first := []) (caps := [.ip (cCd w (gl w) true []) 0, .ip [encI day] 0, .ip [.md true []] 0]) ?_ hσ (by simp) (by rw [hx]; decide) ⟨rfl, by simp [purel, C.isPure]⟩ hit (by simp) (by simp) (by simp) (fun i => by simp) (fun i => by simp [wil, C.wi]) (by simp [C.wi, wil]) (by simp [C.wi, wil]) ?_ ?_ ?_ ?_
   ·refine wk_shape2 [(1000006, 6, .live (obI a)), (1000007, 7, .live (obI s)), (1000012, 12, .live (obI (n 0 : Nat))), (1000013, 13, .live (obI ((0 - n 0 : Nat) : Int)))] (by first | rfl | (simp only [if_pos, if_true, hn0]; rfl)) (shp0 hσ (by simp) (by simp) ?_) ?_
    ·simp [SlotOk, hn0] <;> (repeat' (first | (refine RowsOk.same ?_; simp [purel, C.isPure]; done) | (refine rowsCons ?_; simp [mtl, mtc, mT, mH, C.isPure, purel]; done) | (refine rowsCons ?_; simp [mtl, mtc, mT, mH, C.isPure, purel]) | refine And.intro ?_ ?_))
    ·simp [mtc, mtl, mT, C.isPure, purel, hn0] <;> (try simp (disch := omega) [wrap_id]) <;> (try omega)
   ·intro args ha
    obtain ⟨y, hy, rfl⟩ := List.mem_map.1 ha
    simp [purel, C.isPure]
   ·intro i args hit hi y y2 hy1 hy2 hyσ hy
    obtain ⟨g, ht, rfl⟩ := itI_get hit
    have hi' := (List.getElem?_eq_some_iff.1 ht).1
    have hti : L[i] = g := (List.getElem?_eq_some_iff.1 ht).2
    have hgb := hmem g (List.mem_of_getElem? ht)
    have hsi := hst i hi'
    rw [hti] at hsi
    have hli := hnl i (by omega)
    have hx0 := hx
    have hx := hy1.trans hx0
    (repeat refine ZQ ?_); refine ZR fun K hK => ?_; simp (maxSteps := 1000000) [ty3, putPs]; refine hK _ ?_; clear hK K; (first | show AWP _ _ _ _ _ | show ∃ _, _ | skip)
    refine ⟨by simp, ?_⟩
    have hx := hy2.trans hx0
    (repeat refine ZQ ?_); refine awp_block ?_
    cases hb : seenA a g == s
    ·rw [hb] at hsi
     simp at hsi
     have hw1 : IntKind.i64.wrap (((i - n i : Nat) : Int) + 1) = ((i + 1 - n i : Nat) : Int) := by rw [wrap_id (by omega) (by omega)]; omega
     (repeat refine ZQ ?_); refine ZD [] [0, 1, 2, 3, 4] fun K hK => ?_; simp (maxSteps := 1000000) [ty3]
     refine ZE (seen61 a g ha hgb) ?_; simp (maxSteps := 1000000) [ty3, hb]
     refine hK _ ?_; clear hK K
     (repeat refine ZQ ?_); refine ZC (hc := by simp [hb]; rfl) (fun hd => ?_) (fun hd => ?_)
     ·simp [hb] at hd
     ·clear hd
      (repeat refine ZQ ?_); refine ZR fun K hK => ?_; simp (maxSteps := 1000000) [ty3, hw1]; refine hK _ ?_; clear hK K; (first | show AWP _ _ _ _ _ | show ∃ _, _ | skip)
      refine ⟨by rw [if_neg (by omega)], ?_⟩
      rw [hsi]
      refine wk_round (E := []) [(1000000, 1000000, .gh), (1000006, 1000006, .live (obI a)), (1000007, 1000007, .live (obI s)), (1000012, 1000012, .live (obI (n i : Nat))), (1000013, 1000013, .live (obI ((i + 1 - n i : Nat) : Int)))] (by first | rfl | (simp <;> rfl)) hy (by simp [mT]) (by simp) (by simp) ?_ (by simp)
      ·simp [SlotOk] <;> (repeat' (first | (refine RowsOk.same ?_; simp [purel, C.isPure]; done) | (refine rowsCons ?_; simp [mtl, mtc, mT, mH, C.isPure, purel]; done) | (refine rowsCons ?_; simp [mtl, mtc, mT, mH, C.isPure, purel]) | refine And.intro ?_ ?_)) <;> (try simp (disch := omega) [wrap_id]) <;> (try omega)
    ·rw [hb] at hsi
     simp at hsi
     have hw1 : IntKind.i64.wrap ((n i : Int) + 1) = ((n i + 1 : Nat) : Int) := by rw [wrap_id (by omega) (by omega)]; omega
     have hw2 : i + 1 - (n i + 1) = i - n i := by omega
     (repeat refine ZQ ?_); refine ZD [] [0, 1, 2, 3, 4] fun K hK => ?_; simp (maxSteps := 1000000) [ty3]
     refine ZE (seen61 a g ha hgb) ?_; simp (maxSteps := 1000000) [ty3, hb]
     refine hK _ ?_; clear hK K
     (repeat refine ZQ ?_); refine ZC (hc := by simp [hb]; rfl) (fun hd => ?_) (fun hd => ?_)
     ·clear hd
      (repeat refine ZQ ?_); refine ZR fun K hK => ?_; simp (maxSteps := 1000000) [ty3, hw1]; refine hK _ ?_; clear hK K; (first | show AWP _ _ _ _ _ | show ∃ _, _ | skip)
      refine ⟨by rw [if_neg (by omega)], ?_⟩
      rw [hsi, hw2]
      refine wk_round (E := []) [(1000000, 1000000, .gh), (1000006, 1000006, .live (obI a)), (1000007, 1000007, .live (obI s)), (1000012, 1000012, .live (obI (n i + 1 : Nat))), (1000013, 1000013, .live (obI ((i - n i : Nat) : Int)))] (by first | rfl | (simp <;> rfl)) hy (by simp [mT]) (by simp) (by simp) ?_ (by simp)
      ·simp [SlotOk] <;> (repeat' (first | (refine RowsOk.same ?_; simp [purel, C.isPure]; done) | (refine rowsCons ?_; simp [mtl, mtc, mT, mH, C.isPure, purel]; done) | (refine rowsCons ?_; simp [mtl, mtc, mT, mH, C.isPure, purel]) | refine And.intro ?_ ?_)) <;> (try simp (disch := omega) [wrap_id]) <;> (try omega)
     ·simp [hb] at hd
   ·intro he s' hs'
    refine AWP.weak ?_ hs'
    have hli := hnl L.length (Nat.le_refl _)
    have hrl : (itI L).length = L.length := he.symm
    rw [hrl]
    (repeat refine ZQ ?_); refine awp_block ?_
    by_cases e1 : n L.length = L.length
    ·have e1' : (((L.length - n L.length : Nat) : Int) == 0) = true := by rw [beq_iff_eq]; omega
     rw [if_pos e1]
     (repeat refine ZQ ?_); refine ZR fun K hK => ?_; simp (maxSteps := 1000000) [ty3, e1']; refine hK _ ?_; clear hK K
     (repeat refine ZQ ?_); refine ZC (hc := by simp [e1']; rfl) (fun hd => ?_) (fun hd => ?_)
     ·clear hd
      (repeat refine ZQ ?_); refine ZR fun K hK => ?_; simp (maxSteps := 1000000) [ty3, ty37]; refine hK _ ?_; clear hK K
      (repeat refine ZQ ?_); refine awp_ret ?_; refine And.intro (Or.inr rfl) ?_
      simp [retC, resC, viewC, mapO]
     ·simp [e1'] at hd
    ·have e1' : (((L.length - n L.length : Nat) : Int) == 0) = false := by rw [beq_eq_false_iff_ne]; omega
     rw [if_neg e1]
     (repeat refine ZQ ?_); refine ZR fun K hK => ?_; simp (maxSteps := 1000000) [ty3, e1']; refine hK _ ?_; clear hK K
     (repeat refine ZQ ?_); refine ZC (hc := by simp [e1']; rfl) (fun hd => ?_) (fun hd => ?_)
     ·simp [e1'] at hd
     ·clear hd
      by_cases e2 : n L.length = 0
      ·have e2' : ((n L.length : Int) == 0) = true := by rw [beq_iff_eq]; omega
       rw [if_pos e2]
       (repeat refine ZQ ?_); refine ZR fun K hK => ?_; simp (maxSteps := 1000000) [ty3, e2']; refine hK _ ?_; clear hK K
       (repeat refine ZQ ?_); refine ZC (hc := by simp [e2']; rfl) (fun hd => ?_) (fun hd => ?_)
       ·clear hd
        (repeat refine ZQ ?_); refine ZR fun K hK => ?_; simp (maxSteps := 1000000) [ty3, ty37]; refine hK _ ?_; clear hK K
        (repeat refine ZQ ?_); refine awp_ret ?_; refine And.intro (Or.inr rfl) ?_
        simp [retC, resC, viewC, mapO]
       ·simp [e2'] at hd
      ·have e2' : ((n L.length : Int) == 0) = false := by rw [beq_eq_false_iff_ne]; omega
       rw [if_neg e2]
       (repeat refine ZQ ?_); refine ZR fun K hK => ?_; simp (maxSteps := 1000000) [ty3, e2']; refine hK _ ?_; clear hK K
       (repeat refine ZQ ?_); refine ZC (hc := by simp [e2']; rfl) (fun hd => ?_) (fun hd => ?_)
       ·simp [e2'] at hd
       ·clear hd
        refine awp_skip ?_
        (repeat refine ZQ ?_); refine ZR fun K hK => ?_; simp (maxSteps := 1000000) [ty3, ty37]; refine hK _ ?_; clear hK K
        (repeat refine ZQ ?_); refine awp_ret ?_; refine And.intro (Or.inr rfl) ?_
        simp [retC, resC, viewC, mapO]
   ·intro hlt
    simp at hlt
 ·have hop := open_no hn hz
  have hT : blameW w day a s = 0 := if_neg hz
  rw [hT]
  cases h1 : dayB w day
  ·rw [h1] at hop hz
   simp only [Bool.false_and] at hop hz ⊢
   refine ZF (fn := Tryz.f50) [.tmp 8, .tmp 9] ⟨Tryz.func50, rfl, by kernel_rfl⟩ fun x hx hσ => ?_
   (repeat refine ZQ ?_); refine ZR fun K hK => ?_; simp (maxSteps := 1000000) [ty28, ty37, ty3]; refine hK _ ?_; clear hK K
   (repeat refine ZQ ?_); refine ZD [] [0, 1, 2, 3, 4, 5, 6, 7, 8, 9, 10, 11, 12, 13, 14, 15, 16, 17, 18] fun K hK => ?_; simp (maxSteps := 1000000) [ty28, ty3, ty4]
   refine ZE (isDay62 w day) ?_; simp (maxSteps := 1000000) [ty28, ty3, ty4, h1]
   refine ZE (hop) ?_; simp (maxSteps := 1000000) [ty89]
   refine hK _ ?_; clear hK K
   (repeat refine ZQ ?_); refine ZR fun K hK => ?_; simp (maxSteps := 1000000) [ty37]; refine hK _ ?_; clear hK K
   (repeat refine ZQ ?_); refine ZC (hc := by simp [hz]; rfl) (fun hd => ?_) (fun hd => ?_)
   ·clear hd
    (repeat refine ZQ ?_); refine ZR fun K hK => ?_; simp (maxSteps := 1000000) [ty37]; refine hK _ ?_; clear hK K
    (repeat refine ZQ ?_); refine awp_ret ?_; refine And.intro (Or.inr rfl) ?_
    simp [retC, resC, viewC, mapO, hz]
   ·simp [hz] at hd
  ·cases h2 : areaB a
   ·rw [h1, h2] at hop hz
    simp only [Bool.false_and, Bool.true_and] at hop hz ⊢
    refine ZF (fn := Tryz.f50) [.tmp 8, .tmp 9] ⟨Tryz.func50, rfl, by kernel_rfl⟩ fun x hx hσ => ?_
    (repeat refine ZQ ?_); refine ZR fun K hK => ?_; simp (maxSteps := 1000000) [ty28, ty37, ty3]; refine hK _ ?_; clear hK K
    (repeat refine ZQ ?_); refine ZD [] [0, 1, 2, 3, 4, 5, 6, 7, 8, 9, 10, 11, 12, 13, 14, 15, 16, 17, 18] fun K hK => ?_; simp (maxSteps := 1000000) [ty28, ty3, ty4]
    refine ZE (isDay62 w day) ?_; simp (maxSteps := 1000000) [ty28, ty3, ty4, h1]
    refine ZE (isArea58 a) ?_; simp (maxSteps := 1000000) [ty28, ty3, ty4, h2]
    refine ZE (hop) ?_; simp (maxSteps := 1000000) [ty89]
    refine hK _ ?_; clear hK K
    (repeat refine ZQ ?_); refine ZR fun K hK => ?_; simp (maxSteps := 1000000) [ty37]; refine hK _ ?_; clear hK K
    (repeat refine ZQ ?_); refine ZC (hc := by simp [hz]; rfl) (fun hd => ?_) (fun hd => ?_)
    ·clear hd
     (repeat refine ZQ ?_); refine ZR fun K hK => ?_; simp (maxSteps := 1000000) [ty37]; refine hK _ ?_; clear hK K
     (repeat refine ZQ ?_); refine awp_ret ?_; refine And.intro (Or.inr rfl) ?_
     simp [retC, resC, viewC, mapO, hz]
    ·simp [hz] at hd
   ·rw [h1, h2] at hop hz
    simp only [Bool.true_and] at hop hz ⊢
    refine ZF (fn := Tryz.f50) [.tmp 8, .tmp 9] ⟨Tryz.func50, rfl, by kernel_rfl⟩ fun x hx hσ => ?_
    (repeat refine ZQ ?_); refine ZR fun K hK => ?_; simp (maxSteps := 1000000) [ty28, ty37, ty3]; refine hK _ ?_; clear hK K
    (repeat refine ZQ ?_); refine ZD [] [0, 1, 2, 3, 4, 5, 6, 7, 8, 9, 10, 11, 12, 13, 14, 15, 16, 17, 18] fun K hK => ?_; simp (maxSteps := 1000000) [ty28, ty3, ty4]
    refine ZE (isDay62 w day) ?_; simp (maxSteps := 1000000) [ty28, ty3, ty4, h1]
    refine ZE (isArea58 a) ?_; simp (maxSteps := 1000000) [ty28, ty3, ty4, h2]
    refine ZE (isCount59 s) ?_; simp (maxSteps := 1000000) [ty28, ty3, ty4]
    refine ZE (hop) ?_; simp (maxSteps := 1000000) [ty89]
    refine hK _ ?_; clear hK K
    (repeat refine ZQ ?_); refine ZR fun K hK => ?_; simp (maxSteps := 1000000) [ty37]; refine hK _ ?_; clear hK K
    (repeat refine ZQ ?_); refine ZC (hc := by simp [hz]; rfl) (fun hd => ?_) (fun hd => ?_)
    ·clear hd
     (repeat refine ZQ ?_); refine ZR fun K hK => ?_; simp (maxSteps := 1000000) [ty37]; refine hK _ ?_; clear hK K
     (repeat refine ZQ ?_); refine awp_ret ?_; refine And.intro (Or.inr rfl) ?_
     simp [retC, resC, viewC, mapO, hz]
    ·simp [hz] at hd

set_option maxHeartbeats 8000000

-- Doubt and Next

theorem on_ne_nil {c : Co} (h : canC c [] = true) {d : Nat} (hd : d ≤ c.last.toNat) : onC c d [] ≠ [] := by
 obtain ⟨p, hp⟩ := (can_nil c).1 h
 exact List.ne_nil_of_mem ((on_nil c d hd (p d)).2 ⟨p, hp, rfl⟩)

theorem on_ne_one {c : Co} {a : Nat} {n : Int} (h : n ∈ onC c a []) (ha : a ≤ c.last.toNat) {d : Nat} (hd : d ≤ c.last.toNat) : onC c d [((a : Int), n)] ≠ [] := by
 obtain ⟨p, hp, e⟩ := (on_nil c a ha n).1 h
 exact List.ne_nil_of_mem ((on_one c a d n ha hd (p d)).2 ⟨p, hp, rfl, e⟩)

def doubtW (w : Ws) : Int := if openW w true = 0 then doubtC (co w (gl w)) [] else 0

theorem w_doubt25 (w : Ws) (hn : WsLen w) : Pure Tryz.prog 25 [encWs w] (.tup [encI (doubtW w), encI (openW w true)]) := by
 by_cases hz : openW w true = 0
 ·obtain ⟨hok, his, hcan⟩ := openW_ok hz
  have hop := open_yes hn hz
  have hco := doubt67 w (gl w) true true [] [] hok.num (by simp) fun d hd => on_ne_nil hcan hd
  simp only [rowsK_nil] at hco
  have hT : doubtW w = doubtC (co w (gl w)) [] := if_pos hz
  refine ZF (fn := Tryz.f25) [.tmp 2, .tmp 3] ⟨Tryz.func25, rfl, by kernel_rfl⟩ fun x hx hσ => ?_
  (repeat refine ZQ ?_); refine ZR fun K hK => ?_; simp (maxSteps := 1000000) [ty28, ty37]; refine hK _ ?_; clear hK K
  (repeat refine ZQ ?_); refine ZR fun K hK => ?_; simp (maxSteps := 1000000) [ty28, ty3]
  refine ZP (hop) ?_; simp (maxSteps := 1000000) [ty89]
  refine hK _ ?_; clear hK K
  (repeat refine ZQ ?_); refine ZR fun K hK => ?_; simp (maxSteps := 1000000) [ty37]; refine hK _ ?_; clear hK K
  (repeat refine ZQ ?_); refine ZC (fun hd => ?_) (fun hd => ?_)
  ·simp at hd
  ·clear hd
   refine awp_skip ?_
   (repeat refine ZQ ?_); refine ZR fun K hK => ?_; simp (maxSteps := 1000000) [ty89, ty3, ty87]
   refine ZP (hco) ?_; simp (maxSteps := 1000000) [ty3]
   refine hK _ ?_; clear hK K
   (repeat refine ZQ ?_); refine awp_ret ?_; refine And.intro (Or.inr rfl) ?_
   simp [retC, resC, viewC, mapO, hT, hz]
 ·have hop := open_no hn hz
  have hT : doubtW w = 0 := if_neg hz
  refine ZF (fn := Tryz.f25) [.tmp 2, .tmp 3] ⟨Tryz.func25, rfl, by kernel_rfl⟩ fun x hx hσ => ?_
  (repeat refine ZQ ?_); refine ZR fun K hK => ?_; simp (maxSteps := 1000000) [ty28, ty37]; refine hK _ ?_; clear hK K
  (repeat refine ZQ ?_); refine ZR fun K hK => ?_; simp (maxSteps := 1000000) [ty28, ty3]
  refine ZP (hop) ?_; simp (maxSteps := 1000000) [ty89]
  refine hK _ ?_; clear hK K
  (repeat refine ZQ ?_); refine ZR fun K hK => ?_; simp (maxSteps := 1000000) [ty37]; refine hK _ ?_; clear hK K
  (repeat refine ZQ ?_); refine ZC (hc := by simp [hz]; rfl) (fun hd => ?_) (fun hd => ?_)
  ·clear hd
   (repeat refine ZQ ?_); refine ZR fun K hK => ?_; simp (maxSteps := 1000000) [ty37]; refine hK _ ?_; clear hK K
   (repeat refine ZQ ?_); refine awp_ret ?_; refine And.intro (Or.inr rfl) ?_
   simp [retC, resC, viewC, mapO, hT]
  ·simp [hz] at hd

set_option maxHeartbeats 4000000

def isTrB (t : Ti) (k : Tr) : Bool := withinB k.area (-t.gain) t.gain && withinB k.skew (-t.w.skew) t.w.skew && t.ts.all (fun y => allowB t.w y k)

theorem q_isTruth21 (t : Ti) (k : Tr) (hw : TiOk t) (hl : TiLen t) : Pure Tryz.prog 157 [encTi t, encTr k] (.bool (isTrB t k)) := by
 have hg := hw.gain
 have hs := hw.num.skew
 have h6 := hw.len
 have hwg : IntKind.i64.wrap (-t.gain) = -t.gain := wrap_id (by omega) (by omega)
 have hws : IntKind.i64.wrap (-t.w.skew) = -t.w.skew := wrap_id (by omega) (by omega)
 have c1 := q_within60 k.area (-t.gain) t.gain
 have c2 := q_within60 k.skew (-t.w.skew) t.w.skew
 refine ZF (fn := Tryz.f157) [.tmp 4] ⟨Tryz.func157, rfl, by kernel_rfl⟩ fun x hx hσ => ?_
 (repeat refine ZQ ?_); refine ZR fun K hK => ?_; simp (maxSteps := 1000000) [ty62, ty166]; refine hK _ ?_; clear hK K; (first | show AWP _ _ _ _ _ | show ∃ _, _ | skip)
 cases h1 : withinB k.area (-t.gain) t.gain
 ·rw [h1] at c1
  (repeat refine ZQ ?_); refine ZR fun K hK => ?_; simp (maxSteps := 1000000) [ty62, ty166, ty3, hwg]
  refine ZP (c1) ?_; simp (maxSteps := 1000000)
  refine hK _ ?_; clear hK K
  (repeat refine ZQ ?_); refine ZC (fun hd => ?_) (fun hd => ?_)
  ·clear hd
   (repeat refine ZQ ?_); refine ZR fun K hK => ?_; simp (maxSteps := 1000000); refine hK _ ?_; clear hK K
   (repeat refine ZQ ?_); refine awp_ret ?_; refine And.intro (Or.inr rfl) ?_
   simp [retC, resC, viewC, mapO, isTrB, h1]
  ·simp at hd
 ·rw [h1] at c1
  have h3 : -t.gain ≤ k.area ∧ k.area ≤ t.gain := by simpa [withinB] using h1
  cases h2 : withinB k.skew (-t.w.skew) t.w.skew
  ·rw [h2] at c2
   (repeat refine ZQ ?_); refine ZR fun K hK => ?_; simp (maxSteps := 1000000) [ty62, ty166, ty3, hwg]
   refine ZP (c1) ?_; simp (maxSteps := 1000000) [ty62, ty25, ty166, ty3, hws]
   refine ZP (c2) ?_; simp (maxSteps := 1000000)
   refine hK _ ?_; clear hK K
   (repeat refine ZQ ?_); refine ZC (fun hd => ?_) (fun hd => ?_)
   ·clear hd
    (repeat refine ZQ ?_); refine ZR fun K hK => ?_; simp (maxSteps := 1000000); refine hK _ ?_; clear hK K
    (repeat refine ZQ ?_); refine awp_ret ?_; refine And.intro (Or.inr rfl) ?_
    simp [retC, resC, viewC, mapO, isTrB, h1, h2]
   ·simp at hd
  ·rw [h2] at c2
   (repeat refine ZQ ?_); refine ZR fun K hK => ?_; simp (maxSteps := 1000000) [ty62, ty166, ty3, hwg]
   refine ZP (c1) ?_; simp (maxSteps := 1000000) [ty62, ty25, ty166, ty3, hws]
   refine ZP (c2) ?_; simp (maxSteps := 1000000)
   refine hK _ ?_; clear hK K
   (repeat refine ZQ ?_); refine ZC (fun hd => ?_) (fun hd => ?_)
   ·simp at hd
   ·clear hd
    refine awp_skip ?_
    (repeat refine ZQ ?_); refine ZR fun K hK => ?_; simp (maxSteps := 1000000); refine hK _ ?_; clear hK K
    (repeat refine ZQ ?_); refine awp_block ?_
    refine awp_loop (fun i : Nat => ⟨ofL [(2, .ptr 2 10 0 0), (3, .ptr 3 2 0 0), (5, encI i)], stoT [(2, 2, .live (obTi t)), (3, 3, .live ⟨false, false, 2, [cTr k]⟩)]⟩)
     (fun i => i ≤ t.ts.length ∧ ∀ j, (h : j < t.ts.length) → j < i → allowB t.w t.ts[j] k = true) (fun i => t.ts.length - i) 0 (by simp) ?_ ?_
    ·exact Zw
    ·intro i ⟨hi, hj⟩
     (repeat refine ZQ ?_); refine ZR fun K hK => ?_; simp (maxSteps := 1000000) [ty62, ty51, ty3]; refine hK _ ?_; clear hK K
     (repeat refine ZQ ?_); refine ZC (fun hc => ?_) (fun hc => ?_)
     ·simp at hc
      refine awp_skip ?_
      (repeat refine ZQ ?_); refine awp_block ?_
      have har := hw.area _ (List.getElem_mem hc)
      have hln := hl.l _ (List.getElem_mem hc)
      have c3 := q_allows61 t t.ts[i] k har hln (by omega)
      (repeat refine ZQ ?_); refine ZD [] [0, 1, 2, 3, 4, 5, 6, 7, 8] fun K hK => ?_; simp (maxSteps := 1000000) [ty62, ty51, ty119, ty166, hc]
      refine ZE (c3) ?_; simp (maxSteps := 1000000)
      refine hK _ ?_; clear hK K; (first | show AWP _ _ _ _ _ | show ∃ _, _ | skip)
      cases hb : allowB t.w t.ts[i] k
      ·(repeat refine ZQ ?_); refine ZC (hc := by simp [hb]; rfl) (fun hd => ?_) (fun hd => ?_)
       ·clear hd
        (repeat refine ZQ ?_); refine ZR fun K hK => ?_; simp (maxSteps := 1000000); refine hK _ ?_; clear hK K
        (repeat refine ZQ ?_); refine awp_ret ?_; refine And.intro (Or.inr rfl) ?_
        have : t.ts.all (fun y => allowB t.w y k) = false := by
         rw [List.all_eq_false]
         exact ⟨_, List.getElem_mem hc, by rw [hb]; decide⟩
        simp [retC, resC, viewC, mapO, isTrB, h1, h2, this]
       ·simp [hb] at hd
      ·(repeat refine ZQ ?_); refine ZC (hc := by simp [hb]; rfl) (fun hd => ?_) (fun hd => ?_)
       ·simp [hb] at hd
       ·clear hd
        refine awp_skip ?_
        (repeat refine ZQ ?_); refine ZR fun K hK => ?_; simp (maxSteps := 1000000) [ty3]; refine hK _ ?_; clear hK K; (first | show AWP _ _ _ _ _ | show ∃ _, _ | skip)
        rw [wrap_id (by omega) (by omega)]
        refine ⟨i + 1, ⟨by omega, fun j h4 h5 => ?_⟩, by omega, ?_⟩
        ·by_cases e : j = i
         ·subst e; exact hb
         ·exact hj j h4 (by omega)
        ·exact Zw
     ·simp at hc
      (repeat refine ZQ ?_); refine awp_exit ?_; (first | show AWP _ _ _ _ _ | show ∃ _, _ | skip)
      have : t.ts.all (fun y => allowB t.w y k) = true := by
       rw [List.all_eq_true]
       intro y hy
       obtain ⟨j, h4, rfl⟩ := List.getElem_of_mem hy
       exact hj j h4 (by omega)
      (repeat refine ZQ ?_); refine ZR fun K hK => ?_; simp (maxSteps := 1000000); refine hK _ ?_; clear hK K
      (repeat refine ZQ ?_); refine awp_ret ?_; refine And.intro (Or.inr rfl) ?_
      simp [retC, resC, viewC, mapO, isTrB, h1, h2, this]

theorem q_check30 (t : Ti) (hn : TiLen t) : Pure Tryz.prog 78 [encTi t] (encI (checkT t)) := by
 have hlt := hn.ts
 refine ZF (fn := Tryz.f78) [.tmp 2] ⟨Tryz.func78, rfl, by kernel_rfl⟩ fun x hx hσ => ?_
 (repeat refine ZQ ?_); refine ZR fun K hK => ?_; simp (maxSteps := 1000000) [ty62]; refine hK _ ?_; clear hK K; (first | show AWP _ _ _ _ _ | show ∃ _, _ | skip)
 have c1 := q_within60 t.gain 0 50
 cases h1 : withinB t.gain 0 50
 ·rw [h1] at c1
  have hT : checkT t = 90 := by unfold checkT; rw [if_pos (.inl (by simpa [withinB] using h1))]
  (repeat refine ZQ ?_); refine ZR fun K hK => ?_; simp (maxSteps := 1000000) [ty62, ty3]
  refine ZP (c1) ?_; simp (maxSteps := 1000000)
  refine hK _ ?_; clear hK K
  (repeat refine ZQ ?_); refine ZC (fun hd => ?_) (fun hd => ?_)
  ·clear hd
   (repeat refine ZQ ?_); refine ZR fun K hK => ?_; simp (maxSteps := 1000000); refine hK _ ?_; clear hK K
   (repeat refine ZQ ?_); refine awp_ret ?_; refine And.intro (Or.inr rfl) ?_
   simp [retC, resC, viewC, mapO, hT]
  ·simp at hd
 ·rw [h1] at c1
  by_cases h6 : (6 : Int) < (t.ts.length : Int)
  ·have hT : checkT t = 90 := by unfold checkT; rw [if_pos (.inr (.inl (by omega)))]
   (repeat refine ZQ ?_); refine ZR fun K hK => ?_; simp (maxSteps := 1000000) [ty62, ty3]
   refine ZP (c1) ?_; simp (maxSteps := 1000000) [ty62, ty51, ty3, h6]
   refine hK _ ?_; clear hK K
   (repeat refine ZQ ?_); refine ZC (hc := by simp [h6]; rfl) (fun hd => ?_) (fun hd => ?_)
   ·clear hd
    (repeat refine ZQ ?_); refine ZR fun K hK => ?_; simp (maxSteps := 1000000); refine hK _ ?_; clear hK K
    (repeat refine ZQ ?_); refine awp_ret ?_; refine And.intro (Or.inr rfl) ?_
    simp [retC, resC, viewC, mapO, hT]
   ·simp [h6] at hd
  ·(repeat refine ZQ ?_); refine ZR fun K hK => ?_; simp (maxSteps := 1000000) [ty62, ty3]
   refine ZP (c1) ?_; simp (maxSteps := 1000000) [ty62, ty51, ty3, h6]
   refine hK _ ?_; clear hK K
   (repeat refine ZQ ?_); refine ZC (hc := by simp [h6]; rfl) (fun hd => ?_) (fun hd => ?_)
   ·simp [h6] at hd
   ·clear hd
    refine awp_skip ?_
    (repeat refine ZQ ?_); refine ZR fun K hK => ?_; simp (maxSteps := 1000000); refine hK _ ?_; clear hK K
    (repeat refine ZQ ?_); refine awp_block ?_
    refine awp_loop (fun i : Nat => ⟨ofL [(1, .ptr 1 10 0 0), (3, encI i)], stoT [(1, 1, .live (obTi t))]⟩)
     (fun i => i ≤ t.ts.length ∧ ∀ j, (h : j < t.ts.length) → j < i → areaB t.ts[j].area = true) (fun i => t.ts.length - i) 0 (by simp) ?_ ?_
    ·exact Zw
    ·intro i ⟨hi, hj⟩
     (repeat refine ZQ ?_); refine ZR fun K hK => ?_; simp (maxSteps := 1000000) [ty62, ty51, ty3]; refine hK _ ?_; clear hK K
     (repeat refine ZQ ?_); refine ZC (fun hc => ?_) (fun hc => ?_)
     ·simp at hc
      refine awp_skip ?_
      (repeat refine ZQ ?_); refine awp_block ?_
      have c2 := q_within60 t.ts[i].area 0 9000
      cases hb : areaB t.ts[i].area
      ·have hb' : withinB t.ts[i].area 0 9000 = false := by simpa [areaB, withinB] using hb
       rw [hb'] at c2
       (repeat refine ZQ ?_); refine ZR fun K hK => ?_; simp (maxSteps := 1000000) [ty62, ty51, ty119, ty3, hc]
       refine ZP (c2) ?_; simp (maxSteps := 1000000)
       refine hK _ ?_; clear hK K; (first | show AWP _ _ _ _ _ | show ∃ _, _ | skip)
       have hT : checkT t = 90 := by
        have hal : t.ts.all (fun x => areaB x.area) = false := by
         rw [List.all_eq_false]
         exact ⟨_, List.getElem_mem hc, by rw [hb]; decide⟩
        unfold checkT; rw [if_pos (.inr (.inr hal))]
       (repeat refine ZQ ?_); refine ZC (fun hd => ?_) (fun hd => ?_)
       ·clear hd
        (repeat refine ZQ ?_); refine ZR fun K hK => ?_; simp (maxSteps := 1000000); refine hK _ ?_; clear hK K
        (repeat refine ZQ ?_); refine awp_ret ?_; refine And.intro (Or.inr rfl) ?_
        simp [retC, resC, viewC, mapO, hT]
       ·simp at hd
      ·have hb' : withinB t.ts[i].area 0 9000 = true := by simpa [areaB, withinB] using hb
       rw [hb'] at c2
       (repeat refine ZQ ?_); refine ZR fun K hK => ?_; simp (maxSteps := 1000000) [ty62, ty51, ty119, ty3, hc]
       refine ZP (c2) ?_; simp (maxSteps := 1000000)
       refine hK _ ?_; clear hK K
       (repeat refine ZQ ?_); refine ZC (fun hd => ?_) (fun hd => ?_)
       ·simp at hd
       ·clear hd
        refine awp_skip ?_
        (repeat refine ZQ ?_); refine ZR fun K hK => ?_; simp (maxSteps := 1000000) [ty3]; refine hK _ ?_; clear hK K; (first | show AWP _ _ _ _ _ | show ∃ _, _ | skip)
        rw [wrap_id (by omega) (by omega)]
        refine ⟨i + 1, ⟨by omega, fun j h4 h5 => ?_⟩, by omega, ?_⟩
        ·by_cases e : j = i
         ·subst e; exact hb
         ·exact hj j h4 (by omega)
        ·exact Zw
     ·simp at hc
      (repeat refine ZQ ?_); refine awp_exit ?_; (first | show AWP _ _ _ _ _ | show ∃ _, _ | skip)
      have hal : t.ts.all (fun x => areaB x.area) = true := by
       rw [List.all_eq_true]
       intro y hy
       obtain ⟨j, h4, rfl⟩ := List.getElem_of_mem hy
       exact hj j h4 (by omega)
      have hT : checkT t = (if t.ts = [] then checkI t.w [] else checksI t.w t.ts) := by
       unfold checkT; rw [if_neg]
       rintro (h | h | h)
       ·have : withinB t.gain 0 50 = false := by simpa [withinB] using h
        rw [h1] at this; cases this
       ·omega
       ·rw [hal] at h; cases h
      (repeat refine ZQ ?_); refine ZR fun K hK => ?_; simp (maxSteps := 1000000); refine hK _ ?_; clear hK K
      (repeat refine ZQ ?_); refine awp_block ?_
      refine awp_loop (fun i : Nat => ⟨ofL [(1, .ptr 1 10 0 0), (4, encI i)], stoT [(1, 1, .live (obTi t))]⟩)
       (fun i => i ≤ t.ts.length ∧ ∀ j, (h : j < t.ts.length) → j < i → checkI t.w t.ts[j].l = 0) (fun i => t.ts.length - i) 0 (by simp) ?_ ?_
      ·exact Zw
      ·intro i ⟨hi, hj⟩
       (repeat refine ZQ ?_); refine ZR fun K hK => ?_; simp (maxSteps := 1000000) [ty62, ty51, ty3]; refine hK _ ?_; clear hK K
       (repeat refine ZQ ?_); refine ZC (fun hc => ?_) (fun hc => ?_)
       ·simp at hc
        refine awp_skip ?_
        (repeat refine ZQ ?_); refine awp_block ?_
        have h0 : t.ts ≠ [] := by intro e; rw [e] at hc; simp at hc
        (repeat refine ZQ ?_); refine ZD [] [0, 1, 2, 3, 4, 5, 6, 7, 8, 9] fun K hK => ?_; simp (maxSteps := 1000000) [ty62, ty25, ty51, ty119, ty117, hc]
        refine ZE (ref31 t.w t.ts[i].nl t.ts[i].fu t.ts[i].l (hn.l _ (List.getElem_mem hc))) ?_; simp (maxSteps := 1000000)
        refine hK _ ?_; clear hK K
        (repeat refine ZQ ?_); refine ZR fun K hK => ?_; simp (maxSteps := 1000000) [ty37]; refine hK _ ?_; clear hK K; (first | show AWP _ _ _ _ _ | show ∃ _, _ | skip)
        by_cases hz : checkI t.w t.ts[i].l = 0
        ·(repeat refine ZQ ?_); refine ZC (hc := by simp [hz]; rfl) (fun hd => ?_) (fun hd => ?_)
         ·simp at hd
         ·clear hd
          refine awp_skip ?_
          (repeat refine ZQ ?_); refine ZR fun K hK => ?_; simp (maxSteps := 1000000) [ty3]; refine hK _ ?_; clear hK K; (first | show AWP _ _ _ _ _ | show ∃ _, _ | skip)
          rw [wrap_id (by omega) (by omega)]
          refine ⟨i + 1, ⟨by omega, fun j h4 h5 => ?_⟩, by omega, ?_⟩
          ·by_cases e : j = i
           ·subst e; exact hz
           ·exact hj j h4 (by omega)
          ·exact Zw
        ·(repeat refine ZQ ?_); refine ZC (hc := by simp [hz]; rfl) (fun hd => ?_) (fun hd => ?_)
         ·clear hd
          (repeat refine ZQ ?_); refine ZR fun K hK => ?_; simp (maxSteps := 1000000); refine hK _ ?_; clear hK K
          (repeat refine ZQ ?_); refine awp_ret ?_; refine And.intro (Or.inr rfl) ?_
          simp [retC, resC, viewC, mapO, hT, h0, checksI_at hc hj hz]
         ·simp [hz] at hd
       ·simp at hc
        (repeat refine ZQ ?_); refine awp_exit ?_
        (repeat refine ZQ ?_); refine ZR fun K hK => ?_; simp (maxSteps := 1000000) [ty62, ty25]
        refine ZP (ref31 t.w true true [] (by simp)) ?_; simp (maxSteps := 1000000)
        refine hK _ ?_; clear hK K
        (repeat refine ZQ ?_); refine awp_ret ?_; refine And.intro (Or.inr rfl) ?_
        have hjj : ∀ j, (h : j < t.ts.length) → checkI t.w t.ts[j].l = 0 := fun j h => hj j h (by omega)
        by_cases h0 : t.ts = []
        ·simp [retC, resC, viewC, mapO, hT, h0]
        ·have hw0 : checkI t.w [] = 0 := by
          obtain ⟨y, hy⟩ := List.exists_mem_of_ne_nil _ h0
          obtain ⟨j, h4, rfl⟩ := List.getElem_of_mem hy
          have := wheelB_iff.2 (checkI_ok (hjj j h4)).1
          simp [checkI, this]
         simp [retC, resC, viewC, mapO, hT, h0, checksI_all hjj, hw0]

theorem testBit_all {n i : Nat} (h : i < n) : (2 ^ n - 1).testBit i = true := by
 rw [Nat.testBit_two_pow_sub_one]; simpa using h

theorem isTrB_okS {t : Ti} {k : Tr} (hk : k ∈ allT (gwT t)) : isTrB t k = okS t (allS t) k := by
 have h1 := allT_mem.1 hk
 have e1 : (gwT t).glow = -t.gain := rfl
 have e2 : (gwT t).ghigh = t.gain := rfl
 have e3 : (gwT t).skew = t.w.skew := rfl
 rw [e1, e2, e3] at h1
 have h2 : isTrB t k = t.ts.all (fun y => allowB t.w y k) := by
  unfold isTrB withinB
  simp [h1]
 rw [h2]
 cases hb : t.ts.all (fun y => allowB t.w y k)
 ·rw [List.all_eq_false] at hb
  obtain ⟨y, hy, hb⟩ := hb
  obtain ⟨j, h4, rfl⟩ := List.getElem_of_mem hy
  exact (okS_false h4 (testBit_all h4) (by simpa using hb)).symm
 ·rw [List.all_eq_true] at hb
  exact (okS_true fun i hi _ => hb _ (List.getElem_mem hi)).symm

theorem truths_filter (t : Ti) : (allT (gwT t)).filter (isTrB t) = truthsS t (allS t) :=
 List.filter_congr fun k hk => isTrB_okS hk

theorem q_truths79 (t : Ti) (hok : TiOk t) (hl : TiLen t) : Fresh Tryz.prog 141 [encTi t] (obTs (truthsS t (allS t))) := by
 rw [← truths_filter]
 have hs := hok.num.skew
 have hg := hok.gain
 have hA : (nA (gwT t) : Int) = t.gain - -t.gain + 1 := by unfold nA gwT; simp only; omega
 have hS : (nS (gwT t) : Int) = 2 * t.w.skew + 1 := by unfold nS gwT; simp only; omega
 have hwr : IntKind.i64.wrap (-t.w.skew) = -t.w.skew := wrap_id (by omega) (by omega)
 have hwg : IntKind.i64.wrap (-t.gain) = -t.gain := wrap_id (by omega) (by omega)
 have hbA : nA (gwT t) ≤ 101 := by omega
 have hbS : nS (gwT t) ≤ 41 := by omega
 have hNN : nA (gwT t) * nS (gwT t) ≤ 410000 := by
  have : nA (gwT t) * nS (gwT t) ≤ 101 * 41 := Nat.mul_le_mul hbA hbS
  omega
 obtain ⟨U, hU⟩ : ∃ U : Nat → List Tr, ∀ n, U n = (upT (gwT t) n).filter (isTrB t) := ⟨_, fun _ => rfl⟩
 have hst0 : ∀ {a s : Nat} (ha : a < nA (gwT t)) (hs : s < nS (gwT t)), U (a * nS (gwT t) + s + 1) = U (a * nS (gwT t) + s) ++ if isTrB t ⟨-t.gain + a, -t.w.skew + s⟩ then [⟨-t.gain + a, -t.w.skew + s⟩] else [] := fun {a s} ha hs => by
  rw [hU, hU, upT_step ha hs, List.filter_append]
  have e1 : (gwT t).glow = -t.gain := rfl
  have e3 : (gwT t).skew = t.w.skew := rfl
  rw [e1, e3]
  cases hb : isTrB t ⟨-t.gain + a, -t.w.skew + s⟩ <;> simp [hb]
 have hal0 : U (nA (gwT t) * nS (gwT t)) = (allT (gwT t)).filter (isTrB t) := by rw [hU, upT, ← allT_len, List.take_length]
 have hul : ∀ {n}, n ≤ nA (gwT t) * nS (gwT t) → (U n).length ≤ 410000 := fun {n} h => by
  rw [hU]
  refine Nat.le_trans (List.length_filter_le _ _) ?_
  rw [upT_len h]; omega
 have hu0 : U 0 = [] := by rw [hU]; rfl
 rw [← hal0]
 clear hU hal0
 generalize nA (gwT t) = A at *
 generalize nS (gwT t) = S at *
 refine fresh_of (fn := Tryz.f141) [.tmp 2] ⟨Tryz.func141, rfl, by kernel_rfl⟩ (by kernel_rfl) (by kernel_rfl) (by kernel_rfl) fun x hx hσ => ?_
 (repeat refine ZQ ?_); refine ZR fun K hK => ?_; simp (maxSteps := 1000000) [ty62]; refine hK _ ?_; clear hK K
 (repeat refine ZQ ?_); refine ZR fun K hK => ?_; simp (maxSteps := 1000000); refine hK _ ?_; clear hK K
 (repeat refine ZQ ?_); refine ZR fun K hK => ?_; simp (maxSteps := 1000000) [ty62, ty3]; refine hK _ ?_; clear hK K; (first | show AWP _ _ _ _ _ | show ∃ _, _ | skip)
 rw [hwg]
 (repeat refine ZQ ?_); refine awp_block ?_
 refine AWP.weak ?_ (wk_nil 3 3 2 (fu := true) (by simp) (by simp))
 refine awp_loop (fun a : Nat => ⟨ofL [(1, .ptr 1 10 0 0), (3, .own 3 2 0 (U (a * S)).length), (4, encI (-t.gain + a))], stoT [(1, 1, .live (obTi t)), (3, 3, .live (obTs (U (a * S))))]⟩)
  (fun a => a ≤ A) (fun a => A - a) 0 (by simp) ?_ ?_
 ·simp only [Nat.zero_mul, hu0]
  exact ZW
 ·intro a ha
  (repeat refine ZQ ?_); refine ZR fun K hK => ?_; simp (maxSteps := 1000000) [ty62, ty3]; refine hK _ ?_; clear hK K
  (repeat refine ZQ ?_); refine ZC (fun hc => ?_) (fun hc => ?_)
  ·simp at hc
   have haA : a < A := by omega
   refine awp_skip ?_
   (repeat refine ZQ ?_); refine awp_block ?_
   (repeat refine ZQ ?_); refine ZR fun K hK => ?_; simp (maxSteps := 1000000) [ty62, ty25, ty3]; refine hK _ ?_; clear hK K; (first | show AWP _ _ _ _ _ | show ∃ _, _ | skip)
   rw [hwr]
   (repeat refine ZQ ?_); refine awp_block ?_
   refine awp_loop (fun s : Nat => ⟨ofL [(1, .ptr 1 10 0 0), (3, .own 3 2 0 (U (a * S + s)).length), (4, encI (-t.gain + a)), (5, encI (-t.w.skew + s))], stoT [(1, 1, .live (obTi t)), (3, 3, .live (obTs (U (a * S + s))))]⟩)
    (fun s => s ≤ S) (fun s => S - s) 0 (by simp) ?_ ?_
   ·exact ZW
   ·intro s hsS
    have hle : a * S + s ≤ A * S := by
     have : (a + 1) * S ≤ A * S := Nat.mul_le_mul_right _ (by omega)
     rw [Nat.add_mul] at this; omega
    have hlt := hul hle
    (repeat refine ZQ ?_); refine ZR fun K hK => ?_; simp (maxSteps := 1000000) [ty62, ty25, ty3]; refine hK _ ?_; clear hK K
    (repeat refine ZQ ?_); refine ZC (fun hc2 => ?_) (fun hc2 => ?_)
    ·simp at hc2
     have hsl : s < S := by omega
     refine awp_skip ?_
     (repeat refine ZQ ?_); refine awp_block ?_
     have hst := hst0 haA hsl
     rw [Nat.add_assoc] at hst
     have hws : IntKind.i64.wrap (-t.w.skew + (s : Int) + 1) = -t.w.skew + ((s + 1 : Nat) : Int) := by rw [wrap_id (by omega) (by omega)]; omega
     generalize hV : U (a * S + s) = V at *
     (repeat refine ZQ ?_); refine ZR fun K hK => ?_; simp (maxSteps := 1000000) [ty166]; refine hK _ ?_; clear hK K
     (repeat refine ZQ ?_); refine ZR fun K hK => ?_; simp (maxSteps := 1000000) [ty62, ty166]
     refine ZP (q_isTruth21 t ⟨-t.gain + a, -t.w.skew + s⟩ hok hl) ?_; simp (maxSteps := 1000000)
     refine hK _ ?_; clear hK K; (first | show AWP _ _ _ _ _ | show ∃ _, _ | skip)
     cases hb : isTrB t ⟨-t.gain + a, -t.w.skew + s⟩
     ·rw [hb] at hst
      simp at hst
      (repeat refine ZQ ?_); refine ZC (hc := by simp [hb]; rfl) (fun hd => ?_) (fun hd => ?_)
      ·simp [hb] at hd
      ·clear hd
       refine awp_skip ?_
       (repeat refine ZQ ?_); refine ZR fun K hK => ?_; simp (maxSteps := 1000000) [ty3]; refine hK _ ?_; clear hK K; (first | show AWP _ _ _ _ _ | show ∃ _, _ | skip)
       refine ⟨s + 1, by omega, by omega, ?_⟩
       rw [hst, hws]
       exact ZW
     ·rw [hb] at hst
      simp at hst
      (repeat refine ZQ ?_); refine ZC (hc := by simp [hb]; rfl) (fun hd => ?_) (fun hd => ?_)
      ·clear hd
       (repeat refine ZQ ?_); refine ZR fun K hK => ?_; simp (maxSteps := 1000000) [ty166, ty162, ty3]
       refine ⟨by omega, ?_⟩
       refine hK _ ?_; clear hK K
       (repeat refine ZQ ?_); refine ZR fun K hK => ?_; simp (maxSteps := 1000000) [ty3]; refine hK _ ?_; clear hK K; (first | show AWP _ _ _ _ _ | show ∃ _, _ | skip)
       refine ⟨s + 1, by omega, by omega, ?_⟩
       rw [hst, hws]
       refine wk_shape2 [(1, 1, .live (obTi t)), (3, 36, .live (obTs (V ++ [⟨-t.gain + a, -t.w.skew + s⟩])))] (by first | rfl | (simp only [if_pos, if_true]; rfl)) (shp0 hσ (by simp) (by simp) ?_) ?_
       ·simp [SlotOk] <;> (repeat' (first | (refine RowsOk.same ?_; simp [purel, C.isPure]; done) | (refine rowsCons ?_; simp [mtl, mtc, mT, mH, C.isPure, purel]; done) | (refine rowsCons ?_; simp [mtl, mtc, mT, mH, C.isPure, purel]) | refine And.intro ?_ ?_))
       ·simp [mtc, mtl, mT, C.isPure, purel] <;> (try simp (disch := omega) [wrap_id]) <;> (try omega)
      ·simp [hb] at hd
    ·simp at hc2
     (repeat refine ZQ ?_); refine awp_exit ?_; (first | show AWP _ _ _ _ _ | show ∃ _, _ | skip)
     have hsn : s = S := by omega
     (repeat refine ZQ ?_); refine ZR fun K hK => ?_; simp (maxSteps := 1000000) [ty3]; refine hK _ ?_; clear hK K; (first | show AWP _ _ _ _ _ | show ∃ _, _ | skip)
     rw [wrap_id (by omega) (by omega)]
     have hsa : a * S + s = (a + 1) * S := by rw [hsn, Nat.add_mul, Nat.one_mul]
     rw [hsa]
     refine ⟨a + 1, by omega, by omega, ?_⟩
     exact ZW
  ·simp at hc
   (repeat refine ZQ ?_); refine awp_exit ?_; (first | show AWP _ _ _ _ _ | show ∃ _, _ | skip)
   have han : a = A := by omega
   rw [han]
   (repeat refine ZQ ?_); refine ZR fun K hK => ?_; simp (maxSteps := 1000000); refine hK _ ?_; clear hK K
   (repeat refine ZQ ?_)
   refine awp_ret ?_
   refine ⟨.inr rfl, .inl ⟨3, ?_, ?_, ?_⟩⟩
   ·simp [retC, resC, viewC, mapO]
   ·simp
   ·simp [purel, C.isPure]

/-- The truths that are known. -/
def knownT (t : Ti) (is : Bool) : List Tr := if openT t is = 0 then truthsS t (allS t) else []

theorem q_known50 (t : Ti) (is : Bool) (hl : TiLen t) : Pure Tryz.prog 130 [encTi t, .bool is] (.tup [slT (knownT t is), encI (openT t is)]) := by
 refine ZF (fn := Tryz.f130) [.tmp 4, .tmp 5] ⟨Tryz.func130, rfl, by kernel_rfl⟩ fun x hx hσ => ?_
 (repeat refine ZQ ?_); refine ZR fun K hK => ?_; simp (maxSteps := 1000000) [ty62]; refine hK _ ?_; clear hK K
 (repeat refine ZQ ?_); refine ZR fun K hK => ?_; simp (maxSteps := 1000000) [ty62]
 refine ZP (q_check30 t hl) ?_; simp (maxSteps := 1000000)
 refine hK _ ?_; clear hK K
 (repeat refine ZQ ?_); refine ZR fun K hK => ?_; simp (maxSteps := 1000000) [ty37]; refine hK _ ?_; clear hK K; (first | show AWP _ _ _ _ _ | show ∃ _, _ | skip)
 by_cases hz : checkT t = 0
 ·have hok := checkT_ok.1 hz
  (repeat refine ZQ ?_); refine ZC (hc := by simp [hz]; rfl) (fun hd => ?_) (fun hd => ?_)
  ·simp at hd
  ·clear hd
   refine awp_skip ?_
   (repeat refine ZQ ?_); refine ZR fun K hK => ?_; simp (maxSteps := 1000000); refine hK _ ?_; clear hK K; (first | show AWP _ _ _ _ _ | show ∃ _, _ | skip)
   cases is
   ·have hE : openT t false = 1 := by simp [openT, hz]
    have hK : knownT t false = [] := by unfold knownT; rw [if_neg (by rw [hE]; decide)]
    (repeat refine ZQ ?_); refine ZC (fun hd => ?_) (fun hd => ?_)
    ·clear hd
     (repeat refine ZQ ?_); refine ZR fun K hK => ?_; simp (maxSteps := 1000000); refine hK _ ?_; clear hK K
     (repeat refine ZQ ?_); refine awp_ret ?_; refine And.intro (Or.inr rfl) ?_
     simp [retC, resC, viewC, mapO, hE, hK]
    ·simp at hd
   ·(repeat refine ZQ ?_); refine ZC (fun hd => ?_) (fun hd => ?_)
    ·simp at hd
    ·clear hd
     refine awp_skip ?_
     (repeat refine ZQ ?_); refine ZR fun K hK => ?_; simp (maxSteps := 1000000) [ty62]
     refine freshL (q_truths79 t hok hl) (by simp [purel, C.isPure]) rfl ?_
     simp
     refine hK _ ?_; clear hK K; (first | show AWP _ _ _ _ _ | show ∃ _, _ | skip)
     by_cases h0 : truthsS t (allS t) = []
     ·have hE : openT t true = 3 := by simp [openT, hz, h0]
      have hK : knownT t true = [] := by unfold knownT; rw [if_neg (by rw [hE]; decide)]
      (repeat refine ZQ ?_); refine ZR fun K hK => ?_; simp (maxSteps := 1000000) [ty162, ty3, h0]; refine hK _ ?_; clear hK K
      (repeat refine ZQ ?_); refine ZC (fun hd => ?_) (fun hd => ?_)
      ·(repeat refine ZQ ?_); refine ZR fun K hK => ?_; simp (maxSteps := 1000000); refine hK _ ?_; clear hK K
       (repeat refine ZQ ?_); refine awp_ret ?_; refine And.intro (Or.inr rfl) ?_
       simp [retC, resC, viewC, mapO, hE, hK]
      ·simp at hd
     ·have hE : openT t true = 0 := by simp [openT, hz, h0]
      have hK : knownT t true = truthsS t (allS t) := by unfold knownT; rw [if_pos hE]
      have hlb : (((truthsS t (allS t)).length : Int) == 0) = false := by
       rw [beq_eq_false_iff_ne]
       intro e; exact h0 (List.eq_nil_of_length_eq_zero (by omega))
      have hem : (truthsS t (allS t)).isEmpty = false := by simpa [List.isEmpty_eq_false_iff] using h0
      (repeat refine ZQ ?_); refine ZR fun K hK => ?_; simp (maxSteps := 1000000) [ty162, ty3, hlb]; refine hK _ ?_; clear hK K
      (repeat refine ZQ ?_); refine ZC (hc := by simp [hlb]; rfl) (fun hd => ?_) (fun hd => ?_)
      ·simp [h0] at hd
      ·clear hd
       refine awp_skip ?_
       (repeat refine ZQ ?_); refine ZR fun K hK => ?_; simp (maxSteps := 1000000) [ty162]; refine hK _ ?_; clear hK K
       (repeat refine ZQ ?_); refine awp_ret ?_; refine And.intro (Or.inr rfl) ?_
       simp [retC, resC, viewC, mapO, hE, hK, purel, C.isPure, hem]
 ·have hE : openT t is = checkT t := by unfold openT; rw [if_pos hz]
  have hK : knownT t is = [] := by unfold knownT; rw [if_neg (by rw [hE]; exact hz)]
  (repeat refine ZQ ?_); refine ZC (hc := by simp [hz]; rfl) (fun hd => ?_) (fun hd => ?_)
  ·clear hd
   (repeat refine ZQ ?_); refine ZR fun K hK => ?_; simp (maxSteps := 1000000); refine hK _ ?_; clear hK K
   (repeat refine ZQ ?_); refine awp_ret ?_; refine And.intro (Or.inr rfl) ?_
   simp [retC, resC, viewC, mapO, hE, hK]
  ·simp [hz] at hd

set_option maxHeartbeats 4000000

theorem knownT_bd {t : Ti} {is : Bool} : (knownT t is).length ≤ 410000 ∧ ∀ k ∈ knownT t is, (-50 ≤ k.area ∧ k.area ≤ 50) ∧ (-100 ≤ k.skew ∧ k.skew ≤ 100) := by
 unfold knownT
 split
 ·rename_i h
  have hok := (openT_ok h).1
  exact ⟨truthsS_bd _ hok, fun k hk => every_k hok (List.mem_filter.1 hk).1⟩
 ·simp

theorem truthsS_sorted (t : Ti) (n : Nat) : (truthsS t n).Pairwise fun a b => a.area ≤ b.area := (allT_sorted (gwT t)).filter _

theorem gains_nums (t : Ti) : areasR (knownT t true) = numsT Tr.area t true := by
 unfold knownT numsT
 split
 ·exact areasR_eq (truthsS_sorted t _)
 ·rfl

theorem q_gains33 (t : Ti) (hl : TiLen t) : Pure Tryz.prog 113 [encTi t] (.tup [.sl (numsT Tr.area t true).isEmpty false ((numsT Tr.area t true).map cI), encI (openT t true)]) := by
 have hkb := (knownT_bd (t := t) (is := true)).1
 rw [← gains_nums]
 generalize hL : knownT t true = L at *
 obtain ⟨O, hO⟩ : ∃ O : Nat → List Int, O = fun i => areasR (L.take i) := ⟨_, rfl⟩
 have hO0 : O 0 = [] := by rw [hO]; rfl
 have hOn : areasR L = O L.length := by rw [hO]; simp only [List.take_length]
 have hOs : ∀ i (hi : i < L.length), O (i + 1) = addA (O i) L[i] := fun i hi => by rw [hO]; exact areasR_step hi
 have hOl : ∀ i, (O i).length ≤ L.length := fun i => by rw [hO]; exact Nat.le_trans (areasR_len _) (by simp; omega)
 rw [hOn]
 clear hOn hO
 refine ZF (fn := Tryz.f113) [.tmp 2, .tmp 3] ⟨Tryz.func113, rfl, by kernel_rfl⟩ fun x hx hσ => ?_
 (repeat refine ZQ ?_); refine ZR fun K hK => ?_; simp (maxSteps := 1000000) [ty62]; refine hK _ ?_; clear hK K
 (repeat refine ZQ ?_); refine ZR fun K hK => ?_; simp (maxSteps := 1000000) [ty62]
 refine ZP (q_known50 t true hl) ?_; simp (maxSteps := 1000000) [ty162]
 refine hK _ ?_; clear hK K; (first | show AWP _ _ _ _ _ | show ∃ _, _ | skip)
 rw [hL]
 (repeat refine ZQ ?_); refine ZR fun K hK => ?_; simp (maxSteps := 1000000); refine hK _ ?_; clear hK K
 (repeat refine ZQ ?_); refine ZR fun K hK => ?_; simp (maxSteps := 1000000); refine hK _ ?_; clear hK K
 (repeat refine ZQ ?_); refine awp_block ?_
 refine AWP.weak ?_ (wk_nil 6 6 1 (fu := true) (by simp) (by simp))
 refine awp_loop (fun i : Nat => ⟨ofL [(4, slT L), (5, encI (openT t true)), (6, .own 6 1 0 (O i).length), (7, encI i)], stoT [(6, 6, .live ⟨(O i).isEmpty, false, 1, (O i).map cI⟩)]⟩)
  (fun i => i ≤ L.length) (fun i => L.length - i) 0 (by simp) ?_ ?_
 ·rw [hO0]
  exact ZW
 ·intro i hi
  have hOi := hOl i
  (repeat refine ZQ ?_); refine ZR fun K hK => ?_; simp (maxSteps := 1000000) [ty162, ty3]; refine hK _ ?_; clear hK K
  (repeat refine ZQ ?_); refine ZC (fun hc => ?_) (fun hc => ?_)
  ·simp at hc
   refine awp_skip ?_
   (repeat refine ZQ ?_); refine awp_block ?_
   have hst := hOs i hc
   have hne : L ≠ [] := by rintro rfl; simp at hc
   have hwi : IntKind.i64.wrap ((i : Int) + 1) = ((i + 1 : Nat) : Int) := by rw [wrap_id (by omega) (by omega)]; rfl
   generalize hV : O i = V at *
   (repeat refine ZQ ?_); refine ZR fun K hK => ?_; simp (maxSteps := 1000000) [ty162, ty166, ty3, ty29, hc, hne]
   refine callL (q_in74 V.isEmpty false V L[i].area (by omega)) (by simp [viewL, mapO, viewC, C.isPure, purel]) (.inr rfl) ?_
   simp
   refine hK _ ?_; clear hK K; (first | show AWP _ _ _ _ _ | show ∃ _, _ | skip)
   by_cases hb : L[i].area ∈ V
   ·have hV1 : O (i + 1) = V := by rw [hst]; unfold addA; rw [if_pos hb]
    (repeat refine ZQ ?_); refine ZC (hc := by simp [hb]; rfl) (fun hd => ?_) (fun hd => ?_)
    ·exact absurd hd (by simp [hb])
    ·clear hd
     refine awp_skip ?_
     (repeat refine ZQ ?_); refine ZR fun K hK => ?_; simp (maxSteps := 1000000) [ty3]; refine hK _ ?_; clear hK K; (first | show AWP _ _ _ _ _ | show ∃ _, _ | skip)
     refine ⟨i + 1, by omega, by omega, ?_⟩
     rw [hV1, hwi]
     exact ZW
   ·have hV1 : O (i + 1) = V ++ [L[i].area] := by rw [hst]; unfold addA; rw [if_neg hb]
    (repeat refine ZQ ?_); refine ZC (hc := by simp [hb]; rfl) (fun hd => ?_) (fun hd => ?_)
    ·clear hd
     (repeat refine ZQ ?_); refine ZR fun K hK => ?_; simp (maxSteps := 1000000) [ty162, ty166, ty3, ty29, hc, hne]
     refine ⟨by omega, ?_⟩
     refine hK _ ?_; clear hK K
     (repeat refine ZQ ?_); refine ZR fun K hK => ?_; simp (maxSteps := 1000000) [ty3]; refine hK _ ?_; clear hK K; (first | show AWP _ _ _ _ _ | show ∃ _, _ | skip)
     refine ⟨i + 1, by omega, by omega, ?_⟩
     rw [hV1, hwi]
     refine wk_shape2 [(6, 34, .live ⟨(V ++ [L[i].area]).isEmpty, false, 1, (V ++ [L[i].area]).map cI⟩)] (by first | rfl | (simp only [if_pos, if_true]; rfl)) (shp0 hσ (by simp) (by simp) ?_) ?_
     ·simp [SlotOk] <;> (repeat' (first | (refine RowsOk.same ?_; simp [purel, C.isPure]; done) | (refine rowsCons ?_; simp [mtl, mtc, mT, mH, C.isPure, purel]; done) | (refine rowsCons ?_; simp [mtl, mtc, mT, mH, C.isPure, purel]) | refine And.intro ?_ ?_))
     ·simp [mtc, mtl, mT, C.isPure, purel] <;> (try simp (disch := omega) [wrap_id]) <;> (try omega)
    ·exact absurd hd (by simp [hb])
  ·simp at hc
   (repeat refine ZQ ?_); refine awp_exit ?_; (first | show AWP _ _ _ _ _ | show ∃ _, _ | skip)
   have hin : i = L.length := by omega
   rw [hin]
   (repeat refine ZQ ?_); refine ZR fun K hK => ?_; simp (maxSteps := 1000000) [ty29]; refine hK _ ?_; clear hK K
   (repeat refine ZQ ?_); refine awp_ret ?_; refine And.intro (Or.inr rfl) ?_
   simp [retC, resC, viewC, mapO, purel, C.isPure]

set_option maxHeartbeats 4000000

set_option maxHeartbeats 4000000

/-- The numbers are those of tests. -/
def InT (t : Ti) (l : List Int) : Prop := ∀ z ∈ l, 0 ≤ z ∧ z < t.ts.length

theorem InT.take {t : Ti} {l : List Int} (h : InT t l) (i : Nat) : InT t (l.take i) := fun z hz => h z (List.mem_of_mem_take hz)

@[simp] abbrev cTo (t : Ti) (c : C) : List C := [encI t.w.full, encI t.w.read, encI t.w.slip, encI t.w.skew, encI t.w.circle, encI t.w.glow, encI t.w.ghigh, encI t.w.wrong, encI t.gain, c]

set_option maxHeartbeats 4000000

/-- What a list of tests is like at a place. -/
def ListAt (n : Nat) (l : List Int) (i : Nat) (h : i < l.length) : Prop := (0 ≤ l[i] ∧ l[i] ≤ (n : Int) - 1) ∧ (∀ _ : 0 < i, l[i - 1] < l[i])
/-- The numbers are those of tests, strictly ascending. -/
def ListOk (n : Nat) (l : List Int) : Prop := ∀ i (h : i < l.length), ListAt n l i h

instance (n : Nat) (l : List Int) (i : Nat) (h : i < l.length) : Decidable (ListAt n l i h) := by unfold ListAt; exact inferInstance
instance (n : Nat) (l : List Int) : Decidable (ListOk n l) := by unfold ListOk; exact inferInstance

set_option maxHeartbeats 4000000

-- plain laws of sets and lists

theorem ListOk.lt {n : Nat} {l : List Int} (h : ListOk n l) : l.Pairwise (· < ·) := by
 refine List.pairwise_iff_getElem.2 fun i j hi hj hij => ?_
 obtain ⟨d, rfl⟩ : ∃ d, j = i + 1 + d := ⟨j - i - 1, by omega⟩
 clear hij
 induction d with
 | zero => exact (h (i + 1) hj).2 (by omega)
 | succ d ih =>
  have h1 := ih (by omega)
  have h2 := (h (i + 1 + (d + 1)) hj).2 (by omega)
  simp only [show i + 1 + (d + 1) - 1 = i + 1 + d by omega] at h2
  exact Int.lt_trans h1 h2

set_option maxHeartbeats 8000000

@[simp] abbrev slF (A : List Int) : C := .sl A.isEmpty false (A.map cI)
def rowsF (t : Ti) (S : List Nat) : List (List C) := S.map fun s => [slF (listS t s)]

@[simp] theorem rowsF_len (t : Ti) (S : List Nat) : (rowsF t S).length = S.length := by simp [rowsF]
@[simp] theorem rowsF_pure (t : Ti) (S : List Nat) : (rowsF t S).all purel = true := by simp [rowsF, purel, C.isPure]
set_option maxHeartbeats 8000000

set_option maxHeartbeats 8000000

def copyY (y : Ts) : Ts := { y with nl := false, fu := false }
/-- An equal trial in new memory. -/
def copyT (t : Ti) : Ti := { t with nl := t.ts.isEmpty, fu := false, ts := t.ts.map copyY }

theorem set_last {α : Type} (A : List α) (x y : α) {n : Nat} (h : n = A.length) : (A ++ [x]).set n y = A ++ [y] := by
 subst h
 rw [List.set_append_right _ _ (Nat.le_refl _)]
 simp

theorem q_copy10 (t : Ti) (hl : TiLen t) : Pure Tryz.prog 66 [encTi t] (encTi (copyT t)) := by
  have hlt := hl.ts
  obtain ⟨U, hU⟩ : ∃ U : Nat → List Ts, ∀ i, U i = (t.ts.take i).map copyY := ⟨_, fun _ => rfl⟩
  have hU0 : U 0 = [] := by rw [hU]; rfl
  have hUl : ∀ i, i ≤ t.ts.length → (U i).length = i := fun i hi => by rw [hU]; simp; omega
  have hUs : ∀ i (hi : i < t.ts.length), U (i + 1) = U i ++ [copyY t.ts[i]] := fun i hi => by rw [hU, hU, List.take_succ_eq_append_getElem hi, List.map_append]; rfl
  have hUn : t.ts.map copyY = U t.ts.length := by rw [hU, List.take_length]
  unfold copyT
  rw [hUn]
  clear hUn hU
  refine ZF (fn := Tryz.f66) [.cell 2 62] ⟨Tryz.func66, rfl, by kernel_rfl⟩ fun x hx hσ => ?_
  (repeat refine ZQ ?_); refine ZR fun K hK => ?_; simp (maxSteps := 1000000) [ty62]; refine hK _ ?_; clear hK K
  (repeat refine ZQ ?_); refine ZR fun K hK => ?_; simp (maxSteps := 1000000) [ty62]; refine hK _ ?_; clear hK K
  (repeat refine ZQ ?_); refine ZR fun K hK => ?_; simp (maxSteps := 1000000) [ty62, ty51]; refine hK _ ?_; clear hK K
  (repeat refine ZQ ?_); refine ZR fun K hK => ?_; simp (maxSteps := 1000000); refine hK _ ?_; clear hK K
  (repeat refine ZQ ?_); refine awp_block ?_
  refine AWP.weak ?_ (wk_nilCell 3 0 9 1000 2 (o := ⟨false, false, 10, [cTo t (.sl true true [])]⟩) (row := cTo t (.sl true true [])) (fu := true) (by simp) rfl rfl rfl (by simp) (by decide))
  refine awp_loop (fun i : Nat => ⟨ofL [(1, .ptr 1 10 0 0), (2, .ptr 2 10 0 0), (3, .ptr 3 10 0 0), (4, encI i)],
      stoT [(1, 1, .live (obTi t)), (2, 2, .live ⟨false, false, 10, [[encI 0, encI 0, encI 0, encI 0, encI 0, encI 0, encI 0, encI 0, encI 0, .sl true true []]]⟩), (3, 3, .live ⟨false, false, 10, [cTo t (.own 1000 2 0 i)]⟩), (1000, 1000, .live ⟨(U i).isEmpty, false, 2, (U i).map cTs⟩)]⟩)
    (fun i => i ≤ t.ts.length) (fun i => t.ts.length - i) 0 (by simp) ?_ ?_
  · refine wk_shape (shp0 hσ (by simp) (by simp) ?_) ?_
    · simp [SlotOk, hU0] <;> (repeat' (first | (refine RowsOk.same ?_; simp [purel, C.isPure]; done) | (refine rowsCons ?_; simp [mtl, mtc, mT, mH, C.isPure, purel]; done) | (refine rowsCons ?_; simp [mtl, mtc, mT, mH, C.isPure, purel]) | refine And.intro ?_ ?_))
    · simp [mtc, mtl, mT, C.isPure, purel, hU0] <;> (try simp (disch := omega) [wrap_id]) <;> (try omega)
  · intro i hi
    have hUi := hUl i hi
    (repeat refine ZQ ?_); refine ZR fun K hK => ?_; simp (maxSteps := 1000000) [ty62, ty51, ty3]; refine hK _ ?_; clear hK K
    (repeat refine ZQ ?_); refine ZC (fun hc => ?_) (fun hc => ?_)
    · simp at hc
      refine awp_skip ?_
      (repeat refine ZQ ?_); refine awp_block ?_
      have hst := hUs i hc
      have hln := hl.l _ (List.getElem_mem hc)
      obtain ⟨y, hy⟩ : ∃ y, y = t.ts[i] := ⟨_, rfl⟩
      generalize hV : U i = V at *
      have hwi : IntKind.i64.wrap ((i : Int) + 1) = ((i + 1 : Nat) : Int) := by rw [wrap_id (by omega) (by omega)]; rfl
      (repeat refine ZQ ?_); refine ZD [1001, 1003, 1007, 1010, 1014, 15, 17, 5018, 11000] [0, 1, 2, 3, 4, 5, 6, 7, 8, 9, 10, 11, 12, 13, 14, 15, 16, 17, 18, 19, 20] fun K hK => ?_; simp (maxSteps := 1000000) [ty62, ty51, ty3, ty119, ty117, ty121, hc, ← hy]
      refine ⟨⟨by rw [hy]; omega, by rw [hy]; omega⟩, ⟨by omega, by omega, by omega⟩, ?_⟩
      refine hK _ ?_; clear hK K; (first | show AWP _ _ _ _ _ | show ∃ _, _ | skip)
      rw [← hy] at hst
      refine AWP.weak ?_ (wk_frzCell 29 32 i 1 (o := ⟨y.l.isEmpty, true, 5, y.l.map cWl⟩) (oq := ⟨false, false, 2, V.map cTs ++ [[encI y.area, .own 29 5 0 y.l.length]]⟩) (row := [encI y.area, .own 29 5 0 y.l.length]) (c := .own 29 5 0 y.l.length) (c' := sWl false false y.l) (by simp) (by simp [purel, C.isPure]) (by simp) (by decide) rfl
        (by show (V.map cTs ++ [[encI y.area, .own 29 5 0 y.l.length]])[i]? = _
            rw [List.getElem?_append_right (by simp; omega)]
            simp [hUi]) rfl (by
        have := fz_own (k := 29) (sz := 5) (n := y.l.length) (b := false) (o := ⟨y.l.isEmpty, true, 5, y.l.map cWl⟩) rfl (by simp) (by simp)
        simpa using this) rfl)
      have hset : (V.map cTs ++ [[encI y.area, .own 29 5 0 y.l.length]]).set i [encI y.area, sWl false false y.l] = (V ++ [copyY y]).map cTs := by
        rw [set_last _ _ _ (by simp [hUi])]
        simp [copyY]
      simp only [List.set_cons_succ, List.set_cons_zero]
      rw [hset]
      (repeat refine ZQ ?_); refine ZR fun K hK => ?_; simp (maxSteps := 1000000) [ty3]; refine hK _ ?_; clear hK K; (first | show AWP _ _ _ _ _ | show ∃ _, _ | skip)
      refine ⟨i + 1, by omega, by omega, ?_⟩
      rw [hst, hwi]
      refine wk_shape2 [(1, 1, .live (obTi t)), (2, 2, .live ⟨false, false, 10, [[encI 0, encI 0, encI 0, encI 0, encI 0, encI 0, encI 0, encI 0, encI 0, .sl true true []]]⟩), (3, 3, .live ⟨false, false, 10, [cTo t (.own 1000 2 0 (i + 1))]⟩), (1000, 32, .live ⟨(V ++ [copyY y]).isEmpty, false, 2, (V ++ [copyY y]).map cTs⟩)] (by first | rfl | (simp only [if_pos, if_true]; rfl)) (shp0 hσ (by simp) (by simp) ?_) ?_
      · simp [SlotOk] <;> (repeat' (first | (refine RowsOk.same ?_; simp [purel, C.isPure]; done) | (refine rowsCons ?_; simp [mtl, mtc, mT, mH, C.isPure, purel]; done) | (refine rowsCons ?_; simp [mtl, mtc, mT, mH, C.isPure, purel]) | refine And.intro ?_ ?_))
      · simp [mtc, mtl, mT, C.isPure, purel] <;> (try simp (disch := omega) [wrap_id]) <;> (try omega)
    · simp at hc
      (repeat refine ZQ ?_); refine awp_exit ?_; (first | show AWP _ _ _ _ _ | show ∃ _, _ | skip)
      have hin : i = t.ts.length := by omega
      rw [hin] at hUi ⊢
      have hem : (U t.ts.length).isEmpty = t.ts.isEmpty := by
        cases h1 : U t.ts.length <;> cases h2 : t.ts <;> rw [h1, h2] at hUi <;> simp at hUi <;> rfl
      generalize U t.ts.length = V at *
      rw [hem]
      refine AWP.weak ?_ (wk_frzCell 1000 3 0 9 (o := ⟨t.ts.isEmpty, false, 2, V.map cTs⟩) (oq := ⟨false, false, 10, [cTo t (.own 1000 2 0 t.ts.length)]⟩) (row := cTo t (.own 1000 2 0 t.ts.length)) (c := .own 1000 2 0 t.ts.length) (c' := sTs t.ts.isEmpty false V) (by simp) (by simp [purel, C.isPure]) (by simp) (by decide) rfl rfl rfl (fz_own rfl (by simp [hUi]) (by simp)) rfl)
      (repeat refine ZQ ?_); refine ZR fun K hK => ?_; simp (maxSteps := 1000000) [ty62]; refine hK _ ?_; clear hK K
      (repeat refine ZQ ?_); refine awp_ret ?_; refine And.intro (Or.inr rfl) ?_
      simp [retC, resC, viewC, mapO, ty62]

set_option maxHeartbeats 4000000

set_option maxHeartbeats 4000000

set_option maxHeartbeats 4000000

set_option maxHeartbeats 4000000

theorem fe121 : flatEq Tryz.prog 121 = some [.i64, .i64, .i64, .i64, .i64] := by kernel_rfl
theorem fe23 : flatEq Tryz.prog 23 = some [.i64, .i64] := by kernel_rfl

theorem same29 (a1 a2 b1 b2 : Bool) (A B : List Int) (hn : A.length ≤ 1000000) (hm : B.length ≤ 1000000) : Pure Tryz.prog 38 [.sl a1 a2 (A.map cI), .sl b1 b2 (B.map cI)] (.bool (decide (A = B))) := by
 refine ZF (fn := Tryz.f38) [.tmp 4] ⟨Tryz.func38, rfl, by kernel_rfl⟩ fun x hx hσ => ?_
 (repeat refine ZQ ?_); refine ZR fun K hK => ?_; simp (maxSteps := 1000000); refine hK _ ?_; clear hK K; (first | show AWP _ _ _ _ _ | show ∃ _, _ | skip)
 by_cases hl : A.length = B.length
 ·(repeat refine ZQ ?_); refine ZR fun K hK => ?_; simp (maxSteps := 1000000) [ty29, ty3, hl]; refine hK _ ?_; clear hK K
  (repeat refine ZQ ?_); refine ZC (hc := by simp [hl]; rfl) (fun hd => ?_) (fun hd => ?_)
  ·simp at hd
  ·clear hd
   refine awp_skip ?_
   (repeat refine ZQ ?_); refine ZR fun K hK => ?_; simp (maxSteps := 1000000); refine hK _ ?_; clear hK K
   (repeat refine ZQ ?_); refine awp_block ?_
   refine awp_loop (fun i : Nat => ⟨ofL [(0, .sl a1 a2 (A.map cI)), (1, .sl b1 b2 (B.map cI)), (5, encI i)], stoT []⟩)
    (fun i => i ≤ A.length ∧ ∀ j (h1 : j < A.length) (h2 : j < B.length), j < i → A[j] = B[j]) (fun i => A.length - i) 0 ⟨Nat.zero_le _, fun j _ _ h => by omega⟩ ?_ ?_
   ·exact Zw
   ·rintro i ⟨hi, hj⟩
    (repeat refine ZQ ?_); refine ZR fun K hK => ?_; simp (maxSteps := 1000000) [ty29, ty3]; refine hK _ ?_; clear hK K
    (repeat refine ZQ ?_); refine ZC (fun hc => ?_) (fun hc => ?_)
    ·simp at hc
     have hcB : i < B.length := by omega
     refine awp_skip ?_
     (repeat refine ZQ ?_); refine awp_block ?_
     (repeat refine ZQ ?_); refine ZD [] [0, 1, 2, 3, 4, 5, 6, 7, 8] fun K hK => ?_; simp (maxSteps := 1000000) [ty29, ty3, hc, hcB]; refine hK _ ?_; clear hK K; (first | show AWP _ _ _ _ _ | show ∃ _, _ | skip)
     by_cases hb : A[i] = B[i]
     ·(repeat refine ZQ ?_); refine ZC (hc := by simp [hb]; rfl) (fun hd => ?_) (fun hd => ?_)
      ·simp [hb] at hd
      ·clear hd
       refine awp_skip ?_
       (repeat refine ZQ ?_); refine ZR fun K hK => ?_; simp (maxSteps := 1000000) [ty3]; refine hK _ ?_; clear hK K; (first | show AWP _ _ _ _ _ | show ∃ _, _ | skip)
       rw [wrap_id (by omega) (by omega)]
       refine ⟨i + 1, ⟨by omega, fun j h1 h2 h => ?_⟩, by omega, ?_⟩
       ·by_cases e : j = i
        ·subst e; exact hb
        ·exact hj j h1 h2 (by omega)
       ·exact Zw
     ·(repeat refine ZQ ?_); refine ZC (hc := by simp [hb]; rfl) (fun hd => ?_) (fun hd => ?_)
      ·clear hd
       (repeat refine ZQ ?_); refine ZR fun K hK => ?_; simp (maxSteps := 1000000); refine hK _ ?_; clear hK K
       (repeat refine ZQ ?_); refine awp_ret ?_; refine And.intro (Or.inr rfl) ?_
       have : decide (A = B) = false := by
        rw [decide_eq_false_iff_not]
        rintro rfl
        exact hb rfl
       rw [this]
       simp [retC, resC, viewC, mapO]
      ·simp [hb] at hd
    ·simp at hc
     (repeat refine ZQ ?_); refine awp_exit ?_; (first | show AWP _ _ _ _ _ | show ∃ _, _ | skip)
     have : decide (A = B) = true := by
      rw [decide_eq_true_eq]
      exact List.ext_getElem hl fun j h1 h2 => hj j h1 h2 (by omega)
     rw [this]
     (repeat refine ZQ ?_); refine ZR fun K hK => ?_; simp (maxSteps := 1000000); refine hK _ ?_; clear hK K
     (repeat refine ZQ ?_); refine awp_ret ?_; refine And.intro (Or.inr rfl) ?_
     simp [retC, resC, viewC, mapO]
 ·have : decide (A = B) = false := by
   rw [decide_eq_false_iff_not]
   rintro rfl
   exact hl rfl
  rw [this]
  (repeat refine ZQ ?_); refine ZR fun K hK => ?_; simp (maxSteps := 1000000) [ty29, ty3, hl]; refine hK _ ?_; clear hK K
  (repeat refine ZQ ?_); refine ZC (hc := by simp [hl]; rfl) (fun hd => ?_) (fun hd => ?_)
  ·clear hd
   (repeat refine ZQ ?_); refine ZR fun K hK => ?_; simp (maxSteps := 1000000); refine hK _ ?_; clear hK K
   (repeat refine ZQ ?_); refine awp_ret ?_; refine And.intro (Or.inr rfl) ?_
   simp [retC, resC, viewC, mapO]
  ·simp at hd
   exact absurd (by omega) hl

theorem eqI5 (x : Wl) : eqInts [.i64, .i64, .i64, .i64, .i64] (cWl x) (cWl x) = some true := by simp [eqInts]

set_option maxHeartbeats 4000000

def wX : Wh := ⟨100, 0, 0, 2, 0, 40, 60, 0⟩
def yA : Wl := ⟨1, 1, 0, 10, 62⟩
def yB : Wl := ⟨1, -1, 0, 62, 16⟩

theorem example48 : Pure Tryz.prog 96 [] (.tup [encWh wX, sWl false true [yA, yB]]) := by
 refine ZF (fn := Tryz.f96) [.cell 0 25, .tmp 1] ⟨Tryz.func96, rfl, by kernel_rfl⟩ fun x hx hσ => ?_
 (repeat refine ZQ ?_); refine ZR fun K hK => ?_; simp (maxSteps := 1000000) [ty25]; refine hK _ ?_; clear hK K
 (repeat refine ZQ ?_); refine ZR fun K hK => ?_; simp (maxSteps := 1000000) [ty25, ty23, ty121, ty117]; refine hK _ ?_; clear hK K
 (repeat refine ZQ ?_); refine awp_ret ?_; refine And.intro (Or.inr rfl) ?_
 simp [retC, resC, viewC, mapO, ty25, wX, yA, yB]

set_option maxHeartbeats 8000000

-- what the laws use: the example, what is far, what is the same

set_option maxHeartbeats 8000000

theorem fe25 : flatEq Tryz.prog 25 = none := by kernel_rfl
theorem de25 : deepEq Tryz.prog 25 = some [.i64, .i64, .i64, .i64, .i64, .i64, .i64, .i64] := by kernel_rfl

theorem least_ex {p : Nat → Prop} (h : ∃ n, p n) : ∃ n, p n ∧ ∀ m, m < n → ¬ p m := by
 obtain ⟨n, hn⟩ := h
 induction n using Nat.strongRecOn with
 | ind n ih =>
  by_cases g : ∃ m, m < n ∧ p m
  ·obtain ⟨m, hm, hp⟩ := g
   exact ih m hm hp
  ·exact ⟨n, hn, fun m hm hp => g ⟨m, hm, hp⟩⟩

def mxTo (l : List Ts) : Nat → Int
 | 0 => 0
 | i + 1 => let m := mxTo l i; let n : Int := match l[i]? with | some y => y.l.length | none => 0; if m < n then n else m

theorem mxTo_step {l : List Ts} {i : Nat} (hi : i < l.length) : mxTo l (i + 1) = if mxTo l i < (l[i].l.length : Int) then (l[i].l.length : Int) else mxTo l i := by
 simp only [mxTo, List.getElem?_eq_getElem hi]
theorem mxTo_bd {l : List Ts} (h : ∀ j (hj : j < l.length), l[j].l.length ≤ 20) : ∀ i, 0 ≤ mxTo l i ∧ mxTo l i ≤ 20
 | 0 => by simp [mxTo]
 | i + 1 => by
  have ih := mxTo_bd h i
  by_cases hi : i < l.length
  ·have := h i hi
   rw [mxTo_step hi]
   split <;> omega
  ·simp only [mxTo, List.getElem?_eq_none (by omega : l.length ≤ i)]
   split <;> omega


/-- What is far enough. -/
def NearT (t : Ti) : Prop := t.ts.length ≤ 20 ∧ ∀ y ∈ t.ts, y.l.length ≤ 20

theorem far8 (t : Ti) : ∃ b, Pure Tryz.prog 73 [encTi t] (.bool b) ∧ (b = false → NearT t) := by
 by_cases h20 : (20 : Int) < t.ts.length
 ·refine ⟨true, ?_, by simp⟩
  refine ZF (fn := Tryz.f73) [.tmp 2] ⟨Tryz.func73, rfl, by kernel_rfl⟩ fun x hx hσ => ?_
  (repeat refine ZQ ?_); refine ZR fun K hK => ?_; simp (maxSteps := 1000000) [ty62]; refine hK _ ?_; clear hK K
  (repeat refine ZQ ?_); refine ZR fun K hK => ?_; simp (maxSteps := 1000000) [ty62, ty51, ty3, h20]; refine hK _ ?_; clear hK K
  (repeat refine ZQ ?_); refine ZC (hc := by simp [h20]; rfl) (fun hd => ?_) (fun hd => ?_)
  ·clear hd
   (repeat refine ZQ ?_); refine ZR fun K hK => ?_; simp (maxSteps := 1000000); refine hK _ ?_; clear hK K
   (repeat refine ZQ ?_); refine awp_ret ?_; refine And.intro (Or.inr rfl) ?_
   simp [retC, resC, viewC, mapO]
  ·simp at hd
 ·by_cases hall : ∀ j (hj : j < t.ts.length), t.ts[j].l.length ≤ 20
  ·have hl : TiLen t := ⟨by omega, fun y hy => by
    obtain ⟨j, hj, rfl⟩ := List.getElem_of_mem hy
    have := hall j hj; omega⟩
   have hnear : NearT t := ⟨by omega, fun y hy => by
    obtain ⟨j, hj, rfl⟩ := List.getElem_of_mem hy
    exact hall j hj⟩
   have hmb := mxTo_bd hall
   obtain ⟨M, hM⟩ : ∃ M, (if (if t.w.read < t.w.slip then t.w.slip else t.w.read) < t.w.skew then t.w.skew else if t.w.read < t.w.slip then t.w.slip else t.w.read) = M := ⟨_, rfl⟩
   by_cases hz : checkT t = 0
   ·refine ⟨decide (2 < M) || decide (120 < t.w.full) || decide (6 < t.gain) || decide (4 < (t.ts.length : Int)) || decide (2 < mxTo t.ts t.ts.length), ?_, fun _ => hnear⟩
    refine ZF (fn := Tryz.f73) [.tmp 2] ⟨Tryz.func73, rfl, by kernel_rfl⟩ fun x hx hσ => ?_
    (repeat refine ZQ ?_); refine ZR fun K hK => ?_; simp (maxSteps := 1000000) [ty62]; refine hK _ ?_; clear hK K
    (repeat refine ZQ ?_); refine ZR fun K hK => ?_; simp (maxSteps := 1000000) [ty62, ty51, ty3, h20]; refine hK _ ?_; clear hK K
    (repeat refine ZQ ?_); refine ZC (hc := by simp [h20]; rfl) (fun hd => ?_) (fun hd => ?_)
    ·simp at hd
    ·clear hd
     refine awp_skip ?_
     (repeat refine ZQ ?_); refine ZR fun K hK => ?_; simp (maxSteps := 1000000); refine hK _ ?_; clear hK K
     (repeat refine ZQ ?_); refine ZR fun K hK => ?_; simp (maxSteps := 1000000); refine hK _ ?_; clear hK K
     (repeat refine ZQ ?_); refine awp_block ?_
     refine awp_loop (fun i : Nat => ⟨ofL [(1, .ptr 1 10 0 0), (3, encI (mxTo t.ts i)), (4, encI i)], stoT [(1, 1, .live (obTi t))]⟩)
      (fun i => i ≤ t.ts.length) (fun i => t.ts.length - i) 0 (Nat.zero_le _) ?_ ?_
     ·refine wk_shape (shp0 hσ (by simp) (by simp) ?_) ?_
      ·simp [SlotOk, mxTo] <;> (repeat' (first | (refine RowsOk.same ?_; simp [purel, C.isPure]; done) | (refine rowsCons ?_; simp [mtl, mtc, mT, mH, C.isPure, purel]; done) | (refine rowsCons ?_; simp [mtl, mtc, mT, mH, C.isPure, purel]) | refine And.intro ?_ ?_))
      ·simp [mtc, mtl, mT, C.isPure, purel, mxTo] <;> (try simp (disch := omega) [wrap_id]) <;> (try omega)
     ·intro i hi
      (repeat refine ZQ ?_); refine ZR fun K hK => ?_; simp (maxSteps := 1000000) [ty62, ty51, ty3]; refine hK _ ?_; clear hK K
      (repeat refine ZQ ?_); refine ZC (fun hc => ?_) (fun hc => ?_)
      ·simp at hc
       refine awp_skip ?_
       (repeat refine ZQ ?_); refine awp_block ?_
       have hst := mxTo_step hc
       have hx20 : ¬ (20 : Int) < (t.ts[i].l.length : Int) := by have := hall i hc; omega
       have hwi : IntKind.i64.wrap ((i : Int) + 1) = ((i + 1 : Nat) : Int) := by rw [wrap_id (by omega) (by omega)]; rfl
       (repeat refine ZQ ?_); refine ZR fun K hK => ?_; simp (maxSteps := 1000000) [ty62, ty51, ty119, ty117, ty3, hc, hx20]; refine hK _ ?_; clear hK K
       (repeat refine ZQ ?_); refine ZC (hc := by simp [hx20]; rfl) (fun hd => ?_) (fun hd => ?_)
       ·simp [hx20] at hd
       ·clear hd
        refine awp_skip ?_
        (repeat refine ZQ ?_); refine ZR fun K hK => ?_; simp (maxSteps := 1000000) [ty62, ty51, ty119, ty117, ty3, hc]; refine hK _ ?_; clear hK K
        (repeat refine ZQ ?_); refine ZR fun K hK => ?_; simp (maxSteps := 1000000) [ty3]; refine hK _ ?_; clear hK K; (first | show AWP _ _ _ _ _ | show ∃ _, _ | skip)
        refine ⟨i + 1, by omega, by omega, ?_⟩
        rw [hst, hwi]
        exact ZW
      ·simp at hc
       (repeat refine ZQ ?_); refine awp_exit ?_; (first | show AWP _ _ _ _ _ | show ∃ _, _ | skip)
       have hin : i = t.ts.length := by omega
       rw [hin]
       generalize mxTo t.ts t.ts.length = X at *
       by_cases h1 : 2 < M
       ·(repeat refine ZQ ?_); refine ZR fun K hK => ?_; simp (maxSteps := 1000000) [ty62]
        refine ZP (q_check30 t hl) ?_; simp (maxSteps := 1000000) [ty37, hz, ty3, ty62, ty25, ty51, hM, h1]
        refine hK _ ?_; clear hK K
        (repeat refine ZQ ?_); refine awp_ret ?_; refine And.intro (Or.inr rfl) ?_
        simp [retC, resC, viewC, mapO, h1]
       ·by_cases h2 : 120 < t.w.full
        ·(repeat refine ZQ ?_); refine ZR fun K hK => ?_; simp (maxSteps := 1000000) [ty62]
         refine ZP (q_check30 t hl) ?_; simp (maxSteps := 1000000) [ty37, hz, ty3, ty62, ty25, ty51, hM, h1, h2]
         refine hK _ ?_; clear hK K
         (repeat refine ZQ ?_); refine awp_ret ?_; refine And.intro (Or.inr rfl) ?_
         simp [retC, resC, viewC, mapO, h1, h2]
        ·by_cases h3 : 6 < t.gain
         ·(repeat refine ZQ ?_); refine ZR fun K hK => ?_; simp (maxSteps := 1000000) [ty62]
          refine ZP (q_check30 t hl) ?_; simp (maxSteps := 1000000) [ty37, hz, ty3, ty62, ty25, ty51, hM, h1, h2, h3]
          refine hK _ ?_; clear hK K
          (repeat refine ZQ ?_); refine awp_ret ?_; refine And.intro (Or.inr rfl) ?_
          simp [retC, resC, viewC, mapO, h1, h2, h3]
         ·by_cases h4 : (4 : Int) < (t.ts.length : Int)
          ·(repeat refine ZQ ?_); refine ZR fun K hK => ?_; simp (maxSteps := 1000000) [ty62]
           refine ZP (q_check30 t hl) ?_; simp (maxSteps := 1000000) [ty37, hz, ty3, ty62, ty25, ty51, hM, h1, h2, h3, h4]
           refine hK _ ?_; clear hK K
           (repeat refine ZQ ?_); refine awp_ret ?_; refine And.intro (Or.inr rfl) ?_
           simp [retC, resC, viewC, mapO, h1, h2, h3, h4]
          ·by_cases h5 : 2 < X
           ·(repeat refine ZQ ?_); refine ZR fun K hK => ?_; simp (maxSteps := 1000000) [ty62]
            refine ZP (q_check30 t hl) ?_; simp (maxSteps := 1000000) [ty37, hz, ty3, ty62, ty25, ty51, hM, h1, h2, h3, h4, h5]
            refine hK _ ?_; clear hK K
            (repeat refine ZQ ?_); refine awp_ret ?_; refine And.intro (Or.inr rfl) ?_
            simp [retC, resC, viewC, mapO, h1, h2, h3, h4, h5]
           ·(repeat refine ZQ ?_); refine ZR fun K hK => ?_; simp (maxSteps := 1000000) [ty62]
            refine ZP (q_check30 t hl) ?_; simp (maxSteps := 1000000) [ty37, hz, ty3, ty62, ty25, ty51, hM, h1, h2, h3, h4, h5]
            refine hK _ ?_; clear hK K
            (repeat refine ZQ ?_); refine awp_ret ?_; refine And.intro (Or.inr rfl) ?_
            simp [retC, resC, viewC, mapO, h1, h2, h3, h4, h5]
   ·refine ⟨false, ?_, fun _ => hnear⟩
    have hz' : (checkT t == 0) = false := by simpa using hz
    refine ZF (fn := Tryz.f73) [.tmp 2] ⟨Tryz.func73, rfl, by kernel_rfl⟩ fun x hx hσ => ?_
    (repeat refine ZQ ?_); refine ZR fun K hK => ?_; simp (maxSteps := 1000000) [ty62]; refine hK _ ?_; clear hK K
    (repeat refine ZQ ?_); refine ZR fun K hK => ?_; simp (maxSteps := 1000000) [ty62, ty51, ty3, h20]; refine hK _ ?_; clear hK K
    (repeat refine ZQ ?_); refine ZC (hc := by simp [h20]; rfl) (fun hd => ?_) (fun hd => ?_)
    ·simp at hd
    ·clear hd
     refine awp_skip ?_
     (repeat refine ZQ ?_); refine ZR fun K hK => ?_; simp (maxSteps := 1000000); refine hK _ ?_; clear hK K
     (repeat refine ZQ ?_); refine ZR fun K hK => ?_; simp (maxSteps := 1000000); refine hK _ ?_; clear hK K
     (repeat refine ZQ ?_); refine awp_block ?_
     refine awp_loop (fun i : Nat => ⟨ofL [(1, .ptr 1 10 0 0), (3, encI (mxTo t.ts i)), (4, encI i)], stoT [(1, 1, .live (obTi t))]⟩)
      (fun i => i ≤ t.ts.length) (fun i => t.ts.length - i) 0 (Nat.zero_le _) ?_ ?_
     ·refine wk_shape (shp0 hσ (by simp) (by simp) ?_) ?_
      ·simp [SlotOk, mxTo] <;> (repeat' (first | (refine RowsOk.same ?_; simp [purel, C.isPure]; done) | (refine rowsCons ?_; simp [mtl, mtc, mT, mH, C.isPure, purel]; done) | (refine rowsCons ?_; simp [mtl, mtc, mT, mH, C.isPure, purel]) | refine And.intro ?_ ?_))
      ·simp [mtc, mtl, mT, C.isPure, purel, mxTo] <;> (try simp (disch := omega) [wrap_id]) <;> (try omega)
     ·intro i hi
      (repeat refine ZQ ?_); refine ZR fun K hK => ?_; simp (maxSteps := 1000000) [ty62, ty51, ty3]; refine hK _ ?_; clear hK K
      (repeat refine ZQ ?_); refine ZC (fun hc => ?_) (fun hc => ?_)
      ·simp at hc
       refine awp_skip ?_
       (repeat refine ZQ ?_); refine awp_block ?_
       have hst := mxTo_step hc
       have hx20 : ¬ (20 : Int) < (t.ts[i].l.length : Int) := by have := hall i hc; omega
       have hwi : IntKind.i64.wrap ((i : Int) + 1) = ((i + 1 : Nat) : Int) := by rw [wrap_id (by omega) (by omega)]; rfl
       (repeat refine ZQ ?_); refine ZR fun K hK => ?_; simp (maxSteps := 1000000) [ty62, ty51, ty119, ty117, ty3, hc, hx20]; refine hK _ ?_; clear hK K
       (repeat refine ZQ ?_); refine ZC (hc := by simp [hx20]; rfl) (fun hd => ?_) (fun hd => ?_)
       ·simp [hx20] at hd
       ·clear hd
        refine awp_skip ?_
        (repeat refine ZQ ?_); refine ZR fun K hK => ?_; simp (maxSteps := 1000000) [ty62, ty51, ty119, ty117, ty3, hc]; refine hK _ ?_; clear hK K
        (repeat refine ZQ ?_); refine ZR fun K hK => ?_; simp (maxSteps := 1000000) [ty3]; refine hK _ ?_; clear hK K; (first | show AWP _ _ _ _ _ | show ∃ _, _ | skip)
        refine ⟨i + 1, by omega, by omega, ?_⟩
        rw [hst, hwi]
        exact ZW
      ·simp at hc
       (repeat refine ZQ ?_); refine awp_exit ?_
       (repeat refine ZQ ?_); refine ZR fun K hK => ?_; simp (maxSteps := 1000000) [ty62]
       refine ZP (q_check30 t hl) ?_; simp (maxSteps := 1000000) [ty37, hz', ty3, ty62]
       refine hK _ ?_; clear hK K
       (repeat refine ZQ ?_); refine awp_ret ?_; refine And.intro (Or.inr rfl) ?_
       simp [retC, resC, viewC, mapO]
  ·refine ⟨true, ?_, by simp⟩
   obtain ⟨J, hJ, hJl, hJm⟩ : ∃ J, ∃ hJ : J < t.ts.length, 20 < t.ts[J].l.length ∧ ∀ j (hj : j < t.ts.length), j < J → t.ts[j].l.length ≤ 20 := by
    have hex : ∃ J, ∃ hJ : J < t.ts.length, 20 < t.ts[J].l.length := by
     refine Classical.byContradiction fun h => hall fun j hj => ?_
     exact Classical.byContradiction fun g => h ⟨j, hj, by omega⟩
    obtain ⟨J, ⟨hJ, hJ20⟩, hmin⟩ := least_ex hex
    refine ⟨J, hJ, hJ20, fun j hj hlt => ?_⟩
    exact Classical.byContradiction fun g => hmin j hlt ⟨hj, by omega⟩
   refine ZF (fn := Tryz.f73) [.tmp 2] ⟨Tryz.func73, rfl, by kernel_rfl⟩ fun x hx hσ => ?_
   (repeat refine ZQ ?_); refine ZR fun K hK => ?_; simp (maxSteps := 1000000) [ty62]; refine hK _ ?_; clear hK K
   (repeat refine ZQ ?_); refine ZR fun K hK => ?_; simp (maxSteps := 1000000) [ty62, ty51, ty3, h20]; refine hK _ ?_; clear hK K
   (repeat refine ZQ ?_); refine ZC (hc := by simp [h20]; rfl) (fun hd => ?_) (fun hd => ?_)
   ·simp at hd
   ·clear hd
    refine awp_skip ?_
    (repeat refine ZQ ?_); refine ZR fun K hK => ?_; simp (maxSteps := 1000000); refine hK _ ?_; clear hK K
    (repeat refine ZQ ?_); refine ZR fun K hK => ?_; simp (maxSteps := 1000000); refine hK _ ?_; clear hK K
    (repeat refine ZQ ?_); refine awp_block ?_
    refine awp_loop (fun i : Nat => ⟨ofL [(1, .ptr 1 10 0 0), (3, encI (mxTo t.ts i)), (4, encI i)], stoT [(1, 1, .live (obTi t))]⟩)
     (fun i => i ≤ J) (fun i => J - i) 0 (Nat.zero_le _) ?_ ?_
    ·refine wk_shape (shp0 hσ (by simp) (by simp) ?_) ?_
     ·simp [SlotOk, mxTo] <;> (repeat' (first | (refine RowsOk.same ?_; simp [purel, C.isPure]; done) | (refine rowsCons ?_; simp [mtl, mtc, mT, mH, C.isPure, purel]; done) | (refine rowsCons ?_; simp [mtl, mtc, mT, mH, C.isPure, purel]) | refine And.intro ?_ ?_))
     ·simp [mtc, mtl, mT, C.isPure, purel, mxTo] <;> (try simp (disch := omega) [wrap_id]) <;> (try omega)
    ·intro i hi
     have hc : i < t.ts.length := by omega
     (repeat refine ZQ ?_); refine ZR fun K hK => ?_; simp (maxSteps := 1000000) [ty62, ty51, ty3, hc]; refine hK _ ?_; clear hK K
     (repeat refine ZQ ?_); refine ZC (fun hd => ?_) (fun hd => ?_)
     ·refine awp_skip ?_
      (repeat refine ZQ ?_); refine awp_block ?_
      by_cases hiJ : i = J
      ·have hx20 : (20 : Int) < (t.ts[i].l.length : Int) := by subst hiJ; omega
       (repeat refine ZQ ?_); refine ZR fun K hK => ?_; simp (maxSteps := 1000000) [ty62, ty51, ty119, ty117, ty3, hc, hx20]; refine hK _ ?_; clear hK K
       (repeat refine ZQ ?_); refine ZC (hc := by simp [hx20]; rfl) (fun hd => ?_) (fun hd => ?_)
       ·clear hd
        (repeat refine ZQ ?_); refine ZR fun K hK => ?_; simp (maxSteps := 1000000); refine hK _ ?_; clear hK K
        (repeat refine ZQ ?_); refine awp_ret ?_; refine And.intro (Or.inr rfl) ?_
        simp [retC, resC, viewC, mapO]
       ·simp [hx20] at hd
      ·have hst := mxTo_step hc
       have hx20 : ¬ (20 : Int) < (t.ts[i].l.length : Int) := by have := hJm i hc (by omega); omega
       have hwi : IntKind.i64.wrap ((i : Int) + 1) = ((i + 1 : Nat) : Int) := by rw [wrap_id (by omega) (by omega)]; rfl
       (repeat refine ZQ ?_); refine ZR fun K hK => ?_; simp (maxSteps := 1000000) [ty62, ty51, ty119, ty117, ty3, hc, hx20]; refine hK _ ?_; clear hK K
       (repeat refine ZQ ?_); refine ZC (hc := by simp [hx20]; rfl) (fun hd => ?_) (fun hd => ?_)
       ·simp [hx20] at hd
       ·clear hd
        refine awp_skip ?_
        (repeat refine ZQ ?_); refine ZR fun K hK => ?_; simp (maxSteps := 1000000) [ty62, ty51, ty119, ty117, ty3, hc]; refine hK _ ?_; clear hK K
        (repeat refine ZQ ?_); refine ZR fun K hK => ?_; simp (maxSteps := 1000000) [ty3]; refine hK _ ?_; clear hK K; (first | show AWP _ _ _ _ _ | show ∃ _, _ | skip)
        refine ⟨i + 1, by omega, by omega, ?_⟩
        rw [hst, hwi]
        exact ZW
     ·exact absurd hd (by simp [hc])

theorem NearT.len {t : Ti} (h : NearT t) : TiLen t := ⟨by have := h.1; omega, fun y hy => by have := h.2 y hy; omega⟩

theorem cIs_same (w : Wh) : eqInts [.i64, .i64, .i64, .i64, .i64, .i64, .i64, .i64] [encI w.full, encI w.read, encI w.slip, encI w.skew, encI w.circle, encI w.glow, encI w.ghigh, encI w.wrong] [encI w.full, encI w.read, encI w.slip, encI w.skew, encI w.circle, encI w.glow, encI w.ghigh, encI w.wrong] = some true := by simp [eqInts]

set_option maxHeartbeats 2000000

-- the plain law: lists of gains, as the reference has them

def soAt (c : Co) (l : List Int) (i : Nat) : Bool := match l[i]? with
 | some x => withinB x (-c.gain) c.gain && (i == 0 || (match l[i - 1]? with | some y => withinB (y - x) 0 c.drop | none => true))
 | none => true
def isSoC (c : Co) (l : List Int) : Bool := (List.range l.length).all (soAt c l)
def pF (l : List Int) : Nat → Int := fun i => l.getD i 0

theorem pF_at {l : List Int} {i : Nat} (h : i < l.length) : pF l i = l[i] := by simp [pF, List.getD_eq_getElem?_getD, List.getElem?_eq_getElem h]
theorem soAt_zero {c : Co} {l : List Int} (h : 0 < l.length) : soAt c l 0 = withinB l[0] (-c.gain) c.gain := by
 unfold soAt; rw [List.getElem?_eq_getElem h]; simp
theorem soAt_succ {c : Co} {l : List Int} {i : Nat} (h : i + 1 < l.length) : soAt c l (i + 1) = (withinB l[i + 1] (-c.gain) c.gain && withinB (l[i] - l[i + 1]) 0 c.drop) := by
 unfold soAt; rw [List.getElem?_eq_getElem h]; simp [List.getElem?_eq_getElem (show i < l.length by omega)]

theorem isSoC_all {c : Co} {l : List Int} : isSoC c l = true ↔ ∀ i, i < l.length → soAt c l i = true := by
 unfold isSoC
 rw [List.all_eq_true]
 exact ⟨fun h i hi => h i (List.mem_range.2 hi), fun h i hi => h i (List.mem_range.1 hi)⟩

theorem isSoC_iff {c : Co} {l : List Int} : isSoC c l = true ↔ (∀ i, (h : i < l.length) → -c.gain ≤ l[i] ∧ l[i] ≤ c.gain) ∧ ∀ i, (h : i + 1 < l.length) → 0 ≤ l[i] - l[i + 1] ∧ l[i] - l[i + 1] ≤ c.drop := by
 rw [isSoC_all]
 constructor
 ·intro h
  refine ⟨fun i hi => ?_, fun i hi => ?_⟩
  ·have h1 := h i hi
   cases i with
   | zero => rw [soAt_zero hi] at h1; simpa [withinB] using h1
   | succ i => rw [soAt_succ hi] at h1; simp only [withinB, Bool.and_eq_true, decide_eq_true_eq] at h1; exact h1.1
  ·have h1 := h (i + 1) hi
   rw [soAt_succ hi] at h1
   simp only [withinB, Bool.and_eq_true, decide_eq_true_eq] at h1
   exact h1.2
 ·rintro ⟨h1, h2⟩ i hi
  cases i with
  | zero => rw [soAt_zero hi]; simp only [withinB, Bool.and_eq_true, decide_eq_true_eq]; exact h1 0 hi
  | succ i => rw [soAt_succ hi]; simp only [withinB, Bool.and_eq_true, decide_eq_true_eq]; exact ⟨h1 _ hi, h2 i hi⟩

theorem isSo_good {c : Co} {l : List Int} {d : Nat} (hl : l.length = d + 1) : isSoC c l = true ↔ Good c [] (pF l) d := by
 have hal : ∀ (i : Nat) x, alC c [] i x = true ↔ -c.gain ≤ x ∧ x ≤ c.gain := fun i x => by simp [alC, knB]
 rw [isSoC_iff]
 constructor
 ·rintro ⟨h1, h2⟩
  refine ⟨fun i hi => (hal _ _).2 ?_, fun i hi => ?_⟩
  ·rw [pF_at (by omega)]; exact h1 i (by omega)
  ·rw [pF_at (by omega), pF_at (by omega)]; exact h2 i (by omega)
 ·rintro ⟨h1, h2⟩
  refine ⟨fun i hi => ?_, fun i hi => ?_⟩
  ·have := (hal _ _).1 (h1 i (by omega)); rwa [pF_at hi] at this
  ·have := h2 i (by omega); rwa [pF_at (by omega), pF_at (by omega)] at this

/-- How many visits are not right. -/
def wrL (G : List (Int × List Int)) (p : Nat → Int) : Nat := G.countP fun q => !decide (p q.1.toNat ∈ q.2)

theorem wrG_cons (q : Int × List Int) (G : List (Int × List Int)) (i x : Int) : wrG (q :: G) i x = if q.1 = i then (if x ∈ q.2 then 0 else 1) else wrG G i x := by
 unfold wrG
 by_cases h : q.1 = i
 ·subst h; simp [List.find?_cons]
 ·have : (q.1 == i) = false := by simpa using h
  simp [List.find?_cons, this, h]

theorem wrG_none {G : List (Int × List Int)} {i : Int} (h : i ∉ G.map (·.1)) (x : Int) : wrG G i x = 0 := by
 unfold wrG
 rw [List.find?_eq_none.2]
 intro p hp e
 simp only [beq_iff_eq] at e
 exact h (List.mem_map.2 ⟨p, hp, e⟩)

theorem wrs_cons (q : Int × List Int) {G : List (Int × List Int)} (p : Nat → Int) (hq : q.1 ∉ G.map (·.1)) (h0 : 0 ≤ q.1) : ∀ d : Nat, wrs (q :: G) p d = wrs G p d + (if q.1 ≤ d then (if p q.1.toNat ∈ q.2 then 0 else 1) else 0)
 | 0 => by
  simp only [wrs, wrG_cons]
  by_cases h : q.1 = 0
  ·have hg : wrG G 0 (p 0) = 0 := wrG_none (by rw [← h]; exact hq) _
   have hle : q.1 ≤ ((0 : Nat) : Int) := by omega
   have ht : q.1.toNat = 0 := by omega
   rw [if_pos h, hg, if_pos hle, ht, Int.zero_add]
  ·have hle : ¬ q.1 ≤ ((0 : Nat) : Int) := by omega
   rw [if_neg h, if_neg hle, Int.add_zero]
 | d + 1 => by
  simp only [wrs, wrG_cons, wrs_cons q p hq h0 d]
  by_cases h : q.1 = ((d + 1 : Nat) : Int)
  ·have hg : wrG G ((d + 1 : Nat) : Int) (p (d + 1)) = 0 := wrG_none (by rw [← h]; exact hq) _
   have ht : q.1.toNat = d + 1 := by omega
   have h1 : ¬ q.1 ≤ (d : Int) := by omega
   have h2 : q.1 ≤ ((d + 1 : Nat) : Int) := by omega
   rw [if_pos h, hg, if_neg h1, if_pos h2, ht, Int.add_zero]
  ·rw [if_neg h]
   by_cases h2 : q.1 ≤ (d : Int)
   ·have h3 : q.1 ≤ ((d + 1 : Nat) : Int) := by omega
    rw [if_pos h2, if_pos h3, Int.add_right_comm]
   ·have h3 : ¬ q.1 ≤ ((d + 1 : Nat) : Int) := by omega
    rw [if_neg h2, if_neg h3, Int.add_zero, Int.add_zero]

theorem wrL_wrs {p : Nat → Int} {d : Nat} : ∀ {G : List (Int × List Int)}, (G.map (·.1)).Nodup → (∀ q ∈ G, 0 ≤ q.1 ∧ q.1 ≤ d) → (wrL G p : Int) = wrs G p d
 | [], _, _ => by
  have : ∀ d, wrs [] p d = 0 := fun d => by
   induction d with
   | zero => rfl
   | succ d ih => simp only [wrs, ih]; rfl
  rw [this]; rfl
 | q :: G, hn, hb => by
  simp only [List.map_cons, List.nodup_cons] at hn
  have h1 := hb q (by simp)
  rw [wrs_cons q p hn.1 h1.1, if_pos h1.2, ← wrL_wrs hn.2 fun r hr => hb r (by simp [hr])]
  unfold wrL
  rw [List.countP_cons]
  by_cases hm : p q.1.toNat ∈ q.2
  ·simp [hm]
  ·simp [hm]

theorem glOk {w : Ws} (h : WsOk w) : ((gl w).map (·.1)).Nodup ∧ ∀ p ∈ gl w, 0 ≤ p.1 ∧ p.1 ≤ w.last := by
 constructor
 ·have e : (gl w).map (·.1) = w.vs.map (·.day) := by unfold gl; rw [List.map_map]; rfl
  rw [e]
  refine List.pairwise_iff_getElem.2 fun i j hi hj hij => ?_
  simp only [List.length_map] at hi hj
  simp only [List.getElem_map]
  have := h.lt hij hj
  omega
 ·intro p hp
  obtain ⟨v, hv, rfl⟩ := List.mem_map.1 hp
  obtain ⟨i, hi, rfl⟩ := List.getElem_of_mem hv
  exact h.day i hi

theorem wrL_gl (w : Ws) (p : Nat → Int) : wrL (gl w) p = w.vs.countP fun v => !decide (p v.day.toNat ∈ numsT Tr.area (tiV w v) true) := by
 unfold wrL gl; rw [List.countP_map]; rfl

/-- Whether gains are a truth. -/
def isTruB (w : Ws) (l : List Int) : Bool := decide ((l.length : Int) = w.last + 1) && isSoC (co w (gl w)) l && decide ((wrL (gl w) (pF l) : Int) ≤ w.wrong)

theorem isTruB_iff {w : Ws} (h : WsOk w) {l : List Int} : isTruB w l = true ↔ l.length = w.last.toNat + 1 ∧ Tru (co w (gl w)) (pF l) := by
 obtain ⟨h1, h2⟩ := glOk h
 have hl := h.last
 have hw := wrL_wrs (p := pF l) (d := w.last.toNat) h1 fun q hq => by have := h2 q hq; omega
 unfold isTruB Tru
 simp only [Bool.and_eq_true, decide_eq_true_eq]
 rw [hw]
 constructor
 ·rintro ⟨⟨a, b⟩, c⟩
  have hll : l.length = w.last.toNat + 1 := by omega
  exact ⟨hll, (isSo_good hll).1 b, c⟩
 ·rintro ⟨a, b, c⟩
  exact ⟨⟨by omega, (isSo_good a).2 b⟩, c⟩

set_option maxHeartbeats 8000000

-- the reference of wear: the small functions, and whether an instrument is valid

theorem withinB2 (n lo hi : Int) : withinB n lo hi = (decide (lo ≤ n) && decide (n ≤ hi)) := by unfold withinB; exact Bool.decide_and _ _

theorem q_within77 (n lo hi : Int) : Pure Tryz.prog 77 [encI n, encI lo, encI hi] (.bool (withinB n lo hi)) := by
 refine ZF (fn := Tryz.f77) [.tmp 6] ⟨Tryz.func77, rfl, by kernel_rfl⟩ fun x hx hσ => ?_
 (repeat refine ZQ ?_); refine ZR fun K hK => ?_; simp (maxSteps := 1000000); refine hK _ ?_; clear hK K
 (repeat refine ZQ ?_); refine ZR fun K hK => ?_; simp (maxSteps := 1000000)
 refine ZP (within79 n lo hi) ?_; simp (maxSteps := 1000000)
 refine hK _ ?_; clear hK K
 (repeat refine ZQ ?_); refine awp_ret ?_; refine And.intro (Or.inr rfl) ?_
 simp [retC, resC, viewC, mapO]

theorem q_in85 (nl fu : Bool) (A : List Int) (n : Int) (hn : A.length ≤ 1000000) : Pure Tryz.prog 85 [.sl nl fu (A.map cI), encI n] (.bool (decide (n ∈ A))) := by
 refine ZF (fn := Tryz.f85) [.tmp 4] ⟨Tryz.func85, rfl, by kernel_rfl⟩ fun x hx hσ => ?_
 (repeat refine ZQ ?_); refine ZR fun K hK => ?_; simp (maxSteps := 1000000); refine hK _ ?_; clear hK K
 (repeat refine ZQ ?_); refine ZR fun K hK => ?_; simp (maxSteps := 1000000)
 refine ZP (in41 nl fu A n hn) ?_; simp (maxSteps := 1000000)
 refine hK _ ?_; clear hK K
 (repeat refine ZQ ?_); refine awp_ret ?_; refine And.intro (Or.inr rfl) ?_
 simp [retC, resC, viewC, mapO]

theorem q_isDay86 (w : Ws) (n : Int) : Pure Tryz.prog 86 [encWs w, encI n] (.bool (dayB w n)) := by
 refine ZF (fn := Tryz.f86) [.tmp 4] ⟨Tryz.func86, rfl, by kernel_rfl⟩ fun x hx hσ => ?_
 (repeat refine ZQ ?_); refine ZR fun K hK => ?_; simp (maxSteps := 1000000) [ty28, ty4]; refine hK _ ?_; clear hK K
 (repeat refine ZQ ?_); refine ZR fun K hK => ?_; simp (maxSteps := 1000000) [ty28, ty3]
 refine ZP (q_within77 n 0 w.last) ?_; simp (maxSteps := 1000000)
 refine hK _ ?_; clear hK K
 (repeat refine ZQ ?_); refine awp_ret ?_; refine And.intro (Or.inr rfl) ?_
 simp [retC, resC, viewC, mapO, withinB, dayB]

theorem q_trialOf27 (w : Ws) (nl fu : Bool) (ts : List Ts) : Pure Tryz.prog 27 [encWs w, sTs nl fu ts] (encTi ⟨w.w, w.gain, nl, fu, ts⟩) := by
 refine ZF (fn := Tryz.f27) [.cell 4 62] ⟨Tryz.func27, rfl, by kernel_rfl⟩ fun x hx hσ => ?_
 (repeat refine ZQ ?_); refine ZR fun K hK => ?_; simp (maxSteps := 1000000) [ty28, ty62]; refine hK _ ?_; clear hK K
 (repeat refine ZQ ?_); refine ZR fun K hK => ?_; simp (maxSteps := 1000000) [ty28, ty62, ty25, ty3, ty51]; refine hK _ ?_; clear hK K
 (repeat refine ZQ ?_); refine awp_ret ?_; refine And.intro (Or.inr rfl) ?_
 simp [retC, resC, viewC, mapO, ty62]


theorem q_check32 (w : Ws) (hn : WsLen w) : Pure Tryz.prog 32 [encWs w] (encI (checkW w)) := by
  have hlt := hn.vs
  refine ZF (fn := Tryz.f32) [.tmp 2] ⟨Tryz.func32, rfl, by kernel_rfl⟩ fun x hx hσ => ?_
  (repeat refine ZQ ?_); refine ZR fun K hK => ?_; simp (maxSteps := 1000000) [ty28]; refine hK _ ?_; clear hK K; (first | show AWP _ _ _ _ _ | show ∃ _, _ | skip)
  cases hb1 : withinB w.last 1 30
  · have hT : checkW w = 130 := by unfold checkW rangeB; rw [if_pos (.inl (by rw [withinB2] at hb1; rw [hb1]; simp))]
    (repeat refine ZQ ?_); refine ZR fun K hK => ?_; simp (maxSteps := 1000000) [ty28, ty3]
    refine ZP (q_within77 w.last 1 30) ?_; simp (maxSteps := 1000000) [hb1, ty4]
    refine hK _ ?_; clear hK K; (first | show AWP _ _ _ _ _ | show ∃ _, _ | skip)
    · (repeat refine ZQ ?_); refine ZC (hc := by simp [hb1]; rfl) (fun hd => ?_) (fun hd => ?_)
      · clear hd
        (repeat refine ZQ ?_); refine ZR fun K hK => ?_; simp (maxSteps := 1000000); refine hK _ ?_; clear hK K
        (repeat refine ZQ ?_); refine awp_ret ?_; refine And.intro (Or.inr rfl) ?_
        simp [retC, resC, viewC, mapO, hT]
      · simp [hb1] at hd
  · cases hb2 : withinB w.drop 0 10
    · have hT : checkW w = 130 := by unfold checkW rangeB; rw [if_pos (.inl (by rw [withinB2] at hb2; rw [hb2]; simp))]
      (repeat refine ZQ ?_); refine ZR fun K hK => ?_; simp (maxSteps := 1000000) [ty28, ty3]
      refine ZP (q_within77 w.last 1 30) ?_; simp (maxSteps := 1000000) [hb1, ty4, ty28, ty3]
      refine ZP (q_within77 w.drop 0 10) ?_; simp (maxSteps := 1000000) [hb2, ty4, ty28, ty3]
      refine hK _ ?_; clear hK K; (first | show AWP _ _ _ _ _ | show ∃ _, _ | skip)
      · (repeat refine ZQ ?_); refine ZC (hc := by simp [hb2]; rfl) (fun hd => ?_) (fun hd => ?_)
        · clear hd
          (repeat refine ZQ ?_); refine ZR fun K hK => ?_; simp (maxSteps := 1000000); refine hK _ ?_; clear hK K
          (repeat refine ZQ ?_); refine awp_ret ?_; refine And.intro (Or.inr rfl) ?_
          simp [retC, resC, viewC, mapO, hT]
        · simp [hb2] at hd
    · cases hb3 : withinB w.wrong 0 6
      · have hT : checkW w = 130 := by unfold checkW rangeB; rw [if_pos (.inl (by rw [withinB2] at hb3; rw [hb3]; simp))]
        (repeat refine ZQ ?_); refine ZR fun K hK => ?_; simp (maxSteps := 1000000) [ty28, ty3]
        refine ZP (q_within77 w.last 1 30) ?_; simp (maxSteps := 1000000) [hb1, ty4, ty28, ty3]
        refine ZP (q_within77 w.drop 0 10) ?_; simp (maxSteps := 1000000) [hb2, ty4, ty28, ty3]
        refine ZP (q_within77 w.wrong 0 6) ?_; simp (maxSteps := 1000000) [hb3, ty4, ty28, ty3]
        refine hK _ ?_; clear hK K; (first | show AWP _ _ _ _ _ | show ∃ _, _ | skip)
        · (repeat refine ZQ ?_); refine ZC (hc := by simp [hb3]; rfl) (fun hd => ?_) (fun hd => ?_)
          · clear hd
            (repeat refine ZQ ?_); refine ZR fun K hK => ?_; simp (maxSteps := 1000000); refine hK _ ?_; clear hK K
            (repeat refine ZQ ?_); refine awp_ret ?_; refine And.intro (Or.inr rfl) ?_
            simp [retC, resC, viewC, mapO, hT]
          · simp [hb3] at hd
      · by_cases h6 : (6 : Int) < (w.vs.length : Int)
        · have hT : checkW w = 130 := by unfold checkW rangeB; rw [if_pos (.inl (by rw [show decide ((w.vs.length : Int) ≤ 6) = false by simpa using h6]; simp))]
          (repeat refine ZQ ?_); refine ZR fun K hK => ?_; simp (maxSteps := 1000000) [ty28, ty3]
          refine ZP (q_within77 w.last 1 30) ?_; simp (maxSteps := 1000000) [hb1, ty4, ty28, ty3]
          refine ZP (q_within77 w.drop 0 10) ?_; simp (maxSteps := 1000000) [hb2, ty4, ty28, ty3]
          refine ZP (q_within77 w.wrong 0 6) ?_; simp (maxSteps := 1000000) [hb3, ty4, ty28, ty3, ty26, h6]
          refine hK _ ?_; clear hK K; (first | show AWP _ _ _ _ _ | show ∃ _, _ | skip)
          · (repeat refine ZQ ?_); refine ZC (hc := by simp [h6]; rfl) (fun hd => ?_) (fun hd => ?_)
            · clear hd
              (repeat refine ZQ ?_); refine ZR fun K hK => ?_; simp (maxSteps := 1000000); refine hK _ ?_; clear hK K
              (repeat refine ZQ ?_); refine awp_ret ?_; refine And.intro (Or.inr rfl) ?_
              simp [retC, resC, viewC, mapO, hT]
            · simp [h6] at hd
        · have hR : rangeB w = true := by
            unfold rangeB; rw [withinB2] at hb1 hb2 hb3; rw [hb1, hb2, hb3]; simp; omega
          (repeat refine ZQ ?_); refine ZR fun K hK => ?_; simp (maxSteps := 1000000) [ty28, ty3]
          refine ZP (q_within77 w.last 1 30) ?_; simp (maxSteps := 1000000) [hb1, ty4, ty28, ty3]
          refine ZP (q_within77 w.drop 0 10) ?_; simp (maxSteps := 1000000) [hb2, ty4, ty28, ty3]
          refine ZP (q_within77 w.wrong 0 6) ?_; simp (maxSteps := 1000000) [hb3, ty4, ty28, ty3, ty26, h6]
          refine hK _ ?_; clear hK K
          (repeat refine ZQ ?_); refine ZC (hc := by simp [h6]; rfl) (fun hd => ?_) (fun hd => ?_)
          · simp [h6] at hd
          · clear hd
            refine awp_skip ?_
            (repeat refine ZQ ?_); refine ZR fun K hK => ?_; simp (maxSteps := 1000000) [ty3]; refine hK _ ?_; clear hK K
            (repeat refine ZQ ?_); refine awp_block ?_
            refine awp_loop (fun i : Nat => ⟨ofL [(1, .ptr 1 13 0 0), (3, encI i)], stoT [(1, 1, .live (obWs w))]⟩)
              (fun i => i ≤ w.vs.length ∧ ∀ j, j < i → okDay w j = true) (fun i => w.vs.length - i) 0 (by simp) ?_ ?_
            · exact Zw
            · intro i ⟨hi, hj0⟩
              (repeat refine ZQ ?_); refine ZR fun K hK => ?_; simp (maxSteps := 1000000) [ty28, ty26, ty3]; refine hK _ ?_; clear hK K
              (repeat refine ZQ ?_); refine ZC (fun hc1 => ?_) (fun hc1 => ?_)
              · simp at hc1
                have hwi : IntKind.i64.wrap ((i : Int) + 1) = ((i + 1 : Nat) : Int) := by rw [wrap_id (by omega) (by omega)]; rfl
                have hdw : dayB w w.vs[i].day = withinB w.vs[i].day 0 w.last := (withinB2 _ _ _).symm
                refine awp_skip ?_
                (repeat refine ZQ ?_); refine awp_block ?_
                cases hdb : withinB w.vs[i].day 0 w.last
                · have hok : okDay w i = false := by unfold okDay; rw [List.getElem?_eq_getElem hc1]; simp [hdw, hdb]
                  have hne : (List.range w.vs.length).all (okDay w) = false := List.all_eq_false.2 ⟨i, List.mem_range.2 hc1, by rw [hok]; simp⟩
                  have hT : checkW w = 130 := if_pos (.inr hne)
                  (repeat refine ZQ ?_); refine ZD [] [0, 1, 2, 3, 4, 5, 6, 7, 8, 9, 10, 11, 12, 13, 14, 15, 16, 17, 18, 19, 20, 21, 22, 23, 24, 25, 26, 27, 28, 29] fun K hK => ?_; simp (maxSteps := 1000000) [ty53, ty28, ty26, ty3, hc1]
                  refine ZE (q_within77 w.vs[i].day 0 w.last) ?_; simp (maxSteps := 1000000) [hdb, ty4, ty53, ty28, ty3]
                  refine hK _ ?_; clear hK K
                  (repeat refine ZQ ?_); refine ZC (fun hd => ?_) (fun hd => ?_)
                  · clear hd
                    (repeat refine ZQ ?_); refine ZR fun K hK => ?_; simp (maxSteps := 1000000); refine hK _ ?_; clear hK K
                    (repeat refine ZQ ?_); refine awp_ret ?_; refine And.intro (Or.inr rfl) ?_
                    simp [retC, resC, viewC, mapO, hT]
                  · simp at hd
                · by_cases hi0 : i = 0
                  · subst hi0
                    have hok : okDay w 0 = true := by rw [okDay_zero hc1, hdw, hdb]
                    (repeat refine ZQ ?_); refine ZD [] [0, 1, 2, 3, 4, 5, 6, 7, 8, 9, 10, 11, 12, 13, 14, 15, 16, 17, 18, 19, 20, 21, 22, 23, 24, 25, 26, 27, 28, 29] fun K hK => ?_; simp (maxSteps := 1000000) [ty53, ty28, ty26, ty3, hc1]
                    refine ZE (q_within77 w.vs[0].day 0 w.last) ?_; simp (maxSteps := 1000000) [hdb, ty4, ty53, ty28, ty3]
                    refine hK _ ?_; clear hK K
                    (repeat refine ZQ ?_); refine ZC (fun hd => ?_) (fun hd => ?_)
                    · simp at hd
                    · clear hd
                      refine awp_skip ?_
                      (repeat refine ZQ ?_); refine ZR fun K hK => ?_; simp (maxSteps := 1000000) [ty3]; refine hK _ ?_; clear hK K; (first | show AWP _ _ _ _ _ | show ∃ _, _ | skip)
                      refine ⟨1, ⟨by omega, fun j h1 => by obtain rfl : j = 0 := by omega
                                                           exact hok⟩, by omega, ?_⟩
                      exact Zw
                  · obtain ⟨n, rfl⟩ : ∃ n, i = n + 1 := ⟨i - 1, by omega⟩
                    have hnl : n < w.vs.length := by omega
                    have hok := okDay_succ hc1
                    rw [hdw, hdb] at hok
                    have hw1 : IntKind.i64.wrap (n : Int) = (n : Int) := wrap_id (by omega) (by omega)
                    have hpos : (0 : Int) < ((n + 1 : Nat) : Int) := by omega
                    have h01 : (0 : Int) ≤ (n : Int) + 1 := by omega
                    by_cases hlt1 : w.vs[n].day < w.vs[n + 1].day
                    · have hle : ¬ w.vs[n + 1].day ≤ w.vs[n].day := by omega
                      rw [decide_eq_true hlt1] at hok
                      (repeat refine ZQ ?_); refine ZD [] [0, 1, 2, 3, 4, 5, 6, 7, 8, 9, 10, 11, 12, 13, 14, 15, 16, 17, 18, 19, 20, 21, 22, 23, 24, 25, 26, 27, 28, 29] fun K hK => ?_; simp (maxSteps := 1000000) [ty53, ty28, ty26, ty3, hc1, h01]
                      refine ZE (q_within77 w.vs[n+1].day 0 w.last) ?_; simp (maxSteps := 1000000) [hdb, ty4, ty53, ty28, ty3, ty26, hw1, hc1, hnl, hpos, hle, h01]
                      refine hK _ ?_; clear hK K
                      (repeat refine ZQ ?_); refine ZC (hc := by simp [hle]; rfl) (fun hd => ?_) (fun hd => ?_)
                      · simp [hle] at hd
                      · clear hd
                        refine awp_skip ?_
                        (repeat refine ZQ ?_); refine ZR fun K hK => ?_; simp (maxSteps := 1000000) [ty3]; refine hK _ ?_; clear hK K; (first | show AWP _ _ _ _ _ | show ∃ _, _ | skip)
                        refine ⟨n + 1 + 1, ⟨by omega, fun j h1 => ?_⟩, by omega, ?_⟩
                        · by_cases hjn : j = n + 1
                          · subst hjn; exact hok
                          · exact hj0 j (by omega)
                        · exact Zw
                    · have hle : w.vs[n + 1].day ≤ w.vs[n].day := by omega
                      rw [decide_eq_false hlt1] at hok
                      have hok : okDay w (n + 1) = false := hok
                      have hne : (List.range w.vs.length).all (okDay w) = false := List.all_eq_false.2 ⟨n + 1, List.mem_range.2 hc1, by rw [hok]; simp⟩
                      have hT : checkW w = 130 := if_pos (.inr hne)
                      (repeat refine ZQ ?_); refine ZD [] [0, 1, 2, 3, 4, 5, 6, 7, 8, 9, 10, 11, 12, 13, 14, 15, 16, 17, 18, 19, 20, 21, 22, 23, 24, 25, 26, 27, 28, 29] fun K hK => ?_; simp (maxSteps := 1000000) [ty53, ty28, ty26, ty3, hc1, h01]
                      refine ZE (q_within77 w.vs[n+1].day 0 w.last) ?_; simp (maxSteps := 1000000) [hdb, ty4, ty53, ty28, ty3, ty26, hw1, hc1, hnl, hpos, hle, h01]
                      refine hK _ ?_; clear hK K
                      (repeat refine ZQ ?_); refine ZC (hc := by simp [hle]; rfl) (fun hd => ?_) (fun hd => ?_)
                      · clear hd
                        (repeat refine ZQ ?_); refine ZR fun K hK => ?_; simp (maxSteps := 1000000); refine hK _ ?_; clear hK K
                        (repeat refine ZQ ?_); refine awp_ret ?_; refine And.intro (Or.inr rfl) ?_
                        simp [retC, resC, viewC, mapO, hT]
                      · simp [hle] at hd
              · simp at hc1
                (repeat refine ZQ ?_); refine awp_exit ?_; (first | show AWP _ _ _ _ _ | show ∃ _, _ | skip)
                have hall : (List.range w.vs.length).all (okDay w) = true := by
                  rw [List.all_eq_true]; intro j hj; exact hj0 j (by have := List.mem_range.1 hj; omega)
                have hT : checkW w = (if w.vs = [] then checkT (tiN w) else checksW w w.vs) := by
                  unfold checkW; rw [if_neg (by rw [hR, hall]; simp)]
                (repeat refine ZQ ?_); refine ZR fun K hK => ?_; simp (maxSteps := 1000000) [ty3]; refine hK _ ?_; clear hK K
                (repeat refine ZQ ?_); refine awp_block ?_
                refine awp_loop (fun i : Nat => ⟨ofL [(1, .ptr 1 13 0 0), (4, encI i)], stoT [(1, 1, .live (obWs w))]⟩)
                  (fun i => i ≤ w.vs.length ∧ ∀ j, (h : j < w.vs.length) → j < i → checkT (tiV w w.vs[j]) = 0) (fun i => w.vs.length - i) 0 (by simp) ?_ ?_
                · exact Zw
                · intro i ⟨hi, hj⟩
                  (repeat refine ZQ ?_); refine ZR fun K hK => ?_; simp (maxSteps := 1000000) [ty28, ty26, ty3]; refine hK _ ?_; clear hK K
                  (repeat refine ZQ ?_); refine ZC (fun hc1 => ?_) (fun hc1 => ?_)
                  · simp at hc1
                    refine awp_skip ?_
                    (repeat refine ZQ ?_); refine awp_block ?_
                    have h0 : w.vs ≠ [] := by intro e; rw [e] at hc1; simp at hc1
                    (repeat refine ZQ ?_); refine ZD [] [0, 1, 2, 3, 4, 5, 6, 7, 8, 9] fun K hK => ?_; simp (maxSteps := 1000000) [ty28, ty26, ty53, ty51, ty3, hc1]
                    refine ZE (q_trialOf27 w w.vs[i].nl w.vs[i].fu w.vs[i].ts) ?_; simp (maxSteps := 1000000) [ty62]
                    refine ZE (q_check30 (tiV w w.vs[i]) (hn.l _ (List.getElem_mem hc1))) ?_; simp (maxSteps := 1000000)
                    refine hK _ ?_; clear hK K; (first | show AWP _ _ _ _ _ | show ∃ _, _ | skip)
                    by_cases hz : checkT (tiV w w.vs[i]) = 0
                    · (repeat refine ZQ ?_); refine ZR fun K hK => ?_; simp (maxSteps := 1000000) [ty37, hz]; refine hK _ ?_; clear hK K
                      (repeat refine ZQ ?_); refine ZC (hc := by simp [hz]; rfl) (fun hd => ?_) (fun hd => ?_)
                      · simp at hd
                      · clear hd
                        refine awp_skip ?_
                        (repeat refine ZQ ?_); refine ZR fun K hK => ?_; simp (maxSteps := 1000000) [ty3]; refine hK _ ?_; clear hK K; (first | show AWP _ _ _ _ _ | show ∃ _, _ | skip)
                        refine ⟨i + 1, ⟨by omega, fun j h1 h2 => ?_⟩, by omega, ?_⟩
                        · by_cases hji : j = i
                          · subst hji; assumption
                          · exact hj j h1 (by omega)
                        · exact Zw
                    · (repeat refine ZQ ?_); refine ZR fun K hK => ?_; simp (maxSteps := 1000000) [ty37]; refine hK _ ?_; clear hK K
                      (repeat refine ZQ ?_); refine ZC (hc := by simp [hz]; rfl) (fun hd => ?_) (fun hd => ?_)
                      · clear hd
                        (repeat refine ZQ ?_); refine ZR fun K hK => ?_; simp (maxSteps := 1000000); refine hK _ ?_; clear hK K
                        (repeat refine ZQ ?_); refine awp_ret ?_; refine And.intro (Or.inr rfl) ?_
                        simp [retC, resC, viewC, mapO, hT, h0, checksW_at hc1 hj hz]
                      · simp [hz] at hd
                  · simp at hc1
                    (repeat refine ZQ ?_); refine awp_exit ?_; (first | show AWP _ _ _ _ _ | show ∃ _, _ | skip)
                    have hz := checksW_all (fun j h => hj j h (by omega))
                    have hfin : checkT (tiN w) = checkW w := by
                      rw [hT]
                      split
                      · rfl
                      · rename_i h0
                        rw [hz]
                        have hp : 0 < w.vs.length := List.length_pos_iff.2 h0
                        exact checkT_base (hj 0 hp (by omega))
                    (repeat refine ZQ ?_); refine ZR fun K hK => ?_; simp (maxSteps := 1000000) [ty28]
                    refine ZP (q_trialOf27 w true true []) ?_; simp (maxSteps := 1000000) [ty62]
                    refine ZP (q_check30 (tiN w) ⟨by simp, by simp⟩) ?_; simp (maxSteps := 1000000)
                    refine hK _ ?_; clear hK K
                    (repeat refine ZQ ?_); refine awp_ret ?_; refine And.intro (Or.inr rfl) ?_
                    simp [retC, resC, viewC, mapO, hfin]

set_option maxHeartbeats 8000000

-- the reference of wear: gains of visits, and whether gains are a truth

@[simp] abbrev rowN (L : List Int) : List C := [.sl L.isEmpty false (L.map cI)]
def gsN (w : Ws) : List (List C) := w.vs.map fun v => rowN (numsT Tr.area (tiV w v) true)
def gsTo (w : Ws) (i : Nat) : List (List C) := (w.vs.take i).map fun v => rowN (numsT Tr.area (tiV w v) true)
@[simp] theorem gsN_len (w : Ws) : (gsN w).length = w.vs.length := by simp [gsN]
theorem gsN_get (w : Ws) {i : Nat} (h : i < w.vs.length) : (gsN w)[i]'(by simpa using h) = rowN (numsT Tr.area (tiV w w.vs[i]) true) := by simp [gsN]
@[simp] theorem gsN_pure (w : Ws) : (gsN w).all purel = true := all_purel_map fun _ => rfl
theorem gsTo_step (w : Ws) {i : Nat} (h : i < w.vs.length) : gsTo w (i + 1) = gsTo w i ++ [rowN (numsT Tr.area (tiV w w.vs[i]) true)] := by
 unfold gsTo; rw [List.take_succ_eq_append_getElem h, List.map_append]; rfl
theorem gsTo_len (w : Ws) {i : Nat} (h : i ≤ w.vs.length) : (gsTo w i).length = i := by simp [gsTo]; omega
theorem gsTo_pure (w : Ws) (i : Nat) : (gsTo w i).all purel = true := all_purel_map fun _ => rfl

theorem q_gains82 (w : Ws) (hn : WsLen w) : Pure Tryz.prog 82 [encWs w] (.sl w.vs.isEmpty false (gsN w)) := by
 have hlt := hn.vs
 have hall : gsTo w w.vs.length = gsN w := by unfold gsTo gsN; rw [List.take_length]
 refine ZF (fn := Tryz.f82) [.tmp 2] ⟨Tryz.func82, rfl, by kernel_rfl⟩ fun x hx hσ => ?_
 (repeat refine ZQ ?_); refine ZR fun K hK => ?_; simp (maxSteps := 1000000) [ty28, ty110]; refine hK _ ?_; clear hK K
 (repeat refine ZQ ?_); refine ZR fun K hK => ?_; simp (maxSteps := 1000000) [ty110]; refine hK _ ?_; clear hK K
 (repeat refine ZQ ?_); refine ZR fun K hK => ?_; simp (maxSteps := 1000000) [ty3]; refine hK _ ?_; clear hK K
 (repeat refine ZQ ?_); refine awp_block ?_
 refine AWP.weak ?_ (wk_nil 3 3 1 (fu := true) (by simp) (by simp))
 refine awp_loop (fun i : Nat => ⟨ofL [(1, .ptr 1 13 0 0), (3, .own 3 1 0 i), (4, encI i)], stoT [(1, 1, .live (obWs w)), (3, 3, .live ⟨i == 0, false, 1, gsTo w i⟩)]⟩)
  (fun i => i ≤ w.vs.length) (fun i => w.vs.length - i) 0 (Nat.zero_le _) ?_ ?_
 ·have h0 : gsTo w 0 = [] := rfl
  rw [h0]
  exact ZW
 ·intro i hi
  (repeat refine ZQ ?_); refine ZR fun K hK => ?_; simp (maxSteps := 1000000) [ty28, ty26, ty3]; refine hK _ ?_; clear hK K
  (repeat refine ZQ ?_); refine ZC (fun hc => ?_) (fun hc => ?_)
  ·simp at hc
   have hwi : IntKind.i64.wrap ((i : Int) + 1) = ((i + 1 : Nat) : Int) := by rw [wrap_id (by omega) (by omega)]; rfl
   have hst := gsTo_step w hc
   have hgl := gsTo_len w hi
   have hgp := gsTo_pure w i
   have hgn := q_gains33 (tiV w w.vs[i]) (hn.l _ (List.getElem_mem hc))
   generalize numsT Tr.area (tiV w w.vs[i]) true = U at *
   generalize gsTo w i = A at *
   refine awp_skip ?_
   (repeat refine ZQ ?_); refine awp_block ?_
   (repeat refine ZQ ?_); refine ZD [] [0, 1, 2, 3, 4, 5, 6, 7, 8, 9, 10, 11, 12, 13] fun K hK => ?_; simp (maxSteps := 1000000) [ty28, ty26, ty53, ty51, ty3, hc]
   refine ZE (q_trialOf27 w w.vs[i].nl w.vs[i].fu w.vs[i].ts) ?_; simp (maxSteps := 1000000) [ty62]
   refine ZE (hgn) ?_; simp (maxSteps := 1000000) [ty29]
   refine hK _ ?_; clear hK K
   (repeat refine ZQ ?_); refine ZR fun K hK => ?_; simp (maxSteps := 1000000) [ty110, ty29, hgl]
   refine ⟨by omega, ?_⟩
   refine hK _ ?_; clear hK K
   (repeat refine ZQ ?_); refine ZR fun K hK => ?_; simp (maxSteps := 1000000) [ty3]; refine hK _ ?_; clear hK K; (first | show AWP _ _ _ _ _ | show ∃ _, _ | skip)
   refine ⟨i + 1, by omega, by omega, ?_⟩
   rw [hwi, hst]
   refine wk_shape (T := [(1, 1, .live (obWs w)), (3, 29, .live ⟨i + 1 == 0, false, 1, A ++ [rowN U]⟩)]) (shp0 hσ (by simp) (by simp) ?_) ?_
   ·simp [SlotOk]
    exact ⟨.same (by simp [purel, C.isPure]), .same (by rw [List.all_append, hgp]; rfl)⟩
   ·simp [mtc, mtl, mT, C.isPure, purel]
  ·simp at hc
   (repeat refine ZQ ?_); refine awp_exit ?_; (first | show AWP _ _ _ _ _ | show ∃ _, _ | skip)
   have hiN : i = w.vs.length := by omega
   rw [hiN, hall]
   (repeat refine ZQ ?_); refine ZR fun K hK => ?_; simp (maxSteps := 1000000) [ty110]; refine hK _ ?_; clear hK K
   (repeat refine ZQ ?_); refine awp_ret ?_; refine And.intro (Or.inr rfl) ?_
   refine ⟨_, by simp [retC, resC]; rfl, ?_⟩
   refine (viewC_own (o := ⟨w.vs.length == 0, false, 1, gsN w⟩) (by simp) rfl (by simp) (gsN_pure w)).trans ?_
   cases w.vs <;> simp

theorem q_wrongs83 (w : Ws) (nl fu nl' fu' : Bool) (l : List Int) (hn : WsLen w) (hd : ∀ v ∈ w.vs, 0 ≤ v.day ∧ v.day < l.length) : Pure Tryz.prog 83 [encWs w, .sl nl fu (gsN w), .sl nl' fu' (l.map cI)] (encI (wrL (gl w) (pF l) : Nat)) := by
 have hlt := hn.vs
 obtain ⟨R, hR⟩ : ∃ R : Nat → Nat, ∀ i, (w.vs.take i).countP (fun v => !decide (pF l v.day.toNat ∈ numsT Tr.area (tiV w v) true)) = R i := ⟨_, fun _ => rfl⟩
 have hR0 : R 0 = 0 := by rw [← hR]; simp
 have hRN : wrL (gl w) (pF l) = R w.vs.length := by rw [wrL_gl, ← hR, List.take_length]
 have hRs : ∀ i (h : i < w.vs.length), R (i + 1) = R i + if (!decide (pF l w.vs[i].day.toNat ∈ numsT Tr.area (tiV w w.vs[i]) true)) = true then 1 else 0 := fun i h => by rw [← hR, ← hR]; exact count_step _ h
 have hRb : ∀ i, R i ≤ i := fun i => by
  rw [← hR]
  refine Nat.le_trans List.countP_le_length ?_
  rw [List.length_take]; omega
 rw [hRN]
 clear hR hRN
 refine ZF (fn := Tryz.f83) [.tmp 6] ⟨Tryz.func83, rfl, by kernel_rfl⟩ fun x hx hσ => ?_
 (repeat refine ZQ ?_); refine ZR fun K hK => ?_; simp (maxSteps := 1000000) [ty28, ty3]; refine hK _ ?_; clear hK K
 (repeat refine ZQ ?_); refine ZR fun K hK => ?_; simp (maxSteps := 1000000) [ty3]; refine hK _ ?_; clear hK K
 (repeat refine ZQ ?_); refine ZR fun K hK => ?_; simp (maxSteps := 1000000) [ty3]; refine hK _ ?_; clear hK K
 (repeat refine ZQ ?_); refine awp_block ?_
 refine awp_loop (fun i : Nat => ⟨ofL [(1, .sl nl fu (gsN w)), (2, .sl nl' fu' (l.map cI)), (3, .ptr 3 13 0 0), (7, encI (R i : Nat)), (8, encI i)], stoT [(3, 3, .live (obWs w))]⟩)
  (fun i => i ≤ w.vs.length) (fun i => w.vs.length - i) 0 (Nat.zero_le _) ?_ ?_
 ·rw [hR0]
  have hgp := gsN_pure w
  refine wk_shape (shp0 hσ (by simp) (by simp) ?_) ?_
  ·simp [SlotOk]
   exact .same (by simp [purel, C.isPure])
  ·simp [mtc, mtl, mT, C.isPure, purel]
 ·intro i hi
  (repeat refine ZQ ?_); refine ZR fun K hK => ?_; simp (maxSteps := 1000000) [ty28, ty26, ty3]; refine hK _ ?_; clear hK K
  (repeat refine ZQ ?_); refine ZC (fun hc => ?_) (fun hc => ?_)
  ·simp at hc
   have hwi : IntKind.i64.wrap ((i : Int) + 1) = ((i + 1 : Nat) : Int) := by rw [wrap_id (by omega) (by omega)]; rfl
   have hdi := hd _ (List.getElem_mem hc)
   have hdn : w.vs[i].day.toNat < l.length := by omega
   have hst := hRs i hc
   have hgg := gsN_get w hc
   have hgp := gsN_pure w
   rw [pF_at hdn] at hst
   have hln := numsT_len Tr.area (tiV w w.vs[i]) true
   generalize numsT Tr.area (tiV w w.vs[i]) true = U at *
   have hcal := q_in85 U.isEmpty false U (l[w.vs[i].day.toNat]) (by omega)
   have hRi := hRb i
   refine awp_skip ?_
   (repeat refine ZQ ?_); refine awp_block ?_
   by_cases hm : l[w.vs[i].day.toNat] ∈ U
   ·simp [hm] at hst
    (repeat refine ZQ ?_); refine ZD [] [0, 1, 2, 3, 4, 5, 6, 7, 8, 9, 10, 11, 12, 13, 14] fun K hK => ?_; simp (maxSteps := 1000000) [ty28, ty26, ty53, ty110, ty29, ty3, hc, hgg, hdi.1, hdn]
    refine ZE (hcal) ?_; simp (maxSteps := 1000000) [ty4, hm]
    refine hK _ ?_; clear hK K
    (repeat refine ZQ ?_); refine ZC (hc := by simp [hm]; rfl) (fun hd => ?_) (fun hd => ?_)
    ·simp [hm] at hd
    ·clear hd
     refine awp_skip ?_
     (repeat refine ZQ ?_); refine ZR fun K hK => ?_; simp (maxSteps := 1000000) [ty3]; refine hK _ ?_; clear hK K; (first | show AWP _ _ _ _ _ | show ∃ _, _ | skip)
     refine ⟨i + 1, by omega, by omega, ?_⟩
     rw [hwi, hst]
     refine wk_shape (shp0 hσ (by simp) (by simp) ?_) ?_
     ·simp [SlotOk]
      exact .same (by simp [purel, C.isPure])
     ·simp [mtc, mtl, mT, C.isPure, purel]
   ·simp [hm] at hst
    have hwr : IntKind.i64.wrap ((R i : Int) + 1) = (R i : Int) + 1 := wrap_id (by omega) (by omega)
    (repeat refine ZQ ?_); refine ZD [] [0, 1, 2, 3, 4, 5, 6, 7, 8, 9, 10, 11, 12, 13, 14] fun K hK => ?_; simp (maxSteps := 1000000) [ty28, ty26, ty53, ty110, ty29, ty3, hc, hgg, hdi.1, hdn]
    refine ZE (hcal) ?_; simp (maxSteps := 1000000) [ty4, hm]
    refine hK _ ?_; clear hK K
    (repeat refine ZQ ?_); refine ZC (hc := by simp [hm]; rfl) (fun hd => ?_) (fun hd => ?_)
    ·clear hd
     (repeat refine ZQ ?_); refine ZR fun K hK => ?_; simp (maxSteps := 1000000) [ty3, hwr]; refine hK _ ?_; clear hK K
     (repeat refine ZQ ?_); refine ZR fun K hK => ?_; simp (maxSteps := 1000000) [ty3]; refine hK _ ?_; clear hK K; (first | show AWP _ _ _ _ _ | show ∃ _, _ | skip)
     refine ⟨i + 1, by omega, by omega, ?_⟩
     rw [hwi, hst]
     refine wk_shape (shp0 hσ (by simp) (by simp) ?_) ?_
     ·simp [SlotOk]
      exact .same (by simp [purel, C.isPure])
     ·simp [mtc, mtl, mT, C.isPure, purel]
    ·simp [hm] at hd
  ·simp at hc
   (repeat refine ZQ ?_); refine awp_exit ?_; (first | show AWP _ _ _ _ _ | show ∃ _, _ | skip)
   have hiN : i = w.vs.length := by omega
   rw [hiN]
   (repeat refine ZQ ?_); refine ZR fun K hK => ?_; simp (maxSteps := 1000000) [ty3]; refine hK _ ?_; clear hK K
   (repeat refine ZQ ?_); refine awp_ret ?_; refine And.intro (Or.inr rfl) ?_
   simp [retC, resC, viewC, mapO]

theorem q_isSo65 (w : Ws) (G : List (Int × List Int)) (nl fu : Bool) (l : List Int) (hg : 0 ≤ w.gain ∧ w.gain ≤ 50) (hl : l.length ≤ 1000000) : Pure Tryz.prog 65 [encWs w, .sl nl fu (l.map cI)] (.bool (isSoC (co w G) l)) := by
  have hwg : IntKind.i64.wrap (-w.gain) = -w.gain := wrap_id (by omega) (by omega)
  refine ZF (fn := Tryz.f65) [.tmp 4] ⟨Tryz.func65, rfl, by kernel_rfl⟩ fun x hx hσ => ?_
  (repeat refine ZQ ?_); refine ZR fun K hK => ?_; simp (maxSteps := 1000000) [ty28, ty4]; refine hK _ ?_; clear hK K
  (repeat refine ZQ ?_); refine ZR fun K hK => ?_; simp (maxSteps := 1000000) [ty3]; refine hK _ ?_; clear hK K
  (repeat refine ZQ ?_); refine awp_block ?_
  refine awp_loop (fun i : Nat => ⟨ofL [(1, .sl nl fu (l.map cI)), (2, .ptr 2 13 0 0), (5, encI i)], stoT [(2, 2, .live (obWs w))]⟩)
    (fun i => i ≤ l.length ∧ ∀ j, j < i → soAt (co w G) l j = true) (fun i => l.length - i) 0 (by simp) ?_ ?_
  · exact Zw
  · intro i ⟨hi, hj⟩
    (repeat refine ZQ ?_); refine ZR fun K hK => ?_; simp (maxSteps := 1000000) [ty29, ty3]; refine hK _ ?_; clear hK K
    (repeat refine ZQ ?_); refine ZC (fun hc => ?_) (fun hc => ?_)
    · simp at hc
      have hwi : IntKind.i64.wrap ((i : Int) + 1) = ((i + 1 : Nat) : Int) := by rw [wrap_id (by omega) (by omega)]; rfl
      have hbad : soAt (co w G) l i = false → isSoC (co w G) l = false := fun h => by
        rw [Bool.eq_false_iff]; intro e
        rw [isSoC_all.1 e i hc] at h; cases h
      have hcal := q_within77 l[i] (-w.gain) w.gain
      refine awp_skip ?_
      (repeat refine ZQ ?_); refine awp_block ?_
      cases hb : withinB l[i] (-w.gain) w.gain
      · have hso : soAt (co w G) l i = false := by
          cases i with
          | zero => rw [soAt_zero hc]; exact hb
          | succ i => rw [soAt_succ hc]; simp only [hb]; rfl
        have hB := hbad hso
        rw [hb] at hcal
        (repeat refine ZQ ?_); refine ZD [] [0, 1, 2, 3, 4, 5, 6, 7, 8, 9, 10, 11, 12, 13, 14, 15, 16, 17, 18, 19, 20, 21, 22, 23, 24, 25, 26, 27, 28, 29, 30] fun K hK => ?_; simp (maxSteps := 1000000) [ty28, ty29, ty3, ty4, hc, hwg]
        refine ZE (hcal) ?_; simp (maxSteps := 1000000) [ty28, ty29, ty3, ty4]
        refine hK _ ?_; clear hK K
        (repeat refine ZQ ?_); refine ZC (fun hd => ?_) (fun hd => ?_)
        · clear hd
          (repeat refine ZQ ?_); refine ZR fun K hK => ?_; simp (maxSteps := 1000000) [ty4]; refine hK _ ?_; clear hK K
          (repeat refine ZQ ?_); refine awp_ret ?_; refine And.intro (Or.inr rfl) ?_
          simp [retC, resC, viewC, mapO, hB]
        · simp at hd
      · rw [hb] at hcal
        by_cases hi0 : i = 0
        · subst hi0
          have hso : soAt (co w G) l 0 = true := by rw [soAt_zero hc]; exact hb
          (repeat refine ZQ ?_); refine ZD [] [0, 1, 2, 3, 4, 5, 6, 7, 8, 9, 10, 11, 12, 13, 14, 15, 16, 17, 18, 19, 20, 21, 22, 23, 24, 25, 26, 27, 28, 29, 30] fun K hK => ?_; simp (maxSteps := 1000000) [ty28, ty29, ty3, ty4, hc, hwg]
          refine ZE (hcal) ?_; simp (maxSteps := 1000000) [ty28, ty29, ty3, ty4]
          refine hK _ ?_; clear hK K
          (repeat refine ZQ ?_); refine ZC (fun hd => ?_) (fun hd => ?_)
          · simp at hd
          · clear hd
            refine awp_skip ?_
            (repeat refine ZQ ?_); refine ZR fun K hK => ?_; simp (maxSteps := 1000000) [ty3]; refine hK _ ?_; clear hK K; (first | show AWP _ _ _ _ _ | show ∃ _, _ | skip)
            refine ⟨1, ⟨by omega, fun j h1 => by obtain rfl : j = 0 := by omega
                                                 exact hso⟩, by omega, ?_⟩
            exact Zw
        · obtain ⟨n, rfl⟩ : ∃ n, i = n + 1 := ⟨i - 1, by omega⟩
          have hnl : n < l.length := by omega
          have hso := soAt_succ (c := co w G) hc
          have hpr : -w.gain ≤ l[n] ∧ l[n] ≤ w.gain := by
            have h1 := hj n (by omega)
            cases n with
            | zero => rw [soAt_zero hnl] at h1; simpa [withinB] using h1
            | succ n => rw [soAt_succ hnl] at h1; simp only [withinB, Bool.and_eq_true, decide_eq_true_eq] at h1; exact h1.1
          have hcu : -w.gain ≤ l[n + 1] ∧ l[n + 1] ≤ w.gain := by simpa [withinB] using hb
          have hw1 : IntKind.i64.wrap (n : Int) = (n : Int) := wrap_id (by omega) (by omega)
          have hpos : (0 : Int) < ((n + 1 : Nat) : Int) := by omega
          have h01 : (0 : Int) ≤ (n : Int) + 1 := by omega
          have hws : IntKind.i64.wrap (l[n] - l[n + 1]) = l[n] - l[n + 1] := wrap_id (by omega) (by omega)
          have hcal2 := q_within77 (l[n] - l[n + 1]) 0 w.drop
          simp only [hb, Bool.true_and] at hso
          cases hb2 : withinB (l[n] - l[n + 1]) 0 w.drop
          · rw [hb2] at hcal2 hso
            have hB := hbad hso
            (repeat refine ZQ ?_); refine ZD [] [0, 1, 2, 3, 4, 5, 6, 7, 8, 9, 10, 11, 12, 13, 14, 15, 16, 17, 18, 19, 20, 21, 22, 23, 24, 25, 26, 27, 28, 29, 30] fun K hK => ?_; simp (maxSteps := 1000000) [ty28, ty29, ty3, ty4, hc, hwg, h01]
            refine ZE (hcal) ?_; simp (maxSteps := 1000000) [ty28, ty29, ty3, ty4, hw1, hnl, hc, hpos, h01, hws]
            refine ZE (hcal2) ?_; simp (maxSteps := 1000000) [ty28, ty29, ty3, ty4]
            refine hK _ ?_; clear hK K
            (repeat refine ZQ ?_); refine ZC (fun hd => ?_) (fun hd => ?_)
            · clear hd
              (repeat refine ZQ ?_); refine ZR fun K hK => ?_; simp (maxSteps := 1000000) [ty4]; refine hK _ ?_; clear hK K
              (repeat refine ZQ ?_); refine awp_ret ?_; refine And.intro (Or.inr rfl) ?_
              simp [retC, resC, viewC, mapO, hB]
            · simp at hd
          · rw [hb2] at hcal2 hso
            (repeat refine ZQ ?_); refine ZD [] [0, 1, 2, 3, 4, 5, 6, 7, 8, 9, 10, 11, 12, 13, 14, 15, 16, 17, 18, 19, 20, 21, 22, 23, 24, 25, 26, 27, 28, 29, 30] fun K hK => ?_; simp (maxSteps := 1000000) [ty28, ty29, ty3, ty4, hc, hwg, h01]
            refine ZE (hcal) ?_; simp (maxSteps := 1000000) [ty28, ty29, ty3, ty4, hw1, hnl, hc, hpos, h01, hws]
            refine ZE (hcal2) ?_; simp (maxSteps := 1000000) [ty28, ty29, ty3, ty4]
            refine hK _ ?_; clear hK K
            (repeat refine ZQ ?_); refine ZC (fun hd => ?_) (fun hd => ?_)
            · simp at hd
            · clear hd
              refine awp_skip ?_
              (repeat refine ZQ ?_); refine ZR fun K hK => ?_; simp (maxSteps := 1000000) [ty3]; refine hK _ ?_; clear hK K; (first | show AWP _ _ _ _ _ | show ∃ _, _ | skip)
              refine ⟨n + 1 + 1, ⟨by omega, fun j h1 => ?_⟩, by omega, ?_⟩
              · by_cases hjn : j = n + 1
                · subst hjn; exact hso
                · exact hj j (by omega)
              · exact Zw
    · simp at hc
      (repeat refine ZQ ?_); refine awp_exit ?_; (first | show AWP _ _ _ _ _ | show ∃ _, _ | skip)
      have hB : isSoC (co w G) l = true := isSoC_all.2 fun j h => hj j (by omega)
      (repeat refine ZQ ?_); refine ZR fun K hK => ?_; simp (maxSteps := 1000000) [ty4]; refine hK _ ?_; clear hK K
      (repeat refine ZQ ?_); refine awp_ret ?_; refine And.intro (Or.inr rfl) ?_
      simp [retC, resC, viewC, mapO, hB]

set_option maxHeartbeats 8000000

-- the examples of wear

def tsE (s a b : Int) : Ts := ⟨1000, false, true, [⟨1, s, 0, a, b⟩]⟩
def wE : Ws := ⟨wX, 6, 6, 1, false, true, [⟨0, false, true, [tsE 1 10 12]⟩, ⟨4, false, true, [tsE 1 10 10]⟩], 0⟩
def zE : Ws := ⟨wX, 6, 6, 1, false, true, [⟨0, false, true, [tsE 1 10 10, tsE (-1) 0 0]⟩], 0⟩
def kE : Cl := ⟨1000, 2⟩

theorem test97 (s a b : Int) : Pure Tryz.prog 97 [encI s, encI a, encI b] (encTs (tsE s a b)) := by
 refine ZF (fn := Tryz.f97) [.cell 6 119] ⟨Tryz.func97, rfl, by kernel_rfl⟩ fun x hx hσ => ?_
 (repeat refine ZQ ?_); refine ZR fun K hK => ?_; simp (maxSteps := 1000000) [ty119]; refine hK _ ?_; clear hK K
 (repeat refine ZQ ?_); refine ZR fun K hK => ?_; simp (maxSteps := 1000000) [ty119, ty121, ty117, ty3]; refine hK _ ?_; clear hK K
 (repeat refine ZQ ?_); refine awp_ret ?_; refine And.intro (Or.inr rfl) ?_
 simp [retC, resC, viewC, mapO, ty119, tsE]

theorem example56 : Pure Tryz.prog 56 [] (.tup [encWs wE, encWs zE]) := by
 have h := example48
 simp only [encWh, cWh, sWl, cWl, wX, yA, yB, List.map_cons, List.map_nil] at h
 have t1 := test97 1 10 12
 have t2 := test97 1 10 10
 have t3 := test97 (-1) 0 0
 simp only [encTs, cTs, tsE, sWl, cWl, List.map_cons, List.map_nil] at t1 t2 t3
 refine ZF (fn := Tryz.f56) [.cell 0 28, .cell 1 28] ⟨Tryz.func56, rfl, by kernel_rfl⟩ fun x hx hσ => ?_
 (repeat refine ZQ ?_); refine ZR fun K hK => ?_; simp (maxSteps := 1000000) [ty28]; refine hK _ ?_; clear hK K
 (repeat refine ZQ ?_); refine ZR fun K hK => ?_; simp (maxSteps := 1000000) [ty25]
 refine ZP (h) ?_; simp (maxSteps := 1000000) [ty25]
 refine hK _ ?_; clear hK K
 (repeat refine ZQ ?_); refine ZR fun K hK => ?_; simp (maxSteps := 1000000) [ty25, ty28]; refine hK _ ?_; clear hK K
 (repeat refine ZQ ?_); refine ZR fun K hK => ?_; simp (maxSteps := 1000000) [ty28]; refine hK _ ?_; clear hK K
 (repeat refine ZQ ?_); refine ZR fun K hK => ?_; simp (maxSteps := 1000000) [ty28, ty53, ty51, ty119, ty26]
 refine ZP (t1) ?_; simp (maxSteps := 1000000) [ty28, ty53, ty51, ty119, ty26]
 refine ZP (t2) ?_; simp (maxSteps := 1000000) [ty28, ty53, ty51, ty119, ty26]
 refine hK _ ?_; clear hK K
 (repeat refine ZQ ?_); refine ZR fun K hK => ?_; simp (maxSteps := 1000000) [ty28, ty53, ty51, ty119, ty26]
 refine ZP (t2) ?_; simp (maxSteps := 1000000) [ty28, ty53, ty51, ty119, ty26]
 refine ZP (t3) ?_; simp (maxSteps := 1000000) [ty28, ty53, ty51, ty119, ty26]
 refine hK _ ?_; clear hK K
 (repeat refine ZQ ?_); refine ZD [1001, 2002, 10000] [0, 1, 2, 3] fun K hK => ?_; simp (maxSteps := 1000000) [ty28]; refine hK _ ?_; clear hK K
 (repeat refine ZQ ?_); refine awp_ret ?_; refine And.intro (Or.inr rfl) ?_
 simp [retC, resC, viewC, mapO, ty28, wE, zE, tsE, wX]

theorem wE_len : WsLen wE := ⟨by decide, fun v hv => by
 simp only [wE, List.mem_cons, List.not_mem_nil, or_false] at hv
 rcases hv with rfl | rfl <;> exact ⟨by decide, by decide⟩⟩
theorem zE_len : WsLen zE := ⟨by decide, fun v hv => by
 simp only [zE, List.mem_cons, List.not_mem_nil, or_false] at hv
 subst hv; exact ⟨by decide, by decide⟩⟩

theorem gl_areas (w : Ws) : gl w = w.vs.map fun v => (v.day, areasR (knownT (tiV w v) true)) := by
 unfold gl
 refine List.map_congr_left fun v _ => ?_
 unfold glV
 rw [gains_nums]
theorem wE_gl : gl wE = [(0, [0, 1, 2, 3, 4]), (4, [-2, -1, 0, 1, 2])] := by rw [gl_areas]; decide +kernel
theorem zE_gl : gl zE = [(0, [0])] := by rw [gl_areas]; decide +kernel
theorem wE_check : checkW wE = 0 := by decide +kernel
theorem zE_check : checkW zE = 0 := by decide +kernel
theorem openW_true {w : Ws} {is : Bool} (h1 : checkW w = 0) (h2 : is = true) (h3 : canC (co w (gl w)) [] = true) : openW w is = 0 := by
 unfold openW; rw [if_neg (by simpa using h1), if_neg (by rw [h2]; simp), if_neg (by rw [h3]; simp)]
theorem wE_can : canC (co wE (gl wE)) [] = true := by rw [wE_gl]; decide +kernel
theorem zE_can : canC (co zE (gl zE)) [] = true := by rw [zE_gl]; decide +kernel
theorem wE_open {is : Bool} (h : is = true) : openW wE is = 0 := openW_true wE_check h wE_can
theorem zE_open {is : Bool} (h : is = true) : openW zE is = 0 := openW_true zE_check h zE_can
theorem wE_on : onW wE 4 = [-2, -1, 0, 1, 2] := by
 unfold onW; rw [if_pos (wE_open (by decide)), wE_gl]; decide +kernel
theorem wE_drift : driftW wE 0 6 = (0, 6) := by
 unfold driftW; rw [if_pos (wE_open (by decide)), wE_gl]; decide +kernel
theorem zE_dueO : dueO (co zE (gl zE)) kE = some 3 := by rw [zE_gl]; decide +kernel
theorem zE_doubt : doubtW zE = 21 := by
 unfold doubtW; rw [if_pos (zE_open rfl), zE_gl]; decide +kernel
theorem wE_blame : blameW wE 0 1000 1005 = 2 := by
 unfold blameW; rw [if_pos (wE_open (by decide)), wE_gl]; decide +kernel

theorem works15 : Pure Tryz.prog 15 [] (.bool true) := by
 have hx1 := example56
 have c1 := w_on18 wE 4 wE_len
 rw [wE_on, wE_open (by decide)] at c1
 have c2 := w_drift22 wE 0 6 wE_len
 rw [wE_drift, wE_open (by decide)] at c2
 have hkc : classB kE = true := by decide
 have c3 := w_due16 zE kE zE_len
 have hv : dueV zE kE = 3 := by unfold dueV; rw [if_pos (zE_open hkc), zE_dueO]; rfl
 have he : dueE zE kE = 0 := by unfold dueE; rw [if_pos (zE_open hkc), zE_dueO]
 rw [hv, he] at c3
 have c4 := w_doubt25 zE zE_len
 rw [zE_doubt, zE_open rfl] at c4
 have c5 := w_blame50 wE 0 1000 1005 wE_len
 rw [wE_blame, wE_open (by decide)] at c5
 have s1 := same29 false false false true [-2, -1, 0, 1, 2] [-2, -1, 0, 1, 2] (by decide) (by decide)
 simp only [decide_true] at s1
 simp only [slI, List.map_cons, List.map_nil, List.isEmpty_cons, cI, encP] at c1 c2 s1
 simp only [kE] at c3
 generalize wE = w at *
 generalize zE = z at *
 refine ZF (fn := Tryz.f15) [.tmp 0] ⟨Tryz.func15, rfl, by kernel_rfl⟩ fun x hx hσ => ?_
 (repeat refine ZQ ?_); refine ZR fun K hK => ?_; simp (maxSteps := 1000000); refine hK _ ?_; clear hK K
 (repeat refine ZQ ?_); refine ZR fun K hK => ?_; simp (maxSteps := 1000000) [ty28]
 refine ZP (hx1) ?_; simp (maxSteps := 1000000) [ty28]
 refine hK _ ?_; clear hK K
 (repeat refine ZQ ?_); refine ZR fun K hK => ?_; simp (maxSteps := 1000000) [ty28]
 refine ZP (c1) ?_; simp (maxSteps := 1000000) [ty29]
 refine hK _ ?_; clear hK K
 (repeat refine ZQ ?_); refine ZR fun K hK => ?_; simp (maxSteps := 1000000) [ty28, ty23]
 refine ZP (c2) ?_; simp (maxSteps := 1000000) [ty23]
 refine hK _ ?_; clear hK K
 (repeat refine ZQ ?_); refine ZR fun K hK => ?_; simp (maxSteps := 1000000) [ty28, ty31]
 refine ZP (c3) ?_; simp (maxSteps := 1000000)
 refine hK _ ?_; clear hK K
 (repeat refine ZQ ?_); refine ZR fun K hK => ?_; simp (maxSteps := 1000000) [ty28]
 refine ZP (c4) ?_; simp (maxSteps := 1000000)
 refine hK _ ?_; clear hK K
 (repeat refine ZQ ?_); refine ZR fun K hK => ?_; simp (maxSteps := 1000000) [ty28]
 refine ZP (c5) ?_; simp (maxSteps := 1000000)
 refine hK _ ?_; clear hK K
 (repeat refine ZQ ?_); refine ZR fun K hK => ?_; simp (maxSteps := 1000000) [ty37, ty29, ty3, ty4, ty23, fe23]
 refine ZP (s1) ?_; simp (maxSteps := 1000000) [ty37, ty29, ty3, ty4, ty23, fe23, eqInts]
 refine hK _ ?_; clear hK K
 (repeat refine ZQ ?_); refine awp_ret ?_; refine And.intro (Or.inr rfl) ?_
 simp [retC, resC, viewC, mapO]

set_option maxHeartbeats 8000000

-- what is far, what is ready, and the laws' small functions

/-- What is near enough. -/
structure NearW (w : Ws) : Prop where
  vs : w.vs.length ≤ 20
  l : ∀ v ∈ w.vs, NearT (tiV w v)
  small : checkW w = 0 → w.gain ≤ 3 ∧ w.last ≤ 5 ∧ w.vs.length ≤ 3

theorem NearW.len {w : Ws} (h : NearW w) : WsLen w := ⟨by have := h.vs; omega, fun v hv => (h.l v hv).len⟩




theorem far30 (w : Ws) : ∃ b, Pure Tryz.prog 30 [encWs w] (.bool b) ∧ (b = false → NearW w) := by
 by_cases h20 : (20 : Int) < w.vs.length
 ·refine ⟨true, ?_, by simp⟩
  refine ZF (fn := Tryz.f30) [.tmp 2] ⟨Tryz.func30, rfl, by kernel_rfl⟩ fun x hx hσ => ?_
  (repeat refine ZQ ?_); refine ZR fun K hK => ?_; simp (maxSteps := 1000000) [ty28]; refine hK _ ?_; clear hK K
  (repeat refine ZQ ?_); refine ZR fun K hK => ?_; simp (maxSteps := 1000000) [ty28, ty26, ty3, h20]; refine hK _ ?_; clear hK K
  (repeat refine ZQ ?_); refine ZC (hc := by simp [h20]; rfl) (fun hd => ?_) (fun hd => ?_)
  ·clear hd
   (repeat refine ZQ ?_); refine ZR fun K hK => ?_; simp (maxSteps := 1000000); refine hK _ ?_; clear hK K
   (repeat refine ZQ ?_); refine awp_ret ?_; refine And.intro (Or.inr rfl) ?_
   simp [retC, resC, viewC, mapO]
  ·simp at hd
 ·obtain ⟨B, hB⟩ : ∃ B : Vs → Bool, ∀ v, Pure Tryz.prog 73 [encTi (tiV w v)] (.bool (B v)) ∧ (B v = false → NearT (tiV w v)) := Classical.axiomOfChoice fun v => far8 (tiV w v)
  obtain ⟨bN, hN, hNn⟩ := far8 (tiN w)
  by_cases hall : ∀ j, (h : j < w.vs.length) → B w.vs[j] = false
  ·have hnl : ∀ v ∈ w.vs, NearT (tiV w v) := fun v hv => by
    obtain ⟨j, hj, rfl⟩ := List.getElem_of_mem hv
    exact (hB _).2 (hall j hj)
   have hlen : WsLen w := ⟨by omega, fun v hv => (hnl v hv).len⟩
   have hck := q_check32 w hlen
   have main : ∀ b : Bool, (∀ (P : Bool → Prop), P (bN || ((checkW w == 0) && (decide (3 < w.gain) || decide (5 < w.last) || decide (3 < (w.vs.length : Int))))) → P b) → Pure Tryz.prog 30 [encWs w] (.bool b) := by
    intro b hb0
    refine hb0 (fun b => Pure Tryz.prog 30 [encWs w] (.bool b)) ?_
    refine ZF (fn := Tryz.f30) [.tmp 2] ⟨Tryz.func30, rfl, by kernel_rfl⟩ fun x hx hσ => ?_
    (repeat refine ZQ ?_); refine ZR fun K hK => ?_; simp (maxSteps := 1000000) [ty28]; refine hK _ ?_; clear hK K
    (repeat refine ZQ ?_); refine ZR fun K hK => ?_; simp (maxSteps := 1000000) [ty28, ty26, ty3, h20]; refine hK _ ?_; clear hK K
    (repeat refine ZQ ?_); refine ZC (hc := by simp [h20]; rfl) (fun hd => ?_) (fun hd => ?_)
    ·simp [h20] at hd
    ·clear hd
     refine awp_skip ?_
     (repeat refine ZQ ?_); refine ZR fun K hK => ?_; simp (maxSteps := 1000000) [ty3]; refine hK _ ?_; clear hK K
     (repeat refine ZQ ?_); refine awp_block ?_
     refine awp_loop (fun i : Nat => ⟨ofL [(1, .ptr 1 13 0 0), (3, encI i)], stoT [(1, 1, .live (obWs w))]⟩)
      (fun i => i ≤ w.vs.length ∧ ∀ j, (h : j < w.vs.length) → j < i → B w.vs[j] = false) (fun i => w.vs.length - i) 0 (by simp) ?_ ?_
     ·exact Zw
     ·intro i ⟨hi, hj⟩
      (repeat refine ZQ ?_); refine ZR fun K hK => ?_; simp (maxSteps := 1000000) [ty28, ty26, ty3]; refine hK _ ?_; clear hK K
      (repeat refine ZQ ?_); refine ZC (fun hc => ?_) (fun hc => ?_)
      ·simp at hc
       have hcal := (hB w.vs[i]).1
       have hwi : IntKind.i64.wrap ((i : Int) + 1) = ((i + 1 : Nat) : Int) := by rw [wrap_id (by omega) (by omega)]; rfl
       refine awp_skip ?_
       (repeat refine ZQ ?_); refine awp_block ?_
       cases hb : B w.vs[i]
       ·rw [hb] at hcal
        (repeat refine ZQ ?_); refine ZD [] [0, 1, 2, 3, 4, 5, 6, 7, 8] fun K hK => ?_; simp (maxSteps := 1000000) [ty28, ty26, ty53, ty51, ty3, hc]
        refine ZE (q_trialOf27 w w.vs[i].nl w.vs[i].fu w.vs[i].ts) ?_; simp (maxSteps := 1000000) [ty62]
        refine ZE (hcal) ?_; simp (maxSteps := 1000000)
        refine hK _ ?_; clear hK K
        (repeat refine ZQ ?_); refine ZC (fun hd => ?_) (fun hd => ?_)
        ·simp at hd
        ·clear hd
         refine awp_skip ?_
         (repeat refine ZQ ?_); refine ZR fun K hK => ?_; simp (maxSteps := 1000000) [ty3]; refine hK _ ?_; clear hK K; (first | show AWP _ _ _ _ _ | show ∃ _, _ | skip)
         refine ⟨i + 1, ⟨by omega, fun j h1 h2 => ?_⟩, by omega, ?_⟩
         ·by_cases hji : j = i
          ·subst hji; exact hb
          ·exact hj j h1 (by omega)
         ·rw [hwi]
          exact Zw
       ·rw [hb] at hcal
        have := hall i hc; rw [hb] at this; cases this
      ·simp at hc
       (repeat refine ZQ ?_); refine awp_exit ?_; (first | show AWP _ _ _ _ _ | show ∃ _, _ | skip)
       cases bN
       ·cases hz : checkW w == 0
        ·(repeat refine ZQ ?_); refine ZR fun K hK => ?_; simp (maxSteps := 1000000) [ty28]
         refine ZP (q_trialOf27 w true true []) ?_; simp (maxSteps := 1000000) [ty62, ty28]
         refine ZP (hN) ?_; simp (maxSteps := 1000000) [ty4, ty28, ty3]
         refine ZP (hck) ?_; simp (maxSteps := 1000000) [ty37, ty28, ty3, hz]
         refine hK _ ?_; clear hK K
         (repeat refine ZQ ?_); refine awp_ret ?_; refine And.intro (Or.inr rfl) ?_
         simp [retC, resC, viewC, mapO, hz]
        ·by_cases h1 : 3 < w.gain
         ·(repeat refine ZQ ?_); refine ZR fun K hK => ?_; simp (maxSteps := 1000000) [ty28]
          refine ZP (q_trialOf27 w true true []) ?_; simp (maxSteps := 1000000) [ty62, ty28]
          refine ZP (hN) ?_; simp (maxSteps := 1000000) [ty4, ty28, ty3]
          refine ZP (hck) ?_; simp (maxSteps := 1000000) [ty37, ty28, ty3, ty26, hz, h1]
          refine hK _ ?_; clear hK K
          (repeat refine ZQ ?_); refine awp_ret ?_; refine And.intro (Or.inr rfl) ?_
          simp [retC, resC, viewC, mapO, hz, h1]
         ·by_cases h2 : 5 < w.last
          ·(repeat refine ZQ ?_); refine ZR fun K hK => ?_; simp (maxSteps := 1000000) [ty28]
           refine ZP (q_trialOf27 w true true []) ?_; simp (maxSteps := 1000000) [ty62, ty28]
           refine ZP (hN) ?_; simp (maxSteps := 1000000) [ty4, ty28, ty3]
           refine ZP (hck) ?_; simp (maxSteps := 1000000) [ty37, ty28, ty3, ty26, hz, h1, h2]
           refine hK _ ?_; clear hK K
           (repeat refine ZQ ?_); refine awp_ret ?_; refine And.intro (Or.inr rfl) ?_
           simp [retC, resC, viewC, mapO, hz, h1, h2]
          ·(repeat refine ZQ ?_); refine ZR fun K hK => ?_; simp (maxSteps := 1000000) [ty28]
           refine ZP (q_trialOf27 w true true []) ?_; simp (maxSteps := 1000000) [ty62, ty28]
           refine ZP (hN) ?_; simp (maxSteps := 1000000) [ty4, ty28, ty3]
           refine ZP (hck) ?_; simp (maxSteps := 1000000) [ty37, ty28, ty3, ty26, hz, h1, h2]
           refine hK _ ?_; clear hK K
           (repeat refine ZQ ?_); refine awp_ret ?_; refine And.intro (Or.inr rfl) ?_
           simp [retC, resC, viewC, mapO, hz, h1, h2]
       ·(repeat refine ZQ ?_); refine ZR fun K hK => ?_; simp (maxSteps := 1000000) [ty28]
        refine ZP (q_trialOf27 w true true []) ?_; simp (maxSteps := 1000000) [ty62, ty28]
        refine ZP (hN) ?_; simp (maxSteps := 1000000) [ty4, ty28, ty3]
        refine hK _ ?_; clear hK K
        (repeat refine ZQ ?_); refine awp_ret ?_; refine And.intro (Or.inr rfl) ?_
        simp [retC, resC, viewC, mapO]
   refine ⟨_, main _ (fun P h => h), fun h => ⟨by omega, hnl, fun hz => ?_⟩⟩
   simp only [Bool.or_eq_false_iff] at h
   have h2 := h.2
   rw [hz] at h2
   simp at h2
   omega
  ·refine ⟨true, ?_, by simp⟩
   refine ZF (fn := Tryz.f30) [.tmp 2] ⟨Tryz.func30, rfl, by kernel_rfl⟩ fun x hx hσ => ?_
   (repeat refine ZQ ?_); refine ZR fun K hK => ?_; simp (maxSteps := 1000000) [ty28]; refine hK _ ?_; clear hK K
   (repeat refine ZQ ?_); refine ZR fun K hK => ?_; simp (maxSteps := 1000000) [ty28, ty26, ty3, h20]; refine hK _ ?_; clear hK K
   (repeat refine ZQ ?_); refine ZC (hc := by simp [h20]; rfl) (fun hd => ?_) (fun hd => ?_)
   ·simp [h20] at hd
   ·clear hd
    refine awp_skip ?_
    (repeat refine ZQ ?_); refine ZR fun K hK => ?_; simp (maxSteps := 1000000) [ty3]; refine hK _ ?_; clear hK K
    (repeat refine ZQ ?_); refine awp_block ?_
    refine awp_loop (fun i : Nat => ⟨ofL [(1, .ptr 1 13 0 0), (3, encI i)], stoT [(1, 1, .live (obWs w))]⟩)
     (fun i => i ≤ w.vs.length ∧ ∀ j, (h : j < w.vs.length) → j < i → B w.vs[j] = false) (fun i => w.vs.length - i) 0 (by simp) ?_ ?_
    ·exact Zw
    ·intro i ⟨hi, hj⟩
     (repeat refine ZQ ?_); refine ZR fun K hK => ?_; simp (maxSteps := 1000000) [ty28, ty26, ty3]; refine hK _ ?_; clear hK K
     (repeat refine ZQ ?_); refine ZC (fun hc => ?_) (fun hc => ?_)
     ·simp at hc
      have hcal := (hB w.vs[i]).1
      have hwi : IntKind.i64.wrap ((i : Int) + 1) = ((i + 1 : Nat) : Int) := by rw [wrap_id (by omega) (by omega)]; rfl
      refine awp_skip ?_
      (repeat refine ZQ ?_); refine awp_block ?_
      cases hb : B w.vs[i]
      ·rw [hb] at hcal
       (repeat refine ZQ ?_); refine ZD [] [0, 1, 2, 3, 4, 5, 6, 7, 8] fun K hK => ?_; simp (maxSteps := 1000000) [ty28, ty26, ty53, ty51, ty3, hc]
       refine ZE (q_trialOf27 w w.vs[i].nl w.vs[i].fu w.vs[i].ts) ?_; simp (maxSteps := 1000000) [ty62]
       refine ZE (hcal) ?_; simp (maxSteps := 1000000)
       refine hK _ ?_; clear hK K
       (repeat refine ZQ ?_); refine ZC (fun hd => ?_) (fun hd => ?_)
       ·simp at hd
       ·clear hd
        refine awp_skip ?_
        (repeat refine ZQ ?_); refine ZR fun K hK => ?_; simp (maxSteps := 1000000) [ty3]; refine hK _ ?_; clear hK K; (first | show AWP _ _ _ _ _ | show ∃ _, _ | skip)
        refine ⟨i + 1, ⟨by omega, fun j h1 h2 => ?_⟩, by omega, ?_⟩
        ·by_cases hji : j = i
         ·subst hji; exact hb
         ·exact hj j h1 (by omega)
        ·rw [hwi]
         exact Zw
      ·rw [hb] at hcal
       (repeat refine ZQ ?_); refine ZD [] [0, 1, 2, 3, 4, 5, 6, 7, 8] fun K hK => ?_; simp (maxSteps := 1000000) [ty28, ty26, ty53, ty51, ty3, hc]
       refine ZE (q_trialOf27 w w.vs[i].nl w.vs[i].fu w.vs[i].ts) ?_; simp (maxSteps := 1000000) [ty62]
       refine ZE (hcal) ?_; simp (maxSteps := 1000000)
       refine hK _ ?_; clear hK K
       (repeat refine ZQ ?_); refine ZC (fun hd => ?_) (fun hd => ?_)
       ·clear hd
        (repeat refine ZQ ?_); refine ZR fun K hK => ?_; simp (maxSteps := 1000000); refine hK _ ?_; clear hK K
        (repeat refine ZQ ?_); refine awp_ret ?_; refine And.intro (Or.inr rfl) ?_
        simp [retC, resC, viewC, mapO]
       ·simp at hd
     ·simp at hc
      exact absurd (fun j h => hj j h (by omega)) hall

/-- The question of the laws: two days, an area, and a seen area. -/
structure As where
  a : Int
  b : Int
  area : Int
  seen : Int
@[simp] abbrev cAs (x : As) : List C := [encI x.a, encI x.b, encI x.area, encI x.seen]
@[simp] abbrev encAs (x : As) : C := .agg (cAs x)
end Go.Proofs.YtknoachjpoibaaaGreat

/- What comes in, as data; and how a law's statement follows from a contract of data. No condition. -/
namespace Go.Abs
open Go.ChangeShapes Go.WideShapes Go.ChangeAt Go.RowKit

/-- The make of a cell. -/
inductive Sh where
  | int (k : IntKind)
  | bool
  | str
  | sl (l : List Sh)

mutual
/-- A value of a make. -/
def Fit : Sh → C → Prop
  | .int k, c => ∃ n, c = .int k n ∧ (Lit.int k n).wf = true
  | .bool, c => ∃ b, c = .bool b
  | .str, c => ∃ s : ByteArray, c = .str s ∧ s.size ≤ maxLen
  | .sl l, c => ∃ nl rows, c = .sl nl false rows ∧ (nl = true → rows = []) ∧ rows.length ≤ maxLen ∧ ∀ row ∈ rows, FitL l row
def FitL : List Sh → List C → Prop
  | [], m => m = []
  | s :: l, m => ∃ c r, m = c :: r ∧ Fit s c ∧ FitL l r
end

def shFs (P : Program) (g : TypeId → Option (List Sh)) : Nat → List Field → Option (List Sh)
 | _, [] => some []
 | o, f :: fs => match g f.type, shFs P g (o + P.cellsOf f.type) fs with
  | some l, some m => if f.offset = o ∧ l.length = P.cellsOf f.type then some (l ++ m) else none
  | _, _ => none

/-- The makes of a type's cells. -/
def shT (P : Program) : Nat → TypeId → Option (List Sh)
  | 0, _ => none
  | n + 1, t => match P.underlying t with
    | some (.int k) => some [.int k]
    | some .bool => some [.bool]
    | some .string => some [.str]
    | some (.slice e) => match shT P n e with
      | some l => if l.length = P.cellsOf e ∧ 0 < l.length then some [.sl l] else none
      | none => none
    | some (.struct fs) => match shFs P (shT P n) 0 fs.toList with
      | some l => if l.length = P.cellsOf t then some l else none
      | none => none
    | _ => none

theorem FitL.len : ∀ {l : List Sh} {m : List C}, FitL l m → m.length = l.length
 | [], m, h => by simp only [FitL] at h; subst h; rfl
 | s :: l, m, h => by
  simp only [FitL] at h
  obtain ⟨c, r, rfl, _, h⟩ := h
  simp [FitL.len h]

theorem FitL.append : ∀ {l l' : List Sh} {m m' : List C}, FitL l m → FitL l' m' → FitL (l ++ l') (m ++ m')
 | [], l', m, m', h, h' => by simp only [FitL] at h; subst h; exact h'
 | s :: l, l', m, m', h, h' => by
  simp only [FitL] at h
  obtain ⟨c, r, rfl, h1, h2⟩ := h
  simp only [List.cons_append, FitL]
  exact ⟨c, r ++ m', rfl, h1, h2.append h'⟩

def anyG : Nat → Prop := fun _ => True

/-- Cells that stand for values. -/
def OpL (W : World) (m : List C) (cs : List Value) : Prop := m.length = cs.length ∧ ∀ (i : Nat) (c : C), m[i]? = some c → PR anyG W c (cs[i]?.getD undef) ∧ c.cell = true

theorem exists_list {α : Type} {Q : Nat → α → Prop} : ∀ {n : Nat}, (∀ i, i < n → ∃ x, Q i x) → ∃ l : List α, l.length = n ∧ ∀ i x, l[i]? = some x → Q i x
 | 0, _ => ⟨[], rfl, by simp⟩
 | n + 1, h => by
  obtain ⟨l, h1, h2⟩ := exists_list (n := n) fun i hi => h i (by omega)
  obtain ⟨x, hx⟩ := h n (by omega)
  refine ⟨l ++ [x], by simp [h1], fun i y hy => ?_⟩
  rcases Nat.lt_or_ge i l.length with hlt | hge
  ·rw [List.getElem?_append_left hlt] at hy
   exact h2 i y hy
  ·rw [List.getElem?_append_right hge] at hy
   have : i = n := by
    have := (List.getElem?_eq_some_iff.1 hy).1
    simp at this; omega
   subst this
   rw [h1, Nat.sub_self] at hy
   simp at hy
   subst hy; exact hx

section
variable {H : Type} {enc : TypeId × Value → H} {P : Program} {W : World}

theorem spot_of {a : Addr} {q n : Nat} {v : Value} (h : W.cell? ((a.add q).add n) = some v) (h0 : q = 0 ∧ n = 0) : a.spot = none := by
 obtain ⟨rfl, rfl⟩ := h0
 simp only [Addr.add, if_true] at h
 unfold World.cell? at h
 split at h
 ·split at h
  ·simp at h
  ·rename_i hs
   cases hsp : a.spot with
   | none => rfl
   | some z => simp [hsp] at hs
 ·simp at h

theorem addr_full {a : Addr} (h : a.spot = none) (q n : Nat) : (a.add q).add n = ⟨a.block, a.off + (q + n), none⟩ := by
 obtain ⟨b, o, s⟩ := a
 simp only at h
 subst h
 rw [addr_add, addr_add, Nat.add_assoc]

theorem cells_at {a : Addr} {n : Nat} {cs : List Value} (h : W.cells? 0 a n = some cs) : cs.length = n ∧ ∀ i, i < n → W.cell? (a.add i) = cs[i]? := by
 unfold World.cells? at h
 rw [if_pos (Nat.zero_le _)] at h
 refine ⟨by simpa using mapM_some_length h, fun i hi => ?_⟩
 exact mapM_some_get h i i (by rw [List.getElem?_range hi])

theorem block_lt {a : Addr} {v : Value} (h : W.cell? a = some v) : a.block < W.heap.size := by
 unfold World.cell? at h
 split at h
 ·rename_i hh; exact (Array.getElem?_eq_some_iff.1 hh).1
 ·simp at h

/-- WHAT IS READ IS DATA. -/
theorem open_sound : ∀ (n : Nat) {fuel : Nat} {t : TypeId} {cs : List Value} {x : DataW H × List MemPlace} {shs : List Sh}, shT P n t = some shs → DataW.trod enc P W 0 (fun _ => true) true fuel t cs = some x →
    ∃ m, FitL shs m ∧ OpL W m cs
  | 0, _, _, _, _, _, h, _ => by simp [shT] at h
  | n + 1, fuel, t, cs, x, shs, h, ht => by
    unfold shT at h
    split at h
    · rename_i k hk
      simp only [Option.some.injEq] at h
      subst h
      obtain ⟨z, rfl, _, hw⟩ := DataW.trod_int hk ht
      refine ⟨[.int k z], ⟨_, _, rfl, ⟨z, rfl, hw⟩, rfl⟩, rfl, fun i c hi => ?_⟩
      cases i with
      | zero => simp at hi; subst hi; exact ⟨.int _ _, rfl⟩
      | succ i => simp at hi
    · rename_i hk
      simp only [Option.some.injEq] at h
      subst h
      obtain ⟨z, rfl, _⟩ := DataW.trod_bool hk ht
      refine ⟨[.bool z], ⟨_, _, rfl, ⟨z, rfl⟩, rfl⟩, rfl, fun i c hi => ?_⟩
      cases i with
      | zero => simp at hi; subst hi; exact ⟨.bool _, rfl⟩
      | succ i => simp at hi
    · rename_i hk
      simp only [Option.some.injEq] at h
      subst h
      obtain ⟨z, rfl, _, hz⟩ := DataW.trod_string hk ht
      refine ⟨[.str z], ⟨_, _, rfl, ⟨z, rfl, hz⟩, rfl⟩, rfl, fun i c hi => ?_⟩
      cases i with
      | zero => simp at hi; subst hi; exact ⟨.str _, rfl⟩
      | succ i => simp at hi
    · rename_i e hk
      split at h
      · rename_i l hl
        split at h
        · rename_i hc
          obtain ⟨hc1, hc2⟩ := hc
          simp only [Option.some.injEq] at h
          subst h
          have one : ∀ {nl : Bool} {rows : List (List C)} {v : Value}, cs = [v] → (nl = true → rows = []) → rows.length ≤ maxLen → (∀ row ∈ rows, FitL l row) → PR anyG W (.sl nl false rows) v → ∃ m, FitL [.sl l] m ∧ OpL W m cs := by
            intro nl rows v hcs h1 h2 h3 h4
            subst hcs
            refine ⟨[.sl nl false rows], ⟨_, _, rfl, ⟨nl, rows, rfl, h1, h2, h3⟩, rfl⟩, rfl, fun i c hi => ?_⟩
            cases i with
            | zero => simp at hi; subst hi; exact ⟨h4, rfl⟩
            | succ i => simp at hi
          rcases DataW.trod_slice hk ht with ⟨rfl, _⟩ | ⟨a, len, cap, elems, rest, q, _, rfl, _, hb, hlc, hcm, hel, hat, hsp, _⟩
          · exact one rfl (fun _ => rfl) (by simp) (by simp) (.slnil _)
          · obtain ⟨hrl, hrat⟩ := hsp rfl
            by_cases hcap : cap = 0
            · have : len = 0 := by omega
              subst this
              subst hcap
              exact one (nl := false) (rows := []) rfl (by simp) (by simp) (by simp) (.slemp _ _)
            · have hspot : a.spot = none ∧ a.block < W.heap.size := by
                by_cases h0 : len = 0
                · have := hrat 0 (by omega)
                  rw [List.getElem?_eq_getElem (by omega), Option.bind_eq_some_iff] at this
                  obtain ⟨cs0, g1, _⟩ := this
                  obtain ⟨g2, g3⟩ := cells_at g1
                  have g4 := g3 0 (by omega)
                  rw [List.getElem?_eq_getElem (by omega), h0] at g4
                  have hs := spot_of g4 ⟨by simp, rfl⟩
                  refine ⟨hs, ?_⟩
                  have := block_lt g4
                  rw [addr_full hs] at this
                  exact this
                · have := hat 0 (by omega)
                  rw [List.getElem?_eq_getElem (by omega), Option.bind_eq_some_iff] at this
                  obtain ⟨cs0, g1, _⟩ := this
                  obtain ⟨g2, g3⟩ := cells_at g1
                  have g4 := g3 0 (by omega)
                  rw [List.getElem?_eq_getElem (by omega)] at g4
                  have hs := spot_of g4 ⟨by simp, rfl⟩
                  refine ⟨hs, ?_⟩
                  have := block_lt g4
                  rw [addr_full hs] at this
                  exact this
              obtain ⟨hs, hlt⟩ := hspot
              have hrow : ∀ i, i < len → ∃ row, FitL l row ∧ ∀ (j : Nat) (c : C), row[j]? = some c → ∃ v, W.cell? ⟨a.block, a.off + (i * P.cellsOf e + j), none⟩ = some v ∧ PR anyG W c v ∧ c.cell = true := by
                intro i hi
                have h1 := hat i hi
                rw [List.getElem?_eq_getElem (by omega), Option.bind_eq_some_iff] at h1
                obtain ⟨cs0, g1, g2⟩ := h1
                obtain ⟨g3, g4⟩ := cells_at g1
                obtain ⟨row, r1, r2, r3⟩ := open_sound n hl g2
                refine ⟨row, r1, fun j c hj => ?_⟩
                have hjl : j < row.length := (List.getElem?_eq_some_iff.1 hj).1
                have g5 := g4 j (by omega)
                rw [addr_full hs] at g5
                obtain ⟨r4, r5⟩ := r3 j c hj
                rw [List.getElem?_eq_getElem (by omega)] at g5 r4
                exact ⟨_, g5, r4, r5⟩
              obtain ⟨rows, w1, w2⟩ := exists_list hrow
              refine one (nl := false) (rows := rows) rfl (by simp) (by omega) (fun row hr => ?_) ?_
              · obtain ⟨i, hi, rfl⟩ := List.getElem_of_mem hr
                exact (w2 i _ (List.getElem?_eq_getElem hi)).1
              · obtain ⟨b, o, s⟩ := a
                simp only at hs hlt
                subst hs
                refine .sl (sz := P.cellsOf e) (fun i j => (W.cell? ⟨b, o + (i * P.cellsOf e + j), none⟩).getD undef) trivial hlt w1.symm (by simp) (by omega) ?_ ?_ ?_ ?_
                · intro i row hi
                  rw [(w2 i row hi).1.len, hc1]
                · intro i row hi j c hj
                  obtain ⟨v, q1, q2, q3⟩ := (w2 i row hi).2 j c hj
                  simp only at q1
                  rw [q1]; rfl
                · intro i row hi j c hj
                  obtain ⟨v, q1, q2, q3⟩ := (w2 i row hi).2 j c hj
                  exact q3
                · intro i row hi j c hj
                  obtain ⟨v, q1, q2, q3⟩ := (w2 i row hi).2 j c hj
                  simp only at q1
                  rw [q1]; exact q2
        · simp at h
      · simp at h
    · rename_i fs hk
      split at h
      · rename_i l hl
        split at h
        · rename_i hc
          simp only [Option.some.injEq] at h
          subst h
          obtain ⟨xs, q, _, _, hlen, hxl, hf⟩ := DataW.trod_struct hk ht
          have go : ∀ (fl : List Field) (o : Nat) (shs : List Sh), shFs P (shT P n) o fl = some shs → (∀ f ∈ fl, ∃ y, DataW.trod enc P W 0 (fun _ => true) true q f.type ((cs.drop f.offset).take (P.cellsOf f.type)) = some y) → o + shs.length ≤ cs.length →
              ∃ m, FitL shs m ∧ ∀ (i : Nat) (c : C), m[i]? = some c → PR anyG W c (cs[o + i]?.getD undef) ∧ c.cell = true := by
            intro fl
            induction fl with
            | nil =>
              intro o shs h1 _ _
              simp only [shFs, Option.some.injEq] at h1
              subst h1
              exact ⟨[], rfl, by simp⟩
            | cons f fl ih =>
              intro o shs h1 h2 h3
              unfold shFs at h1
              split at h1
              · rename_i l1 l2 e1 e2
                split at h1
                · rename_i hc2
                  obtain ⟨ho, hl1⟩ := hc2
                  simp only [Option.some.injEq] at h1
                  subst h1
                  simp only [List.length_append] at h3
                  obtain ⟨y, hy⟩ := h2 f (by simp)
                  obtain ⟨m1, p1, p2, p3⟩ := open_sound n e1 hy
                  obtain ⟨m2, p4, p5⟩ := ih (o + P.cellsOf f.type) l2 e2 (fun g hg => h2 g (by simp [hg])) (by omega)
                  have hm1 := p1.len
                  refine ⟨m1 ++ m2, p1.append p4, fun i c hi => ?_⟩
                  rcases Nat.lt_or_ge i m1.length with hlt | hge
                  · rw [List.getElem?_append_left hlt] at hi
                    have := p3 i c hi
                    rw [List.getElem?_take_of_lt (by omega), List.getElem?_drop, ho] at this
                    exact this
                  · rw [List.getElem?_append_right hge] at hi
                    have := p5 _ c hi
                    rw [show o + P.cellsOf f.type + (i - m1.length) = o + i by omega] at this
                    exact this
                · simp at h1
              · simp at h1
          obtain ⟨m, m1, m2⟩ := go fs.toList 0 l hl (fun f hfm => by
            obtain ⟨i, hi, rfl⟩ := List.getElem_of_mem hfm
            have := hf i fs.toList[i] (by simp)
            rw [List.getElem?_eq_getElem (by simp at hi; omega)] at this
            exact ⟨_, this⟩) (by omega)
          exact ⟨m, m1, by rw [m1.len]; omega, fun i c hi => by have := m2 i c hi; rwa [Nat.zero_add] at this⟩
        · simp at h
      · simp at h
    · simp at h

def isAggT (P : Program) (t : TypeId) : Bool :=
 match P.underlying t with
 | some (.struct _) => true
 | _ => false

/-- What the parameters stand for. -/
def ArgsFit (P : Program) : List TypeId → List C → Prop
  | [], cs => cs = []
  | t :: ts, cs => ∃ shs m c r, cs = c :: r ∧ shT P 9 t = some shs ∧ FitL shs m ∧ (if isAggT P t then c = .agg m else m = [c]) ∧ ArgsFit P ts r

theorem open_args : ∀ {ts : List TypeId} {vs : List Value} {ds : List (DataW H)} {ps : List MemPlace}, DataW.TrodAll enc P W 0 (fun _ => true) true ts vs ds ps →
  (∀ (j : Nat) t v, ts[j]? = some t → vs[j]? = some v → ∃ base, Value.okWide P W .any base t v) → (ts.all fun t => (shT P 9 t).isSome) = true →
  ∃ cargs, ArgsFit P ts cargs ∧ cargs.length = vs.length ∧ ∀ (i : Nat) (c : C), cargs[i]? = some c → PR anyG W c (vs[i]?.getD undef)
 | [], [], [], _, _, _, _ => ⟨[], rfl, rfl, by simp⟩
 | t :: ts, v :: vs, d :: ds, ps, h, hv, hs => by
  obtain ⟨p, q, ⟨fuel, h1⟩, h2, _⟩ := h
  simp only [List.all_cons, Bool.and_eq_true] at hs
  obtain ⟨hs1, hs2⟩ := hs
  rw [Option.isSome_iff_exists] at hs1
  obtain ⟨shs, hs1⟩ := hs1
  obtain ⟨m, m1, m2, m3⟩ := open_sound 9 hs1 h1
  obtain ⟨cargs, a1, a2, a3⟩ := open_args h2 (fun j t' v' e1 e2 => hv (j + 1) t' v' (by simpa using e1) (by simpa using e2)) hs2
  obtain ⟨base, hok⟩ := hv 0 t v rfl rfl
  have fin : ∀ c, (if isAggT P t then c = .agg m else m = [c]) → PR anyG W c v → ∃ cargs, ArgsFit P (t :: ts) cargs ∧ cargs.length = (v :: vs).length ∧ ∀ (i : Nat) (c : C), cargs[i]? = some c → PR anyG W c ((v :: vs)[i]?.getD undef) := by
   intro c hc hp
   refine ⟨c :: cargs, ⟨shs, m, c, cargs, rfl, hs1, m1, hc, a1⟩, by simp [a2], fun i c' hi => ?_⟩
   cases i with
   | zero => simp at hi; subst hi; simpa using hp
   | succ i => simp at hi ⊢; exact a3 i c' hi
  by_cases hag : isAggT P t = true
  ·have hag0 := hag
   unfold isAggT at hag
   split at hag
   ·rename_i fs hfs
    obtain ⟨cs, rfl, hcs⟩ := okWide_struct hfs hok
    refine fin (.agg m) (by rw [if_pos hag0]) (.agg (by rw [m2]; simp [Value.cells]) fun i c hi => ?_)
    have := (m3 i c hi).1
    simpa [Value.cells] using this
   ·simp at hag
  ·have hag0 := hag
   have hone : ∃ sh, shs = [sh] ∧ oneCell v = true := by
    unfold isAggT at hag
    unfold shT at hs1
    split at hs1
    ·rename_i k hk
     obtain ⟨n, rfl⟩ := okWide_int hk hok
     exact ⟨_, (by simpa using hs1.symm), rfl⟩
    ·rename_i hk
     obtain ⟨n, rfl⟩ := okWide_bool hk hok
     exact ⟨_, (by simpa using hs1.symm), rfl⟩
    ·rename_i hk
     obtain ⟨n, rfl⟩ := okWide_string hk hok
     exact ⟨_, (by simpa using hs1.symm), rfl⟩
    ·rename_i e hk
     obtain ⟨a, l, cp, rfl⟩ := okWide_slice hk hok
     split at hs1
     ·split at hs1
      ·exact ⟨_, (by simpa using hs1.symm), rfl⟩
      ·simp at hs1
     ·simp at hs1
    ·rename_i fs hk
     rw [hk] at hag; simp at hag
    ·simp at hs1
   obtain ⟨sh, rfl, hov⟩ := hone
   have hm := m1.len
   have hm1 : m.length = 1 := hm
   obtain ⟨c, rfl⟩ := List.length_eq_one_iff.1 hm1
   refine fin c (by rw [if_neg hag0]) ?_
   have := (m3 0 c rfl).1
   rw [cells_one hov] at this
   simpa using this
 | [], _ :: _, _, _, h, _, _ => h.elim
 | [], [], _ :: _, _, h, _, _ => h.elim
 | _ :: _, [], _, _, h, _, _ => h.elim
 | _ :: _, _ :: _, [], _, h, _, _ => h.elim

/-- No slice of things without size. -/
def noEmptyB (P : Program) : Bool := (List.range P.types.size).all fun t => match P.underlying t with
  | some (.slice e) => decide (0 < P.cellsOf e)
  | _ => true

theorem same_of {W' : World} (g : Grew W W') {p : MemPlace} (h : p.block < W.heap.size) : W.sameAt W' p := by
 cases p with
 | cell b off =>
  show W'.cell? _ = W.cell? _
  unfold World.cell?
  rw [g.heap b h]
 | map b => exact g.heap b h

theorem shut_args {W' : World} (hl : laidOutB P = true) (hm : mapsRowed P = true) (hz : noEmptyB P = true) (g : Grew W W') {sp : Nat → Bool} : ∀ {ts : List TypeId} {vs : List Value} {ds : List (DataW H)} {ps : List MemPlace},
  (ts.all fun t => decide (t < P.types.size)) = true → DataW.TrodAll enc P W 0 (fun _ => true) true ts vs ds ps → (∀ p ∈ ps, p.block < W.heap.size) → (∀ p ∈ ps, sp p.block = true) → DataW.TrodAll enc P W' 0 sp true ts vs ds ps
 | [], [], [], _, _, h, _, _ => h
 | t :: ts, v :: vs, d :: ds, ps, ht, h, hb, hs => by
  obtain ⟨p, q, ⟨fuel, h1⟩, h2, rfl⟩ := h
  simp only [List.all_cons, Bool.and_eq_true, decide_eq_true_eq] at ht
  refine ⟨p, q, ⟨fuel, ?_⟩, shut_args hl hm hz g ht.2 h2 (fun r hr => hb r (by simp [hr])) (fun r hr => hs r (by simp [hr])), rfl⟩
  refine DataW.trod_stays (T := (· < P.types.size)) (kids_rows hl hm) (fun {t e} h3 h4 => ?_) (fun h => by simp at h) ht.1 h1 (fun r hr => same_of g (hb r (by simp; exact .inl hr))) (fun r hr => hs r (by simp; exact .inl hr))
  unfold noEmptyB at hz
  rw [List.all_eq_true] at hz
  have := hz t (by simpa using h3)
  rw [h4] at this
  simpa using this
 | [], _ :: _, _, _, _, h, _, _ => h.elim
 | [], [], _ :: _, _, _, h, _, _ => h.elim
 | _ :: _, [], _, _, _, h, _, _ => h.elim
 | _ :: _, _ :: _, [], _, _, h, _, _ => h.elim

theorem kept_of {W' : World} (g : Grew W W') (may : MemPlace → Prop) : W.keptBut W' may := by
 refine ⟨g.os, g.output, fun i hi => ?_⟩
 rw [g.heap i hi]
 cases h : W.heap[i]? with
 | none => trivial
 | some o => cases o <;> simp

/-- A LAW's STATEMENT, from a contract of data. -/
theorem law_contract {f : FuncId} {fn : Func} {s : ChangeSpec} {tb : TypeId} (hrt : fn.resultTypes = #[tb]) (htb : P.underlying tb = some .bool) (hvars : s.vars = [])
    (hspec : ∀ (ds : List (DataW H)), ds.length = fn.params.toList.length → s.fn H ds = { results := [.lit (.bool true)], args := ds })
    (hl : laidOutB P = true) (hm : mapsRowed P = true) (hz : noEmptyB P = true) (ht : (fn.params.toList.all fun t => decide (t < P.types.size)) = true) (hsh : (fn.params.toList.all fun t => (shT P 9 t).isSome) = true)
    (hcall : ∀ cargs, ArgsFit P fn.params.toList cargs → Pure P f cargs (.bool true))
    (W : World) (base : Nat) (args : Array Value) (ds gs : List (DataW H)) (before : List MemPlace) (hval : ∀ (j : Nat) t v, fn.params[j]? = some t → args[j]? = some v → Value.okWide P W .any base t v)
    (hW : DataW.Whole enc P fn.params.toList s.vars false W args.toList ds gs before) :
    Calls P f args W fun e W' => ∃ v, e = .returned v ∧ s.post enc P fn false true false false W args v W' := by
  have hW' := hW
  obtain ⟨p, q, hA, hV, rfl, hfz, hnd⟩ := hW
  rw [hvars] at hV
  obtain ⟨rfl, rfl⟩ := trodVars_none hV
  obtain ⟨cargs, c1, c2, c3⟩ := open_args hA (fun j t v e1 e2 => ⟨base, hval j t v (by simpa using e1) (by simpa using e2)⟩) hsh
  have hlen : ds.length = fn.params.toList.length := by
    have : ∀ {ts : List TypeId} {vs : List Value} {ds : List (DataW H)} {ps : List MemPlace}, DataW.TrodAll enc P W 0 (fun _ => true) true ts vs ds ps → ds.length = ts.length := by
      intro ts
      induction ts with
      | nil => intro vs ds ps h; cases vs <;> cases ds <;> first | rfl | exact h.elim
      | cons t ts ih =>
        intro vs ds ps h
        cases vs with
        | nil => exact h.elim
        | cons v vs =>
          cases ds with
          | nil => exact h.elim
          | cons d ds =>
            obtain ⟨_, _, _, h2, _⟩ := h
            simp [ih h2]
    exact this hA
  refine ((hcall cargs c1).calls anyG W args ⟨by simpa using c2.symm, fun i c hi => by have := c3 i c hi; simpa using this⟩).mono ?_
  rintro e W' ⟨v, rfl, hr, g⟩
  cases hr
  refine ⟨_, rfl, ds, [], p, [], p, [], ?_, ?_, ?_, ?_, kept_of g _, by simp⟩
  · simpa using hW'
  · rw [hspec (ds ++ []) (by simpa using hlen), hrt]
    refine ⟨[], [], ⟨1, ?_⟩, rfl, rfl⟩
    simp [DataW.trod, htb, Value.cells]
  · rw [hspec (ds ++ []) (by simpa using hlen)]
    simp only [List.append_nil]
    have hlt := hW'.lt
    exact shut_args hl hm hz g ht hA (fun r hr => hlt r (by simpa using hr)) (fun r hr => by simpa using hlt r (by simpa using hr))
  · rw [hvars, hspec (ds ++ []) (by simpa using hlen)]
    rfl
end
end Go.Abs

namespace Go.Proofs.YtknoachjpoibaaaGreat
open Go Go.Abs

set_option maxHeartbeats 2000000
set_option maxRecDepth 100000

-- what comes in

abbrev i64s (n : Nat) : List Sh := List.replicate n (.int .i64)

theorem rows_map {α : Type} {f : α → List C} : ∀ {rows : List (List C)}, (∀ row ∈ rows, ∃ a, row = f a) → ∃ l : List α, rows = l.map f
 | [], _ => ⟨[], rfl⟩
 | r :: rows, h => by
  obtain ⟨a, rfl⟩ := h r (by simp)
  obtain ⟨l, rfl⟩ := rows_map (rows := rows) fun x hx => h x (by simp [hx])
  exact ⟨a :: l, rfl⟩

theorem fit_app {l : List Sh} : ∀ {n : Nat} {m : List C}, FitL (i64s n ++ l) m → ∃ (zs : List Int) (r : List C), zs.length = n ∧ m = zs.map encI ++ r ∧ FitL l r
 | 0, m, h => ⟨[], m, rfl, rfl, by simpa using h⟩
 | n + 1, m, h => by
  simp only [i64s, List.replicate_succ, List.cons_append, FitL, Fit] at h
  obtain ⟨c, r, rfl, ⟨z, rfl, _⟩, h2⟩ := h
  obtain ⟨zs, r', h3, rfl, h4⟩ := fit_app h2
  exact ⟨z :: zs, r', by simp [h3], rfl, h4⟩

theorem fit_flat {n : Nat} {m : List C} (h : FitL (i64s n) m) : ∃ zs : List Int, zs.length = n ∧ m = zs.map encI := by
 have h' : FitL (i64s n ++ []) m := by simpa using h
 obtain ⟨zs, r, h1, h2, h3⟩ := fit_app h'
 simp only [FitL] at h3
 subst h3
 exact ⟨zs, h1, by simpa using h2⟩

theorem fit_sl {s l : List Sh} {m : List C} (h : FitL (.sl s :: l) m) : ∃ (nl : Bool) (rows r : List (List C)) (m' : List C), m = .sl nl false rows :: m' ∧ (∀ row ∈ rows, FitL s row) ∧ FitL l m' := by
 simp only [FitL, Fit] at h
 obtain ⟨c, r, rfl, ⟨nl, rows, rfl, _, _, h5⟩, h6⟩ := h
 exact ⟨nl, rows, [], r, rfl, h5, h6⟩

theorem arg_agg {t : TypeId} {s : List Sh} (hs : shT Tryz.prog 9 t = some s) (ha : isAggT Tryz.prog t = true) {cs : List C} {ts : List TypeId} (h : ArgsFit Tryz.prog (t :: ts) cs) : ∃ (m r : List C), cs = .agg m :: r ∧ FitL s m ∧ ArgsFit Tryz.prog ts r := by
 simp only [ArgsFit] at h
 obtain ⟨shs, m, c, r, rfl, h1, h2, h3, h4⟩ := h
 rw [hs] at h1
 cases h1
 rw [ha, if_pos rfl] at h3
 subst h3
 exact ⟨m, r, rfl, h2, h4⟩

theorem sh28 : shT Tryz.prog 9 28 = some (i64s 11 ++ ([.sl [.int .i64, .sl [.int .i64, .sl (i64s 5)]]] ++ i64s 1)) := by kernel_rfl
theorem ag28 : isAggT Tryz.prog 28 = true := by kernel_rfl
theorem sh47 : shT Tryz.prog 9 47 = some (i64s 4) := by kernel_rfl
theorem ag47 : isAggT Tryz.prog 47 = true := by kernel_rfl
theorem fit_walks {rows : List (List C)} (h : ∀ row ∈ rows, FitL (i64s 5) row) : ∃ l : List Wl, rows = l.map cWl := by
 refine rows_map fun row hr => ?_
 obtain ⟨zs, e1, rfl⟩ := fit_flat (h row hr)
 match zs, e1 with
 | [a, b, c, d, e], _ => exact ⟨⟨a, b, c, d, e⟩, rfl⟩

theorem fit_test {l : List Sh} {m : List C} (h : FitL (.int .i64 :: .sl (i64s 5) :: l) m) : ∃ (y : Ts) (m' : List C), m = cTs y ++ m' ∧ FitL l m' := by
 have h' : FitL (i64s 1 ++ (.sl (i64s 5) :: l)) m := h
 obtain ⟨zs, r, e1, rfl, h2⟩ := fit_app h'
 obtain ⟨nl, rows, _, m', rfl, h3, h4⟩ := fit_sl h2
 obtain ⟨wl, rfl⟩ := fit_walks h3
 match zs, e1 with
 | [a], _ => exact ⟨⟨a, nl, false, wl⟩, m', rfl, h4⟩

theorem fit_visit {l : List Sh} {m : List C} (h : FitL (.int .i64 :: .sl [.int .i64, .sl (i64s 5)] :: l) m) : ∃ (v : Vs) (m' : List C), m = cVs v ++ m' ∧ FitL l m' := by
 have h' : FitL (i64s 1 ++ (.sl [.int .i64, .sl (i64s 5)] :: l)) m := h
 obtain ⟨zs, r, e1, rfl, h2⟩ := fit_app h'
 obtain ⟨nl, rows, _, m', rfl, h3, h4⟩ := fit_sl h2
 obtain ⟨ts, rfl⟩ := rows_map (f := cTs) (rows := rows) fun row hr => by
  obtain ⟨y, m', rfl, h6⟩ := fit_test (l := []) (h3 row hr)
  simp only [FitL] at h6
  subst h6
  exact ⟨y, by simp⟩
 match zs, e1 with
 | [a], _ => exact ⟨⟨a, nl, false, ts⟩, m', rfl, h4⟩

theorem argWear {cs : List C} {ts : List TypeId} (h : ArgsFit Tryz.prog (28 :: ts) cs) : ∃ (w : Ws) (r : List C), cs = encWs w :: r ∧ ArgsFit Tryz.prog ts r := by
 obtain ⟨m, r, rfl, h1, h2⟩ := arg_agg sh28 ag28 h
 obtain ⟨zs, r', e1, rfl, h3⟩ := fit_app h1
 obtain ⟨nl, rows, _, m', rfl, h4, h5⟩ := fit_sl h3
 obtain ⟨ys, e2, rfl⟩ := fit_flat h5
 obtain ⟨l, rfl⟩ := rows_map (f := cVs) (rows := rows) fun row hr => by
  obtain ⟨v, m', rfl, h6⟩ := fit_visit (l := []) (h4 row hr)
  simp only [FitL] at h6
  subst h6
  exact ⟨v, by simp⟩
 match zs, e1, ys, e2 with
 | [a, b, c, d, e, f, g, i, j, k, n], _, [o], _ => exact ⟨⟨⟨a, b, c, d, e, f, g, i⟩, j, k, n, nl, false, l, o⟩, r, rfl, h2⟩

theorem argAsk {cs : List C} {ts : List TypeId} (h : ArgsFit Tryz.prog (47 :: ts) cs) : ∃ (x : As) (r : List C), cs = encAs x :: r ∧ ArgsFit Tryz.prog ts r := by
 obtain ⟨m, r, rfl, h1, h2⟩ := arg_agg sh47 ag47 h
 obtain ⟨zs, e1, rfl⟩ := fit_flat h1
 match zs, e1 with
 | [a, b, c, d], _ => exact ⟨⟨a, b, c, d⟩, r, rfl, h2⟩
theorem arg_end {cs : List C} (h : ArgsFit Tryz.prog [] cs) : cs = [] := h

end Go.Proofs.YtknoachjpoibaaaGreat

/- The facts of the program that every statement's join asks. No condition. -/
namespace Go.Proofs.YtknoachjpoibaaaGreat
open Go Go.Abs
open Go.ChangeShapes Go.WideShapes Go.ChangeAt Go.RowKit

theorem J.own : ownKnob Tryz.prog.godebug = none := by kernel_rfl
theorem J.laid : laidOutB Tryz.prog = true := by kernel_rfl
theorem J.maps : mapsRowed Tryz.prog = true := by kernel_rfl
theorem J.sized : noEmptyB Tryz.prog = true := by kernel_rfl
theorem J.ub : Tryz.prog.underlying 4 = some .bool := by kernel_rfl
end Go.Proofs.YtknoachjpoibaaaGreat

namespace Go.Proofs.YtknoachjpoibaaaGreat
open Go Go.Abs

set_option maxHeartbeats 4000000

-- plain laws of the day to come back; Beyond

theorem openW_true' {w : Ws} (h1 : checkW w = 0) (h3 : canC (co w (gl w)) [] = true) : openW w true = 0 := by
 unfold openW; rw [if_neg (by simpa using h1), if_neg (by simp), if_neg (by rw [h3]; simp)]

set_option maxHeartbeats 16000000

-- THE THEOREM THAT IT ONLY WEARS


theorem tru_drop {c : Co} {p : Nat → Int} (h : Tru c p) {a b : Nat} (hab : a ≤ b) (hb : b ≤ c.last.toNat) : 0 ≤ p a - p b ∧ p a - p b ≤ c.drop * ((b : Int) - a) := by
  induction b with
  | zero => obtain rfl : a = 0 := by omega
            simp
  | succ b ih =>
    by_cases e : a = b + 1
    · subst e; simp
    · have h1 := ih (by omega) (by omega)
      have h2 := h.1.2 b (by omega)
      have h3 : c.drop * (((b + 1 : Nat) : Int) - a) = c.drop * ((b : Int) - a) + c.drop := by
        rw [show ((b + 1 : Nat) : Int) - a = ((b : Int) - a) + 1 by omega, Int.mul_add, Int.mul_one]
      rw [h3]; omega

/-- What a fold of drifts keeps. -/
theorem drift_fold (P : Int → Prop) : ∀ (L : List Int) (f : Int → Int) (s : Int × Int), ((s = (-1, 0)) ∨ (0 ≤ s.1 ∧ P s.1 ∧ P s.2 ∧ s.1 ≤ s.2)) → (∀ z ∈ L, 0 ≤ f z ∧ P (f z)) → P 0 →
    ((L = [] ∧ L.foldl (fun s z => driftS s (f z)) s = s) ∨ (0 ≤ (L.foldl (fun s z => driftS s (f z)) s).1 ∧ P (L.foldl (fun s z => driftS s (f z)) s).1 ∧ P (L.foldl (fun s z => driftS s (f z)) s).2 ∧ (L.foldl (fun s z => driftS s (f z)) s).1 ≤ (L.foldl (fun s z => driftS s (f z)) s).2))
  | [], f, s, _, _, _ => .inl ⟨rfl, rfl⟩
  | a :: L, f, s, hs, hL, h0 => by
    right
    have ha := hL a (by simp)
    have hs' : 0 ≤ (driftS s (f a)).1 ∧ P (driftS s (f a)).1 ∧ P (driftS s (f a)).2 ∧ (driftS s (f a)).1 ≤ (driftS s (f a)).2 := by
      rcases hs with rfl | ⟨h1, h2, h3, h4⟩
      · unfold driftS
        simp only
        refine ⟨by rw [if_pos (.inl (by omega))]; exact ha.1, by rw [if_pos (.inl (by omega))]; exact ha.2, ?_, ?_⟩
        · split
          · exact ha.2
          · exact h0
        · rw [if_pos (.inl (by omega))]
          split <;> omega
      · unfold driftS
        refine ⟨?_, ?_, ?_, ?_⟩
        · simp only; split <;> omega
        · simp only; split
          · exact ha.2
          · exact h2
        · simp only; split
          · exact ha.2
          · exact h3
        · simp only
          split <;> split <;> omega
    simp only [List.foldl_cons]
    rcases drift_fold P L f (driftS s (f a)) (.inr hs') (fun z hz => hL z (by simp [hz])) h0 with ⟨e, h⟩ | h
    · rw [h]; exact hs'
    · exact h

theorem drift_all (P : Int → Prop) (c : Co) (a b : Int) (h0 : P 0) : ∀ (L : List Int) (s : Int × Int), ((s = (-1, 0)) ∨ (0 ≤ s.1 ∧ P s.1 ∧ P s.2 ∧ s.1 ≤ s.2)) → (∀ g ∈ L, onC c b [(a, g)] ≠ [] ∧ ∀ z ∈ onC c b [(a, g)], 0 ≤ g - z ∧ P (g - z)) →
  ((L = [] ∧ L.foldl (fun s g => driftIn c a b g s) s = s) ∨ (0 ≤ (L.foldl (fun s g => driftIn c a b g s) s).1 ∧ P (L.foldl (fun s g => driftIn c a b g s) s).1 ∧ P (L.foldl (fun s g => driftIn c a b g s) s).2 ∧ (L.foldl (fun s g => driftIn c a b g s) s).1 ≤ (L.foldl (fun s g => driftIn c a b g s) s).2))
 | [], s, _, _ => .inl ⟨rfl, rfl⟩
 | g :: L, s, hs, hL => by
  right
  have hg := hL g (by simp)
  have h1 := drift_fold P (onC c b [(a, g)]) (fun z => g - z) s hs hg.2 h0
  have hs' : 0 ≤ (driftIn c a b g s).1 ∧ P (driftIn c a b g s).1 ∧ P (driftIn c a b g s).2 ∧ (driftIn c a b g s).1 ≤ (driftIn c a b g s).2 := by
   rcases h1 with ⟨e, _⟩ | h1
   ·exact absurd e hg.1
   ·exact h1
  simp only [List.foldl_cons]
  rcases drift_all P c a b h0 L (driftIn c a b g s) (.inr hs') (fun z hz => hL z (by simp [hz])) with ⟨_, h⟩ | h
  ·rw [h]; exact hs'
  ·exact h

set_option maxHeartbeats 8000000

-- Errs

theorem on_ne_nil' {c : Co} (h : canC c [] = true) {d : Nat} (hd : d ≤ c.last.toNat) : onC c d [] ≠ [] := by
 obtain ⟨p, hp⟩ := (can_nil c).1 h
 exact List.ne_nil_of_mem ((on_nil c d hd (p d)).2 ⟨p, hp, rfl⟩)

set_option maxHeartbeats 8000000

-- Real

set_option maxHeartbeats 16000000
set_option maxRecDepth 20000

-- THE THEOREM OF THE BLAME


set_option maxHeartbeats 8000000

-- Strange and Real

theorem str70 (w : Ws) (G : List (Int × List Int)) (nl : Bool) (M : List (Int × Int)) (v : Vs) (g : Int) (hw : WsNum w G) : Pure Tryz.prog 70 [encI g, .ip (cCd w G nl M) 0, .ip (cVs v) 0] (.bool (canC (co w G) [(v.day, g)])) := by
 have h := can71 w G false nl [(v.day, g)] M hw
 have hob : rowsK [(v.day, g)] = [[encI v.day, encI g]] := rfl
 rw [hob] at h
 refine ZF (fn := Tryz.f70) [.tmp 4] ⟨Tryz.func70, rfl, by kernel_rfl⟩ fun x hx hσ => ?_
 (repeat refine ZQ ?_); refine ZR fun K hK => ?_; simp (maxSteps := 1000000); refine hK _ ?_; clear hK K
 (repeat refine ZQ ?_); refine ZR fun K hK => ?_; simp (maxSteps := 1000000) [ty89, ty87, ty53, ty3, keyQ, findC]
 refine callL h (by simp [viewL, mapO, viewC, C.isPure, purel]) (.inr rfl) ?_
 simp [ty4]
 refine hK _ ?_; clear hK K
 (repeat refine ZQ ?_); refine awp_ret ?_; refine And.intro (Or.inr rfl) ?_
 simp [retC, resC, viewC, mapO]

/-- Whether a visit is right in no truth. -/
def strW (w : Ws) (i : Nat) : Bool := match w.vs[i]? with
  | some v => !(numsT Tr.area (tiV w v) true).any fun g => canC (co w (gl w)) [(v.day, g)]
  | none => false
def strangeW (w : Ws) : List Int := if openW w true = 0 then fixTo (strW w) w.vs.length else []

theorem strW_at {w : Ws} {i : Nat} (h : i < w.vs.length) : strW w i = !(numsT Tr.area (tiV w w.vs[i]) true).any fun g => canC (co w (gl w)) [(w.vs[i].day, g)] := by
 unfold strW; rw [List.getElem?_eq_getElem h]

theorem gl_find {w : Ws} (h : WsOk w) {i : Nat} (hi : i < w.vs.length) : (gl w).find? (fun p => p.1 == w.vs[i].day) = some (glV w w.vs[i]) := by
 cases hf : (gl w).find? (fun p => p.1 == w.vs[i].day) with
 | none =>
  rw [List.find?_eq_none] at hf
  exact absurd (by simp [glV]) (hf (glV w w.vs[i]) (List.mem_map.2 ⟨_, List.getElem_mem hi, rfl⟩))
 | some p =>
  have hm := List.mem_of_find?_eq_some hf
  have he := List.find?_some hf
  obtain ⟨v, hv, rfl⟩ := List.mem_map.1 hm
  obtain ⟨n, hn, rfl⟩ := List.getElem_of_mem hv
  simp only [glV, beq_iff_eq] at he
  by_cases h1 : n < i
  ·have := h.lt h1 hi; omega
  ·by_cases h2 : i < n
   ·have := h.lt h2 hn; omega
   ·obtain rfl : n = i := by omega
    rfl

theorem gl_findC {w : Ws} (h : WsOk w) {i : Nat} (hi : i < w.vs.length) : ∃ j, findC .int (encI w.vs[i].day) (rowsG (gl w)) 0 = some (some (j, slI (numsT Tr.area (tiV w w.vs[i]) true))) := by
 rcases findF slG w.vs[i].day (gl w) 0 with ⟨j, p, h1, h2⟩ | ⟨h1, _⟩
 ·rw [gl_find h hi] at h1
  cases h1
  exact ⟨j, h2⟩
 ·rw [gl_find h hi] at h1; cases h1

theorem w_strange28 (w : Ws) (hn : WsLen w) : Pure Tryz.prog 28 [encWs w] (.tup [.sl (strangeW w).isEmpty (openW w true != 0) ((strangeW w).map cI), encI (openW w true)]) := by
 by_cases hz : openW w true = 0
 ·obtain ⟨hok, his, hcan⟩ := openW_ok hz
  have hop := open_yes hn hz
  have hnum := hok.num
  have hl6 := hok.len
  have hT : strangeW w = fixTo (strW w) w.vs.length := if_pos hz
  obtain ⟨A, hA⟩ : ∃ A : Nat → List Int, ∀ i, A i = fixTo (strW w) i := ⟨_, fun _ => rfl⟩
  have hA0 : A 0 = [] := hA 0
  have hAl : ∀ i, (A i).length ≤ i := fun i => by rw [hA]; exact fixTo_len _ _
  have hAs : ∀ i : Nat, A (i + 1) = if strW w i then A i ++ [(i : Int)] else A i := fun i => by rw [hA, hA]; rfl
  rw [hT, hz, ← hA]
  clear hA hT
  refine ZF (fn := Tryz.f28) [.tmp 2, .tmp 3] ⟨Tryz.func28, rfl, by kernel_rfl⟩ fun x hx hσ => ?_
  (repeat refine ZQ ?_); refine ZR fun K hK => ?_; simp (maxSteps := 1000000) [ty28, ty37, ty29]; refine hK _ ?_; clear hK K
  (repeat refine ZQ ?_); refine ZR fun K hK => ?_; simp (maxSteps := 1000000) [ty28, ty3]
  refine ZP (hop) ?_; simp (maxSteps := 1000000) [ty89]
  refine hK _ ?_; clear hK K
  (repeat refine ZQ ?_); refine ZR fun K hK => ?_; simp (maxSteps := 1000000) [ty37]; refine hK _ ?_; clear hK K
  (repeat refine ZQ ?_); refine ZC (fun hd => ?_) (fun hd => ?_)
  ·simp at hd
  ·clear hd
   refine awp_skip ?_
   (repeat refine ZQ ?_); refine ZR fun K hK => ?_; simp (maxSteps := 1000000) [ty29]; refine hK _ ?_; clear hK K
   (repeat refine ZQ ?_); refine ZR fun K hK => ?_; simp (maxSteps := 1000000) [ty28, ty26]; refine hK _ ?_; clear hK K
   (repeat refine ZQ ?_); refine awp_block ?_
   refine AWP.weak ?_ (wk_nil 6 6 1 (fu := true) (by simp) (by simp))
   refine awp_loop (fun i : Nat => ⟨ofL [(1, .ptr 1 13 0 0), (4, .ptr 4 15 0 0), (6, .own 6 1 0 (A i).length), (19, sVs w.nl w.fu w.vs), (20, encI w.vs.length), (21, encI i)], stoT [(1, 1, .live (obWs w)), (4, 4, .live (obCd w (gl w) true [])), (6, 6, .live ⟨(A i).isEmpty, false, 1, (A i).map cI⟩)]⟩)
    (fun i => i ≤ w.vs.length) (fun i => w.vs.length - i) 0 (Nat.zero_le _) ?_ ?_
   ·rw [hA0]
    exact ZW
   ·intro i hi
    have hl := hAl i
    have hst := hAs i
    have hwi : IntKind.i64.wrap ((i : Int) + 1) = ((i + 1 : Nat) : Int) := by rw [wrap_id (by omega) (by omega)]; rfl
    generalize hacc : A i = acc at *
    (repeat refine ZQ ?_); refine ZR fun K hK => ?_; simp (maxSteps := 1000000) [ty3]; refine hK _ ?_; clear hK K
    (repeat refine ZQ ?_); refine ZC (fun hc1 => ?_) (fun hc1 => ?_)
    ·simp at hc1
     obtain ⟨j, hfd⟩ := gl_findC hok hc1
     simp only [encI] at hfd
     have hsw := strW_at hc1
     have hln := numsT_len Tr.area (tiV w w.vs[i]) true
     generalize numsT Tr.area (tiV w w.vs[i]) true = U at *
     simp only [slI] at hfd
     have hcl := contains58 U.isEmpty U.isEmpty U 70 [.ip (cCd w (gl w) true []) 0, .ip (cVs w.vs[i]) 0] (fun g => canC (co w (gl w)) [(w.vs[i].day, g)]) (by simp [purel, C.isPure]) (by omega) (fun g _ => str70 w (gl w) true [] w.vs[i] g hnum)
     generalize (U.any fun g => canC (co w (gl w)) [(w.vs[i].day, g)]) = b at *
     rw [hsw] at hst
     refine awp_skip ?_
     (repeat refine ZQ ?_); refine awp_block ?_
     (repeat refine ZQ ?_); refine ZR fun K hK => ?_; simp (maxSteps := 1000000) [ty26, ty53, ty3, hc1]; refine hK _ ?_; clear hK K
     (repeat refine ZQ ?_); refine ZR fun K hK => ?_; simp (maxSteps := 1000000) [ty81]; refine hK _ ?_; clear hK K; (first | show AWP _ _ _ _ _ | show ∃ _, _ | skip)
     cases b
     ·simp at hst
      (repeat refine ZQ ?_); refine ZR fun K hK => ?_; simp (maxSteps := 1000000) [ty89, ty85, ty29, ty53, ty3, keyQ, hfd]
      refine callL hcl (by simp [viewL, mapO, viewC, C.isPure, purel]) (.inr rfl) ?_
      simp [ty4]
      refine hK _ ?_; clear hK K
      (repeat refine ZQ ?_); refine ZC (fun hd => ?_) (fun hd => ?_)
      ·clear hd
       (repeat refine ZQ ?_); refine ZR fun K hK => ?_; simp (maxSteps := 1000000) [ty29, ty3]
       refine ⟨by omega, ?_⟩
       refine hK _ ?_; clear hK K
       (repeat refine ZQ ?_); refine ZR fun K hK => ?_; simp (maxSteps := 1000000) [ty3]; refine hK _ ?_; clear hK K; (first | show AWP _ _ _ _ _ | show ∃ _, _ | skip)
       refine ⟨i + 1, by omega, by omega, ?_⟩
       rw [hwi]
       refine wk_shape (T := [(1, 1, .live (obWs w)), (4, 4, .live (obCd w (gl w) true [])), (6, 38, .live ⟨(A (i + 1)).isEmpty, false, 1, (A (i + 1)).map cI⟩)]) (shp0 hσ (by simp) (by simp) ?_) ?_
       ·simp [SlotOk, hst]
        exact ⟨.same (by simp [purel, C.isPure]), .same (by simp [purel, C.isPure]), .same (by simp [purel, C.isPure])⟩
       ·simp [mtc, mtl, mT, C.isPure, purel, hst]
      ·simp at hd
     ·simp at hst
      (repeat refine ZQ ?_); refine ZR fun K hK => ?_; simp (maxSteps := 1000000) [ty89, ty85, ty29, ty53, ty3, keyQ, hfd]
      refine callL hcl (by simp [viewL, mapO, viewC, C.isPure, purel]) (.inr rfl) ?_
      simp [ty4]
      refine hK _ ?_; clear hK K
      (repeat refine ZQ ?_); refine ZC (fun hd => ?_) (fun hd => ?_)
      ·simp at hd
      ·clear hd
       refine awp_skip ?_
       (repeat refine ZQ ?_); refine ZR fun K hK => ?_; simp (maxSteps := 1000000) [ty3]; refine hK _ ?_; clear hK K; (first | show AWP _ _ _ _ _ | show ∃ _, _ | skip)
       refine ⟨i + 1, by omega, by omega, ?_⟩
       rw [hst, hwi]
       exact ZW
    ·simp at hc1
     (repeat refine ZQ ?_); refine awp_exit ?_; (first | show AWP _ _ _ _ _ | show ∃ _, _ | skip)
     have hiN : i = w.vs.length := by omega
     subst hiN
     rw [hacc]
     (repeat refine ZQ ?_); refine ZR fun K hK => ?_; simp (maxSteps := 1000000) [ty29, ty37]; refine hK _ ?_; clear hK K
     (repeat refine ZQ ?_); refine awp_ret ?_; refine And.intro (Or.inr rfl) ?_
     simp [retC, resC, viewC, mapO, purel, C.isPure]
 ·have hop := open_no hn hz
  have hT : strangeW w = [] := if_neg hz
  refine ZF (fn := Tryz.f28) [.tmp 2, .tmp 3] ⟨Tryz.func28, rfl, by kernel_rfl⟩ fun x hx hσ => ?_
  (repeat refine ZQ ?_); refine ZR fun K hK => ?_; simp (maxSteps := 1000000) [ty28, ty37, ty29]; refine hK _ ?_; clear hK K
  (repeat refine ZQ ?_); refine ZR fun K hK => ?_; simp (maxSteps := 1000000) [ty28, ty3]
  refine ZP (hop) ?_; simp (maxSteps := 1000000) [ty89]
  refine hK _ ?_; clear hK K
  (repeat refine ZQ ?_); refine ZR fun K hK => ?_; simp (maxSteps := 1000000) [ty37]; refine hK _ ?_; clear hK K
  (repeat refine ZQ ?_); refine ZC (hc := by simp [hz]; rfl) (fun hd => ?_) (fun hd => ?_)
  ·clear hd
   (repeat refine ZQ ?_); refine ZR fun K hK => ?_; simp (maxSteps := 1000000) [ty37, ty29]; refine hK _ ?_; clear hK K
   (repeat refine ZQ ?_); refine awp_ret ?_; refine And.intro (Or.inr rfl) ?_
   simp [retC, resC, viewC, mapO, hT, hz]
  ·simp [hz] at hd

set_option maxHeartbeats 16000000
set_option maxRecDepth 20000

-- THE THEOREM OF EACH TRUTH


theorem driftS_in {s : Int × Int} {n : Int} (hn : 0 ≤ n) : (0 ≤ (driftS s n).1) ∧ (driftS s n).1 ≤ n ∧ n ≤ (driftS s n).2 ∧ s.2 ≤ (driftS s n).2 ∧ (0 ≤ s.1 → (driftS s n).1 ≤ s.1) := by
 unfold driftS
 refine ⟨?_, ?_, ?_, ?_, ?_⟩
 ·simp only; split <;> omega
 ·simp only; split <;> omega
 ·simp only; split <;> omega
 ·simp only; split <;> omega
 ·intro h; simp only; split <;> omega

theorem drift_in1 : ∀ (L : List Int) (f : Int → Int) (s : Int × Int), (∀ z ∈ L, 0 ≤ f z) →
  (0 ≤ s.1 → 0 ≤ (L.foldl (fun s z => driftS s (f z)) s).1 ∧ (L.foldl (fun s z => driftS s (f z)) s).1 ≤ s.1) ∧ s.2 ≤ (L.foldl (fun s z => driftS s (f z)) s).2 ∧ ∀ z ∈ L, 0 ≤ (L.foldl (fun s z => driftS s (f z)) s).1 ∧ (L.foldl (fun s z => driftS s (f z)) s).1 ≤ f z ∧ f z ≤ (L.foldl (fun s z => driftS s (f z)) s).2
 | [], f, s, _ => ⟨fun h => ⟨h, Int.le_refl _⟩, Int.le_refl _, by simp⟩
 | a :: L, f, s, h => by
  have ha := driftS_in (s := s) (h a (by simp))
  have ih := drift_in1 L f (driftS s (f a)) fun z hz => h z (by simp [hz])
  simp only [List.foldl_cons]
  have h1 := ih.1 ha.1
  refine ⟨fun hs => ⟨h1.1, Int.le_trans h1.2 (ha.2.2.2.2 hs)⟩, Int.le_trans ha.2.2.2.1 ih.2.1, fun z hz => ?_⟩
  rcases List.mem_cons.1 hz with rfl | hz
  ·exact ⟨h1.1, Int.le_trans h1.2 ha.2.1, Int.le_trans ha.2.2.1 ih.2.1⟩
  ·exact ih.2.2 z hz

theorem drift_in2 (c : Co) (a b : Int) : ∀ (L : List Int) (s : Int × Int), (∀ g ∈ L, onC c b [(a, g)] ≠ [] ∧ ∀ z ∈ onC c b [(a, g)], 0 ≤ g - z) →
  (0 ≤ s.1 → 0 ≤ (L.foldl (fun s g => driftIn c a b g s) s).1 ∧ (L.foldl (fun s g => driftIn c a b g s) s).1 ≤ s.1) ∧ s.2 ≤ (L.foldl (fun s g => driftIn c a b g s) s).2 ∧ ∀ g ∈ L, ∀ z ∈ onC c b [(a, g)], (L.foldl (fun s g => driftIn c a b g s) s).1 ≤ g - z ∧ g - z ≤ (L.foldl (fun s g => driftIn c a b g s) s).2
 | [], s, _ => ⟨fun h => ⟨h, Int.le_refl _⟩, Int.le_refl _, by simp⟩
 | g :: L, s, h => by
  have hg := h g (by simp)
  have h1 : (0 ≤ s.1 → 0 ≤ (driftIn c a b g s).1 ∧ (driftIn c a b g s).1 ≤ s.1) ∧ s.2 ≤ (driftIn c a b g s).2 ∧ ∀ z ∈ onC c b [(a, g)], 0 ≤ (driftIn c a b g s).1 ∧ (driftIn c a b g s).1 ≤ g - z ∧ g - z ≤ (driftIn c a b g s).2 := drift_in1 (onC c b [(a, g)]) (fun z => g - z) s hg.2
  have ih := drift_in2 c a b L (driftIn c a b g s) fun z hz => h z (by simp [hz])
  obtain ⟨z0, hz0⟩ := List.exists_mem_of_ne_nil _ hg.1
  have h2 := ih.1 (h1.2.2 z0 hz0).1
  simp only [List.foldl_cons]
  refine ⟨fun hs => ⟨h2.1, Int.le_trans h2.2 (h1.1 hs).2⟩, Int.le_trans h1.2.1 ih.2.1, fun y hy z hz => ?_⟩
  rcases List.mem_cons.1 hy with rfl | hy
  ·have := h1.2.2 z hz
   exact ⟨Int.le_trans h2.2 this.2.1, Int.le_trans this.2.2 ih.2.1⟩
  ·exact ih.2.2 y hy z hz

theorem drift_has {c : Co} {p : Nat → Int} (hp : Tru c p) {a b : Nat} (hab : a ≤ b) (hb : b ≤ c.last.toNat) : (driftL c a b).1 ≤ p a - p b ∧ p a - p b ≤ (driftL c a b).2 := by
 have ha : a ≤ c.last.toNat := by omega
 have hm : p a ∈ onC c a [] := (on_nil c a ha _).2 ⟨p, hp, rfl⟩
 have hz : p b ∈ onC c b [((a : Int), p a)] := (on_one c a b _ ha hb _).2 ⟨p, hp, rfl, rfl⟩
 refine (drift_in2 c a b (onC c a []) (-1, 0) fun g hg => ⟨on_ne_one hg ha hb, fun z hz => ?_⟩).2.2 _ hm _ hz
 obtain ⟨q, hq, e1, e2⟩ := (on_one c a b g ha hb z).1 hz
 have := tru_drop hq hab hb
 rw [e1, e2] at this
 exact this.1

set_option maxHeartbeats 8000000

theorem checksI_copy (w : Wh) : ∀ l : List Ts, checksI w (l.map copyY) = checksI w l
 | [] => rfl
 | y :: l => by
  have ih := checksI_copy w l
  simp only [List.map_cons, checksI, ih]
  rfl
theorem copy_check (t : Ti) : checkT (copyT t) = checkT t := by
 unfold checkT
 have e1 : (copyT t).ts = t.ts.map copyY := rfl
 have e2 : (copyT t).w = t.w := rfl
 have e3 : (copyT t).gain = t.gain := rfl
 rw [e1, e2, e3, List.length_map, List.all_map, checksI_copy]
 have e4 : ((fun x : Ts => areaB x.area) ∘ copyY) = fun x => areaB x.area := rfl
 have e5 : (t.ts.map copyY = []) = (t.ts = []) := by simp
 simp only [e4, e5]
theorem copy_okS (t : Ti) (n : Nat) (k : Tr) : okS (copyT t) n k = okS t n k := by
 unfold okS
 have e1 : (copyT t).ts = t.ts.map copyY := rfl
 rw [e1, List.length_map]
 congr 1
 funext i
 rw [List.getElem?_map]
 cases t.ts[i]? <;> rfl
theorem copy_truths (t : Ti) (n : Nat) : truthsS (copyT t) n = truthsS t n := by
 unfold truthsS
 have : okS (copyT t) n = okS t n := by funext k; exact copy_okS t n k
 rw [this]
 rfl
theorem copy_allS (t : Ti) : allS (copyT t) = allS t := by
 unfold allS
 have e1 : (copyT t).ts = t.ts.map copyY := rfl
 rw [e1, List.length_map]
theorem copy_openT (t : Ti) (is : Bool) : openT (copyT t) is = openT t is := by unfold openT; rw [copy_check, copy_allS, copy_truths]
theorem copy_nums (f : Tr → Int) (t : Ti) (is : Bool) : numsT f (copyT t) is = numsT f t is := by unfold numsT; rw [copy_openT, copy_allS, copy_truths]
theorem copy_len {t : Ti} (h : TiLen t) : TiLen (copyT t) := by
 have e1 : (copyT t).ts = t.ts.map copyY := rfl
 refine ⟨by rw [e1, List.length_map]; exact h.ts, fun y hy => ?_⟩
 rw [e1] at hy
 obtain ⟨z, hz, rfl⟩ := List.mem_map.1 hy
 exact h.l z hz

set_option maxHeartbeats 8000000

-- a copy of an instrument

def copyV (v : Vs) : Vs := ⟨v.day, v.ts.isEmpty, false, v.ts.map copyY⟩
def copyW (w : Ws) : Ws := { w with nl := w.vs.isEmpty, fu := false, vs := w.vs.map copyV }

@[simp] abbrev cWo (w : Ws) (c : C) : List C := [encI w.w.full, encI w.w.read, encI w.w.slip, encI w.w.skew, encI w.w.circle, encI w.w.glow, encI w.w.ghigh, encI w.w.wrong, encI w.gain, encI w.last, encI w.drop, c, encI w.wrong]
@[simp] abbrev zWs : List C := [encI 0, encI 0, encI 0, encI 0, encI 0, encI 0, encI 0, encI 0, encI 0, encI 0, encI 0, .sl true true [], encI 0]

theorem q_copy23 (w : Ws) (hn : WsLen w) : Pure Tryz.prog 23 [encWs w] (encWs (copyW w)) := by
 have hlt := hn.vs
 obtain ⟨U, hU⟩ : ∃ U : Nat → List Vs, ∀ i, U i = (w.vs.take i).map copyV := ⟨_, fun _ => rfl⟩
 have hU0 : U 0 = [] := by rw [hU]; rfl
 have hUl : ∀ i, i ≤ w.vs.length → (U i).length = i := fun i hi => by rw [hU]; simp; omega
 have hUs : ∀ i (hi : i < w.vs.length), U (i + 1) = U i ++ [copyV w.vs[i]] := fun i hi => by rw [hU, hU, List.take_succ_eq_append_getElem hi, List.map_append]; rfl
 have hUn : w.vs.map copyV = U w.vs.length := by rw [hU, List.take_length]
 unfold copyW
 rw [hUn]
 clear hUn hU
 refine ZF (fn := Tryz.f23) [.cell 2 28] ⟨Tryz.func23, rfl, by kernel_rfl⟩ fun x hx hσ => ?_
 (repeat refine ZQ ?_); refine ZR fun K hK => ?_; simp (maxSteps := 1000000) [ty28]; refine hK _ ?_; clear hK K
 (repeat refine ZQ ?_); refine ZR fun K hK => ?_; simp (maxSteps := 1000000) [ty28]; refine hK _ ?_; clear hK K
 (repeat refine ZQ ?_); refine ZR fun K hK => ?_; simp (maxSteps := 1000000) [ty28, ty26]; refine hK _ ?_; clear hK K
 (repeat refine ZQ ?_); refine ZR fun K hK => ?_; simp (maxSteps := 1000000) [ty3]; refine hK _ ?_; clear hK K
 (repeat refine ZQ ?_); refine awp_block ?_
 refine AWP.weak ?_ (wk_nilCell 3 0 11 1000 2 (o := ⟨false, false, 13, [cWo w (.sl true true [])]⟩) (row := cWo w (.sl true true [])) (fu := true) (by simp) rfl rfl rfl (by simp) (by decide))
 refine awp_loop (fun i : Nat => ⟨ofL [(1, .ptr 1 13 0 0), (2, .ptr 2 13 0 0), (3, .ptr 3 13 0 0), (4, encI i)],
   stoT [(1, 1, .live (obWs w)), (2, 2, .live ⟨false, false, 13, [zWs]⟩), (3, 3, .live ⟨false, false, 13, [cWo w (.own 1000 2 0 i)]⟩), (1000, 1000, .live ⟨(U i).isEmpty, false, 2, (U i).map cVs⟩)]⟩)
  (fun i => i ≤ w.vs.length) (fun i => w.vs.length - i) 0 (Nat.zero_le _) ?_ ?_
 ·refine wk_shape (shp0 hσ (by simp) (by simp) ?_) ?_
  ·simp [SlotOk, hU0] <;> (repeat' (first | (refine RowsOk.same ?_; simp [purel, C.isPure]; done) | (refine rowsCons ?_; simp [mtl, mtc, mT, mH, C.isPure, purel]; done) | (refine rowsCons ?_; simp [mtl, mtc, mT, mH, C.isPure, purel]) | refine And.intro ?_ ?_))
  ·simp [mtc, mtl, mT, C.isPure, purel, hU0] <;> (try simp (disch := omega) [wrap_id]) <;> (try omega)
 ·intro i hi
  have hUi := hUl i hi
  (repeat refine ZQ ?_); refine ZR fun K hK => ?_; simp (maxSteps := 1000000) [ty28, ty26, ty3]; refine hK _ ?_; clear hK K
  (repeat refine ZQ ?_); refine ZC (fun hc => ?_) (fun hc => ?_)
  ·simp at hc
   refine awp_skip ?_
   (repeat refine ZQ ?_); refine awp_block ?_
   have hst := hUs i hc
   have hln := hn.l _ (List.getElem_mem hc)
   have hcp := q_copy10 (tiV w w.vs[i]) hln
   simp only [copyT] at hcp
   have hcv : copyV w.vs[i] = ⟨w.vs[i].day, w.vs[i].ts.isEmpty, false, w.vs[i].ts.map copyY⟩ := rfl
   rw [hcv] at hst
   generalize hV : U i = V at *
   have hwi : IntKind.i64.wrap ((i : Int) + 1) = ((i + 1 : Nat) : Int) := by rw [wrap_id (by omega) (by omega)]; rfl
   generalize w.vs[i].ts.map copyY = tc at *
   (repeat refine ZQ ?_); refine ZD [] [0, 1, 2, 3, 4, 5, 6, 7, 8, 9, 10, 11, 12, 13, 14, 15, 16, 17, 18, 19, 20, 21, 22] fun K hK => ?_; simp (maxSteps := 1000000) [ty28, ty26, ty3, ty53, ty51, ty62, hc]
   refine ZE (q_trialOf27 w w.vs[i].nl w.vs[i].fu w.vs[i].ts) ?_; simp (maxSteps := 1000000) [ty62]
   refine ZE (hcp) ?_; simp (maxSteps := 1000000) [ty28, ty26, ty3, ty53, ty51, ty62, hc, hUi]
   refine ⟨by omega, ?_⟩
   refine hK _ ?_; clear hK K
   (repeat refine ZQ ?_); refine ZR fun K hK => ?_; simp (maxSteps := 1000000) [ty3]; refine hK _ ?_; clear hK K; (first | show AWP _ _ _ _ _ | show ∃ _, _ | skip)
   refine ⟨i + 1, by omega, by omega, ?_⟩
   rw [hst, hwi]
   refine wk_shape2 [(1, 1, .live (obWs w)), (2, 2, .live ⟨false, false, 13, [zWs]⟩), (3, 3, .live ⟨false, false, 13, [cWo w (.own 1000 2 0 (i + 1))]⟩), (1000, 34, .live ⟨(V ++ [(⟨w.vs[i].day, w.vs[i].ts.isEmpty, false, tc⟩ : Vs)]).isEmpty, false, 2, (V ++ [(⟨w.vs[i].day, w.vs[i].ts.isEmpty, false, tc⟩ : Vs)]).map cVs⟩)] (by first | rfl | (simp only [if_pos, if_true]; rfl)) (shp0 hσ (by simp) (by simp) ?_) ?_
   ·simp [SlotOk] <;> (repeat' (first | (refine RowsOk.same ?_; simp [purel, C.isPure]; done) | (refine rowsCons ?_; simp [mtl, mtc, mT, mH, C.isPure, purel]; done) | (refine rowsCons ?_; simp [mtl, mtc, mT, mH, C.isPure, purel]) | refine And.intro ?_ ?_))
   ·simp [mtc, mtl, mT, C.isPure, purel] <;> (try simp (disch := omega) [wrap_id]) <;> (try omega)
  ·simp at hc
   (repeat refine ZQ ?_); refine awp_exit ?_; (first | show AWP _ _ _ _ _ | show ∃ _, _ | skip)
   have hin : i = w.vs.length := by omega
   rw [hin] at hUi ⊢
   have hem : (U w.vs.length).isEmpty = w.vs.isEmpty := by
    cases h1 : U w.vs.length <;> cases h2 : w.vs <;> rw [h1, h2] at hUi <;> simp at hUi <;> rfl
   generalize U w.vs.length = V at *
   rw [hem]
   refine AWP.weak ?_ (wk_frzCell 1000 3 0 11 (o := ⟨w.vs.isEmpty, false, 2, V.map cVs⟩) (oq := ⟨false, false, 13, [cWo w (.own 1000 2 0 w.vs.length)]⟩) (row := cWo w (.own 1000 2 0 w.vs.length)) (c := .own 1000 2 0 w.vs.length) (c' := .sl w.vs.isEmpty false (V.map cVs)) (by simp) (all_purel_map fun _ => rfl) (by simp) (by decide) rfl rfl rfl (fz_own rfl (by simp [hUi]) (by simp)) rfl)
   (repeat refine ZQ ?_); refine ZR fun K hK => ?_; simp (maxSteps := 1000000) [ty28]; refine hK _ ?_; clear hK K
   (repeat refine ZQ ?_); refine awp_ret ?_; refine And.intro (Or.inr rfl) ?_
   simp [retC, resC, viewC, mapO, ty28]

theorem copyV_ti (w : Ws) (v : Vs) : tiV (copyW w) (copyV v) = copyT (tiV w v) := rfl
theorem copyW_num (w : Ws) (v : Vs) : numsT Tr.area (tiV (copyW w) (copyV v)) true = numsT Tr.area (tiV w v) true := by rw [copyV_ti, copy_nums]
theorem copyW_gl (w : Ws) : gl (copyW w) = gl w := by
 unfold gl copyW
 rw [List.map_map]
 refine List.map_congr_left fun v _ => ?_
 show (v.day, numsT Tr.area (tiV (copyW w) (copyV v)) true) = (v.day, numsT Tr.area (tiV w v) true)
 rw [copyW_num]
theorem copyW_checkT (w : Ws) (v : Vs) : checkT (tiV (copyW w) (copyV v)) = checkT (tiV w v) := by rw [copyV_ti, copy_check]
theorem copyW_checks (w : Ws) : ∀ l : List Vs, checksW (copyW w) (l.map copyV) = checksW w l
 | [] => rfl
 | v :: l => by simp only [List.map_cons, checksW]; rw [copyW_checkT, copyW_checks w l]
theorem copyW_okDay (w : Ws) (i : Nat) : okDay (copyW w) i = okDay w i := by
 unfold okDay copyW
 simp only [List.getElem?_map]
 cases w.vs[i]? with
 | none => rfl
 | some v =>
  cases w.vs[i - 1]? with
  | none => rfl
  | some u => rfl
theorem copyW_check (w : Ws) : checkW (copyW w) = checkW w := by
 have h1 : rangeB (copyW w) = rangeB w := by unfold rangeB copyW; simp
 have h2 : (copyW w).vs.length = w.vs.length := by simp [copyW]
 have h3 : (List.range (copyW w).vs.length).all (okDay (copyW w)) = (List.range w.vs.length).all (okDay w) := by
  rw [h2, show okDay (copyW w) = okDay w from funext fun i => copyW_okDay w i]
 unfold checkW
 rw [h1, h3]
 have h4 : (copyW w).vs = w.vs.map copyV := rfl
 rw [h4, copyW_checks]
 have h5 : (w.vs.map copyV = []) = (w.vs = []) := by simp
 simp only [h5]
 rfl
theorem copyW_co (w : Ws) : co (copyW w) (gl (copyW w)) = co w (gl w) := by rw [copyW_gl]; rfl
theorem copyW_open (w : Ws) (is : Bool) : openW (copyW w) is = openW w is := by unfold openW; rw [copyW_check, copyW_co]
theorem copyW_len {w : Ws} (h : WsLen w) : WsLen (copyW w) := ⟨by simp [copyW]; exact h.vs, fun v hv => by
 obtain ⟨u, hu, rfl⟩ := List.mem_map.1 hv
 rw [copyV_ti]
 exact copy_len (h.l u hu)⟩

set_option maxHeartbeats 8000000

set_option maxHeartbeats 8000000

set_option maxHeartbeats 16000000
set_option maxRecDepth 20000

-- THE THEOREM OF WHAT A VISIT TELLS


end Go.Proofs.YtknoachjpoibaaaGreat

