/- The machine of abstract values and the contracts of the functions of the program, which the statements of this seat share. No condition. -/
import Derived.Test.YtgnpcijgdhjfpaaGreatDoorB3

set_option linter.unusedSimpArgs false
set_option linter.unusedVariables false
set_option linter.constructorNameAsVariable false

namespace Go.Proofs.YtgnpcijgdhjfpaaGreatDoor
open Go Go.Abs

set_option maxHeartbeats 8000000
set_option maxRecDepth 20000


@[simp] abbrev pkO (nl fu : Bool) (L : List (List UInt8)) : Ob := ⟨false, false, 1, [[sT nl fu L]]⟩
@[simp] abbrev vaO (k n : Nat) : Ob := ⟨false, false, 1, [[.own k 1 0 n]]⟩
@[simp] abbrev lsO (X : List (List UInt8)) : Ob := ⟨X.isEmpty, false, 1, X.map cS⟩

theorem take_nn {l : List UInt8} (h : ∀ x ∈ l, 32 ≤ x.toNat) : ∀ i, i ≤ l.length → 0 ≤ sumB (l.take i) 0 := fun i _ => sumB_nn _ _ fun x hx => h x (List.mem_of_mem_take hx)

theorem put56 (b : UInt8) (row : List UInt8) (nl fu : Bool) (L X : List (List UInt8)) (hm : L.length < 10) (hr : row.length ≤ 1000) (hx : X.length ≤ 1000) (hg : ∀ x ∈ headB b L.length row, 32 ≤ x.toNat) :
  EffS Tryz.prog 56 [(1, pkO nl fu L), (4, vaO 1000 X.length), (1000, lsO X)] [.int .u8 (b.toNat : Int), encS row, .ptr 1 1 0 0, .ptr 4 1 0 0] (.tup [])
   [(1, .live (pkO nl fu L)), (4, .live (vaO 1001 (X.length + 1))), (1000, .dead), (1001, .live (lsO (X ++ [cardB b L.length row])))] := by
 have hb : b.toNat < 256 := b.toNat_lt
 have cc := check57 (headB b L.length row) (by simp [headB]; omega) (take_nn hg)
 have a1 := str_add (a := [b, UInt8.ofNat (48 + L.length)]) (b := row) (by simp; omega)
 have a2 := str_add (a := headB b L.length row) (b := checkB (headB b L.length row)) (by simp [headB, checkB, twoB]; omega)
 have hcard : headB b L.length row ++ checkB (headB b L.length row) = cardB b L.length row := rfl
 have hhead : [b, UInt8.ofNat (48 + L.length)] ++ row = headB b L.length row := rfl
 rw [hcard] at a2
 rw [hhead, show UInt8.ofNat (48 + L.length) = 48 + UInt8.ofNat L.length from UInt8.ofNat_add _ _] at a1
 have w2 : IntKind.i64.wrap (48 + (L.length : Int)) = 48 + L.length := wrap_id (by omega) (by omega)
 have w4 : IntKind.u8.wrap (48 + (L.length : Int)) = 48 + L.length := wrap_u8 (by omega) (by omega)
 have b1 : (0 : Int) ≤ b.toNat ∧ (b.toNat : Int) < 256 := by omega
 have b2 : (0 : Int) ≤ 48 + L.length ∧ (48 : Int) + L.length < 256 := by omega
 have c2 : ((48 : Int) + L.length).toNat = 48 + L.length := by omega
 have e1 : UInt8.ofNat b.toNat = b := by simp
 clear hcard hhead hg
 generalize headB b L.length row = hd at *
 generalize checkB hd = ck at *
 generalize cardB b L.length row = card at *
 have hem : (X ++ [card]).isEmpty = false := by cases X <;> rfl
 refine effS_of_body (fn := Tryz.f56) [] ⟨Tryz.func56, rfl, by kernel_rfl⟩ (by kernel_rfl) (by kernel_rfl) (by kernel_rfl) ?_ ?_ (fun x hx hσ => ?_) ?_
 ·simp [wil, C.wi, keysO]
 ·intro q hq
  simp only [List.mem_cons, List.not_mem_nil, or_false] at hq
  rcases hq with rfl | rfl | rfl <;> simp [wil, C.wi, keysO]
 ·rw [show stoO [(1, pkO nl fu L), (4, vaO 1000 X.length), (1000, lsO X)] = stoT [(1, 1, .live (pkO nl fu L)), (4, 4, .live (vaO 1000 X.length)), (1000, 1000, .live (lsO X))] from rfl]
  (repeat refine ZQ ?_); refine ZR fun K hK => ?_; simp (maxSteps := 1000000) [ty68, ty3, ty5, ty62, ty9, w2, w4, b1, b2, c2, e1, a1, -strBin]
  refine hK _ ?_; clear hK K
  (repeat refine ZQ ?_); refine ZD [5006, 11000, 10004, 2007] [0, 1, 2, 3, 4, 5, 6, 7] fun K hK => ?_; simp (maxSteps := 1000000) [ty22, ty9]
  refine ZE (cc) ?_; simp (maxSteps := 1000000) [ty22, ty9, a2, -strBin]
  refine ⟨by omega, ?_⟩
  refine hK _ ?_; clear hK K; (first | show AWP _ _ _ _ _ | show ∃ _, _ | skip)
  refine ⟨.inl rfl, .tup [], [(1, 1, .live (pkO nl fu L)), (4, 4, .live (vaO 1001 (X.length + 1))), (1000, 1000, .dead), (1001, 22, .live (lsO (X ++ [card])))], ?_, shpX hσ (by simp [keysO, mT]) (by simp) (by simp) ?_, ?_, rfl⟩
  ·simp [retC, resC]
  ·simp [SlotOk]
   exact ⟨.same (by simp [purel, C.isPure]), .cons (by simp [mtl, mtc, mT]) (by simp) .nil, .same (by simp [purel, C.isPure])⟩
  ·simp [mtc, mtl, mT, C.isPure, purel]
 ·intro q hq
  simp only [List.mem_cons, List.not_mem_nil, or_false] at hq
  rcases hq with rfl | rfl | rfl | rfl <;> simp

theorem cards36 (nl fu : Bool) (L : List (List UInt8)) (h : PackOk L) : Pure Tryz.prog 36 [sT nl fu L] (.sl false false ((cardsB L).map cS)) := by
 obtain ⟨hw60, hle, hrows⟩ := h.rows
 have hm := h.many
 have c0 := rows55 nl fu L (by omega) hw60 hle
 have hne : L.isEmpty = false := by cases hq : L <;> rw [hq] at hm <;> simp at hm ⊢
 rw [hne] at c0
 have hRl : (rowsB L).length = L.length := by simp [rowsB]
 obtain ⟨B, hB⟩ : ∃ B : Nat → List (List UInt8), ∀ i, B i = cardsTo L i := ⟨_, fun _ => rfl⟩
 have hB0 : B 0 = [] := by rw [hB]; rfl
 have hBl : ∀ i, (B i).length = i := fun i => by rw [hB]; simp [cardsTo]
 have hBs : ∀ i (hi : i < L.length) (hi2 : i < (rowsB L).length), B (i + 1) = B i ++ [cardB (UInt8.ofNat (49 + i)) L.length (rowsB L)[i]] := fun i hi hi2 => by
  rw [hB, hB]
  have e : L.getD i [] = L[i] := by rw [List.getD_eq_getElem?_getD, List.getElem?_eq_getElem hi]; rfl
  simp only [cardsTo, List.range_succ, List.map_append, List.map_cons, List.map_nil, cardAt, e, rowsB, List.getElem_map]
 have hV : cardsB L = B L.length ++ [cardB 97 L.length (sumsB (rowsB L) false), cardB 98 L.length (sumsB (rowsB L) true)] := by rw [hB]; rfl
 rw [hV]
 have hrk : ∀ i (hi : i < (rowsB L).length), (rowsB L)[i].length ≤ 1000 ∧ ∀ x ∈ (rowsB L)[i], 32 ≤ x.toNat := fun i hi => by
  have h1 := hrows.len _ (List.getElem_mem hi)
  have h2 := hrows.wide
  exact ⟨by omega, plain_ge (hrows.val _ (List.getElem_mem hi))⟩
 have hhd : ∀ (b : UInt8) (row : List UInt8), 32 ≤ b.toNat → (∀ x ∈ row, 32 ≤ x.toNat) → ∀ x ∈ headB b L.length row, 32 ≤ x.toNat := fun b row hb hr x hx => by
  simp only [headB, List.mem_append, List.mem_cons, List.not_mem_nil, or_false] at hx
  rcases hx with (rfl | rfl) | hx
  ·exact hb
  ·simp only [UInt8.toNat_ofNat']; omega
  ·exact hr x hx
 have hbn : ∀ i, i < L.length → ((UInt8.ofNat (49 + i)).toNat : Int) = 49 + i := fun i hi => by simp only [UInt8.toNat_ofNat']; omega
 have s1 := q_sums58 false false false 59 (rowsB L) _ hrows (by omega) (fun i _ => once59 i)
 have s2 := q_sums58 false false true 60 (rowsB L) _ hrows (by omega) (fun i hi => place60 i (by omega))
 have hsl := fun wt => sumsTo_len (rowsB L) wt (longB L + 2)
 have hse : ∀ wt, sumsB (rowsB L) wt = sumsTo (rowsB L) wt (longB L + 2) := fun wt => by
  unfold sumsB
  have e : ((rowsB L).headD []).length = longB L + 2 := by
   have hp := hrows.many.1
   have hl := hrows.len
   cases hc : rowsB L with
   | nil => rw [hc] at hp; simp at hp
   | cons a b => rw [hc] at hl; exact hl a (by simp)
  rw [e]
 have hsg : ∀ wt, ∀ x ∈ sumsB (rowsB L) wt, 32 ≤ x.toNat := fun wt x hx => by rw [hse] at hx; have := sums_pl wt _ x hx; omega
 have hsw : ∀ wt, (sumsB (rowsB L) wt).length ≤ 1000 := fun wt => by rw [hse, hsl]; omega
 have p1 := fun X (hx : X.length ≤ 1000) => put56 97 (sumsB (rowsB L) false) nl fu L X (by omega) (hsw false) hx (hhd _ _ (by decide) (hsg false))
 have p2 := fun X (hx : X.length ≤ 1000) => put56 98 (sumsB (rowsB L) true) nl fu L X (by omega) (hsw true) hx (hhd _ _ (by decide) (hsg true))
 have e97 : ((97 : UInt8).toNat : Int) = 97 := rfl
 have e98 : ((98 : UInt8).toNat : Int) = 98 := rfl
 rw [e97] at p1
 rw [e98] at p2
 have pr := fun i (hi : i < L.length) (hi2 : i < (rowsB L).length) X (hx : X.length ≤ 1000) => put56 (UInt8.ofNat (49 + i)) (rowsB L)[i] nl fu L X (by omega) (hrk i hi2).1 hx (hhd _ _ (by simp only [UInt8.toNat_ofNat']; omega) (hrk i hi2).2)
 clear hB hV hrows hsl hse hsg hsw hrk hhd
 generalize sumsB (rowsB L) false = u1 at *
 generalize sumsB (rowsB L) true = u2 at *
 generalize cardB 97 L.length u1 = v1 at *
 generalize cardB 98 L.length u2 = v2 at *
 generalize rowsB L = R at *
 refine ZF (fn := Tryz.f36) [.tmp 2] ⟨Tryz.func36, rfl, by kernel_rfl⟩ fun x hx hσ => ?_
 (repeat refine ZQ ?_); refine ZR fun K hK => ?_; simp (maxSteps := 1000000) [ty68]; refine hK _ ?_; clear hK K
 (repeat refine ZQ ?_); refine ZR fun K hK => ?_; simp (maxSteps := 1000000) [ty68]
 refine ZP (c0) ?_; simp (maxSteps := 1000000) [ty22]
 refine hK _ ?_; clear hK K
 (repeat refine ZQ ?_); refine ZR fun K hK => ?_; simp (maxSteps := 1000000) [ty22]; refine hK _ ?_; clear hK K
 (repeat refine ZQ ?_); refine ZR fun K hK => ?_; simp (maxSteps := 1000000) [ty22]; refine hK _ ?_; clear hK K
 (repeat refine ZQ ?_); refine ZR fun K hK => ?_; simp (maxSteps := 1000000) [ty22]; refine hK _ ?_; clear hK K
 (repeat refine ZQ ?_); refine awp_block ?_
 refine AWP.weak ?_ (wk_nilCell 4 0 0 1000 1 (o := ⟨false, false, 1, [[.sl true true []]]⟩) (row := [.sl true true []]) (fu := true) (by simp) rfl rfl rfl (by simp) (by decide))
 refine awp_loop (fun i : Nat => ⟨ofL [(3, sT false false R), (4, .ptr 4 1 0 0), (5, .fn (.func 56) [] [.ptr 1 1 0 0, .ptr 4 1 0 0]), (11, sT false false R), (12, encI L.length), (13, encI i)],
  stoT [(1, 1, .live (pkO nl fu L)), (4, 4, .live (vaO 1000 i)), (1000, 1000, .live (lsO (B i)))]⟩)
  (fun i => i ≤ L.length) (fun i => L.length - i) 0 (Nat.zero_le _) ?_ ?_
 ·rw [hB0]
  exact ZW
 ·intro i hi
  have hb := hBl i
  (repeat refine ZQ ?_); refine ZR fun K hK => ?_; simp (maxSteps := 1000000) [ty3]; refine hK _ ?_; clear hK K
  (repeat refine ZQ ?_); refine ZC (fun hc => ?_) (fun hc => ?_)
  ·simp at hc
   have hcR : i < R.length := by omega
   have hst := hBs i hc hcR
   have c1 := pr i hc hcR (B i) (by omega)
   rw [hbn i hc, hb] at c1
   have w1 : IntKind.i64.wrap ((i : Int) + 1) = ((i + 1 : Nat) : Int) := by rw [wrap_id (by omega) (by omega)]; rfl
   have w2 : IntKind.i64.wrap (49 + (i : Int)) = 49 + i := wrap_id (by omega) (by omega)
   have w3 : IntKind.u8.wrap (49 + (i : Int)) = 49 + i := wrap_u8 (by omega) (by omega)
   rw [← hst] at c1
   refine awp_skip ?_
   (repeat refine ZQ ?_); refine awp_block ?_
   (repeat refine ZQ ?_); refine ZR fun K hK => ?_; simp (maxSteps := 1000000) [ty22, ty9, ty3, hcR]; refine hK _ ?_; clear hK K
   (repeat refine ZQ ?_); refine ZR fun K hK => ?_; simp (maxSteps := 1000000) [ty9, ty3, ty5, w2, w3]
   refine doesL (c1.does (by intro k hk; simp [keysO] at hk; rcases hk with rfl | rfl | rfl <;> simp [stoT, upd]) (by intro k hk; simp [keysS] at hk; rcases hk with rfl | rfl | rfl | rfl <;> simp [stoT, upd, keysO])) ?_
   simp [updS]
   refine hK _ ?_; clear hK K
   (repeat refine ZQ ?_); refine ZR fun K hK => ?_; simp (maxSteps := 1000000) [ty3, w1]; refine hK _ ?_; clear hK K; (first | show AWP _ _ _ _ _ | show ∃ _, _ | skip)
   refine ⟨i + 1, by omega, by omega, ?_⟩
   refine wk_shape2 [(1, 1, .live (pkO nl fu L)), (4, 4, .live (vaO 1000 (i + 1))), (1000, 1001, .live (lsO (B (i + 1))))] (by first | rfl | (simp only [if_pos, if_true]; rfl)) (shp0 hσ (by simp) (by simp) ?_) ?_
   ·simp [SlotOk] <;> (repeat' (first | (refine RowsOk.same ?_; simp [purel, C.isPure]; done) | (refine rowsCons ?_; simp [mtl, mtc, mT, mH, C.isPure, purel]; done) | (refine rowsCons ?_; simp [mtl, mtc, mT, mH, C.isPure, purel]) | refine And.intro ?_ ?_))
   ·simp [mtc, mtl, mT, C.isPure, purel] <;> (try simp (disch := omega) [wrap_id]) <;> (try omega)
  ·simp at hc
   (repeat refine ZQ ?_); refine awp_exit ?_; (first | show AWP _ _ _ _ _ | show ∃ _, _ | skip)
   have hin : i = L.length := by omega
   rw [hin] at hb ⊢
   generalize B L.length = Z at *
   have d1 := p1 Z (by omega)
   have d2 := p2 (Z ++ [v1]) (by simp; omega)
   rw [hb] at d1
   (repeat refine ZQ ?_); refine ZR fun K hK => ?_; simp (maxSteps := 1000000) [ty22, ty5, ty9]
   refine callP s1 (by simp [purel, C.isPure]) ?_
   simp [ty22, ty5, ty9]
   refine doesL (d1.does (by intro k hk; simp [keysO] at hk; rcases hk with rfl | rfl | rfl <;> simp [stoT, upd]) (by intro k hk; simp [keysS] at hk; rcases hk with rfl | rfl | rfl | rfl <;> simp [stoT, upd, keysO])) ?_
   simp [updS]
   refine hK _ ?_; clear hK K; (first | show AWP _ _ _ _ _ | show ∃ _, _ | skip)
   refine AWP.weak (t := ⟨ofL [(3, sT false false R), (4, .ptr 4 1 0 0), (5, .fn (.func 56) [] [.ptr 1 1 0 0, .ptr 4 1 0 0])], stoT [(1, 1, .live (pkO nl fu L)), (4, 4, .live (vaO 1000 (L.length + 1))), (1000, 1000, .live (lsO (Z ++ [v1])))]⟩) ?_ ?_
   rotate_left
   ·refine wk_shape2 [(1, 1, .live (pkO nl fu L)), (4, 4, .live (vaO 1000 (L.length + 1))), (1000, 1001, .live (lsO (Z ++ [v1])))] (by first | rfl | (simp only [if_pos, if_true]; rfl)) (shp0 hσ (by simp) (by simp) ?_) ?_
    ·simp [SlotOk] <;> (repeat' (first | (refine RowsOk.same ?_; simp [purel, C.isPure]; done) | (refine rowsCons ?_; simp [mtl, mtc, mT, mH, C.isPure, purel]; done) | (refine rowsCons ?_; simp [mtl, mtc, mT, mH, C.isPure, purel]) | refine And.intro ?_ ?_))
    ·simp [mtc, mtl, mT, C.isPure, purel] <;> (try simp (disch := omega) [wrap_id]) <;> (try omega)
   have hz1 : (Z ++ [v1]).length = L.length + 1 := by simp [hb]
   rw [hz1] at d2
   have hz2 : Z ++ [v1, v2] = Z ++ [v1] ++ [v2] := by simp
   rw [hz2]
   have hz3 : ((Z ++ [v1]) ++ [v2]).length = L.length + 2 := by simp [hb]
   generalize Z ++ [v1] = Z1 at *
   have hem : (Z1 ++ [v2]).isEmpty = false := by cases Z1 <;> rfl
   have hz3 : (Z1 ++ [v2]).length = L.length + 2 := hz3
   generalize Z1 ++ [v2] = Z2 at *
   (repeat refine ZQ ?_); refine ZR fun K hK => ?_; simp (maxSteps := 1000000) [ty22, ty5, ty9]
   refine callP s2 (by simp [purel, C.isPure]) ?_
   simp [ty22, ty5, ty9]
   refine doesL (d2.does (by intro k hk; simp [keysO] at hk; rcases hk with rfl | rfl | rfl <;> simp [stoT, upd]) (by intro k hk; simp [keysS] at hk; rcases hk with rfl | rfl | rfl | rfl <;> simp [stoT, upd, keysO])) ?_
   simp [updS]
   refine hK _ ?_; clear hK K
   (repeat refine ZQ ?_); refine ZR fun K hK => ?_; simp (maxSteps := 1000000) [ty22]; refine hK _ ?_; clear hK K
   (repeat refine ZQ ?_); refine awp_ret ?_; refine And.intro (Or.inr rfl) ?_
   have ht : List.take (L.length + 2) (Z2.map cS) = Z2.map cS := List.take_of_length_le (by simp; omega)
   simp [retC, resC, viewC, mapO, purel, C.isPure, hem, hz3, ht]
set_option maxHeartbeats 4000000
set_option maxRecDepth 20000


def chunkAt (L : List (List UInt8)) (k : Nat) : List (List UInt8) := (L.drop (8 * k)).take 8
def chunksB (L : List (List UInt8)) : List (List (List UInt8)) := (List.range ((L.length + 7) / 8)).map (chunkAt L)
@[simp] abbrev itCh (nl : Bool) (P : List (List (List UInt8))) : List (List C) := P.map fun p => [sT nl true p]

theorem chunk_get {L : List (List UInt8)} {k : Nat} (h : 8 * k < L.length) : (chunksB L)[k]? = some (chunkAt L k) := by
 unfold chunksB
 rw [List.getElem?_map, List.getElem?_range (by omega)]; rfl
theorem chunks_len (L : List (List UInt8)) : (chunksB L).length = (L.length + 7) / 8 := by simp [chunksB]

theorem it_chunk (nl fu : Bool) (L : List (List UInt8)) (hn : L.length ≤ 1000000) : ItC Tryz.prog 1000000 54 [] [.ip [sT nl fu L] 0, .ip [encI 8] 0] (itCh nl (chunksB L)) := by
 obtain ⟨N, hN⟩ : ∃ N, (L.length + 7) / 8 = N := ⟨_, rfl⟩
 have hlen : (itCh nl (chunksB L)).length = N := by simp [chunks_len, hN]
 refine it_of (fn := Tryz.f54) [] ⟨Tryz.func54, rfl, by kernel_rfl⟩ (by kernel_rfl) (by kernel_rfl) (by kernel_rfl) fun x hx q ks fam stop hrnd hstop hfam hσ hY => ?_; rw [stg_hiS hfam]
 rw [hlen] at hstop ⊢
 (repeat refine ZQ ?_); refine ZR fun K hK => ?_; simp (maxSteps := 1000000) [ty3]; refine hK _ ?_; clear hK K
 (repeat refine ZQ ?_); refine awp_block ?_
 refine awp_loop (fun k : Nat => ⟨ofL [(0, .fn (.yield q) [] []), (1, .ip [sT nl fu L] 0), (2, .ip [encI 8] 0), (4, encI ((8 * k : Nat) : Int))], hiS 1000000 (stoT []) (stg 1000000 fam stop k)⟩)
  (fun k => k ≤ N ∧ k ≤ stop) (fun k => N - k) 0 (by simp) ?_ ?_
 ·refine wk_shapeH hfam ?_ (by simp) (by simp) (by simp) ?_ (hx_stg hfam hσ) ?_
  ·intro k hk
   have hne : ∀ n : Nat, n < 1000 → k ≠ n := fun n hn => by omega
   simp [upd, hk, hne]
  ·simp [SlotOk] <;> (repeat' (first | exact .same (by simp [purel, C.isPure]) | exact .cons (by simp [mtl, mtc, mT, mH, C.isPure, purel]) (by simp) .nil | refine And.intro ?_ ?_))
  ·simp [mtc, mtl, mH, mT, C.isPure, purel] <;> (try simp (disch := omega) [wrap_id]) <;> (try omega)
 ·intro k ⟨hk, hst⟩
  obtain ⟨p, hp⟩ : ∃ p, 8 * k = p := ⟨_, rfl⟩
  obtain ⟨p2, hp2⟩ : ∃ p2, 8 * (k + 1) = p2 := ⟨_, rfl⟩
  simp only [hp, hp2]
  (repeat refine ZQ ?_); refine ZR fun K hK => ?_; simp (maxSteps := 1000000) [ty22, ty3]; refine hK _ ?_; clear hK K; (first | show AWP _ _ _ _ _ | show ∃ _, _ | skip)
  by_cases hlt : p < L.length
  ·have hli : (p : Int) < (L.length : Int) := by omega
   (repeat refine ZQ ?_); refine ZC (hc := by simp [hlt]; rfl) (fun hd => ?_) (fun hd => ?_)
   ·clear hd
    obtain ⟨m, hm⟩ : ∃ m, min 8 (L.length - p) = m := ⟨_, rfl⟩
    have hmi : (if (8 : Int) ≤ ((L.length - p : Nat) : Int) then (8 : Int) else ((L.length - p : Nat) : Int)) = (m : Int) := by split <;> omega
    have hmj : (if ((L.length - p : Nat) : Int) < (8 : Int) then ((L.length - p : Nat) : Int) else (8 : Int)) = (m : Int) := by split <;> omega
    have hmn : ((min 8 (L.length - p) : Nat) : Int) = m := by omega
    obtain ⟨e, he⟩ : ∃ e, p + m = e := ⟨_, rfl⟩
    have w1 : IntKind.i64.wrap ((p : Int) + (m : Int)) = (e : Int) := by rw [wrap_id (by omega) (by omega)]; omega
    have w2 : IntKind.i64.wrap ((p : Int) + 8) = (p2 : Int) := by rw [wrap_id (by omega) (by omega)]; omega
    have hle1 : p ≤ L.length := by omega
    have hle2 : e ≤ L.length := by omega
    have hle3 : p ≤ e := by omega
    have hit : (itCh nl (chunksB L))[k]? = some [sT nl true ((L.drop p).take (e - p))] := by
     have ec : (L.drop p).take (e - p) = chunkAt L k := by
      unfold chunkAt
      rw [hp, ← he, Nat.add_sub_cancel_left]
      rw [← hm, List.take_eq_take_iff]
      simp
     rw [ec]
     simp only [itCh, List.getElem?_map, chunk_get (by omega : 8 * k < L.length)]
     rfl
    generalize hch : (L.drop p).take (e - p) = ch at *
    have hch2 : ((L.map cS).drop p).take (e - p) = ch.map cS := by rw [← List.map_drop, ← List.map_take, hch]
    refine awp_skip ?_
    (repeat refine ZQ ?_); refine awp_block ?_
    (repeat refine ZQ ?_); refine ZD [] [0, 1, 2, 3, 4, 5, 6] fun K hK => ?_; simp (maxSteps := 1000000) [ty22, ty9, ty3, hle1, hmi, hmj, hmn]; refine hK _ ?_; clear hK K; (first | show AWP _ _ _ _ _ | show ∃ _, _ | skip)

    (repeat refine ZQ ?_); refine ZR fun K hK => ?_; simp (maxSteps := 1000000) [ty22, ty9, ty3, w1, hle1, hle2, hle3, hch2]
    refine yieldL hY hst hit (by intro k hk; simp [hk]) ?_
    simp
    refine hK _ ?_; clear hK K
    (repeat refine ZQ ?_); refine ZC (fun hd => ?_) (fun hd => ?_)
    ·simp at hd
     (repeat refine ZQ ?_); refine awp_ret ?_; refine And.intro (Or.inr rfl) ?_
     refine ⟨⟨_, rfl⟩, ?_⟩
     have : finI stop N = k + 1 := by
      unfold finI; rw [if_pos (by omega)]; omega
     rw [this]
     exact wk_endH hfam hσ (fun k hk => by show (if 1000000 ≤ k then _ else _) = _; rw [if_pos hk])
    ·simp at hd
     refine awp_skip ?_
     (repeat refine ZQ ?_); refine ZR fun K hK => ?_; simp (maxSteps := 1000000) [ty3, w2]; refine hK _ ?_; clear hK K; (first | show AWP _ _ _ _ _ | show ∃ _, _ | skip)
     refine ⟨k + 1, by omega, by omega, ?_⟩
     rw [hp2]
     refine wk_shapeH hfam ?_ (by simp) (by simp) (by simp) ?_ (hx_stg hfam hσ) ?_
     ·intro k hk
      have hne : ∀ n : Nat, n < 1000 → k ≠ n := fun n hn => by omega
      simp [upd, hk, hne]
     ·simp [SlotOk] <;> (repeat' (first | exact .same (by simp [purel, C.isPure]) | exact .cons (by simp [mtl, mtc, mT, mH, C.isPure, purel]) (by simp) .nil | refine And.intro ?_ ?_))
     ·simp [mtc, mtl, mH, mT, C.isPure, purel] <;> (try simp (disch := omega) [wrap_id]) <;> (try omega)
   ·simp [hlt] at hd
  ·have hli : ¬ (p : Int) < (L.length : Int) := by omega
   (repeat refine ZQ ?_); refine ZC (hc := by simp [hlt]; rfl) (fun hd => ?_) (fun hd => ?_)
   ·simp [hlt] at hd
   ·clear hd
    (repeat refine ZQ ?_); refine awp_exit ?_; (first | show AWP _ _ _ _ _ | show ∃ _, _ | skip)
    have hkn : k = N := by omega
    refine ⟨by simp, ⟨_, rfl⟩, ?_⟩
    have : finI stop N = k := by
     unfold finI; rw [if_neg (by omega)]; omega
    rw [this]
    exact wk_endH hfam hσ (fun k hk => by show (if 1000000 ≤ k then _ else _) = _; rw [if_pos hk])
set_option maxHeartbeats 4000000
set_option maxRecDepth 20000


def packT (p : List (List UInt8)) : List UInt8 := (cardsB p).flatMap lineB ++ [10]
def fileTo (L : List (List UInt8)) (i : Nat) : List UInt8 := ((chunksB L).take i).flatMap packT
def fileB (L : List (List UInt8)) : List UInt8 := (chunksB L).flatMap packT

theorem chunk_ok {L p : List (List UInt8)} (h : L.all textB = true) (hp : p ∈ chunksB L) : PackOk p := by
 unfold chunksB at hp
 obtain ⟨k, hk, rfl⟩ := List.mem_map.1 hp
 have hk := List.mem_range.1 hk
 refine ⟨by unfold chunkAt; simp; omega, fun l hl => List.all_eq_true.1 h l (List.mem_of_mem_drop (List.mem_of_mem_take hl))⟩

theorem card_len (b : UInt8) (many : Nat) (row : List UInt8) : (cardB b many row).length = row.length + 4 := by
 simp [cardB, headB, checkB, twoB]

theorem cards_len {p : List (List UInt8)} (h : PackOk p) : (cardsB p).length = p.length + 2 ∧ ∀ c ∈ cardsB p, c.length ≤ 130 := by
 obtain ⟨hw, hle, hr⟩ := h.rows
 have hse : ∀ wt, (sumsB (rowsB p) wt).length = 2 * (longB p + 2) := fun wt => by
  unfold sumsB
  rw [sumsTo_len]
  have e : ((rowsB p).headD []).length = longB p + 2 := by
   have hp := hr.many.1
   have hl := hr.len
   cases hc : rowsB p with
   | nil => rw [hc] at hp; simp at hp
   | cons a b => rw [hc] at hl; exact hl a (by simp)
  rw [e]
 refine ⟨by simp [cardsB, cardsTo], fun c hc => ?_⟩
 simp only [cardsB, List.mem_append, List.mem_cons, List.not_mem_nil, or_false] at hc
 rcases hc with hc | rfl | rfl
 ·unfold cardsTo at hc
  obtain ⟨i, hi, rfl⟩ := List.mem_map.1 hc
  have hi := List.mem_range.1 hi
  have hm : p.getD i [] ∈ p := by
   rw [List.getD_eq_getElem?_getD, List.getElem?_eq_getElem hi]; exact List.getElem_mem hi
  have h1 := hle _ hm
  unfold cardAt
  rw [card_len]
  generalize p.getD i [] = q at *
  simp [rowB, twoB]; omega
 ·rw [card_len, hse]; omega
 ·rw [card_len, hse]; omega

theorem flat_bd {α : Type} {f : α → List UInt8} {n : Nat} : ∀ {l : List α}, (∀ a ∈ l, (f a).length ≤ n) → (l.flatMap f).length ≤ n * l.length
 | [], _ => by simp
 | a :: l, h => by
  have ih := flat_bd (l := l) fun b hb => h b (by simp [hb])
  have := h a (by simp)
  simp only [List.flatMap_cons, List.length_append, List.length_cons, Nat.mul_add]
  omega

theorem packT_len {p : List (List UInt8)} (h : PackOk p) : (packT p).length ≤ 1400 := by
 obtain ⟨h1, h2⟩ := cards_len h
 have h3 := h.many.2
 have := flat_bd (f := lineB) (n := 131) (l := cardsB p) fun c hc => by have := h2 c hc; simp [lineB]; omega
 rw [h1] at this
 have h4 : 131 * (p.length + 2) ≤ 131 * 10 := Nat.mul_le_mul_left _ (by omega)
 simp only [packT, List.length_append, List.length_cons, List.length_nil]
 omega

theorem fileTo_len {L : List (List UInt8)} (h : L.all textB = true) (hn : L.length ≤ 40) (i : Nat) : (fileTo L i).length ≤ 7000 := by
 have := flat_bd (f := packT) (n := 1400) (l := (chunksB L).take i) fun p hp => packT_len (chunk_ok h (List.mem_of_mem_take hp))
 have h2 : ((chunksB L).take i).length ≤ 5 := by rw [List.length_take, chunks_len]; omega
 have h3 : 1400 * ((chunksB L).take i).length ≤ 1400 * 5 := Nat.mul_le_mul_left _ h2
 unfold fileTo
 omega

theorem chunk35 (nl fu : Bool) (L : List (List UInt8)) : Pure Tryz.prog 35 [sT nl fu L, encI 8] (.fn (.func 54) [] [.ip [sT nl fu L] 0, .ip [encI 8] 0]) := by
 refine ZF (fn := Tryz.f35) [.tmp 4] ⟨Tryz.func35, rfl, by kernel_rfl⟩ fun x hx hσ => ?_
 (repeat refine ZQ ?_); refine ZR fun K hK => ?_; simp (maxSteps := 1000000) [ty22, ty3]; refine hK _ ?_; clear hK K
 (repeat refine ZQ ?_); refine ZR fun K hK => ?_; simp (maxSteps := 1000000) [ty3]; refine hK _ ?_; clear hK K
 (repeat refine ZQ ?_); refine ZC (fun hd => ?_) (fun hd => ?_)
 ·simp at hd
 ·clear hd
  refine awp_skip ?_
  (repeat refine ZQ ?_); refine ZR fun K hK => ?_; simp (maxSteps := 1000000) [ty22]; refine hK _ ?_; clear hK K
  (repeat refine ZQ ?_); refine awp_ret ?_; refine And.intro (Or.inr rfl) ?_
  simp [retC, resC, viewC, mapO, C.isPure, purel]

theorem wr37_1000004 (p : C) (hp : p = .pnil ∨ p = .ptr 1000004 2 0 0) (l s : List UInt8) (hn : l.length ≤ 1000000) (hm : s.length ≤ 1000000) :
  EffS Tryz.prog 37 [(1000004, bldO p 1000 l.length), (1000, bufO l)] [.ptr 1000004 2 0 0, encS s] (.tup [encI s.length, .any])
   [(1000004, .live (bldO (.ptr 1000004 2 0 0) 1001 (l.length + s.length))), (1000, .dead), (1001, .live (bufO (l ++ s)))] := by
 have hsz := S_size s
 have hpw : wil (keysO [(1000004, bldO p 1000 l.length), (1000, bufO l)]) [p, .own 1000 1 0 l.length] = true := by rcases hp with rfl | rfl <;> simp [wil, C.wi, keysO]
 refine effS_of_body (fn := Tryz.f37) [.tmp 4, .tmp 5] ⟨Tryz.func37, rfl, by kernel_rfl⟩ (by kernel_rfl) (by kernel_rfl) (by kernel_rfl) ?_ ?_ (fun x hx hσ => ?_) ?_
 ·simp [wil, C.wi, keysO]
 ·intro q hq
  simp only [List.mem_cons, List.not_mem_nil, or_false] at hq
  rcases hq with rfl | rfl
  ·simp [hpw]
  ·simp [wil, C.wi]
 ·rw [show stoO [(1000004, bldO p 1000 l.length), (1000, bufO l)] = stoT [(1000004, 1000004, .live (bldO p 1000 l.length)), (1000, 1000, .live (bufO l))] from rfl]
  have hcc := cc61 (σ := stoT [(1000004, 1000004, .live (bldO p 1000 l.length)), (1000, 1000, .live (bufO l))]) 1000004 (p := p) (c := .own 1000 1 0 l.length) rfl hp
  (repeat refine ZQ ?_); refine ZR fun K hK => ?_; simp (maxSteps := 1000000) [ty3]; refine hK _ ?_; clear hK K
  (repeat refine ZQ ?_); refine ZR fun K hK => ?_; simp (maxSteps := 1000000) [ty3]
  refine doesL hcc ?_
  simp (config := { maxSteps := 1000000 }) [ty3]
  refine hK _ ?_; clear hK K
  (repeat refine ZQ ?_); refine ZR fun K hK => ?_; simp (maxSteps := 1000000) [ty62, ty64, ty61, ty9, ty5, hsz]
  refine ⟨by omega, ?_⟩
  refine hK _ ?_; clear hK K
  (repeat refine ZQ ?_); refine ZR fun K hK => ?_; simp (maxSteps := 1000000) [ty9, hsz]; refine hK _ ?_; clear hK K
  (repeat refine ZQ ?_); refine awp_ret ?_; refine And.intro (Or.inr rfl) ?_
  have hem : (if l = [] then !decide (s = []) || !l.isEmpty else !l.isEmpty) = !(l ++ s).isEmpty := by
   cases l <;> cases s <;> simp
  have hnl : (l.isEmpty && s.isEmpty) = (l ++ s).isEmpty := by cases l <;> cases s <;> simp
  rw [hem, hnl]
  have hrows : List.map cB l ++ List.map (fun b => [C.int IntKind.u8 (b.toNat : Int)]) s = List.map cB (l ++ s) := by simp
  rw [hrows]
  generalize l ++ s = ls at *
  refine ⟨.tup [encI s.length, .any], [(1000004, 1000004, .live (bldO (.ptr 1000004 2 0 0) 1001 (l.length + s.length))), (1000, 1000, .dead), (1001, 14, .live (bufO ls))], ?_, shpX hσ (by simp [keysO, mT]) (by simp) (by simp) ?_, ?_, rfl⟩
  ·simp [retC, resC]
   rfl
  ·simp [SlotOk]
   exact ⟨.cons (by simp [mtl, mtc, mT]) (by simp) .nil, .same (all_purel_map fun _ => rfl)⟩
  ·simp [mtc, mtl, mT, C.isPure, purel]
 ·intro q hq
  simp only [List.mem_cons, List.not_mem_nil, or_false] at hq
  rcases hq with rfl | rfl | rfl <;> simp

theorem wrF (e : Nat) (p : C) (hp : p = .pnil ∨ p = .ptr 1000004 2 0 0) (l s : List UInt8) (hn : l.length ≤ 1000000) (hm : s.length ≤ 1000000) :
  EffS Tryz.prog 37 [(1000004, bldO p (fk e) l.length), (fk e, bufO l)] [.ptr 1000004 2 0 0, encS s] (.tup [encI s.length, .any])
   [(1000004, .live (bldO (.ptr 1000004 2 0 0) 1001 (l.length + s.length))), (fk e, .dead), (1001, .live (bufO (l ++ s)))] := by
 have hsz := S_size s
 have hpw : wil (keysO [(1000004, bldO p (fk e) l.length), (fk e, bufO l)]) [p, .own (fk e) 1 0 l.length] = true := by rcases hp with rfl | rfl <;> simp [wil, C.wi, keysO]
 refine effS_of_body (fn := Tryz.f37) [.tmp 4, .tmp 5] ⟨Tryz.func37, rfl, by kernel_rfl⟩ (by kernel_rfl) (by kernel_rfl) (by kernel_rfl) ?_ ?_ (fun x hx hσ => ?_) ?_
 ·simp [wil, C.wi, keysO]
 ·intro q hq
  simp only [List.mem_cons, List.not_mem_nil, or_false] at hq
  rcases hq with rfl | rfl
  ·simp [hpw]
  ·simp [wil, C.wi]
 ·rw [show stoO [(1000004, bldO p (fk e) l.length), (fk e, bufO l)] = stoT [(1000004, 1000004, .live (bldO p (fk e) l.length)), (fk e, fk e, .live (bufO l))] from rfl]
  have hcc := cc61 (σ := stoT [(1000004, 1000004, .live (bldO p (fk e) l.length)), (fk e, fk e, .live (bufO l))]) 1000004 (p := p) (c := .own (fk e) 1 0 l.length) rfl hp
  (repeat refine ZQ ?_); refine ZR fun K hK => ?_; simp (maxSteps := 1000000) [ty3]; refine hK _ ?_; clear hK K
  (repeat refine ZQ ?_); refine ZR fun K hK => ?_; simp (maxSteps := 1000000) [ty3]
  refine doesL hcc ?_
  simp (config := { maxSteps := 1000000 }) [ty3]
  refine hK _ ?_; clear hK K
  (repeat refine ZQ ?_); refine ZR fun K hK => ?_; simp (maxSteps := 1000000) [ty62, ty64, ty61, ty9, ty5, hsz]
  refine ⟨by omega, ?_⟩
  refine hK _ ?_; clear hK K
  (repeat refine ZQ ?_); refine ZR fun K hK => ?_; simp (maxSteps := 1000000) [ty9, hsz]; refine hK _ ?_; clear hK K
  (repeat refine ZQ ?_); refine awp_ret ?_; refine And.intro (Or.inr rfl) ?_
  have hem : (if l = [] then !decide (s = []) || !l.isEmpty else !l.isEmpty) = !(l ++ s).isEmpty := by
   cases l <;> cases s <;> simp
  have hnl : (l.isEmpty && s.isEmpty) = (l ++ s).isEmpty := by cases l <;> cases s <;> simp
  rw [hem, hnl]
  have hrows : List.map cB l ++ List.map (fun b => [C.int IntKind.u8 (b.toNat : Int)]) s = List.map cB (l ++ s) := by simp
  rw [hrows]
  generalize l ++ s = ls at *
  refine ⟨.tup [encI s.length, .any], [(1000004, 1000004, .live (bldO (.ptr 1000004 2 0 0) 1001 (l.length + s.length))), (fk e, fk e, .dead), (1001, 14, .live (bufO ls))], ?_, shpX hσ (by simp [keysO, mT]) (by simp) (by simp) ?_, ?_, rfl⟩
  ·simp [retC, resC]
   rfl
  ·simp [SlotOk]
   exact ⟨.cons (by simp [mtl, mtc, mT]) (by simp) .nil, .same (all_purel_map fun _ => rfl)⟩
  ·simp [mtc, mtl, mT, C.isPure, purel]
 ·intro q hq
  simp only [List.mem_cons, List.not_mem_nil, or_false] at hq
  rcases hq with rfl | rfl | rfl <;> simp

set_option maxHeartbeats 8000000
set_option maxRecDepth 20000


theorem wk_envL {x : Ctx} {env : Nat → C} {σ : Nat → Slot} {E : List (Nat × C)} (hE : ∀ p ∈ E, env p.1 = p.2) : Wk x ⟨env, σ⟩ ⟨ofL E, σ⟩ := by
 have key : ∀ {E : List (Nat × C)}, (∀ p ∈ E, env p.1 = p.2) → ∀ t, ofL E t = env t ∨ ofL E t = .any := by
  intro E
  induction E with
  | nil => intro _ t; exact .inr rfl
  | cons p l ih =>
   intro h t
   by_cases ht : t = p.1
   ·subst ht; left; simp [h p (by simp)]
   ·simp [ht]; exact ih (fun q hq => h q (by simp [hq])) t
 intro ρ a w hs
 refine ⟨ρ, { hs.toFrm with nt := hs.nt, defers := hs.defers, inr := hs.inr, env := fun t ht => ?_ }⟩
 have h1 := hs.env t ht
 rcases key hE t with h | h
 ·simp only; rw [h]; exact h1
 ·simp only; rw [h]; exact .any _

def ppB (i : Nat) : C := if i = 0 then .pnil else .ptr 1000004 2 0 0
theorem ppB_or (i : Nat) : ppB i = .pnil ∨ ppB i = .ptr 1000004 2 0 0 := by unfold ppB; split <;> simp
theorem ppB_succ (i : Nat) : ppB (i + 1) = .ptr 1000004 2 0 0 := if_neg (by omega)
def bfM (W : Nat → List UInt8) (i e : Nat) : Slot := if e = i then .live (bufO (W i)) else if e < i then .dead else .gh
def bfD (i e : Nat) : Slot := if e ≤ i then .dead else .gh
@[simp] noncomputable abbrev bfT (W : Nat → List UInt8) (i : Nat) : List (Nat × Nat × Slot) := [(1000004, 1000004, .live (bldO (ppB i) (fk i) (W i).length))]

theorem bfD_ok {m : Nat → Nat → Prop} (i e : Nat) : SlotOk m (bfD i e) (bfD i e) := by
 unfold bfD
 split
 ·trivial
 ·rfl
theorem bfMD_ok {m : Nat → Nat → Prop} (W : Nat → List UInt8) {i e : Nat} (h : ¬ e = i) : SlotOk m (bfM W i e) (bfD i e) := by
 unfold bfM bfD
 rw [if_neg h]
 by_cases h2 : e < i
 ·rw [if_pos h2, if_pos (by omega)]; trivial
 ·rw [if_neg h2, if_neg (by omega)]; rfl
theorem bfDM_ok {m : Nat → Nat → Prop} (W : Nat → List UInt8) {i e : Nat} (h : ¬ e = i + 1) : SlotOk m (bfD i e) (bfM W (i + 1) e) := by
 unfold bfM bfD
 rw [if_neg h]
 by_cases h2 : e ≤ i
 ·rw [if_pos h2, if_pos (by omega)]; trivial
 ·rw [if_neg h2, if_neg (by omega)]; rfl
theorem bfM_gh (W : Nat → List UInt8) (i : Nat) : bfM W i (i + 1) = .gh := by
 unfold bfM
 rw [if_neg (by omega), if_neg (by omega)]

theorem buf_wil (K : List Nat) (l : List UInt8) : (l.map cB).all (wil K) = true := by
 rw [List.all_eq_true]; intro r hr; obtain ⟨z, _, rfl⟩ := List.mem_map.1 hr; rfl
theorem buf_cell (l : List UInt8) : (l.map cB).all (fun r => r.all C.cell) = true := by
 rw [List.all_eq_true]; intro r hr; obtain ⟨z, _, rfl⟩ := List.mem_map.1 hr; rfl
theorem bfM_ok {K : List Nat} (W : Nat → List UInt8) (i e : Nat) : bfM W i e ≠ .free ∧ ∀ o, bfM W i e = .live o → o.rows.all (wil K) = true ∧ o.rows.all (fun r => r.all C.cell) = true := by
 unfold bfM
 split
 ·refine ⟨by simp, fun o ho => ?_⟩
  cases ho
  exact ⟨buf_wil _ _, buf_cell _⟩
 ·split <;> exact ⟨by simp, fun o ho => by cases ho⟩
theorem buf_pure (l : List UInt8) : (l.map cB).all purel = true := all_purel_map fun _ => rfl

theorem write12_ok (nl fu : Bool) (L : List (List UInt8)) (hn : L.length ≤ 40) (ha : L.all textB = true) : Pure Tryz.prog 12 [sT nl fu L] (.tup [encS (fileB L), encI 0]) := by
 have hn' : ¬ (40 : Int) < L.length := by omega
 have c32 := contains32 nl fu L (by omega)
 rw [ha] at c32
 have c35 := chunk35 nl fu L
 obtain ⟨N, hN⟩ : ∃ N, (chunksB L).length = N := ⟨_, rfl⟩
 have hil : (itCh nl (chunksB L)).length = N := by simp [hN]
 have hWl := fileTo_len ha hn
 have hWn : fileB L = fileTo L N := by unfold fileTo; rw [← hN, List.take_length]; rfl
 have hW0 : fileTo L 0 = [] := rfl
 have hWs : ∀ i p, (chunksB L)[i]? = some p → fileTo L (i + 1) = fileTo L i ++ packT p := fun i p h => by
  unfold fileTo
  obtain ⟨h1, h2⟩ := List.getElem?_eq_some_iff.1 h
  rw [List.take_succ_eq_append_getElem h1, List.flatMap_append, h2]; simp
 rw [hWn]
 clear hWn
 generalize fileTo L = W at *
 have hit := it_chunk nl fu L (by omega)
 refine ZF (fn := Tryz.f12) [.tmp 2, .tmp 3] ⟨Tryz.func12, rfl, by kernel_rfl⟩ fun x hx hσ => ?_
 (repeat refine ZQ ?_); refine ZR fun K hK => ?_; simp (maxSteps := 1000000) [ty9]; refine hK _ ?_; clear hK K
 (repeat refine ZQ ?_); refine ZR fun K hK => ?_; simp (maxSteps := 1000000) [ty22, ty3, hn']; refine hK _ ?_; clear hK K
 (repeat refine ZQ ?_); refine ZC (fun hd => ?_) (fun hd => ?_)
 ·simp [hn'] at hd
 ·clear hd
  refine awp_skip ?_
  (repeat refine ZQ ?_); refine ZR fun K hK => ?_; simp (maxSteps := 1000000) [ty22]
  refine ZP (c32) ?_; simp (maxSteps := 1000000) [ty4]
  refine hK _ ?_; clear hK K
  (repeat refine ZQ ?_); refine ZC (fun hd => ?_) (fun hd => ?_)
  ·simp at hd
  ·clear hd
   refine awp_skip ?_
   (repeat refine ZQ ?_); refine ZR fun K hK => ?_; simp (maxSteps := 1000000) [ty64]; refine hK _ ?_; clear hK K; (first | show AWP _ _ _ _ _ | show ∃ _, _ | skip)
   refine AWP.weak ?_ (wk_nilCell 4 0 1 1000 1 (o := ⟨false, true, 2, [[.pnil, .sl true true []]]⟩) (row := [.pnil, .sl true true []]) (fu := true) (by simp) rfl rfl rfl (by simp) (by decide))
   (repeat refine ZQ ?_); refine ZR fun K hK => ?_; simp (maxSteps := 1000000) [ty22, ty3]
   refine ZP (c35) ?_; simp (maxSteps := 1000000) [ty66]
   refine hK _ ?_; clear hK K
   (repeat refine ZQ ?_); refine awp_block ?_
   have hfam := famOkS (L := 1000000) (K := [1000004]) (N := N + 1) (T := fun i => bfT W (min i N)) (M := fun i e => bfM W (min i N) e) (by decide) (by simp) (by simp) (fun i => by simp)
    (fun i p hp => by
     simp only [bfT, List.mem_cons, List.not_mem_nil, or_false] at hp
     subst hp
     have : min i N < N + 1 := by omega
     refine ⟨_, rfl, ?_, ?_⟩
     ·rcases ppB_or (min i N) with h | h <;> simp [wil, C.wi, h, this]
     ·rcases ppB_or (min i N) with h | h <;> simp [h, C.cell])
    (fun i e he => bfM_ok W (min i N) e)
   refine awp_rangeG 1000000 _ _ (itCh nl (chunksB L)) N .ret [(4, .ptr 1000004 2 0 0), (14, .fn (.func 54) [] [.ip [sT nl fu L] 0, .ip [encI 8] 0])] [(4, .ptr 1000004 2 0 0)] (first := []) (caps := [.ip [sT nl fu L] 0, .ip [encI 8] 0]) ?_ hσ hfam (by simp) (by rw [hx]; decide) ⟨rfl, by simp [purel, C.isPure]⟩ hit (by omega)
    (by simp [C.wi, wil]) (by simp [C.wi, wil]) ?_ ?_ ?_ ?_
   ·refine Wk.trans (wk_shape (E := [(4, .ptr 1000004 2 0 0), (14, .fn (.func 54) [] [.ip [sT nl fu L] 0, .ip [encI 8] 0])]) (T := [(1000004, 4, .live (bldO .pnil 1000 0)), (1000, 1000, .live (bufO []))]) (shp0 hσ (by simp) (by simp) ?_) ?_) ?_
    ·simp [SlotOk]
     exact .cons (by simp [mtl, mtc, mT, C.isPure]) (by simp) .nil
    ·simp [mtc, mtl, mT, C.isPure, purel]
    ·refine Wk.trans (wk_famGh (by simp) (N + 1)) ?_
     rw [show min 0 N = 0 by omega]
     refine wk_fam (fun e => if e = 0 then 1000 else fk e) (by simp) (by simp) (by simp) ?_ ?_ ?_ ?_ ?_
     ·intro e he
      by_cases h0 : e = 0
      ·subst h0
       refine .inr ⟨by simp, by simp, fun e' _ h => ?_⟩
       simp only [if_true] at h
       split at h
       ·assumption
       ·simp at h
      ·exact .inl (by simp [h0])
     ·intro e he
      by_cases h0 : e = 0
      ·subst h0
       simp [bfM, hW0, SlotOk]
      ·simp [h0, bfM, SlotOk, he]
     ·simp [SlotOk, hW0, ppB]
      exact .cons (by simp [mtl, mtc, mF, C.isPure]) (by simp) .nil
     ·simp [mtc, mtl, mF, mT, C.isPure, purel]
     ·intro k hk
      rw [hσ] at hk
      exact absurd rfl hk
   ·intro args ha
    obtain ⟨t, ht, rfl⟩ := List.mem_map.1 ha
    simp [purel, C.isPure]
   ·intro i args hit2 hi y y2 hy1 hy2 hyS hy2S
    obtain ⟨p, hp, rfl⟩ : ∃ p, (chunksB L)[i]? = some p ∧ args = [sT nl true p] := by
     simp only [itCh, List.getElem?_map, Option.map_eq_some_iff] at hit2
     obtain ⟨t, h1, h2⟩ := hit2
     exact ⟨t, h1, h2.symm⟩
    have hiN : i < N := by have := (List.getElem?_eq_some_iff.1 hp).1; omega
    have hpk := chunk_ok ha (List.mem_of_getElem? hp)
    have hstW := hWs i p hp
    have hcl := cards_len hpk
    have hr0 := fun i => famS_rfam (L := 1000000) (by decide) (bfT W (min i N)) (N + 1) (fun e => bfM W (min i N) e) i (fun i => famS (bfT W (min i N)) (N + 1) fun e => bfM W (min i N) e) rfl
    rw [hr0 i, hr0 (i + 1)]
    have hR := hr0 i
    rw [show min i N = i by omega] at hR ⊢
    rw [show min (i + 1) N = i + 1 by omega]
    have hx0 := hx
    have hx := hy1.trans hx0
    (repeat refine ZQ ?_); refine ZR fun K hK => ?_; simp (maxSteps := 1000000) [ty22, putPs]; refine hK _ ?_; clear hK K; (first | show AWP _ _ _ _ _ | show ∃ _, _ | skip)
    refine ⟨by simp, ?_⟩
    have hx := hy2.trans hx0
    have c36 := cards36 nl true p hpk
    have hWl1 := hWl (i + 1)
    have hWl0 := hWl i
    rw [hstW] at hWl1
    simp only [packT, List.length_append] at hWl1
    rw [packT] at hstW
    have hml := hpk.many
    have hcn : (cardsB p).length ≤ 10 := by omega
    have hcp : 0 < (cardsB p).length := by omega
    have hc130 := hcl.2
    clear hcl hr0
    generalize cardsB p = Cs at *
    obtain ⟨A, hA⟩ : ∃ A : Nat → List UInt8, ∀ c, A c = W i ++ (Cs.take c).flatMap lineB := ⟨_, fun _ => rfl⟩
    have hA0 : A 0 = W i := by rw [hA]; simp
    have hAs : ∀ c (hc : c < Cs.length), A (c + 1) = A c ++ (Cs[c] ++ [10]) := fun c hc => by
     rw [hA, hA, List.take_succ_eq_append_getElem hc, List.flatMap_append, ← List.append_assoc]
     simp [lineB]
    have hAn : W (i + 1) = A Cs.length ++ [10] := by rw [hstW, hA, List.take_length, ← List.append_assoc]
    have hAl : ∀ c, (A c).length ≤ 10000 := fun c => by
     have := flat_len lineB Cs c
     rw [hA, List.length_append]; omega
    clear hA hstW
    (repeat refine ZQ ?_); refine awp_block ?_
    (repeat refine ZQ ?_); refine ZR fun K hK => ?_; simp (maxSteps := 1000000) [ty22, ty68]
    refine ZP (c36) ?_; simp (maxSteps := 1000000) [ty22]
    refine hK _ ?_; clear hK K
    (repeat refine ZQ ?_); refine awp_block ?_
    refine awp_loop (fun c : Nat => ⟨ofL [(4, .ptr 1000004 2 0 0), (17, sT false false Cs), (18, encI Cs.length), (19, encI c)],
      if c = 0 then famS ((1000000, 1000000, .gh) :: bfT W i) (N + 1) (bfM W i) else famS [(1000000, 1000000, .gh), (1000004, 1000004, .live (bldO (.ptr 1000004 2 0 0) 1000 (A c).length)), (1000, 1000, .live (bufO (A c)))] (N + 1) (bfD i)⟩)
     (fun c => c ≤ Cs.length) (fun c => Cs.length - c) 0 (Nat.zero_le _) ?_ ?_
    ·rw [if_pos rfl]
     exact wk_envL (by simp)
    ·intro c hc
     have hAc := hAl c
     have w1 : IntKind.i64.wrap ((c : Int) + 1) = ((c + 1 : Nat) : Int) := by rw [wrap_id (by omega) (by omega)]; rfl
     by_cases h0 : c = 0
     ·subst h0
      rw [if_pos rfl]
      (repeat refine ZQ ?_); refine ZR fun K hK => ?_; simp (maxSteps := 1000000) [ty3, hcp]; refine hK _ ?_; clear hK K
      (repeat refine ZQ ?_); refine ZC (hc := by simp [hcp]; rfl) (fun hd => ?_) (fun hd => ?_)
      ·clear hd
       have hst : W i ++ (Cs[0] ++ [10]) = A 1 := by rw [← hA0]; exact (hAs 0 hcp).symm
       have h130 := hc130 _ (List.getElem_mem hcp)
       have a1 := str_add (a := Cs[0]) (b := [10]) (by simp; omega)
       have hln2 : (Cs[0] ++ [10]).length ≤ 131 := by simp; omega
       generalize Cs[0] ++ [10] = ln at *
       have cw := wrF i (ppB i) (ppB_or i) (W i) ln (by omega) (by omega)
       have hl2 : (W i).length + ln.length = (A 1).length := by rw [← hst]; simp
       rw [hst, hl2] at cw
       refine awp_skip ?_
       (repeat refine ZQ ?_); refine awp_block ?_
       (repeat refine ZQ ?_); refine ZR fun K hK => ?_; simp (maxSteps := 1000000) [ty22, ty9, ty3, hcp]; refine hK _ ?_; clear hK K
       (repeat refine ZQ ?_); refine ZR fun K hK => ?_; simp (maxSteps := 1000000) [ty9, a1, -strBin]
       refine doesL (cw.does (by intro k hk; simp [keysO] at hk; rcases hk with rfl | rfl <;> simp [bfM, hiN, Nat.lt_succ_of_lt hiN]) (by intro k hk; simp [keysS] at hk; rcases hk with rfl | rfl | rfl <;> simp [keysO])) ?_
       simp [updS]
       refine hK _ ?_; clear hK K
       (repeat refine ZQ ?_); refine ZR fun K hK => ?_; simp (maxSteps := 1000000) [ty3]; refine hK _ ?_; clear hK K; (first | show AWP _ _ _ _ _ | show ∃ _, _ | skip)
       refine ⟨1, by omega, by omega, ?_⟩
       rw [if_neg (by omega)]
       refine wk_famR (T := [(1000000, 1000000, .gh), (1000004, 1000004, .live (bldO (.ptr 1000004 2 0 0) 1000 (A 1).length)), (1000, 1001, .live (bufO (A 1)))]) fk hy2S hR (by simp [mT]) (by simp) (fun e he hne => rfl) (by simp) (by simp) (by simp) (fun e he => .inl rfl) ?_ ?_ ?_
       ·intro e he
        by_cases h : e = i
        ·subst h
         simp [bfD]
         trivial
        ·simp [h, he]
         exact bfMD_ok W h
       ·simp [SlotOk]
        exact ⟨.cons (by simp [mtl, mtc, mF, mT]) (by simp) .nil, .same (buf_pure _)⟩
       ·simp [mtc, mtl, mF, mT, C.isPure, purel] <;> (try simp (disch := omega) [wrap_id]) <;> (try omega)
      ·simp [hcp] at hd
     ·rw [if_neg h0]
      (repeat refine ZQ ?_); refine ZR fun K hK => ?_; simp (maxSteps := 1000000) [ty3]; refine hK _ ?_; clear hK K
      (repeat refine ZQ ?_); refine ZC (fun hd => ?_) (fun hd => ?_)
      ·simp at hd
       have hst := hAs c hd
       have h130 := hc130 _ (List.getElem_mem hd)
       have a1 := str_add (a := Cs[c]) (b := [10]) (by simp; omega)
       have hln2 : (Cs[c] ++ [10]).length ≤ 131 := by simp; omega
       generalize Cs[c] ++ [10] = ln at *
       have cw := wr37_1000004 (.ptr 1000004 2 0 0) (.inr rfl) (A c) ln (by omega) (by omega)
       have hl2 : (A c).length + ln.length = (A (c + 1)).length := by rw [hst]; simp
       rw [← hst, hl2] at cw
       refine awp_skip ?_
       (repeat refine ZQ ?_); refine awp_block ?_
       (repeat refine ZQ ?_); refine ZR fun K hK => ?_; simp (maxSteps := 1000000) [ty22, ty9, ty3, hd]; refine hK _ ?_; clear hK K
       (repeat refine ZQ ?_); refine ZR fun K hK => ?_; simp (maxSteps := 1000000) [ty9, a1, -strBin]
       refine doesL (cw.does (by intro k hk; simp [keysO] at hk; rcases hk with rfl | rfl <;> simp) (by intro k hk; simp [keysS] at hk; rcases hk with rfl | rfl | rfl <;> simp [keysO])) ?_
       simp [updS]
       refine hK _ ?_; clear hK K
       (repeat refine ZQ ?_); refine ZR fun K hK => ?_; simp (maxSteps := 1000000) [ty3, w1]; refine hK _ ?_; clear hK K; (first | show AWP _ _ _ _ _ | show ∃ _, _ | skip)
       refine ⟨c + 1, by omega, by omega, ?_⟩
       rw [if_neg (by omega)]
       refine wk_famR (T := [(1000000, 1000000, .gh), (1000004, 1000004, .live (bldO (.ptr 1000004 2 0 0) 1000 (A (c + 1)).length)), (1000, 1001, .live (bufO (A (c + 1))))]) fk hy2S hR (by simp [mT]) (by simp) (fun e he hne => rfl) (by simp) (by simp) (by simp) (fun e he => .inl rfl) ?_ ?_ ?_
       ·intro e he
        simp [he]
        exact bfD_ok i e
       ·simp [SlotOk]
        exact ⟨.cons (by simp [mtl, mtc, mF, mT]) (by simp) .nil, .same (buf_pure _)⟩
       ·simp [mtc, mtl, mF, mT, C.isPure, purel] <;> (try simp (disch := omega) [wrap_id]) <;> (try omega)
      ·simp at hd
       (repeat refine ZQ ?_); refine awp_exit ?_; (first | show AWP _ _ _ _ _ | show ∃ _, _ | skip)
       have hcn2 : c = Cs.length := by omega
       rw [hcn2] at hAc ⊢
       have cw := wr37_1000004 (.ptr 1000004 2 0 0) (.inr rfl) (A Cs.length) [10] (by omega) (by simp)
       have hl2 : (A Cs.length).length + ([10] : List UInt8).length = (W (i + 1)).length := by rw [hAn]; simp
       rw [← hAn, hl2] at cw
       (repeat refine ZQ ?_); refine ZR fun K hK => ?_; simp (maxSteps := 1000000) [ty9]
       refine doesL (cw.does (by intro k hk; simp [keysO] at hk; rcases hk with rfl | rfl <;> simp) (by intro k hk; simp [keysS] at hk; rcases hk with rfl | rfl | rfl <;> simp [keysO])) ?_
       simp [updS]
       refine hK _ ?_; clear hK K; (first | show AWP _ _ _ _ _ | show ∃ _, _ | skip)
       refine ⟨by rw [if_neg (by omega)], ?_⟩
       refine wk_famR (E := []) (T := (1000000, 1000000, .gh) :: bfT W (i + 1)) (fun e => if e = i + 1 then 1001 else fk e) hy2S hR (by simp [mT]) (by simp) ?_ (by simp) (by simp) (by simp) ?_ ?_ ?_ (by simp)
       ·intro e he hne
        by_cases hej : e = i + 1
        ·subst hej
         exact absurd (bfM_gh W i) hne
        ·simp [hej]
       ·intro e he
        by_cases hej : e = i + 1
        ·subst hej
         refine .inr ⟨by simp, by simp, fun e' _ h => ?_⟩
         simp only [if_true] at h
         split at h
         ·assumption
         ·simp at h
        ·simp [hej]
       ·intro e he
        by_cases hej : e = i + 1
        ·subst hej
         simp [bfM, SlotOk]
         exact .same (buf_pure _)
        ·simp [hej, he]
         exact bfDM_ok W hej
       ·simp [SlotOk, ppB_succ]
        exact .cons (by simp [mtl, mtc, mT, mF]; omega) (by simp) .nil
   ·intro he s' hs'
    refine AWP.weak ?_ hs'
    rw [hil, Nat.min_self]
    have hWN := hWl N
    have hbn : bfM W N N = .live (bufO (W N)) := if_pos rfl
    have cs := str38 (σ := famS (bfT W N) (N + 1) (bfM W N)) 1000004 (fk N) (p := ppB N) (l := W N) (by simp) (by simp [hbn]) (by omega)
    (repeat refine ZQ ?_); refine ZR fun K hK => ?_; simp (maxSteps := 1000000) [ty9]
    refine doesL cs ?_
    simp [ty9]
    refine hK _ ?_; clear hK K
    (repeat refine ZQ ?_); refine awp_ret ?_; refine And.intro (Or.inr rfl) ?_
    simp [retC, resC, viewC, mapO]
   ·intro hlt
    rw [hil] at hlt
    omega

set_option maxHeartbeats 8000000
set_option maxRecDepth 20000


def writeB (L : List (List UInt8)) : C := .tup [encS (if textsE L = 0 then fileB L else []), encI (textsE L)]

theorem write12 (nl fu : Bool) (L : List (List UInt8)) (hn : L.length ≤ 100000) : Pure Tryz.prog 12 [sT nl fu L] (writeB L) := by
 unfold writeB textsE
 by_cases h40 : 40 < L.length
 ·have h' : (40 : Int) < L.length := by omega
  rw [if_pos h40, if_neg (by decide)]
  refine ZF (fn := Tryz.f12) [.tmp 2, .tmp 3] ⟨Tryz.func12, rfl, by kernel_rfl⟩ fun x hx hσ => ?_
  (repeat refine ZQ ?_); refine ZR fun K hK => ?_; simp (maxSteps := 1000000) [ty9]; refine hK _ ?_; clear hK K
  (repeat refine ZQ ?_); refine ZR fun K hK => ?_; simp (maxSteps := 1000000) [ty22, ty3, h']; refine hK _ ?_; clear hK K
  (repeat refine ZQ ?_); refine ZC (hc := by simp [h']; rfl) (fun hd => ?_) (fun hd => ?_)
  ·clear hd
   (repeat refine ZQ ?_); refine ZR fun K hK => ?_; simp (maxSteps := 1000000) [ty9]; refine hK _ ?_; clear hK K
   (repeat refine ZQ ?_); refine awp_ret ?_; refine And.intro (Or.inr rfl) ?_
   simp [retC, resC, viewC, mapO]
  ·simp [h'] at hd
 ·rw [if_neg h40]
  cases ha : L.all textB
  ·have h' : ¬ (40 : Int) < L.length := by omega
   have c32 := contains32 nl fu L hn
   rw [ha] at c32
   rw [if_neg (by decide), if_neg (by decide)]
   refine ZF (fn := Tryz.f12) [.tmp 2, .tmp 3] ⟨Tryz.func12, rfl, by kernel_rfl⟩ fun x hx hσ => ?_
   (repeat refine ZQ ?_); refine ZR fun K hK => ?_; simp (maxSteps := 1000000) [ty9]; refine hK _ ?_; clear hK K
   (repeat refine ZQ ?_); refine ZR fun K hK => ?_; simp (maxSteps := 1000000) [ty22, ty3, h']; refine hK _ ?_; clear hK K
   (repeat refine ZQ ?_); refine ZC (hc := by simp [h']; rfl) (fun hd => ?_) (fun hd => ?_)
   ·simp [h'] at hd
   ·clear hd
    refine awp_skip ?_
    (repeat refine ZQ ?_); refine ZR fun K hK => ?_; simp (maxSteps := 1000000) [ty22]
    refine ZP (c32) ?_; simp (maxSteps := 1000000) [ty4]
    refine hK _ ?_; clear hK K
    (repeat refine ZQ ?_); refine ZC (fun hd => ?_) (fun hd => ?_)
    ·clear hd
     (repeat refine ZQ ?_); refine ZR fun K hK => ?_; simp (maxSteps := 1000000) [ty9]; refine hK _ ?_; clear hK K
     (repeat refine ZQ ?_); refine awp_ret ?_; refine And.intro (Or.inr rfl) ?_
     simp [retC, resC, viewC, mapO]
    ·simp at hd
  ·exact write12_ok nl fu L (by omega) ha

theorem packs_chunks (nl fu : Bool) (L : List (List UInt8)) : (packsB nl fu L).map (·.l) = chunksB L := by
 unfold packsB packsN chunksB
 rw [List.map_map]
 refine List.map_congr_left fun k hk => ?_
 have hk := List.mem_range.1 hk
 simp only [Function.comp, pkAt, chunkAt]
 rw [List.take_eq_take_iff]
 simp; omega

theorem q_write13 (nl fu : Bool) (L : List (List UInt8)) (hn : L.length ≤ 100000) (hl : ∀ l ∈ L, l.length ≤ 1000000) : Pure Tryz.prog 13 [sT nl fu L] (writeB L) := by
 have c31 := q_areTexts31 nl fu L hl
 have c21 := q_packs21 nl fu L hn
 unfold writeB
 by_cases h0 : textsE L = 0
 ·rw [if_pos h0, h0]
  rw [h0] at c31
  have h40 : ¬ 40 < L.length := by rintro h; unfold textsE at h0; rw [if_pos h] at h0; cases h0
  have ha : L.all textB = true := by
   refine Classical.byContradiction fun h => ?_
   unfold textsE at h0
   rw [if_neg h40, if_neg h] at h0; cases h0
  have hPl := packs_chunks nl fu L
  have hck : ∀ (i : Nat) (hi : i < (packsB nl fu L).length), PackOk (packsB nl fu L)[i].l := fun i hi => by
   refine chunk_ok ha ?_
   rw [← hPl]
   exact List.mem_map.2 ⟨_, List.getElem_mem hi, rfl⟩
  have hlen : (packsB nl fu L).length ≤ 5 := by
   have := congrArg List.length hPl
   rw [List.length_map, chunks_len] at this
   omega
  obtain ⟨A, hA⟩ : ∃ A : Nat → List Pk, ∀ i, A i = ((packsB nl fu L).take i).map fun p => (⟨false, false, cardsB p.l⟩ : Pk) := ⟨_, fun _ => rfl⟩
  have hA0 : A 0 = [] := by rw [hA]; rfl
  have hAl : ∀ i, i ≤ (packsB nl fu L).length → (A i).length = i := fun i hi => by rw [hA]; simp; omega
  have hAs : ∀ i (hi : i < (packsB nl fu L).length), A (i + 1) = A i ++ [⟨false, false, cardsB (packsB nl fu L)[i].l⟩] := fun i hi => by
   rw [hA, hA, List.take_succ_eq_append_getElem hi, List.map_append]; rfl
  have hAn : writtenB (A (packsB nl fu L).length) = fileB L := by
   rw [hA, List.take_length]
   unfold writtenB fileB
   rw [← hPl, List.flatMap_map, List.flatMap_map]
   rfl
  have hfl : (fileB L).length ≤ 100000 := by
   have := fileTo_len ha (by omega) (chunksB L).length
   unfold fileTo at this
   rw [List.take_length] at this
   unfold fileB; omega
  have hem : (packsB nl fu L).isEmpty = L.isEmpty := by
   have h1 := congrArg List.length hPl
   rw [List.length_map, chunks_len] at h1
   cases h2 : packsB nl fu L <;> cases h3 : L <;> rw [h2, h3] at h1 <;> simp at h1 ⊢ <;> omega
  rw [← hAn] at hfl ⊢
  rw [← hem] at c21
  clear hAn hA hPl hem
  generalize packsB nl fu L = P at *
  have cw := q_written24 (A P.length).isEmpty false (A P.length) hfl
  refine ZF (fn := Tryz.f13) [.tmp 2, .tmp 3] ⟨Tryz.func13, rfl, by kernel_rfl⟩ fun x hx hσ => ?_
  (repeat refine ZQ ?_); refine ZR fun K hK => ?_; simp (maxSteps := 1000000) [ty9]; refine hK _ ?_; clear hK K
  (repeat refine ZQ ?_); refine ZR fun K hK => ?_; simp (maxSteps := 1000000) [ty22]
  refine ZP (c31) ?_; simp (maxSteps := 1000000) [ty26]
  refine hK _ ?_; clear hK K
  (repeat refine ZQ ?_); refine ZR fun K hK => ?_; simp (maxSteps := 1000000) [ty26]; refine hK _ ?_; clear hK K
  (repeat refine ZQ ?_); refine ZC (fun hd => ?_) (fun hd => ?_)
  ·simp at hd
  ·clear hd
   refine awp_skip ?_
   (repeat refine ZQ ?_); refine ZR fun K hK => ?_; simp (maxSteps := 1000000) [ty42]; refine hK _ ?_; clear hK K
   (repeat refine ZQ ?_); refine ZR fun K hK => ?_; simp (maxSteps := 1000000) [ty22]
   refine ZP (c21) ?_; simp (maxSteps := 1000000) [ty42]
   refine hK _ ?_; clear hK K
   (repeat refine ZQ ?_); refine ZR fun K hK => ?_; simp (maxSteps := 1000000) [ty3]; refine hK _ ?_; clear hK K
   (repeat refine ZQ ?_); refine awp_block ?_
   refine AWP.weak ?_ (wk_nil 5 5 1 (fu := true) (by simp) (by simp))
   refine awp_loop (fun i : Nat => ⟨ofL [(5, .own 5 1 0 i), (6, sPk P.isEmpty false P), (7, encI i)], stoT [(5, 5, .live ⟨(A i).isEmpty, false, 1, (A i).map cPk⟩)]⟩)
    (fun i => i ≤ P.length) (fun i => P.length - i) 0 (Nat.zero_le _) ?_ ?_
   ·rw [hA0]
    exact ZW
   ·intro i hi
    have hAi := hAl i hi
    (repeat refine ZQ ?_); refine ZR fun K hK => ?_; simp (maxSteps := 1000000) [ty42, ty3]; refine hK _ ?_; clear hK K
    (repeat refine ZQ ?_); refine ZC (fun hc => ?_) (fun hc => ?_)
    ·simp at hc
     have hst := hAs i hc
     have c39 := q_cards39 P[i].nl P[i].fu P[i].l (hck i hc)
     have w1 : IntKind.i64.wrap ((i : Int) + 1) = ((i + 1 : Nat) : Int) := by rw [wrap_id (by omega) (by omega)]; rfl
     refine awp_skip ?_
     (repeat refine ZQ ?_); refine awp_block ?_
     (repeat refine ZQ ?_); refine ZR fun K hK => ?_; simp (maxSteps := 1000000) [ty42, ty22, ty3, hc]
     generalize cardsB P[i].l = cs at *
     generalize A i = X at *
     refine ZP (c39) ?_; simp (maxSteps := 1000000) [ty22, ty42]
     refine ⟨by omega, ?_⟩
     refine hK _ ?_; clear hK K
     (repeat refine ZQ ?_); refine ZR fun K hK => ?_; simp (maxSteps := 1000000) [ty3, w1]; refine hK _ ?_; clear hK K; (first | show AWP _ _ _ _ _ | show ∃ _, _ | skip)
     refine ⟨i + 1, by omega, by omega, ?_⟩
     rw [hst]
     refine wk_shape2 [(5, 28, .live ⟨(X ++ [(⟨false, false, cs⟩ : Pk)]).isEmpty, false, 1, (X ++ [(⟨false, false, cs⟩ : Pk)]).map cPk⟩)] (by first | rfl | (simp only [if_pos, if_true]; rfl)) (shp0 hσ (by simp) (by simp) ?_) ?_
     ·simp [SlotOk] <;> (repeat' (first | (refine RowsOk.same ?_; simp [purel, C.isPure]; done) | (refine rowsCons ?_; simp [mtl, mtc, mT, mH, C.isPure, purel]; done) | (refine rowsCons ?_; simp [mtl, mtc, mT, mH, C.isPure, purel]) | refine And.intro ?_ ?_))
     ·simp [mtc, mtl, mT, C.isPure, purel] <;> (try simp (disch := omega) [wrap_id]) <;> (try omega)
    ·simp at hc
     (repeat refine ZQ ?_); refine awp_exit ?_; (first | show AWP _ _ _ _ _ | show ∃ _, _ | skip)
     have hin : i = P.length := by omega
     rw [hin] at hAi ⊢
     have ht : List.take P.length ((A P.length).map cPk) = (A P.length).map cPk := List.take_of_length_le (by simp; omega)
     generalize A P.length = X at *
     (repeat refine ZQ ?_); refine ZR fun K hK => ?_; simp (maxSteps := 1000000) [ty42]
     refine callL cw (by simp [viewL, mapO, viewC, C.isPure, purel, hAi, ht]) (.inr rfl) ?_
     simp [ty9]
     refine hK _ ?_; clear hK K
     (repeat refine ZQ ?_); refine awp_ret ?_; refine And.intro (Or.inr rfl) ?_
     simp [retC, resC, viewC, mapO]
 ·rw [if_neg h0]
  have h0' : ¬ (textsE L : Int) = 0 := h0
  generalize textsE L = e at *
  refine ZF (fn := Tryz.f13) [.tmp 2, .tmp 3] ⟨Tryz.func13, rfl, by kernel_rfl⟩ fun x hx hσ => ?_
  (repeat refine ZQ ?_); refine ZR fun K hK => ?_; simp (maxSteps := 1000000) [ty9]; refine hK _ ?_; clear hK K
  (repeat refine ZQ ?_); refine ZR fun K hK => ?_; simp (maxSteps := 1000000) [ty22]
  refine ZP (c31) ?_; simp (maxSteps := 1000000) [ty26]
  refine hK _ ?_; clear hK K
  (repeat refine ZQ ?_); refine ZR fun K hK => ?_; simp (maxSteps := 1000000) [ty26]; refine hK _ ?_; clear hK K
  (repeat refine ZQ ?_); refine ZC (hc := by simp [h0']; rfl) (fun hd => ?_) (fun hd => ?_)
  ·clear hd
   (repeat refine ZQ ?_); refine ZR fun K hK => ?_; simp (maxSteps := 1000000) [ty9]; refine hK _ ?_; clear hK K
   (repeat refine ZQ ?_); refine awp_ret ?_; refine And.intro (Or.inr rfl) ?_
   simp [retC, resC, viewC, mapO]
  ·simp [h0'] at hd

set_option maxHeartbeats 4000000
set_option maxRecDepth 20000


def digs : List UInt8 := [48, 49, 50, 51, 52, 53, 54, 55, 56, 57]

theorem digs_has (b : UInt8) : digs.contains b = dig1 b := by
 have key : ∀ n : Fin 256, digs.contains (UInt8.ofNat n) = dig1 (UInt8.ofNat n) := by decide
 have := key ⟨b.toNat, b.toNat_lt⟩
 simpa using this

theorem dw_head {p : UInt8 → Bool} : ∀ {l : List UInt8} {a r}, l.dropWhile p = a :: r → p a = false
 | [], _, _, h => by cases h
 | b :: l, a, r, h => by
  by_cases hb : p b = true
  ·rw [List.dropWhile_cons_of_pos hb] at h; exact dw_head h
  ·rw [List.dropWhile_cons_of_neg hb] at h; cases h; simpa using hb
theorem dw_nil {p : UInt8 → Bool} : ∀ {l : List UInt8}, (∀ x ∈ l, p x = true) → l.dropWhile p = []
 | [], _ => rfl
 | b :: l, h => by rw [List.dropWhile_cons_of_pos (h b (by simp))]; exact dw_nil fun x hx => h x (by simp [hx])

theorem trimS_nil (l cs : List UInt8) : (Lib.trimS l cs = []) ↔ ∀ b ∈ l, cs.contains b = true := by
 unfold Lib.trimS Lib.trimLeftS Lib.trimRightS
 constructor
 ·intro h
  cases hd : l.reverse.dropWhile (cs.contains ·) with
  | nil =>
   intro b hb
   have : ∀ x ∈ l.reverse, cs.contains x = true := by
    have h2 := List.takeWhile_append_dropWhile (p := (cs.contains ·)) (l := l.reverse)
    rw [hd, List.append_nil] at h2
    intro x hx
    rw [← h2] at hx
    exact List.all_eq_true.1 (List.all_takeWhile ..) x hx
   exact this b (by simpa using hb)
  | cons a r =>
   exfalso
   rw [hd] at h
   have ha : cs.contains a = false := dw_head (p := (cs.contains ·)) hd
   have : ∀ x ∈ (a :: r).reverse, cs.contains x = true := by
    have h2 := List.takeWhile_append_dropWhile (p := (cs.contains ·)) (l := (a :: r).reverse)
    rw [h, List.append_nil] at h2
    intro x hx
    rw [← h2] at hx
    exact List.all_eq_true.1 (List.all_takeWhile ..) x hx
   rw [this a (by simp)] at ha
   cases ha
 ·intro h
  have : l.reverse.dropWhile (cs.contains ·) = [] := dw_nil fun x hx => h x (by simpa using hx)
  rw [this]; rfl

theorem trim_digs (l : List UInt8) : (Lib.trimS l digs == []) = digB l := by
 rw [Bool.eq_iff_iff, beq_iff_eq, trimS_nil]
 simp only [digs_has, digB, List.all_eq_true]

theorem trimD (l : List UInt8) (hn : l.length ≤ 1000000) : Pure Tryz.prog 103 [encS l, encS digs] (encS (Lib.trimS l digs)) :=
 trim103 l digs hn (by decide) (by decide)

def numOk (l : List UInt8) : Bool := l.length == 2 && digB l
def numV (l : List UInt8) : Nat := if numOk l = true then numAt l else 0

theorem dig_bd {l : List UInt8} (h : digB l = true) : ∀ b ∈ l, 48 ≤ b.toNat ∧ b.toNat ≤ 57 := fun b hb => by
 have := List.all_eq_true.1 h b hb
 simpa [dig1] using this

theorem number101 (l : List UInt8) (hn : l.length ≤ 1000000) : Pure Tryz.prog 101 [encS l] (.tup [encI (numV l), .bool (numOk l)]) := by
 have hsz := S_size l
 have hc := trimD l hn
 have he := str_ne (Lib.trimS l digs) []
 rw [trim_digs] at he
 unfold numV numOk
 generalize Lib.trimS l digs = tr at *
 unfold digs at hc
 by_cases h2 : l.length = 2
 ·have h2' : (l.length : Int) = 2 := by omega
  have g0 := S_at (l := l) (i := 0) (by omega)
  have g1 := S_at (l := l) (i := 1) (by omega)
  have hna : numAt l = 10 * (l[0].toNat - 48) + (l[1].toNat - 48) := by
   unfold numAt
   simp [List.getD_eq_getElem?_getD, List.getElem?_eq_getElem (show 0 < l.length by omega), List.getElem?_eq_getElem (show 1 < l.length by omega)]
  rw [h2]
  cases hd : digB l
  ·rw [hd] at he
   rw [if_neg (by simp)]
   refine ZF (fn := Tryz.f101) [.tmp 2, .tmp 3] ⟨Tryz.func101, rfl, by kernel_rfl⟩ fun x hx hσ => ?_
   (repeat refine ZQ ?_); refine ZR fun K hK => ?_; simp (maxSteps := 1000000) [ty3, ty4]; refine hK _ ?_; clear hK K
   (repeat refine ZQ ?_); refine ZR fun K hK => ?_; simp (maxSteps := 1000000) [ty9, ty3, ty4, hsz, h2]
   refine ZP (hc) ?_; simp (maxSteps := 1000000) [ty9, ty4, he, -strBin]
   refine hK _ ?_; clear hK K
   (repeat refine ZQ ?_); refine ZC (fun hd2 => ?_) (fun hd2 => ?_)
   ·clear hd2
    (repeat refine ZQ ?_); refine ZR fun K hK => ?_; simp (maxSteps := 1000000) [ty3, ty4]; refine hK _ ?_; clear hK K
    (repeat refine ZQ ?_); refine awp_ret ?_; refine And.intro (Or.inr rfl) ?_
    simp [retC, resC, viewC, mapO]
   ·simp at hd2
  ·rw [hd] at he
   rw [if_pos (by simp)]
   have hb := dig_bd hd
   have b0 := hb l[0] (List.getElem_mem _)
   have b1 := hb l[1] (List.getElem_mem _)
   generalize l[0] = a at *
   generalize l[1] = b at *
   have w1 : IntKind.u8.wrap ((a.toNat : Int) - 48) = ((a.toNat - 48 : Nat) : Int) := by rw [wrap_u8 (by omega) (by omega)]; omega
   have w2 : IntKind.u8.wrap ((b.toNat : Int) - 48) = ((b.toNat - 48 : Nat) : Int) := by rw [wrap_u8 (by omega) (by omega)]; omega
   obtain ⟨p, hp⟩ : ∃ p, a.toNat - 48 = p := ⟨_, rfl⟩
   obtain ⟨q, hq⟩ : ∃ q, b.toNat - 48 = q := ⟨_, rfl⟩
   rw [hp, hq] at hna
   rw [hp] at w1
   rw [hq] at w2
   have w3 : IntKind.i64.wrap (p : Int) = p := wrap_id (by omega) (by omega)
   have w4 : IntKind.i64.wrap (q : Int) = q := wrap_id (by omega) (by omega)
   have w5 : IntKind.i64.wrap ((p : Int) * 10) = (p : Int) * 10 := wrap_id (by omega) (by omega)
   have w6 : IntKind.i64.wrap ((p : Int) * 10 + q) = (numAt l : Int) := by rw [wrap_id (by omega) (by omega), hna]; omega
   generalize numAt l = n at *
   refine ZF (fn := Tryz.f101) [.tmp 2, .tmp 3] ⟨Tryz.func101, rfl, by kernel_rfl⟩ fun x hx hσ => ?_
   (repeat refine ZQ ?_); refine ZR fun K hK => ?_; simp (maxSteps := 1000000) [ty3, ty4]; refine hK _ ?_; clear hK K
   (repeat refine ZQ ?_); refine ZR fun K hK => ?_; simp (maxSteps := 1000000) [ty9, ty3, ty4, hsz, h2]
   refine ZP (hc) ?_; simp (maxSteps := 1000000) [ty9, ty4, he, -strBin]
   refine hK _ ?_; clear hK K
   (repeat refine ZQ ?_); refine ZC (fun hd2 => ?_) (fun hd2 => ?_)
   ·simp at hd2
   ·clear hd2
    refine awp_skip ?_
    (repeat refine ZQ ?_); refine ZD [] [0, 1, 2, 3, 4, 5, 6, 7, 8, 9, 10, 11] fun K hK => ?_; simp (maxSteps := 1000000) [ty9, ty5, ty3, ty4, g0, g1, w1, w2, w3, w4, w5, w6]; refine hK _ ?_; clear hK K
    (repeat refine ZQ ?_); refine awp_ret ?_; refine And.intro (Or.inr rfl) ?_
    simp [retC, resC, viewC, mapO]
 ·have h2' : ¬ (l.length : Int) = 2 := by omega
  rw [show (l.length == 2) = false by simpa using h2]
  rw [if_neg (by simp)]
  refine ZF (fn := Tryz.f101) [.tmp 2, .tmp 3] ⟨Tryz.func101, rfl, by kernel_rfl⟩ fun x hx hσ => ?_
  (repeat refine ZQ ?_); refine ZR fun K hK => ?_; simp (maxSteps := 1000000) [ty3, ty4]; refine hK _ ?_; clear hK K; (first | show AWP _ _ _ _ _ | show ∃ _, _ | skip)
  have hne : ((l.length : Int) != 2) = true := by rw [bne_iff_ne]; exact h2'
  (repeat refine ZQ ?_); refine ZR fun K hK => ?_; simp (maxSteps := 1000000) [ty9, ty3, ty4, hsz, hne]; refine hK _ ?_; clear hK K
  (repeat refine ZQ ?_); refine ZC (fun hd2 => ?_) (fun hd2 => ?_)
  ·clear hd2
   (repeat refine ZQ ?_); refine ZR fun K hK => ?_; simp (maxSteps := 1000000) [ty3, ty4]; refine hK _ ?_; clear hK K
   (repeat refine ZQ ?_); refine awp_ret ?_; refine And.intro (Or.inr rfl) ?_
   simp [retC, resC, viewC, mapO]
  ·simp at hd2

theorem textOf72 (l : List UInt8) (h2 : 2 ≤ l.length) (hn : l.length ≤ 100000) : Pure Tryz.prog 72 [encS l] (.tup [encS ((textOfB l).getD []), .bool (textOfB l).isSome]) := by
 have hsz := S_size l
 have hx := S_ext l 0 2
 simp only [List.drop_zero] at hx
 have c := number101 (l.take 2) (by simp; omega)
 have hnt : numAt (l.take 2) = numAt l := by
  unfold numAt
  match l, h2 with
  | a :: b :: r, _ => rfl
 have hok : numOk (l.take 2) = digB (l.take 2) := by
  unfold numOk
  rw [List.length_take, show min 2 l.length = 2 by omega]; rfl
 have hnv : numV (l.take 2) = if digB (l.take 2) = true then numAt l else 0 := by unfold numV; rw [hok, hnt]
 rw [hok] at c
 unfold textOfB
 cases hd2 : digB (l.take 2)
 ·rw [hd2] at c
  rw [if_neg (by simp)]
  have hx3 := hx
  clear hx
  generalize numV (l.take 2) = n at *
  generalize l.take 2 = l2 at *
  refine ZF (fn := Tryz.f72) [.tmp 2, .tmp 3] ⟨Tryz.func72, rfl, by kernel_rfl⟩ fun x hx hσ => ?_
  (repeat refine ZQ ?_); refine ZR fun K hK => ?_; simp (maxSteps := 1000000) [ty9, ty4]; refine hK _ ?_; clear hK K
  (repeat refine ZQ ?_); refine ZR fun K hK => ?_; simp (maxSteps := 1000000) [ty9, ty4, hsz, h2, hx3]
  refine ZP (c) ?_; simp (maxSteps := 1000000) [ty3, ty4]
  refine hK _ ?_; clear hK K
  (repeat refine ZQ ?_); refine ZR fun K hK => ?_; simp (maxSteps := 1000000) [ty3, ty4, ty9]; refine hK _ ?_; clear hK K
  (repeat refine ZQ ?_); refine ZC (fun hd => ?_) (fun hd => ?_)
  ·clear hd
   (repeat refine ZQ ?_); refine ZR fun K hK => ?_; simp (maxSteps := 1000000) [ty9, ty4]; refine hK _ ?_; clear hK K
   (repeat refine ZQ ?_); refine awp_ret ?_; refine And.intro (Or.inr rfl) ?_
   simp [retC, resC, viewC, mapO]
  ·simp at hd
 ·rw [hd2] at c hnv
  rw [if_pos rfl] at hnv ⊢
  have hdg := dig_bd hd2
  rw [hnv] at c
  have hnb : numAt l ≤ 99 := by
   match l, h2 with
   | a :: b :: r, _ =>
    have d0 := hdg a (by simp)
    have d1 := hdg b (by simp)
    unfold numAt
    simp; omega
  generalize numAt l = n at *
  have w7 : IntKind.i64.wrap ((l.length : Int) - 2) = ((l.length - 2 : Nat) : Int) := by rw [wrap_id (by omega) (by omega)]; omega
  have w8 : IntKind.i64.wrap (2 + (n : Int)) = ((2 + n : Nat) : Int) := by rw [wrap_id (by omega) (by omega)]; omega
  have hx3 := hx
  clear hx hdg
  generalize l.take 2 = l2 at *
  by_cases hle : n ≤ l.length - 2
  ·have hle' : ¬ l.length - 2 < n := by omega
   have hex := S_ext l 2 (2 + n)
   have y1 : 2 ≤ 2 + n := by omega
   have y2 : 2 + n ≤ l.length := by omega
   rw [if_pos hle]
   obtain ⟨m, hm⟩ : ∃ m, 2 + n = m := ⟨_, rfl⟩
   rw [hm] at hex y1 y2 w8 ⊢
   refine ZF (fn := Tryz.f72) [.tmp 2, .tmp 3] ⟨Tryz.func72, rfl, by kernel_rfl⟩ fun x hx hσ => ?_
   (repeat refine ZQ ?_); refine ZR fun K hK => ?_; simp (maxSteps := 1000000) [ty9, ty4]; refine hK _ ?_; clear hK K
   (repeat refine ZQ ?_); refine ZR fun K hK => ?_; simp (maxSteps := 1000000) [ty9, ty4, hsz, h2, hx3]
   refine ZP (c) ?_; simp (maxSteps := 1000000) [ty3, ty4]
   refine hK _ ?_; clear hK K
   (repeat refine ZQ ?_); refine ZR fun K hK => ?_; simp (maxSteps := 1000000) [ty3, ty4, ty9, hsz, w7, hle']; refine hK _ ?_; clear hK K
   (repeat refine ZQ ?_); refine ZC (hc := by simp [hle']; rfl) (fun hd => ?_) (fun hd => ?_)
   ·simp [hle'] at hd
   ·clear hd
    refine awp_skip ?_
    (repeat refine ZQ ?_); refine ZR fun K hK => ?_; simp (maxSteps := 1000000) [ty9, ty3, ty4, hsz, w8, hex, y1, y2]; refine hK _ ?_; clear hK K
    (repeat refine ZQ ?_); refine awp_ret ?_; refine And.intro (Or.inr rfl) ?_
    simp [retC, resC, viewC, mapO]
  ·have hle' : l.length - 2 < n := by omega
   rw [if_neg hle]
   refine ZF (fn := Tryz.f72) [.tmp 2, .tmp 3] ⟨Tryz.func72, rfl, by kernel_rfl⟩ fun x hx hσ => ?_
   (repeat refine ZQ ?_); refine ZR fun K hK => ?_; simp (maxSteps := 1000000) [ty9, ty4]; refine hK _ ?_; clear hK K
   (repeat refine ZQ ?_); refine ZR fun K hK => ?_; simp (maxSteps := 1000000) [ty9, ty4, hsz, h2, hx3]
   refine ZP (c) ?_; simp (maxSteps := 1000000) [ty3, ty4]
   refine hK _ ?_; clear hK K
   (repeat refine ZQ ?_); refine ZR fun K hK => ?_; simp (maxSteps := 1000000) [ty3, ty4, ty9, hsz, w7, hle']; refine hK _ ?_; clear hK K
   (repeat refine ZQ ?_); refine ZC (hc := by simp [hle']; rfl) (fun hd => ?_) (fun hd => ?_)
   ·clear hd
    (repeat refine ZQ ?_); refine ZR fun K hK => ?_; simp (maxSteps := 1000000) [ty9, ty4]; refine hK _ ?_; clear hK K
    (repeat refine ZQ ?_); refine awp_ret ?_; refine And.intro (Or.inr rfl) ?_
    simp [retC, resC, viewC, mapO]
   ·simp [hle'] at hd

set_option maxHeartbeats 4000000
set_option maxRecDepth 20000


structure Cd where
 num : UInt8
 many : Int
 row : List UInt8
@[simp] abbrev encCd (c : Cd) : C := .agg [.int .u8 (c.num.toNat : Int), encI c.many, encS c.row]
def sumN (b : UInt8) : Bool := b == 97 || b == 98
def longN (c : Cd) : Nat := if sumN c.num = true then c.row.length / 2 else c.row.length

theorem isSum102 (c : Cd) : Pure Tryz.prog 102 [encCd c] (.bool (sumN c.num)) := by
 have e1 : ((c.num.toNat : Int) == 97) = (c.num == 97) := u8_eq c.num 97 (by decide)
 have e2 : ((c.num.toNat : Int) == 98) = (c.num == 98) := u8_eq c.num 98 (by decide)
 unfold sumN
 cases h1 : c.num == 97
 ·rw [h1] at e1
  cases h2 : c.num == 98
  ·rw [h2] at e2
   refine ZF (fn := Tryz.f102) [.tmp 2] ⟨Tryz.func102, rfl, by kernel_rfl⟩ fun x hx hσ => ?_
   (repeat refine ZQ ?_); refine ZR fun K hK => ?_; simp (maxSteps := 1000000) [ty107, ty4]; refine hK _ ?_; clear hK K
   (repeat refine ZQ ?_); refine ZR fun K hK => ?_; simp (maxSteps := 1000000) [ty107, ty5, ty4, e1, e2]; refine hK _ ?_; clear hK K
   (repeat refine ZQ ?_); refine awp_ret ?_; refine And.intro (Or.inr rfl) ?_
   simp [retC, resC, viewC, mapO]
  ·rw [h2] at e2
   refine ZF (fn := Tryz.f102) [.tmp 2] ⟨Tryz.func102, rfl, by kernel_rfl⟩ fun x hx hσ => ?_
   (repeat refine ZQ ?_); refine ZR fun K hK => ?_; simp (maxSteps := 1000000) [ty107, ty4]; refine hK _ ?_; clear hK K
   (repeat refine ZQ ?_); refine ZR fun K hK => ?_; simp (maxSteps := 1000000) [ty107, ty5, ty4, e1, e2]; refine hK _ ?_; clear hK K
   (repeat refine ZQ ?_); refine awp_ret ?_; refine And.intro (Or.inr rfl) ?_
   simp [retC, resC, viewC, mapO]
 ·rw [h1] at e1
  refine ZF (fn := Tryz.f102) [.tmp 2] ⟨Tryz.func102, rfl, by kernel_rfl⟩ fun x hx hσ => ?_
  (repeat refine ZQ ?_); refine ZR fun K hK => ?_; simp (maxSteps := 1000000) [ty107, ty4]; refine hK _ ?_; clear hK K
  (repeat refine ZQ ?_); refine ZR fun K hK => ?_; simp (maxSteps := 1000000) [ty107, ty5, ty4, e1]; refine hK _ ?_; clear hK K
  (repeat refine ZQ ?_); refine awp_ret ?_; refine And.intro (Or.inr rfl) ?_
  simp [retC, resC, viewC, mapO]

theorem long94 (c : Cd) (hn : c.row.length ≤ 1000000) : Pure Tryz.prog 94 [encCd c] (encI (longN c)) := by
 have hs := isSum102 c
 have hsz := S_size c.row
 have r1 : Int.tdiv (c.row.length : Int) 2 = ((c.row.length / 2 : Nat) : Int) := rfl
 have w1 : IntKind.i64.wrap ((c.row.length / 2 : Nat) : Int) = ((c.row.length / 2 : Nat) : Int) := wrap_id (by omega) (by omega)
 unfold longN
 generalize c.row.length / 2 = hl at *
 cases hb : sumN c.num
 ·rw [hb] at hs
  rw [if_neg (by simp)]
  refine ZF (fn := Tryz.f94) [.tmp 2] ⟨Tryz.func94, rfl, by kernel_rfl⟩ fun x hx hσ => ?_
  (repeat refine ZQ ?_); refine ZR fun K hK => ?_; simp (maxSteps := 1000000) [ty107, ty3]; refine hK _ ?_; clear hK K
  (repeat refine ZQ ?_); refine ZR fun K hK => ?_; simp (maxSteps := 1000000) [ty107, ty3]
  refine ZP (hs) ?_; simp (maxSteps := 1000000) [ty4]
  refine hK _ ?_; clear hK K
  (repeat refine ZQ ?_); refine ZC (fun hd => ?_) (fun hd => ?_)
  ·simp at hd
  ·clear hd
   refine awp_skip ?_
   (repeat refine ZQ ?_); refine ZR fun K hK => ?_; simp (maxSteps := 1000000) [ty107, ty9, ty3, hsz]; refine hK _ ?_; clear hK K
   (repeat refine ZQ ?_); refine awp_ret ?_; refine And.intro (Or.inr rfl) ?_
   simp [retC, resC, viewC, mapO]
 ·rw [hb] at hs
  rw [if_pos rfl]
  refine ZF (fn := Tryz.f94) [.tmp 2] ⟨Tryz.func94, rfl, by kernel_rfl⟩ fun x hx hσ => ?_
  (repeat refine ZQ ?_); refine ZR fun K hK => ?_; simp (maxSteps := 1000000) [ty107, ty3]; refine hK _ ?_; clear hK K
  (repeat refine ZQ ?_); refine ZR fun K hK => ?_; simp (maxSteps := 1000000) [ty107, ty3]
  refine ZP (hs) ?_; simp (maxSteps := 1000000) [ty4]
  refine hK _ ?_; clear hK K
  (repeat refine ZQ ?_); refine ZC (fun hd => ?_) (fun hd => ?_)
  ·clear hd
   (repeat refine ZQ ?_); refine ZR fun K hK => ?_; simp (maxSteps := 1000000) [ty107, ty9, ty3, hsz, r1, w1]; refine hK _ ?_; clear hK K
   (repeat refine ZQ ?_); refine awp_ret ?_; refine And.intro (Or.inr rfl) ?_
   simp [retC, resC, viewC, mapO]
  ·simp at hd

theorem mod99 (n : Int) (h1 : -1000000000 ≤ n) (h2 : n ≤ 1000000000) : Pure Tryz.prog 99 [encI n] (encI (n % 97)) := by
 have hrl := Int.tmod_lt_of_pos n (show (0 : Int) < 97 by decide)
 have hrg := Int.lt_tmod_of_pos n (show (0 : Int) < 97 by decide)
 have hq := Int.mul_tdiv_add_tmod n 97
 have r2 : Int.tmod (n.tmod 97 + 97) 97 = n % 97 := by
  rw [Int.tmod_eq_emod_of_nonneg (by omega)]
  omega
 have w1 : IntKind.i64.wrap (n.tmod 97) = n.tmod 97 := wrap_id (by omega) (by omega)
 have w2 : IntKind.i64.wrap (n.tmod 97 + 97) = n.tmod 97 + 97 := wrap_id (by omega) (by omega)
 have w3 : IntKind.i64.wrap (n % 97) = n % 97 := wrap_id (by omega) (by omega)
 clear hq hrl hrg
 refine ZF (fn := Tryz.f99) [.tmp 2] ⟨Tryz.func99, rfl, by kernel_rfl⟩ fun x hx hσ => ?_
 (repeat refine ZQ ?_); refine ZR fun K hK => ?_; simp (maxSteps := 1000000) [ty3]; refine hK _ ?_; clear hK K
 (repeat refine ZQ ?_); refine ZR fun K hK => ?_; simp (maxSteps := 1000000) [ty3, w1, w2, r2, w3]; refine hK _ ?_; clear hK K
 (repeat refine ZQ ?_); refine awp_ret ?_; refine And.intro (Or.inr rfl) ?_
 simp [retC, resC, viewC, mapO]

def invN (n : Nat) : Nat := ((List.range 97).find? fun o => o * n % 97 == 1).getD 0

theorem inv_ok : ∀ n : Fin 9, 1 ≤ n.val → 1 ≤ invN n ∧ invN n ≤ 96 ∧ invN n * n % 97 = 1 ∧ ∀ o : Fin 97, o.val < invN n → o.val * n.val % 97 ≠ 1 := by decide

theorem inverse100 (n : Nat) (h1 : 1 ≤ n) (h8 : n ≤ 8) : Pure Tryz.prog 100 [encI n] (encI (invN n)) := by
 obtain ⟨g1, g2, g3, g4⟩ := inv_ok ⟨n, by omega⟩ h1
 simp only at g1 g2 g3 g4
 generalize invN n = v at *
 refine ZF (fn := Tryz.f100) [.tmp 2] ⟨Tryz.func100, rfl, by kernel_rfl⟩ fun x hx hσ => ?_
 (repeat refine ZQ ?_); refine ZR fun K hK => ?_; simp (maxSteps := 1000000) [ty3]; refine hK _ ?_; clear hK K
 (repeat refine ZQ ?_); refine ZR fun K hK => ?_; simp (maxSteps := 1000000) [ty3]; refine hK _ ?_; clear hK K
 (repeat refine ZQ ?_); refine awp_block ?_
 refine awp_loop (fun i : Nat => ⟨ofL [(0, encI n), (3, encI ((i : Int) + 1))], stoT []⟩)
  (fun i => i + 1 ≤ v) (fun i => v - i) 0 (by omega) ?_ ?_
 ·exact ZW
 ·intro i hi
  have hb : (i + 1) * n ≤ 97 * 8 := Nat.mul_le_mul (by omega) h8
  have hmc : ((i : Int) + 1) * (n : Int) = (((i + 1) * n : Nat) : Int) := by rw [Int.natCast_mul]; rfl
  obtain ⟨p, hp⟩ : ∃ p, (i + 1) * n = p := ⟨_, rfl⟩
  rw [hp] at hb hmc
  have w1 : IntKind.i64.wrap (p : Int) = p := wrap_id (by omega) (by omega)
  have r1 : Int.tmod (p : Int) 97 = ((p % 97 : Nat) : Int) := rfl
  obtain ⟨q, hq⟩ : ∃ q, p % 97 = q := ⟨_, rfl⟩
  rw [hq] at r1
  have hq97 : q < 97 := by omega
  have w2 : IntKind.i64.wrap (q : Int) = q := wrap_id (by omega) (by omega)
  have w3 : IntKind.i64.wrap ((q : Int) + 97) = (q : Int) + 97 := wrap_id (by omega) (by omega)
  have r2 : Int.tmod ((q : Int) + 97) 97 = (q : Int) := by
   rw [Int.tmod_eq_emod_of_nonneg (by omega)]; omega
  have w4 : IntKind.i64.wrap ((i : Int) + 1 + 1) = ((i + 1 : Nat) : Int) + 1 := by rw [wrap_id (by omega) (by omega)]; rfl
  by_cases hv : i + 1 = v
  ·have hq1 : (q : Int) = 1 := by rw [← hv, hp, hq] at g3; omega
   rw [hq1] at r1
   have v1 : IntKind.i64.wrap 98 = 98 := wrap_id (by omega) (by omega)
   have v2 : Int.tmod 98 97 = 1 := by decide
   have v3 : IntKind.i64.wrap 1 = 1 := wrap_id (by omega) (by omega)
   (repeat refine ZQ ?_); refine ZR fun K hK => ?_; simp (maxSteps := 1000000) [ty3, hmc, w1, r1, v1, v2, v3]; refine hK _ ?_; clear hK K
   (repeat refine ZQ ?_); refine ZC (fun hd => ?_) (fun hd => ?_)
   ·simp at hd
   ·clear hd
    (repeat refine ZQ ?_); refine awp_exit ?_
    (repeat refine ZQ ?_); refine ZR fun K hK => ?_; simp (maxSteps := 1000000) [ty3]; refine hK _ ?_; clear hK K
    (repeat refine ZQ ?_); refine awp_ret ?_; refine And.intro (Or.inr rfl) ?_
    rw [← hv]
    simp [retC, resC, viewC, mapO]
  ·have hq1 : ¬ (q : Int) = 1 := by
    have := g4 ⟨i + 1, by omega⟩ (by simp only; omega)
    simp only at this
    rw [hp, hq] at this
    omega
   have hne : ((q : Int) != 1) = true := by rw [bne_iff_ne]; exact hq1
   (repeat refine ZQ ?_); refine ZR fun K hK => ?_; simp (maxSteps := 1000000) [ty3, hmc, w1, r1, w2, w3, r2, hne]; refine hK _ ?_; clear hK K
   (repeat refine ZQ ?_); refine ZC (fun hd => ?_) (fun hd => ?_)
   ·clear hd
    refine awp_skip ?_
    (repeat refine ZQ ?_); refine awp_block ?_
    (repeat refine ZQ ?_); refine ZR fun K hK => ?_; simp (maxSteps := 1000000) [ty3, w4]; refine hK _ ?_; clear hK K; (first | show AWP _ _ _ _ _ | show ∃ _, _ | skip)
    refine ⟨i + 1, by omega, by omega, ?_⟩
    exact ZW
   ·simp at hd

set_option maxHeartbeats 8000000
set_option maxRecDepth 20000


def badF (l : List UInt8) : Bool := !Lib.hasSuffix l [10, 10] || l.headD 0 == 10 || Lib.contains l [10, 10, 10]
def cutP (l : List UInt8) : List Pk := (splitL [10, 10] (Lib.trimSuffix l [10, 10])).map fun t => ⟨false, true, splitL [10] t⟩
def cutB (l : List UInt8) : Option (List Pk) := if l = [] then some [] else if badF l = true then none else some (cutP l)
@[simp] abbrev sPs (P : List Pk) : C := .sl P.isEmpty P.isEmpty (P.map cPk)

theorem split_ne (p l : List UInt8) (hp : 1 ≤ p.length) : splitL p l ≠ [] := by
 intro h
 have hlen := Lib.splitB_all (S p) (by rw [S_size]; exact hp) 0 _ (S l) rfl
 have := congrArg List.length h
 unfold splitL at this
 rw [List.length_map, hlen] at this
 simp at this

theorem split_len (p l : List UInt8) (hp : 1 ≤ p.length) : (splitL p l).length ≤ l.length + 1 := by
 have hlen := Lib.splitB_all (S p) (by rw [S_size]; exact hp) 0 _ (S l) rfl
 have hle := Lib.countB_le (S p) (by rw [S_size]; exact hp) (S l).size (S l) (Nat.le_refl _)
 unfold splitL
 rw [List.length_map, hlen]
 rw [S_size] at hle
 omega

theorem trimSuffix_len (l p : List UInt8) : (Lib.trimSuffix l p).length ≤ l.length := by
 unfold Lib.trimSuffix
 split
 ·rw [List.length_take]; omega
 ·exact Nat.le_refl _

theorem splitB_len (sep : ByteArray) : ∀ (k : Nat) (s b : ByteArray), b ∈ Lib.splitB sep 0 k s → b.size ≤ s.size
 | 0, s, b, h => by
  rw [Lib.splitB_zero] at h
  simp at h; subst h; exact Nat.le_refl _
 | k + 1, s, b, h => by
  unfold Lib.splitB at h
  split at h
  ·simp at h; subst h; exact Nat.le_refl _
  ·simp only [List.mem_cons] at h
   rcases h with rfl | h
   ·simp [ByteArray.size_extract]; omega
   ·have := splitB_len sep k _ b h
    have h2 : (s.extract ((Lib.indexB s sep).toNat + sep.size) s.size).size ≤ s.size := by simp [ByteArray.size_extract]
    exact Nat.le_trans this h2

theorem split_mem (p l t : List UInt8) (h : t ∈ splitL p l) : t.length ≤ l.length := by
 unfold splitL at h
 obtain ⟨b, hb, rfl⟩ := List.mem_map.1 h
 have := splitB_len _ _ _ _ hb
 rw [S_size] at this
 rw [Array.length_toList]
 exact this

theorem cut41_ok (l : List UInt8) (hn : l.length ≤ 100000) (hl : l ≠ []) (hb : badF l = false) : Pure Tryz.prog 41 [encS l] (.tup [sPs (cutP l), .bool true]) := by
 have he := str_eq l []
 rw [show (l == []) = false by rw [beq_eq_false_iff_ne]; exact hl] at he
 have hsz := S_size l
 have c1 := hasSuffix66 l [10, 10] (by omega)
 have c2 := contains67 l [10, 10, 10] (by omega)
 have hlp : 0 < l.length := by cases l with
  | nil => exact absurd rfl hl
  | cons a r => simp
 have g0 := S_at (l := l) (i := 0) hlp
 have u0 : ((l[0].toNat : Int) == 10) = (l[0] == 10) := u8_eq l[0] 10 (by decide)
 have hh : l.headD 0 = l[0] := by cases l with
  | nil => exact absurd rfl hl
  | cons a r => rfl
 unfold badF at hb
 rw [hh] at hb
 simp only [Bool.or_eq_false_iff, Bool.not_eq_false'] at hb
 obtain ⟨⟨b1, b2⟩, b3⟩ := hb
 rw [b1] at c1
 rw [b2] at u0
 rw [b3] at c2
 have c3 := trimSuffix69 l [10, 10] (by omega)
 have htl := trimSuffix_len l [10, 10]
 unfold cutP
 generalize Lib.trimSuffix l [10, 10] = tr at *
 have c4 := split68 tr [10, 10] (by omega) (by simp)
 have hne := split_ne [10, 10] tr (by simp)
 have hlen := split_len [10, 10] tr (by simp)
 have hmem := split_mem [10, 10] tr
 generalize splitL [10, 10] tr = L at *
 obtain ⟨A, hA⟩ : ∃ A : Nat → List Pk, ∀ i, A i = (L.take i).map fun t => (⟨false, true, splitL [10] t⟩ : Pk) := ⟨_, fun _ => rfl⟩
 have hA0 : A 0 = [] := by rw [hA]; rfl
 have hAl : ∀ i, i ≤ L.length → (A i).length = i := fun i hi => by rw [hA]; simp; omega
 have hAs : ∀ i (hi : i < L.length), A (i + 1) = A i ++ [⟨false, true, splitL [10] L[i]⟩] := fun i hi => by
  rw [hA, hA, List.take_succ_eq_append_getElem hi, List.map_append]; rfl
 have hAn : (L.map fun t => (⟨false, true, splitL [10] t⟩ : Pk)) = A L.length := by rw [hA, List.take_length]
 rw [hAn]
 have hL0 : 0 < L.length := by cases L with
  | nil => exact absurd rfl hne
  | cons a r => simp
 clear hA hAn
 refine ZF (fn := Tryz.f41) [.tmp 2, .tmp 3] ⟨Tryz.func41, rfl, by kernel_rfl⟩ fun x hx hσ => ?_
 (repeat refine ZQ ?_); refine ZR fun K hK => ?_; simp (maxSteps := 1000000) [ty42, ty4]; refine hK _ ?_; clear hK K
 (repeat refine ZQ ?_); refine ZR fun K hK => ?_; simp (maxSteps := 1000000) [ty9, he, -strBin]; refine hK _ ?_; clear hK K
 (repeat refine ZQ ?_); refine ZC (fun hd => ?_) (fun hd => ?_)
 ·simp at hd
 ·clear hd
  refine awp_skip ?_
  (repeat refine ZQ ?_); refine ZR fun K hK => ?_; simp (maxSteps := 1000000) [ty9, ty4]
  refine ZP (c1) ?_; simp (maxSteps := 1000000) [ty9, ty4, ty5, hlp, g0, u0]
  refine ZP (c2) ?_; simp (maxSteps := 1000000) [ty4]
  refine hK _ ?_; clear hK K
  (repeat refine ZQ ?_); refine ZC (fun hd => ?_) (fun hd => ?_)
  ·simp at hd
  ·clear hd
   refine awp_skip ?_
   (repeat refine ZQ ?_); refine ZR fun K hK => ?_; simp (maxSteps := 1000000) [ty42]; refine hK _ ?_; clear hK K
   (repeat refine ZQ ?_); refine ZR fun K hK => ?_; simp (maxSteps := 1000000) [ty9]
   refine ZP (c3) ?_; simp (maxSteps := 1000000) [ty9]
   refine ZP (c4) ?_; simp (maxSteps := 1000000) [ty22]
   refine hK _ ?_; clear hK K
   (repeat refine ZQ ?_); refine awp_block ?_
   refine AWP.weak ?_ (wk_nil 4 4 1 (fu := true) (by simp) (by simp))
   refine awp_loop (fun i : Nat => ⟨ofL [(4, .own 4 1 0 i), (23, sT false true L), (24, encI L.length), (25, encI i)], stoT [(4, 4, .live ⟨(A i).isEmpty, false, 1, (A i).map cPk⟩)]⟩)
    (fun i => i ≤ L.length) (fun i => L.length - i) 0 (Nat.zero_le _) ?_ ?_
   ·rw [hA0]
    exact ZW
   ·intro i hi
    have hAi := hAl i hi
    (repeat refine ZQ ?_); refine ZR fun K hK => ?_; simp (maxSteps := 1000000) [ty3]; refine hK _ ?_; clear hK K
    (repeat refine ZQ ?_); refine ZC (fun hc => ?_) (fun hc => ?_)
    ·simp at hc
     have hst := hAs i hc
     have hml := hmem _ (List.getElem_mem hc)
     have c5 := split68 L[i] [10] (by omega) (by simp)
     generalize splitL [10] L[i] = sp at *
     have w1 : IntKind.i64.wrap ((i : Int) + 1) = ((i + 1 : Nat) : Int) := by rw [wrap_id (by omega) (by omega)]; rfl
     generalize A i = X at *
     refine awp_skip ?_
     (repeat refine ZQ ?_); refine awp_block ?_
     (repeat refine ZQ ?_); refine ZR fun K hK => ?_; simp (maxSteps := 1000000) [ty22, ty9, hc]; refine hK _ ?_; clear hK K
     (repeat refine ZQ ?_); refine ZR fun K hK => ?_; simp (maxSteps := 1000000) [ty42, ty9]
     refine ZP (c5) ?_; simp (maxSteps := 1000000) [ty22, ty42]
     refine ⟨by omega, ?_⟩
     refine hK _ ?_; clear hK K
     (repeat refine ZQ ?_); refine ZR fun K hK => ?_; simp (maxSteps := 1000000) [ty3, w1]; refine hK _ ?_; clear hK K; (first | show AWP _ _ _ _ _ | show ∃ _, _ | skip)
     refine ⟨i + 1, by omega, by omega, ?_⟩
     rw [hst]
     refine wk_shape2 [(4, 33, .live ⟨(X ++ [(⟨false, true, sp⟩ : Pk)]).isEmpty, false, 1, (X ++ [(⟨false, true, sp⟩ : Pk)]).map cPk⟩)] (by first | rfl | (simp only [if_pos, if_true]; rfl)) (shp0 hσ (by simp) (by simp) ?_) ?_
     ·simp [SlotOk] <;> (repeat' (first | (refine RowsOk.same ?_; simp [purel, C.isPure]; done) | (refine rowsCons ?_; simp [mtl, mtc, mT, mH, C.isPure, purel]; done) | (refine rowsCons ?_; simp [mtl, mtc, mT, mH, C.isPure, purel]) | refine And.intro ?_ ?_))
     ·simp [mtc, mtl, mT, C.isPure, purel] <;> (try simp (disch := omega) [wrap_id]) <;> (try omega)
    ·simp at hc
     (repeat refine ZQ ?_); refine awp_exit ?_; (first | show AWP _ _ _ _ _ | show ∃ _, _ | skip)
     have hin : i = L.length := by omega
     rw [hin] at hAi ⊢
     have hem : (A L.length).isEmpty = false := by
      cases h1 : A L.length with
      | nil => rw [h1] at hAi; simp at hAi; omega
      | cons a r => rfl
     have ht : List.take L.length ((A L.length).map cPk) = (A L.length).map cPk := List.take_of_length_le (by simp; omega)
     (repeat refine ZQ ?_); refine ZR fun K hK => ?_; simp (maxSteps := 1000000) [ty42, ty4]; refine hK _ ?_; clear hK K
     (repeat refine ZQ ?_); refine awp_ret ?_; refine And.intro (Or.inr rfl) ?_
     simp [retC, resC, viewC, mapO, purel, C.isPure, hem, hAi, ht]

theorem cut41 (l : List UInt8) (hn : l.length ≤ 100000) : Pure Tryz.prog 41 [encS l] (.tup [sPs ((cutB l).getD []), .bool (cutB l).isSome]) := by
 unfold cutB
 by_cases hl : l = []
 ·subst hl
  have he := str_eq [] []
  rw [if_pos rfl]
  refine ZF (fn := Tryz.f41) [.tmp 2, .tmp 3] ⟨Tryz.func41, rfl, by kernel_rfl⟩ fun x hx hσ => ?_
  (repeat refine ZQ ?_); refine ZR fun K hK => ?_; simp (maxSteps := 1000000) [ty42, ty4]; refine hK _ ?_; clear hK K
  (repeat refine ZQ ?_); refine ZR fun K hK => ?_; simp (maxSteps := 1000000) [ty9, he, -strBin]; refine hK _ ?_; clear hK K
  (repeat refine ZQ ?_); refine ZC (fun hd => ?_) (fun hd => ?_)
  ·clear hd
   (repeat refine ZQ ?_); refine ZR fun K hK => ?_; simp (maxSteps := 1000000) [ty42, ty4]; refine hK _ ?_; clear hK K
   (repeat refine ZQ ?_); refine awp_ret ?_; refine And.intro (Or.inr rfl) ?_
   simp [retC, resC, viewC, mapO]
  ·simp at hd
 ·rw [if_neg hl]
  cases hb : badF l
  ·rw [if_neg (by simp)]
   exact cut41_ok l hn hl hb
  ·rw [if_pos rfl]
   have he := str_eq l []
   rw [show (l == []) = false by rw [beq_eq_false_iff_ne]; exact hl] at he
   have hsz := S_size l
   have c1 := hasSuffix66 l [10, 10] (by omega)
   have c2 := contains67 l [10, 10, 10] (by omega)
   have hlp : 0 < l.length := by cases l with
    | nil => exact absurd rfl hl
    | cons a r => simp
   have g0 := S_at (l := l) (i := 0) hlp
   have u0 : ((l[0].toNat : Int) == 10) = (l[0] == 10) := u8_eq l[0] 10 (by decide)
   have hh : l.headD 0 = l[0] := by cases l with
    | nil => exact absurd rfl hl
    | cons a r => rfl
   unfold badF at hb
   rw [hh] at hb
   cases b1 : Lib.hasSuffix l [10, 10]
   ·rw [b1] at c1
    refine ZF (fn := Tryz.f41) [.tmp 2, .tmp 3] ⟨Tryz.func41, rfl, by kernel_rfl⟩ fun x hx hσ => ?_
    (repeat refine ZQ ?_); refine ZR fun K hK => ?_; simp (maxSteps := 1000000) [ty42, ty4]; refine hK _ ?_; clear hK K
    (repeat refine ZQ ?_); refine ZR fun K hK => ?_; simp (maxSteps := 1000000) [ty9, he, -strBin]; refine hK _ ?_; clear hK K
    (repeat refine ZQ ?_); refine ZC (fun hd => ?_) (fun hd => ?_)
    ·simp at hd
    ·clear hd
     refine awp_skip ?_
     (repeat refine ZQ ?_); refine ZR fun K hK => ?_; simp (maxSteps := 1000000) [ty9, ty4]
     refine ZP (c1) ?_; simp (maxSteps := 1000000) [ty9, ty4]
     refine hK _ ?_; clear hK K
     (repeat refine ZQ ?_); refine ZC (fun hd => ?_) (fun hd => ?_)
     ·clear hd
      (repeat refine ZQ ?_); refine ZR fun K hK => ?_; simp (maxSteps := 1000000) [ty42, ty4]; refine hK _ ?_; clear hK K
      (repeat refine ZQ ?_); refine awp_ret ?_; refine And.intro (Or.inr rfl) ?_
      simp [retC, resC, viewC, mapO]
     ·simp at hd
   ·rw [b1] at c1 hb
    cases b2 : l[0] == 10
    ·rw [b2] at u0 hb
     have b3 : Lib.contains l [10, 10, 10] = true := by simpa using hb
     rw [b3] at c2
     refine ZF (fn := Tryz.f41) [.tmp 2, .tmp 3] ⟨Tryz.func41, rfl, by kernel_rfl⟩ fun x hx hσ => ?_
     (repeat refine ZQ ?_); refine ZR fun K hK => ?_; simp (maxSteps := 1000000) [ty42, ty4]; refine hK _ ?_; clear hK K
     (repeat refine ZQ ?_); refine ZR fun K hK => ?_; simp (maxSteps := 1000000) [ty9, he, -strBin]; refine hK _ ?_; clear hK K
     (repeat refine ZQ ?_); refine ZC (fun hd => ?_) (fun hd => ?_)
     ·simp at hd
     ·clear hd
      refine awp_skip ?_
      (repeat refine ZQ ?_); refine ZR fun K hK => ?_; simp (maxSteps := 1000000) [ty9, ty4]
      refine ZP (c1) ?_; simp (maxSteps := 1000000) [ty9, ty4, ty5, hlp, g0, u0]
      refine ZP (c2) ?_; simp (maxSteps := 1000000) [ty4]
      refine hK _ ?_; clear hK K
      (repeat refine ZQ ?_); refine ZC (fun hd => ?_) (fun hd => ?_)
      ·clear hd
       (repeat refine ZQ ?_); refine ZR fun K hK => ?_; simp (maxSteps := 1000000) [ty42, ty4]; refine hK _ ?_; clear hK K
       (repeat refine ZQ ?_); refine awp_ret ?_; refine And.intro (Or.inr rfl) ?_
       simp [retC, resC, viewC, mapO]
      ·simp at hd
    ·rw [b2] at u0
     refine ZF (fn := Tryz.f41) [.tmp 2, .tmp 3] ⟨Tryz.func41, rfl, by kernel_rfl⟩ fun x hx hσ => ?_
     (repeat refine ZQ ?_); refine ZR fun K hK => ?_; simp (maxSteps := 1000000) [ty42, ty4]; refine hK _ ?_; clear hK K
     (repeat refine ZQ ?_); refine ZR fun K hK => ?_; simp (maxSteps := 1000000) [ty9, he, -strBin]; refine hK _ ?_; clear hK K
     (repeat refine ZQ ?_); refine ZC (fun hd => ?_) (fun hd => ?_)
     ·simp at hd
     ·clear hd
      refine awp_skip ?_
      (repeat refine ZQ ?_); refine ZR fun K hK => ?_; simp (maxSteps := 1000000) [ty9, ty4]
      refine ZP (c1) ?_; simp (maxSteps := 1000000) [ty9, ty4, ty5, hlp, g0, u0]
      refine hK _ ?_; clear hK K
      (repeat refine ZQ ?_); refine ZC (fun hd => ?_) (fun hd => ?_)
      ·clear hd
       (repeat refine ZQ ?_); refine ZR fun K hK => ?_; simp (maxSteps := 1000000) [ty42, ty4]; refine hK _ ?_; clear hK K
       (repeat refine ZQ ?_); refine awp_ret ?_; refine And.intro (Or.inr rfl) ?_
       simp [retC, resC, viewC, mapO]
      ·simp at hd

set_option maxHeartbeats 8000000
set_option maxRecDepth 20000


def zCd : Cd := ⟨0, 0, []⟩
def headC (l : List UInt8) : Cd := ⟨l.getD 0 0, ((l.getD 1 0).toNat : Int) - 48, (l.take (l.length - 2)).drop 2⟩
def bad1 (l : List UInt8) : Bool := decide (l.length < 6) || !plainB l
def bad2 (l : List UInt8) : Bool := !(checkB (l.take (l.length - 2)) == l.drop (l.length - 2)) || decide ((headC l).many < 1) || decide (8 < (headC l).many)
def bad3 (c : Cd) : Bool := if sumN c.num = true then c.row.length % 2 == 1 || !digB c.row else decide (c.num.toNat < 49) || decide (c.many < (c.num.toNat : Int) - 48)
def parseC (l : List UInt8) : Cd := if (bad1 l || bad2 l || bad3 (headC l)) = true then zCd else headC l
def parseOk (l : List UInt8) : Bool := !bad1 l && !bad2 l && !bad3 (headC l) && decide (2 ≤ longN (headC l)) && decide (longN (headC l) ≤ 62)


theorem parse_1 (l : List UInt8) (h : bad1 l = true) : Pure Tryz.prog 73 [encS l] (.tup [encCd zCd, .bool false]) := by
 have hsz := S_size l
 unfold bad1 at h
 by_cases h6 : l.length < 6
 ·have h6' : (l.length : Int) < 6 := by omega
  refine ZF (fn := Tryz.f73) [.cell 2 107, .tmp 3] ⟨Tryz.func73, rfl, by kernel_rfl⟩ fun x hx hσ => ?_
  (repeat refine ZQ ?_); refine ZR fun K hK => ?_; simp (maxSteps := 1000000) [ty107, ty4]; refine hK _ ?_; clear hK K
  (repeat refine ZQ ?_); refine ZR fun K hK => ?_; simp (maxSteps := 1000000) [ty9, ty3, ty4, hsz, h6']; refine hK _ ?_; clear hK K
  (repeat refine ZQ ?_); refine ZC (hc := by simp [h6']; rfl) (fun hd => ?_) (fun hd => ?_)
  ·clear hd
   (repeat refine ZQ ?_); refine ZR fun K hK => ?_; simp (maxSteps := 1000000) [ty107, ty4, ty5, ty3, ty9]; refine hK _ ?_; clear hK K
   (repeat refine ZQ ?_); refine awp_ret ?_; refine And.intro (Or.inr rfl) ?_
   refine ⟨_, by simp [retC, resC, ty107]; rfl, ?_⟩
   simp [viewC, mapO, zCd]
  ·simp [h6'] at hd
 ·have h6' : ¬ (l.length : Int) < 6 := by omega
  have hp : plainB l = false := by simpa [h6] using h
  have c := isPlain53 l
  rw [hp] at c
  refine ZF (fn := Tryz.f73) [.cell 2 107, .tmp 3] ⟨Tryz.func73, rfl, by kernel_rfl⟩ fun x hx hσ => ?_
  (repeat refine ZQ ?_); refine ZR fun K hK => ?_; simp (maxSteps := 1000000) [ty107, ty4]; refine hK _ ?_; clear hK K
  (repeat refine ZQ ?_); refine ZR fun K hK => ?_; simp (maxSteps := 1000000) [ty9, ty3, ty4, hsz, h6']
  refine ZP (c) ?_; simp (maxSteps := 1000000) [ty4]
  refine hK _ ?_; clear hK K
  (repeat refine ZQ ?_); refine ZC (fun hd => ?_) (fun hd => ?_)
  ·clear hd
   (repeat refine ZQ ?_); refine ZR fun K hK => ?_; simp (maxSteps := 1000000) [ty107, ty4, ty5, ty3, ty9]; refine hK _ ?_; clear hK K
   (repeat refine ZQ ?_); refine awp_ret ?_; refine And.intro (Or.inr rfl) ?_
   refine ⟨_, by simp [retC, resC, ty107]; rfl, ?_⟩
   simp [viewC, mapO, zCd]
  ·simp at hd

set_option maxHeartbeats 8000000
set_option maxRecDepth 20000




structure LnF (l : List UInt8) (e : Nat) (b : UInt8) (cd : Cd) (ck : Bool) : Prop where
 hsz : (S l).size = l.length
 h6 : ¬ (l.length : Int) < 6
 cpl : Abs.Pure Tryz.prog 53 [encS l] (.bool true)
 wE : IntKind.i64.wrap ((l.length : Int) - 2) = (e : Int)
 g0 : (S l)[0]? = some cd.num
 g1 : (S l)[1]? = some b
 w0 : IntKind.i64.wrap (b.toNat : Int) = b.toNat
 w1 : IntKind.i64.wrap ((b.toNat : Int) - 48) = cd.many
 hx2 : (S l).extract 2 e = S cd.row
 e2 : 2 ≤ e
 eL : e ≤ l.length
 hx0 : (S l).extract 0 e = S (l.take e)
 cck : Abs.Pure Tryz.prog 57 [encS (l.take e)] (encS (checkB (l.take e)))
 hxe : (S l).extract e l.length = S (l.drop e)
 hne : strBin .neq (S (checkB (l.take e))) (S (l.drop e)) = some (.bool (!ck))
 mb : -48 ≤ cd.many ∧ cd.many ≤ 207
 rl : cd.row.length ≤ 100000
 nb : cd.num.toNat < 256

theorem lnF (l : List UInt8) (hn : l.length ≤ 100000) (h : bad1 l = false) : LnF l (l.length - 2) (l.getD 1 0) (headC l) (checkB (l.take (l.length - 2)) == l.drop (l.length - 2)) := by
 unfold bad1 at h
 simp only [Bool.or_eq_false_iff, decide_eq_false_iff_not, Bool.not_eq_false'] at h
 obtain ⟨h6, hp⟩ := h
 have hsz := S_size l
 have k0 : l.getD 0 0 = l[0] := by simp [List.getD_eq_getElem?_getD, List.getElem?_eq_getElem (show 0 < l.length by omega)]
 have k1 : l.getD 1 0 = l[1] := by simp [List.getD_eq_getElem?_getD, List.getElem?_eq_getElem (show 1 < l.length by omega)]
 have hb : (l.getD 1 0).toNat < 256 := (l.getD 1 0).toNat_lt
 have c := isPlain53 l
 rw [hp] at c
 have hx := S_ext l 0 (l.length - 2)
 simp only [List.drop_zero] at hx
 have hy := S_ext l (l.length - 2) l.length
 rw [List.take_length] at hy
 refine ⟨hsz, by omega, c, by rw [wrap_id (by omega) (by omega)]; omega, by rw [S_at (show 0 < l.length by omega)]; simp only [headC, k0], by rw [S_at (show 1 < l.length by omega), k1], wrap_id (by omega) (by omega), by rw [wrap_id (by omega) (by omega)]; rfl,
  S_ext l 2 (l.length - 2), by omega, by omega, hx, check57 _ (by simp; omega) (take_nn fun x hx => plain_ge hp x (List.mem_of_mem_take hx)), hy, str_ne _ _, ?_, ?_, UInt8.toNat_lt _⟩
 ·simp only [headC]; omega
 ·simp only [headC, List.length_drop, List.length_take]; omega

theorem parse_2 (l : List UInt8) (hn : l.length ≤ 100000) (h1 : bad1 l = false) (h2 : bad2 l = true) : Pure Tryz.prog 73 [encS l] (.tup [encCd zCd, .bool false]) := by
 have f := lnF l hn h1
 unfold bad2 at h2
 generalize l.length - 2 = e at *
 generalize headC l = cd at *
 generalize l.getD 1 0 = b at *
 generalize (checkB (l.take e) == l.drop e) = ck at *
 have hm := f.mb
 cases ck
 ·refine ZF (fn := Tryz.f73) [.cell 2 107, .tmp 3] ⟨Tryz.func73, rfl, by kernel_rfl⟩ fun x hx hσ => ?_
  (repeat refine ZQ ?_); refine ZR fun K hK => ?_; simp (maxSteps := 1000000) [ty107, ty4]; refine hK _ ?_; clear hK K
  (repeat refine ZQ ?_); refine ZR fun K hK => ?_; simp (maxSteps := 1000000) [ty9, ty3, ty4, f.hsz, f.h6]
  refine ZP (f.cpl) ?_; simp (maxSteps := 1000000) [ty4]
  refine hK _ ?_; clear hK K
  (repeat refine ZQ ?_); refine ZC (fun hd => ?_) (fun hd => ?_)
  ·simp at hd
  ·clear hd
   refine awp_skip ?_
   (repeat refine ZQ ?_); refine ZR fun K hK => ?_; simp (maxSteps := 1000000) [ty9, ty3, f.hsz, f.wE]; refine hK _ ?_; clear hK K
   (repeat refine ZQ ?_); refine ZD [] [0, 1, 2, 3, 4, 5, 6, 7, 8, 9, 10, 11] fun K hK => ?_; simp (maxSteps := 1000000) [ty9, ty5, ty3, ty107, f.g0, f.g1, f.w0, f.w1, f.hx2, f.hsz, f.e2, f.eL]; refine hK _ ?_; clear hK K
   (repeat refine ZQ ?_); refine ZD [] [0, 1, 2, 3, 4, 5, 6, 7, 8, 9, 10, 11, 12, 13, 14, 15, 16, 17] fun K hK => ?_; simp (maxSteps := 1000000) [ty9, ty3, ty4, ty107, f.hsz, f.eL, f.hx0]
   refine ZE (f.cck) ?_; simp (maxSteps := 1000000) [ty9, ty3, ty4, ty107, f.hsz, f.eL, f.hxe, f.hne, f.eL, -strBin]
   refine hK _ ?_; clear hK K
   (repeat refine ZQ ?_); refine ZC (fun hd => ?_) (fun hd => ?_)
   ·clear hd
    (repeat refine ZQ ?_); refine ZR fun K hK => ?_; simp (maxSteps := 1000000) [ty107, ty4, ty5, ty3, ty9]; refine hK _ ?_; clear hK K
    (repeat refine ZQ ?_); refine awp_ret ?_; refine And.intro (Or.inr rfl) ?_
    refine ⟨_, by simp [retC, resC, ty107]; rfl, ?_⟩
    simp [viewC, mapO, zCd]
   ·simp at hd
 ·by_cases hA : cd.many < 1
  ·refine ZF (fn := Tryz.f73) [.cell 2 107, .tmp 3] ⟨Tryz.func73, rfl, by kernel_rfl⟩ fun x hx hσ => ?_
   (repeat refine ZQ ?_); refine ZR fun K hK => ?_; simp (maxSteps := 1000000) [ty107, ty4]; refine hK _ ?_; clear hK K
   (repeat refine ZQ ?_); refine ZR fun K hK => ?_; simp (maxSteps := 1000000) [ty9, ty3, ty4, f.hsz, f.h6]
   refine ZP (f.cpl) ?_; simp (maxSteps := 1000000) [ty4]
   refine hK _ ?_; clear hK K
   (repeat refine ZQ ?_); refine ZC (fun hd => ?_) (fun hd => ?_)
   ·simp at hd
   ·clear hd
    refine awp_skip ?_
    (repeat refine ZQ ?_); refine ZR fun K hK => ?_; simp (maxSteps := 1000000) [ty9, ty3, f.hsz, f.wE]; refine hK _ ?_; clear hK K
    (repeat refine ZQ ?_); refine ZD [] [0, 1, 2, 3, 4, 5, 6, 7, 8, 9, 10, 11] fun K hK => ?_; simp (maxSteps := 1000000) [ty9, ty5, ty3, ty107, f.g0, f.g1, f.w0, f.w1, f.hx2, f.hsz, f.e2, f.eL]; refine hK _ ?_; clear hK K
    (repeat refine ZQ ?_); refine ZD [] [0, 1, 2, 3, 4, 5, 6, 7, 8, 9, 10, 11, 12, 13, 14, 15, 16, 17] fun K hK => ?_; simp (maxSteps := 1000000) [ty9, ty3, ty4, ty107, f.hsz, f.eL, f.hx0]
    refine ZE (f.cck) ?_; simp (maxSteps := 1000000) [ty9, ty3, ty4, ty107, f.hsz, f.eL, f.hxe, f.hne, hA, -strBin]
    refine hK _ ?_; clear hK K
    (repeat refine ZQ ?_); refine ZC (fun hd => ?_) (fun hd => ?_)
    ·clear hd
     (repeat refine ZQ ?_); refine ZR fun K hK => ?_; simp (maxSteps := 1000000) [ty107, ty4, ty5, ty3, ty9]; refine hK _ ?_; clear hK K
     (repeat refine ZQ ?_); refine awp_ret ?_; refine And.intro (Or.inr rfl) ?_
     refine ⟨_, by simp [retC, resC, ty107]; rfl, ?_⟩
     simp [viewC, mapO, zCd]
    ·simp at hd
  ·have hB : 8 < cd.many := by simpa [hA] using h2
   refine ZF (fn := Tryz.f73) [.cell 2 107, .tmp 3] ⟨Tryz.func73, rfl, by kernel_rfl⟩ fun x hx hσ => ?_
   (repeat refine ZQ ?_); refine ZR fun K hK => ?_; simp (maxSteps := 1000000) [ty107, ty4]; refine hK _ ?_; clear hK K
   (repeat refine ZQ ?_); refine ZR fun K hK => ?_; simp (maxSteps := 1000000) [ty9, ty3, ty4, f.hsz, f.h6]
   refine ZP (f.cpl) ?_; simp (maxSteps := 1000000) [ty4]
   refine hK _ ?_; clear hK K
   (repeat refine ZQ ?_); refine ZC (fun hd => ?_) (fun hd => ?_)
   ·simp at hd
   ·clear hd
    refine awp_skip ?_
    (repeat refine ZQ ?_); refine ZR fun K hK => ?_; simp (maxSteps := 1000000) [ty9, ty3, f.hsz, f.wE]; refine hK _ ?_; clear hK K
    (repeat refine ZQ ?_); refine ZD [] [0, 1, 2, 3, 4, 5, 6, 7, 8, 9, 10, 11] fun K hK => ?_; simp (maxSteps := 1000000) [ty9, ty5, ty3, ty107, f.g0, f.g1, f.w0, f.w1, f.hx2, f.hsz, f.e2, f.eL]; refine hK _ ?_; clear hK K
    (repeat refine ZQ ?_); refine ZD [] [0, 1, 2, 3, 4, 5, 6, 7, 8, 9, 10, 11, 12, 13, 14, 15, 16, 17] fun K hK => ?_; simp (maxSteps := 1000000) [ty9, ty3, ty4, ty107, f.hsz, f.eL, f.hx0]
    refine ZE (f.cck) ?_; simp (maxSteps := 1000000) [ty9, ty3, ty4, ty107, f.hsz, f.eL, f.hxe, f.hne, hA, hB, -strBin]
    refine hK _ ?_; clear hK K
    (repeat refine ZQ ?_); refine ZC (fun hd => ?_) (fun hd => ?_)
    ·clear hd
     (repeat refine ZQ ?_); refine ZR fun K hK => ?_; simp (maxSteps := 1000000) [ty107, ty4, ty5, ty3, ty9]; refine hK _ ?_; clear hK K
     (repeat refine ZQ ?_); refine awp_ret ?_; refine And.intro (Or.inr rfl) ?_
     refine ⟨_, by simp [retC, resC, ty107]; rfl, ?_⟩
     simp [viewC, mapO, zCd]
    ·simp at hd

theorem parse_3 (l : List UInt8) (hn : l.length ≤ 100000) (h1 : bad1 l = false) (h2 : bad2 l = false) (h3 : bad3 (headC l) = true) : Pure Tryz.prog 73 [encS l] (.tup [encCd zCd, .bool false]) := by
 have f := lnF l hn h1
 unfold bad2 at h2
 unfold bad3 at h3
 generalize l.length - 2 = e at *
 generalize headC l = cd at *
 generalize l.getD 1 0 = b at *
 generalize (checkB (l.take e) == l.drop e) = ck at *
 simp only [Bool.or_eq_false_iff, Bool.not_eq_false', decide_eq_false_iff_not] at h2
 obtain ⟨⟨rfl, hA⟩, hB⟩ := h2
 have hsu := isSum102 cd
 cases hs : sumN cd.num
 ·rw [hs] at hsu h3
  rw [if_neg (by simp)] at h3
  have hnb := f.nb
  have hmb := f.mb
  by_cases hN : cd.num.toNat < 49
  ·have hN' : (cd.num.toNat : Int) < 49 := by omega
   refine ZF (fn := Tryz.f73) [.cell 2 107, .tmp 3] ⟨Tryz.func73, rfl, by kernel_rfl⟩ fun x hx hσ => ?_
   (repeat refine ZQ ?_); refine ZR fun K hK => ?_; simp (maxSteps := 1000000) [ty107, ty4]; refine hK _ ?_; clear hK K
   (repeat refine ZQ ?_); refine ZR fun K hK => ?_; simp (maxSteps := 1000000) [ty9, ty3, ty4, f.hsz, f.h6]
   refine ZP (f.cpl) ?_; simp (maxSteps := 1000000) [ty4]
   refine hK _ ?_; clear hK K
   (repeat refine ZQ ?_); refine ZC (fun hd => ?_) (fun hd => ?_)
   ·simp at hd
   ·clear hd
    refine awp_skip ?_
    (repeat refine ZQ ?_); refine ZR fun K hK => ?_; simp (maxSteps := 1000000) [ty9, ty3, f.hsz, f.wE]; refine hK _ ?_; clear hK K
    (repeat refine ZQ ?_); refine ZD [] [0, 1, 2, 3, 4, 5, 6, 7, 8, 9, 10, 11] fun K hK => ?_; simp (maxSteps := 1000000) [ty9, ty5, ty3, ty107, f.g0, f.g1, f.w0, f.w1, f.hx2, f.hsz, f.e2, f.eL]; refine hK _ ?_; clear hK K
    (repeat refine ZQ ?_); refine ZD [] [0, 1, 2, 3, 4, 5, 6, 7, 8, 9, 10, 11, 12, 13, 14, 15, 16, 17] fun K hK => ?_; simp (maxSteps := 1000000) [ty9, ty3, ty4, ty107, f.hsz, f.eL, f.hx0]
    refine ZE (f.cck) ?_; simp (maxSteps := 1000000) [ty9, ty3, ty4, ty107, f.hsz, f.eL, f.hxe, f.hne, hA, hB, -strBin]
    refine hK _ ?_; clear hK K
    (repeat refine ZQ ?_); refine ZC (fun hd => ?_) (fun hd => ?_)
    ·simp at hd
    ·clear hd
     refine awp_skip ?_
     (repeat refine ZQ ?_); refine ZR fun K hK => ?_; simp (maxSteps := 1000000) [ty107]
     refine ZP (hsu) ?_; simp (maxSteps := 1000000) [ty4]
     refine hK _ ?_; clear hK K
     (repeat refine ZQ ?_); refine ZC (fun hd => ?_) (fun hd => ?_)
     ·simp at hd
     ·clear hd
      (repeat refine ZQ ?_); refine ZR fun K hK => ?_; simp (maxSteps := 1000000) [ty107, ty5, ty4, hN']; refine hK _ ?_; clear hK K
      (repeat refine ZQ ?_); refine ZC (hc := by simp [hN']; rfl) (fun hd => ?_) (fun hd => ?_)
      ·clear hd
       (repeat refine ZQ ?_); refine ZR fun K hK => ?_; simp (maxSteps := 1000000) [ty107, ty4, ty5, ty3, ty9]; refine hK _ ?_; clear hK K
       (repeat refine ZQ ?_); refine awp_ret ?_; refine And.intro (Or.inr rfl) ?_
       refine ⟨_, by simp [retC, resC, ty107]; rfl, ?_⟩
       simp [viewC, mapO, zCd]
      ·simp [hN'] at hd
  ·have hN' : ¬ (cd.num.toNat : Int) < 49 := by omega
   have hM : cd.many < (cd.num.toNat : Int) - 48 := by simpa [hN] using h3
   have v1 : IntKind.u8.wrap ((cd.num.toNat : Int) - 48) = (cd.num.toNat : Int) - 48 := wrap_u8 (by omega) (by omega)
   have v2 : IntKind.i64.wrap ((cd.num.toNat : Int) - 48) = (cd.num.toNat : Int) - 48 := wrap_id (by omega) (by omega)
   refine ZF (fn := Tryz.f73) [.cell 2 107, .tmp 3] ⟨Tryz.func73, rfl, by kernel_rfl⟩ fun x hx hσ => ?_
   (repeat refine ZQ ?_); refine ZR fun K hK => ?_; simp (maxSteps := 1000000) [ty107, ty4]; refine hK _ ?_; clear hK K
   (repeat refine ZQ ?_); refine ZR fun K hK => ?_; simp (maxSteps := 1000000) [ty9, ty3, ty4, f.hsz, f.h6]
   refine ZP (f.cpl) ?_; simp (maxSteps := 1000000) [ty4]
   refine hK _ ?_; clear hK K
   (repeat refine ZQ ?_); refine ZC (fun hd => ?_) (fun hd => ?_)
   ·simp at hd
   ·clear hd
    refine awp_skip ?_
    (repeat refine ZQ ?_); refine ZR fun K hK => ?_; simp (maxSteps := 1000000) [ty9, ty3, f.hsz, f.wE]; refine hK _ ?_; clear hK K
    (repeat refine ZQ ?_); refine ZD [] [0, 1, 2, 3, 4, 5, 6, 7, 8, 9, 10, 11] fun K hK => ?_; simp (maxSteps := 1000000) [ty9, ty5, ty3, ty107, f.g0, f.g1, f.w0, f.w1, f.hx2, f.hsz, f.e2, f.eL]; refine hK _ ?_; clear hK K
    (repeat refine ZQ ?_); refine ZD [] [0, 1, 2, 3, 4, 5, 6, 7, 8, 9, 10, 11, 12, 13, 14, 15, 16, 17] fun K hK => ?_; simp (maxSteps := 1000000) [ty9, ty3, ty4, ty107, f.hsz, f.eL, f.hx0]
    refine ZE (f.cck) ?_; simp (maxSteps := 1000000) [ty9, ty3, ty4, ty107, f.hsz, f.eL, f.hxe, f.hne, hA, hB, -strBin]
    refine hK _ ?_; clear hK K
    (repeat refine ZQ ?_); refine ZC (fun hd => ?_) (fun hd => ?_)
    ·simp at hd
    ·clear hd
     refine awp_skip ?_
     (repeat refine ZQ ?_); refine ZR fun K hK => ?_; simp (maxSteps := 1000000) [ty107]
     refine ZP (hsu) ?_; simp (maxSteps := 1000000) [ty4]
     refine hK _ ?_; clear hK K
     (repeat refine ZQ ?_); refine ZC (fun hd => ?_) (fun hd => ?_)
     ·simp at hd
     ·clear hd
      (repeat refine ZQ ?_); refine ZR fun K hK => ?_; simp (maxSteps := 1000000) [ty107, ty5, ty4, ty3, hN', v1, v2, hM]; refine hK _ ?_; clear hK K
      (repeat refine ZQ ?_); refine ZC (hc := by simp [hM]; rfl) (fun hd => ?_) (fun hd => ?_)
      ·clear hd
       (repeat refine ZQ ?_); refine ZR fun K hK => ?_; simp (maxSteps := 1000000) [ty107, ty4, ty5, ty3, ty9]; refine hK _ ?_; clear hK K
       (repeat refine ZQ ?_); refine awp_ret ?_; refine And.intro (Or.inr rfl) ?_
       refine ⟨_, by simp [retC, resC, ty107]; rfl, ?_⟩
       simp [viewC, mapO, zCd]
      ·simp [hM] at hd
 ·rw [hs] at hsu h3
  rw [if_pos rfl] at h3
  have hrl := f.rl
  have hszr := S_size cd.row
  have r1 : Int.tmod (cd.row.length : Int) 2 = ((cd.row.length % 2 : Nat) : Int) := rfl
  have hr2 : cd.row.length % 2 = 0 ∨ cd.row.length % 2 = 1 := by omega
  have ct := trimD cd.row (by omega)
  have he := str_ne (Lib.trimS cd.row digs) []
  rw [trim_digs] at he
  generalize Lib.trimS cd.row digs = tr at *
  unfold digs at ct
  rcases hr2 with hr | hr
  ·rw [hr] at r1 h3
   have hd0 : digB cd.row = false := by simpa using h3
   rw [hd0] at he
   have v1 : IntKind.i64.wrap 0 = 0 := wrap_id (by omega) (by omega)
   refine ZF (fn := Tryz.f73) [.cell 2 107, .tmp 3] ⟨Tryz.func73, rfl, by kernel_rfl⟩ fun x hx hσ => ?_
   (repeat refine ZQ ?_); refine ZR fun K hK => ?_; simp (maxSteps := 1000000) [ty107, ty4]; refine hK _ ?_; clear hK K
   (repeat refine ZQ ?_); refine ZR fun K hK => ?_; simp (maxSteps := 1000000) [ty9, ty3, ty4, f.hsz, f.h6]
   refine ZP (f.cpl) ?_; simp (maxSteps := 1000000) [ty4]
   refine hK _ ?_; clear hK K
   (repeat refine ZQ ?_); refine ZC (fun hd => ?_) (fun hd => ?_)
   ·simp at hd
   ·clear hd
    refine awp_skip ?_
    (repeat refine ZQ ?_); refine ZR fun K hK => ?_; simp (maxSteps := 1000000) [ty9, ty3, f.hsz, f.wE]; refine hK _ ?_; clear hK K
    (repeat refine ZQ ?_); refine ZD [] [0, 1, 2, 3, 4, 5, 6, 7, 8, 9, 10, 11] fun K hK => ?_; simp (maxSteps := 1000000) [ty9, ty5, ty3, ty107, f.g0, f.g1, f.w0, f.w1, f.hx2, f.hsz, f.e2, f.eL]; refine hK _ ?_; clear hK K
    (repeat refine ZQ ?_); refine ZD [] [0, 1, 2, 3, 4, 5, 6, 7, 8, 9, 10, 11, 12, 13, 14, 15, 16, 17] fun K hK => ?_; simp (maxSteps := 1000000) [ty9, ty3, ty4, ty107, f.hsz, f.eL, f.hx0]
    refine ZE (f.cck) ?_; simp (maxSteps := 1000000) [ty9, ty3, ty4, ty107, f.hsz, f.eL, f.hxe, f.hne, hA, hB, -strBin]
    refine hK _ ?_; clear hK K
    (repeat refine ZQ ?_); refine ZC (fun hd => ?_) (fun hd => ?_)
    ·simp at hd
    ·clear hd
     refine awp_skip ?_
     (repeat refine ZQ ?_); refine ZR fun K hK => ?_; simp (maxSteps := 1000000) [ty107]
     refine ZP (hsu) ?_; simp (maxSteps := 1000000) [ty4]
     refine hK _ ?_; clear hK K
     (repeat refine ZQ ?_); refine ZC (fun hd => ?_) (fun hd => ?_)
     ·clear hd
      (repeat refine ZQ ?_); refine ZR fun K hK => ?_; simp (maxSteps := 1000000) [ty107, ty9, ty3, ty4, hszr, r1, v1]
      refine ZP (ct) ?_; simp (maxSteps := 1000000) [ty9, ty4, he, -strBin]
      refine hK _ ?_; clear hK K
      (repeat refine ZQ ?_); refine ZC (fun hd => ?_) (fun hd => ?_)
      ·clear hd
       (repeat refine ZQ ?_); refine ZR fun K hK => ?_; simp (maxSteps := 1000000) [ty107, ty4, ty5, ty3, ty9]; refine hK _ ?_; clear hK K
       (repeat refine ZQ ?_); refine awp_ret ?_; refine And.intro (Or.inr rfl) ?_
       refine ⟨_, by simp [retC, resC, ty107]; rfl, ?_⟩
       simp [viewC, mapO, zCd]
      ·simp at hd
     ·simp at hd
  ·rw [hr] at r1
   have v1 : IntKind.i64.wrap 1 = 1 := wrap_id (by omega) (by omega)
   refine ZF (fn := Tryz.f73) [.cell 2 107, .tmp 3] ⟨Tryz.func73, rfl, by kernel_rfl⟩ fun x hx hσ => ?_
   (repeat refine ZQ ?_); refine ZR fun K hK => ?_; simp (maxSteps := 1000000) [ty107, ty4]; refine hK _ ?_; clear hK K
   (repeat refine ZQ ?_); refine ZR fun K hK => ?_; simp (maxSteps := 1000000) [ty9, ty3, ty4, f.hsz, f.h6]
   refine ZP (f.cpl) ?_; simp (maxSteps := 1000000) [ty4]
   refine hK _ ?_; clear hK K
   (repeat refine ZQ ?_); refine ZC (fun hd => ?_) (fun hd => ?_)
   ·simp at hd
   ·clear hd
    refine awp_skip ?_
    (repeat refine ZQ ?_); refine ZR fun K hK => ?_; simp (maxSteps := 1000000) [ty9, ty3, f.hsz, f.wE]; refine hK _ ?_; clear hK K
    (repeat refine ZQ ?_); refine ZD [] [0, 1, 2, 3, 4, 5, 6, 7, 8, 9, 10, 11] fun K hK => ?_; simp (maxSteps := 1000000) [ty9, ty5, ty3, ty107, f.g0, f.g1, f.w0, f.w1, f.hx2, f.hsz, f.e2, f.eL]; refine hK _ ?_; clear hK K
    (repeat refine ZQ ?_); refine ZD [] [0, 1, 2, 3, 4, 5, 6, 7, 8, 9, 10, 11, 12, 13, 14, 15, 16, 17] fun K hK => ?_; simp (maxSteps := 1000000) [ty9, ty3, ty4, ty107, f.hsz, f.eL, f.hx0]
    refine ZE (f.cck) ?_; simp (maxSteps := 1000000) [ty9, ty3, ty4, ty107, f.hsz, f.eL, f.hxe, f.hne, hA, hB, -strBin]
    refine hK _ ?_; clear hK K
    (repeat refine ZQ ?_); refine ZC (fun hd => ?_) (fun hd => ?_)
    ·simp at hd
    ·clear hd
     refine awp_skip ?_
     (repeat refine ZQ ?_); refine ZR fun K hK => ?_; simp (maxSteps := 1000000) [ty107]
     refine ZP (hsu) ?_; simp (maxSteps := 1000000) [ty4]
     refine hK _ ?_; clear hK K
     (repeat refine ZQ ?_); refine ZC (fun hd => ?_) (fun hd => ?_)
     ·clear hd
      (repeat refine ZQ ?_); refine ZR fun K hK => ?_; simp (maxSteps := 1000000) [ty107, ty9, ty3, ty4, hszr, r1, v1]; refine hK _ ?_; clear hK K
      (repeat refine ZQ ?_); refine ZC (fun hd => ?_) (fun hd => ?_)
      ·clear hd
       (repeat refine ZQ ?_); refine ZR fun K hK => ?_; simp (maxSteps := 1000000) [ty107, ty4, ty5, ty3, ty9]; refine hK _ ?_; clear hK K
       (repeat refine ZQ ?_); refine awp_ret ?_; refine And.intro (Or.inr rfl) ?_
       refine ⟨_, by simp [retC, resC, ty107]; rfl, ?_⟩
       simp [viewC, mapO, zCd]
      ·simp at hd
     ·simp at hd

theorem parse_4 (l : List UInt8) (hn : l.length ≤ 100000) (h1 : bad1 l = false) (h2 : bad2 l = false) (h3 : bad3 (headC l) = false) :
    Pure Tryz.prog 73 [encS l] (.tup [encCd (headC l), .bool (decide (2 ≤ longN (headC l)) && decide (longN (headC l) ≤ 62))]) := by
  have f := lnF l hn h1
  unfold bad2 at h2
  unfold bad3 at h3
  generalize l.length - 2 = e at *
  generalize headC l = cd at *
  generalize l.getD 1 0 = b at *
  generalize (checkB (l.take e) == l.drop e) = ck at *
  simp only [Bool.or_eq_false_iff, Bool.not_eq_false', decide_eq_false_iff_not] at h2
  obtain ⟨⟨rfl, hA⟩, hB⟩ := h2
  have hsu := isSum102 cd
  have hlo := long94 cd (by have := f.rl; omega)
  obtain ⟨L, hL⟩ : ∃ L, longN cd = L := ⟨_, rfl⟩
  rw [hL] at hlo ⊢
  cases hs : sumN cd.num
  · rw [hs] at hsu h3
    rw [if_neg (by simp)] at h3
    simp only [Bool.or_eq_false_iff, decide_eq_false_iff_not] at h3
    obtain ⟨hN, hM⟩ := h3
    have hnb := f.nb
    have hN' : ¬ (cd.num.toNat : Int) < 49 := by omega
    have v1 : IntKind.u8.wrap ((cd.num.toNat : Int) - 48) = (cd.num.toNat : Int) - 48 := wrap_u8 (by omega) (by omega)
    have v2 : IntKind.i64.wrap ((cd.num.toNat : Int) - 48) = (cd.num.toNat : Int) - 48 := wrap_id (by omega) (by omega)
    refine ZF (fn := Tryz.f73) [.cell 2 107, .tmp 3] ⟨Tryz.func73, rfl, by kernel_rfl⟩ fun x hx hσ => ?_
    (repeat refine ZQ ?_); refine ZR fun K hK => ?_; simp (maxSteps := 1000000) [ty107, ty4]; refine hK _ ?_; clear hK K
    (repeat refine ZQ ?_); refine ZR fun K hK => ?_; simp (maxSteps := 1000000) [ty9, ty3, ty4, f.hsz, f.h6]
    refine ZP (f.cpl) ?_; simp (maxSteps := 1000000) [ty4]
    refine hK _ ?_; clear hK K
    (repeat refine ZQ ?_); refine ZC (fun hd => ?_) (fun hd => ?_)
    · simp at hd
    · clear hd
      refine awp_skip ?_
      (repeat refine ZQ ?_); refine ZR fun K hK => ?_; simp (maxSteps := 1000000) [ty9, ty3, f.hsz, f.wE]; refine hK _ ?_; clear hK K
      (repeat refine ZQ ?_); refine ZD [] [0, 1, 2, 3, 4, 5, 6, 7, 8, 9, 10, 11] fun K hK => ?_; simp (maxSteps := 1000000) [ty9, ty5, ty3, ty107, f.g0, f.g1, f.w0, f.w1, f.hx2, f.hsz, f.e2, f.eL]; refine hK _ ?_; clear hK K
      (repeat refine ZQ ?_); refine ZD [] [0, 1, 2, 3, 4, 5, 6, 7, 8, 9, 10, 11, 12, 13, 14, 15, 16, 17] fun K hK => ?_; simp (maxSteps := 1000000) [ty9, ty3, ty4, ty107, f.hsz, f.eL, f.hx0]
      refine ZE (f.cck) ?_; simp (maxSteps := 1000000) [ty9, ty3, ty4, ty107, f.hsz, f.eL, f.hxe, f.hne, hA, hB, -strBin]
      refine hK _ ?_; clear hK K
      (repeat refine ZQ ?_); refine ZC (fun hd => ?_) (fun hd => ?_)
      · simp at hd
      · clear hd
        refine awp_skip ?_
        (repeat refine ZQ ?_); refine ZR fun K hK => ?_; simp (maxSteps := 1000000) [ty107]
        refine ZP (hsu) ?_; simp (maxSteps := 1000000) [ty4]
        refine hK _ ?_; clear hK K
        (repeat refine ZQ ?_); refine ZC (fun hd => ?_) (fun hd => ?_)
        · simp at hd
        · clear hd
          (repeat refine ZQ ?_); refine ZR fun K hK => ?_; simp (maxSteps := 1000000) [ty107, ty5, ty4, ty3, hN', v1, v2, hM]; refine hK _ ?_; clear hK K
          (repeat refine ZQ ?_); refine ZC (hc := by simp [hM]; rfl) (fun hd => ?_) (fun hd => ?_)
          · simp [hM] at hd
          · clear hd
            refine awp_skip ?_; (first | show AWP _ _ _ _ _ | show ∃ _, _ | skip)
            by_cases hL2 : 2 ≤ L
            · have hL2' : (2 : Int) ≤ (L : Int) := by omega
              by_cases hL3 : L ≤ 62
              · have hL3' : (L : Int) ≤ 62 := by omega
                (repeat refine ZQ ?_); refine ZD [] [0, 1, 2, 3, 4, 5, 6, 7, 8, 9, 10] fun K hK => ?_; simp (maxSteps := 1000000) [ty107, ty3, ty4]
                refine ZE (hlo) ?_; simp (maxSteps := 1000000) [ty107, ty3, ty4, hL2']
                refine ZE (hlo) ?_; simp (maxSteps := 1000000) [ty107, ty3, ty4, hL2', hL3']
                refine hK _ ?_; clear hK K
                (repeat refine ZQ ?_); refine awp_ret ?_; refine And.intro (Or.inr rfl) ?_
                refine ⟨_, by simp [retC, resC, ty107]; rfl, ?_⟩
                simp [viewC, mapO, hL2, hL3]
              · have hL3' : ¬ (L : Int) ≤ 62 := by omega
                (repeat refine ZQ ?_); refine ZD [] [0, 1, 2, 3, 4, 5, 6, 7, 8, 9, 10] fun K hK => ?_; simp (maxSteps := 1000000) [ty107, ty3, ty4]
                refine ZE (hlo) ?_; simp (maxSteps := 1000000) [ty107, ty3, ty4, hL2']
                refine ZE (hlo) ?_; simp (maxSteps := 1000000) [ty107, ty3, ty4, hL2', hL3']
                refine hK _ ?_; clear hK K
                (repeat refine ZQ ?_); refine awp_ret ?_; refine And.intro (Or.inr rfl) ?_
                refine ⟨_, by simp [retC, resC, ty107]; rfl, ?_⟩
                simp [viewC, mapO, hL2, hL3]
            · have hL2' : ¬ (2 : Int) ≤ (L : Int) := by omega
              (repeat refine ZQ ?_); refine ZD [] [0, 1, 2, 3, 4, 5, 6, 7, 8, 9, 10] fun K hK => ?_; simp (maxSteps := 1000000) [ty107, ty3, ty4]
              refine ZE (hlo) ?_; simp (maxSteps := 1000000) [ty107, ty3, ty4, hL2']
              refine hK _ ?_; clear hK K
              (repeat refine ZQ ?_); refine awp_ret ?_; refine And.intro (Or.inr rfl) ?_
              refine ⟨_, by simp [retC, resC, ty107]; rfl, ?_⟩
              simp [viewC, mapO, hL2]
  · rw [hs] at hsu h3
    rw [if_pos rfl] at h3
    simp only [Bool.or_eq_false_iff, Bool.not_eq_false'] at h3
    obtain ⟨hO, hD⟩ := h3
    have hrl := f.rl
    have hszr := S_size cd.row
    have r1 : Int.tmod (cd.row.length : Int) 2 = ((cd.row.length % 2 : Nat) : Int) := rfl
    have hr : cd.row.length % 2 = 0 := by have : ¬ cd.row.length % 2 = 1 := by simpa using hO
                                          omega
    have ct := trimD cd.row (by omega)
    have he := str_ne (Lib.trimS cd.row digs) []
    rw [trim_digs, hD] at he
    generalize Lib.trimS cd.row digs = tr at *
    unfold digs at ct
    rw [hr] at r1
    have v1 : IntKind.i64.wrap 0 = 0 := wrap_id (by omega) (by omega)
    refine ZF (fn := Tryz.f73) [.cell 2 107, .tmp 3] ⟨Tryz.func73, rfl, by kernel_rfl⟩ fun x hx hσ => ?_
    (repeat refine ZQ ?_); refine ZR fun K hK => ?_; simp (maxSteps := 1000000) [ty107, ty4]; refine hK _ ?_; clear hK K
    (repeat refine ZQ ?_); refine ZR fun K hK => ?_; simp (maxSteps := 1000000) [ty9, ty3, ty4, f.hsz, f.h6]
    refine ZP (f.cpl) ?_; simp (maxSteps := 1000000) [ty4]
    refine hK _ ?_; clear hK K
    (repeat refine ZQ ?_); refine ZC (fun hd => ?_) (fun hd => ?_)
    · simp at hd
    · clear hd
      refine awp_skip ?_
      (repeat refine ZQ ?_); refine ZR fun K hK => ?_; simp (maxSteps := 1000000) [ty9, ty3, f.hsz, f.wE]; refine hK _ ?_; clear hK K
      (repeat refine ZQ ?_); refine ZD [] [0, 1, 2, 3, 4, 5, 6, 7, 8, 9, 10, 11] fun K hK => ?_; simp (maxSteps := 1000000) [ty9, ty5, ty3, ty107, f.g0, f.g1, f.w0, f.w1, f.hx2, f.hsz, f.e2, f.eL]; refine hK _ ?_; clear hK K
      (repeat refine ZQ ?_); refine ZD [] [0, 1, 2, 3, 4, 5, 6, 7, 8, 9, 10, 11, 12, 13, 14, 15, 16, 17] fun K hK => ?_; simp (maxSteps := 1000000) [ty9, ty3, ty4, ty107, f.hsz, f.eL, f.hx0]
      refine ZE (f.cck) ?_; simp (maxSteps := 1000000) [ty9, ty3, ty4, ty107, f.hsz, f.eL, f.hxe, f.hne, hA, hB, -strBin]
      refine hK _ ?_; clear hK K
      (repeat refine ZQ ?_); refine ZC (fun hd => ?_) (fun hd => ?_)
      · simp at hd
      · clear hd
        refine awp_skip ?_
        (repeat refine ZQ ?_); refine ZR fun K hK => ?_; simp (maxSteps := 1000000) [ty107]
        refine ZP (hsu) ?_; simp (maxSteps := 1000000) [ty4]
        refine hK _ ?_; clear hK K
        (repeat refine ZQ ?_); refine ZC (fun hd => ?_) (fun hd => ?_)
        · clear hd
          (repeat refine ZQ ?_); refine ZR fun K hK => ?_; simp (maxSteps := 1000000) [ty107, ty9, ty3, ty4, hszr, r1, v1]
          refine ZP (ct) ?_; simp (maxSteps := 1000000) [ty9, ty4, he, -strBin]
          refine hK _ ?_; clear hK K
          (repeat refine ZQ ?_); refine ZC (fun hd => ?_) (fun hd => ?_)
          · simp at hd
          · clear hd
            refine awp_skip ?_; (first | show AWP _ _ _ _ _ | show ∃ _, _ | skip)
            by_cases hL2 : 2 ≤ L
            · have hL2' : (2 : Int) ≤ (L : Int) := by omega
              by_cases hL3 : L ≤ 62
              · have hL3' : (L : Int) ≤ 62 := by omega
                (repeat refine ZQ ?_); refine ZD [] [0, 1, 2, 3, 4, 5, 6, 7, 8, 9, 10] fun K hK => ?_; simp (maxSteps := 1000000) [ty107, ty3, ty4]
                refine ZE (hlo) ?_; simp (maxSteps := 1000000) [ty107, ty3, ty4, hL2']
                refine ZE (hlo) ?_; simp (maxSteps := 1000000) [ty107, ty3, ty4, hL2', hL3']
                refine hK _ ?_; clear hK K
                (repeat refine ZQ ?_); refine awp_ret ?_; refine And.intro (Or.inr rfl) ?_
                refine ⟨_, by simp [retC, resC, ty107]; rfl, ?_⟩
                simp [viewC, mapO, hL2, hL3]
              · have hL3' : ¬ (L : Int) ≤ 62 := by omega
                (repeat refine ZQ ?_); refine ZD [] [0, 1, 2, 3, 4, 5, 6, 7, 8, 9, 10] fun K hK => ?_; simp (maxSteps := 1000000) [ty107, ty3, ty4]
                refine ZE (hlo) ?_; simp (maxSteps := 1000000) [ty107, ty3, ty4, hL2']
                refine ZE (hlo) ?_; simp (maxSteps := 1000000) [ty107, ty3, ty4, hL2', hL3']
                refine hK _ ?_; clear hK K
                (repeat refine ZQ ?_); refine awp_ret ?_; refine And.intro (Or.inr rfl) ?_
                refine ⟨_, by simp [retC, resC, ty107]; rfl, ?_⟩
                simp [viewC, mapO, hL2, hL3]
            · have hL2' : ¬ (2 : Int) ≤ (L : Int) := by omega
              (repeat refine ZQ ?_); refine ZD [] [0, 1, 2, 3, 4, 5, 6, 7, 8, 9, 10] fun K hK => ?_; simp (maxSteps := 1000000) [ty107, ty3, ty4]
              refine ZE (hlo) ?_; simp (maxSteps := 1000000) [ty107, ty3, ty4, hL2']
              refine hK _ ?_; clear hK K
              (repeat refine ZQ ?_); refine awp_ret ?_; refine And.intro (Or.inr rfl) ?_
              refine ⟨_, by simp [retC, resC, ty107]; rfl, ?_⟩
              simp [viewC, mapO, hL2]
        · simp at hd

theorem parse73 (l : List UInt8) (hn : l.length ≤ 100000) : Pure Tryz.prog 73 [encS l] (.tup [encCd (parseC l), .bool (parseOk l)]) := by
 unfold parseC parseOk
 cases h1 : bad1 l
 ·cases h2 : bad2 l
  ·cases h3 : bad3 (headC l)
   ·exact parse_4 l hn h1 h2 h3
   ·exact parse_3 l hn h1 h2 h3
  ·exact parse_2 l hn h1 h2
 ·exact parse_1 l h1

set_option maxHeartbeats 4000000
set_option maxRecDepth 20000


theorem awp_mid {P : Program} {x : Ctx} {a b : Code} {s : AS} {Q : Exit → AS → Prop} (m : AS) (h1 : AWP P x a s (nextQ (fun s' => Wk x s' m) Q)) (h2 : AWP P x b m Q) : AWP P x (.seq a b) s Q := by
 refine awp_seq (AWP.mono h1 ?_)
 intro e s' h
 cases e with
 | normal => exact AWP.weak h2 h
 | _ => exact h

def cdEq (a b : Cd) : Bool := decide ((a.num.toNat : Int) = b.num.toNat) && (decide (a.many = b.many) && (a.row == b.row))
theorem cdEq_eq {a b : Cd} (h : cdEq a b = true) : a = b := by
 unfold cdEq at h
 simp only [Bool.and_eq_true, decide_eq_true_eq, beq_iff_eq] at h
 obtain ⟨h1, h2, h3⟩ := h
 cases a; cases b
 simp only at h1 h2 h3
 have : ∀ x y : UInt8, (x.toNat : Int) = y.toNat → x = y := fun x y h => UInt8.toNat_inj.1 (by omega)
 rw [this _ _ h1, h2, h3]

def lookN (n : UInt8) (K : List Cd) : Option Cd := K.find? fun o => o.num == n
@[simp] abbrev entK (c : Cd) : List C := [.int .u8 (c.num.toNat : Int), encCd c]

theorem u8_int (a b : UInt8) : ((a.toNat : Int) == (b.toNat : Int)) = (b == a) := by
 rw [Bool.eq_iff_iff, beq_iff_eq, beq_iff_eq]
 constructor
 ·intro h; exact (UInt8.toNat_inj.1 (by omega)).symm
 ·rintro rfl; rfl

theorem findK (n : UInt8) : ∀ (K : List Cd) (i : Nat), match lookN n K with
  | some o => ∃ j, findC .int (.int .u8 (n.toNat : Int)) (K.map entK) i = some (some (i + j, encCd o)) ∧ K[j]? = some o
  | none => findC .int (.int .u8 (n.toNat : Int)) (K.map entK) i = some none
 | [], i => rfl
 | c :: K, i => by
  unfold lookN
  have hs : sameC .int (.int .u8 (n.toNat : Int)) (.int .u8 (c.num.toNat : Int)) = some (c.num == n) := by
   simp only [sameC, if_true, u8_int]
  cases hc : c.num == n
  ·rw [List.find?_cons_of_neg (by simp [hc])]
   have ih := findK n K (i + 1)
   unfold lookN at ih
   have e : findC .int (.int .u8 (n.toNat : Int)) ((c :: K).map entK) i = findC .int (.int .u8 (n.toNat : Int)) (K.map entK) (i + 1) := by
    simp only [List.map_cons, entK, findC, hs, hc]
   rw [e]
   cases hk : List.find? (fun o => o.num == n) K with
   | none => rw [hk] at ih; exact ih
   | some o =>
    rw [hk] at ih
    obtain ⟨j, h1, h2⟩ := ih
    exact ⟨j + 1, by rw [h1]; congr 3; omega, by simpa using h2⟩
  ·rw [List.find?_cons_of_pos (by simp [hc])]
   exact ⟨0, by simp only [List.map_cons, entK, findC, hs, hc, Nat.add_zero], rfl⟩

structure HS where
 rows : List (List UInt8)
 a : List UInt8
 b : List UInt8
 long : Int
 many : Int
 known : List Cd

def zHS : HS := ⟨[], [], [], 0, 0, []⟩
def begH (s : HS) (c : Cd) : HS := if s.rows.isEmpty = true then { s with rows := List.replicate c.many.toNat [], long := longN c, many := c.many } else s
def clash (s : HS) (c : Cd) : Bool := (match lookN c.num s.known with | some o => !cdEq o c | none => false) || c.many != s.many || (longN c : Int) != s.long
def putH (s : HS) (c : Cd) : HS :=
 { s with
  rows := if sumN c.num = true then s.rows else s.rows.set (c.num.toNat - 49) c.row
  a := if c.num == 97 then c.row else s.a
  b := if c.num == 98 then c.row else s.b
  known := if (lookN c.num s.known).isSome = true then s.known else s.known ++ [c] }
def srt : List (List UInt8) → HS → HS × Bool
 | [], s => (s, !s.known.isEmpty)
 | l :: r, s => if parseOk l = true then (if clash (begH s (parseC l)) (parseC l) = true then (begH s (parseC l), false) else srt r (putH (begH s (parseC l)) (parseC l))) else srt r s

structure HOk (s : HS) : Prop where
 len : s.rows.length = s.many.toNat
 zero : s.rows = [] → s.known = []
 lo : 0 ≤ s.many
 hi : s.many ≤ 8

theorem zHS_ok : HOk zHS := ⟨rfl, fun _ => rfl, by decide, by decide⟩

theorem parse_ok {l : List UInt8} (h : parseOk l = true) : parseC l = headC l ∧ bad1 l = false ∧ bad2 l = false ∧ bad3 (headC l) = false ∧ 2 ≤ longN (headC l) ∧ longN (headC l) ≤ 62 := by
 unfold parseOk at h
 simp only [Bool.and_eq_true, Bool.not_eq_true', decide_eq_true_eq] at h
 obtain ⟨⟨⟨⟨h1, h2⟩, h3⟩, h4⟩, h5⟩ := h
 refine ⟨?_, h1, h2, h3, h4, h5⟩
 unfold parseC
 rw [h1, h2, h3]; rfl

theorem parse_many {l : List UInt8} (h : parseOk l = true) : 1 ≤ (parseC l).many ∧ (parseC l).many ≤ 8 ∧ (sumN (parseC l).num = false → 49 ≤ (parseC l).num.toNat ∧ ((parseC l).num.toNat : Int) - 48 ≤ (parseC l).many) ∧ longN (parseC l) ≤ 62 := by
 obtain ⟨e, _, h2, h3, _, h5⟩ := parse_ok h
 rw [e]
 unfold bad2 at h2
 unfold bad3 at h3
 simp only [Bool.or_eq_false_iff, decide_eq_false_iff_not] at h2
 obtain ⟨⟨_, h2a⟩, h2b⟩ := h2
 refine ⟨by omega, by omega, fun hs => ?_, h5⟩
 rw [hs, if_neg (by simp)] at h3
 simp only [Bool.or_eq_false_iff, decide_eq_false_iff_not] at h3
 omega

theorem begH_ok {s : HS} (h : HOk s) {c : Cd} (h1 : 1 ≤ c.many) (h2 : c.many ≤ 8) : HOk (begH s c) ∧ (begH s c).rows ≠ [] ∧ (begH s c).known = s.known := by
 unfold begH
 split
 ·rename_i he
  have he' : s.rows = [] := by simpa using he
  refine ⟨⟨by simp, fun hr => ?_, by simp only; omega, h2⟩, fun hr => ?_, rfl⟩
  ·exact h.zero he'
  ·have := congrArg List.length hr
   simp at this; omega
 ·rename_i he
  exact ⟨h, by simpa using he, rfl⟩

theorem putH_ok {s : HS} (h : HOk s) (c : Cd) (hr : s.rows ≠ []) : HOk (putH s c) ∧ (putH s c).rows ≠ [] := by
 have hn : (putH s c).rows ≠ [] := by
  unfold putH
  simp only
  split
  ·exact hr
  ·intro e
   have := congrArg List.length e
   simp at this
   exact hr this
 refine ⟨⟨?_, fun e => absurd e hn, h.lo, h.hi⟩, hn⟩
 unfold putH
 simp only
 split
 ·exact h.len
 ·rw [List.length_set]; exact h.len

set_option maxHeartbeats 8000000
set_option maxRecDepth 20000


@[simp] abbrev encH (s : HS) : C := .agg [.sl s.rows.isEmpty false (s.rows.map cS), encS s.a, encS s.b, encI s.long, encI s.many]
@[simp] abbrev hO (s : HS) : Ob := ⟨false, false, 5, [[.own 1000 1 0 s.rows.length, encS s.a, encS s.b, encI s.long, encI s.many]]⟩
@[simp] abbrev hZ : Ob := ⟨false, false, 5, [[.sl true true [], .str ⟨#[]⟩, .str ⟨#[]⟩, encI 0, encI 0]]⟩
@[simp] abbrev mpO (K : List Cd) : Ob := ⟨false, false, 0, K.map entK⟩
@[simp] abbrev cdO (c : Cd) : Ob := ⟨false, false, 3, [[.int .u8 (c.num.toNat : Int), encI c.many, encS c.row]]⟩

theorem me107 : mixEq Tryz.prog 107 = some [some .u8, some .i64, none] := by kernel_rfl
theorem fe107 : flatEq Tryz.prog 107 = none := by kernel_rfl
theorem de107 : deepEq Tryz.prog 107 = none := by kernel_rfl
theorem sort70 (nl fu : Bool) (L : List (List UInt8)) (hn : L.length ≤ 100000) (hl : ∀ l ∈ L, l.length ≤ 100000) :
  Pure Tryz.prog 70 [sT nl fu L] (.tup [encH (srt L zHS).1, .bool (srt L zHS).2]) := by
 refine ZF (fn := Tryz.f70) [.cell 2 99, .tmp 3] ⟨Tryz.func70, rfl, by kernel_rfl⟩ fun x hx hσ => ?_
 (repeat refine ZQ ?_); refine ZR fun K hK => ?_; simp (maxSteps := 1000000) [ty99, ty4]; refine hK _ ?_; clear hK K
 (repeat refine ZQ ?_); refine ZR fun K hK => ?_; simp (maxSteps := 1000000) [ty99]; refine hK _ ?_; clear hK K
 (repeat refine ZQ ?_); refine ZR fun K hK => ?_; simp (maxSteps := 1000000) [ty123]; refine hK _ ?_; clear hK K
 (repeat refine ZQ ?_); refine ZR fun K hK => ?_; simp (maxSteps := 1000000) [ty22]; refine hK _ ?_; clear hK K
 (repeat refine ZQ ?_); refine awp_block ?_
 refine AWP.weak ?_ (wk_nilCell 4 0 0 1000 1 (o := hZ) (row := [.sl true true [], .str ⟨#[]⟩, .str ⟨#[]⟩, encI 0, encI 0]) (fu := true) (by simp) rfl rfl rfl (by simp) (by decide))
 refine awp_loop (fun p : Nat × HS => ⟨ofL [(2, .ptr 2 5 0 0), (4, .ptr 4 5 0 0), (5, .mp 12), (13, sT nl fu L), (14, encI L.length), (15, encI p.1)],
  stoT [(2, 2, .live hZ), (4, 4, .live (hO p.2)), (12, 12, .live (mpO p.2.known)), (1000, 1000, .live (lsO p.2.rows))]⟩)
  (fun p => p.1 ≤ L.length ∧ srt L zHS = srt (L.drop p.1) p.2 ∧ HOk p.2) (fun p => L.length - p.1) (0, zHS) ⟨Nat.zero_le _, rfl, zHS_ok⟩ ?_ ?_
 ·show Wk _ _ ⟨_, stoT [(2, 2, .live hZ), (4, 4, .live (hO zHS)), (12, 12, .live (mpO [])), (1000, 1000, .live (lsO []))]⟩
  refine wk_shape (shp0 hσ (by simp) (by simp) ?_) ?_
  ·simp [SlotOk, zHS] <;> (repeat' (first | (refine RowsOk.same ?_; simp [purel, C.isPure]; done) | (refine rowsCons ?_; simp [mtl, mtc, mT, mH, C.isPure, purel]; done) | (refine rowsCons ?_; simp [mtl, mtc, mT, mH, C.isPure, purel]) | refine And.intro ?_ ?_))
  ·simp [mtc, mtl, mT, C.isPure, purel, zHS] <;> (try simp (disch := omega) [wrap_id]) <;> (try omega)
 ·rintro ⟨i, s⟩ ⟨hi, hs, hok⟩
  simp only at hi hs hok ⊢
  have w1 : IntKind.i64.wrap ((i : Int) + 1) = ((i + 1 : Nat) : Int) := by rw [wrap_id (by omega) (by omega)]; rfl
  (repeat refine ZQ ?_); refine ZR fun K hK => ?_; simp (maxSteps := 1000000) [ty3]; refine hK _ ?_; clear hK K
  (repeat refine ZQ ?_); refine ZC (fun hc => ?_) (fun hc => ?_)
  ·simp at hc
   have hdr : L.drop i = L[i] :: L.drop (i + 1) := List.drop_eq_getElem_cons hc
   rw [hdr] at hs
   have hpa := parse73 L[i] (hl _ (List.getElem_mem hc))
   have hln := hl _ (List.getElem_mem hc)
   rw [srt] at hs
   refine awp_skip ?_
   (repeat refine ZQ ?_); refine awp_block ?_
   (repeat refine ZQ ?_); refine ZR fun K hK => ?_; simp (maxSteps := 1000000) [ty22, ty9, hc]; refine hK _ ?_; clear hK K
   (repeat refine ZQ ?_); refine ZR fun K hK => ?_; simp (maxSteps := 1000000) [ty9, ty107]
   refine ZP (hpa) ?_; simp (maxSteps := 1000000) [ty9, ty107, ty4]
   refine hK _ ?_; clear hK K; (first | show AWP _ _ _ _ _ | show ∃ _, _ | skip)
   cases hg : parseOk L[i]
   ·rw [hg, if_neg (by simp)] at hs
    (repeat refine ZQ ?_); refine ZR fun K hK => ?_; simp (maxSteps := 1000000) [ty4, hg]; refine hK _ ?_; clear hK K
    (repeat refine ZQ ?_); refine ZC (fun hd => ?_) (fun hd => ?_)
    ·clear hd
     (repeat refine ZQ ?_); refine awp_exit ?_
     (repeat refine ZQ ?_); refine ZR fun K hK => ?_; simp (maxSteps := 1000000) [ty3, w1]; refine hK _ ?_; clear hK K; (first | show AWP _ _ _ _ _ | show ∃ _, _ | skip)
     refine ⟨(i + 1, s), ⟨by omega, hs, hok⟩, by simp only; omega, ?_⟩
     exact ZW
    ·simp [hg] at hd
   ·rw [hg, if_pos rfl] at hs
    have hpm := parse_many hg
    have hrl : (parseC L[i]).row.length ≤ 100000 := by
     rw [(parse_ok hg).1]
     simp only [headC, List.length_drop, List.length_take]; omega
    generalize parseC L[i] = c at *
    obtain ⟨hm1, hm8, hnum, hl62⟩ := hpm
    have hlong := long94 c (by omega)
    (repeat refine ZQ ?_); refine ZR fun K hK => ?_; simp (maxSteps := 1000000) [ty4, hg]; refine hK _ ?_; clear hK K
    (repeat refine ZQ ?_); refine ZC (fun hd => ?_) (fun hd => ?_)
    ·simp [hg] at hd
    ·clear hd
     refine awp_skip ?_; (first | show AWP _ _ _ _ _ | show ∃ _, _ | skip)
     have hok1 := begH_ok hok hm1 hm8
     refine awp_mid ⟨ofL [(2, .ptr 2 5 0 0), (4, .ptr 4 5 0 0), (5, .mp 12), (8, .ptr 8 3 0 0), (13, sT nl fu L), (14, encI L.length), (15, encI i)],
      stoT [(2, 2, .live hZ), (4, 4, .live (hO (begH s c))), (8, 8, .live (cdO c)), (12, 12, .live (mpO s.known)), (1000, 1000, .live (lsO (begH s c).rows))]⟩ ?_ ?_
     ·unfold begH
      cases he : s.rows.isEmpty
      ·rw [if_neg (by simp)]
       (repeat refine ZQ ?_); refine ZR fun K hK => ?_; simp (maxSteps := 1000000) [ty22, ty99, he]; refine hK _ ?_; clear hK K
       (repeat refine ZQ ?_); refine ZC (hc := by simp [he]; rfl) (fun hd => ?_) (fun hd => ?_)
       ·simp [he] at hd
       ·clear hd
        refine awp_skip ?_; (first | show AWP _ _ _ _ _ | show ∃ _, _ | skip)
        have hne : ¬ s.rows = [] := by simpa using he
        refine wk_shape (shp0 hσ (by simp) (by simp) ?_) ?_
        ·simp [SlotOk, hne] <;> (repeat' (first | (refine RowsOk.same ?_; simp [purel, C.isPure]; done) | (refine rowsCons ?_; simp [mtl, mtc, mT, mH, C.isPure, purel]; done) | (refine rowsCons ?_; simp [mtl, mtc, mT, mH, C.isPure, purel]) | refine And.intro ?_ ?_))
        ·simp [mtc, mtl, mT, C.isPure, purel, hne] <;> (try simp (disch := omega) [wrap_id]) <;> (try omega)
      ·rw [if_pos rfl]
       (repeat refine ZQ ?_); refine ZR fun K hK => ?_; simp (maxSteps := 1000000) [ty22, ty99, he]; refine hK _ ?_; clear hK K
       (repeat refine ZQ ?_); refine ZC (hc := by simp [he]; rfl) (fun hd => ?_) (fun hd => ?_)
       ·clear hd
        (repeat refine ZQ ?_); refine ZD [2008,2010,2012,10004,1001,1003,1006] [0,1,3,4,5,6,2,7,8,9,10,11,12] fun K hK => ?_; simp (maxSteps := 1000000) [ty107, ty99, ty3, ty22, ty9]
        refine ZE (hlong) ?_; simp (maxSteps := 1000000) [ty107, ty99, ty3, ty22, ty9]
        refine ⟨⟨by omega, by omega, by omega⟩, ?_⟩
        refine hK _ ?_; clear hK K; (first | show AWP _ _ _ _ _ | show ∃ _, _ | skip)
        have hrz : (List.replicate c.many.toNat ([] : List UInt8)).isEmpty = false := by
         cases hq : c.many.toNat with
         | zero => omega
         | succ n => rfl
        have hnz : ¬ c.many.toNat = 0 := by omega
        refine wk_shape2 [(2, 2, .live hZ), (4, 4, .live (hO { s with rows := List.replicate c.many.toNat [], long := (longN c : Int), many := c.many })), (8, 8, .live (cdO c)), (12, 12, .live (mpO s.known)), (1000, 31, .live (lsO (List.replicate c.many.toNat [])))] (by first | rfl | (simp only [if_pos, if_true, hrz, hnz]; rfl)) (shp0 hσ (by simp) (by simp) ?_) ?_
        ·simp [SlotOk, hrz, hnz] <;> (repeat' (first | (refine RowsOk.same ?_; simp [purel, C.isPure]; done) | (refine rowsCons ?_; simp [mtl, mtc, mT, mH, C.isPure, purel]; done) | (refine rowsCons ?_; simp [mtl, mtc, mT, mH, C.isPure, purel]) | refine And.intro ?_ ?_))
        ·simp [mtc, mtl, mT, C.isPure, purel, hrz, hnz] <;> (try simp (disch := omega) [wrap_id]) <;> (try omega)
       ·simp [he] at hd
     ·obtain ⟨hok1, hr1, hk1⟩ := hok1
      rw [← hk1]
      generalize begH s c = s1 at *
      have hfk := findK c.num s1.known 0
      have hcl : clash s1 c = ((match lookN c.num s1.known with | some o => !cdEq o c | none => false) || c.many != s1.many || (longN c : Int) != s1.long) := rfl
      have htk : List.take s1.rows.length (s1.rows.map cS) = s1.rows.map cS := List.take_of_length_le (by simp)
      cases hlk : lookN c.num s1.known with
      | none =>
       rw [hlk] at hfk hcl
       simp only [Bool.false_or] at hcl hfk
       (repeat refine ZQ ?_); refine ZR fun K hK => ?_; simp (maxSteps := 1000000) [ty107, ty123, ty4, ty5, keyQ, hfk]; refine hK _ ?_; clear hK K; (first | show AWP _ _ _ _ _ | show ∃ _, _ | skip)
       cases hB : c.many != s1.many
       ·cases hC : (longN c : Int) != s1.long
        ·rw [hB, hC] at hcl
         rw [hcl, if_neg (by simp)] at hs
         (repeat refine ZQ ?_); refine ZD [] [0, 1, 2, 3, 4, 5, 6, 7, 8, 9, 10, 11, 12, 13, 14, 15, 16, 17, 18, 19] fun K hK => ?_; simp (maxSteps := 1000000) [ty107, ty99, ty3, ty4, hB]
         refine ZE (hlong) ?_; simp (maxSteps := 1000000) [ty107, ty99, ty3, ty4, hC]
         refine hK _ ?_; clear hK K
         (repeat refine ZQ ?_); refine ZC (fun hd => ?_) (fun hd => ?_)
         ·simp at hd
         ·clear hd
          refine awp_skip ?_
          (repeat refine ZQ ?_); refine ZR fun K hK => ?_; simp (maxSteps := 1000000) [ty107, ty123, ty5, keyQ, hfk]; refine hK _ ?_; clear hK K; (first | show AWP _ _ _ _ _ | show ∃ _, _ | skip)
          refine AWP.weak (t := ⟨ofL [(2, .ptr 2 5 0 0), (4, .ptr 4 5 0 0), (5, .mp 12), (8, .ptr 8 3 0 0), (13, sT nl fu L), (14, encI L.length), (15, encI i)],
           stoT [(2, 2, .live hZ), (4, 4, .live (hO s1)), (8, 8, .live (cdO c)), (12, 12, .live (mpO (s1.known ++ [c]))), (1000, 1000, .live (lsO s1.rows))]⟩) ?_ ?_
          rotate_left
          ·refine wk_shape2 [(2, 2, .live hZ), (4, 4, .live (hO s1)), (8, 8, .live (cdO c)), (12, 12, .live (mpO (s1.known ++ [c]))), (1000, 1000, .live (lsO s1.rows))] (by first | rfl | (simp only [if_pos, if_true]; rfl)) (shp0 hσ (by simp) (by simp) ?_) ?_
           ·simp [SlotOk] <;> (repeat' (first | (refine RowsOk.same ?_; simp [purel, C.isPure]; done) | (refine rowsCons ?_; simp [mtl, mtc, mT, mH, C.isPure, purel]; done) | (refine rowsCons ?_; simp [mtl, mtc, mT, mH, C.isPure, purel]) | refine And.intro ?_ ?_))
           ·simp [mtc, mtl, mT, C.isPure, purel] <;> (try simp (disch := omega) [wrap_id]) <;> (try omega)
          have hkn : (putH s1 c).known = s1.known ++ [c] := by unfold putH; rw [hlk]; rfl
          (repeat refine ZQ ?_); refine ZR fun K hK => ?_; simp (maxSteps := 1000000) [ty107, ty5]; refine hK _ ?_; clear hK K
          (repeat refine ZQ ?_); refine awp_block ?_
          have hpk := putH_ok hok1 c hr1
          have e1 : ((c.num.toNat : Int) == 97) = (c.num == 97) := u8_eq c.num 97 (by decide)
          have e2 : ((c.num.toNat : Int) == 98) = (c.num == 98) := u8_eq c.num 98 (by decide)
          have hid : (putH s1 c).long = s1.long ∧ (putH s1 c).many = s1.many := ⟨rfl, rfl⟩
          cases h97 : c.num == 97
          ·cases h98 : c.num == 98
           ·have hsu : sumN c.num = false := by unfold sumN; rw [h97, h98]; rfl
            obtain ⟨hq1, hq2⟩ := hnum hsu
            have hbt : c.num.toNat < 256 := c.num.toNat_lt
            have hla := hok1.len
            have hmn : c.many = s1.many := by simpa using hB
            have hix : c.num.toNat - 49 < s1.rows.length := by omega
            have v1 : IntKind.u8.wrap ((c.num.toNat : Int) - 49) = ((c.num.toNat - 49 : Nat) : Int) := by rw [wrap_u8 (by omega) (by omega)]; omega
            have hp : putH s1 c = { s1 with rows := s1.rows.set (c.num.toNat - 49) c.row, known := (s1.known ++ [c]) } := by
             rw [← hkn]; unfold putH; rw [hsu, h97, h98]; rfl
            rw [h97] at e1
            rw [h98] at e2
            generalize c.num.toNat - 49 = ix at *
            (repeat refine ZQ ?_); refine ZR fun K hK => ?_; simp (maxSteps := 1000000) [ty107, ty5, ty4, e1]; refine hK _ ?_; clear hK K
            (repeat refine ZQ ?_); refine ZC (fun hd => ?_) (fun hd => ?_)
            ·simp at hd
            ·clear hd
             (repeat refine ZQ ?_); refine ZR fun K hK => ?_; simp (maxSteps := 1000000) [ty107, ty5, ty4, e2]; refine hK _ ?_; clear hK K
             (repeat refine ZQ ?_); refine ZC (fun hd => ?_) (fun hd => ?_)
             ·simp at hd
             ·clear hd
              (repeat refine ZQ ?_); refine ZR fun K hK => ?_; simp (maxSteps := 1000000) [ty99, ty107, ty22, ty5, ty9, v1, hix, hr1]; refine hK _ ?_; clear hK K
              (repeat refine ZQ ?_); refine ZR fun K hK => ?_; simp (maxSteps := 1000000) [ty3, w1]; refine hK _ ?_; clear hK K; (first | show AWP _ _ _ _ _ | show ∃ _, _ | skip)
              refine ⟨(i + 1, putH s1 c), ⟨by omega, hs, hpk.1⟩, by simp only; omega, ?_⟩
              rw [hp]
              have hst : (s1.rows.map cS).set ix [C.str (S c.row)] = (s1.rows.set ix c.row).map cS := by rw [List.map_set]
              have hem : (s1.rows.set ix c.row).isEmpty = s1.rows.isEmpty := by cases s1.rows <;> cases ix <;> rfl
              have hle : (s1.rows.set ix c.row).length = s1.rows.length := List.length_set
              rw [hst]
              generalize s1.rows.set ix c.row = R2 at *
              refine wk_shape (shp0 hσ (by simp) (by simp) ?_) ?_
              ·simp [SlotOk, hem, hle] <;> (repeat' (first | (refine RowsOk.same ?_; simp [purel, C.isPure]; done) | (refine rowsCons ?_; simp [mtl, mtc, mT, mH, C.isPure, purel]; done) | (refine rowsCons ?_; simp [mtl, mtc, mT, mH, C.isPure, purel]) | refine And.intro ?_ ?_))
              ·simp [mtc, mtl, mT, C.isPure, purel, hem, hle] <;> (try simp (disch := omega) [wrap_id]) <;> (try omega)
           ·have hsu : sumN c.num = true := by unfold sumN; rw [h97, h98]; rfl
            have hp : putH s1 c = { s1 with b := c.row, known := (s1.known ++ [c]) } := by
             rw [← hkn]; unfold putH; rw [hsu, h97, h98]; rfl
            rw [h97] at e1
            rw [h98] at e2
            (repeat refine ZQ ?_); refine ZR fun K hK => ?_; simp (maxSteps := 1000000) [ty107, ty5, ty4, e1]; refine hK _ ?_; clear hK K
            (repeat refine ZQ ?_); refine ZC (fun hd => ?_) (fun hd => ?_)
            ·simp at hd
            ·clear hd
             (repeat refine ZQ ?_); refine ZR fun K hK => ?_; simp (maxSteps := 1000000) [ty107, ty5, ty4, e2]; refine hK _ ?_; clear hK K
             (repeat refine ZQ ?_); refine ZC (fun hd => ?_) (fun hd => ?_)
             ·clear hd
              (repeat refine ZQ ?_); refine ZR fun K hK => ?_; simp (maxSteps := 1000000) [ty99, ty107, ty9]; refine hK _ ?_; clear hK K
              (repeat refine ZQ ?_); refine ZR fun K hK => ?_; simp (maxSteps := 1000000) [ty3, w1]; refine hK _ ?_; clear hK K; (first | show AWP _ _ _ _ _ | show ∃ _, _ | skip)
              refine ⟨(i + 1, putH s1 c), ⟨by omega, hs, hpk.1⟩, by simp only; omega, ?_⟩
              rw [hp]
              exact ZW
             ·simp at hd
          ·have h98 : (c.num == 98) = false := by
            have : c.num = 97 := by simpa using h97
            rw [this]; decide
           have hsu : sumN c.num = true := by unfold sumN; rw [h97]; rfl
           have hp : putH s1 c = { s1 with a := c.row, known := (s1.known ++ [c]) } := by
            rw [← hkn]; unfold putH; rw [hsu, h97, h98]; rfl
           rw [h97] at e1
           (repeat refine ZQ ?_); refine ZR fun K hK => ?_; simp (maxSteps := 1000000) [ty107, ty5, ty4, e1]; refine hK _ ?_; clear hK K
           (repeat refine ZQ ?_); refine ZC (fun hd => ?_) (fun hd => ?_)
           ·clear hd
            (repeat refine ZQ ?_); refine ZR fun K hK => ?_; simp (maxSteps := 1000000) [ty99, ty107, ty9]; refine hK _ ?_; clear hK K
            (repeat refine ZQ ?_); refine ZR fun K hK => ?_; simp (maxSteps := 1000000) [ty3, w1]; refine hK _ ?_; clear hK K; (first | show AWP _ _ _ _ _ | show ∃ _, _ | skip)
            refine ⟨(i + 1, putH s1 c), ⟨by omega, hs, hpk.1⟩, by simp only; omega, ?_⟩
            rw [hp]
            exact ZW
           ·simp at hd
        ·rw [hB, hC] at hcl
         rw [hcl, if_pos (by rfl)] at hs
         (repeat refine ZQ ?_); refine ZD [] [0, 1, 2, 3, 4, 5, 6, 7, 8, 9, 10, 11, 12, 13, 14, 15, 16, 17, 18, 19] fun K hK => ?_; simp (maxSteps := 1000000) [ty107, ty99, ty3, ty4, hB]
         refine ZE (hlong) ?_; simp (maxSteps := 1000000) [ty107, ty99, ty3, ty4, hC]
         refine hK _ ?_; clear hK K
         (repeat refine ZQ ?_); refine ZC (fun hd => ?_) (fun hd => ?_)
         ·clear hd
          (repeat refine ZQ ?_); refine ZR fun K hK => ?_; simp (maxSteps := 1000000) [ty99, ty4]; refine hK _ ?_; clear hK K
          (repeat refine ZQ ?_); refine awp_ret ?_; refine And.intro (Or.inr rfl) ?_
          rw [hs]
          refine ⟨_, by simp [retC, resC, ty99]; rfl, ?_⟩
          simp [viewC, mapO, purel, C.isPure, htk]
         ·simp at hd
       ·rw [hB] at hcl
        rw [hcl, if_pos (by simp)] at hs
        (repeat refine ZQ ?_); refine ZD [] [0, 1, 2, 3, 4, 5, 6, 7, 8, 9, 10, 11, 12, 13, 14, 15, 16, 17, 18, 19] fun K hK => ?_; simp (maxSteps := 1000000) [ty107, ty99, ty3, ty4, hB]; refine hK _ ?_; clear hK K
        (repeat refine ZQ ?_); refine ZC (fun hd => ?_) (fun hd => ?_)
        ·clear hd
         (repeat refine ZQ ?_); refine ZR fun K hK => ?_; simp (maxSteps := 1000000) [ty99, ty4]; refine hK _ ?_; clear hK K
         (repeat refine ZQ ?_); refine awp_ret ?_; refine And.intro (Or.inr rfl) ?_
         rw [hs]
         refine ⟨_, by simp [retC, resC, ty99]; rfl, ?_⟩
         simp [viewC, mapO, purel, C.isPure, htk]
        ·simp at hd
      | some o =>
       rw [hlk] at hfk hcl
       simp only at hcl hfk
       obtain ⟨j, hfk, hj⟩ := hfk
       rw [Nat.zero_add] at hfk
       have hEq : eqMix [some .u8, some .i64, none] [.int .u8 (o.num.toNat : Int), encI o.many, encS o.row] [.int .u8 (c.num.toNat : Int), encI c.many, encS c.row] = some (cdEq o c) := by
        have hS : (S o.row == S c.row) = (o.row == c.row) := by
         show ((S o.row).data == (S c.row).data) = _
         simp
        simp only [eqMix, and_self, if_true, Option.map_some, Bool.and_true, cdEq, hS]
       (repeat refine ZQ ?_); refine ZR fun K hK => ?_; simp (maxSteps := 1000000) [ty107, ty123, ty4, ty5, keyQ, hfk]; refine hK _ ?_; clear hK K; (first | show AWP _ _ _ _ _ | show ∃ _, _ | skip)
       cases hE : cdEq o c
       ·rw [hE] at hcl hEq
        simp only [Bool.not_false, Bool.true_or] at hcl
        rw [hcl, if_pos rfl] at hs
        (repeat refine ZQ ?_); refine ZD [] [0, 1, 2, 3, 4, 5, 6, 7, 8, 9, 10, 11, 12, 13, 14, 15, 16, 17, 18, 19] fun K hK => ?_; simp (maxSteps := 1000000) [ty107, ty99, ty3, ty4, fe107, de107, me107, hEq, -eqMix]; refine hK _ ?_; clear hK K
        (repeat refine ZQ ?_); refine ZC (fun hd => ?_) (fun hd => ?_)
        ·clear hd
         (repeat refine ZQ ?_); refine ZR fun K hK => ?_; simp (maxSteps := 1000000) [ty99, ty4]; refine hK _ ?_; clear hK K
         (repeat refine ZQ ?_); refine awp_ret ?_; refine And.intro (Or.inr rfl) ?_
         rw [hs]
         refine ⟨_, by simp [retC, resC, ty99]; rfl, ?_⟩
         simp [viewC, mapO, purel, C.isPure, htk]
        ·simp at hd
       ·rw [hE] at hcl hEq
        simp only [Bool.not_true, Bool.false_or] at hcl
        have hoc := cdEq_eq hE
        cases hB : c.many != s1.many
        ·cases hC : (longN c : Int) != s1.long
         ·rw [hB, hC] at hcl
          rw [hcl, if_neg (by simp)] at hs
          (repeat refine ZQ ?_); refine ZD [] [0, 1, 2, 3, 4, 5, 6, 7, 8, 9, 10, 11, 12, 13, 14, 15, 16, 17, 18, 19] fun K hK => ?_; simp (maxSteps := 1000000) [ty107, ty99, ty3, ty4, hB, fe107, de107, me107, hEq, -eqMix]
          refine ZE (hlong) ?_; simp (maxSteps := 1000000) [ty107, ty99, ty3, ty4, hC]
          refine hK _ ?_; clear hK K
          (repeat refine ZQ ?_); refine ZC (fun hd => ?_) (fun hd => ?_)
          ·simp at hd
          ·clear hd
           refine awp_skip ?_; (first | show AWP _ _ _ _ _ | show ∃ _, _ | skip)
           have hset : (s1.known.map entK).set j (entK c) = s1.known.map entK := by
            rw [← List.map_set, ← hoc]
            congr 1
            obtain ⟨h1, h2⟩ := List.getElem?_eq_some_iff.1 hj
            rw [← h2, List.set_getElem_self]
           simp only [entK] at hset
           (repeat refine ZQ ?_); refine ZR fun K hK => ?_; simp (maxSteps := 1000000) [ty107, ty123, ty5, keyQ, hfk, hset]; refine hK _ ?_; clear hK K; (first | show AWP _ _ _ _ _ | show ∃ _, _ | skip)
           refine AWP.weak (t := ⟨ofL [(2, .ptr 2 5 0 0), (4, .ptr 4 5 0 0), (5, .mp 12), (8, .ptr 8 3 0 0), (13, sT nl fu L), (14, encI L.length), (15, encI i)],
            stoT [(2, 2, .live hZ), (4, 4, .live (hO s1)), (8, 8, .live (cdO c)), (12, 12, .live (mpO s1.known)), (1000, 1000, .live (lsO s1.rows))]⟩) ?_ ?_
           rotate_left
           ·refine wk_shape2 [(2, 2, .live hZ), (4, 4, .live (hO s1)), (8, 8, .live (cdO c)), (12, 12, .live (mpO s1.known)), (1000, 1000, .live (lsO s1.rows))] (by first | rfl | (simp only [if_pos, if_true]; rfl)) (shp0 hσ (by simp) (by simp) ?_) ?_
            ·simp [SlotOk] <;> (repeat' (first | (refine RowsOk.same ?_; simp [purel, C.isPure]; done) | (refine rowsCons ?_; simp [mtl, mtc, mT, mH, C.isPure, purel]; done) | (refine rowsCons ?_; simp [mtl, mtc, mT, mH, C.isPure, purel]) | refine And.intro ?_ ?_))
            ·simp [mtc, mtl, mT, C.isPure, purel] <;> (try simp (disch := omega) [wrap_id]) <;> (try omega)
           have hkn : (putH s1 c).known = s1.known := by unfold putH; rw [hlk]; rfl
           (repeat refine ZQ ?_); refine ZR fun K hK => ?_; simp (maxSteps := 1000000) [ty107, ty5]; refine hK _ ?_; clear hK K
           (repeat refine ZQ ?_); refine awp_block ?_
           have hpk := putH_ok hok1 c hr1
           have e1 : ((c.num.toNat : Int) == 97) = (c.num == 97) := u8_eq c.num 97 (by decide)
           have e2 : ((c.num.toNat : Int) == 98) = (c.num == 98) := u8_eq c.num 98 (by decide)
           have hid : (putH s1 c).long = s1.long ∧ (putH s1 c).many = s1.many := ⟨rfl, rfl⟩
           cases h97 : c.num == 97
           ·cases h98 : c.num == 98
            ·have hsu : sumN c.num = false := by unfold sumN; rw [h97, h98]; rfl
             obtain ⟨hq1, hq2⟩ := hnum hsu
             have hbt : c.num.toNat < 256 := c.num.toNat_lt
             have hla := hok1.len
             have hmn : c.many = s1.many := by simpa using hB
             have hix : c.num.toNat - 49 < s1.rows.length := by omega
             have v1 : IntKind.u8.wrap ((c.num.toNat : Int) - 49) = ((c.num.toNat - 49 : Nat) : Int) := by rw [wrap_u8 (by omega) (by omega)]; omega
             have hp : putH s1 c = { s1 with rows := s1.rows.set (c.num.toNat - 49) c.row, known := s1.known } := by
              rw [← hkn]; unfold putH; rw [hsu, h97, h98]; rfl
             rw [h97] at e1
             rw [h98] at e2
             generalize c.num.toNat - 49 = ix at *
             (repeat refine ZQ ?_); refine ZR fun K hK => ?_; simp (maxSteps := 1000000) [ty107, ty5, ty4, e1]; refine hK _ ?_; clear hK K
             (repeat refine ZQ ?_); refine ZC (fun hd => ?_) (fun hd => ?_)
             ·simp at hd
             ·clear hd
              (repeat refine ZQ ?_); refine ZR fun K hK => ?_; simp (maxSteps := 1000000) [ty107, ty5, ty4, e2]; refine hK _ ?_; clear hK K
              (repeat refine ZQ ?_); refine ZC (fun hd => ?_) (fun hd => ?_)
              ·simp at hd
              ·clear hd
               (repeat refine ZQ ?_); refine ZR fun K hK => ?_; simp (maxSteps := 1000000) [ty99, ty107, ty22, ty5, ty9, v1, hix, hr1]; refine hK _ ?_; clear hK K
               (repeat refine ZQ ?_); refine ZR fun K hK => ?_; simp (maxSteps := 1000000) [ty3, w1]; refine hK _ ?_; clear hK K; (first | show AWP _ _ _ _ _ | show ∃ _, _ | skip)
               refine ⟨(i + 1, putH s1 c), ⟨by omega, hs, hpk.1⟩, by simp only; omega, ?_⟩
               rw [hp]
               have hst : (s1.rows.map cS).set ix [C.str (S c.row)] = (s1.rows.set ix c.row).map cS := by rw [List.map_set]
               have hem : (s1.rows.set ix c.row).isEmpty = s1.rows.isEmpty := by cases s1.rows <;> cases ix <;> rfl
               have hle : (s1.rows.set ix c.row).length = s1.rows.length := List.length_set
               rw [hst]
               generalize s1.rows.set ix c.row = R2 at *
               refine wk_shape (shp0 hσ (by simp) (by simp) ?_) ?_
               ·simp [SlotOk, hem, hle] <;> (repeat' (first | (refine RowsOk.same ?_; simp [purel, C.isPure]; done) | (refine rowsCons ?_; simp [mtl, mtc, mT, mH, C.isPure, purel]; done) | (refine rowsCons ?_; simp [mtl, mtc, mT, mH, C.isPure, purel]) | refine And.intro ?_ ?_))
               ·simp [mtc, mtl, mT, C.isPure, purel, hem, hle] <;> (try simp (disch := omega) [wrap_id]) <;> (try omega)
            ·have hsu : sumN c.num = true := by unfold sumN; rw [h97, h98]; rfl
             have hp : putH s1 c = { s1 with b := c.row, known := s1.known } := by
              rw [← hkn]; unfold putH; rw [hsu, h97, h98]; rfl
             rw [h97] at e1
             rw [h98] at e2
             (repeat refine ZQ ?_); refine ZR fun K hK => ?_; simp (maxSteps := 1000000) [ty107, ty5, ty4, e1]; refine hK _ ?_; clear hK K
             (repeat refine ZQ ?_); refine ZC (fun hd => ?_) (fun hd => ?_)
             ·simp at hd
             ·clear hd
              (repeat refine ZQ ?_); refine ZR fun K hK => ?_; simp (maxSteps := 1000000) [ty107, ty5, ty4, e2]; refine hK _ ?_; clear hK K
              (repeat refine ZQ ?_); refine ZC (fun hd => ?_) (fun hd => ?_)
              ·clear hd
               (repeat refine ZQ ?_); refine ZR fun K hK => ?_; simp (maxSteps := 1000000) [ty99, ty107, ty9]; refine hK _ ?_; clear hK K
               (repeat refine ZQ ?_); refine ZR fun K hK => ?_; simp (maxSteps := 1000000) [ty3, w1]; refine hK _ ?_; clear hK K; (first | show AWP _ _ _ _ _ | show ∃ _, _ | skip)
               refine ⟨(i + 1, putH s1 c), ⟨by omega, hs, hpk.1⟩, by simp only; omega, ?_⟩
               rw [hp]
               exact ZW
              ·simp at hd
           ·have h98 : (c.num == 98) = false := by
             have : c.num = 97 := by simpa using h97
             rw [this]; decide
            have hsu : sumN c.num = true := by unfold sumN; rw [h97]; rfl
            have hp : putH s1 c = { s1 with a := c.row, known := s1.known } := by
             rw [← hkn]; unfold putH; rw [hsu, h97, h98]; rfl
            rw [h97] at e1
            (repeat refine ZQ ?_); refine ZR fun K hK => ?_; simp (maxSteps := 1000000) [ty107, ty5, ty4, e1]; refine hK _ ?_; clear hK K
            (repeat refine ZQ ?_); refine ZC (fun hd => ?_) (fun hd => ?_)
            ·clear hd
             (repeat refine ZQ ?_); refine ZR fun K hK => ?_; simp (maxSteps := 1000000) [ty99, ty107, ty9]; refine hK _ ?_; clear hK K
             (repeat refine ZQ ?_); refine ZR fun K hK => ?_; simp (maxSteps := 1000000) [ty3, w1]; refine hK _ ?_; clear hK K; (first | show AWP _ _ _ _ _ | show ∃ _, _ | skip)
             refine ⟨(i + 1, putH s1 c), ⟨by omega, hs, hpk.1⟩, by simp only; omega, ?_⟩
             rw [hp]
             exact ZW
            ·simp at hd
         ·rw [hB, hC] at hcl
          rw [hcl, if_pos (by rfl)] at hs
          (repeat refine ZQ ?_); refine ZD [] [0, 1, 2, 3, 4, 5, 6, 7, 8, 9, 10, 11, 12, 13, 14, 15, 16, 17, 18, 19] fun K hK => ?_; simp (maxSteps := 1000000) [ty107, ty99, ty3, ty4, hB, fe107, de107, me107, hEq, -eqMix]
          refine ZE (hlong) ?_; simp (maxSteps := 1000000) [ty107, ty99, ty3, ty4, hC]
          refine hK _ ?_; clear hK K
          (repeat refine ZQ ?_); refine ZC (fun hd => ?_) (fun hd => ?_)
          ·clear hd
           (repeat refine ZQ ?_); refine ZR fun K hK => ?_; simp (maxSteps := 1000000) [ty99, ty4]; refine hK _ ?_; clear hK K
           (repeat refine ZQ ?_); refine awp_ret ?_; refine And.intro (Or.inr rfl) ?_
           rw [hs]
           refine ⟨_, by simp [retC, resC, ty99]; rfl, ?_⟩
           simp [viewC, mapO, purel, C.isPure, htk]
          ·simp at hd
        ·rw [hB] at hcl
         rw [hcl, if_pos (by simp)] at hs
         (repeat refine ZQ ?_); refine ZD [] [0, 1, 2, 3, 4, 5, 6, 7, 8, 9, 10, 11, 12, 13, 14, 15, 16, 17, 18, 19] fun K hK => ?_; simp (maxSteps := 1000000) [ty107, ty99, ty3, ty4, hB, fe107, de107, me107, hEq, -eqMix]; refine hK _ ?_; clear hK K
         (repeat refine ZQ ?_); refine ZC (fun hd => ?_) (fun hd => ?_)
         ·clear hd
          (repeat refine ZQ ?_); refine ZR fun K hK => ?_; simp (maxSteps := 1000000) [ty99, ty4]; refine hK _ ?_; clear hK K
          (repeat refine ZQ ?_); refine awp_ret ?_; refine And.intro (Or.inr rfl) ?_
          rw [hs]
          refine ⟨_, by simp [retC, resC, ty99]; rfl, ?_⟩
          simp [viewC, mapO, purel, C.isPure, htk]
         ·simp at hd
  ·simp at hc
   (repeat refine ZQ ?_); refine awp_exit ?_; (first | show AWP _ _ _ _ _ | show ∃ _, _ | skip)
   have hin : i = L.length := by omega
   rw [hin, List.drop_length, srt] at hs
   rw [hs]
   have htk : List.take s.rows.length (s.rows.map cS) = s.rows.map cS := List.take_of_length_le (by simp)
   have hkl : decide (0 < s.known.length) = !s.known.isEmpty := by cases s.known <;> simp
   (repeat refine ZQ ?_); refine ZR fun K hK => ?_; simp (maxSteps := 1000000) [ty99, ty123, ty4, ty3]; refine hK _ ?_; clear hK K
   (repeat refine ZQ ?_); refine awp_ret ?_; refine And.intro (Or.inr rfl) ?_
   refine ⟨_, by simp [retC, resC, ty99]; rfl, ?_⟩
   simp [viewC, mapO, purel, C.isPure, htk, hkl]

set_option maxHeartbeats 8000000
set_option maxRecDepth 20000


def missTo (R : List (List UInt8)) (i : Nat) : List Int := ((List.range i).filter fun k => R.getD k [] == []).map Int.ofNat
def missB (R : List (List UInt8)) : List Int := missTo R R.length
theorem missTo_succ (R : List (List UInt8)) {i : Nat} (hi : i < R.length) : missTo R (i + 1) = if R[i] = [] then missTo R i ++ [(i : Int)] else missTo R i := by
 have e : R.getD i [] = R[i] := by simp [List.getD_eq_getElem?_getD, List.getElem?_eq_getElem hi]
 unfold missTo
 rw [List.range_succ, List.filter_append, List.map_append]
 by_cases h : R[i] = []
 ·rw [if_pos h]
  have hf : List.filter (fun k => R.getD k [] == []) [i] = [i] := by
   have : (R.getD i [] == []) = true := by rw [e, h]; rfl
   simp only [List.filter_cons, List.filter_nil, this]
   rfl
  rw [hf]; rfl
 ·rw [if_neg h]
  have : (R.getD i [] == []) = false := by rw [e]; simpa using h
  simp only [List.filter_cons, List.filter_nil, this]
  simp
theorem missTo_len (R : List (List UInt8)) (i : Nat) : (missTo R i).length ≤ i := by
 unfold missTo
 rw [List.length_map]
 exact Nat.le_trans (List.length_filter_le _ _) (by simp)

theorem missing75 (s : HS) (hn : s.rows.length ≤ 100000) : Pure Tryz.prog 75 [encH s] (.sl (missB s.rows).isEmpty false ((missB s.rows).map cI)) := by
 have hM0 : missTo s.rows 0 = [] := rfl
 have hMs := fun i (hi : i < s.rows.length) => missTo_succ s.rows hi
 have hMl := missTo_len s.rows
 unfold missB
 generalize missTo s.rows = M at *
 refine ZF (fn := Tryz.f75) [.tmp 2] ⟨Tryz.func75, rfl, by kernel_rfl⟩ fun x hx hσ => ?_
 (repeat refine ZQ ?_); refine ZR fun K hK => ?_; simp (maxSteps := 1000000) [ty99, ty33]; refine hK _ ?_; clear hK K
 (repeat refine ZQ ?_); refine ZR fun K hK => ?_; simp (maxSteps := 1000000) [ty33]; refine hK _ ?_; clear hK K
 (repeat refine ZQ ?_); refine ZR fun K hK => ?_; simp (maxSteps := 1000000) [ty99, ty22]; refine hK _ ?_; clear hK K
 (repeat refine ZQ ?_); refine awp_block ?_
 refine AWP.weak ?_ (wk_nil 3 3 1 (fu := true) (by simp) (by simp))
 refine awp_loop (fun i : Nat => ⟨ofL [(3, .own 3 1 0 (M i).length), (7, .sl s.rows.isEmpty false (s.rows.map cS)), (8, encI s.rows.length), (9, encI i)], stoT [(3, 3, .live ⟨(M i).isEmpty, false, 1, (M i).map cI⟩)]⟩)
  (fun i => i ≤ s.rows.length) (fun i => s.rows.length - i) 0 (Nat.zero_le _) ?_ ?_
 ·rw [hM0]
  exact ZW
 ·intro i hi
  have hMi := hMl i
  (repeat refine ZQ ?_); refine ZR fun K hK => ?_; simp (maxSteps := 1000000) [ty3]; refine hK _ ?_; clear hK K
  (repeat refine ZQ ?_); refine ZC (fun hc => ?_) (fun hc => ?_)
  ·simp at hc
   have w1 : IntKind.i64.wrap ((i : Int) + 1) = ((i + 1 : Nat) : Int) := by rw [wrap_id (by omega) (by omega)]; rfl
   have hst := hMs i hc
   have he := str_eq s.rows[i] []
   refine awp_skip ?_
   (repeat refine ZQ ?_); refine awp_block ?_
   (repeat refine ZQ ?_); refine ZR fun K hK => ?_; simp (maxSteps := 1000000) [ty22, ty9, hc]; refine hK _ ?_; clear hK K; (first | show AWP _ _ _ _ _ | show ∃ _, _ | skip)
   by_cases h0 : s.rows[i] = []
   ·rw [if_pos h0] at hst
    rw [show (s.rows[i] == []) = true by rw [h0]; rfl] at he
    generalize M i = X at *
    (repeat refine ZQ ?_); refine ZR fun K hK => ?_; simp (maxSteps := 1000000) [ty9, he, -strBin]; refine hK _ ?_; clear hK K
    (repeat refine ZQ ?_); refine ZC (fun hd => ?_) (fun hd => ?_)
    ·clear hd
     (repeat refine ZQ ?_); refine ZR fun K hK => ?_; simp (maxSteps := 1000000) [ty33, ty3]
     refine ⟨by omega, ?_⟩
     refine hK _ ?_; clear hK K
     (repeat refine ZQ ?_); refine ZR fun K hK => ?_; simp (maxSteps := 1000000) [ty3, w1]; refine hK _ ?_; clear hK K; (first | show AWP _ _ _ _ _ | show ∃ _, _ | skip)
     refine ⟨i + 1, by omega, by omega, ?_⟩
     rw [hst]
     refine wk_shape2 [(3, 19, .live ⟨(X ++ [(i : Int)]).isEmpty, false, 1, (X ++ [(i : Int)]).map cI⟩)] (by first | rfl | (simp only [if_pos, if_true]; rfl)) (shp0 hσ (by simp) (by simp) ?_) ?_
     ·simp [SlotOk] <;> (repeat' (first | (refine RowsOk.same ?_; simp [purel, C.isPure]; done) | (refine rowsCons ?_; simp [mtl, mtc, mT, mH, C.isPure, purel]; done) | (refine rowsCons ?_; simp [mtl, mtc, mT, mH, C.isPure, purel]) | refine And.intro ?_ ?_))
     ·simp [mtc, mtl, mT, C.isPure, purel] <;> (try simp (disch := omega) [wrap_id]) <;> (try omega)
    ·simp at hd
   ·rw [if_neg h0] at hst
    rw [show (s.rows[i] == []) = false by rw [beq_eq_false_iff_ne]; exact h0] at he
    (repeat refine ZQ ?_); refine ZR fun K hK => ?_; simp (maxSteps := 1000000) [ty9, he, -strBin]; refine hK _ ?_; clear hK K
    (repeat refine ZQ ?_); refine ZC (fun hd => ?_) (fun hd => ?_)
    ·simp at hd
    ·clear hd
     refine awp_skip ?_
     (repeat refine ZQ ?_); refine ZR fun K hK => ?_; simp (maxSteps := 1000000) [ty3, w1]; refine hK _ ?_; clear hK K; (first | show AWP _ _ _ _ _ | show ∃ _, _ | skip)
     refine ⟨i + 1, by omega, by omega, ?_⟩
     rw [hst]
     exact ZW
  ·simp at hc
   (repeat refine ZQ ?_); refine awp_exit ?_; (first | show AWP _ _ _ _ _ | show ∃ _, _ | skip)
   have hin : i = s.rows.length := by omega
   rw [hin]
   have ht : List.take (M s.rows.length).length ((M s.rows.length).map cI) = (M s.rows.length).map cI := List.take_of_length_le (by simp)
   (repeat refine ZQ ?_); refine ZR fun K hK => ?_; simp (maxSteps := 1000000) [ty33]; refine hK _ ?_; clear hK K
   (repeat refine ZQ ?_); refine awp_ret ?_; refine And.intro (Or.inr rfl) ?_
   simp [retC, resC, viewC, mapO, purel, C.isPure, ht]

def leftTo (R : List (List UInt8)) (at_ : Nat) (wt : Bool) : Nat → Int
 | 0 => 0
 | i + 1 => leftTo R at_ wt i + (if R.getD i [] = [] then 0 else valB (atB R i at_) * wgt wt i)
def leftN (R : List (List UInt8)) (row : List UInt8) (at_ : Nat) (wt : Bool) : Int := ((numV ((row.take (2 * at_ + 2)).drop (2 * at_)) : Int) - leftTo R at_ wt R.length) % 97

theorem leftTo_bd (R : List (List UInt8)) (at_ : Nat) (wt : Bool) : ∀ i : Nat, i ≤ 50 → -(20000 * i : Int) ≤ leftTo R at_ wt i ∧ leftTo R at_ wt i ≤ 20000 * i
 | 0, _ => by simp [leftTo]
 | i + 1, h => by
  have ih := leftTo_bd R at_ wt i (by omega)
  simp only [leftTo]
  split
  ·omega
  ·have hb : (atB R i at_).toNat < 256 := (atB R i at_).toNat_lt
   have hv : -32 ≤ valB (atB R i at_) ∧ valB (atB R i at_) ≤ 224 := by unfold valB; omega
   have hw : 1 ≤ wgt wt i ∧ wgt wt i ≤ 51 := by unfold wgt; split <;> omega
   have a1 : valB (atB R i at_) * wgt wt i ≤ 224 * wgt wt i := Int.mul_le_mul_of_nonneg_right hv.2 (by omega)
   have a2 : -32 * wgt wt i ≤ valB (atB R i at_) * wgt wt i := Int.mul_le_mul_of_nonneg_right hv.1 (by omega)
   omega

theorem left98 (s : HS) (row : List UInt8) (at_ : Nat) (wt : Bool) (f : Nat) (hR : s.rows.length ≤ 50) (hat : ∀ r ∈ s.rows, r ≠ [] → at_ < r.length) (hrow : 2 * at_ + 2 ≤ row.length) (hrl : row.length ≤ 100000)
  (hf : ∀ i : Nat, i < 50 → Pure Tryz.prog f [encI i] (encI (wgt wt i))) :
  Pure Tryz.prog 98 [encH s, encS row, encI at_, .fn (.func f) [] []] (encI (leftN s.rows row at_ wt)) := by
 have hsz := S_size row
 have hx3 := S_ext row (2 * at_) (2 * at_ + 2)
 have c1 := number101 ((row.take (2 * at_ + 2)).drop (2 * at_)) (by simp; omega)
 unfold leftN
 have hnv : numV ((row.take (2 * at_ + 2)).drop (2 * at_)) ≤ 100 := by
  unfold numV
  split
  ·rename_i h
   unfold numOk at h
   simp only [Bool.and_eq_true, beq_iff_eq] at h
   have hd := dig_bd h.2
   generalize (row.take (2 * at_ + 2)).drop (2 * at_) = q at *
   match q, h.1 with
   | [a, b], _ =>
    have h1 := hd a (by simp)
    have h2 := hd b (by simp)
    simp [numAt]; omega
  ·omega
 generalize (row.take (2 * at_ + 2)).drop (2 * at_) = pc at *
 generalize numV pc = n at *
 have hL0 : leftTo s.rows at_ wt 0 = 0 := rfl
 have hLs : ∀ i (hi : i < s.rows.length), leftTo s.rows at_ wt (i + 1) = leftTo s.rows at_ wt i + (if s.rows[i] = [] then 0 else valB (atB s.rows i at_) * wgt wt i) := fun i hi => by
  have e : s.rows.getD i [] = s.rows[i] := by simp [List.getD_eq_getElem?_getD, List.getElem?_eq_getElem hi]
  simp only [leftTo, e]
 have hLb := leftTo_bd s.rows at_ wt
 have hab : ∀ i (hi : i < s.rows.length) (h0 : s.rows[i] ≠ []), ∃ hk : at_ < s.rows[i].length, atB s.rows i at_ = s.rows[i][at_] := fun i hi h0 => by
  have hk := hat _ (List.getElem_mem hi) h0
  refine ⟨hk, ?_⟩
  unfold atB
  simp [List.getD_eq_getElem?_getD, List.getElem?_eq_getElem hi, List.getElem?_eq_getElem hk]
 generalize leftTo s.rows at_ wt = T at *
 have w1 : IntKind.i64.wrap (2 * (at_ : Int)) = ((2 * at_ : Nat) : Int) := by rw [wrap_id (by omega) (by omega)]; omega
 have w2 : IntKind.i64.wrap (((2 * at_ : Nat) : Int) + 2) = ((2 * at_ + 2 : Nat) : Int) := by rw [wrap_id (by omega) (by omega)]; omega
 obtain ⟨p, hp⟩ : ∃ p, 2 * at_ = p := ⟨_, rfl⟩
 obtain ⟨p2, hp2⟩ : ∃ p2, p + 2 = p2 := ⟨_, rfl⟩
 rw [hp] at w1 w2 hx3 hrow
 rw [hp2] at w2 hx3 hrow
 have y1 : p ≤ p2 := by omega
 have hmod := mod99 ((n : Int) - T s.rows.length) (by have := hLb s.rows.length (by omega); omega) (by have := hLb s.rows.length (by omega); omega)
 refine ZF (fn := Tryz.f98) [.tmp 8] ⟨Tryz.func98, rfl, by kernel_rfl⟩ fun x hx hσ => ?_
 (repeat refine ZQ ?_); refine ZR fun K hK => ?_; simp (maxSteps := 1000000) [ty99, ty3]; refine hK _ ?_; clear hK K
 (repeat refine ZQ ?_); refine ZR fun K hK => ?_; simp (maxSteps := 1000000) [ty9, ty3, hsz, w1, w2, hx3, y1, hrow]
 refine ZP (c1) ?_; simp (maxSteps := 1000000) [ty3, ty4]
 refine hK _ ?_; clear hK K
 (repeat refine ZQ ?_); refine ZR fun K hK => ?_; simp (maxSteps := 1000000) [ty99, ty22]; refine hK _ ?_; clear hK K
 (repeat refine ZQ ?_); refine awp_block ?_
 refine awp_loop (fun i : Nat => ⟨ofL [(2, encI at_), (3, .fn (.func f) [] []), (9, encI ((n : Int) - T i)), (25, .sl s.rows.isEmpty false (s.rows.map cS)), (26, encI s.rows.length), (27, encI i)], stoT []⟩)
  (fun i => i ≤ s.rows.length) (fun i => s.rows.length - i) 0 (Nat.zero_le _) ?_ ?_
 ·rw [hL0]
  exact ZW
 ·intro i hi
  (repeat refine ZQ ?_); refine ZR fun K hK => ?_; simp (maxSteps := 1000000) [ty3]; refine hK _ ?_; clear hK K
  (repeat refine ZQ ?_); refine ZC (fun hc => ?_) (fun hc => ?_)
  ·simp at hc
   have v9 : IntKind.i64.wrap ((i : Int) + 1) = ((i + 1 : Nat) : Int) := by rw [wrap_id (by omega) (by omega)]; rfl
   have hst := hLs i hc
   have he := str_ne s.rows[i] []
   have hb0 := hLb i (by omega)
   have hb1 := hLb (i + 1) (by omega)
   have hfi := hf i (by omega)
   refine awp_skip ?_
   (repeat refine ZQ ?_); refine awp_block ?_
   (repeat refine ZQ ?_); refine ZR fun K hK => ?_; simp (maxSteps := 1000000) [ty22, ty9, hc]; refine hK _ ?_; clear hK K; (first | show AWP _ _ _ _ _ | show ∃ _, _ | skip)
   by_cases h0 : s.rows[i] = []
   ·rw [if_pos h0] at hst
    rw [show (s.rows[i] == []) = true by rw [h0]; rfl] at he
    (repeat refine ZQ ?_); refine ZR fun K hK => ?_; simp (maxSteps := 1000000) [ty9, he, -strBin]; refine hK _ ?_; clear hK K
    (repeat refine ZQ ?_); refine ZC (fun hd => ?_) (fun hd => ?_)
    ·simp at hd
    ·clear hd
     refine awp_skip ?_
     (repeat refine ZQ ?_); refine ZR fun K hK => ?_; simp (maxSteps := 1000000) [ty3, v9]; refine hK _ ?_; clear hK K; (first | show AWP _ _ _ _ _ | show ∃ _, _ | skip)
     refine ⟨i + 1, by omega, by omega, ?_⟩
     rw [hst, Int.add_zero]
     exact ZW
   ·rw [if_neg h0] at hst
    rw [show (s.rows[i] == []) = false by rw [beq_eq_false_iff_ne]; exact h0] at he
    obtain ⟨hk, hak⟩ := hab i hc h0
    have hg := S_at hk
    rw [← hak] at hg
    have hbt : (atB s.rows i at_).toNat < 256 := (atB s.rows i at_).toNat_lt
    have hvb : ((atB s.rows i at_).toNat : Int) - 32 = valB (atB s.rows i at_) := rfl
    have hv2 : -32 ≤ valB (atB s.rows i at_) ∧ valB (atB s.rows i at_) ≤ 224 := by unfold valB; omega
    have hw2 : 1 ≤ wgt wt i ∧ wgt wt i ≤ 51 := by unfold wgt; split <;> omega
    generalize valB (atB s.rows i at_) = z at *
    generalize atB s.rows i at_ = bt at *
    generalize wgt wt i = wg at *
    have a1 : z * wg ≤ 224 * wg := Int.mul_le_mul_of_nonneg_right hv2.2 (by omega)
    have a2 : -32 * wg ≤ z * wg := Int.mul_le_mul_of_nonneg_right hv2.1 (by omega)
    have v1 : IntKind.i64.wrap (bt.toNat : Int) = bt.toNat := wrap_id (by omega) (by omega)
    have v2 : IntKind.i64.wrap ((bt.toNat : Int) - 32) = z := by rw [wrap_id (by omega) (by omega)]; exact hvb
    have v3 : IntKind.i64.wrap (z * wg) = z * wg := wrap_id (by omega) (by omega)
    have v4 : IntKind.i64.wrap ((n : Int) - T i - z * wg) = (n : Int) - T (i + 1) := by rw [wrap_id (by omega) (by omega), hst]; omega
    (repeat refine ZQ ?_); refine ZR fun K hK => ?_; simp (maxSteps := 1000000) [ty9, he, -strBin]; refine hK _ ?_; clear hK K
    (repeat refine ZQ ?_); refine ZC (fun hd => ?_) (fun hd => ?_)
    ·clear hd
     (repeat refine ZQ ?_); refine ZD [] [0, 1, 2, 3, 4, 5, 6, 7, 8, 9, 10, 11] fun K hK => ?_; simp (maxSteps := 1000000) [ty9, ty5, ty3, hg, hk, v1, v2]
     refine ZE (hfi) ?_; simp (maxSteps := 1000000) [ty3, v1, v2, v3, v4]
     refine hK _ ?_; clear hK K
     (repeat refine ZQ ?_); refine ZR fun K hK => ?_; simp (maxSteps := 1000000) [ty3, v9]; refine hK _ ?_; clear hK K; (first | show AWP _ _ _ _ _ | show ∃ _, _ | skip)
     refine ⟨i + 1, by omega, by omega, ?_⟩
     exact ZW
    ·simp at hd
  ·simp at hc
   (repeat refine ZQ ?_); refine awp_exit ?_; (first | show AWP _ _ _ _ _ | show ∃ _, _ | skip)
   have hin : i = s.rows.length := by omega
   rw [hin]
   (repeat refine ZQ ?_); refine ZR fun K hK => ?_; simp (maxSteps := 1000000) [ty3]
   refine ZP (hmod) ?_; simp (maxSteps := 1000000) [ty3]
   refine hK _ ?_; clear hK K
   (repeat refine ZQ ?_); refine awp_ret ?_; refine And.intro (Or.inr rfl) ?_
   simp [retC, resC, viewC, mapO]

set_option maxHeartbeats 4000000
set_option maxRecDepth 20000


theorem once95 (i : Nat) : Pure Tryz.prog 95 [encI i] (encI 1) := by
 refine ZF (fn := Tryz.f95) [.tmp 2] ⟨Tryz.func95, rfl, by kernel_rfl⟩ fun x hx hσ => ?_
 (repeat refine ZQ ?_); refine ZR fun K hK => ?_; simp (maxSteps := 1000000) [ty3]; refine hK _ ?_; clear hK K
 (repeat refine ZQ ?_); refine ZR fun K hK => ?_; simp (maxSteps := 1000000) [ty3]; refine hK _ ?_; clear hK K
 (repeat refine ZQ ?_); refine awp_ret ?_; refine And.intro (Or.inr rfl) ?_
 simp [retC, resC, viewC, mapO]
theorem place96 (i : Nat) (hi : i ≤ 1000) : Pure Tryz.prog 96 [encI i] (encI ((i : Int) + 1)) := by
 have w1 : IntKind.i64.wrap ((i : Int) + 1) = (i : Int) + 1 := wrap_id (by omega) (by omega)
 refine ZF (fn := Tryz.f96) [.tmp 2] ⟨Tryz.func96, rfl, by kernel_rfl⟩ fun x hx hσ => ?_
 (repeat refine ZQ ?_); refine ZR fun K hK => ?_; simp (maxSteps := 1000000) [ty3]; refine hK _ ?_; clear hK K
 (repeat refine ZQ ?_); refine ZR fun K hK => ?_; simp (maxSteps := 1000000) [ty3, w1]; refine hK _ ?_; clear hK K
 (repeat refine ZQ ?_); refine awp_ret ?_; refine And.intro (Or.inr rfl) ?_
 simp [retC, resC, viewC, mapO]

theorem clone97 (fu : Bool) (R : List (List UInt8)) (hn : R.length ≤ 1000) (h0 : R ≠ []) : Fresh Tryz.prog 97 [sT false fu R] ⟨false, false, 1, R.map cS⟩ := by
 have hem : R.isEmpty = false := by simpa using h0
 refine fresh_of (fn := Tryz.f97) [.tmp 2] ⟨Tryz.func97, rfl, by kernel_rfl⟩ (by kernel_rfl) (by kernel_rfl) (by kernel_rfl) fun x hx hσ => ?_
 (repeat refine ZQ ?_); refine ZR fun K hK => ?_; simp (maxSteps := 1000000) [ty22]; refine hK _ ?_; clear hK K
 (repeat refine ZQ ?_); refine ZR fun K hK => ?_; simp (maxSteps := 1000000) [ty22]; refine hK _ ?_; clear hK K
 (repeat refine ZQ ?_); refine ZC (fun hd => ?_) (fun hd => ?_)
 ·simp at hd
 ·clear hd
  refine awp_skip ?_
  (repeat refine ZQ ?_); refine ZR fun K hK => ?_; simp (maxSteps := 1000000) [ty22, ty9, hem, h0]
  refine ⟨by omega, ?_⟩
  refine hK _ ?_; clear hK K
  (repeat refine ZQ ?_); refine awp_ret ?_; refine And.intro (Or.inr rfl) ?_
  exact .inl ⟨7, by simp [retC, resC], by simp, all_purel_map fun _ => rfl⟩

structure FOk (s : HS) (lg : Nat) : Prop where
 lo : 1 ≤ s.rows.length
 hi : s.rows.length ≤ 8
 long : s.long = lg
 lg2 : lg ≤ 62
 row : ∀ r ∈ s.rows, r ≠ [] → r.length = lg
 a : s.a ≠ [] → s.a.length = 2 * lg
 b : s.b ≠ [] → s.b.length = 2 * lg

def nzN (l : List UInt8) : Nat := if l = [] then 0 else 1
def sumsN (s : HS) : Nat := nzN s.a + nzN s.b
def lostAt (s : HS) (k : Nat) : Nat := ((missB s.rows).getD k 0).toNat
def foundB (s : HS) (at_ : Nat) : List Int :=
  if (missB s.rows).length = 1 ∧ s.a ≠ [] then [leftN s.rows s.a at_ false]
  else if (missB s.rows).length = 1 then [leftN s.rows s.b at_ true * invN (lostAt s 0 + 1) % 97]
  else if (missB s.rows).length = 2 then
    [(leftN s.rows s.a at_ false - (leftN s.rows s.b at_ true - leftN s.rows s.a at_ false * ((lostAt s 0 : Int) + 1)) * invN (lostAt s 1 - lostAt s 0) % 97) % 97,
     (leftN s.rows s.b at_ true - leftN s.rows s.a at_ false * ((lostAt s 0 : Int) + 1)) * invN (lostAt s 1 - lostAt s 0) % 97]
  else []
def setB (s : HS) (R : List (List UInt8)) (k : Nat) (v : Int) : List (List UInt8) := R.set (lostAt s k) (R.getD (lostAt s k) [] ++ [UInt8.ofNat (v + 32).toNat])
def addTo (s : HS) (F : List Int) (R : List (List UInt8)) : Nat → List (List UInt8)
 | 0 => R
 | k + 1 => setB s (addTo s F R k) k (F.getD k 0)
def fillTo (s : HS) : Nat → List (List UInt8)
 | 0 => s.rows
 | at_ + 1 => addTo s (foundB s at_) (fillTo s at_) (foundB s at_).length
def okF (F : List Int) : Bool := F.all fun v => decide (v ≤ 94)
def fillB (s : HS) : Option (List (List UInt8)) :=
 if sumsN s < (missB s.rows).length then none else if (List.range s.long.toNat).all (fun i => okF (foundB s i)) = true then some (fillTo s s.long.toNat) else none

theorem miss_mem (R : List (List UInt8)) (z : Int) (h : z ∈ missB R) : ∃ i : Nat, z = i ∧ i < R.length := by
 unfold missB missTo at h
 obtain ⟨i, hi, rfl⟩ := List.mem_map.1 h
 exact ⟨i, rfl, List.mem_range.1 (List.mem_filter.1 hi).1⟩
theorem lost_lt {s : HS} {k : Nat} (h : k < (missB s.rows).length) : lostAt s k < s.rows.length ∧ (missB s.rows)[k] = (lostAt s k : Int) := by
 obtain ⟨i, h1, h2⟩ := miss_mem _ _ (List.getElem_mem h)
 have e : lostAt s k = i := by
  unfold lostAt
  rw [List.getD_eq_getElem?_getD, List.getElem?_eq_getElem h, Option.getD_some, h1]; rfl
 rw [e]
 exact ⟨h2, h1⟩
theorem lost_asc {s : HS} (h : (missB s.rows).length = 2) : lostAt s 0 < lostAt s 1 := by
 have h1 := (lost_lt (s := s) (k := 0) (by omega)).2
 have h2 := (lost_lt (s := s) (k := 1) (by omega)).2
 have hp : (missB s.rows).Pairwise (· < ·) := by
  unfold missB missTo
  rw [List.pairwise_map]
  exact (List.pairwise_lt_range.filter _).imp fun h => by simpa using h
 have := List.pairwise_iff_getElem.1 hp 0 1 (by omega) (by omega) (by decide)
 rw [h1, h2] at this
 omega
theorem left_bd (R : List (List UInt8)) (row : List UInt8) (at_ : Nat) (wt : Bool) : 0 ≤ leftN R row at_ wt ∧ leftN R row at_ wt ≤ 96 := by unfold leftN; omega
theorem found_bd (s : HS) (at_ : Nat) : (foundB s at_).length ≤ (missB s.rows).length ∧ ∀ v ∈ foundB s at_, 0 ≤ v ∧ v ≤ 96 := by
 have hl := left_bd s.rows
 unfold foundB
 split
 ·rename_i h
  exact ⟨by simp; omega, fun v hv => by simp at hv; subst hv; exact hl _ _ _⟩
 ·split
  ·rename_i h
   exact ⟨by simp; omega, fun v hv => by simp at hv; subst hv; omega⟩
  ·split
   ·rename_i h
    exact ⟨by simp; omega, fun v hv => by simp at hv; rcases hv with rfl | rfl <;> omega⟩
   ·exact ⟨by simp, fun v hv => by simp at hv⟩
theorem setB_len (s : HS) (R : List (List UInt8)) (k : Nat) (v : Int) : (setB s R k v).length = R.length := by simp [setB]
theorem addTo_len (s : HS) (F : List Int) (R : List (List UInt8)) : ∀ k, (addTo s F R k).length = R.length
 | 0 => rfl
 | k + 1 => by simp only [addTo, setB_len, addTo_len s F R k]
theorem fillTo_len (s : HS) : ∀ k, (fillTo s k).length = s.rows.length
 | 0 => rfl
 | k + 1 => by simp only [fillTo, addTo_len, fillTo_len s k]

set_option maxHeartbeats 8000000
set_option maxRecDepth 20000


theorem setB_bd {s : HS} {R : List (List UInt8)} {k M : Nat} {v : Int} (h : ∀ r ∈ R, r.length ≤ M) : ∀ r ∈ setB s R k v, r.length ≤ M + 1 := by
 intro r hr
 unfold setB at hr
 rcases List.mem_or_eq_of_mem_set hr with h1 | h1
 ·have := h r h1; omega
 ·rw [h1, List.length_append]
  have : (R.getD (lostAt s k) []).length ≤ M := by
   rw [List.getD_eq_getElem?_getD]
   cases hq : R[lostAt s k]? with
   | none => simp
   | some q => exact h q (List.mem_of_getElem? hq)
  rw [List.length_singleton]; omega
theorem addTo_bd {s : HS} {F : List Int} {R : List (List UInt8)} {M : Nat} (h : ∀ r ∈ R, r.length ≤ M) : ∀ k, ∀ r ∈ addTo s F R k, r.length ≤ M + k
 | 0 => h
 | k + 1 => by
  intro r hr
  have := setB_bd (addTo_bd h k) r hr
  omega
theorem found_two (s : HS) (at_ : Nat) : (foundB s at_).length ≤ 2 := by
 unfold foundB
 split
 ·simp
 ·split
  ·simp
  ·split <;> simp
theorem fillTo_bd {s : HS} {lg : Nat} (h : FOk s lg) : ∀ k, ∀ r ∈ fillTo s k, r.length ≤ 62 + 2 * k
 | 0 => fun r hr => by
  by_cases h0 : r = []
  ·subst h0; simp
  ·have := h.row r hr h0
   have := h.lg2
   omega
 | k + 1 => by
  intro r hr
  have := addTo_bd (fillTo_bd h k) _ r hr
  have := found_two s k
  omega

@[simp] abbrev encF (o : Option (List (List UInt8))) : C := match o with | some R => .tup [.sl false false (R.map cS), .bool true] | none => .tup [.sl true true [], .bool false]
@[simp] abbrev slM (M : List Int) : C := .sl M.isEmpty false (M.map cI)

theorem fill71 (s : HS) (lg : Nat) (h : FOk s lg) : Pure Tryz.prog 71 [encH s] (encF (fillB s)) := by
 have hem : s.rows.isEmpty = false := by have := h.lo; cases hq : s.rows <;> rw [hq] at this <;> simp at this ⊢
 have hne : s.rows ≠ [] := by simpa using hem
 have hlo := h.lo
 have hhi := h.hi
 have hlg := h.lg2
 have c75 := missing75 s (by omega)
 have hat : ∀ at_, at_ < lg → ∀ r ∈ s.rows, r ≠ [] → at_ < r.length := fun at_ h1 r hr h0 => by rw [h.row r hr h0]; exact h1
 have la := fun at_ (h1 : at_ < lg) (h0 : s.a ≠ []) => left98 s s.a at_ false 95 (by omega) (hat at_ h1) (by rw [h.a h0]; omega) (by rw [h.a h0]; omega) (fun i _ => once95 i)
 have lb := fun at_ (h1 : at_ < lg) (h0 : s.b ≠ []) => left98 s s.b at_ true 96 (by omega) (hat at_ h1) (by rw [h.b h0]; omega) (by rw [h.b h0]; omega) (fun i hi => place96 i (by omega))
 simp only [encH, hem] at la lb
 have lbd := left_bd s.rows
 have hml : (missB s.rows).length ≤ 8 := by have := missTo_len s.rows s.rows.length; unfold missB; omega
 have c97 := clone97 false s.rows (by omega) hne
 have ha := str_ne s.a []
 have hb := str_ne s.b []
 have hsa : (!(s.a == [])) = decide (s.a ≠ []) := by cases s.a <;> rfl
 have hsb : (!(s.b == [])) = decide (s.b ≠ []) := by cases s.b <;> rfl
 have hF := fillTo_bd h
 have hFl := fillTo_len s
 have hstp : ∀ at_, fillTo s (at_ + 1) = addTo s (foundB s at_) (fillTo s at_) (foundB s at_).length := fun _ => rfl
 have hfo : fillTo s 0 = s.rows := rfl
 have hsn : sumsN s = nzN s.a + nzN s.b := rfl
 refine ZF (fn := Tryz.f71) [.tmp 2, .tmp 3] ⟨Tryz.func71, rfl, by kernel_rfl⟩ fun x hx hσ => ?_
 (repeat refine ZQ ?_); refine ZR fun K hK => ?_; simp (maxSteps := 1000000) [ty99, ty22, ty4]; refine hK _ ?_; clear hK K
 (repeat refine ZQ ?_); refine ZR fun K hK => ?_; simp (maxSteps := 1000000) [ty99, ty33, hem]
 rw [show C.agg [C.sl false false (List.map cS s.rows), C.str (S s.a), C.str (S s.b), C.int IntKind.i64 s.long, C.int IntKind.i64 s.many] = encH s by simp [hem]]
 refine ZP (c75) ?_; simp (maxSteps := 1000000) [ty33]
 refine hK _ ?_; clear hK K
 (repeat refine ZQ ?_); refine ZR fun K hK => ?_; simp (maxSteps := 1000000) [ty90]; refine hK _ ?_; clear hK K
 (repeat refine ZQ ?_); refine ZR fun K hK => ?_; simp (maxSteps := 1000000) [ty3]; refine hK _ ?_; clear hK K
 (repeat refine ZQ ?_); refine ZR fun K hK => ?_; simp (maxSteps := 1000000) [ty99, ty9, ty22]; refine hK _ ?_; clear hK K
 (repeat refine ZQ ?_); refine awp_block ?_
 refine awp_loop (fun i : Nat => ⟨ofL [(1, .ptr 1 5 0 0), (4, slM (missB s.rows)), (5, .fn (.func 95) [] []), (6, .fn (.func 96) [] []), (7, encI (if i = 0 then 0 else if i = 1 then (nzN s.a : Int) else (sumsN s : Int))), (24, .sl false true [[encS s.a], [encS s.b]]), (25, encI 2), (26, encI i)],
  stoT [(1, 1, .live ⟨false, false, 5, [[.sl false false (s.rows.map cS), encS s.a, encS s.b, encI s.long, encI s.many]]⟩)]⟩)
  (fun i => i ≤ 2) (fun i => 2 - i) 0 (Nat.zero_le _) ?_ ?_
 ·refine wk_shape (shp0 hσ (by simp) (by simp) ?_) ?_
  ·simp [SlotOk, hem] <;> (repeat' (first | (refine RowsOk.same ?_; simp [purel, C.isPure]; done) | (refine rowsCons ?_; simp [mtl, mtc, mT, mH, C.isPure, purel]; done) | (refine rowsCons ?_; simp [mtl, mtc, mT, mH, C.isPure, purel]) | refine And.intro ?_ ?_))
  ·simp [mtc, mtl, mT, C.isPure, purel, hem] <;> (try simp (disch := omega) [wrap_id]) <;> (try omega)
 ·intro i hi
  (repeat refine ZQ ?_); refine ZR fun K hK => ?_; simp (maxSteps := 1000000) [ty3]; refine hK _ ?_; clear hK K
  (repeat refine ZQ ?_); refine ZC (fun hc => ?_) (fun hc => ?_)
  ·simp at hc
   have h1a : IntKind.i64.wrap 1 = 1 := wrap_id (by omega) (by omega)
   have h1b : IntKind.i64.wrap 2 = 2 := wrap_id (by omega) (by omega)
   obtain rfl | rfl : i = 0 ∨ i = 1 := by omega
   ·refine awp_skip ?_
    (repeat refine ZQ ?_); refine awp_block ?_
    (repeat refine ZQ ?_); refine ZR fun K hK => ?_; simp (maxSteps := 1000000) [ty22, ty9]; refine hK _ ?_; clear hK K; (first | show AWP _ _ _ _ _ | show ∃ _, _ | skip)
    by_cases h0 : s.a = []
    ·have hz : nzN s.a = 0 := if_pos h0
     rw [hsa, decide_eq_false (by simpa using h0)] at ha
     (repeat refine ZQ ?_); refine ZR fun K hK => ?_; simp (maxSteps := 1000000) [ty9, ha, -strBin]; refine hK _ ?_; clear hK K
     (repeat refine ZQ ?_); refine ZC (fun hd => ?_) (fun hd => ?_)
     ·simp at hd
     ·clear hd
      refine awp_skip ?_
      (repeat refine ZQ ?_); refine ZR fun K hK => ?_; simp (maxSteps := 1000000) [ty3, h1a]; refine hK _ ?_; clear hK K; (first | show AWP _ _ _ _ _ | show ∃ _, _ | skip)
      refine ⟨1, by omega, by omega, ?_⟩
      refine wk_shape (shp0 hσ (by simp) (by simp) ?_) ?_
      ·simp [SlotOk, hem, hz] <;> (repeat' (first | (refine RowsOk.same ?_; simp [purel, C.isPure]; done) | (refine rowsCons ?_; simp [mtl, mtc, mT, mH, C.isPure, purel]; done) | (refine rowsCons ?_; simp [mtl, mtc, mT, mH, C.isPure, purel]) | refine And.intro ?_ ?_))
      ·simp [mtc, mtl, mT, C.isPure, purel, hem, hz] <;> (try simp (disch := omega) [wrap_id]) <;> (try omega)
    ·have hz : nzN s.a = 1 := if_neg h0
     rw [hsa, decide_eq_true h0] at ha
     (repeat refine ZQ ?_); refine ZR fun K hK => ?_; simp (maxSteps := 1000000) [ty9, ha, -strBin]; refine hK _ ?_; clear hK K
     (repeat refine ZQ ?_); refine ZC (fun hd => ?_) (fun hd => ?_)
     ·clear hd
      (repeat refine ZQ ?_); refine ZR fun K hK => ?_; simp (maxSteps := 1000000) [ty3, h1a]; refine hK _ ?_; clear hK K
      (repeat refine ZQ ?_); refine ZR fun K hK => ?_; simp (maxSteps := 1000000) [ty3, h1a]; refine hK _ ?_; clear hK K; (first | show AWP _ _ _ _ _ | show ∃ _, _ | skip)
      refine ⟨1, by omega, by omega, ?_⟩
      refine wk_shape (shp0 hσ (by simp) (by simp) ?_) ?_
      ·simp [SlotOk, hem, hz] <;> (repeat' (first | (refine RowsOk.same ?_; simp [purel, C.isPure]; done) | (refine rowsCons ?_; simp [mtl, mtc, mT, mH, C.isPure, purel]; done) | (refine rowsCons ?_; simp [mtl, mtc, mT, mH, C.isPure, purel]) | refine And.intro ?_ ?_))
      ·simp [mtc, mtl, mT, C.isPure, purel, hem, hz] <;> (try simp (disch := omega) [wrap_id]) <;> (try omega)
     ·simp at hd
   ·have hzz : IntKind.i64.wrap ((nzN s.a : Int) + 1) = (nzN s.a : Int) + 1 := by unfold nzN; split <;> exact wrap_id (by omega) (by omega)
    refine awp_skip ?_
    (repeat refine ZQ ?_); refine awp_block ?_
    (repeat refine ZQ ?_); refine ZR fun K hK => ?_; simp (maxSteps := 1000000) [ty22, ty9]; refine hK _ ?_; clear hK K; (first | show AWP _ _ _ _ _ | show ∃ _, _ | skip)
    by_cases h0 : s.b = []
    ·have hz : nzN s.b = 0 := if_pos h0
     rw [hsb, decide_eq_false (by simpa using h0)] at hb
     (repeat refine ZQ ?_); refine ZR fun K hK => ?_; simp (maxSteps := 1000000) [ty9, hb, -strBin]; refine hK _ ?_; clear hK K
     (repeat refine ZQ ?_); refine ZC (fun hd => ?_) (fun hd => ?_)
     ·simp at hd
     ·clear hd
      refine awp_skip ?_
      (repeat refine ZQ ?_); refine ZR fun K hK => ?_; simp (maxSteps := 1000000) [ty3, h1b]; refine hK _ ?_; clear hK K; (first | show AWP _ _ _ _ _ | show ∃ _, _ | skip)
      refine ⟨2, by omega, by omega, ?_⟩
      refine wk_shape (shp0 hσ (by simp) (by simp) ?_) ?_
      ·simp [SlotOk, hem, hsn, hz] <;> (repeat' (first | (refine RowsOk.same ?_; simp [purel, C.isPure]; done) | (refine rowsCons ?_; simp [mtl, mtc, mT, mH, C.isPure, purel]; done) | (refine rowsCons ?_; simp [mtl, mtc, mT, mH, C.isPure, purel]) | refine And.intro ?_ ?_))
      ·simp [mtc, mtl, mT, C.isPure, purel, hem, hsn, hz] <;> (try simp (disch := omega) [wrap_id]) <;> (try omega)
    ·have hz : nzN s.b = 1 := if_neg h0
     rw [hsb, decide_eq_true h0] at hb
     (repeat refine ZQ ?_); refine ZR fun K hK => ?_; simp (maxSteps := 1000000) [ty9, hb, -strBin]; refine hK _ ?_; clear hK K
     (repeat refine ZQ ?_); refine ZC (fun hd => ?_) (fun hd => ?_)
     ·clear hd
      (repeat refine ZQ ?_); refine ZR fun K hK => ?_; simp (maxSteps := 1000000) [ty3, hzz]; refine hK _ ?_; clear hK K
      (repeat refine ZQ ?_); refine ZR fun K hK => ?_; simp (maxSteps := 1000000) [ty3, h1b]; refine hK _ ?_; clear hK K; (first | show AWP _ _ _ _ _ | show ∃ _, _ | skip)
      refine ⟨2, by omega, by omega, ?_⟩
      refine wk_shape (shp0 hσ (by simp) (by simp) ?_) ?_
      ·simp [SlotOk, hem, hsn, hz] <;> (repeat' (first | (refine RowsOk.same ?_; simp [purel, C.isPure]; done) | (refine rowsCons ?_; simp [mtl, mtc, mT, mH, C.isPure, purel]; done) | (refine rowsCons ?_; simp [mtl, mtc, mT, mH, C.isPure, purel]) | refine And.intro ?_ ?_))
      ·simp [mtc, mtl, mT, C.isPure, purel, hem, hsn, hz] <;> (try simp (disch := omega) [wrap_id]) <;> (try omega)
     ·simp at hd
  ·simp at hc
   (repeat refine ZQ ?_); refine awp_exit ?_; (first | show AWP _ _ _ _ _ | show ∃ _, _ | skip)
   have hin : i = 2 := by omega
   rw [hin]
   rw [if_neg (by decide), if_neg (by decide)]
   unfold fillB
   by_cases hlt : sumsN s < (missB s.rows).length
   ·have hlt' : (sumsN s : Int) < ((missB s.rows).length : Int) := by omega
    rw [if_pos hlt]
    (repeat refine ZQ ?_); refine ZR fun K hK => ?_; simp (maxSteps := 1000000) [ty33, ty3, hlt']; refine hK _ ?_; clear hK K
    (repeat refine ZQ ?_); refine ZC (hc := by simp [hlt]; rfl) (fun hd => ?_) (fun hd => ?_)
    ·clear hd
     (repeat refine ZQ ?_); refine ZR fun K hK => ?_; simp (maxSteps := 1000000) [ty22, ty4]; refine hK _ ?_; clear hK K
     (repeat refine ZQ ?_); refine awp_ret ?_; refine And.intro (Or.inr rfl) ?_
     simp [retC, resC, viewC, mapO]
    ·simp [hlt] at hd
   ·have hlt' : ¬ (sumsN s : Int) < ((missB s.rows).length : Int) := by omega
    rw [if_neg hlt]
    have hlong : s.long.toNat = lg := by rw [h.long]; rfl
    rw [hlong]
    (repeat refine ZQ ?_); refine ZR fun K hK => ?_; simp (maxSteps := 1000000) [ty33, ty3, hlt']; refine hK _ ?_; clear hK K
    (repeat refine ZQ ?_); refine ZC (hc := by simp [hlt]; rfl) (fun hd => ?_) (fun hd => ?_)
    ·simp [hlt] at hd
    ·clear hd
     refine awp_skip ?_
     (repeat refine ZQ ?_); refine ZR fun K hK => ?_; simp (maxSteps := 1000000) [ty99, ty22]
     refine freshL c97 (by simp [purel, C.isPure]) rfl ?_
     simp [ty22]
     refine hK _ ?_; clear hK K
     (repeat refine ZQ ?_); refine ZR fun K hK => ?_; simp (maxSteps := 1000000) [ty99, ty3, h.long]; refine hK _ ?_; clear hK K
     (repeat refine ZQ ?_); refine awp_block ?_
     refine awp_loop (fun at_ : Nat => ⟨ofL [(1, .ptr 1 5 0 0), (4, slM (missB s.rows)), (5, .fn (.func 95) [] []), (6, .fn (.func 96) [] []), (10, .own 41 1 0 s.rows.length), (43, encI lg), (44, encI at_)],
      stoT [(1, 1, .live ⟨false, false, 5, [[.sl false false (s.rows.map cS), encS s.a, encS s.b, encI s.long, encI s.many]]⟩), (41, 41, .live ⟨false, false, 1, (fillTo s at_).map cS⟩)]⟩)
      (fun at_ => at_ ≤ lg ∧ ∀ j, j < at_ → okF (foundB s j) = true) (fun at_ => lg - at_) 0 ⟨Nat.zero_le _, fun j hj => absurd hj (by omega)⟩ ?_ ?_
     ·rw [hfo]
      refine wk_shape (shp0 hσ (by simp) (by simp) ?_) ?_
      ·simp [SlotOk, hem, h.long] <;> (repeat' (first | (refine RowsOk.same ?_; simp [purel, C.isPure]; done) | (refine rowsCons ?_; simp [mtl, mtc, mT, mH, C.isPure, purel]; done) | (refine rowsCons ?_; simp [mtl, mtc, mT, mH, C.isPure, purel]) | refine And.intro ?_ ?_))
      ·simp [mtc, mtl, mT, C.isPure, purel, hem, h.long] <;> (try simp (disch := omega) [wrap_id]) <;> (try omega)
     ·intro at_ ⟨hla, hJ⟩
      have w44 : IntKind.i64.wrap ((at_ : Int) + 1) = ((at_ + 1 : Nat) : Int) := by rw [wrap_id (by omega) (by omega)]; rfl
      (repeat refine ZQ ?_); refine ZR fun K hK => ?_; simp (maxSteps := 1000000) [ty3]; refine hK _ ?_; clear hK K
      (repeat refine ZQ ?_); refine ZC (fun hd => ?_) (fun hd => ?_)
      ·simp at hd
       have la1 := la at_ hd
       have lb1 := lb at_ hd
       refine awp_skip ?_
       (repeat refine ZQ ?_); refine awp_block ?_
       (repeat refine ZQ ?_); refine ZR fun K hK => ?_; simp (maxSteps := 1000000) [ty3]; refine hK _ ?_; clear hK K
       (repeat refine ZQ ?_); refine ZR fun K hK => ?_; simp (maxSteps := 1000000) [ty33]; refine hK _ ?_; clear hK K
       refine awp_mid ⟨ofL [(1, .ptr 1 5 0 0), (4, slM (missB s.rows)), (5, .fn (.func 95) [] []), (6, .fn (.func 96) [] []), (10, .own 41 1 0 s.rows.length), (11, encI at_), (12, .sl (foundB s at_).isEmpty true ((foundB s at_).map cI)), (43, encI lg), (44, encI at_)],
        stoT [(1, 1, .live ⟨false, false, 5, [[.sl false false (s.rows.map cS), encS s.a, encS s.b, encI s.long, encI s.many]]⟩), (41, 41, .live ⟨false, false, 1, (fillTo s at_).map cS⟩)]⟩ ?_ ?_
       ·refine awp_block ?_
        by_cases hM1 : (missB s.rows).length = 1
        ·have hl0 : ∀ hh : 0 < (missB s.rows).length, (missB s.rows)[0] = (lostAt s 0 : Int) := fun hh => (lost_lt hh).2
         have hlt0 := (lost_lt (s := s) (k := 0) (by omega)).1
         by_cases h0 : s.a = []
         ·have hbn : s.b ≠ [] := by
           intro hb0
           rw [hsn] at hlt
           unfold nzN at hlt
           rw [if_pos h0, if_pos hb0] at hlt
           omega
          have lb2 := lb1 hbn
          have hfb : foundB s at_ = [leftN s.rows s.b at_ true * invN (lostAt s 0 + 1) % 97] := by
           unfold foundB
           rw [if_neg (fun hh => hh.2 h0), if_pos hM1]
          have ci := inverse100 (lostAt s 0 + 1) (by omega) (by omega)
          have hib := inv_ok ⟨lostAt s 0 + 1, by omega⟩ (by simp only; omega)
          simp only at hib
          have hlb := lbd s.b at_ true
          rw [hfb]
          generalize leftN s.rows s.b at_ true = y at *
          generalize invN (lostAt s 0 + 1) = v at *
          generalize lostAt s 0 = l0 at *
          have m1 : y * (v : Int) ≤ 96 * v := Int.mul_le_mul_of_nonneg_right hlb.2 (by omega)
          have m2 : 0 ≤ y * (v : Int) := Int.mul_nonneg hlb.1 (by omega)
          have cm := mod99 (y * v) (by omega) (by omega)
          have v1 : IntKind.i64.wrap ((l0 : Int) + 1) = ((l0 + 1 : Nat) : Int) := by rw [wrap_id (by omega) (by omega)]; rfl
          have v2 : IntKind.i64.wrap (y * v) = y * v := wrap_id (by omega) (by omega)
          rw [hsa, decide_eq_false (by simpa using h0)] at ha
          (repeat refine ZQ ?_); refine ZR fun K hK => ?_; simp (maxSteps := 1000000) [ty33, ty99, ty9, ty3, ty4, hM1, ha, -strBin]; refine hK _ ?_; clear hK K
          (repeat refine ZQ ?_); refine ZC (fun hd => ?_) (fun hd => ?_)
          ·simp at hd
          ·clear hd
           (repeat refine ZQ ?_); refine ZR fun K hK => ?_; simp (maxSteps := 1000000) [ty33, ty3, ty4, hM1]; refine hK _ ?_; clear hK K
           (repeat refine ZQ ?_); refine ZC (fun hd => ?_) (fun hd => ?_)
           ·clear hd
            (repeat refine ZQ ?_); refine ZD [] [0, 1, 2, 3, 4, 5, 6, 7, 8, 9, 10, 11, 12, 13, 14] fun K hK => ?_; simp (maxSteps := 1000000) [ty99, ty9, ty33, ty3]
            refine ZE (lb2) ?_; simp (maxSteps := 1000000) [ty33, ty3, hl0, hM1, v1]
            refine ZE (ci) ?_; simp (maxSteps := 1000000) [ty3, v2]
            refine ZE (cm) ?_; simp (maxSteps := 1000000) [ty3, ty33]
            refine hK _ ?_; clear hK K; (first | show AWP _ _ _ _ _ | show ∃ _, _ | skip)
            refine wk_shape (shp0 hσ (by simp) (by simp) ?_) ?_
            ·simp [SlotOk, hem] <;> (repeat' (first | (refine RowsOk.same ?_; simp [purel, C.isPure]; done) | (refine rowsCons ?_; simp [mtl, mtc, mT, mH, C.isPure, purel]; done) | (refine rowsCons ?_; simp [mtl, mtc, mT, mH, C.isPure, purel]) | refine And.intro ?_ ?_))
            ·simp [mtc, mtl, mT, C.isPure, purel, hem] <;> (try simp (disch := omega) [wrap_id]) <;> (try omega)
           ·simp at hd
         ·have la2 := la1 h0
          have hfb : foundB s at_ = [leftN s.rows s.a at_ false] := by
           unfold foundB
           rw [if_pos ⟨hM1, h0⟩]
          rw [hfb]
          rw [hsa, decide_eq_true h0] at ha
          (repeat refine ZQ ?_); refine ZR fun K hK => ?_; simp (maxSteps := 1000000) [ty33, ty99, ty9, ty3, ty4, hM1, ha, -strBin]; refine hK _ ?_; clear hK K
          (repeat refine ZQ ?_); refine ZC (fun hd => ?_) (fun hd => ?_)
          ·clear hd
           (repeat refine ZQ ?_); refine ZR fun K hK => ?_; simp (maxSteps := 1000000) [ty99, ty9, ty33, ty3]
           refine ZP (la2) ?_; simp (maxSteps := 1000000) [ty33, ty3]
           refine hK _ ?_; clear hK K; (first | show AWP _ _ _ _ _ | show ∃ _, _ | skip)
           refine wk_shape (shp0 hσ (by simp) (by simp) ?_) ?_
           ·simp [SlotOk, hem] <;> (repeat' (first | (refine RowsOk.same ?_; simp [purel, C.isPure]; done) | (refine rowsCons ?_; simp [mtl, mtc, mT, mH, C.isPure, purel]; done) | (refine rowsCons ?_; simp [mtl, mtc, mT, mH, C.isPure, purel]) | refine And.intro ?_ ?_))
           ·simp [mtc, mtl, mT, C.isPure, purel, hem] <;> (try simp (disch := omega) [wrap_id]) <;> (try omega)
          ·simp at hd
        ·have hM1' : ((((missB s.rows).length : Nat) : Int) == 1) = false := by rw [beq_eq_false_iff_ne]; omega
         (repeat refine ZQ ?_); refine ZR fun K hK => ?_; simp (maxSteps := 1000000) [ty33, ty99, ty9, ty3, ty4, hM1', -strBin]; refine hK _ ?_; clear hK K
         (repeat refine ZQ ?_); refine ZC (fun hd => ?_) (fun hd => ?_)
         ·simp at hd
         ·clear hd
          (repeat refine ZQ ?_); refine ZR fun K hK => ?_; simp (maxSteps := 1000000) [ty33, ty3, ty4, hM1']; refine hK _ ?_; clear hK K
          (repeat refine ZQ ?_); refine ZC (fun hd => ?_) (fun hd => ?_)
          ·simp at hd
          ·clear hd
           by_cases hM2 : (missB s.rows).length = 2
           ·have hl0 : ∀ hh : 0 < (missB s.rows).length, (missB s.rows)[0] = (lostAt s 0 : Int) := fun hh => (lost_lt hh).2
            have hl1 : ∀ hh : 1 < (missB s.rows).length, (missB s.rows)[1] = (lostAt s 1 : Int) := fun hh => (lost_lt hh).2
            have hlt0 := (lost_lt (s := s) (k := 0) (by omega)).1
            have hlt1 := (lost_lt (s := s) (k := 1) (by omega)).1
            have hasc := lost_asc hM2
            have h0 : s.a ≠ [] ∧ s.b ≠ [] := by
             rw [hsn, hM2] at hlt
             unfold nzN at hlt
             constructor
             ·intro h1; rw [if_pos h1] at hlt; split at hlt <;> omega
             ·intro h1; rw [if_pos h1] at hlt; split at hlt <;> omega
            have la2 := la1 h0.1
            have lb2 := lb1 h0.2
            have hfb : foundB s at_ = [(leftN s.rows s.a at_ false - (leftN s.rows s.b at_ true - leftN s.rows s.a at_ false * ((lostAt s 0 : Int) + 1)) * invN (lostAt s 1 - lostAt s 0) % 97) % 97,
              (leftN s.rows s.b at_ true - leftN s.rows s.a at_ false * ((lostAt s 0 : Int) + 1)) * invN (lostAt s 1 - lostAt s 0) % 97] := by
             unfold foundB
             rw [if_neg (fun hh => hM1 hh.1), if_neg hM1, if_pos hM2]
            have ci := inverse100 (lostAt s 1 - lostAt s 0) (by omega) (by omega)
            have hib := inv_ok ⟨lostAt s 1 - lostAt s 0, by omega⟩ (by simp only; omega)
            simp only at hib
            have hlx := lbd s.a at_ false
            have hly := lbd s.b at_ true
            rw [hfb]
            have v4 : IntKind.i64.wrap ((lostAt s 1 : Int) - (lostAt s 0 : Int)) = ((lostAt s 1 - lostAt s 0 : Nat) : Int) := by rw [wrap_id (by omega) (by omega)]; omega
            generalize leftN s.rows s.a at_ false = y1 at *
            generalize leftN s.rows s.b at_ true = y2 at *
            generalize invN (lostAt s 1 - lostAt s 0) = v at *
            generalize hdd : lostAt s 1 - lostAt s 0 = dd at *
            generalize lostAt s 0 = l0 at *
            generalize lostAt s 1 = l1 at *
            have v1 : IntKind.i64.wrap ((l0 : Int) + 1) = (l0 : Int) + 1 := wrap_id (by omega) (by omega)
            have m1 : y1 * ((l0 : Int) + 1) ≤ 96 * ((l0 : Int) + 1) := Int.mul_le_mul_of_nonneg_right hlx.2 (by omega)
            have m2 : 0 ≤ y1 * ((l0 : Int) + 1) := Int.mul_nonneg hlx.1 (by omega)
            have v2 : IntKind.i64.wrap (y1 * ((l0 : Int) + 1)) = y1 * ((l0 : Int) + 1) := wrap_id (by omega) (by omega)
            have v3 : IntKind.i64.wrap (y2 - y1 * ((l0 : Int) + 1)) = y2 - y1 * ((l0 : Int) + 1) := wrap_id (by omega) (by omega)
            obtain ⟨D, hD⟩ : ∃ D, y2 - y1 * ((l0 : Int) + 1) = D := ⟨_, rfl⟩
            have hDb : -1000 ≤ D ∧ D ≤ 1000 := by omega
            rw [hD] at v3
            rw [hD]
            have m3 : D * (v : Int) ≤ 1000 * v := Int.mul_le_mul_of_nonneg_right hDb.2 (by omega)
            have m4 : -1000 * (v : Int) ≤ D * v := Int.mul_le_mul_of_nonneg_right hDb.1 (by omega)
            have v5 : IntKind.i64.wrap (D * v) = D * v := wrap_id (by omega) (by omega)
            have cm := mod99 (D * v) (by omega) (by omega)
            have v6 : IntKind.i64.wrap (y1 - D * v % 97) = y1 - D * v % 97 := wrap_id (by omega) (by omega)
            have cn := mod99 (y1 - D * v % 97) (by omega) (by omega)
            clear hlt0 hlt1 hasc hib m1 m2 m3 m4 hfb
            (repeat refine ZQ ?_); refine ZR fun K hK => ?_; simp (maxSteps := 1000000) [ty33, ty3, ty4, hM2]; refine hK _ ?_; clear hK K
            (repeat refine ZQ ?_); refine ZC (fun hd => ?_) (fun hd => ?_)
            ·clear hd
             (repeat refine ZQ ?_); refine ZD [] [0, 1, 2, 3, 4, 5, 6, 7, 8, 9, 10, 11, 12, 13] fun K hK => ?_; simp (maxSteps := 1000000) [ty99, ty9, ty33, ty3]
             refine ZE (la2) ?_; simp (maxSteps := 1000000) [ty99, ty9, ty3]
             refine ZE (lb2) ?_; simp (maxSteps := 1000000) [ty99, ty9, ty3]
             refine hK _ ?_; clear hK K
             (repeat refine ZQ ?_); refine ZD [] [0, 1, 2, 3, 4, 5, 6, 7, 8, 9, 10, 11, 12, 13, 14, 15, 16, 17, 18] fun K hK => ?_; simp (maxSteps := 1000000) [ty33, ty3, hl0, hl1, hM2, v1, v2, v3, v4, hD]
             refine ZE (ci) ?_; simp (maxSteps := 1000000) [ty3, v5, hD, v3]
             refine ZE (cm) ?_; simp (maxSteps := 1000000) [ty3]
             refine hK _ ?_; clear hK K
             (repeat refine ZQ ?_); refine ZR fun K hK => ?_; simp (maxSteps := 1000000) [ty3, v6]
             refine ZP (cn) ?_; simp (maxSteps := 1000000) [ty3, ty33]
             refine hK _ ?_; clear hK K; (first | show AWP _ _ _ _ _ | show ∃ _, _ | skip)
             refine wk_shape (shp0 hσ (by simp) (by simp) ?_) ?_
             ·simp [SlotOk, hem] <;> (repeat' (first | (refine RowsOk.same ?_; simp [purel, C.isPure]; done) | (refine rowsCons ?_; simp [mtl, mtc, mT, mH, C.isPure, purel]; done) | (refine rowsCons ?_; simp [mtl, mtc, mT, mH, C.isPure, purel]) | refine And.intro ?_ ?_))
             ·simp [mtc, mtl, mT, C.isPure, purel, hem] <;> (try simp (disch := omega) [wrap_id]) <;> (try omega)
            ·simp at hd
           ·have hM2' : ((((missB s.rows).length : Nat) : Int) == 2) = false := by rw [beq_eq_false_iff_ne]; omega
            have hfb : foundB s at_ = [] := by
             unfold foundB
             rw [if_neg (fun hh => hM1 hh.1), if_neg hM1, if_neg hM2]
            rw [hfb]
            (repeat refine ZQ ?_); refine ZR fun K hK => ?_; simp (maxSteps := 1000000) [ty33, ty3, ty4, hM2']; refine hK _ ?_; clear hK K
            (repeat refine ZQ ?_); refine ZC (fun hd => ?_) (fun hd => ?_)
            ·simp at hd
            ·clear hd
             refine awp_skip ?_; (first | show AWP _ _ _ _ _ | show ∃ _, _ | skip)
             refine wk_shape (shp0 hσ (by simp) (by simp) ?_) ?_
             ·simp [SlotOk, hem] <;> (repeat' (first | (refine RowsOk.same ?_; simp [purel, C.isPure]; done) | (refine rowsCons ?_; simp [mtl, mtc, mT, mH, C.isPure, purel]; done) | (refine rowsCons ?_; simp [mtl, mtc, mT, mH, C.isPure, purel]) | refine And.intro ?_ ?_))
             ·simp [mtc, mtl, mT, C.isPure, purel, hem] <;> (try simp (disch := omega) [wrap_id]) <;> (try omega)
       ·have hfd := found_bd s at_
        have hf2 := found_two s at_
        have hFb := hF at_
        have hFln := hFl at_
        have hnx := hstp at_
        have hok : okF (foundB s at_) = (foundB s at_).all (fun v => decide (v ≤ 94)) := rfl
        generalize hFo : foundB s at_ = Fo at *
        generalize fillTo s at_ = R0 at *
        (repeat refine ZQ ?_); refine ZR fun K hK => ?_; simp (maxSteps := 1000000) [ty33]; refine hK _ ?_; clear hK K
        (repeat refine ZQ ?_); refine awp_block ?_
        refine awp_loop (fun k : Nat => ⟨ofL [(1, .ptr 1 5 0 0), (4, slM (missB s.rows)), (5, .fn (.func 95) [] []), (6, .fn (.func 96) [] []), (10, .own 41 1 0 s.rows.length), (11, encI at_), (43, encI lg), (44, encI at_), (121, .sl Fo.isEmpty true (Fo.map cI)), (122, encI Fo.length), (123, encI k)],
         stoT [(1, 1, .live ⟨false, false, 5, [[.sl false false (s.rows.map cS), encS s.a, encS s.b, encI s.long, encI s.many]]⟩), (41, 41, .live ⟨false, false, 1, (addTo s Fo R0 k).map cS⟩)]⟩)
         (fun k => k ≤ Fo.length ∧ ∀ j (hj : j < Fo.length), j < k → Fo[j] ≤ 94) (fun k => Fo.length - k) 0 ⟨Nat.zero_le _, fun j _ hj => absurd hj (by omega)⟩ ?_ ?_
        ·refine wk_shape (shp0 hσ (by simp) (by simp) ?_) ?_
         ·simp [SlotOk, hem, addTo] <;> (repeat' (first | (refine RowsOk.same ?_; simp [purel, C.isPure]; done) | (refine rowsCons ?_; simp [mtl, mtc, mT, mH, C.isPure, purel]; done) | (refine rowsCons ?_; simp [mtl, mtc, mT, mH, C.isPure, purel]) | refine And.intro ?_ ?_))
         ·simp [mtc, mtl, mT, C.isPure, purel, hem, addTo] <;> (try simp (disch := omega) [wrap_id]) <;> (try omega)
        ·intro k ⟨hk, hJ2⟩
         have wk : IntKind.i64.wrap ((k : Int) + 1) = ((k + 1 : Nat) : Int) := by rw [wrap_id (by omega) (by omega)]; rfl
         (repeat refine ZQ ?_); refine ZR fun K hK => ?_; simp (maxSteps := 1000000) [ty3]; refine hK _ ?_; clear hK K
         (repeat refine ZQ ?_); refine ZC (fun hc => ?_) (fun hc => ?_)
         ·simp at hc
          have hv := hfd.2 _ (List.getElem_mem hc)
          refine awp_skip ?_
          (repeat refine ZQ ?_); refine awp_block ?_
          (repeat refine ZQ ?_); refine ZR fun K hK => ?_; simp (maxSteps := 1000000) [ty33, ty3, hc]; refine hK _ ?_; clear hK K; (first | show AWP _ _ _ _ _ | show ∃ _, _ | skip)
          by_cases h94 : Fo[k] ≤ 94
          ·have hkl : k < (missB s.rows).length := by omega
           obtain ⟨hll, hle⟩ := lost_lt (s := s) hkl
           have hRl := addTo_len s Fo R0 k
           have hRb := addTo_bd (s := s) (F := Fo) hFb k
           have hnx2 : addTo s Fo R0 (k + 1) = setB s (addTo s Fo R0 k) k (Fo.getD k 0) := rfl
           rw [List.getD_eq_getElem?_getD, List.getElem?_eq_getElem hc, Option.getD_some] at hnx2
           generalize addTo s Fo R0 k = R at *
           unfold setB at hnx2
           generalize lostAt s k = l at *
           have hlR : l < R.length := by omega
           rw [List.getD_eq_getElem?_getD, List.getElem?_eq_getElem hlR, Option.getD_some] at hnx2
           have hRlb := hRb _ (List.getElem_mem hlR)
           have hRg : R[l]? = some R[l] := List.getElem?_eq_getElem hlR
           obtain ⟨n, hn⟩ : ∃ n : Nat, Fo[k] + 32 = n := ⟨(Fo[k] + 32).toNat, by omega⟩
           have hnt : (Fo[k] + 32).toNat = n := by omega
           rw [hnt] at hnx2
           have v1 : IntKind.i64.wrap (Fo[k] + 32) = (n : Int) := by rw [wrap_id (by omega) (by omega)]; exact hn
           have v2 : IntKind.u8.wrap (n : Int) = n := wrap_u8 (by omega) (by omega)
           have b1 : (0 : Int) ≤ (n : Int) ∧ (n : Int) < 256 := by omega
           have a1 := str_add (a := R[l]) (b := [UInt8.ofNat n]) (by simp; omega)
           have hq94 : ¬ (94 : Int) < Fo[k] := by omega
           have hst : (R.map cS).set l [C.str (S (R[l] ++ [UInt8.ofNat n]))] = (R.set l (R[l] ++ [UInt8.ofNat n])).map cS := by rw [List.map_set]
           rw [← hnx2] at hst
           (repeat refine ZQ ?_); refine ZR fun K hK => ?_; simp (maxSteps := 1000000) [ty3, hq94]; refine hK _ ?_; clear hK K
           (repeat refine ZQ ?_); refine ZC (hc := by simp [hq94]; rfl) (fun hd => ?_) (fun hd => ?_)
           ·simp [hq94] at hd
           ·clear hd
            refine awp_skip ?_
            (repeat refine ZQ ?_); refine ZD [2014,10041] [0, 1, 2, 3, 4, 5, 6, 7, 8, 9, 10, 11, 12, 13, 14] fun K hK => ?_; simp (maxSteps := 1000000) [ty33, ty3, ty5, ty62, ty22, ty9, hkl, hle, hll, hlR, hRl, hRg, v1, v2, b1, a1, hst, -strBin]
            refine hK _ ?_; clear hK K
            (repeat refine ZQ ?_); refine ZR fun K hK => ?_; simp (maxSteps := 1000000) [ty3, wk]; refine hK _ ?_; clear hK K; (first | show AWP _ _ _ _ _ | show ∃ _, _ | skip)
            refine ⟨k + 1, ⟨by omega, fun j hj1 hj2 => ?_⟩, by omega, ?_⟩
            ·by_cases hjk : j = k
             ·subst hjk; exact h94
             ·exact hJ2 j hj1 (by omega)
            ·refine wk_shape (shp0 hσ (by simp) (by simp) ?_) ?_
             ·simp [SlotOk, hem] <;> (repeat' (first | (refine RowsOk.same ?_; simp [purel, C.isPure]; done) | (refine rowsCons ?_; simp [mtl, mtc, mT, mH, C.isPure, purel]; done) | (refine rowsCons ?_; simp [mtl, mtc, mT, mH, C.isPure, purel]) | refine And.intro ?_ ?_))
             ·simp [mtc, mtl, mT, C.isPure, purel, hem] <;> (try simp (disch := omega) [wrap_id]) <;> (try omega)
          ·have hq94 : (94 : Int) < Fo[k] := by omega
           rw [if_neg (fun hall => by
            have := List.all_eq_true.1 hall at_ (List.mem_range.2 hd)
            simp only [hFo] at this
            have := List.all_eq_true.1 this _ (List.getElem_mem hc)
            exact h94 (of_decide_eq_true this))]
           (repeat refine ZQ ?_); refine ZR fun K hK => ?_; simp (maxSteps := 1000000) [ty3, hq94]; refine hK _ ?_; clear hK K
           (repeat refine ZQ ?_); refine ZC (hc := by simp [hq94]; rfl) (fun hd2 => ?_) (fun hd2 => ?_)
           ·clear hd2
            (repeat refine ZQ ?_); refine ZR fun K hK => ?_; simp (maxSteps := 1000000) [ty22, ty4]; refine hK _ ?_; clear hK K
            (repeat refine ZQ ?_); refine awp_ret ?_; refine And.intro (Or.inr rfl) ?_
            simp [retC, resC, viewC, mapO]
           ·simp [hq94] at hd2
         ·simp at hc
          (repeat refine ZQ ?_); refine awp_exit ?_; (first | show AWP _ _ _ _ _ | show ∃ _, _ | skip)
          have hkn : k = Fo.length := by omega
          rw [hkn, ← hnx]
          (repeat refine ZQ ?_); refine ZR fun K hK => ?_; simp (maxSteps := 1000000) [ty3, w44]; refine hK _ ?_; clear hK K; (first | show AWP _ _ _ _ _ | show ∃ _, _ | skip)
          refine ⟨at_ + 1, ⟨by omega, fun j hj => ?_⟩, by omega, ?_⟩
          ·by_cases hja : j = at_
           ·subst hja
            rw [hFo]
            refine List.all_eq_true.2 fun v hv => ?_
            obtain ⟨q, hq, rfl⟩ := List.getElem_of_mem hv
            exact decide_eq_true (hJ2 q hq (by omega))
           ·exact hJ j (by omega)
          ·refine wk_shape (shp0 hσ (by simp) (by simp) ?_) ?_
           ·simp [SlotOk, hem] <;> (repeat' (first | (refine RowsOk.same ?_; simp [purel, C.isPure]; done) | (refine rowsCons ?_; simp [mtl, mtc, mT, mH, C.isPure, purel]; done) | (refine rowsCons ?_; simp [mtl, mtc, mT, mH, C.isPure, purel]) | refine And.intro ?_ ?_))
           ·simp [mtc, mtl, mT, C.isPure, purel, hem] <;> (try simp (disch := omega) [wrap_id]) <;> (try omega)
      ·simp at hd
       (repeat refine ZQ ?_); refine awp_exit ?_; (first | show AWP _ _ _ _ _ | show ∃ _, _ | skip)
       have hin2 : at_ = lg := by omega
       rw [hin2] at hJ ⊢
       rw [if_pos (List.all_eq_true.2 fun j hj => hJ j (List.mem_range.1 hj))]
       have htk : List.take s.rows.length ((fillTo s lg).map cS) = (fillTo s lg).map cS := List.take_of_length_le (by simp [hFl])
       (repeat refine ZQ ?_); refine ZR fun K hK => ?_; simp (maxSteps := 1000000) [ty22, ty4]; refine hK _ ?_; clear hK K
       (repeat refine ZQ ?_); refine awp_ret ?_; refine And.intro (Or.inr rfl) ?_
       simp [retC, resC, viewC, mapO, purel, C.isPure, htk, hFl]

set_option maxHeartbeats 4000000
set_option maxRecDepth 20000


def firstI (L : List (List UInt8)) (s : List UInt8) : Int := if (L.any fun l => s == l) = true then (L.findIdx fun l => s == l : Nat) else -1

theorem index104 (nl fu : Bool) (L : List (List UInt8)) (s : List UInt8) (hn : L.length ≤ 100000) : Pure Tryz.prog 104 [sT nl fu L, encS s] (encI (firstI L s)) := by
 refine ZF (fn := Tryz.f104) [.tmp 4] ⟨Tryz.func104, rfl, by kernel_rfl⟩ fun x hx hσ => ?_
 (repeat refine ZQ ?_); refine ZR fun K hK => ?_; simp (maxSteps := 1000000) [ty3]; refine hK _ ?_; clear hK K
 (repeat refine ZQ ?_); refine ZR fun K hK => ?_; simp (maxSteps := 1000000) [ty22]; refine hK _ ?_; clear hK K
 (repeat refine ZQ ?_); refine awp_block ?_
 refine awp_loop (fun i : Nat => ⟨ofL [(0, sT nl fu L), (1, encS s), (7, encI L.length), (8, encI i)], stoT []⟩)
  (fun i => i ≤ L.length ∧ ∀ j (hj : j < L.length), j < i → (s == L[j]) = false) (fun i => L.length - i) 0 ⟨Nat.zero_le _, fun j _ hj => absurd hj (by omega)⟩ ?_ ?_
 ·exact ZW
 ·intro i ⟨hi, hp⟩
  (repeat refine ZQ ?_); refine ZR fun K hK => ?_; simp (maxSteps := 1000000) [ty3]; refine hK _ ?_; clear hK K
  (repeat refine ZQ ?_); refine ZC (fun hc => ?_) (fun hc => ?_)
  ·simp at hc
   have w1 : IntKind.i64.wrap ((i : Int) + 1) = ((i + 1 : Nat) : Int) := by rw [wrap_id (by omega) (by omega)]; rfl
   have he := str_eq s L[i]
   refine awp_skip ?_
   (repeat refine ZQ ?_); refine awp_block ?_
   (repeat refine ZQ ?_); refine ZR fun K hK => ?_; simp (maxSteps := 1000000) [ty3]; refine hK _ ?_; clear hK K; (first | show AWP _ _ _ _ _ | show ∃ _, _ | skip)
   cases hb : (s == L[i])
   ·rw [hb] at he
    (repeat refine ZQ ?_); refine ZR fun K hK => ?_; simp (maxSteps := 1000000) [ty22, ty9, ty3, hc, he, -strBin]; refine hK _ ?_; clear hK K
    (repeat refine ZQ ?_); refine ZC (fun hd => ?_) (fun hd => ?_)
    ·simp at hd
    ·clear hd
     refine awp_skip ?_
     (repeat refine ZQ ?_); refine ZR fun K hK => ?_; simp (maxSteps := 1000000) [ty3, w1]; refine hK _ ?_; clear hK K; (first | show AWP _ _ _ _ _ | show ∃ _, _ | skip)
     refine ⟨i + 1, ⟨by omega, fun j h1 h2 => ?_⟩, by omega, ?_⟩
     ·by_cases hji : j = i
      ·subst hji; exact hb
      ·exact hp j h1 (by omega)
     ·exact ZW
   ·rw [hb] at he
    have hV : firstI L s = (i : Int) := by
     unfold firstI
     rw [if_pos (List.any_eq_true.2 ⟨_, List.getElem_mem hc, hb⟩)]
     congr 1
     rw [List.findIdx_eq hc]
     exact ⟨hb, fun j hj => by rw [hp j (by omega) hj]⟩
    rw [hV]
    (repeat refine ZQ ?_); refine ZR fun K hK => ?_; simp (maxSteps := 1000000) [ty22, ty9, ty3, hc, he, -strBin]; refine hK _ ?_; clear hK K
    (repeat refine ZQ ?_); refine ZC (fun hd => ?_) (fun hd => ?_)
    ·clear hd
     (repeat refine ZQ ?_); refine ZR fun K hK => ?_; simp (maxSteps := 1000000) [ty3]; refine hK _ ?_; clear hK K
     (repeat refine ZQ ?_); refine awp_ret ?_; refine And.intro (Or.inr rfl) ?_
     simp [retC, resC, viewC, mapO]
    ·simp at hd
  ·simp at hc
   (repeat refine ZQ ?_); refine awp_exit ?_; (first | show AWP _ _ _ _ _ | show ∃ _, _ | skip)
   have hV : firstI L s = -1 := by
    unfold firstI
    refine if_neg fun h => ?_
    obtain ⟨l, hl, h2⟩ := List.any_eq_true.1 h
    obtain ⟨j, hj, rfl⟩ := List.getElem_of_mem hl
    rw [hp j hj (by omega)] at h2; cases h2
   rw [hV]
   (repeat refine ZQ ?_); refine ZR fun K hK => ?_; simp (maxSteps := 1000000) [ty3]; refine hK _ ?_; clear hK K
   (repeat refine ZQ ?_); refine awp_ret ?_; refine And.intro (Or.inr rfl) ?_
   simp [retC, resC, viewC, mapO]

theorem contains74 (nl fu : Bool) (L : List (List UInt8)) (s : List UInt8) (hn : L.length ≤ 100000) : Pure Tryz.prog 74 [sT nl fu L, encS s] (.bool (L.any fun l => s == l)) := by
 have c := index104 nl fu L s hn
 have hd : decide (0 ≤ firstI L s) = L.any fun l => s == l := by
  unfold firstI
  cases h : L.any fun l => s == l
  ·rw [if_neg (by simp)]; rfl
  ·rw [if_pos rfl]; simp
 refine ZF (fn := Tryz.f74) [.tmp 4] ⟨Tryz.func74, rfl, by kernel_rfl⟩ fun x hx hσ => ?_
 (repeat refine ZQ ?_); refine ZR fun K hK => ?_; simp (maxSteps := 1000000) [ty4]; refine hK _ ?_; clear hK K
 (repeat refine ZQ ?_); refine ZR fun K hK => ?_; simp (maxSteps := 1000000) [ty22, ty3]
 refine ZP (c) ?_; simp (maxSteps := 1000000) [ty3]
 refine hK _ ?_; clear hK K
 (repeat refine ZQ ?_); refine awp_ret ?_; refine And.intro (Or.inr rfl) ?_
 rw [← hd]
 simp [retC, resC, viewC, mapO]

def textsOf : List (List UInt8) → Option (List (List UInt8))
 | [] => some []
 | r :: R => match textOfB r with
  | some t => if textB t = true then (textsOf R).map (t :: ·) else none
  | none => none
def strange (T lines : List (List UInt8)) : Bool := lines.any fun l => parseOk l && !(cardsB T).any fun c => l == c
def unpackB (lines : List (List UInt8)) : Option (List (List UInt8) × List Int) :=
 if (srt lines zHS).2 = true then
  match fillB (srt lines zHS).1 with
  | some R => match textsOf R with
   | some T => if strange T lines = true then none else some (T, missB (srt lines zHS).1.rows)
   | none => none
  | none => none
 else none

structure SOk (s : HS) (lg : Nat) : Prop where
 ok : HOk s
 long : s.rows ≠ [] → s.long = lg ∧ 2 ≤ lg ∧ lg ≤ 62
 row : ∀ r ∈ s.rows, r ≠ [] → r.length = lg
 a : s.a ≠ [] → s.a.length = 2 * lg
 b : s.b ≠ [] → s.b.length = 2 * lg
 z : s.rows = [] → s.a = [] ∧ s.b = []

theorem step_ok {s : HS} {lg : Nat} (h : SOk s lg) {l : List UInt8} (hp : parseOk l = true) (hc : clash (begH s (parseC l)) (parseC l) = false) :
  ∃ lg', SOk (putH (begH s (parseC l)) (parseC l)) lg' := by
 obtain ⟨m1, m2, m3, _⟩ := parse_many hp
 obtain ⟨e1, _, _, b3, l2, l62⟩ := parse_ok hp
 rw [← e1] at b3 l2 l62
 generalize parseC l = c at *
 obtain ⟨hk1, hk2, hk3⟩ := begH_ok h.ok m1 m2
 obtain ⟨hp1, hp2⟩ := putH_ok hk1 c hk2
 have hb : SOk (begH s c) (longN c) := by
  unfold clash at hc
  simp only [Bool.or_eq_false_iff, bne_eq_false_iff_eq] at hc
  obtain ⟨⟨_, c2⟩, c3⟩ := hc
  refine ⟨hk1, fun _ => ⟨c3.symm, l2, l62⟩, ?_, ?_, ?_, fun e => absurd e hk2⟩
  all_goals
   unfold begH at c3 ⊢
   split
  ·intro r hr h0
   simp only at hr
   rw [List.mem_replicate] at hr
   exact absurd hr.2 h0
  ·rename_i hne
   rw [if_neg hne] at c3
   intro r hr h0
   have h1 := (h.long (by simpa using hne)).1
   have := h.row r hr h0
   omega
  ·rename_i he
   intro h0
   exact absurd (h.z (by simpa using he)).1 h0
  ·rename_i hne
   rw [if_neg hne] at c3
   intro h0
   have h1 := (h.long (by simpa using hne)).1
   have := h.a h0
   omega
  ·rename_i he
   intro h0
   exact absurd (h.z (by simpa using he)).2 h0
  ·rename_i hne
   rw [if_neg hne] at c3
   intro h0
   have h1 := (h.long (by simpa using hne)).1
   have := h.b h0
   omega
 have hsum : sumN c.num = true → c.row.length = 2 * longN c := by
  intro hs
  unfold bad3 at b3
  rw [if_pos hs] at b3
  simp only [Bool.or_eq_false_iff] at b3
  have : ¬ c.row.length % 2 = 1 := by simpa using b3.1
  unfold longN
  rw [if_pos hs]; omega
 refine ⟨longN c, ⟨hp1, fun _ => ⟨(hb.long hk2).1, l2, l62⟩, ?_, ?_, ?_, fun e => absurd e hp2⟩⟩
 ·intro r hr h0
  unfold putH at hr
  simp only at hr
  split at hr
  ·exact hb.row r hr h0
  ·rename_i hs
   rcases List.mem_or_eq_of_mem_set hr with h1 | h1
   ·exact hb.row r h1 h0
   ·rw [h1]; unfold longN; rw [if_neg hs]
 ·intro h0
  unfold putH at h0 ⊢
  simp only at h0 ⊢
  split
  ·rename_i h97
   exact hsum (by unfold sumN; rw [h97]; rfl)
  ·rename_i h97
   rw [if_neg h97] at h0
   exact hb.a h0
 ·intro h0
  unfold putH at h0 ⊢
  simp only at h0 ⊢
  split
  ·rename_i h98
   exact hsum (by unfold sumN; rw [h98]; simp)
  ·rename_i h98
   rw [if_neg h98] at h0
   exact hb.b h0

theorem srt_ok : ∀ (L : List (List UInt8)) (s : HS) (lg : Nat), SOk s lg → (srt L s).2 = true → ∃ lg', SOk (srt L s).1 lg' ∧ (srt L s).1.rows ≠ []
 | [], s, lg, h, hg => by
  simp only [srt, Bool.not_eq_true'] at hg
  refine ⟨lg, h, fun e => ?_⟩
  have := h.ok.zero e
  rw [this] at hg
  cases hg
 | l :: L, s, lg, h, hg => by
  rw [srt] at hg ⊢
  split
  ·rename_i hp
   rw [if_pos hp] at hg
   split
   ·rename_i hc
    rw [if_pos hc] at hg
    cases hg
   ·rename_i hc
    rw [if_neg hc] at hg
    obtain ⟨lg', h'⟩ := step_ok h hp (by simpa using hc)
    exact srt_ok L _ lg' h' hg
  ·rename_i hp
   rw [if_neg hp] at hg
   exact srt_ok L s lg h hg

theorem srt_fok {L : List (List UInt8)} (hg : (srt L zHS).2 = true) : ∃ lg, FOk (srt L zHS).1 lg ∧ 2 ≤ lg := by
 obtain ⟨lg, h, hr⟩ := srt_ok L zHS 0 ⟨zHS_ok, fun e => absurd rfl e, fun r hr => by simp [zHS] at hr, fun e => absurd rfl e, fun e => absurd rfl e, fun _ => ⟨rfl, rfl⟩⟩ hg
 generalize (srt L zHS).1 = s at *
 have hl := h.ok.len
 have h2 := h.ok.hi
 have h3 : 1 ≤ s.rows.length := by cases hq : s.rows with
  | nil => exact absurd hq hr
  | cons a r => simp
 exact ⟨lg, ⟨h3, by omega, (h.long hr).1, (h.long hr).2.2, h.row, h.a, h.b⟩, (h.long hr).2.1⟩

set_option maxHeartbeats 8000000
set_option maxRecDepth 20000


theorem setB_ge (s : HS) (R : List (List UInt8)) (k : Nat) (v : Int) (i : Nat) : (R.getD i []).length ≤ ((setB s R k v).getD i []).length ∧ (lostAt s k = i → i < R.length → (R.getD i []).length + 1 ≤ ((setB s R k v).getD i []).length) := by
 unfold setB
 by_cases h : lostAt s k = i
 ·subst h
  by_cases hl : lostAt s k < R.length
  ·simp [List.getD_eq_getElem?_getD, List.getElem?_set, hl]
  ·rw [List.set_eq_of_length_le (by omega)]
   exact ⟨Nat.le_refl _, fun _ hh => absurd hh hl⟩
 ·refine ⟨?_, fun e => absurd e h⟩
  simp [List.getD_eq_getElem?_getD, List.getElem?_set, h]
theorem addTo_ge (s : HS) (F : List Int) (R : List (List UInt8)) (i : Nat) (hi : i < R.length) : ∀ k, (R.getD i []).length ≤ ((addTo s F R k).getD i []).length ∧ ((∃ j, j < k ∧ lostAt s j = i) → (R.getD i []).length + 1 ≤ ((addTo s F R k).getD i []).length)
 | 0 => ⟨Nat.le_refl _, fun ⟨j, h, _⟩ => absurd h (by omega)⟩
 | k + 1 => by
  obtain ⟨h1, h2⟩ := addTo_ge s F R i hi k
  obtain ⟨g1, g2⟩ := setB_ge s (addTo s F R k) k (F.getD k 0) i
  refine ⟨Nat.le_trans h1 g1, fun ⟨j, hj, he⟩ => ?_⟩
  by_cases hjk : j = k
  ·subst hjk
   have := g2 he (by rw [addTo_len]; exact hi)
   simp only [addTo]; omega
  ·have := h2 ⟨j, by omega, he⟩
   simp only [addTo]; omega

theorem found_len {s : HS} (h : (missB s.rows).length ≤ sumsN s) (at_ : Nat) : (foundB s at_).length = (missB s.rows).length := by
 have h2 : sumsN s ≤ 2 := by unfold sumsN nzN; split <;> split <;> omega
 unfold foundB
 split
 ·rename_i h1; simp [h1.1]
 ·split
  ·rename_i h1; simp [h1]
  ·split
   ·rename_i h1; simp [h1]
   ·simp; omega

theorem miss_has {s : HS} {i : Nat} (hi : i < s.rows.length) (h0 : s.rows.getD i [] = []) : ∃ j, j < (missB s.rows).length ∧ lostAt s j = i := by
 have hm : (i : Int) ∈ missB s.rows := by
  unfold missB missTo
  exact List.mem_map.2 ⟨i, List.mem_filter.2 ⟨List.mem_range.2 hi, by rw [h0]; rfl⟩, rfl⟩
 obtain ⟨j, hj, he⟩ := List.getElem_of_mem hm
 refine ⟨j, hj, ?_⟩
 have := (lost_lt hj).2
 rw [he] at this
 omega

theorem fillTo_ge {s : HS} {lg : Nat} (h : FOk s lg) (hs : (missB s.rows).length ≤ sumsN s) (i : Nat) (hi : i < s.rows.length) : ∀ k, k ≤ lg → k ≤ ((fillTo s k).getD i []).length
 | 0, _ => Nat.zero_le _
 | k + 1, hk => by
  have ih := fillTo_ge h hs i hi k (by omega)
  have hl := fillTo_len s k
  obtain ⟨g1, g2⟩ := addTo_ge s (foundB s k) (fillTo s k) i (by omega) (foundB s k).length
  simp only [fillTo]
  by_cases h0 : s.rows.getD i [] = []
  ·obtain ⟨j, hj, he⟩ := miss_has hi h0
   have := g2 ⟨j, by rw [found_len hs]; exact hj, he⟩
   omega
  ·have hb : ∀ k, (s.rows.getD i []).length ≤ ((fillTo s k).getD i []).length := by
    intro k
    induction k with
    | zero => exact Nat.le_refl _
    | succ k ih => exact Nat.le_trans ih (addTo_ge s (foundB s k) (fillTo s k) i (by rw [fillTo_len]; exact hi) _).1
   have h1 := hb k
   have h2 : (s.rows.getD i []).length = lg := by
    have e : s.rows.getD i [] = s.rows[i] := by simp [List.getD_eq_getElem?_getD, List.getElem?_eq_getElem hi]
    rw [e] at h0 ⊢
    exact h.row _ (List.getElem_mem hi) h0
   omega

theorem fill_rows {s : HS} {lg : Nat} (h : FOk s lg) {R : List (List UInt8)} (hf : fillB s = some R) : R.length = s.rows.length ∧ ∀ r ∈ R, lg ≤ r.length ∧ r.length ≤ 1000 := by
 unfold fillB at hf
 split at hf
 ·cases hf
 ·rename_i hlt
  split at hf
  ·cases hf
   have hlong : s.long.toNat = lg := by rw [h.long]; rfl
   rw [hlong]
   refine ⟨fillTo_len s lg, fun r hr => ?_⟩
   obtain ⟨i, hi, rfl⟩ := List.getElem_of_mem hr
   have h1 := fillTo_ge h (by omega) i (by rw [← fillTo_len s lg]; exact hi) lg (Nat.le_refl _)
   have e : (fillTo s lg).getD i [] = (fillTo s lg)[i] := by simp [List.getD_eq_getElem?_getD, List.getElem?_eq_getElem hi]
   rw [e] at h1
   have h2 := fillTo_bd h lg _ (List.getElem_mem hi)
   have := h.lg2
   exact ⟨h1, by omega⟩
  ·cases hf

theorem textsOf_ok : ∀ (R : List (List UInt8)), (∀ r ∈ R, ∃ t, textOfB r = some t ∧ textB t = true) → textsOf R = some (R.map fun r => (textOfB r).getD [])
 | [], _ => rfl
 | r :: R, h => by
  obtain ⟨t, h1, h2⟩ := h r (by simp)
  rw [textsOf, h1]
  simp only [h2, if_true, textsOf_ok R (fun q hq => h q (by simp [hq])), Option.map_some, List.map_cons, h1, Option.getD_some]
theorem textsOf_no : ∀ (R : List (List UInt8)), (∃ r ∈ R, textOfB r = none ∨ ∃ t, textOfB r = some t ∧ textB t = false) → textsOf R = none
 | [], ⟨r, h, _⟩ => by simp at h
 | r :: R, ⟨q, hq, h⟩ => by
  rw [textsOf]
  rcases List.mem_cons.1 hq with rfl | hq
  ·rcases h with h | ⟨t, h1, h2⟩
   ·rw [h]
   ·rw [h1]; simp [h2]
  ·have ih := textsOf_no R ⟨q, hq, h⟩
   split
   ·split
    ·rw [ih]; rfl
    ·rfl
   ·rfl

@[simp] abbrev encU (o : Option (List (List UInt8) × List Int)) : C := match o with
 | some (T, M) => .tup [.sl false false (T.map cS), .sl M.isEmpty false (M.map cI), .bool true]
 | none => .tup [.sl true true [], .sl true true [], .bool false]

theorem unpack43 (nl fu : Bool) (L : List (List UInt8)) (hn : L.length ≤ 100000) (hl : ∀ l ∈ L, l.length ≤ 100000) : Pure Tryz.prog 43 [sT nl fu L] (encU (unpackB L)) := by
 have c70 := sort70 nl fu L hn hl
 unfold unpackB
 cases hg : (srt L zHS).2
 ·rw [hg] at c70
  rw [if_neg (by simp)]
  refine ZF (fn := Tryz.f43) [.tmp 2, .tmp 3, .tmp 4] ⟨Tryz.func43, rfl, by kernel_rfl⟩ fun x hx hσ => ?_
  (repeat refine ZQ ?_); refine ZR fun K hK => ?_; simp (maxSteps := 1000000) [ty68, ty33, ty4]; refine hK _ ?_; clear hK K
  (repeat refine ZQ ?_); refine ZR fun K hK => ?_; simp (maxSteps := 1000000) [ty22]
  refine ZP (c70) ?_; simp (maxSteps := 1000000) [ty99, ty4]
  refine hK _ ?_; clear hK K
  (repeat refine ZQ ?_); refine ZR fun K hK => ?_; simp (maxSteps := 1000000) [ty4]; refine hK _ ?_; clear hK K
  (repeat refine ZQ ?_); refine ZC (fun hd => ?_) (fun hd => ?_)
  ·clear hd
   (repeat refine ZQ ?_); refine ZR fun K hK => ?_; simp (maxSteps := 1000000) [ty68, ty33, ty4]; refine hK _ ?_; clear hK K
   (repeat refine ZQ ?_); refine awp_ret ?_; refine And.intro (Or.inr rfl) ?_
   simp [retC, resC, viewC, mapO]
  ·simp at hd
 ·rw [hg] at c70
  rw [if_pos rfl]
  obtain ⟨lg, hfo, h2⟩ := srt_fok hg
  generalize (srt L zHS).1 = s at *
  have hem : s.rows.isEmpty = false := by have := hfo.lo; cases hq : s.rows <;> rw [hq] at this <;> simp at this ⊢
  have c71 := fill71 s lg hfo
  have hfr := fun R => fill_rows hfo (R := R)
  simp only [encH, hem] at c70 c71
  cases hf : fillB s with
  | none =>
   rw [hf] at c71
   refine ZF (fn := Tryz.f43) [.tmp 2, .tmp 3, .tmp 4] ⟨Tryz.func43, rfl, by kernel_rfl⟩ fun x hx hσ => ?_
   (repeat refine ZQ ?_); refine ZR fun K hK => ?_; simp (maxSteps := 1000000) [ty68, ty33, ty4]; refine hK _ ?_; clear hK K
   (repeat refine ZQ ?_); refine ZR fun K hK => ?_; simp (maxSteps := 1000000) [ty22]
   refine ZP (c70) ?_; simp (maxSteps := 1000000) [ty99, ty4]
   refine hK _ ?_; clear hK K
   (repeat refine ZQ ?_); refine ZR fun K hK => ?_; simp (maxSteps := 1000000) [ty4]; refine hK _ ?_; clear hK K
   (repeat refine ZQ ?_); refine ZC (fun hd => ?_) (fun hd => ?_)
   ·simp at hd
   ·clear hd
    refine awp_skip ?_
    (repeat refine ZQ ?_); refine ZR fun K hK => ?_; simp (maxSteps := 1000000) [ty99]
    refine ZP (c71) ?_; simp (maxSteps := 1000000) [ty22, ty4]
    refine hK _ ?_; clear hK K
    (repeat refine ZQ ?_); refine ZR fun K hK => ?_; simp (maxSteps := 1000000) [ty4]; refine hK _ ?_; clear hK K
    (repeat refine ZQ ?_); refine ZC (fun hd => ?_) (fun hd => ?_)
    ·clear hd
     (repeat refine ZQ ?_); refine ZR fun K hK => ?_; simp (maxSteps := 1000000) [ty68, ty33, ty4]; refine hK _ ?_; clear hK K
     (repeat refine ZQ ?_); refine awp_ret ?_; refine And.intro (Or.inr rfl) ?_
     simp [retC, resC, viewC, mapO]
    ·simp at hd
  | some R =>
   rw [hf] at c71
   show Abs.Pure Tryz.prog 43 [sT nl fu L] (encU (match textsOf R with | some T => if strange T L = true then none else some (T, missB s.rows) | none => none))
   obtain ⟨hRl, hRb⟩ := hfr R hf
   have hR8 := hfo.hi
   have hR1 := hfo.lo
   have c75 := missing75 s (by omega)
   simp only [encH, hem] at c75
   refine ZF (fn := Tryz.f43) [.tmp 2, .tmp 3, .tmp 4] ⟨Tryz.func43, rfl, by kernel_rfl⟩ fun x hx hσ => ?_
   (repeat refine ZQ ?_); refine ZR fun K hK => ?_; simp (maxSteps := 1000000) [ty68, ty33, ty4]; refine hK _ ?_; clear hK K
   (repeat refine ZQ ?_); refine ZR fun K hK => ?_; simp (maxSteps := 1000000) [ty22]
   refine ZP (c70) ?_; simp (maxSteps := 1000000) [ty99, ty4]
   refine hK _ ?_; clear hK K
   (repeat refine ZQ ?_); refine ZR fun K hK => ?_; simp (maxSteps := 1000000) [ty4]; refine hK _ ?_; clear hK K
   (repeat refine ZQ ?_); refine ZC (fun hd => ?_) (fun hd => ?_)
   ·simp at hd
   ·clear hd
    refine awp_skip ?_
    (repeat refine ZQ ?_); refine ZR fun K hK => ?_; simp (maxSteps := 1000000) [ty99]
    refine ZP (c71) ?_; simp (maxSteps := 1000000) [ty22, ty4]
    refine hK _ ?_; clear hK K
    (repeat refine ZQ ?_); refine ZR fun K hK => ?_; simp (maxSteps := 1000000) [ty4]; refine hK _ ?_; clear hK K
    (repeat refine ZQ ?_); refine ZC (fun hd => ?_) (fun hd => ?_)
    ·simp at hd
    ·clear hd
     refine awp_skip ?_; (first | show AWP _ _ _ _ _ | show ∃ _, _ | skip)
     obtain ⟨T, hT⟩ : ∃ T : Nat → List (List UInt8), ∀ i, T i = (R.take i).map fun r => (textOfB r).getD [] := ⟨_, fun _ => rfl⟩
     have hT0 : T 0 = [] := by rw [hT]; rfl
     have hTl : ∀ i, i ≤ R.length → (T i).length = i := fun i hi => by rw [hT]; simp; omega
     have hTs : ∀ i (hi : i < R.length), T (i + 1) = T i ++ [(textOfB R[i]).getD []] := fun i hi => by
      rw [hT, hT, List.take_succ_eq_append_getElem hi, List.map_append]; rfl
     have hTn : T R.length = R.map fun r => (textOfB r).getD [] := by rw [hT, List.take_length]
     clear hT
     (repeat refine ZQ ?_); refine ZR fun K hK => ?_; simp (maxSteps := 1000000) [ty22]; refine hK _ ?_; clear hK K
     (repeat refine ZQ ?_); refine awp_block ?_
     refine AWP.weak ?_ (wk_nil 2 2 1 (fu := true) (by simp) (by simp))
     refine awp_loop (fun i : Nat => ⟨ofL [(0, sT nl fu L), (2, .own 2 1 0 i), (5, .ptr 5 5 0 0), (31, sT false false R), (32, encI R.length), (33, encI i)],
      stoT [(2, 2, .live (lsO (T i))), (5, 5, .live ⟨false, false, 5, [[.sl false false (s.rows.map cS), encS s.a, encS s.b, encI s.long, encI s.many]]⟩)]⟩)
      (fun i => i ≤ R.length ∧ ∀ j (hj : j < R.length), j < i → ∃ t, textOfB R[j] = some t ∧ textB t = true) (fun i => R.length - i) 0 ⟨Nat.zero_le _, fun j _ hj => absurd hj (by omega)⟩ ?_ ?_
     ·rw [hT0]
      exact ZW
     ·intro i ⟨hi, hJ⟩
      have hTi := hTl i hi
      have w1 : IntKind.i64.wrap ((i : Int) + 1) = ((i + 1 : Nat) : Int) := by rw [wrap_id (by omega) (by omega)]; rfl
      (repeat refine ZQ ?_); refine ZR fun K hK => ?_; simp (maxSteps := 1000000) [ty3]; refine hK _ ?_; clear hK K
      (repeat refine ZQ ?_); refine ZC (fun hc => ?_) (fun hc => ?_)
      ·simp at hc
       obtain ⟨hb1, hb2⟩ := hRb _ (List.getElem_mem hc)
       have c72 := textOf72 R[i] (by omega) (by omega)
       have hst := hTs i hc
       refine awp_skip ?_
       (repeat refine ZQ ?_); refine awp_block ?_
       (repeat refine ZQ ?_); refine ZR fun K hK => ?_; simp (maxSteps := 1000000) [ty22, ty9, hc]; refine hK _ ?_; clear hK K; (first | show AWP _ _ _ _ _ | show ∃ _, _ | skip)
       cases htx : textOfB R[i] with
       | none =>
        rw [htx] at c72
        rw [textsOf_no R ⟨_, List.getElem_mem hc, .inl htx⟩]
        (repeat refine ZQ ?_); refine ZR fun K hK => ?_; simp (maxSteps := 1000000) [ty9]
        refine ZP (c72) ?_; simp (maxSteps := 1000000) [ty9, ty4]
        refine hK _ ?_; clear hK K
        (repeat refine ZQ ?_); refine ZR fun K hK => ?_; simp (maxSteps := 1000000) [ty4]; refine hK _ ?_; clear hK K
        (repeat refine ZQ ?_); refine ZC (fun hd => ?_) (fun hd => ?_)
        ·clear hd
         (repeat refine ZQ ?_); refine ZR fun K hK => ?_; simp (maxSteps := 1000000) [ty68, ty33, ty4]; refine hK _ ?_; clear hK K
         (repeat refine ZQ ?_); refine awp_ret ?_; refine And.intro (Or.inr rfl) ?_
         simp [retC, resC, viewC, mapO]
        ·simp at hd
       | some t =>
        rw [htx] at c72 hst
        simp only [Option.getD_some, Option.isSome_some] at c72 hst
        have c34 := isText34 t
        cases htb : textB t
        ·rw [htb] at c34
         rw [textsOf_no R ⟨_, List.getElem_mem hc, .inr ⟨t, htx, htb⟩⟩]
         (repeat refine ZQ ?_); refine ZR fun K hK => ?_; simp (maxSteps := 1000000) [ty9]
         refine ZP (c72) ?_; simp (maxSteps := 1000000) [ty9, ty4]
         refine hK _ ?_; clear hK K
         (repeat refine ZQ ?_); refine ZR fun K hK => ?_; simp (maxSteps := 1000000) [ty4]
         refine ZP (c34) ?_; simp (maxSteps := 1000000) [ty4]
         refine hK _ ?_; clear hK K
         (repeat refine ZQ ?_); refine ZC (fun hd => ?_) (fun hd => ?_)
         ·clear hd
          (repeat refine ZQ ?_); refine ZR fun K hK => ?_; simp (maxSteps := 1000000) [ty68, ty33, ty4]; refine hK _ ?_; clear hK K
          (repeat refine ZQ ?_); refine awp_ret ?_; refine And.intro (Or.inr rfl) ?_
          simp [retC, resC, viewC, mapO]
         ·simp at hd
        ·rw [htb] at c34
         generalize T i = X at *
         (repeat refine ZQ ?_); refine ZR fun K hK => ?_; simp (maxSteps := 1000000) [ty9]
         refine ZP (c72) ?_; simp (maxSteps := 1000000) [ty9, ty4]
         refine hK _ ?_; clear hK K
         (repeat refine ZQ ?_); refine ZR fun K hK => ?_; simp (maxSteps := 1000000) [ty4]
         refine ZP (c34) ?_; simp (maxSteps := 1000000) [ty4]
         refine hK _ ?_; clear hK K
         (repeat refine ZQ ?_); refine ZC (fun hd => ?_) (fun hd => ?_)
         ·simp at hd
         ·clear hd
          refine awp_skip ?_
          (repeat refine ZQ ?_); refine ZR fun K hK => ?_; simp (maxSteps := 1000000) [ty68, ty9]
          refine ⟨by omega, ?_⟩
          refine hK _ ?_; clear hK K
          (repeat refine ZQ ?_); refine ZR fun K hK => ?_; simp (maxSteps := 1000000) [ty3, w1]; refine hK _ ?_; clear hK K; (first | show AWP _ _ _ _ _ | show ∃ _, _ | skip)
          refine ⟨i + 1, ⟨by omega, fun j h1 h2 => ?_⟩, by omega, ?_⟩
          ·by_cases hji : j = i
           ·subst hji; exact ⟨t, htx, htb⟩
           ·exact hJ j h1 (by omega)
          ·rw [hst]
           refine wk_shape2 [(2, 52, .live (lsO (X ++ [t]))), (5, 5, .live ⟨false, false, 5, [[.sl false false (s.rows.map cS), encS s.a, encS s.b, encI s.long, encI s.many]]⟩)] (by first | rfl | (simp only [if_pos, if_true]; rfl)) (shp0 hσ (by simp) (by simp) ?_) ?_
           ·simp [SlotOk] <;> (repeat' (first | (refine RowsOk.same ?_; simp [purel, C.isPure]; done) | (refine rowsCons ?_; simp [mtl, mtc, mT, mH, C.isPure, purel]; done) | (refine rowsCons ?_; simp [mtl, mtc, mT, mH, C.isPure, purel]) | refine And.intro ?_ ?_))
           ·simp [mtc, mtl, mT, C.isPure, purel] <;> (try simp (disch := omega) [wrap_id]) <;> (try omega)
      ·simp at hc
       (repeat refine ZQ ?_); refine awp_exit ?_; (first | show AWP _ _ _ _ _ | show ∃ _, _ | skip)
       have hin : i = R.length := by omega
       rw [hin] at hTi ⊢
       have hall : ∀ r ∈ R, ∃ t, textOfB r = some t ∧ textB t = true := fun r hr => by
        obtain ⟨j, hj, rfl⟩ := List.getElem_of_mem hr
        exact hJ j hj (by omega)
       rw [textsOf_ok R hall, ← hTn]
       have hpk : PackOk (T R.length) := ⟨by omega, fun t ht => by
        rw [hTn] at ht
        obtain ⟨r, hr, rfl⟩ := List.mem_map.1 ht
        obtain ⟨t, h1, h2⟩ := hall r hr
        rw [h1]; exact h2⟩
       generalize T R.length = X at *
       have hXe : X.isEmpty = false := by cases X <;> simp at hTi ⊢; omega
       have c36 := cards36 false false X hpk
       have hcl := cards_len hpk
       have ht : List.take R.length (X.map cS) = X.map cS := List.take_of_length_le (by simp; omega)
       have hstr : strange X L = L.any fun l => parseOk l && !(cardsB X).any fun c => l == c := rfl
       dsimp only
       rw [hstr]
       generalize cardsB X = Cs at *
       refine AWP.weak ?_ (wk_frz 2 2 (c := sT false false X) (o := lsO X) (by simp) (by simp [purel, C.isPure]) (by
        have := fz_own (k := 2) (sz := 1) (n := R.length) (b := false) (o := lsO X) rfl (by simp [hTi]) (by show false = (X.isEmpty && !false); rw [hXe]; rfl)
        simpa using this))
       (repeat refine ZQ ?_); refine ZR fun K hK => ?_; simp (maxSteps := 1000000) [ty68]
       refine ZP (c36) ?_; simp (maxSteps := 1000000) [ty22]
       refine hK _ ?_; clear hK K
       (repeat refine ZQ ?_); refine ZR fun K hK => ?_; simp (maxSteps := 1000000) [ty22]; refine hK _ ?_; clear hK K
       (repeat refine ZQ ?_); refine awp_block ?_
       refine awp_loop (fun i : Nat => ⟨ofL [(2, sT false false X), (5, .ptr 5 5 0 0), (12, sT false false Cs), (56, sT nl fu L), (57, encI L.length), (58, encI i)],
        stoT [(5, 5, .live ⟨false, false, 5, [[.sl false false (s.rows.map cS), encS s.a, encS s.b, encI s.long, encI s.many]]⟩)]⟩)
        (fun i => i ≤ L.length ∧ ∀ j (hj : j < L.length), j < i → (parseOk L[j] && !Cs.any fun c => L[j] == c) = false) (fun i => L.length - i) 0 ⟨Nat.zero_le _, fun j _ hj => absurd hj (by omega)⟩ ?_ ?_
       ·exact ZW
       ·intro i ⟨hi, hJ2⟩
        have w1 : IntKind.i64.wrap ((i : Int) + 1) = ((i + 1 : Nat) : Int) := by rw [wrap_id (by omega) (by omega)]; rfl
        (repeat refine ZQ ?_); refine ZR fun K hK => ?_; simp (maxSteps := 1000000) [ty3]; refine hK _ ?_; clear hK K
        (repeat refine ZQ ?_); refine ZC (fun hc2 => ?_) (fun hc2 => ?_)
        ·simp at hc2
         have c73 := parse73 L[i] (hl _ (List.getElem_mem hc2))
         have c74 := contains74 false false Cs L[i] (by have := hpk.many; omega)
         generalize parseC L[i] = cd at *
         refine awp_skip ?_
         (repeat refine ZQ ?_); refine awp_block ?_
         (repeat refine ZQ ?_); refine ZR fun K hK => ?_; simp (maxSteps := 1000000) [ty22, ty9, hc2]; refine hK _ ?_; clear hK K; (first | show AWP _ _ _ _ _ | show ∃ _, _ | skip)
         cases hpo : parseOk L[i]
         ·rw [hpo] at c73
          (repeat refine ZQ ?_); refine ZR fun K hK => ?_; simp (maxSteps := 1000000) [ty9]
          refine ZP (c73) ?_; simp (maxSteps := 1000000) [ty107, ty4]
          refine hK _ ?_; clear hK K
          (repeat refine ZQ ?_); refine ZR fun K hK => ?_; simp (maxSteps := 1000000) [ty4]; refine hK _ ?_; clear hK K
          (repeat refine ZQ ?_); refine ZC (fun hd => ?_) (fun hd => ?_)
          ·simp at hd
          ·clear hd
           refine awp_skip ?_
           (repeat refine ZQ ?_); refine ZR fun K hK => ?_; simp (maxSteps := 1000000) [ty3, w1]; refine hK _ ?_; clear hK K; (first | show AWP _ _ _ _ _ | show ∃ _, _ | skip)
           refine ⟨i + 1, ⟨by omega, fun j h1 h2 => ?_⟩, by omega, ?_⟩
           ·by_cases hji : j = i
            ·subst hji; rw [hpo]; rfl
            ·exact hJ2 j h1 (by omega)
           ·exact ZW
         ·rw [hpo] at c73
          cases hin2 : Cs.any fun c => L[i] == c
          ·rw [hin2] at c74
           have hany : (L.any fun l => parseOk l && !Cs.any fun c => l == c) = true := List.any_eq_true.2 ⟨_, List.getElem_mem hc2, by rw [hpo, hin2]; rfl⟩
           rw [if_pos hany]
           (repeat refine ZQ ?_); refine ZR fun K hK => ?_; simp (maxSteps := 1000000) [ty9]
           refine ZP (c73) ?_; simp (maxSteps := 1000000) [ty107, ty4]
           refine hK _ ?_; clear hK K
           (repeat refine ZQ ?_); refine ZR fun K hK => ?_; simp (maxSteps := 1000000) [ty4]
           refine ZP (c74) ?_; simp (maxSteps := 1000000) [ty4]
           refine hK _ ?_; clear hK K
           (repeat refine ZQ ?_); refine ZC (fun hd => ?_) (fun hd => ?_)
           ·clear hd
            (repeat refine ZQ ?_); refine ZR fun K hK => ?_; simp (maxSteps := 1000000) [ty68, ty33, ty4]; refine hK _ ?_; clear hK K
            (repeat refine ZQ ?_); refine awp_ret ?_; refine And.intro (Or.inr rfl) ?_
            simp [retC, resC, viewC, mapO]
           ·simp at hd
          ·rw [hin2] at c74
           (repeat refine ZQ ?_); refine ZR fun K hK => ?_; simp (maxSteps := 1000000) [ty9]
           refine ZP (c73) ?_; simp (maxSteps := 1000000) [ty107, ty4]
           refine hK _ ?_; clear hK K
           (repeat refine ZQ ?_); refine ZR fun K hK => ?_; simp (maxSteps := 1000000) [ty4]
           refine ZP (c74) ?_; simp (maxSteps := 1000000) [ty4]
           refine hK _ ?_; clear hK K
           (repeat refine ZQ ?_); refine ZC (fun hd => ?_) (fun hd => ?_)
           ·simp at hd
           ·clear hd
            refine awp_skip ?_
            (repeat refine ZQ ?_); refine ZR fun K hK => ?_; simp (maxSteps := 1000000) [ty3, w1]; refine hK _ ?_; clear hK K; (first | show AWP _ _ _ _ _ | show ∃ _, _ | skip)
            refine ⟨i + 1, ⟨by omega, fun j h1 h2 => ?_⟩, by omega, ?_⟩
            ·by_cases hji : j = i
             ·subst hji; rw [hpo, hin2]; rfl
             ·exact hJ2 j h1 (by omega)
            ·exact ZW
        ·simp at hc2
         (repeat refine ZQ ?_); refine awp_exit ?_; (first | show AWP _ _ _ _ _ | show ∃ _, _ | skip)
         have hno : ¬ (L.any fun l => parseOk l && !Cs.any fun c => l == c) = true := fun hh => by
          obtain ⟨l, hl1, hl2⟩ := List.any_eq_true.1 hh
          obtain ⟨j, hj, rfl⟩ := List.getElem_of_mem hl1
          rw [hJ2 j hj (by omega)] at hl2; cases hl2
         rw [if_neg hno]
         (repeat refine ZQ ?_); refine ZR fun K hK => ?_; simp (maxSteps := 1000000) [ty99]
         refine ZP (c75) ?_; simp (maxSteps := 1000000) [ty68, ty33, ty4]
         refine hK _ ?_; clear hK K
         (repeat refine ZQ ?_); refine awp_ret ?_; refine And.intro (Or.inr rfl) ?_
         simp [retC, resC, viewC, mapO, purel, C.isPure, hXe, hTi, ht]

set_option maxHeartbeats 4000000
set_option maxRecDepth 20000


theorem card_head (b : UInt8) (m : Nat) (row : List UInt8) (hm : m ≤ 8) : headC (cardB b m row) = ⟨b, (m : Int), row⟩ ∧ (cardB b m row).take ((cardB b m row).length - 2) = headB b m row ∧ (cardB b m row).drop ((cardB b m row).length - 2) = checkB (headB b m row) := by
 have hlen : (cardB b m row).length - 2 = (headB b m row).length := by rw [card_len]; simp [headB]
 have h1 : (cardB b m row).take ((cardB b m row).length - 2) = headB b m row := by
  rw [hlen]; unfold cardB; exact List.take_left' rfl
 have h2 : (cardB b m row).drop ((cardB b m row).length - 2) = checkB (headB b m row) := by
  rw [hlen]; unfold cardB; exact List.drop_left' rfl
 refine ⟨?_, h1, h2⟩
 unfold headC
 rw [h1]
 have e1 : (cardB b m row).getD 1 0 = UInt8.ofNat (48 + m) := rfl
 have e0 : (cardB b m row).getD 0 0 = b := rfl
 rw [e0, e1]
 have : (UInt8.ofNat (48 + m)).toNat = 48 + m := by simp only [UInt8.toNat_ofNat']; omega
 rw [this]
 have e3 : (headB b m row).drop 2 = row := rfl
 rw [e3]
 congr 1
 omega

theorem dig_plain {l : List UInt8} (h : ∀ x ∈ l, 48 ≤ x.toNat ∧ x.toNat ≤ 57) : plainB l = true ∧ digB l = true := by
 refine ⟨List.all_eq_true.2 fun x hx => ?_, List.all_eq_true.2 fun x hx => ?_⟩
 ·have := h x hx
  simp only [Bool.and_eq_true, decide_eq_true_eq]; omega
 ·have := h x hx
  unfold dig1
  simp only [Bool.and_eq_true, decide_eq_true_eq]; omega

theorem check_pl (l : List UInt8) : ∀ x ∈ checkB l, 48 ≤ x.toNat ∧ x.toNat ≤ 57 := twoB_pl (by omega)

theorem card_ok (b : UInt8) (m : Nat) (row : List UInt8) (h1 : 1 ≤ m) (h8 : m ≤ 8) (hb : 32 ≤ b.toNat ∧ b.toNat ≤ 126) (hp : plainB row = true) (h3 : bad3 ⟨b, m, row⟩ = false)
  (hl : 2 ≤ longN ⟨b, m, row⟩ ∧ longN ⟨b, m, row⟩ ≤ 62) : parseOk (cardB b m row) = true ∧ parseC (cardB b m row) = ⟨b, m, row⟩ := by
 obtain ⟨e1, e2, e3⟩ := card_head b m row h8
 have hlen := card_len b m row
 have hr2 : 2 ≤ row.length := by
  have := hl.1
  unfold longN at this
  split at this <;> simp only at this <;> omega
 have hpl : plainB (cardB b m row) = true := by
  unfold cardB headB plainB
  simp only [List.all_append, List.all_cons, List.all_nil, Bool.and_true, Bool.and_eq_true, decide_eq_true_eq]
  have hc := (dig_plain (check_pl (headB b m row))).1
  have hm : (UInt8.ofNat (48 + m)).toNat = 48 + m := by simp only [UInt8.toNat_ofNat']; omega
  rw [hm]
  exact ⟨⟨⟨hb, by omega, by omega⟩, hp⟩, hc⟩
 have b1 : bad1 (cardB b m row) = false := by
  unfold bad1
  rw [hpl, hlen]
  simp; omega
 have b2 : bad2 (cardB b m row) = false := by
  unfold bad2
  rw [e1, e2, e3]
  simp only [beq_self_eq_true, Bool.not_true, Bool.false_or, Bool.or_eq_false_iff, decide_eq_false_iff_not]
  omega
 have b3 : bad3 (headC (cardB b m row)) = false := by rw [e1]; exact h3
 constructor
 ·unfold parseOk
  rw [b1, b2, b3, e1]
  simp only [Bool.not_false, Bool.true_and, Bool.and_eq_true, decide_eq_true_eq]
  exact hl
 ·unfold parseC
  rw [b1, b2, b3]
  exact e1

def cAt (T : List (List UInt8)) (i : Nat) : Cd := ⟨UInt8.ofNat (49 + i), T.length, rowB (T.getD i []) (longB T)⟩
def sumR (T : List (List UInt8)) (wt : Bool) : List UInt8 := sumsB (rowsB T) wt
def sumC (T : List (List UInt8)) (wt : Bool) : Cd := ⟨if wt then 98 else 97, T.length, sumR T wt⟩
def sumL (T : List (List UInt8)) (wt : Bool) : List UInt8 := cardB (if wt then 98 else 97) T.length (sumR T wt)

theorem mem_cards {T : List (List UInt8)} {c : List UInt8} : c ∈ cardsB T ↔ (∃ i, i < T.length ∧ c = cardAt T i) ∨ c = sumL T false ∨ c = sumL T true := by
 unfold cardsB cardsTo sumL sumR
 simp only [List.mem_append, List.mem_map, List.mem_range, List.mem_cons, List.not_mem_nil, or_false, Bool.false_eq_true, if_false, if_true]
 constructor
 ·rintro (⟨i, h1, h2⟩ | h)
  ·exact .inl ⟨i, h1, h2.symm⟩
  ·exact .inr h
 ·rintro (⟨i, h1, h2⟩ | h)
  ·exact .inl ⟨i, h1, h2.symm⟩
  ·exact .inr h

theorem rows_at {T : List (List UInt8)} {i : Nat} (hi : i < T.length) : (rowsB T).getD i [] = rowB (T.getD i []) (longB T) := by
 unfold rowsB
 simp [List.getD_eq_getElem?_getD, List.getElem?_eq_getElem hi]

theorem row_at_ok {T : List (List UInt8)} (h : PackOk T) {i : Nat} (hi : i < T.length) : (rowB (T.getD i []) (longB T)).length = longB T + 2 ∧ plainB (rowB (T.getD i []) (longB T)) = true := by
 obtain ⟨h1, h2, h3⟩ := h.rows
 have hm : rowB (T.getD i []) (longB T) ∈ rowsB T := by
  unfold rowsB
  refine List.mem_map.2 ⟨T[i], List.getElem_mem hi, ?_⟩
  simp [List.getD_eq_getElem?_getD, List.getElem?_eq_getElem hi]
 exact ⟨h3.len _ hm, h3.val _ hm⟩

theorem sumR_ok {T : List (List UInt8)} (h : PackOk T) (wt : Bool) : (sumR T wt).length = 2 * (longB T + 2) ∧ ∀ x ∈ sumR T wt, 48 ≤ x.toNat ∧ x.toNat ≤ 57 := by
 obtain ⟨h1, h2, h3⟩ := h.rows
 have hh : ((rowsB T).headD []).length = longB T + 2 := by
  have hpos := h3.many.1
  cases hR : rowsB T with
  | nil => rw [hR] at hpos; simp at hpos
  | cons a r => exact h3.len a (by rw [hR]; simp)
 unfold sumR sumsB
 rw [hh]
 exact ⟨sumsTo_len _ _ _, sums_pl _ _⟩

theorem cardAt_ok {T : List (List UInt8)} (h : PackOk T) {i : Nat} (hi : i < T.length) : parseOk (cardAt T i) = true ∧ parseC (cardAt T i) = cAt T i ∧ longN (cAt T i) = longB T + 2 := by
 obtain ⟨r1, r2⟩ := row_at_ok h hi
 have hL := h.rows.1
 have h8 := h.many
 have hn : (UInt8.ofNat (49 + i)).toNat = 49 + i := by simp only [UInt8.toNat_ofNat']; omega
 have hs : sumN (UInt8.ofNat (49 + i)) = false := by
  unfold sumN
  simp only [Bool.or_eq_false_iff, beq_eq_false_iff_ne]
  constructor <;> (intro e; have := congrArg UInt8.toNat e; rw [hn] at this; simp at this; omega)
 have hln : longN ⟨UInt8.ofNat (49 + i), (T.length : Int), rowB (T.getD i []) (longB T)⟩ = longB T + 2 := by
  unfold longN
  simp only [hs, Bool.false_eq_true, if_false]
  exact r1
 obtain ⟨g1, g2⟩ := card_ok (UInt8.ofNat (49 + i)) T.length (rowB (T.getD i []) (longB T)) h8.1 h8.2 (by rw [hn]; omega) r2 (by
  unfold bad3
  simp only [hs, Bool.false_eq_true, if_false, hn, Bool.or_eq_false_iff, decide_eq_false_iff_not]
  omega) (by rw [hln]; omega)
 exact ⟨g1, g2, hln⟩

theorem sumL_ok {T : List (List UInt8)} (h : PackOk T) (wt : Bool) : parseOk (sumL T wt) = true ∧ parseC (sumL T wt) = sumC T wt ∧ longN (sumC T wt) = longB T + 2 := by
 obtain ⟨r1, r2⟩ := sumR_ok h wt
 obtain ⟨p1, p2⟩ := dig_plain r2
 have hL := h.rows.1
 have h8 := h.many
 have hs : sumN (if wt then 98 else 97) = true := by cases wt <;> rfl
 have hln : longN ⟨if wt then 98 else 97, (T.length : Int), sumR T wt⟩ = longB T + 2 := by
  unfold longN
  simp only [hs, if_true]
  omega
 obtain ⟨g1, g2⟩ := card_ok (if wt then 98 else 97) T.length (sumR T wt) h8.1 h8.2 (by cases wt <;> decide) p1 (by
  unfold bad3
  simp only [hs, if_true, p2, Bool.not_true, Bool.or_false, r1, beq_eq_false_iff_ne]
  omega) (by rw [hln]; omega)
 exact ⟨g1, g2, hln⟩

theorem cnum_at {T : List (List UInt8)} (h : PackOk T) {i : Nat} (hi : i < T.length) : (cAt T i).num.toNat = 49 + i := by
 have := h.many
 unfold cAt
 simp only [UInt8.toNat_ofNat']; omega

theorem card_num {T : List (List UInt8)} (h : PackOk T) {c d : List UInt8} (hc : c ∈ cardsB T) (hd : d ∈ cardsB T) (e : (parseC c).num = (parseC d).num) : c = d := by
 have key : ∀ {c : List UInt8}, c ∈ cardsB T → (∃ i, i < T.length ∧ c = cardAt T i ∧ (parseC c).num.toNat = 49 + i) ∨ (∃ wt : Bool, c = sumL T wt ∧ (parseC c).num.toNat = if wt then 98 else 97) := by
  intro c hc
  rcases mem_cards.1 hc with ⟨i, hi, rfl⟩ | rfl | rfl
  ·exact .inl ⟨i, hi, rfl, by rw [(cardAt_ok h hi).2.1]; exact cnum_at h hi⟩
  ·exact .inr ⟨false, rfl, by rw [(sumL_ok h false).2.1]; rfl⟩
  ·exact .inr ⟨true, rfl, by rw [(sumL_ok h true).2.1]; rfl⟩
 have h8 := h.many
 have e' := congrArg UInt8.toNat e
 rcases key hc with ⟨i, hi, e1, e2⟩ | ⟨w, e1, e2⟩ <;> rcases key hd with ⟨j, hj, e3, e4⟩ | ⟨v, e3, e4⟩
 ·have : i = j := by omega
  subst this; rw [e1, e3]
 ·cases v <;> simp at e4 <;> omega
 ·cases w <;> simp at e2 <;> omega
 ·cases v <;> cases w <;> simp at e2 e4 <;> first | omega | (rw [e1, e3])

theorem cards_parse {T : List (List UInt8)} (h : PackOk T) {c : List UInt8} (hc : c ∈ cardsB T) : parseOk c = true ∧ (parseC c).many = T.length ∧ longN (parseC c) = longB T + 2 := by
 rcases mem_cards.1 hc with ⟨i, hi, rfl⟩ | rfl | rfl
 ·obtain ⟨h1, h2, h3⟩ := cardAt_ok h hi
  rw [h2]; exact ⟨h1, rfl, h3⟩
 ·obtain ⟨h1, h2, h3⟩ := sumL_ok h false
  rw [h2]; exact ⟨h1, rfl, h3⟩
 ·obtain ⟨h1, h2, h3⟩ := sumL_ok h true
  rw [h2]; exact ⟨h1, rfl, h3⟩

set_option maxHeartbeats 4000000
set_option maxRecDepth 20000


def rowsP (T pre : List (List UInt8)) : List (List UInt8) := (List.range T.length).map fun i => if cardAt T i ∈ pre then rowB (T.getD i []) (longB T) else []
def sumP (T pre : List (List UInt8)) (wt : Bool) : List UInt8 := if sumL T wt ∈ pre then sumR T wt else []
structure HI (T pre : List (List UInt8)) (s : HS) : Prop where
 rows : s.rows = rowsP T pre
 a : s.a = sumP T pre false
 b : s.b = sumP T pre true
 long : s.long = (longB T + 2 : Nat)
 many : s.many = T.length
 known : ∀ o ∈ s.known, ∃ c ∈ cardsB T, o = parseC c
def HJ (T pre : List (List UInt8)) (s : HS) : Prop := (s = zHS ∧ ∀ c ∈ cardsB T, c ∉ pre) ∨ (HI T pre s ∧ s.known ≠ [])
def Sub (ls T : List (List UInt8)) : Prop := ∀ l ∈ ls, parseOk l = true → l ∈ cardsB T

theorem card_i {T : List (List UInt8)} {i : Nat} (hi : i < T.length) : cardAt T i ∈ cardsB T := mem_cards.2 (.inl ⟨i, hi, rfl⟩)
theorem card_s {T : List (List UInt8)} (wt : Bool) : sumL T wt ∈ cardsB T := by
 cases wt
 ·exact mem_cards.2 (.inr (.inl rfl))
 ·exact mem_cards.2 (.inr (.inr rfl))
theorem card_ij {T : List (List UInt8)} (h : PackOk T) {i j : Nat} (hi : i < T.length) (hj : j < T.length) (e : cardAt T i = cardAt T j) : i = j := by
 have h1 := congrArg (fun c => (parseC c).num.toNat) e
 simp only [(cardAt_ok h hi).2.1, (cardAt_ok h hj).2.1, cnum_at h hi, cnum_at h hj] at h1
 omega
theorem card_is {T : List (List UInt8)} (h : PackOk T) {i : Nat} (hi : i < T.length) (wt : Bool) : cardAt T i ≠ sumL T wt := by
 intro e
 have h8 := h.many
 have h1 := congrArg (fun c => (parseC c).num.toNat) e
 simp only [(cardAt_ok h hi).2.1, (sumL_ok h wt).2.1, cnum_at h hi] at h1
 cases wt <;> simp [sumC] at h1 <;> omega
theorem card_ab {T : List (List UInt8)} (h : PackOk T) {v w : Bool} (e : sumL T v = sumL T w) : v = w := by
 have h1 := congrArg (fun c => (parseC c).num.toNat) e
 simp only [(sumL_ok h v).2.1, (sumL_ok h w).2.1] at h1
 cases v <;> cases w <;> simp [sumC] at h1 <;> rfl

theorem rowsP_len (T pre : List (List UInt8)) : (rowsP T pre).length = T.length := by simp [rowsP]

theorem beg_HI {T pre : List (List UInt8)} {s : HS} (h : PackOk T) (hj : HJ T pre s) {c : List UInt8} (hc : c ∈ cardsB T) : HI T pre (begH s (parseC c)) := by
 obtain ⟨_, c2, c3⟩ := cards_parse h hc
 rcases hj with ⟨rfl, h2⟩ | ⟨h1, h2⟩
 ·unfold begH
  rw [if_pos (show zHS.rows.isEmpty = true from rfl)]
  refine ⟨?_, ?_, ?_, ?_, c2, fun o ho => by simp [zHS] at ho⟩
  ·simp only [c2, Int.toNat_natCast]
   unfold rowsP
   refine List.ext_getElem (by simp) fun i g1 g2 => ?_
   simp only [List.length_replicate] at g1
   simp only [List.getElem_replicate, List.getElem_map, List.getElem_range]
   rw [if_neg (h2 _ (card_i g1))]
  ·unfold sumP; rw [if_neg (h2 _ (card_s false))]; rfl
  ·unfold sumP; rw [if_neg (h2 _ (card_s true))]; rfl
  ·simp only [c3]
 ·have hne : s.rows.isEmpty = false := by
   rw [h1.rows]
   have := rowsP_len T pre
   have h8 := h.many
   cases hq : rowsP T pre with
   | nil => rw [hq] at this; simp at this; omega
   | cons a b => rfl
  unfold begH
  rw [hne, if_neg (by simp)]
  exact h1

theorem no_clash {T pre : List (List UInt8)} {s : HS} (h : PackOk T) (hi : HI T pre s) {c : List UInt8} (hc : c ∈ cardsB T) : clash s (parseC c) = false := by
 obtain ⟨_, c2, c3⟩ := cards_parse h hc
 unfold clash
 rw [hi.many, hi.long, c2, c3]
 simp only [bne_self_eq_false, Bool.or_false]
 cases hq : lookN (parseC c).num s.known with
 | none => rfl
 | some o =>
  simp only
  obtain ⟨d, hd, rfl⟩ := hi.known o (List.mem_of_find?_eq_some hq)
  have hn : (parseC d).num = (parseC c).num := by simpa using List.find?_some hq
  rw [card_num h hd hc hn]
  simp [cdEq]

theorem put_HI {T pre : List (List UInt8)} {s : HS} (h : PackOk T) (hi : HI T pre s) {c : List UInt8} (hc : c ∈ cardsB T) : HI T (pre ++ [c]) (putH s (parseC c)) ∧ (putH s (parseC c)).known ≠ [] := by
 have hkn : ∀ o ∈ (putH s (parseC c)).known, ∃ c ∈ cardsB T, o = parseC c := by
  intro o ho
  unfold putH at ho
  simp only at ho
  split at ho
  ·exact hi.known o ho
  ·rcases List.mem_append.1 ho with ho | ho
   ·exact hi.known o ho
   ·simp at ho; exact ⟨c, hc, ho⟩
 have hk0 : (putH s (parseC c)).known ≠ [] := by
  unfold putH
  simp only
  split
  ·rename_i hq
   intro e
   rw [e] at hq; simp [lookN] at hq
  ·simp
 refine ⟨?_, hk0⟩
 have h8 := h.many
 rcases mem_cards.1 hc with ⟨i, hil, rfl⟩ | hs
 ·obtain ⟨_, p2, _⟩ := cardAt_ok h hil
  have hn := cnum_at h hil
  have hsn : sumN (cAt T i).num = false := by
   unfold sumN
   simp only [Bool.or_eq_false_iff, beq_eq_false_iff_ne]
   constructor <;> (intro e; have := congrArg UInt8.toNat e; rw [hn] at this; simp at this; omega)
  have hna : ((cAt T i).num == 97) = false := by unfold sumN at hsn; simp only [Bool.or_eq_false_iff] at hsn; exact hsn.1
  have hnb : ((cAt T i).num == 98) = false := by unfold sumN at hsn; simp only [Bool.or_eq_false_iff] at hsn; exact hsn.2
  refine ⟨?_, ?_, ?_, hi.long, hi.many, hkn⟩
  ·unfold putH
   simp only [p2, hsn, Bool.false_eq_true, if_false, hn, hi.rows]
   refine List.ext_getElem (by simp [rowsP]) fun j g1 g2 => ?_
   have hjl : j < T.length := by simpa [rowsP] using g2
   simp only [rowsP, List.getElem_set, List.getElem_map, List.getElem_range, List.mem_append, List.mem_singleton]
   by_cases hji : 49 + i - 49 = j
   ·have : i = j := by omega
    subst this
    rw [if_pos hji, if_pos (.inr rfl)]; rfl
   ·rw [if_neg hji]
    have : ¬ cardAt T j = cardAt T i := fun e => hji (by have := card_ij h hjl hil e; omega)
    simp only [this, or_false]
  ·unfold putH sumP
   simp only [p2, hna, Bool.false_eq_true, if_false, hi.a, List.mem_append, List.mem_singleton]
   have : ¬ sumL T false = cardAt T i := fun e => card_is h hil false e.symm
   simp only [this, or_false]; rfl
  ·unfold putH sumP
   simp only [p2, hnb, Bool.false_eq_true, if_false, hi.b, List.mem_append, List.mem_singleton]
   have : ¬ sumL T true = cardAt T i := fun e => card_is h hil true e.symm
   simp only [this, or_false]; rfl
 ·obtain ⟨wt, rfl⟩ : ∃ wt, c = sumL T wt := by rcases hs with h | h <;> exact ⟨_, h⟩
  obtain ⟨_, p2, _⟩ := sumL_ok h wt
  have hsn : sumN (sumC T wt).num = true := by cases wt <;> rfl
  have hR : ∀ i, i < T.length → (cardAt T i ∈ pre ++ [sumL T wt] ↔ cardAt T i ∈ pre) := fun i hil => by
   have := card_is h hil wt
   simp only [List.mem_append, List.mem_singleton, this, or_false]
  refine ⟨?_, ?_, ?_, hi.long, hi.many, hkn⟩
  ·unfold putH
   simp only [p2, hsn, if_true, hi.rows]
   unfold rowsP
   refine List.map_congr_left fun i hil => ?_
   simp only [hR i (List.mem_range.1 hil)]
  ·unfold putH
   simp only [p2, hi.a]
   cases wt
   ·have : (sumC T false).num == 97 := rfl
    rw [if_pos this]; unfold sumP; rw [if_pos (by simp)]; rfl
   ·have : ¬ ((sumC T true).num == 97) = true := by simp [sumC]
    rw [if_neg this]
    have hne : ¬ sumL T false = sumL T true := fun e => by cases card_ab h e
    unfold sumP
    simp only [List.mem_append, List.mem_singleton, hne, or_false]
  ·unfold putH
   simp only [p2, hi.b]
   cases wt
   ·have : ¬ ((sumC T false).num == 98) = true := by simp [sumC]
    rw [if_neg this]
    have hne : ¬ sumL T true = sumL T false := fun e => by cases card_ab h e
    unfold sumP
    simp only [List.mem_append, List.mem_singleton, hne, or_false]
   ·have : (sumC T true).num == 98 := rfl
    rw [if_pos this]; unfold sumP; rw [if_pos (by simp)]; rfl

theorem skip_HJ {T pre : List (List UInt8)} {s : HS} (h : PackOk T) (hj : HJ T pre s) {l : List UInt8} (hl : l ∉ cardsB T) : HJ T (pre ++ [l]) s := by
 have hR : ∀ c ∈ cardsB T, (c ∈ pre ++ [l] ↔ c ∈ pre) := fun c hc => by
  have : ¬ c = l := fun e => hl (e ▸ hc)
  simp only [List.mem_append, List.mem_singleton, this, or_false]
 rcases hj with ⟨h1, h2⟩ | ⟨h1, h2⟩
 ·exact .inl ⟨h1, fun c hc => by rw [hR c hc]; exact h2 c hc⟩
 ·refine .inr ⟨⟨?_, ?_, ?_, h1.long, h1.many, h1.known⟩, h2⟩
  ·rw [h1.rows]; unfold rowsP
   refine List.map_congr_left fun i hil => ?_
   simp only [hR _ (card_i (List.mem_range.1 hil))]
  ·rw [h1.a]; unfold sumP; simp only [hR _ (card_s false)]
  ·rw [h1.b]; unfold sumP; simp only [hR _ (card_s true)]

theorem srt_HJ {T : List (List UInt8)} (h : PackOk T) : ∀ (ls pre : List (List UInt8)) (s : HS), Sub ls T → HJ T pre s → ∃ s', srt ls s = (s', !s'.known.isEmpty) ∧ HJ T (pre ++ ls) s'
 | [], pre, s, _, hj => ⟨s, rfl, by simpa using hj⟩
 | l :: r, pre, s, hs, hj => by
  have e : pre ++ (l :: r) = (pre ++ [l]) ++ r := by simp
  have hs' : Sub r T := fun x hx => hs x (by simp [hx])
  unfold srt
  by_cases hp : parseOk l = true
  ·have hc := hs l (by simp) hp
   have hb := beg_HI h hj hc
   rw [if_pos hp, no_clash h hb hc, if_neg (by simp), e]
   exact srt_HJ h r _ _ hs' (.inr (put_HI h hb hc))
  ·rw [if_neg hp, e]
   refine srt_HJ h r _ _ hs' (skip_HJ h hj fun hc => hp (cards_parse h hc).1)

theorem srt_all {T ls : List (List UInt8)} (h : PackOk T) (hs : Sub ls T) (hg : ∃ l ∈ ls, parseOk l = true) : (srt ls zHS).2 = true ∧ HI T ls (srt ls zHS).1 := by
 obtain ⟨s', e, hj⟩ := srt_HJ h ls [] zHS hs (.inl ⟨rfl, by simp⟩)
 rw [e]
 rw [List.nil_append] at hj
 rcases hj with ⟨_, h2⟩ | ⟨h1, h2⟩
 ·obtain ⟨l, hl, hp⟩ := hg
  exact absurd hl (h2 l (hs l hl hp))
 ·exact ⟨by simpa using h2, h1⟩

set_option maxHeartbeats 4000000
set_option maxRecDepth 20000


def valR (T : List (List UInt8)) (k i : Nat) : Int := valB (atB (rowsB T) i k)

theorem valR_bd {T : List (List UInt8)} (h : PackOk T) {k i : Nat} (hi : i < T.length) (hk : k < longB T + 2) : 0 ≤ valR T k i ∧ valR T k i ≤ 94 := by
 obtain ⟨_, h1, h2⟩ := (at_val h.rows.2.2 (by simpa [rowsB] using hi) hk).2
 exact ⟨h1, h2⟩

theorem sumsTo_take (R : List (List UInt8)) (wt : Bool) : ∀ n k, k ≤ n → (sumsTo R wt n).take (2 * k) = sumsTo R wt k
  | 0, k, h => by obtain rfl : k = 0 := by omega
                  rfl
  | n + 1, k, h => by
    by_cases e : k = n + 1
    · subst e; exact List.take_of_length_le (by rw [sumsTo_len]; omega)
    · simp only [sumsTo]
      rw [List.take_append_of_le_length (by rw [sumsTo_len]; omega)]
      exact sumsTo_take R wt n k (by omega)

theorem numV_two {n : Nat} (h : n < 100) : numV (twoB n) = n := by
 have hp := (dig_plain (twoB_pl h)).2
 unfold numV numOk
 rw [hp]
 have : ((twoB n).length == 2 && true) = true := rfl
 rw [if_pos this]
 unfold numAt twoB
 simp only [List.getD_cons_zero, List.getD_cons_succ, UInt8.toNat_ofNat']
 omega

theorem numV_sum {T : List (List UInt8)} (h : PackOk T) (wt : Bool) {k : Nat} (hk : k < longB T + 2) : (numV (((sumR T wt).take (2 * k + 2)).drop (2 * k)) : Int) = colS (rowsB T) wt k T.length % 97 := by
 have hR := h.rows.2.2
 have hh : ((rowsB T).headD []).length = longB T + 2 := by
  have hpos := hR.many.1
  cases hq : rowsB T with
  | nil => rw [hq] at hpos; simp at hpos
  | cons a r => exact hR.len a (by rw [hq]; simp)
 have hl : (rowsB T).length = T.length := by simp [rowsB]
 unfold sumR sumsB
 rw [hh, show 2 * k + 2 = 2 * (k + 1) by omega, sumsTo_take _ _ _ _ (by omega)]
 simp only [sumsTo]
 rw [List.drop_left' (sumsTo_len _ _ _), numV_two (by omega), hl]
 omega

def gapTo (T ls : List (List UInt8)) (wt : Bool) (k : Nat) : Nat → Int
 | 0 => 0
 | i + 1 => gapTo T ls wt k i + (if cardAt T i ∈ ls then 0 else valR T k i * wgt wt i)

theorem rowsP_at {T ls : List (List UInt8)} {i : Nat} (hi : i < T.length) : (rowsP T ls).getD i [] = if cardAt T i ∈ ls then rowB (T.getD i []) (longB T) else [] := by
 unfold rowsP
 simp [List.getD_eq_getElem?_getD, hi]

theorem row_ne {T : List (List UInt8)} (h : PackOk T) {i : Nat} (hi : i < T.length) : rowB (T.getD i []) (longB T) ≠ [] := fun e => by
 have := (row_at_ok h hi).1
 rw [e] at this; simp at this

theorem rowsP_nil {T ls : List (List UInt8)} (h : PackOk T) {i : Nat} (hi : i < T.length) : (rowsP T ls).getD i [] = [] ↔ cardAt T i ∉ ls := by
 rw [rowsP_at hi]
 split
 ·rename_i hc
  exact ⟨fun e => absurd e (row_ne h hi), fun hn => absurd hc hn⟩
 ·rename_i hc
  exact ⟨fun _ => hc, fun _ => rfl⟩

theorem left_gap {T ls : List (List UInt8)} (h : PackOk T) (wt : Bool) (k : Nat) : ∀ i, i ≤ T.length → leftTo (rowsP T ls) k wt i + gapTo T ls wt k i = colS (rowsB T) wt k i
 | 0, _ => rfl
 | i + 1, hi => by
  have ih := left_gap (ls := ls) h wt k i (by omega)
  have e1 : atB (rowsP T ls) i k = ((rowsP T ls).getD i []).getD k 0 := rfl
  have e2 : atB (rowsB T) i k = ((rowsB T).getD i []).getD k 0 := rfl
  simp only [leftTo, gapTo, colS, valR]
  rw [rows_at (by omega)] at e2
  by_cases hc : cardAt T i ∈ ls
  ·rw [rowsP_at (by omega), if_pos hc] at e1
   rw [if_pos hc, if_neg (fun e => absurd hc ((rowsP_nil h (by omega)).1 e)), e1, e2]
   omega
  ·rw [if_neg hc, if_pos ((rowsP_nil h (by omega)).2 hc)]
   omega

theorem gap_sum {T ls : List (List UInt8)} (h : PackOk T) (wt : Bool) (k : Nat) : ∀ i, i ≤ T.length → gapTo T ls wt k i = ((missTo (rowsP T ls) i).map fun z => valR T k z.toNat * wgt wt z.toNat).sum
 | 0, _ => rfl
 | i + 1, hi => by
  have ih := gap_sum (ls := ls) h wt k i (by omega)
  have hlt : i < (rowsP T ls).length := by rw [rowsP_len]; omega
  have e : (rowsP T ls)[i] = (rowsP T ls).getD i [] := by simp [List.getD_eq_getElem?_getD, List.getElem?_eq_getElem hlt]
  rw [missTo_succ _ hlt, e]
  simp only [gapTo]
  by_cases hc : cardAt T i ∈ ls
  ·rw [if_pos hc, if_neg (fun e => absurd hc ((rowsP_nil h (by omega)).1 e)), ih]; omega
  ·rw [if_neg hc, if_pos ((rowsP_nil h (by omega)).2 hc), ih, List.map_append, List.sum_append]
   simp

theorem left_eq {T ls : List (List UInt8)} (h : PackOk T) (wt : Bool) {k : Nat} (hk : k < longB T + 2) : leftN (rowsP T ls) (sumR T wt) k wt = ((missB (rowsP T ls)).map fun z => valR T k z.toNat * wgt wt z.toNat).sum % 97 := by
 have h1 := left_gap (ls := ls) h wt k T.length (Nat.le_refl _)
 have h2 := gap_sum (ls := ls) h wt k T.length (Nat.le_refl _)
 have h3 := numV_sum h wt hk
 unfold leftN missB
 rw [rowsP_len, h3, ← h2]
 omega

theorem inv_cancel {w v : Int} {d : Nat} (h1 : 1 ≤ d) (h8 : d ≤ 8) (hv : 0 ≤ v ∧ v ≤ 96) (hw : w % 97 = v * d % 97) : w * invN d % 97 = v := by
 obtain ⟨_, _, h3, _⟩ := inv_ok ⟨d, by omega⟩ h1
 simp only at h3
 have h4 : ((invN d : Int) * d) % 97 = 1 := by omega
 have h5 : w * invN d % 97 = (v * d) * invN d % 97 := by rw [Int.mul_emod, hw, ← Int.mul_emod]
 rw [h5, Int.mul_assoc, Int.mul_comm (d : Int), Int.mul_emod, h4]
 omega

theorem found_eq {T ls : List (List UInt8)} {s : HS} (h : PackOk T) (hi : HI T ls s) (hs : (missB s.rows).length ≤ sumsN s) {k : Nat} (hk : k < longB T + 2) :
  foundB s k = (missB s.rows).map fun z => valR T k z.toNat := by
 have hrl : s.rows.length = T.length := by rw [hi.rows, rowsP_len]
 have h8 := h.many
 have hA : ∀ wt, sumR T wt ≠ [] := fun wt e => by have := (sumR_ok h wt).1; rw [e] at this; simp at this
 have ha : s.a ≠ [] → s.a = sumR T false := by
  rw [hi.a]; unfold sumP; split
  ·exact fun _ => rfl
  ·exact fun h => absurd rfl h
 have hb : s.b ≠ [] → s.b = sumR T true := by
  rw [hi.b]; unfold sumP; split
  ·exact fun _ => rfl
  ·exact fun h => absurd rfl h
 have la := left_eq (ls := ls) h false hk
 have lb := left_eq (ls := ls) h true hk
 rw [← hi.rows] at la lb
 have hL : ∀ j (hj : j < (missB s.rows).length), lostAt s j < T.length ∧ (missB s.rows)[j] = (lostAt s j : Int) := fun j hj => by
  obtain ⟨h1, h2⟩ := lost_lt hj
  exact ⟨by omega, h2⟩
 have hasc := lost_asc (s := s)
 have hna : s.a = [] → nzN s.a = 0 := fun e => if_pos e
 have hnb : s.b = [] → nzN s.b = 0 := fun e => if_pos e
 have hu : nzN s.a ≤ 1 ∧ nzN s.b ≤ 1 := by unfold nzN; constructor <;> split <;> omega
 unfold sumsN at hs
 unfold foundB
 generalize hM : missB s.rows = M at *
 match M with
 | [] => simp
 | [z] =>
  obtain ⟨h1, h2⟩ := hL 0 (by simp)
  simp only [List.getElem_cons_zero] at h2
  subst h2
  generalize lostAt s 0 = i at *
  obtain ⟨v1, v2⟩ := valR_bd h h1 hk
  simp only [List.map_cons, List.map_nil, List.sum_cons, List.sum_nil, Int.toNat_natCast, wgt, Bool.false_eq_true, if_false, if_true] at la lb ⊢
  by_cases h0 : s.a = []
  ·have hb0 : s.b ≠ [] := fun e => by have := hna h0; have := hnb e; simp at hs; omega
   rw [if_neg (by simp [h0]), if_pos (by simp), hb hb0, lb]
   congr 1
   refine inv_cancel (by omega) (by omega) ⟨v1, by omega⟩ ?_
   simp
  ·rw [if_pos ⟨by simp, h0⟩, ha h0, la]
   congr 1
   omega
 | [y, z] =>
  have hlt := hasc rfl
  obtain ⟨h1, h2⟩ := hL 0 (by simp)
  obtain ⟨h3, h4⟩ := hL 1 (by simp)
  simp only [List.getElem_cons_zero, List.getElem_cons_succ] at h2 h4
  subst h2; subst h4
  generalize lostAt s 0 = i at *
  generalize lostAt s 1 = j at *
  obtain ⟨v1, v2⟩ := valR_bd h h1 hk
  obtain ⟨w1, w2⟩ := valR_bd h h3 hk
  simp only [List.length_cons, List.length_nil] at hs
  have ha0 : s.a ≠ [] := fun e => by have := hna e; omega
  have hb0 : s.b ≠ [] := fun e => by have := hnb e; omega
  simp only [List.map_cons, List.map_nil, List.sum_cons, List.sum_nil, Int.toNat_natCast, wgt, Bool.false_eq_true, if_false, if_true] at la lb ⊢
  rw [if_neg (by simp), if_neg (by simp), if_pos (by simp), ha ha0, hb hb0, la, lb]
  generalize valR T k i = v at *
  generalize valR T k j = w at *
  have hx : ((v * ((i : Int) + 1) + (w * ((j : Int) + 1) + 0)) % 97 - (v * 1 + (w * 1 + 0)) % 97 * ((i : Int) + 1)) * invN (j - i) % 97 = w := by
   refine inv_cancel (by omega) (by omega) ⟨w1, by omega⟩ ?_
   obtain ⟨d, rfl⟩ : ∃ d, j = i + d := ⟨j - i, by omega⟩
   rw [Int.sub_emod, Int.emod_emod, Int.mul_emod ((v * 1 + (w * 1 + 0)) % 97), Int.emod_emod, ← Int.mul_emod, ← Int.sub_emod]
   have : i + d - i = d := by omega
   rw [this]
   congr 1
   rw [Int.natCast_add]
   simp only [Int.mul_add, Int.add_mul, Int.mul_one, Int.one_mul, Int.add_zero]
   omega
  rw [hx]
  have hy : ((v * 1 + (w * 1 + 0)) % 97 - w) % 97 = v := by omega
  rw [hy]
 | _ :: _ :: _ :: _ => simp at hs; omega

end Go.Proofs.YtgnpcijgdhjfpaaGreatDoor

