/- For every input the law CardsOrder returns true, and each argument reads afterwards as it read before, in each world whose listed variables hold what the program's text lays in them. No other condition. -/
import Derived.Test.YtgnpcijgdhjfpaaGreatDoorB5

set_option linter.unusedSimpArgs false
set_option linter.unusedVariables false
set_option linter.constructorNameAsVariable false

namespace Go.Proofs.YtgnpcijgdhjfpaaGreatDoor
open Go Go.Abs
open Go.ChangeShapes Go.WideShapes Go.ChangeAt Go.RowKit

theorem cardsOrder_laid (os : Os) : laidMet Tryz.prog Rows.cardsOrderRow.laid ((laidWorld os).forCall (fun _ _ => 0) ⟨#[], #[.slice none 0 0, .agg #[.int .i64 0, .slice none 0 0, .string ⟨#[]⟩]], []⟩).memory :=
 laidMet_of_run' 8 (by kernel_rfl) (by kernel_rfl)
theorem cardsOrder_reads (os : Os) {H : Type} (enc : TypeId × Value → H) : ∃ places, DataW.whole enc Tryz.prog ((laidWorld os).forCall (fun _ _ => 0) ⟨#[], #[.slice none 0 0, .agg #[.int .i64 0, .slice none 0 0, .string ⟨#[]⟩]], []⟩).memory Tryz.f5.params.toList Rows.cardsOrderSpec.vars false (#[.slice none 0 0, .agg #[.int .i64 0, .slice none 0 0, .string ⟨#[]⟩]] : Array Value).toList 8 = some ([.nil, .agg [.lit (.int .i64 0), .nil, .lit (.string [])]], [], places) :=
 ⟨[], by kernel_rfl⟩

set_option maxRecDepth 100000 in
theorem cardsOrder_lifted (os : Os) (started : os.Started) (H : Type) (enc : TypeId × Value → H) (F : Stop.Interp) :
  ReturnsInHanded {} Tryz.checked os 5 .any ((OpenSpec.ofChange Rows.cardsOrderSpec).preRow enc Tryz.prog Tryz.f5 Rows.cardsOrderRow.domain false Rows.cardsOrderRow.laid) (((OpenSpec.ofChange Rows.cardsOrderSpec).at F).post enc Tryz.prog Tryz.f5 false true false false) := by
 obtain ⟨places, hx⟩ := cardsOrder_reads os enc
 refine returnsInHanded_of_row (C := Tryz.checked) (s := OpenSpec.ofChange Rows.cardsOrderSpec) J.own started (by kernel_rfl) Tryz.func5
  (witness_row_at (enc := enc) (C := Tryz.checked) false (laidWorld os) #[.slice none 0 0, .agg #[.int .i64 0, .slice none 0 0, .string ⟨#[]⟩]] rfl (by kernel_rfl) (by kernel_rfl) (by kernel_rfl)
   (OpenSpec.preRow_of_cond 8 hx (by kernel_rfl) (fun k hk => by cases hk) (by kernel_rfl) (cardsOrder_laid os))) ?_
 intro W base args ds gs before hval hW _ _ _ hL hsh _
 refine law_contract (P := Tryz.prog) (tb := 4) (by kernel_rfl) J.ub rfl (fun ds hl => ?_) J.laid J.maps J.sized (by kernel_rfl) (by kernel_rfl) (fun cargs hc => ?_) W (J.gk hsh) base args ds gs before hval hW
 ·have h2 : ds.length = 2 := hl
  match ds, h2 with
  | [_, _], _ => rfl
 ·rw [Tryz.params5] at hc
  obtain ⟨nl, L, r, rfl, hd⟩ := argT hc
  obtain ⟨b, n2, tw, st, r2, rfl, hd2⟩ := argMix hd
  obtain rfl := argEnd hd2
  exact law5 nl false L b n2 tw st

theorem cardsOrder_said : Rows.CardsOrderSaid :=
 OpenClaim.holds_of_cond 5 Tryz.f5 rfl rfl rfl rfl rfl rfl rfl ⟨rfl, rfl, rfl, rfl, rfl⟩ rfl rfl rfl rfl rfl (by kernel_rfl) Tryz.func5 (by kernel_rfl)
  (of_decide_eq_true (by kernel_rfl)) (by unfold Func.isWrapper; first | (rw [if_pos (by decide +kernel)]; kernel_rfl) | (rw [if_neg (by decide +kernel)]; exact ⟨rfl, rfl⟩))
  (fun os started H enc _ F => by rw [OpenClaim.pre_eq_preRow]; exact cardsOrder_lifted os started H enc F)

theorem cardsOrder_plain (f : FuncId) (fn : Func) (hf : Tryz.pinned.checked.prog.funcNamed "knurl/knurllaw14.CardsOrder" = some f) (hfn : Tryz.pinned.checked.prog.funcs[f]? = some fn) :
  false = Tryz.pinned.checked.prog.looks [] ∧ ∀ (j : Nat) t, fn.params[j]? = some t → Tryz.pinned.checked.prog.wantsStandIn t = false := by
 obtain rfl : f = 5 := Option.some.inj ((show Tryz.prog.funcNamed "knurl/knurllaw14.CardsOrder" = some 5 by kernel_rfl).symm.trans hf) |>.symm
 obtain rfl : fn = Tryz.f5 := (Option.some.inj (Tryz.func5.symm.trans hfn)).symm
 refine ⟨by kernel_rfl, fun j t ht => ?_⟩
 rw [Tryz.params5] at ht
 have hm := Array.mem_of_getElem? ht
 simp only [List.mem_toArray, List.mem_cons, List.mem_nil_iff, or_false] at hm
 rcases hm with rfl | rfl
 ·exact (show Tryz.prog.wantsStandIn 22 = false by kernel_rfl)
 ·exact (show Tryz.prog.wantsStandIn 45 = false by kernel_rfl)

theorem cardsOrder_holds : Rows.CardsOrderCardSaid :=
 Claim7.holds_tied_plain_at .later [] [.data, .pinned] true (true, "3bde293fce045e9e98ed4d3593ef8bc91ac8063b5b8f01897df6daa7a8a12804") false cardsOrder_said (fun _ h => by cases h) (by kernel_rfl) (fun _ h => by cases h) cardsOrder_row_tie rfl ⟨rfl, rfl⟩ (by kernel_rfl) rfl cardsOrder_plain (by kernel_rfl)
#print axioms cardsOrder_holds
end Go.Proofs.YtgnpcijgdhjfpaaGreatDoor

