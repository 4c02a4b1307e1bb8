/- For every input the law CardsJoin returns true, and each argument reads afterwards as it read before, in each world whose listed variables hold what the program's text lays in them. No other condition. -/
import Derived.Test.YtgnpcijgdhjfpaaGreatDoorB6

set_option linter.unusedSimpArgs false
set_option linter.unusedVariables false
set_option linter.constructorNameAsVariable false

namespace Go.Proofs.YtgnpcijgdhjfpaaGreatDoor
open Go Go.Abs
open Go.ChangeShapes Go.WideShapes Go.ChangeAt Go.RowKit

theorem cardsJoin_laid (os : Os) : laidMet Tryz.prog Rows.cardsJoinRow.laid ((laidWorld os).forCall (fun _ _ => 0) ⟨#[], #[.string ⟨#[]⟩, .string ⟨#[]⟩], []⟩).memory :=
 laidMet_of_run' 8 (by kernel_rfl) (by kernel_rfl)
theorem cardsJoin_reads (os : Os) {H : Type} (enc : TypeId × Value → H) : ∃ places, DataW.whole enc Tryz.prog ((laidWorld os).forCall (fun _ _ => 0) ⟨#[], #[.string ⟨#[]⟩, .string ⟨#[]⟩], []⟩).memory Tryz.f9.params.toList Rows.cardsJoinSpec.vars false (#[.string ⟨#[]⟩, .string ⟨#[]⟩] : Array Value).toList 8 = some ([.lit (.string []), .lit (.string [])], [], places) :=
 ⟨[], by kernel_rfl⟩

set_option maxRecDepth 100000 in
theorem cardsJoin_lifted (os : Os) (started : os.Started) (H : Type) (enc : TypeId × Value → H) (F : Stop.Interp) :
  ReturnsInHanded {} Tryz.checked os 9 .any ((OpenSpec.ofChange Rows.cardsJoinSpec).preRow enc Tryz.prog Tryz.f9 Rows.cardsJoinRow.domain false Rows.cardsJoinRow.laid) (((OpenSpec.ofChange Rows.cardsJoinSpec).at F).post enc Tryz.prog Tryz.f9 false true false false) := by
 obtain ⟨places, hx⟩ := cardsJoin_reads os enc
 refine returnsInHanded_of_row (C := Tryz.checked) (s := OpenSpec.ofChange Rows.cardsJoinSpec) J.own started (by kernel_rfl) Tryz.func9
  (witness_row_at (enc := enc) (C := Tryz.checked) false (laidWorld os) #[.string ⟨#[]⟩, .string ⟨#[]⟩] rfl (by kernel_rfl) (by kernel_rfl) (by kernel_rfl)
   (OpenSpec.preRow_of_cond 8 hx (by kernel_rfl) (fun k hk => by cases hk) (by kernel_rfl) (cardsJoin_laid os))) ?_
 intro W base args ds gs before hval hW _ _ _ hL hsh _
 refine law_contract (P := Tryz.prog) (tb := 4) (by kernel_rfl) J.ub rfl (fun ds hl => ?_) J.laid J.maps J.sized (by kernel_rfl) (by kernel_rfl) (fun cargs hc => ?_) W (J.gk hsh) base args ds gs before hval hW
 ·have h2 : ds.length = 2 := hl
  match ds, h2 with
  | [_, _], _ => rfl
 ·rw [Tryz.params9] at hc
  obtain ⟨l, r, rfl, hd⟩ := argS hc
  obtain ⟨l2, r2, rfl, hd2⟩ := argS hd
  obtain rfl := argEnd hd2
  exact law9 l l2

theorem cardsJoin_said : Rows.CardsJoinSaid :=
 OpenClaim.holds_of_cond 9 Tryz.f9 rfl rfl rfl rfl rfl rfl rfl ⟨rfl, rfl, rfl, rfl, rfl⟩ rfl rfl rfl rfl rfl (by kernel_rfl) Tryz.func9 (by kernel_rfl)
  (of_decide_eq_true (by kernel_rfl)) (by unfold Func.isWrapper; first | (rw [if_pos (by decide +kernel)]; kernel_rfl) | (rw [if_neg (by decide +kernel)]; exact ⟨rfl, rfl⟩))
  (fun os started H enc _ F => by rw [OpenClaim.pre_eq_preRow]; exact cardsJoin_lifted os started H enc F)

theorem cardsJoin_plain (f : FuncId) (fn : Func) (hf : Tryz.pinned.checked.prog.funcNamed "knurl/knurllaw14.CardsJoin" = some f) (hfn : Tryz.pinned.checked.prog.funcs[f]? = some fn) :
  false = Tryz.pinned.checked.prog.looks [] ∧ ∀ (j : Nat) t, fn.params[j]? = some t → Tryz.pinned.checked.prog.wantsStandIn t = false := by
 obtain rfl : f = 9 := Option.some.inj ((show Tryz.prog.funcNamed "knurl/knurllaw14.CardsJoin" = some 9 by kernel_rfl).symm.trans hf) |>.symm
 obtain rfl : fn = Tryz.f9 := (Option.some.inj (Tryz.func9.symm.trans hfn)).symm
 refine ⟨by kernel_rfl, fun j t ht => ?_⟩
 rw [Tryz.params9] at ht
 have hm := Array.mem_of_getElem? ht
 simp only [List.mem_toArray, List.mem_cons, List.mem_nil_iff, or_false] at hm
 rcases hm with rfl | rfl
 ·exact (show Tryz.prog.wantsStandIn 9 = false by kernel_rfl)
 ·exact (show Tryz.prog.wantsStandIn 9 = false by kernel_rfl)

theorem cardsJoin_holds : Rows.CardsJoinCardSaid :=
 Claim7.holds_tied_plain_at .later [] [.data, .pinned] true (true, "3bde293fce045e9e98ed4d3593ef8bc91ac8063b5b8f01897df6daa7a8a12804") false cardsJoin_said (fun _ h => by cases h) (by kernel_rfl) (fun _ h => by cases h) cardsJoin_row_tie rfl ⟨rfl, rfl⟩ (by kernel_rfl) rfl cardsJoin_plain (by kernel_rfl)
#print axioms cardsJoin_holds
end Go.Proofs.YtgnpcijgdhjfpaaGreatDoor

