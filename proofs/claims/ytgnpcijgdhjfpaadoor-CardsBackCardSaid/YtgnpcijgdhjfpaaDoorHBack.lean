/- For every input the law CardsBack returns true, and each argument reads afterwards as it read before, in each world whose listed variables hold what the program's text lays in them. No other condition. -/
import Derived.Test.YtgnpcijgdhjfpaaDoorB5

set_option linter.unusedSimpArgs false
set_option linter.unusedVariables false
set_option linter.constructorNameAsVariable false

namespace Go.Proofs.YtgnpcijgdhjfpaaDoor
open Go Go.Abs
open Go.ChangeShapes Go.WideShapes Go.ChangeAt Go.RowKit

theorem cardsBack_laid (os : Os) : laidMet Tryd.prog Rows.cardsBackRow.laid ((laidWorld os).forCall (fun _ _ => 0) ⟨#[], #[.slice none 0 0, .string ⟨#[]⟩], []⟩).memory :=
 laidMet_of_run' 8 (by kernel_rfl) (by kernel_rfl)
theorem cardsBack_reads (os : Os) {H : Type} (enc : TypeId × Value → H) : ∃ places, DataW.whole enc Tryd.prog ((laidWorld os).forCall (fun _ _ => 0) ⟨#[], #[.slice none 0 0, .string ⟨#[]⟩], []⟩).memory Tryd.f3.params.toList Rows.cardsBackSpec.vars false (#[.slice none 0 0, .string ⟨#[]⟩] : Array Value).toList 8 = some ([.nil, .lit (.string [])], [], places) :=
 ⟨[], by kernel_rfl⟩

set_option maxRecDepth 100000 in
theorem cardsBack_lifted (os : Os) (started : os.Started) (H : Type) (enc : TypeId × Value → H) (F : Stop.Interp) :
  ReturnsInHanded {} Tryd.checked os 3 .any ((OpenSpec.ofChange Rows.cardsBackSpec).preRow enc Tryd.prog Tryd.f3 Rows.cardsBackRow.domain false Rows.cardsBackRow.laid) (((OpenSpec.ofChange Rows.cardsBackSpec).at F).post enc Tryd.prog Tryd.f3 false true false false) := by
 obtain ⟨places, hx⟩ := cardsBack_reads os enc
 refine returnsInHanded_of_row (C := Tryd.checked) (s := OpenSpec.ofChange Rows.cardsBackSpec) J.own started (by kernel_rfl) Tryd.func3
  (witness_row_at (enc := enc) (C := Tryd.checked) false (laidWorld os) #[.slice none 0 0, .string ⟨#[]⟩] rfl (by kernel_rfl) (by kernel_rfl) (by kernel_rfl)
   (OpenSpec.preRow_of_cond 8 hx (by kernel_rfl) (fun k hk => by cases hk) (by kernel_rfl) (cardsBack_laid os))) ?_
 intro W base args ds gs before hval hW _ _ _ hL hsh _
 refine law_contract (P := Tryd.prog) (tb := 4) (by kernel_rfl) J.ub rfl (fun ds hl => ?_) J.laid J.maps J.sized (by kernel_rfl) (by kernel_rfl) (fun cargs hc => ?_) W (J.gk hsh) base args ds gs before hval hW
 ·have h2 : ds.length = 2 := hl
  match ds, h2 with
  | [_, _], _ => rfl
 ·rw [Tryd.params3] at hc
  obtain ⟨nl, L, r, rfl, hd⟩ := argT hc
  obtain ⟨o, r2, rfl, hd2⟩ := argS hd
  obtain rfl := argEnd hd2
  exact law3 nl false L o

theorem cardsBack_said : Rows.CardsBackSaid :=
 OpenClaim.holds_of_cond 3 Tryd.f3 rfl rfl rfl rfl rfl rfl rfl ⟨rfl, rfl, rfl, rfl, rfl⟩ rfl rfl rfl rfl rfl (by kernel_rfl) Tryd.func3 (by kernel_rfl)
  (of_decide_eq_true (by kernel_rfl)) (by unfold Func.isWrapper; first | (rw [if_pos (by decide +kernel)]; kernel_rfl) | (rw [if_neg (by decide +kernel)]; exact ⟨rfl, rfl⟩))
  (fun os started H enc _ F => by rw [OpenClaim.pre_eq_preRow]; exact cardsBack_lifted os started H enc F)

theorem cardsBack_plain (f : FuncId) (fn : Func) (hf : Tryd.pinned.checked.prog.funcNamed "knurl/knurllaw14.CardsBack" = some f) (hfn : Tryd.pinned.checked.prog.funcs[f]? = some fn) :
  false = Tryd.pinned.checked.prog.looks [] ∧ ∀ (j : Nat) t, fn.params[j]? = some t → Tryd.pinned.checked.prog.wantsStandIn t = false := by
 obtain rfl : f = 3 := Option.some.inj ((show Tryd.prog.funcNamed "knurl/knurllaw14.CardsBack" = some 3 by kernel_rfl).symm.trans hf) |>.symm
 obtain rfl : fn = Tryd.f3 := (Option.some.inj (Tryd.func3.symm.trans hfn)).symm
 refine ⟨by kernel_rfl, fun j t ht => ?_⟩
 rw [Tryd.params3] at ht
 have hm := Array.mem_of_getElem? ht
 simp only [List.mem_toArray, List.mem_cons, List.mem_nil_iff, or_false] at hm
 rcases hm with rfl | rfl
 ·exact (show Tryd.prog.wantsStandIn 22 = false by kernel_rfl)
 ·exact (show Tryd.prog.wantsStandIn 9 = false by kernel_rfl)

theorem cardsBack_holds : Rows.CardsBackCardSaid :=
 Claim7.holds_tied_plain_at .later [] [.data, .pinned] true (true, "6dacca110e589255ac38f36071d0efa36292004f5faf44df382dc6100667ba05") false cardsBack_said (fun _ h => by cases h) (by kernel_rfl) (fun _ h => by cases h) cardsBack_row_tie rfl ⟨rfl, rfl⟩ (by kernel_rfl) rfl cardsBack_plain (by kernel_rfl)
#print axioms cardsBack_holds
end Go.Proofs.YtgnpcijgdhjfpaaDoor

