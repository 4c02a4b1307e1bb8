/- For every input the law CardsMended returns true, and each argument reads afterwards as it read before, in each world whose listed variables hold what the program's text lays in them. No other condition. -/
import Derived.Test.YtgnpcijgdhjfpaaGreatDoorB6

set_option linter.unusedSimpArgs false
set_option linter.unusedVariables false
set_option linter.constructorNameAsVariable false

namespace Go.Proofs.YtgnpcijgdhjfpaaGreatDoor
open Go Go.Abs
open Go.ChangeShapes Go.WideShapes Go.ChangeAt Go.RowKit

theorem cardsMended_laid (os : Os) : laidMet Tryz.prog Rows.cardsMendedRow.laid ((laidWorld os).forCall (fun _ _ => 0) ⟨#[], #[.slice none 0 0, .slice none 0 0], []⟩).memory :=
 laidMet_of_run' 8 (by kernel_rfl) (by kernel_rfl)
theorem cardsMended_reads (os : Os) {H : Type} (enc : TypeId × Value → H) : ∃ places, DataW.whole enc Tryz.prog ((laidWorld os).forCall (fun _ _ => 0) ⟨#[], #[.slice none 0 0, .slice none 0 0], []⟩).memory Tryz.f3.params.toList Rows.cardsMendedSpec.vars false (#[.slice none 0 0, .slice none 0 0] : Array Value).toList 8 = some ([.nil, .nil], [], places) :=
 ⟨[], by kernel_rfl⟩

set_option maxRecDepth 100000 in
theorem cardsMended_lifted (os : Os) (started : os.Started) (H : Type) (enc : TypeId × Value → H) (F : Stop.Interp) :
  ReturnsInHanded {} Tryz.checked os 3 .any ((OpenSpec.ofChange Rows.cardsMendedSpec).preRow enc Tryz.prog Tryz.f3 Rows.cardsMendedRow.domain false Rows.cardsMendedRow.laid) (((OpenSpec.ofChange Rows.cardsMendedSpec).at F).post enc Tryz.prog Tryz.f3 false true false false) := by
 obtain ⟨places, hx⟩ := cardsMended_reads os enc
 refine returnsInHanded_of_row (C := Tryz.checked) (s := OpenSpec.ofChange Rows.cardsMendedSpec) J.own started (by kernel_rfl) Tryz.func3
  (witness_row_at (enc := enc) (C := Tryz.checked) false (laidWorld os) #[.slice none 0 0, .slice none 0 0] rfl (by kernel_rfl) (by kernel_rfl) (by kernel_rfl)
   (OpenSpec.preRow_of_cond 8 hx (by kernel_rfl) (fun k hk => by cases hk) (by kernel_rfl) (cardsMended_laid os))) ?_
 intro W base args ds gs before hval hW _ _ _ hL hsh _
 refine law_contract (P := Tryz.prog) (tb := 4) (by kernel_rfl) J.ub rfl (fun ds hl => ?_) J.laid J.maps J.sized (by kernel_rfl) (by kernel_rfl) (fun cargs hc => ?_) W (J.gk hsh) base args ds gs before hval hW
 ·have h2 : ds.length = 2 := hl
  match ds, h2 with
  | [_, _], _ => rfl
 ·rw [Tryz.params3] at hc
  obtain ⟨nl, L, r, rfl, hd⟩ := argT hc
  obtain ⟨xn, xs, r2, rfl, hd2⟩ := argHm hd
  obtain rfl := argEnd hd2
  exact law3 nl false L xn false xs

theorem cardsMended_said : Rows.CardsMendedSaid :=
 OpenClaim.holds_of_cond 3 Tryz.f3 rfl rfl rfl rfl rfl rfl rfl ⟨rfl, rfl, rfl, rfl, rfl⟩ rfl rfl rfl rfl rfl (by kernel_rfl) Tryz.func3 (by kernel_rfl)
  (of_decide_eq_true (by kernel_rfl)) (by unfold Func.isWrapper; first | (rw [if_pos (by decide +kernel)]; kernel_rfl) | (rw [if_neg (by decide +kernel)]; exact ⟨rfl, rfl⟩))
  (fun os started H enc _ F => by rw [OpenClaim.pre_eq_preRow]; exact cardsMended_lifted os started H enc F)

theorem cardsMended_plain (f : FuncId) (fn : Func) (hf : Tryz.pinned.checked.prog.funcNamed "knurl/knurllaw14.CardsMended" = some f) (hfn : Tryz.pinned.checked.prog.funcs[f]? = some fn) :
  false = Tryz.pinned.checked.prog.looks [] ∧ ∀ (j : Nat) t, fn.params[j]? = some t → Tryz.pinned.checked.prog.wantsStandIn t = false := by
 obtain rfl : f = 3 := Option.some.inj ((show Tryz.prog.funcNamed "knurl/knurllaw14.CardsMended" = some 3 by kernel_rfl).symm.trans hf) |>.symm
 obtain rfl : fn = Tryz.f3 := (Option.some.inj (Tryz.func3.symm.trans hfn)).symm
 refine ⟨by kernel_rfl, fun j t ht => ?_⟩
 rw [Tryz.params3] at ht
 have hm := Array.mem_of_getElem? ht
 simp only [List.mem_toArray, List.mem_cons, List.mem_nil_iff, or_false] at hm
 rcases hm with rfl | rfl
 ·exact (show Tryz.prog.wantsStandIn 22 = false by kernel_rfl)
 ·exact (show Tryz.prog.wantsStandIn 23 = false by kernel_rfl)

theorem cardsMended_holds : Rows.CardsMendedCardSaid :=
 Claim7.holds_tied_plain_at .later [] [.data, .pinned] true (true, "3bde293fce045e9e98ed4d3593ef8bc91ac8063b5b8f01897df6daa7a8a12804") false cardsMended_said (fun _ h => by cases h) (by kernel_rfl) (fun _ h => by cases h) cardsMended_row_tie rfl ⟨rfl, rfl⟩ (by kernel_rfl) rfl cardsMended_plain (by kernel_rfl)
#print axioms cardsMended_holds
end Go.Proofs.YtgnpcijgdhjfpaaGreatDoor

