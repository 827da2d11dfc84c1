/- TextName: for every string, Name accepts exactly the names of the document. No condition. -/
import Derived.Test.YtahfchfjhgpgfaaDoorT10
import Derived.Test.YtahfchfjhgpgfaaDoorLD
set_option linter.all false
namespace Go.Proofs.YtahfchfjhgpgfaaDoor.lawTextName
open Go.Abs Go.TW Go.LD Go.ChangeShapes Go.WideShapes Go.ChangeAt Go.RowKit

set_option maxHeartbeats 4000000
theorem args (cs : List (List D)) (h : ShArgs [.str] cs) : PFn Tryd.prog 7 (argMs [.str] cs) (.d (.v (.bool true))) := by
  obtain ⟨c0, r0, rfl, h0, h⟩ := args_cons h
  obtain rfl := args_nil h
  obtain ⟨s0, rfl, w0⟩ := sh_str h0
  exact lName s0 w0
theorem shapes : Tryd.f7.params.toList.mapM (tyOf Tryd.prog 9) = some [.str] := by kernel_rfl
theorem readable : (Tryd.f7.params.toList.all fun t => Tryd.prog.readableRec t && decide (t < Tryd.prog.types.size)) = true := by kernel_rfl
theorem contract (H : Type) (enc : TypeId × Value → H) (W : World) (base : Nat) (xs : Array Value) (ds gs : List (DataW H)) (before : List MemPlace)
    (hval : ∀ (j : Nat) t v, Tryd.f7.params[j]? = some t → xs[j]? = some v → Value.okWide Tryd.prog W .any base t v)
    (hW : DataW.Whole enc Tryd.prog Tryd.f7.params.toList Rows.textNameSpec.vars false W xs.toList ds gs before) (hL : laidMetH Tryd.prog Rows.textNameRow.laid W) :
    Calls Tryd.prog 7 xs W fun e W' => ∃ v, e = .returned v ∧ Rows.textNameSpec.post enc Tryd.prog Tryd.f7 false true false false W xs v W' := by
  have hL' : laidMet Tryd.prog Rows.textNameRow.laid W := hL
  refine law_contract (P := Tryd.prog) (fn := Tryd.f7) (s := Rows.textNameSpec) (n := 9) (tb := 4) laid shapes readable (by kernel_rfl) und4 rfl ?_ args W base xs ds gs before hval hW (laidW hL'.tail.tail)
  intro ds hl
  have hl' : ds.length = 1 := hl
  match ds, hl' with
  | [d0], _ => exact ⟨rfl, rfl, rfl⟩
theorem laid_met (os : Os) : laidMet Tryd.prog Rows.textNameRow.laid ((laidWorld os).forCall (fun _ _ => 0) ⟨#[], #[.string .empty], []⟩).memory :=
  laidMet_of_run' 8 (by kernel_rfl) (by kernel_rfl)
theorem reads (os : Os) {H : Type} (enc : TypeId × Value → H) : ∃ places, DataW.whole enc Tryd.prog ((laidWorld os).forCall (fun _ _ => 0) ⟨#[], #[.string .empty], []⟩).memory Tryd.f7.params.toList Rows.textNameSpec.vars false (#[.string .empty] : Array Value).toList 8 = some ([.lit (.string [])], [], places) :=
  ⟨[], by kernel_rfl⟩
set_option maxRecDepth 100000 in
theorem lifted (os : Os) (started : os.Started) (H : Type) (enc : TypeId × Value → H) (F : Stop.Interp) :
    ReturnsInHanded {} Tryd.checked os 7 .any ((OpenSpec.ofChange Rows.textNameSpec).preRow enc Tryd.prog Tryd.f7 Rows.textNameRow.domain false Rows.textNameRow.laid) (((OpenSpec.ofChange Rows.textNameSpec).at F).post enc Tryd.prog Tryd.f7 false true false false) := by
  obtain ⟨places, hx⟩ := reads os enc
  refine returnsInHanded_of_row (C := Tryd.checked) (s := OpenSpec.ofChange Rows.textNameSpec) own started (by kernel_rfl) Tryd.func7
    (witness_row_at (enc := enc) (C := Tryd.checked) false (laidWorld os) #[.string .empty] rfl (by kernel_rfl) (by kernel_rfl) (by kernel_rfl)
      (OpenSpec.preRow_of_cond 8 hx (by kernel_rfl) (fun k hk => by cases hk) (by kernel_rfl) (laid_met os))) ?_
  intro W base xs ds gs before hval hW _ _ _ hL _ _
  exact contract H enc W base xs ds gs before hval hW hL
theorem facts : joinedFacts Tryd.prog 7 Tryd.f7 Rows.textNameSpec Rows.textNameRow = true := by kernel_rfl
theorem said : Rows.TextNameSaid :=
  OpenClaim.holds_of_cond 7 Tryd.f7 rfl rfl rfl rfl rfl rfl rfl ⟨rfl, rfl, rfl, rfl, rfl⟩ rfl rfl rfl rfl rfl (by kernel_rfl) Tryd.func7 facts
    (of_decide_eq_true (by kernel_rfl)) (by unfold Func.isWrapper; first | (rw [if_pos (by decide +kernel)]; kernel_rfl) | (rw [if_neg (by decide +kernel)]; exact ⟨rfl, rfl⟩))
    (fun os started H enc _ F => by rw [OpenClaim.pre_eq_preRow]; exact lifted os started H enc F)
theorem plain (f : FuncId) (fn : Func) (hf : Tryd.pinned.checked.prog.funcNamed "modscan/modscanlaw02.TextName" = some f) (hfn : Tryd.pinned.checked.prog.funcs[f]? = some fn) :
    false = Tryd.pinned.checked.prog.looks [] ∧ ∀ (j : Nat) t, fn.params[j]? = some t → Tryd.pinned.checked.prog.wantsStandIn t = false := by
  obtain rfl : f = 7 := Option.some.inj ((show Tryd.prog.funcNamed "modscan/modscanlaw02.TextName" = some 7 by kernel_rfl).symm.trans hf) |>.symm
  obtain rfl : fn = Tryd.f7 := (Option.some.inj (Tryd.func7.symm.trans hfn)).symm
  refine ⟨by kernel_rfl, fun j t ht => ?_⟩
  have hall : (Tryd.f7.params.toList.all fun t => !Tryd.prog.wantsStandIn t) = true := by kernel_rfl
  rw [List.all_eq_true] at hall
  have h2 : Tryd.prog.wantsStandIn t = false := by
    have := hall t (Array.mem_toList_iff.2 (Array.mem_of_getElem? ht))
    simpa using this
  exact h2
theorem proved : Rows.TextNameCardSaid :=
  Claim7.holds_tied_plain_at .later [] _ _ _ _ said (fun _ h => by cases h) (by kernel_rfl) (fun _ h => by cases h) textName_row_tie rfl ⟨rfl, rfl⟩ (by kernel_rfl) rfl plain (by kernel_rfl)
end Go.Proofs.YtahfchfjhgpgfaaDoor.lawTextName
