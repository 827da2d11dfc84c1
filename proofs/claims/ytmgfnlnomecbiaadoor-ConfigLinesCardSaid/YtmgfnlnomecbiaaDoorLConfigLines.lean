/- ConfigLines: leaving out a line of a configuration, repeating one, or exchanging two different ones that are not settings is never accepted. No condition. -/
import Derived.Test.YtmgfnlnomecbiaaDoorKO
import Derived.Test.YtmgfnlnomecbiaaDoorLD
set_option linter.all false
namespace Go.Proofs.YtmgfnlnomecbiaaDoor.lawConfigLines
open Go.Abs Go.CF Go.LD Go.ChangeShapes Go.WideShapes Go.ChangeAt Go.RowKit

set_option maxHeartbeats 4000000
set_option maxRecDepth 100000
theorem args (cs : List (List D)) (h : ShArgs [.st [(1, .sl 2 (.st [(1, .int .i64), (1, .int .i64)])), (1, .int .i64), (1, .int .i64), (1, .int .i64), (1, .int .i64), (1, .int .i64), (8, .st [(2, .st [(1, .int .i64), (1, .int .i64)]), (2, .st [(1, .int .i64), (1, .int .i64)]), (2, .st [(1, .int .i64), (1, .int .i64)]), (2, .st [(1, .int .i64), (1, .int .i64)])]), (1, .int .i64), (1, .int .i64)], .int .i64, .int .i64, .int .i64] cs) : PFn Tryd.prog 12 (argMs [.st [(1, .sl 2 (.st [(1, .int .i64), (1, .int .i64)])), (1, .int .i64), (1, .int .i64), (1, .int .i64), (1, .int .i64), (1, .int .i64), (8, .st [(2, .st [(1, .int .i64), (1, .int .i64)]), (2, .st [(1, .int .i64), (1, .int .i64)]), (2, .st [(1, .int .i64), (1, .int .i64)]), (2, .st [(1, .int .i64), (1, .int .i64)])]), (1, .int .i64), (1, .int .i64)], .int .i64, .int .i64, .int .i64] cs) (.d (.v (.bool true))) := by
  obtain ⟨c0, r0, rfl, h0, h⟩ := args_cons h
  obtain ⟨c1, r1, rfl, h1, h⟩ := args_cons h
  obtain ⟨c2, r2, rfl, h2, h⟩ := args_cons h
  obtain ⟨c3, r3, rfl, h3, h⟩ := args_cons h
  obtain rfl := args_nil h
  obtain ⟨c9, rfl, w0⟩ := sh_cfg h0
  obtain ⟨n1, rfl, w1⟩ := sh_i64 h1
  obtain ⟨n2, rfl, w2⟩ := sh_i64 h2
  obtain ⟨n3, rfl, w3⟩ := sh_i64 h3
  exact lConfigLines c9 w0 n1 n2 n3 w1 w2 w3
theorem shapes : Tryd.f12.params.toList.mapM (tyOf Tryd.prog 9) = some [.st [(1, .sl 2 (.st [(1, .int .i64), (1, .int .i64)])), (1, .int .i64), (1, .int .i64), (1, .int .i64), (1, .int .i64), (1, .int .i64), (8, .st [(2, .st [(1, .int .i64), (1, .int .i64)]), (2, .st [(1, .int .i64), (1, .int .i64)]), (2, .st [(1, .int .i64), (1, .int .i64)]), (2, .st [(1, .int .i64), (1, .int .i64)])]), (1, .int .i64), (1, .int .i64)], .int .i64, .int .i64, .int .i64] := by kernel_rfl
theorem readable : (Tryd.f12.params.toList.all fun t => Tryd.prog.readableRec t && decide (t < Tryd.prog.types.size)) = true := by kernel_rfl
theorem contract (H : Type) (enc : TypeId × Value → H) (W : World) (base : Nat) (xs : Array Value) (ds gs : List (DataW H)) (before : List MemPlace)
    (hval : ∀ (j : Nat) t v, Tryd.f12.params[j]? = some t → xs[j]? = some v → Value.okWide Tryd.prog W .any base t v)
    (hW : DataW.Whole enc Tryd.prog Tryd.f12.params.toList Rows.configLinesSpec.vars false W xs.toList ds gs before) (hL : laidMetH Tryd.prog Rows.configLinesRow.laid W) (hsh : W.ShapedOpen Tryd.prog) :
    Calls Tryd.prog 12 xs W fun e W' => ∃ v, e = .returned v ∧ Rows.configLinesSpec.post enc Tryd.prog Tryd.f12 false true false false W xs v W' := by
  have hL' : laidMet Tryd.prog Rows.configLinesRow.laid W := hL
  refine law_contract (P := Tryd.prog) (fn := Tryd.f12) (s := Rows.configLinesSpec) (n := 9) (tb := 4) laid shapes readable (by kernel_rfl) und4 rfl ?_ args W base xs ds gs before hval hW (laidW hL'.tail.tail hsh)
  intro ds hl
  have hl' : ds.length = 4 := hl
  match ds, hl' with
  | [d0, d1, d2, d3], _ => exact ⟨rfl, rfl, rfl⟩
theorem laid_met (os : Os) : laidMet Tryd.prog Rows.configLinesRow.laid ((laidWorld os).forCall (fun _ _ => 0) ⟨#[], #[.agg #[.slice none 0 0, .int .i64 0, .int .i64 0, .int .i64 0, .int .i64 0, .int .i64 0, .int .i64 0, .int .i64 0, .int .i64 0, .int .i64 0, .int .i64 0, .int .i64 0, .int .i64 0, .int .i64 0, .int .i64 0, .int .i64 0], .int .i64 0, .int .i64 0, .int .i64 0], []⟩).memory :=
  laidMet_of_run' 8 (by kernel_rfl) (by kernel_rfl)
theorem reads (os : Os) {H : Type} (enc : TypeId × Value → H) : ∃ places, DataW.whole enc Tryd.prog ((laidWorld os).forCall (fun _ _ => 0) ⟨#[], #[.agg #[.slice none 0 0, .int .i64 0, .int .i64 0, .int .i64 0, .int .i64 0, .int .i64 0, .int .i64 0, .int .i64 0, .int .i64 0, .int .i64 0, .int .i64 0, .int .i64 0, .int .i64 0, .int .i64 0, .int .i64 0, .int .i64 0], .int .i64 0, .int .i64 0, .int .i64 0], []⟩).memory Tryd.f12.params.toList Rows.configLinesSpec.vars false (#[.agg #[.slice none 0 0, .int .i64 0, .int .i64 0, .int .i64 0, .int .i64 0, .int .i64 0, .int .i64 0, .int .i64 0, .int .i64 0, .int .i64 0, .int .i64 0, .int .i64 0, .int .i64 0, .int .i64 0, .int .i64 0, .int .i64 0], .int .i64 0, .int .i64 0, .int .i64 0] : Array Value).toList 8 = some ([.agg [.nil, .lit (.int .i64 0), .lit (.int .i64 0), .lit (.int .i64 0), .lit (.int .i64 0), .lit (.int .i64 0), .agg [.agg [.lit (.int .i64 0), .lit (.int .i64 0)], .agg [.lit (.int .i64 0), .lit (.int .i64 0)], .agg [.lit (.int .i64 0), .lit (.int .i64 0)], .agg [.lit (.int .i64 0), .lit (.int .i64 0)]], .lit (.int .i64 0), .lit (.int .i64 0)], .lit (.int .i64 0), .lit (.int .i64 0), .lit (.int .i64 0)], [], places) :=
  ⟨[], by kernel_rfl⟩
set_option maxRecDepth 100000 in
theorem lifted (os : Os) (started : os.Started) (H : Type) (enc : TypeId × Value → H) (F : Stop.Interp) :
    ReturnsInHanded {} Tryd.checked os 12 .any ((OpenSpec.ofChange Rows.configLinesSpec).preRow enc Tryd.prog Tryd.f12 Rows.configLinesRow.domain false Rows.configLinesRow.laid) (((OpenSpec.ofChange Rows.configLinesSpec).at F).post enc Tryd.prog Tryd.f12 false true false false) := by
  obtain ⟨places, hx⟩ := reads os enc
  refine returnsInHanded_of_row (C := Tryd.checked) (s := OpenSpec.ofChange Rows.configLinesSpec) own started (by kernel_rfl) Tryd.func12
    (witness_row_at (enc := enc) (C := Tryd.checked) false (laidWorld os) #[.agg #[.slice none 0 0, .int .i64 0, .int .i64 0, .int .i64 0, .int .i64 0, .int .i64 0, .int .i64 0, .int .i64 0, .int .i64 0, .int .i64 0, .int .i64 0, .int .i64 0, .int .i64 0, .int .i64 0, .int .i64 0, .int .i64 0], .int .i64 0, .int .i64 0, .int .i64 0] rfl (by kernel_rfl) (by kernel_rfl) (by kernel_rfl)
      (OpenSpec.preRow_of_cond 8 hx (by kernel_rfl) (fun k hk => by cases hk) (by kernel_rfl) (laid_met os))) ?_
  intro W base xs ds gs before hval hW _ _ _ hL hsh _
  exact contract H enc W base xs ds gs before hval hW hL hsh
theorem facts : joinedFacts Tryd.prog 12 Tryd.f12 Rows.configLinesSpec Rows.configLinesRow = true := by kernel_rfl
theorem said : Rows.ConfigLinesSaid :=
  OpenClaim.holds_of_cond 12 Tryd.f12 rfl rfl rfl rfl rfl rfl rfl ⟨rfl, rfl, rfl, rfl, rfl⟩ rfl rfl rfl rfl rfl (by kernel_rfl) Tryd.func12 facts
    (of_decide_eq_true (by kernel_rfl)) (by unfold Func.isWrapper; first | (rw [if_pos (by decide +kernel)]; kernel_rfl) | (rw [if_neg (by decide +kernel)]; exact ⟨rfl, rfl⟩))
    (fun os started H enc _ F => by rw [OpenClaim.pre_eq_preRow]; exact lifted os started H enc F)
theorem plain (f : FuncId) (fn : Func) (hf : Tryd.pinned.checked.prog.funcNamed "modscan/modscanlaw17.ConfigLines" = some f) (hfn : Tryd.pinned.checked.prog.funcs[f]? = some fn) :
    false = Tryd.pinned.checked.prog.looks [] ∧ ∀ (j : Nat) t, fn.params[j]? = some t → Tryd.pinned.checked.prog.wantsStandIn t = false := by
  obtain rfl : f = 12 := Option.some.inj ((show Tryd.prog.funcNamed "modscan/modscanlaw17.ConfigLines" = some 12 by kernel_rfl).symm.trans hf) |>.symm
  obtain rfl : fn = Tryd.f12 := (Option.some.inj (Tryd.func12.symm.trans hfn)).symm
  refine ⟨by kernel_rfl, fun j t ht => ?_⟩
  have hall : (Tryd.f12.params.toList.all fun t => !Tryd.prog.wantsStandIn t) = true := by kernel_rfl
  rw [List.all_eq_true] at hall
  have h2 : Tryd.prog.wantsStandIn t = false := by
    have := hall t (Array.mem_toList_iff.2 (Array.mem_of_getElem? ht))
    simpa using this
  exact h2
theorem proved : Rows.ConfigLinesCardSaid :=
  Claim7.holds_tied_plain_at .later [] _ _ _ _ said (fun _ h => by cases h) (by kernel_rfl) (fun _ h => by cases h) configLines_row_tie rfl ⟨rfl, rfl⟩ (by kernel_rfl) rfl plain (by kernel_rfl)
end Go.Proofs.YtmgfnlnomecbiaaDoor.lawConfigLines
