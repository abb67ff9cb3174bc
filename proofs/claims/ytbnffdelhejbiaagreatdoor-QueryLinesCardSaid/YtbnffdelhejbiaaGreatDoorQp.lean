/- QueryLines returns true for every query and every text, and both read as they did: the given card. A part of the proof: no condition of mine beyond what each theorem states. -/
import Derived.Test.YtbnffdelhejbiaaGreatDoorQo
import Derived.Test.YtbnffdelhejbiaaGreatDoorCards
import Derived.Test.YtbnffdelhejbiaaGreatDoorTie
import Derived.WalkKit
import Derived.ProofKit
import Derived.OpenShut
import Derived.Deep.DeepHandedRow
import Derived.Deep.DeepWitnessRowRef

namespace Go.Proofs.YtbnffdelhejbiaaGreatDoor
open Go.Tith Go.ChangeShapes Go.RowKit

theorem ownNone : ownKnob Tryz.prog.godebug = none := by kernel_rfl
theorem slFull : ∀ t e, t < Tryz.prog.types.size → Tryz.prog.underlying t = some (.slice e) → 0 < Tryz.prog.cellsOf e := slices_full_of Tryz.prog (by kernel_rfl)
theorem params4L : Tryz.f4.params.toList = [32, 9] := by kernel_rfl

theorem plQ : plainT Tryz.prog (3 + 1 + 1 + 1) 32 = true := by kernel_rfl
theorem plS : plainT Tryz.prog (3 + 1 + 1 + 1) 9 = true := by kernel_rfl
theorem plAll : ∀ t ∈ [32, 9], plainT Tryz.prog (3 + 1 + 1 + 1) t = true := by
  intro t ht
  rw [List.mem_cons, List.mem_singleton] at ht
  rcases ht with h | h
  · rw [h]; exact plQ
  · rw [h]; exact plS
set_option maxRecDepth 100000 in
theorem ql_contract {H : Type} (enc : TypeId × Value → H) (fresh handsOn again : Bool) (W : World) (base : Nat) (args : Array Value) (ds gs : List (DataW H)) (before : List MemPlace)
    (hval : ∀ (j : Nat) t v, Tryz.f4.params[j]? = some t → args[j]? = some v → Value.okWide Tryz.prog W .any base t v)
    (hW : DataW.Whole enc Tryz.prog Tryz.f4.params.toList Rows.queryLinesSpec.vars false W args.toList ds gs before) (hL : laidMetH Tryz.prog Rows.queryLinesRow.laid W) (hsh : W.ShapedOpen Tryz.prog) :
    Calls Tryz.prog 4 args W fun e W' => ∃ v, e = .returned v ∧ Rows.queryLinesSpec.post enc Tryz.prog Tryz.f4 false fresh handsOn again W args v W' := by
  have hW' := hW
  obtain ⟨m, x, y, hx, hy, hG⟩ := gok hL hsh
  obtain ⟨rfl, hdl, ys, hr, hw⟩ := args_rel (P := Tryz.prog) (n := 3 + 1 + 1 + 1) (fn := Tryz.f4) (C := fzBelow W) (fun b hb => fz_K hb) (params4L ▸ plAll) hval hW rfl
  rw [params4L] at hw
  obtain ⟨y1, ys, rfl, w1, hw⟩ := all2_cons hw
  obtain ⟨y2, ys, rfl, w2, hw⟩ := all2_cons hw
  obtain rfl := all2_nil hw
  obtain ⟨qq, rfl, hi, ht⟩ := wt_query w1
  obtain ⟨s, rfl, _⟩ := wt_str Tryz.underlying9 w2
  have hc := (m4 hx hy).2 (fzBelow W) W [quD qq, .str (strL s)] args.toList [.bool true] fz_bare fz_lt hG hr (by rw [s4_eq (qq, s)]; exact chk_eq ⟨hi, ht⟩ rfl)
  rw [Array.toArray_toList] at hc
  refine hc.mono fun e W' ⟨C', v, he, hv, hs, _⟩ => ?_
  obtain rfl : v = .bool true := by simpa [resA, relV, relV1, DV.isAgg, relD] using hv
  have hd : ∃ d1 d2, ds = [d1, d2] := by
    rw [params4L] at hdl
    rcases ds with _ | ⟨d1, _ | ⟨d2, _ | ⟨d3, ds⟩⟩⟩ <;> first | exact ⟨_, _, rfl⟩ | (simp at hdl)
  obtain ⟨d1, d2, rfl⟩ := hd
  exact ⟨_, he, post_true hW' rfl hs (by kernel_rfl) (by kernel_rfl) slFull (by rw [params4L]; intro t ht; simp at ht; rcases ht with rfl | rfl <;> exact of_decide_eq_true (by kernel_rfl)) (tb := 4) (by kernel_rfl) Tryz.underlying4 rfl rfl rfl⟩

/-! ### a world for the witness -/
def flat1 : DataW Unit → List Value
  | .lit (.int k n) => [.int k n]
  | .agg ps => ps.flatMap fun | .lit (.int k n) => [.int k n] | _ => []
  | _ => []
def flat2 : DataW Unit → Array Value
  | .agg ps => (ps.flatMap flat1).toArray
  | _ => #[]
def setc (cs : Array Value) : Obj → Obj
  | .cells _ t fr => .cells cs t fr
  | o => o
def synS : ByteArray := ⟨#[105, 110, 118, 97, 108, 105, 100, 32, 115, 121, 110, 116, 97, 120]⟩
def ranS : ByteArray := ⟨#[118, 97, 108, 117, 101, 32, 111, 117, 116, 32, 111, 102, 32, 114, 97, 110, 103, 101]⟩
noncomputable def lowB : Nat := (World.holding Tryz.prog default ⟨#[], #[], []⟩).heap.size
noncomputable def laidWorld (os : Os) : World :=
  let w0 := World.holding Tryz.prog os ⟨#[.cells #[.string synS] 168, .cells #[.string ranS] 168], #[], []⟩
  { w0 with heap := (((((((w0.heap.modify 0 (setc (flat2 Rows.laid_tithing_sha_constants))).modify 3 (setc (flat2 Rows.laid_internal_strconv_uint64pow10))).modify 4 (setc #[.iface 166 (.pointer (some ⟨lowB, 0, none⟩))])).modify 5 (setc #[.iface 166 (.pointer (some ⟨lowB + 1, 0, none⟩))])).modify 6
      (setc (flat2 Rows.laid_unicode_utf8_first))).modify 7 (setc (flat2 Rows.laid_unicode_utf8_acceptRanges))).modify 8 (setc (flat2 Rows.laid_math_bits_deBruijn32tab))).modify 9 (setc (flat2 Rows.laid_math_bits_deBruijn64tab)) }
noncomputable def qlArgs : Array Value := #[.agg (#[.int .i64 0, .int .i64 0, .string ByteArray.empty] ++ (List.replicate 32 (Value.int .u8 0)).toArray), .string ByteArray.empty]
def qlData {H : Type} : List (DataW H) := [.agg [.lit (.int .i64 0), .lit (.int .i64 0), .lit (.string []), .agg (List.replicate 32 (.lit (.int .u8 0)))], .lit (.string [])]
theorem laid_met (os : Os) : laidMet Tryz.prog Rows.queryLinesRow.laid ((laidWorld os).forCall (fun _ _ => 0) ⟨#[], qlArgs, []⟩).memory :=
  laidMet_of_run' 8 (by kernel_rfl) (by kernel_rfl)
theorem ql_reads (os : Os) {H : Type} (enc : TypeId × Value → H) : ∃ places, DataW.whole enc Tryz.prog ((laidWorld os).forCall (fun _ _ => 0) ⟨#[], qlArgs, []⟩).memory Tryz.f4.params.toList Rows.queryLinesSpec.vars false qlArgs.toList 8 = some (qlData, [], places) :=
  ⟨[], by kernel_rfl⟩

set_option maxRecDepth 100000 in
theorem ql_lifted (os : Os) (started : os.Started) (H : Type) (enc : TypeId × Value → H) (F : Stop.Interp) :
    ReturnsInHanded {} Tryz.checked os 4 .any ((OpenSpec.ofChange Rows.queryLinesSpec).preRow enc Tryz.prog Tryz.f4 Rows.queryLinesRow.domain false Rows.queryLinesRow.laid) (((OpenSpec.ofChange Rows.queryLinesSpec).at F).post enc Tryz.prog Tryz.f4 false true false false) := by
  obtain ⟨places, hx⟩ := ql_reads os enc
  refine returnsInHanded_of_row (C := Tryz.checked) (s := OpenSpec.ofChange Rows.queryLinesSpec) ownNone started (by kernel_rfl) Tryz.func4
    (witness_row_atRef (enc := enc) (C := Tryz.checked) false (laidWorld os) qlArgs rfl (by kernel_rfl) (by kernel_rfl) (by kernel_rfl)
      (OpenSpec.preRow_of_cond 8 hx (by kernel_rfl) (fun k hk => by cases hk) (by kernel_rfl) (laid_met os))) ?_
  intro W base args ds gs before hval hW _ _ _ hL hsh _
  exact ql_contract enc true false false W base args ds gs before hval hW hL hsh

theorem ql_said : Rows.QueryLinesSaid :=
  OpenClaim.holds_of_cond 4 Tryz.f4 rfl rfl rfl rfl rfl rfl rfl ⟨rfl, rfl, rfl, rfl, rfl⟩ rfl rfl rfl rfl rfl (by kernel_rfl) Tryz.func4 (by kernel_rfl)
    (of_decide_eq_true (by kernel_rfl)) (by unfold Func.isWrapper; first | (rw [if_pos (by decide +kernel)]; kernel_rfl) | (rw [if_neg (by decide +kernel)]; exact ⟨rfl, rfl⟩))
    (fun os started H enc _ F => by rw [OpenClaim.pre_eq_preRow]; exact ql_lifted os started H enc F)

/-- No parameter wants a stand-in; the program's own looks are off. -/
theorem ql_plain (f : FuncId) (fn : Func) (hf : Tryz.pinned.checked.prog.funcNamed "tithing/tithinglaw28.QueryLines" = some f) (hfn : Tryz.pinned.checked.prog.funcs[f]? = some fn) :
    true = Tryz.pinned.checked.prog.looks [] ∧ ∀ (j : Nat) t, fn.params[j]? = some t → Tryz.pinned.checked.prog.wantsStandIn t = false := by
  obtain rfl : f = 4 := Option.some.inj ((show Tryz.prog.funcNamed "tithing/tithinglaw28.QueryLines" = some 4 by kernel_rfl).symm.trans hf) |>.symm
  obtain rfl : fn = Tryz.f4 := (Option.some.inj (Tryz.func4.symm.trans hfn)).symm
  refine ⟨by kernel_rfl, fun j t ht => ?_⟩
  have ht' : t ∈ Tryz.f4.params.toList := List.mem_of_getElem? (i := j) (by simpa using ht)
  rw [params4L] at ht'
  simp at ht'
  rcases ht' with rfl | rfl
  · exact (show Tryz.prog.wantsStandIn 32 = false by kernel_rfl)
  · exact (show Tryz.prog.wantsStandIn 9 = false by kernel_rfl)

theorem queryLines_card : Rows.QueryLinesCardSaid :=
  Claim7.holds_tied_plain_at .later [] _ _ _ _ ql_said (fun _ h => by cases h) (by kernel_rfl) (fun _ h => by cases h) queryLines_row_tie rfl ⟨rfl, rfl⟩ (by kernel_rfl) rfl ql_plain (by kernel_rfl)
end Go.Proofs.YtbnffdelhejbiaaGreatDoor
