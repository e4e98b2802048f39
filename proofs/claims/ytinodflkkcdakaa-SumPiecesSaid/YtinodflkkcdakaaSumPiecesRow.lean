/- However a text is cut its sum is the same, and goes on from any cut. For every input; no conditions. -/
import Derived.Test.YtinodflkkcdakaaRows
import Derived.Test.YtinodflkkcdakaaSumPieces0
import Derived.Test.YtinodflkkcdakaaOpen
import Derived.ProofKit
import Derived.OpenShut
import Derived.ChangeOld
namespace Go.Proofs.Ytinodflkkcdakaa.sumPieces
open Go.ChangeShapes Go.WideShapes Go.ChangeAt Go.RowKit Go.Proofs.Ytinodflkkcdakaa
set_option linter.unusedVariables false
theorem own : ownKnob Try.prog.godebug = none := by kernel_rfl
theorem laidOut : laidOutB Try.prog = true := by kernel_rfl
def kAsk2 : Kd (List ByteArray) := kIso (kSl kStr) 24 (fun x => x)
theorem op_ask2 : Op Try.prog kAsk2 24 :=
  op_struct (fun x => x) (fun _ => rfl) Try.underlying24 (by kernel_rfl) (opF_one rfl (by kernel_rfl) (op_sl Try.underlying22 (by kernel_rfl) (by decide) (by kernel_rfl) (op_str Try.underlying9)))
theorem rd_ask2 {w : World} {x : List ByteArray} {cs : Array Value} (h : Rd kAsk2 w x (.agg cs)) : ∃ v, Rd (kSl kStr) w x v ∧ cs = #[v] := by
  obtain ⟨cs', e, hk⟩ := h
  injection e with e
  subst e
  obtain ⟨A, c, e, h1, h2, h3, h4⟩ := hk
  exact ⟨.slice A x.length c, rd_sl.2 ⟨A, c, rfl, h1, h2, h3, h4⟩, Array.toList_inj.1 e⟩
set_option maxRecDepth 100000 in
theorem lifted (os : Os) (started : os.Started) (H : Type) (enc : TypeId × Value → H) :
    ReturnsInHanded {} Try.checked os 5 .any (Rows.sumPiecesSpec.pre6 enc Try.prog Try.f5 Rows.sumPiecesRow.domain false) (Rows.sumPiecesSpec.post enc Try.prog Try.f5 false true false false) := by
  refine returnsInHanded_of_change_sized (C := Try.checked) own started (by kernel_rfl) Try.func5
    (ChangeSpec.witness6 (enc := enc) (C := Try.checked) false ⟨#[], #[.agg #[.slice none 0 0]], []⟩ 8 (by kernel_rfl) (by kernel_rfl) (by kernel_rfl) (by kernel_rfl)) ?_
  intro W base args ds gs before hval0 hW hcnd hsz0 _
  have hsz : (DataW.weightsEach Try.prog (Try.f5.params.toList ++ Rows.sumPiecesSpec.plain.varTypes Try.prog) (ds ++ gs)).all (· ≤ reachBytes) = true := hsz0
  have hval : ∀ (j : Nat) t v, Try.f5.params[j]? = some t → args[j]? = some v → Value.okWide Try.prog W .any base t v := hval0
  have hW' := hW
  obtain ⟨p, q, hA0, hV, rfl, hfz, hnd⟩ := hW
  have hA : DataW.TrodAll enc Try.prog W 0 (fun _ => true) true Try.f5.params.toList args.toList ds p := hA0
  rw [Try.params5] at hA hval hsz
  obtain ⟨v0, vs0, d0, ds0, p0, q0, hargs, rfl, rfl, h0, r0⟩ := trodAll_cons hA
  obtain ⟨rfl, rfl, rfl⟩ := trodAll_nil r0
  obtain rfl : args = #[v0] := by cases args; simp_all
  obtain ⟨rfl, rfl⟩ := trodVars_none hV
  have lt0 : ∀ x ∈ p0, x.block < W.heap.size := by obtain ⟨m, hm⟩ := h0; exact DataW.trod_lt m _ _ _ hm
  obtain ⟨cs, rfl⟩ := agg_of_ok Try.underlying24 (hval 0 _ _ rfl rfl)
  have k0 := h0
  obtain ⟨x, hx⟩ := rd_of_trod (k := kAsk2) rfl op_ask2 h0 (weights_first hsz)
  clear hA0 hval0 hsz0 hsz
  obtain ⟨v, hv, rfl⟩ := rd_ask2 hx
  refine (sumPieces_ok x v W hv).mono fun e W' ⟨he, bel⟩ => ?_
  subst he
  exact ⟨_, rfl, _, _, _, [], _, [], hW', trodAll_mk1 (shut_bool Try.underlying4 _), (trodAll_cons_mk (Below.trod laidOut (by kernel_rfl) (of_decide_eq_true (by kernel_rfl)) k0 bel lt0) trodAll_mk0), rfl, bel.frame _, fun h => by cases h⟩
theorem over : Rows.sumPiecesRow.holds Try.pinned (OpenSpec.ofChange Rows.sumPiecesSpec) :=
  OpenClaim.holds_of_wide 5 Try.f5 rfl rfl rfl rfl rfl rfl rfl ⟨rfl, rfl, rfl, rfl, rfl⟩ rfl rfl rfl rfl rfl (by kernel_rfl) Try.func5 (by kernel_rfl)
    (of_decide_eq_true (by kernel_rfl)) (by unfold Func.isWrapper; first | (rw [if_pos (by decide +kernel)]; kernel_rfl) | (rw [if_neg (by decide +kernel)]; exact ⟨rfl, rfl⟩))
    (fun os started H enc _ => lifted os started H enc)
end Go.Proofs.Ytinodflkkcdakaa.sumPieces
namespace Go.Proofs.Ytinodflkkcdakaa
/-- The row. -/
theorem sumPieces_holds : Rows.SumPiecesSaid := sumPieces.over
end Go.Proofs.Ytinodflkkcdakaa
