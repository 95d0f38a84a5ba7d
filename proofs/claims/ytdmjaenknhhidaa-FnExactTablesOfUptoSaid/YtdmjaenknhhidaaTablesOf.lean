/- The law FnExactTablesOf returns true for every input whose reading is of bulk at most 1048576, and leaves the input as it was (FnExactTablesOfUptoSaid). No other condition. -/
import Derived.Test.YtdmjaenknhhidaaW
set_option linter.unusedVariables false
set_option linter.unusedSimpArgs false
set_option linter.unnecessarySimpa false
namespace Go.Proofs.Ytdmjaenknhhidaa
open Go Go.E Go.Proofs Go.RowKit
namespace fnExactTablesOf
def shapes : List (Bool × List LT) := [(true, esWorld)]
theorem run (dss : List (List T)) (h : WtArgs shapes dss) (hb : (dss.map rowBulk).sum ≤ 1048576) :
    ∃ m owns bs, callK CX prims m 4 (mkArgs shapes dss) .ok = .ok ⟨[.one (.sc .bool (.b true))], owns, bs⟩ := by
  simp only [shapes, WtArgs] at h
  obtain ⟨ds, _, rfl, h, rfl⟩ := h
  have h' := h
  unfold esWorld at h
  simp only [WtRow, WtT] at h
  obtain ⟨_, _, rfl, ⟨a0, rfl, -⟩, _, _, rfl, ⟨a1, rfl, -⟩, _, _, rfl, ⟨a2, rfl, -⟩, _, _, rfl, ⟨a3, rfl, -⟩, _, _, rfl, ⟨a4, rfl, -⟩, _, _, rfl, ⟨a5, rfl, -⟩, _, _, rfl, ⟨a6, rfl, -⟩, _, _, rfl, ⟨a7, rfl, -⟩, _, _, rfl, ⟨a8, rfl, -⟩, _, _, rfl, ⟨a9, rfl, -⟩, rfl⟩ := h
  simp only [List.map_cons, List.map_nil, List.sum_cons, List.sum_nil, Nat.add_zero] at hb
  refine ⟨4194304, [[none, none, none, none, none, none, none, none, none, none]], [none], ?_⟩
  exact (laws_FnExactTablesOf_eq 4194304 [.i a0, .i a1, .i a2, .l a3, .l a4, .i a5, .l a6, .l a7, .l a8, .l a9] .ok).trans (fnTablesOf_ok a0 a1 a2 a3 a4 a5 a6 a7 a8 a9 h' hb _)

set_option maxRecDepth 100000 in
theorem contract (H : Type) (enc : TypeId × Value → H) (W : World) (base : Nat) (args : Array Value) (ds gs : List (DataW H)) (before : List MemPlace)
    (hval : ∀ (j : Nat) t v, Try.f4.params[j]? = some t → args[j]? = some v → Value.okWide Try.prog W .any base t v)
    (hW : DataW.Whole enc Try.prog Try.f4.params.toList Rows.fnExactTablesOfSpec.vars false W args.toList ds gs before) (hk : Rows.uptoSmall H (ds ++ gs) = true) :
    Calls Try.prog 4 args W fun e W' => ∃ v, e = .returned v ∧ Rows.fnExactTablesOfSpec.post enc Try.prog Try.f4 false true false false W args v W' := by
  have hN : (1048576 : Nat) ≤ maxCells := by unfold maxCells; omega
  have hu := upto_le hk
  have hrd : ∀ t ∈ Try.f4.params.toList, Try.prog.readableRec t = true ∧ t < Try.prog.types.size := by
    intro t ht
    have : t = 30 := by simpa [Try.f4] using ht
    subst this
    exact ⟨by kernel_rfl, of_decide_eq_true (by kernel_rfl)⟩
  have hs : ∀ (H : Type) (ds : List (DataW H)), ds.length = Try.f4.params.size → Rows.fnExactTablesOfSpec.fn H ds = { results := [.lit (.bool true)], args := ds } := by
    intro H ds hds
    match ds, hds with
    | [d0], _ => rfl
  have hsh : Try.f4.params.toList.mapM (shapeOf Try.prog 20) = some shapes := by kernel_rfl
  have hres : Try.f4.resultTypes = #[4] := by kernel_rfl
  have htb : Try.prog.underlying 4 = some .bool := by kernel_rfl
  have hf : (CX.fn 4).isSome = true := by kernel_rfl
  exact law_contract2 (N := 1048576) (s := Rows.fnExactTablesOfSpec) laid cx_ok prims_ok hf hsh hrd hres htb rfl hs hN (fun dss h hb => run dss h hb) hval hW hu
set_option maxRecDepth 100000 in
theorem lifted (os : Os) (started : os.Started) (H : Type) (enc : TypeId × Value → H) (F : Stop.Interp) :
    ReturnsInHanded {} Try.checked os 4 .any ((Rows.OpenSpec.upto Rows.fnExactTablesOfSpec).pre6 enc Try.prog Try.f4 Rows.fnExactTablesOfUptoRow.domain false) (((Rows.OpenSpec.upto Rows.fnExactTablesOfSpec).at F).post enc Try.prog Try.f4 false true false false) := by
  refine returnsInHanded_of_cond (C := Try.checked) (s := Rows.OpenSpec.upto Rows.fnExactTablesOfSpec) (k := Rows.uptoSmall) rfl own started (by kernel_rfl) Try.func4
    (OpenSpec.witness (enc := enc) (C := Try.checked) (s := Rows.OpenSpec.upto Rows.fnExactTablesOfSpec) (k := Rows.uptoSmall) rfl false ⟨#[], #[.agg #[.int .i64 0, .int .i64 0, .int .i64 0, .slice none 0 0, .slice none 0 0, .int .i64 0, .slice none 0 0, .slice none 0 0, .slice none 0 0, .slice none 0 0]], []⟩ 8 (by kernel_rfl) (by kernel_rfl) (by kernel_rfl)
      (x := ([.agg [.agg [.lit (.int .i64 0), .lit (.int .i64 0), .lit (.int .i64 0), .nil, .nil, .lit (.int .i64 0)], .nil, .nil, .nil, .nil]], [], [])) (by kernel_rfl) rfl (by kernel_rfl)) ?_
  intro W base args ds gs before hval hW _ hk _
  exact contract H enc W base args ds gs before hval hW hk
theorem proved : Rows.FnExactTablesOfUptoSaid :=
  OpenClaim.holds_of_cond 4 Try.f4 rfl rfl rfl rfl rfl rfl rfl ⟨rfl, rfl, rfl, rfl, rfl⟩ rfl rfl rfl rfl rfl (by kernel_rfl) Try.func4 (by kernel_rfl)
    (of_decide_eq_true (by kernel_rfl)) (by unfold Func.isWrapper; first | (rw [if_pos (by decide +kernel)]; kernel_rfl) | (rw [if_neg (by decide +kernel)]; exact ⟨rfl, rfl⟩))
    (fun os started H enc _ F => lifted os started H enc F)
end fnExactTablesOf
end Go.Proofs.Ytdmjaenknhhidaa

