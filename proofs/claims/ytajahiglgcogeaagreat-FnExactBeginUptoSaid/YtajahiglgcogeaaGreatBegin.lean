/- The law FnExactBegin returns true for every input whose reading is of bulk at most 1048576, and leaves the input as it was (FnExactBeginUptoSaid). No other condition. -/
import Derived.Test.YtajahiglgcogeaaGreatC
set_option linter.unusedVariables false
set_option linter.unusedSimpArgs false
set_option linter.unnecessarySimpa false
namespace Go.Proofs.YtajahiglgcogeaaGreat
open Go Go.E Go.Proofs Go.RowKit
namespace fnExactBegin
def shapes : List (Bool × List LT) := [(true, esCoord), (false, [.sl esOp])]
theorem run (dss : List (List T)) (h : WtArgs shapes dss) (hb : (dss.map rowBulk).sum ≤ 1048576) :
    ∃ m owns bs, callK CX prims m 3 (mkArgs shapes dss) .ok = .ok ⟨[.one (.sc .bool (.b true))], owns, bs⟩ := by
  simp only [shapes, WtArgs] at h
  obtain ⟨ds, _, rfl, s, d1, _, rfl, s1, rfl⟩ := h
  have s' := s
  unfold esCoord at s
  simp only [WtRow, WtT] at s s1
  obtain ⟨_, _, rfl, ⟨rows, rfl, hr⟩, rfl⟩ := s1
  obtain ⟨_, _, rfl, ⟨N, rfl, -⟩, _, _, rfl, ⟨life, rfl, -⟩, _, _, rfl, ⟨next, rfl, -⟩, _, _, rfl, ⟨a3, rfl, -⟩, _, _, rfl, ⟨a4, rfl, -⟩, _, _, rfl, ⟨sure, rfl, -⟩, rfl⟩ := s
  simp only [List.map_cons, List.map_nil, List.sum_cons, List.sum_nil, Nat.add_zero] at hb
  have hl : rowBulk [.l rows] = rowsBulk rows + 1 := by simp [rowBulk, tbulk]
  rw [hl] at hb
  refine ⟨30000000, [[none, none, none, none, none, none], [none]], [none, none], ?_⟩
  exact (laws_FnExactBegin_g.2 30000000 [.i N, .i life, .i next, .l a3, .l a4, .i sure, .l rows] .ok).trans (fnBegin_ok (Nat.le_refl _) N life next a3 a4 sure rows s' (fun r h => by simpa only [esOp, WtRow, WtT] using hr r h) hb _)

set_option maxRecDepth 100000 in
theorem contract (H : Type) (enc : TypeId × Value → H) (W : World) (base : Nat) (args : Array Value) (ds gs : List (DataW H)) (before : List MemPlace)
    (hval : ∀ (j : Nat) t v, Tryz.f3.params[j]? = some t → args[j]? = some v → Value.okWide Tryz.prog W .any base t v)
    (hW : DataW.Whole enc Tryz.prog Tryz.f3.params.toList Rows.fnExactBeginSpec.vars false W args.toList ds gs before) (hk : Rows.uptoSmall H (ds ++ gs) = true) :
    Calls Tryz.prog 3 args W fun e W' => ∃ v, e = .returned v ∧ Rows.fnExactBeginSpec.post enc Tryz.prog Tryz.f3 false true false false W args v W' := by
  have hN : (1048576 : Nat) ≤ maxCells := by unfold maxCells; omega
  have hu := upto_le hk
  have hrd : ∀ t ∈ Tryz.f3.params.toList, Tryz.prog.readableRec t = true ∧ t < Tryz.prog.types.size := by
    intro t ht
    have : t = 25 ∨ t = 26 := by simpa [Tryz.f3] using ht
    rcases this with rfl | rfl <;> exact ⟨by kernel_rfl, of_decide_eq_true (by kernel_rfl)⟩
  have hs : ∀ (H : Type) (ds : List (DataW H)), ds.length = Tryz.f3.params.size → Rows.fnExactBeginSpec.fn H ds = { results := [.lit (.bool true)], args := ds } := by
    intro H ds hds
    match ds, hds with
    | [d0, d1], _ => rfl
  have hsh : Tryz.f3.params.toList.mapM (shapeOf Tryz.prog 20) = some shapes := by kernel_rfl
  have hres : Tryz.f3.resultTypes = #[4] := by kernel_rfl
  have htb : Tryz.prog.underlying 4 = some .bool := by kernel_rfl
  have hf : (CX.fn 3).isSome = true := by kernel_rfl
  exact law_contract2 (N := 1048576) (s := Rows.fnExactBeginSpec) laid cx_ok prims_ok hf hsh hrd hres htb rfl hs hN (fun dss h hb => run dss h hb) hval hW hu
set_option maxRecDepth 100000 in
theorem lifted (os : Os) (started : os.Started) (H : Type) (enc : TypeId × Value → H) (F : Stop.Interp) :
    ReturnsInHanded {} Tryz.checked os 3 .any ((Rows.OpenSpec.upto Rows.fnExactBeginSpec).pre6 enc Tryz.prog Tryz.f3 Rows.fnExactBeginUptoRow.domain false) (((Rows.OpenSpec.upto Rows.fnExactBeginSpec).at F).post enc Tryz.prog Tryz.f3 false true false false) := by
  refine returnsInHanded_of_cond (C := Tryz.checked) (s := Rows.OpenSpec.upto Rows.fnExactBeginSpec) (k := Rows.uptoSmall) rfl own started (by kernel_rfl) Tryz.func3
    (OpenSpec.witness (enc := enc) (C := Tryz.checked) (s := Rows.OpenSpec.upto Rows.fnExactBeginSpec) (k := Rows.uptoSmall) rfl false ⟨#[], #[.agg #[.int .i64 0, .int .i64 0, .int .i64 0, .slice none 0 0, .slice none 0 0, .int .i64 0], .slice none 0 0], []⟩ 8 (by kernel_rfl) (by kernel_rfl) (by kernel_rfl)
      (x := ([.agg [.lit (.int .i64 0), .lit (.int .i64 0), .lit (.int .i64 0), .nil, .nil, .lit (.int .i64 0)], .nil], [], [])) (by kernel_rfl) rfl (by kernel_rfl)) ?_
  intro W base args ds gs before hval hW _ hk _
  exact contract H enc W base args ds gs before hval hW hk
theorem proved : Rows.FnExactBeginUptoSaid :=
  OpenClaim.holds_of_cond 3 Tryz.f3 rfl rfl rfl rfl rfl rfl rfl ⟨rfl, rfl, rfl, rfl, rfl⟩ rfl rfl rfl rfl rfl (by kernel_rfl) Tryz.func3 (by kernel_rfl)
    (of_decide_eq_true (by kernel_rfl)) (by unfold Func.isWrapper; first | (rw [if_pos (by decide +kernel)]; kernel_rfl) | (rw [if_neg (by decide +kernel)]; exact ⟨rfl, rfl⟩))
    (fun os started H enc _ F => lifted os started H enc F)
end fnExactBegin
end Go.Proofs.YtajahiglgcogeaaGreat

