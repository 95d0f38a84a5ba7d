/- The law FnExactMakeBundle returns true for every input whose reading is of bulk at most 1048576, and leaves the input as it was (FnExactMakeBundleUptoSaid). No other condition. -/
import Derived.Test.YtnddpgeeoepkkaaW
set_option linter.unusedVariables false
set_option linter.unusedSimpArgs false
set_option linter.unnecessarySimpa false
namespace Go.Proofs.Ytnddpgeeoepkkaa
open Go Go.E Go.Proofs Go.RowKit
namespace fnExactMakeBundle
def shapes : List (Bool × List LT) := [(true, esSeal), (false, [.sl esTable]), (false, [.sc .str]), (false, [.sc .str])]
theorem run (dss : List (List T)) (h : WtArgs shapes dss) (hb : (dss.map rowBulk).sum ≤ 1048576) :
    ∃ m owns bs, callK CX prims m 3 (mkArgs shapes dss) .ok = .ok ⟨[.one (.sc .bool (.b true))], owns, bs⟩ := by
  simp only [shapes, WtArgs] at h
  obtain ⟨ds, _, rfl, s, d1, _, rfl, s1, d2, _, rfl, s2, d3, _, rfl, s3, rfl⟩ := h
  have s' := s
  unfold esSeal at s
  simp only [WtRow, WtT] at s s1 s2 s3
  obtain ⟨_, _, rfl, ⟨rows, rfl, hr⟩, rfl⟩ := s1
  obtain ⟨_, _, rfl, ⟨lo, rfl, -⟩, rfl⟩ := s2
  obtain ⟨_, _, rfl, ⟨hi, rfl, -⟩, rfl⟩ := s3
  obtain ⟨_, _, rfl, ⟨no, rfl, -⟩, _, _, rfl, ⟨prev, rfl, -⟩, _, _, rfl, ⟨sup, rfl, -⟩, _, _, rfl, ⟨a3, rfl, -⟩, rfl⟩ := s
  simp only [List.map_cons, List.map_nil, List.sum_cons, List.sum_nil, Nat.add_zero] at hb
  have hk : ∀ key : ByteArray, rowBulk [.s key] = key.size + 1 := fun key => by simp [rowBulk, tbulk]
  have hl : rowBulk [.l rows] = rowsBulk rows + 1 := by simp [rowBulk, tbulk]
  rw [hk, hk, hl] at hb
  refine ⟨30000000, [[none, none, none, none], [none], [none], [none]], [none, none, none, none], ?_⟩
  exact (laws_FnExactMakeBundle_g.2 30000000 [.i no, .s prev, .s sup, .l a3, .l rows, .s lo, .s hi] .ok).trans (fnMakeBundle_ok (Nat.le_refl _) no prev sup a3 rows lo hi s' (fun r h => by simpa only [esTable, esPair, WtRow, WtT] using hr r h) (by omega) _)

set_option maxRecDepth 100000 in
theorem contract (H : Type) (enc : TypeId × Value → H) (W : World) (base : Nat) (args : Array Value) (ds gs : List (DataW H)) (before : List MemPlace)
    (hval : ∀ (j : Nat) t v, Try.f3.params[j]? = some t → args[j]? = some v → Value.okWide Try.prog W .any base t v)
    (hW : DataW.Whole enc Try.prog Try.f3.params.toList Rows.fnExactMakeBundleSpec.vars false W args.toList ds gs before) (hk : Rows.uptoSmall H (ds ++ gs) = true) :
    Calls Try.prog 3 args W fun e W' => ∃ v, e = .returned v ∧ Rows.fnExactMakeBundleSpec.post enc Try.prog Try.f3 false true false false W args v W' := by
  have hN : (1048576 : Nat) ≤ maxCells := by unfold maxCells; omega
  have hu := upto_le hk
  have hrd : ∀ t ∈ Try.f3.params.toList, Try.prog.readableRec t = true ∧ t < Try.prog.types.size := by
    intro t ht
    have : t = 24 ∨ t = 25 ∨ t = 9 ∨ t = 9 := by simpa [Try.f3] using ht
    rcases this with rfl | rfl | rfl | rfl <;> exact ⟨by kernel_rfl, of_decide_eq_true (by kernel_rfl)⟩
  have hs : ∀ (H : Type) (ds : List (DataW H)), ds.length = Try.f3.params.size → Rows.fnExactMakeBundleSpec.fn H ds = { results := [.lit (.bool true)], args := ds } := by
    intro H ds hds
    match ds, hds with
    | [d0, d1, d2, d3], _ => rfl
  have hsh : Try.f3.params.toList.mapM (shapeOf Try.prog 20) = some shapes := by kernel_rfl
  have hres : Try.f3.resultTypes = #[4] := by kernel_rfl
  have htb : Try.prog.underlying 4 = some .bool := by kernel_rfl
  have hf : (CX.fn 3).isSome = true := by kernel_rfl
  exact law_contract2 (N := 1048576) (s := Rows.fnExactMakeBundleSpec) laid cx_ok prims_ok hf hsh hrd hres htb rfl hs hN (fun dss h hb => run dss h hb) hval hW hu
set_option maxRecDepth 100000 in
theorem lifted (os : Os) (started : os.Started) (H : Type) (enc : TypeId × Value → H) (F : Stop.Interp) :
    ReturnsInHanded {} Try.checked os 3 .any ((Rows.OpenSpec.upto Rows.fnExactMakeBundleSpec).pre6 enc Try.prog Try.f3 Rows.fnExactMakeBundleUptoRow.domain false) (((Rows.OpenSpec.upto Rows.fnExactMakeBundleSpec).at F).post enc Try.prog Try.f3 false true false false) := by
  refine returnsInHanded_of_cond (C := Try.checked) (s := Rows.OpenSpec.upto Rows.fnExactMakeBundleSpec) (k := Rows.uptoSmall) rfl own started (by kernel_rfl) Try.func3
    (OpenSpec.witness (enc := enc) (C := Try.checked) (s := Rows.OpenSpec.upto Rows.fnExactMakeBundleSpec) (k := Rows.uptoSmall) rfl false ⟨#[], #[.agg #[.int .i64 0, .string .empty, .string .empty, .slice none 0 0], .slice none 0 0, .string .empty, .string .empty], []⟩ 8 (by kernel_rfl) (by kernel_rfl) (by kernel_rfl)
      (x := ([.agg [.lit (.int .i64 0), .lit (.string []), .lit (.string []), .nil], .nil, .lit (.string []), .lit (.string [])], [], [])) (by kernel_rfl) rfl (by kernel_rfl)) ?_
  intro W base args ds gs before hval hW _ hk _
  exact contract H enc W base args ds gs before hval hW hk
theorem proved : Rows.FnExactMakeBundleUptoSaid :=
  OpenClaim.holds_of_cond 3 Try.f3 rfl rfl rfl rfl rfl rfl rfl ⟨rfl, rfl, rfl, rfl, rfl⟩ rfl rfl rfl rfl rfl (by kernel_rfl) Try.func3 (by kernel_rfl)
    (of_decide_eq_true (by kernel_rfl)) (by unfold Func.isWrapper; first | (rw [if_pos (by decide +kernel)]; kernel_rfl) | (rw [if_neg (by decide +kernel)]; exact ⟨rfl, rfl⟩))
    (fun os started H enc _ F => lifted os started H enc F)
end fnExactMakeBundle
end Go.Proofs.Ytnddpgeeoepkkaa

