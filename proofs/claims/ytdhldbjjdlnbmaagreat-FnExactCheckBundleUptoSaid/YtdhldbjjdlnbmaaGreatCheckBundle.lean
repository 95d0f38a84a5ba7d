/- The law FnExactCheckBundle returns true for every input whose reading is of bulk at most 1048576, and leaves the input as it was (FnExactCheckBundleUptoSaid). No other condition. -/
import Derived.Test.YtdhldbjjdlnbmaaGreatW
set_option linter.unusedVariables false
set_option linter.unusedSimpArgs false
set_option linter.unnecessarySimpa false
namespace Go.Proofs.YtdhldbjjdlnbmaaGreat
open Go Go.E Go.Proofs Go.RowKit
namespace fnExactCheckBundle
def shapes : List (Bool × List LT) := [(false, [.sc .str]), (false, [.sc .str]), (false, [.sc .str]), (true, esBundle)]
theorem run (dss : List (List T)) (h : WtArgs shapes dss) (hb : (dss.map rowBulk).sum ≤ 1048576) :
    ∃ m owns bs, callK CX prims m 3 (mkArgs shapes dss) .ok = .ok ⟨[.one (.sc .bool (.b true))], owns, bs⟩ := by
  simp only [shapes, WtArgs] at h
  obtain ⟨d0, _, rfl, s0, d1, _, rfl, s1, d2, _, rfl, s2, ds, _, rfl, h, rfl⟩ := h
  have h' := h
  unfold esBundle at h
  simp only [WtRow, WtT] at h s0 s1 s2
  obtain ⟨_, _, rfl, ⟨sup, rfl, -⟩, rfl⟩ := s0
  obtain ⟨_, _, rfl, ⟨lo, rfl, -⟩, rfl⟩ := s1
  obtain ⟨_, _, rfl, ⟨hi, rfl, -⟩, rfl⟩ := s2
  obtain ⟨_, _, rfl, ⟨no, rfl, -⟩, _, _, rfl, ⟨prev, rfl, -⟩, _, _, rfl, ⟨a2, rfl, -⟩, _, _, rfl, ⟨a3, rfl, -⟩, rfl⟩ := h
  simp only [List.map_cons, List.map_nil, List.sum_cons, List.sum_nil, Nat.add_zero] at hb
  have hk : ∀ key : ByteArray, rowBulk [.s key] = key.size + 1 := fun key => by simp [rowBulk, tbulk]
  rw [hk, hk, hk] at hb
  refine ⟨30000000, [[none], [none], [none], [none, none, none, none]], [none, none, none, none], ?_⟩
  exact (W_FnExactCheckBundle_eq 30000000 [.s sup, .s lo, .s hi, .i no, .s prev, .l a2, .l a3] .ok).trans (fnCheckBundle_ok (Nat.le_refl _) sup lo hi no prev a2 a3 h' (by omega) _)
set_option maxRecDepth 100000 in
theorem contract (H : Type) (enc : TypeId × Value → H) (W : World) (base : Nat) (args : Array Value) (ds gs : List (DataW H)) (before : List MemPlace)
    (hval : ∀ (j : Nat) t v, Tryz.f3.params[j]? = some t → args[j]? = some v → Value.okWide Tryz.prog W .any base t v)
    (hW : DataW.Whole enc Tryz.prog Tryz.f3.params.toList Rows.fnExactCheckBundleSpec.vars false W args.toList ds gs before) (hk : Rows.uptoSmall H (ds ++ gs) = true) :
    Calls Tryz.prog 3 args W fun e W' => ∃ v, e = .returned v ∧ Rows.fnExactCheckBundleSpec.post enc Tryz.prog Tryz.f3 false true false false W args v W' := by
  have hN : (1048576 : Nat) ≤ maxCells := by unfold maxCells; omega
  have hu := upto_le hk
  have hrd : ∀ t ∈ Tryz.f3.params.toList, Tryz.prog.readableRec t = true ∧ t < Tryz.prog.types.size := by
    intro t ht
    have : t = 9 ∨ t = 9 ∨ t = 9 ∨ t = 25 := by simpa [Tryz.f3] using ht
    rcases this with rfl | rfl | rfl | rfl <;> exact ⟨by kernel_rfl, of_decide_eq_true (by kernel_rfl)⟩
  have hs : ∀ (H : Type) (ds : List (DataW H)), ds.length = Tryz.f3.params.size → Rows.fnExactCheckBundleSpec.fn H ds = { results := [.lit (.bool true)], args := ds } := by
    intro H ds hds
    match ds, hds with
    | [d0, d1, d2, d3], _ => rfl
  have hsh : Tryz.f3.params.toList.mapM (shapeOf Tryz.prog 20) = some shapes := by kernel_rfl
  have hres : Tryz.f3.resultTypes = #[4] := by kernel_rfl
  have htb : Tryz.prog.underlying 4 = some .bool := by kernel_rfl
  have hf : (CX.fn 3).isSome = true := by kernel_rfl
  exact law_contract2 (N := 1048576) (s := Rows.fnExactCheckBundleSpec) laid cx_ok prims_ok hf hsh hrd hres htb rfl hs hN (fun dss h hb => run dss h hb) hval hW hu
set_option maxRecDepth 100000 in
theorem lifted (os : Os) (started : os.Started) (H : Type) (enc : TypeId × Value → H) (F : Stop.Interp) :
    ReturnsInHanded {} Tryz.checked os 3 .any ((Rows.OpenSpec.upto Rows.fnExactCheckBundleSpec).pre6 enc Tryz.prog Tryz.f3 Rows.fnExactCheckBundleUptoRow.domain false) (((Rows.OpenSpec.upto Rows.fnExactCheckBundleSpec).at F).post enc Tryz.prog Tryz.f3 false true false false) := by
  refine returnsInHanded_of_cond (C := Tryz.checked) (s := Rows.OpenSpec.upto Rows.fnExactCheckBundleSpec) (k := Rows.uptoSmall) rfl own started (by kernel_rfl) Tryz.func3
    (OpenSpec.witness (enc := enc) (C := Tryz.checked) (s := Rows.OpenSpec.upto Rows.fnExactCheckBundleSpec) (k := Rows.uptoSmall) rfl false ⟨#[], #[.string .empty, .string .empty, .string .empty, .agg #[.int .i64 0, .string .empty, .slice none 0 0, .slice none 0 0]], []⟩ 8 (by kernel_rfl) (by kernel_rfl) (by kernel_rfl)
      (x := ([.lit (.string []), .lit (.string []), .lit (.string []), .agg [.lit (.int .i64 0), .lit (.string []), .nil, .nil]], [], [])) (by kernel_rfl) rfl (by kernel_rfl)) ?_
  intro W base args ds gs before hval hW _ hk _
  exact contract H enc W base args ds gs before hval hW hk
theorem proved : Rows.FnExactCheckBundleUptoSaid :=
  OpenClaim.holds_of_cond 3 Tryz.f3 rfl rfl rfl rfl rfl rfl rfl ⟨rfl, rfl, rfl, rfl, rfl⟩ rfl rfl rfl rfl rfl (by kernel_rfl) Tryz.func3 (by kernel_rfl)
    (of_decide_eq_true (by kernel_rfl)) (by unfold Func.isWrapper; first | (rw [if_pos (by decide +kernel)]; kernel_rfl) | (rw [if_neg (by decide +kernel)]; exact ⟨rfl, rfl⟩))
    (fun os started H enc _ F => lifted os started H enc F)
end fnExactCheckBundle
end Go.Proofs.YtdhldbjjdlnbmaaGreat

