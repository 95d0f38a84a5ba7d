/- A part of the proof: texts BP: see the last part's opening words. -/
import Derived.Test.YtajahiglgcogeaaGreatH
set_option linter.unusedVariables false
set_option linter.unusedSimpArgs false
set_option linter.unnecessarySimpa false
namespace Go.Proofs.YtajahiglgcogeaaGreat
open Go Go.E Go.Proofs
def slices_Clone___impl_Op_impl_Op_ : Nat → T → (T → An) → An
  | 0, _, _ => .bad
  | m + 1, x0, k0 => cond (decide (x0.rows.length * 3 ≤ maxRow)) (k0 (T.l x0.rows)) .bad
noncomputable def slices_Clone___impl_Op_impl_Op__a : List Arg := [.one (.dz [.sc (.int .i64), .sc (.str), .sc (.str)] [])]
def slices_Clone___impl_Op_impl_Op__w (m : Nat) (vs : List T) (k : Ret → An) : An := slices_Clone___impl_Op_impl_Op_ m (vs.headD dflt) (fun z0 => k ⟨[.one (.own [7000000] [.sc (.int .i64), .sc (.str), .sc (.str)] [.F, .F, .F] z0.rows)], [[none]], []⟩)
theorem slices_Clone___impl_Op_impl_Op__eq (m : Nat) : ∀ vs k, callK CX prims m 49 (fArgs slices_Clone___impl_Op_impl_Op__a vs) k = slices_Clone___impl_Op_impl_Op__w m vs k := by
  intro vs k
  cases m with
  | zero => rfl
  | succ m =>
    refine Eq.trans (b := ((primClone [.sc (.int .i64), .sc (.str), .sc (.str)]) (fArgs slices_Clone___impl_Op_impl_Op__a vs)).bind k) (by kernel_rfl) ?_
    refine Eq.trans (b := (cond (decide ((vs.headD dflt).rows.length * 3 ≤ maxRow)) (R3.ok ⟨[.one (.own [7000000] [.sc (.int .i64), .sc (.str), .sc (.str)] [.F, .F, .F] (vs.headD dflt).rows)], [[none]], []⟩) .bad).bind k) (by kernel_rfl) ?_
    rw [cond_bind]; rfl

noncomputable def slices_Clone___impl_Op_impl_Op__f : Fs := ⟨49, slices_Clone___impl_Op_impl_Op__a, slices_Clone___impl_Op_impl_Op__w⟩
noncomputable def slices_Clone___impl_Op_impl_Op__t : List Fs := slices_Clone___impl_Op_impl_Op__f :: []
theorem slices_Clone___impl_Op_impl_Op__g : FGood CX prims slices_Clone___impl_Op_impl_Op__t ∧ FEqn CX prims slices_Clone___impl_Op_impl_Op__f := ⟨good_cons good_nil (x := slices_Clone___impl_Op_impl_Op__f) slices_Clone___impl_Op_impl_Op__eq, slices_Clone___impl_Op_impl_Op__eq⟩
def slices_Clone___int_int_ : Nat → T → (T → An) → An
  | 0, _, _ => .bad
  | m + 1, x0, k0 => cond (decide (x0.rows.length * 1 ≤ maxRow)) (k0 (T.l x0.rows)) .bad
noncomputable def slices_Clone___int_int__a : List Arg := [.one (.dz [.sc (.int .i64)] [])]
def slices_Clone___int_int__w (m : Nat) (vs : List T) (k : Ret → An) : An := slices_Clone___int_int_ m (vs.headD dflt) (fun z0 => k ⟨[.one (.own [7000000] [.sc (.int .i64)] [.F] z0.rows)], [[none]], []⟩)
theorem slices_Clone___int_int__eq (m : Nat) : ∀ vs k, callK CX prims m 50 (fArgs slices_Clone___int_int__a vs) k = slices_Clone___int_int__w m vs k := by
  intro vs k
  cases m with
  | zero => rfl
  | succ m =>
    refine Eq.trans (b := ((primClone [.sc (.int .i64)]) (fArgs slices_Clone___int_int__a vs)).bind k) (by kernel_rfl) ?_
    refine Eq.trans (b := (cond (decide ((vs.headD dflt).rows.length * 1 ≤ maxRow)) (R3.ok ⟨[.one (.own [7000000] [.sc (.int .i64)] [.F] (vs.headD dflt).rows)], [[none]], []⟩) .bad).bind k) (by kernel_rfl) ?_
    rw [cond_bind]; rfl

noncomputable def slices_Clone___int_int__f : Fs := ⟨50, slices_Clone___int_int__a, slices_Clone___int_int__w⟩
noncomputable def slices_Clone___int_int__t : List Fs := slices_Clone___int_int__f :: slices_Clone___impl_Op_impl_Op__t
theorem slices_Clone___int_int__g : FGood CX prims slices_Clone___int_int__t ∧ FEqn CX prims slices_Clone___int_int__f := ⟨good_cons slices_Clone___impl_Op_impl_Op__g.1 (x := slices_Clone___int_int__f) slices_Clone___int_int__eq, slices_Clone___int_int__eq⟩
def slices_Clone___impl_Choice_impl_Choice_ : Nat → T → (T → An) → An
  | 0, _, _ => .bad
  | m + 1, x0, k0 => cond (decide (x0.rows.length * 2 ≤ maxRow)) (k0 (T.l x0.rows)) .bad
noncomputable def slices_Clone___impl_Choice_impl_Choice__a : List Arg := [.one (.dz [.sc (.int .i64), .sc (.bool)] [])]
def slices_Clone___impl_Choice_impl_Choice__w (m : Nat) (vs : List T) (k : Ret → An) : An := slices_Clone___impl_Choice_impl_Choice_ m (vs.headD dflt) (fun z0 => k ⟨[.one (.own [7000000] [.sc (.int .i64), .sc (.bool)] [.F, .F] z0.rows)], [[none]], []⟩)
theorem slices_Clone___impl_Choice_impl_Choice__eq (m : Nat) : ∀ vs k, callK CX prims m 51 (fArgs slices_Clone___impl_Choice_impl_Choice__a vs) k = slices_Clone___impl_Choice_impl_Choice__w m vs k := by
  intro vs k
  cases m with
  | zero => rfl
  | succ m =>
    refine Eq.trans (b := ((primClone [.sc (.int .i64), .sc (.bool)]) (fArgs slices_Clone___impl_Choice_impl_Choice__a vs)).bind k) (by kernel_rfl) ?_
    refine Eq.trans (b := (cond (decide ((vs.headD dflt).rows.length * 2 ≤ maxRow)) (R3.ok ⟨[.one (.own [7000000] [.sc (.int .i64), .sc (.bool)] [.F, .F] (vs.headD dflt).rows)], [[none]], []⟩) .bad).bind k) (by kernel_rfl) ?_
    rw [cond_bind]; rfl

noncomputable def slices_Clone___impl_Choice_impl_Choice__f : Fs := ⟨51, slices_Clone___impl_Choice_impl_Choice__a, slices_Clone___impl_Choice_impl_Choice__w⟩
noncomputable def slices_Clone___impl_Choice_impl_Choice__t : List Fs := slices_Clone___impl_Choice_impl_Choice__f :: slices_Clone___int_int__t
theorem slices_Clone___impl_Choice_impl_Choice__g : FGood CX prims slices_Clone___impl_Choice_impl_Choice__t ∧ FEqn CX prims slices_Clone___impl_Choice_impl_Choice__f := ⟨good_cons slices_Clone___int_int__g.1 (x := slices_Clone___impl_Choice_impl_Choice__f) slices_Clone___impl_Choice_impl_Choice__eq, slices_Clone___impl_Choice_impl_Choice__eq⟩
def slices_Sort : Nat → T → (T → An) → An
  | 0, _, _ => .bad
  | m + 1, x0, k0 => k0 (T.l (sortRows x0.rows))
noncomputable def slices_Sort_a : List Arg := [.one (.own [.sc (.int .i64)] [.F] [])]
def slices_Sort_w (m : Nat) (vs : List T) (k : Ret → An) : An := slices_Sort m (vs.headD dflt) (fun z0 => k ⟨[], [[some ([.sc (.int .i64)], [.F], z0.rows)]], []⟩)
theorem slices_Sort_eq (m : Nat) : ∀ vs k, callK CX prims m 74 (fArgs slices_Sort_a vs) k = slices_Sort_w m vs k := by
  intro vs k
  cases m with
  | zero => rfl
  | succ m =>
    refine Eq.trans (b := (primSort (fArgs slices_Sort_a vs)).bind k) (by kernel_rfl) ?_
    rfl

noncomputable def slices_Sort_f : Fs := ⟨74, slices_Sort_a, slices_Sort_w⟩
noncomputable def slices_Sort_t : List Fs := slices_Sort_f :: slices_Clone___impl_Choice_impl_Choice__t
theorem slices_Sort_g : FGood CX prims slices_Sort_t ∧ FEqn CX prims slices_Sort_f := ⟨good_cons slices_Clone___impl_Choice_impl_Choice__g.1 (x := slices_Sort_f) slices_Sort_eq, slices_Sort_eq⟩
def slices_Compact : Nat → T → (T → An) → An
  | 0, _, _ => .bad
  | m + 1, x0, k0 => k0 (T.l (compactRows x0.rows))
noncomputable def slices_Compact_a : List Arg := [.one (.own [.sc (.int .i64)] [.F] [])]
def slices_Compact_w (m : Nat) (vs : List T) (k : Ret → An) : An := slices_Compact m (vs.headD dflt) (fun z0 => k ⟨[.one (.own [7000000] [.sc (.int .i64)] [.F] z0.rows)], [[none]], []⟩)
theorem slices_Compact_eq (m : Nat) : ∀ vs k, callK CX prims m 76 (fArgs slices_Compact_a vs) k = slices_Compact_w m vs k := by
  intro vs k
  cases m with
  | zero => rfl
  | succ m =>
    refine Eq.trans (b := (primCompact (fArgs slices_Compact_a vs)).bind k) (by kernel_rfl) ?_
    rfl

noncomputable def slices_Compact_f : Fs := ⟨76, slices_Compact_a, slices_Compact_w⟩
noncomputable def slices_Compact_t : List Fs := slices_Compact_f :: slices_Sort_t
theorem slices_Compact_g : FGood CX prims slices_Compact_t ∧ FEqn CX prims slices_Compact_f := ⟨good_cons slices_Sort_g.1 (x := slices_Compact_f) slices_Compact_eq, slices_Compact_eq⟩
/-! loop.example/g00244/laws.szOp -/
noncomputable def laws_szOp : Nat → T → T → T → T → (T → An) → An
  | 0, _, _, _, _, _ => .bad
  | m + 1, x0, x1, x2, x3, k0 =>
    cond (decide ((IntKind.i64.wrap (x3.int - (x1.str.size : Int))) < 0))
    (k0 (T.i (-1)))
    (cond (decide ((IntKind.i64.wrap ((IntKind.i64.wrap (x3.int - (x1.str.size : Int))) - (x2.str.size : Int))) < 0))
    (k0 (T.i (-1)))
    (k0 (T.i (IntKind.i64.wrap ((IntKind.i64.wrap (x3.int - (x1.str.size : Int))) - (x2.str.size : Int))))))
noncomputable def laws_szOp_f : Fs := ⟨20, [.agg [AI, AS, AS], .one (AI)], fun m vs k => ap 4 (laws_szOp m) vs (lm 1 fun z => k (fRet ⟨[.one (RI)], [[none, none, none], [none]], [none, none]⟩ z))⟩
noncomputable def laws_szOp_t : List Fs := laws_szOp_f :: slices_Compact_t
theorem laws_szOp_g : FGood CX prims laws_szOp_t ∧ FEqn CX prims laws_szOp_f := fnG slices_Compact_g.1 laws_szOp_f Tryz.f20 ⟨20, 2, 20, 16⟩ [] (fun _ _ => rfl) (fun _ _ _ => by kernel_rfl) trivial trivial (fun _ _ _ _ _ => by kernel_rfl)

/-! loop.example/g00244/laws.szOpS -/
noncomputable def laws_szOpS_L0_0 (m : Nat) : Nat → T → T → T → (T → An) → (T → An) → An
  | 0, _, _, _, _, _ => .bad
  | n + 1, x0, x1, x2, k0, k1 =>
    cond (decide (x2.int < (x0.rows.length : Int)))
    (cond (decide ((0 : Int) ≤ x2.int ∧ x2.int < (x0.rows.length : Int)))
    (laws_szOp m ((x0.rows.getD (Int.toNat x2.int) []).getD 0 dflt) ((x0.rows.getD (Int.toNat x2.int) []).getD 1 dflt) ((x0.rows.getD (Int.toNat x2.int) []).getD 2 dflt) x1
    (fun y0 => cond (decide (y0.int < 0))
    (k0 (T.i (-1)))
    (laws_szOpS_L0_0 m n x0 y0 (T.i (IntKind.i64.wrap (x2.int + 1))) k0 k1)))
    (.bad))
    (k1 x1)
noncomputable def laws_szOpS : Nat → T → T → (T → An) → An
  | 0, _, _, _ => .bad
  | m + 1, x0, x1, k0 =>
    cond (decide ((IntKind.i64.wrap (x1.int - (x0.rows.length : Int))) < 0))
    (k0 (T.i (-1)))
    (laws_szOpS_L0_0 m m (T.l x0.rows) (T.i (IntKind.i64.wrap (x1.int - (x0.rows.length : Int)))) (T.i 0)
    (fun y1 => k0 y1)
    (fun y2 => k0 y2))
noncomputable def laws_szOpS_f : Fs := ⟨5, [.one (.dz [.sc (.int .i64), .sc (.str), .sc (.str)] []), .one (AI)], fun m vs k => ap 2 (laws_szOpS m) vs (lm 1 fun z => k (fRet ⟨[.one (RI)], [[none], [none]], [none, none]⟩ z))⟩
noncomputable def laws_szOpS_l : List Ls := [⟨[0, 1, 0, 1, 1, 1], ⟨[(0, .one (LD [.sc (.int .i64), .sc (.str), .sc (.str)])), (1, .one (LI)), (5, .one (LI))], [([4000000], .gone)]⟩, fun m n vs k => ap 3 (laws_szOpS_L0_0 m n) vs (lm 1 fun z => k .ret (fPack ⟨[(4, .one (LI))], []⟩ z)) (lm 1 fun z => k (.exit 0) (fPack ⟨[(1, .one (LI))], []⟩ z))⟩]
noncomputable def laws_szOpS_t : List Fs := laws_szOpS_f :: laws_szOp_t
theorem laws_szOpS_g : FGood CX prims laws_szOpS_t ∧ FEqn CX prims laws_szOpS_f := fnG laws_szOp_g.1 laws_szOpS_f Tryz.f5 ⟨5, 2, 27, 16⟩ laws_szOpS_l (fun _ _ => rfl) (fun _ _ _ => by kernel_rfl) ⟨fun _ _ _ => rfl, trivial⟩ ⟨fun _ _ _ _ _ _ => by kernel_rfl, trivial⟩ (fun _ _ _ _ _ => by kernel_rfl)

/-! loop.example/g00244/laws.szIntS -/
noncomputable def laws_szIntS : Nat → T → T → (T → An) → An
  | 0, _, _, _ => .bad
  | m + 1, x0, x1, k0 =>
    cond (decide ((IntKind.i64.wrap (x1.int - (x0.rows.length : Int))) < 0))
    (k0 (T.i (-1)))
    (k0 (T.i (IntKind.i64.wrap (x1.int - (x0.rows.length : Int)))))
noncomputable def laws_szIntS_f : Fs := ⟨63, [.one (.dz [.sc (.int .i64)] []), .one (AI)], fun m vs k => ap 2 (laws_szIntS m) vs (lm 1 fun z => k (fRet ⟨[.one (RI)], [[none], [none]], [none, none]⟩ z))⟩
noncomputable def laws_szIntS_t : List Fs := laws_szIntS_f :: laws_szOpS_t
theorem laws_szIntS_g : FGood CX prims laws_szIntS_t ∧ FEqn CX prims laws_szIntS_f := fnG laws_szOpS_g.1 laws_szIntS_f Tryz.f63 ⟨63, 2, 12, 16⟩ [] (fun _ _ => rfl) (fun _ _ _ => by kernel_rfl) trivial trivial (fun _ _ _ _ _ => by kernel_rfl)

/-! loop.example/g00244/laws.szJob -/
noncomputable def laws_szJob : Nat → T → T → T → T → T → (T → An) → An
  | 0, _, _, _, _, _, _ => .bad
  | m + 1, x0, x1, x2, x3, x4, k0 =>
    laws_szOpS m (T.l x1.rows) x4
    (fun y0 => cond (decide (y0.int < 0))
    (k0 (T.i (-1)))
    (laws_szIntS m (T.l x3.rows) y0
    (fun y1 => cond (decide (y1.int < 0))
    (k0 (T.i (-1)))
    (k0 y1))))
noncomputable def laws_szJob_f : Fs := ⟨40, [.agg [AI, .dz [.sc (.int .i64), .sc (.str), .sc (.str)] [], AI, .dz [.sc (.int .i64)] []], .one (AI)], fun m vs k => ap 5 (laws_szJob m) vs (lm 1 fun z => k (fRet ⟨[.one (RI)], [[none, none, none, none], [none]], [none, none]⟩ z))⟩
noncomputable def laws_szJob_t : List Fs := laws_szJob_f :: laws_szIntS_t
theorem laws_szJob_g : FGood CX prims laws_szJob_t ∧ FEqn CX prims laws_szJob_f := fnG laws_szIntS_g.1 laws_szJob_f Tryz.f40 ⟨40, 2, 18, 16⟩ [] (fun _ _ => rfl) (fun _ _ _ => by kernel_rfl) trivial trivial (fun _ _ _ _ _ => by kernel_rfl)

/-! loop.example/g00244/laws.szJobS -/
noncomputable def laws_szJobS_L0_0 (m : Nat) : Nat → T → T → T → (T → An) → (T → An) → An
  | 0, _, _, _, _, _ => .bad
  | n + 1, x0, x1, x2, k0, k1 =>
    cond (decide (x2.int < (x0.rows.length : Int)))
    (cond (decide ((0 : Int) ≤ x2.int ∧ x2.int < (x0.rows.length : Int)))
    (laws_szJob m ((x0.rows.getD (Int.toNat x2.int) []).getD 0 dflt) (T.l ((x0.rows.getD (Int.toNat x2.int) []).getD 1 dflt).rows) ((x0.rows.getD (Int.toNat x2.int) []).getD 2 dflt) (T.l ((x0.rows.getD (Int.toNat x2.int) []).getD 3 dflt).rows) x1
    (fun y0 => cond (decide (y0.int < 0))
    (k0 (T.i (-1)))
    (laws_szJobS_L0_0 m n x0 y0 (T.i (IntKind.i64.wrap (x2.int + 1))) k0 k1)))
    (.bad))
    (k1 x1)
noncomputable def laws_szJobS : Nat → T → T → (T → An) → An
  | 0, _, _, _ => .bad
  | m + 1, x0, x1, k0 =>
    cond (decide ((IntKind.i64.wrap (x1.int - (x0.rows.length : Int))) < 0))
    (k0 (T.i (-1)))
    (laws_szJobS_L0_0 m m (T.l x0.rows) (T.i (IntKind.i64.wrap (x1.int - (x0.rows.length : Int)))) (T.i 0)
    (fun y1 => k0 y1)
    (fun y2 => k0 y2))
noncomputable def laws_szJobS_f : Fs := ⟨18, [.one (.dz [.sc (.int .i64), .sl [.sc (.int .i64), .sc (.str), .sc (.str)], .sc (.int .i64), .sl [.sc (.int .i64)]] []), .one (AI)], fun m vs k => ap 2 (laws_szJobS m) vs (lm 1 fun z => k (fRet ⟨[.one (RI)], [[none], [none]], [none, none]⟩ z))⟩
noncomputable def laws_szJobS_l : List Ls := [⟨[0, 1, 0, 1, 1, 1], ⟨[(0, .one (LD [.sc (.int .i64), .sl [.sc (.int .i64), .sc (.str), .sc (.str)], .sc (.int .i64), .sl [.sc (.int .i64)]])), (1, .one (LI)), (5, .one (LI))], [([4000000], .gone)]⟩, fun m n vs k => ap 3 (laws_szJobS_L0_0 m n) vs (lm 1 fun z => k .ret (fPack ⟨[(4, .one (LI))], []⟩ z)) (lm 1 fun z => k (.exit 0) (fPack ⟨[(1, .one (LI))], []⟩ z))⟩]
noncomputable def laws_szJobS_t : List Fs := laws_szJobS_f :: laws_szJob_t
theorem laws_szJobS_g : FGood CX prims laws_szJobS_t ∧ FEqn CX prims laws_szJobS_f := fnG laws_szJob_g.1 laws_szJobS_f Tryz.f18 ⟨18, 2, 27, 16⟩ laws_szJobS_l (fun _ _ => rfl) (fun _ _ _ => by kernel_rfl) ⟨fun _ _ _ => rfl, trivial⟩ ⟨fun _ _ _ _ _ _ => by kernel_rfl, trivial⟩ (fun _ _ _ _ _ => by kernel_rfl)

/-! loop.example/g00244/laws.szChoiceS -/
noncomputable def laws_szChoiceS : Nat → T → T → (T → An) → An
  | 0, _, _, _ => .bad
  | m + 1, x0, x1, k0 =>
    cond (decide ((IntKind.i64.wrap (x1.int - (x0.rows.length : Int))) < 0))
    (k0 (T.i (-1)))
    (k0 (T.i (IntKind.i64.wrap (x1.int - (x0.rows.length : Int)))))
noncomputable def laws_szChoiceS_f : Fs := ⟨19, [.one (.dz [.sc (.int .i64), .sc (.bool)] []), .one (AI)], fun m vs k => ap 2 (laws_szChoiceS m) vs (lm 1 fun z => k (fRet ⟨[.one (RI)], [[none], [none]], [none, none]⟩ z))⟩
noncomputable def laws_szChoiceS_t : List Fs := laws_szChoiceS_f :: laws_szJobS_t
theorem laws_szChoiceS_g : FGood CX prims laws_szChoiceS_t ∧ FEqn CX prims laws_szChoiceS_f := fnG laws_szJobS_g.1 laws_szChoiceS_f Tryz.f19 ⟨19, 2, 12, 16⟩ [] (fun _ _ => rfl) (fun _ _ _ => by kernel_rfl) trivial trivial (fun _ _ _ _ _ => by kernel_rfl)

/-! loop.example/g00244/laws.szCoord -/
noncomputable def laws_szCoord : Nat → T → T → T → T → T → T → T → (T → An) → An
  | 0, _, _, _, _, _, _, _, _ => .bad
  | m + 1, x0, x1, x2, x3, x4, x5, x6, k0 =>
    laws_szJobS m (T.l x3.rows) x6
    (fun y0 => cond (decide (y0.int < 0))
    (k0 (T.i (-1)))
    (laws_szChoiceS m (T.l x4.rows) y0
    (fun y1 => cond (decide (y1.int < 0))
    (k0 (T.i (-1)))
    (k0 y1))))
noncomputable def laws_szCoord_f : Fs := ⟨4, [.agg [AI, AI, AI, .dz [.sc (.int .i64), .sl [.sc (.int .i64), .sc (.str), .sc (.str)], .sc (.int .i64), .sl [.sc (.int .i64)]] [], .dz [.sc (.int .i64), .sc (.bool)] [], AI], .one (AI)], fun m vs k => ap 7 (laws_szCoord m) vs (lm 1 fun z => k (fRet ⟨[.one (RI)], [[none, none, none, none, none, none], [none]], [none, none]⟩ z))⟩
noncomputable def laws_szCoord_t : List Fs := laws_szCoord_f :: laws_szChoiceS_t
theorem laws_szCoord_g : FGood CX prims laws_szCoord_t ∧ FEqn CX prims laws_szCoord_f := fnG laws_szChoiceS_g.1 laws_szCoord_f Tryz.f4 ⟨4, 2, 18, 16⟩ [] (fun _ _ => rfl) (fun _ _ _ => by kernel_rfl) trivial trivial (fun _ _ _ _ _ => by kernel_rfl)

/-! loop.example/g00244/laws.toOp -/
noncomputable def laws_toOp : Nat → T → T → T → (T → T → T → An) → An
  | 0, _, _, _, _ => .bad
  | m + 1, x0, x1, x2, k0 =>
    k0 x0 x1 x2
noncomputable def laws_toOp_f : Fs := ⟨26, [.agg [AI, AS, AS]], fun m vs k => ap 3 (laws_toOp m) vs (lm 3 fun z => k (fRet ⟨[.agg [RI, RS, RS]], [[none, none, none]], [none]⟩ z))⟩
noncomputable def laws_toOp_t : List Fs := laws_toOp_f :: laws_szCoord_t
theorem laws_toOp_g : FGood CX prims laws_toOp_t ∧ FEqn CX prims laws_toOp_f := fnG laws_szCoord_g.1 laws_toOp_f Tryz.f26 ⟨26, 1, 14, 4⟩ [] (fun _ _ => rfl) (fun _ _ _ => by kernel_rfl) trivial trivial (fun _ _ _ _ _ => by kernel_rfl)

/-! loop.example/g00244/laws.toOpS -/
noncomputable def laws_toOpS_L0_0 (m : Nat) : Nat → T → T → T → (T → An) → An
  | 0, _, _, _, _ => .bad
  | n + 1, x0, x1, x2, k0 =>
    cond (decide (x1.int < (x0.rows.length : Int)))
    (cond (decide ((0 : Int) ≤ x1.int ∧ x1.int < (x0.rows.length : Int)))
    (laws_toOp m ((x0.rows.getD (Int.toNat x1.int) []).getD 0 dflt) ((x0.rows.getD (Int.toNat x1.int) []).getD 1 dflt) ((x0.rows.getD (Int.toNat x1.int) []).getD 2 dflt)
    (fun y0 y1 y2 => cond (decide ((0 : Int) ≤ x1.int ∧ x1.int < (x2.rows.length : Int)))
    (cond (decide ((Int.toNat x1.int) < x2.rows.length))
    (laws_toOpS_L0_0 m n x0 (T.i (IntKind.i64.wrap (x1.int + 1))) (T.l (x2.rows.set (Int.toNat x1.int) ((((x2.rows.getD (Int.toNat x1.int) []).set 0 y0).set 1 y1).set 2 y2))) k0)
    (.bad))
    (.bad)))
    (.bad))
    (k0 (T.l x2.rows))
noncomputable def laws_toOpS : Nat → T → (T → An) → An
  | 0, _, _ => .bad
  | m + 1, x0, k0 =>
    cond (decide (0 ≤ (x0.rows.length : Int) ∧ (x0.rows.length : Int) ≤ (x0.rows.length : Int)))
    (cond (decide ((x0.rows.length : Int) * ((40 : Nat) : Int) ≤ (maxCells : Int)))
    (laws_toOpS_L0_0 m m (T.l x0.rows) (T.i 0) (T.l (List.replicate (Int.toNat (x0.rows.length : Int)) [(T.i 0), (T.s (⟨#[]⟩ : ByteArray)), (T.s (⟨#[]⟩ : ByteArray))]))
    (fun y3 => k0 (T.l y3.rows)))
    (.bad))
    (.bad)
noncomputable def laws_toOpS_f : Fs := ⟨8, [.one (.dz [.sc (.int .i64), .sc (.str), .sc (.str)] [])], fun m vs k => ap 1 (laws_toOpS m) vs (lm 1 fun z => k (fRet ⟨[.one (.own (KR 0 0) [.sc (.int .i64), .sc (.str), .sc (.str)] [.F, .F, .F] [])], [[none]], [none]⟩ z))⟩
noncomputable def laws_toOpS_l : List Ls := [⟨[0, 1, 0, 1, 1], ⟨[(0, .one (LD [.sc (.int .i64), .sc (.str), .sc (.str)])), (3, .one (LA (KI 1) [.sc (.int .i64), .sc (.str), .sc (.str)])), (4, .one (LI))], [([4000000], .gone), ((KI 1), .row [.sc (.int .i64), .sc (.str), .sc (.str)] [.F, .F, .F] [])]⟩, fun m n vs k => ap 3 (laws_toOpS_L0_0 m n) vs (lm 1 fun z => k (.exit 0) (fPack ⟨[(3, .one (LA (KI 0) [.sc (.int .i64), .sc (.str), .sc (.str)]))], [((KI 0), .row [.sc (.int .i64), .sc (.str), .sc (.str)] [.F, .F, .F] [])]⟩ z))⟩]
noncomputable def laws_toOpS_t : List Fs := laws_toOpS_f :: laws_toOp_t
theorem laws_toOpS_g : FGood CX prims laws_toOpS_t ∧ FEqn CX prims laws_toOpS_f := fnG laws_toOp_g.1 laws_toOpS_f Tryz.f8 ⟨8, 1, 23, 4⟩ laws_toOpS_l (fun _ _ => rfl) (fun _ _ _ => by kernel_rfl) ⟨fun _ _ _ => rfl, trivial⟩ ⟨fun _ _ _ _ _ _ => by kernel_rfl, trivial⟩ (fun _ _ _ _ _ => by kernel_rfl)

/-! loop.example/g00244/laws.toIntS -/
noncomputable def laws_toIntS_L0_0 (m : Nat) : Nat → T → T → T → (T → An) → An
  | 0, _, _, _, _ => .bad
  | n + 1, x0, x1, x2, k0 =>
    cond (decide (x1.int < (x0.rows.length : Int)))
    (cond (decide ((0 : Int) ≤ x1.int ∧ x1.int < (x0.rows.length : Int)))
    (cond (decide ((0 : Int) ≤ x1.int ∧ x1.int < (x2.rows.length : Int)))
    (cond (decide ((Int.toNat x1.int) < x2.rows.length))
    (laws_toIntS_L0_0 m n x0 (T.i (IntKind.i64.wrap (x1.int + 1))) (T.l (x2.rows.set (Int.toNat x1.int) ((x2.rows.getD (Int.toNat x1.int) []).set 0 ((x0.rows.getD (Int.toNat x1.int) []).getD 0 dflt)))) k0)
    (.bad))
    (.bad))
    (.bad))
    (k0 (T.l x2.rows))
noncomputable def laws_toIntS : Nat → T → (T → An) → An
  | 0, _, _ => .bad
  | m + 1, x0, k0 =>
    cond (decide (0 ≤ (x0.rows.length : Int) ∧ (x0.rows.length : Int) ≤ (x0.rows.length : Int)))
    (cond (decide ((x0.rows.length : Int) * ((8 : Nat) : Int) ≤ (maxCells : Int)))
    (laws_toIntS_L0_0 m m (T.l x0.rows) (T.i 0) (T.l (List.replicate (Int.toNat (x0.rows.length : Int)) [(T.i 0)]))
    (fun y0 => k0 (T.l y0.rows)))
    (.bad))
    (.bad)
noncomputable def laws_toIntS_f : Fs := ⟨68, [.one (.dz [.sc (.int .i64)] [])], fun m vs k => ap 1 (laws_toIntS m) vs (lm 1 fun z => k (fRet ⟨[.one (.own (KR 0 0) [.sc (.int .i64)] [.F] [])], [[none]], [none]⟩ z))⟩
noncomputable def laws_toIntS_l : List Ls := [⟨[0, 1, 0, 1, 1], ⟨[(0, .one (LD [.sc (.int .i64)])), (3, .one (LA (KI 1) [.sc (.int .i64)])), (4, .one (LI))], [([4000000], .gone), ((KI 1), .row [.sc (.int .i64)] [.F] [])]⟩, fun m n vs k => ap 3 (laws_toIntS_L0_0 m n) vs (lm 1 fun z => k (.exit 0) (fPack ⟨[(3, .one (LA (KI 0) [.sc (.int .i64)]))], [((KI 0), .row [.sc (.int .i64)] [.F] [])]⟩ z))⟩]
noncomputable def laws_toIntS_t : List Fs := laws_toIntS_f :: laws_toOpS_t
theorem laws_toIntS_g : FGood CX prims laws_toIntS_t ∧ FEqn CX prims laws_toIntS_f := fnG laws_toOpS_g.1 laws_toIntS_f Tryz.f68 ⟨68, 1, 22, 4⟩ laws_toIntS_l (fun _ _ => rfl) (fun _ _ _ => by kernel_rfl) ⟨fun _ _ _ => rfl, trivial⟩ ⟨fun _ _ _ _ _ _ => by kernel_rfl, trivial⟩ (fun _ _ _ _ _ => by kernel_rfl)

/-! loop.example/g00244/laws.toJob -/
noncomputable def laws_toJob : Nat → T → T → T → T → (T → T → T → T → An) → An
  | 0, _, _, _, _, _ => .bad
  | m + 1, x0, x1, x2, x3, k0 =>
    laws_toOpS m (T.l x1.rows)
    (fun y0 => laws_toIntS m (T.l x3.rows)
    (fun y1 => k0 x0 (T.l y0.rows) x2 (T.l y1.rows)))
noncomputable def laws_toJob_f : Fs := ⟨47, [.agg [AI, .dz [.sc (.int .i64), .sc (.str), .sc (.str)] [], AI, .dz [.sc (.int .i64)] []]], fun m vs k => ap 4 (laws_toJob m) vs (lm 4 fun z => k (fRet ⟨[.agg [RI, .own (KR 0 1) [.sc (.int .i64), .sc (.str), .sc (.str)] [.F, .F, .F] [], RI, .own (KR 0 3) [.sc (.int .i64)] [.F] []]], [[none, none, none, none]], [none]⟩ z))⟩
noncomputable def laws_toJob_t : List Fs := laws_toJob_f :: laws_toIntS_t
theorem laws_toJob_g : FGood CX prims laws_toJob_t ∧ FEqn CX prims laws_toJob_f := fnG laws_toIntS_g.1 laws_toJob_f Tryz.f47 ⟨47, 1, 19, 4⟩ [] (fun _ _ => rfl) (fun _ _ _ => by kernel_rfl) trivial trivial (fun _ _ _ _ _ => by kernel_rfl)

/-! loop.example/g00244/laws.toJobS -/
noncomputable def laws_toJobS_L0_0 (m : Nat) : Nat → T → T → T → (T → An) → An
  | 0, _, _, _, _ => .bad
  | n + 1, x0, x1, x2, k0 =>
    cond (decide (x1.int < (x0.rows.length : Int)))
    (cond (decide ((0 : Int) ≤ x1.int ∧ x1.int < (x0.rows.length : Int)))
    (laws_toJob m ((x0.rows.getD (Int.toNat x1.int) []).getD 0 dflt) (T.l ((x0.rows.getD (Int.toNat x1.int) []).getD 1 dflt).rows) ((x0.rows.getD (Int.toNat x1.int) []).getD 2 dflt) (T.l ((x0.rows.getD (Int.toNat x1.int) []).getD 3 dflt).rows)
    (fun y0 y1 y2 y3 => cond (decide ((0 : Int) ≤ x1.int ∧ x1.int < (x2.rows.length : Int)))
    (cond (decide ((Int.toNat x1.int) < x2.rows.length))
    (laws_toJobS_L0_0 m n x0 (T.i (IntKind.i64.wrap (x1.int + 1))) (T.l (x2.rows.set (Int.toNat x1.int) (((((x2.rows.getD (Int.toNat x1.int) []).set 0 y0).set 1 (T.l y1.rows)).set 2 y2).set 3 (T.l y3.rows)))) k0)
    (.bad))
    (.bad)))
    (.bad))
    (k0 (T.l x2.rows))
noncomputable def laws_toJobS : Nat → T → (T → An) → An
  | 0, _, _ => .bad
  | m + 1, x0, k0 =>
    cond (decide (0 ≤ (x0.rows.length : Int) ∧ (x0.rows.length : Int) ≤ (x0.rows.length : Int)))
    (cond (decide ((x0.rows.length : Int) * ((64 : Nat) : Int) ≤ (maxCells : Int)))
    (laws_toJobS_L0_0 m m (T.l x0.rows) (T.i 0) (T.l (List.replicate (Int.toNat (x0.rows.length : Int)) [(T.i 0), (T.l []), (T.i 0), (T.l [])]))
    (fun y4 => k0 (T.l y4.rows)))
    (.bad))
    (.bad)
noncomputable def laws_toJobS_f : Fs := ⟨24, [.one (.dz [.sc (.int .i64), .sl [.sc (.int .i64), .sc (.str), .sc (.str)], .sc (.int .i64), .sl [.sc (.int .i64)]] [])], fun m vs k => ap 1 (laws_toJobS m) vs (lm 1 fun z => k (fRet ⟨[.one (.own (KR 0 0) [.sc (.int .i64), .sl [.sc (.int .i64), .sc (.str), .sc (.str)], .sc (.int .i64), .sl [.sc (.int .i64)]] [.F, .O [.F, .F, .F], .F, .O [.F]] [])], [[none]], [none]⟩ z))⟩
noncomputable def laws_toJobS_l : List Ls := [⟨[0, 1, 0, 1, 1], ⟨[(0, .one (LD [.sc (.int .i64), .sl [.sc (.int .i64), .sc (.str), .sc (.str)], .sc (.int .i64), .sl [.sc (.int .i64)]])), (3, .one (LA (KI 1) [.sc (.int .i64), .sl [.sc (.int .i64), .sc (.str), .sc (.str)], .sc (.int .i64), .sl [.sc (.int .i64)]])), (4, .one (LI))], [([4000000], .gone), ((KI 1), .row [.sc (.int .i64), .sl [.sc (.int .i64), .sc (.str), .sc (.str)], .sc (.int .i64), .sl [.sc (.int .i64)]] [.F, .O [.F, .F, .F], .F, .O [.F]] [])]⟩, fun m n vs k => ap 3 (laws_toJobS_L0_0 m n) vs (lm 1 fun z => k (.exit 0) (fPack ⟨[(3, .one (LA (KI 0) [.sc (.int .i64), .sl [.sc (.int .i64), .sc (.str), .sc (.str)], .sc (.int .i64), .sl [.sc (.int .i64)]]))], [((KI 0), .row [.sc (.int .i64), .sl [.sc (.int .i64), .sc (.str), .sc (.str)], .sc (.int .i64), .sl [.sc (.int .i64)]] [.F, .O [.F, .F, .F], .F, .O [.F]] [])]⟩ z))⟩]
noncomputable def laws_toJobS_t : List Fs := laws_toJobS_f :: laws_toJob_t
theorem laws_toJobS_g : FGood CX prims laws_toJobS_t ∧ FEqn CX prims laws_toJobS_f := fnG laws_toJob_g.1 laws_toJobS_f Tryz.f24 ⟨24, 1, 23, 4⟩ laws_toJobS_l (fun _ _ => rfl) (fun _ _ _ => by kernel_rfl) ⟨fun _ _ _ => rfl, trivial⟩ ⟨fun _ _ _ _ _ _ => by kernel_rfl, trivial⟩ (fun _ _ _ _ _ => by kernel_rfl)

/-! loop.example/g00244/laws.toChoice -/
noncomputable def laws_toChoice : Nat → T → T → (T → T → An) → An
  | 0, _, _, _ => .bad
  | m + 1, x0, x1, k0 =>
    k0 x0 x1
noncomputable def laws_toChoice_f : Fs := ⟨48, [.agg [AI, AB]], fun m vs k => ap 2 (laws_toChoice m) vs (lm 2 fun z => k (fRet ⟨[.agg [RI, RB]], [[none, none]], [none]⟩ z))⟩
noncomputable def laws_toChoice_t : List Fs := laws_toChoice_f :: laws_toJobS_t
theorem laws_toChoice_g : FGood CX prims laws_toChoice_t ∧ FEqn CX prims laws_toChoice_f := fnG laws_toJobS_g.1 laws_toChoice_f Tryz.f48 ⟨48, 1, 11, 4⟩ [] (fun _ _ => rfl) (fun _ _ _ => by kernel_rfl) trivial trivial (fun _ _ _ _ _ => by kernel_rfl)

/-! loop.example/g00244/laws.toChoiceS -/
noncomputable def laws_toChoiceS_L0_0 (m : Nat) : Nat → T → T → T → (T → An) → An
  | 0, _, _, _, _ => .bad
  | n + 1, x0, x1, x2, k0 =>
    cond (decide (x1.int < (x0.rows.length : Int)))
    (cond (decide ((0 : Int) ≤ x1.int ∧ x1.int < (x0.rows.length : Int)))
    (laws_toChoice m ((x0.rows.getD (Int.toNat x1.int) []).getD 0 dflt) ((x0.rows.getD (Int.toNat x1.int) []).getD 1 dflt)
    (fun y0 y1 => cond (decide ((0 : Int) ≤ x1.int ∧ x1.int < (x2.rows.length : Int)))
    (cond (decide ((Int.toNat x1.int) < x2.rows.length))
    (laws_toChoiceS_L0_0 m n x0 (T.i (IntKind.i64.wrap (x1.int + 1))) (T.l (x2.rows.set (Int.toNat x1.int) (((x2.rows.getD (Int.toNat x1.int) []).set 0 y0).set 1 y1))) k0)
    (.bad))
    (.bad)))
    (.bad))
    (k0 (T.l x2.rows))
noncomputable def laws_toChoiceS : Nat → T → (T → An) → An
  | 0, _, _ => .bad
  | m + 1, x0, k0 =>
    cond (decide (0 ≤ (x0.rows.length : Int) ∧ (x0.rows.length : Int) ≤ (x0.rows.length : Int)))
    (cond (decide ((x0.rows.length : Int) * ((16 : Nat) : Int) ≤ (maxCells : Int)))
    (laws_toChoiceS_L0_0 m m (T.l x0.rows) (T.i 0) (T.l (List.replicate (Int.toNat (x0.rows.length : Int)) [(T.i 0), (T.b false)]))
    (fun y2 => k0 (T.l y2.rows)))
    (.bad))
    (.bad)
noncomputable def laws_toChoiceS_f : Fs := ⟨25, [.one (.dz [.sc (.int .i64), .sc (.bool)] [])], fun m vs k => ap 1 (laws_toChoiceS m) vs (lm 1 fun z => k (fRet ⟨[.one (.own (KR 0 0) [.sc (.int .i64), .sc (.bool)] [.F, .F] [])], [[none]], [none]⟩ z))⟩
noncomputable def laws_toChoiceS_l : List Ls := [⟨[0, 1, 0, 1, 1], ⟨[(0, .one (LD [.sc (.int .i64), .sc (.bool)])), (3, .one (LA (KI 1) [.sc (.int .i64), .sc (.bool)])), (4, .one (LI))], [([4000000], .gone), ((KI 1), .row [.sc (.int .i64), .sc (.bool)] [.F, .F] [])]⟩, fun m n vs k => ap 3 (laws_toChoiceS_L0_0 m n) vs (lm 1 fun z => k (.exit 0) (fPack ⟨[(3, .one (LA (KI 0) [.sc (.int .i64), .sc (.bool)]))], [((KI 0), .row [.sc (.int .i64), .sc (.bool)] [.F, .F] [])]⟩ z))⟩]
noncomputable def laws_toChoiceS_t : List Fs := laws_toChoiceS_f :: laws_toChoice_t
theorem laws_toChoiceS_g : FGood CX prims laws_toChoiceS_t ∧ FEqn CX prims laws_toChoiceS_f := fnG laws_toChoice_g.1 laws_toChoiceS_f Tryz.f25 ⟨25, 1, 23, 4⟩ laws_toChoiceS_l (fun _ _ => rfl) (fun _ _ _ => by kernel_rfl) ⟨fun _ _ _ => rfl, trivial⟩ ⟨fun _ _ _ _ _ _ => by kernel_rfl, trivial⟩ (fun _ _ _ _ _ => by kernel_rfl)

/-! loop.example/g00244/laws.toCoord -/
noncomputable def laws_toCoord : Nat → T → T → T → T → T → T → (T → T → T → T → T → T → An) → An
  | 0, _, _, _, _, _, _, _ => .bad
  | m + 1, x0, x1, x2, x3, x4, x5, k0 =>
    laws_toJobS m (T.l x3.rows)
    (fun y0 => laws_toChoiceS m (T.l x4.rows)
    (fun y1 => k0 x0 x1 x2 (T.l y0.rows) (T.l y1.rows) x5))
noncomputable def laws_toCoord_f : Fs := ⟨7, [.agg [AI, AI, AI, .dz [.sc (.int .i64), .sl [.sc (.int .i64), .sc (.str), .sc (.str)], .sc (.int .i64), .sl [.sc (.int .i64)]] [], .dz [.sc (.int .i64), .sc (.bool)] [], AI]], fun m vs k => ap 6 (laws_toCoord m) vs (lm 6 fun z => k (fRet ⟨[.agg [RI, RI, RI, .own (KR 0 3) [.sc (.int .i64), .sl [.sc (.int .i64), .sc (.str), .sc (.str)], .sc (.int .i64), .sl [.sc (.int .i64)]] [.F, .O [.F, .F, .F], .F, .O [.F]] [], .own (KR 0 4) [.sc (.int .i64), .sc (.bool)] [.F, .F] [], RI]], [[none, none, none, none, none, none]], [none]⟩ z))⟩
noncomputable def laws_toCoord_t : List Fs := laws_toCoord_f :: laws_toChoiceS_t
theorem laws_toCoord_g : FGood CX prims laws_toCoord_t ∧ FEqn CX prims laws_toCoord_f := fnG laws_toChoiceS_g.1 laws_toCoord_f Tryz.f7 ⟨7, 1, 25, 4⟩ [] (fun _ _ => rfl) (fun _ _ _ => by kernel_rfl) trivial trivial (fun _ _ _ _ _ => by kernel_rfl)

/-! loop.example/g00244/spec.l7CopyOps -/
noncomputable def spec_l7CopyOps : Nat → T → (T → An) → An
  | 0, _, _ => .bad
  | m + 1, x0, k0 =>
    cond (decide ((0 + x0.rows.length) * 3 ≤ maxRow))
    (k0 (T.l x0.rows))
    (.bad)
noncomputable def spec_l7CopyOps_f : Fs := ⟨41, [.one (.dz [.sc (.int .i64), .sc (.str), .sc (.str)] [])], fun m vs k => ap 1 (spec_l7CopyOps m) vs (lm 1 fun z => k (fRet ⟨[.one (.own (KR 0 0) [.sc (.int .i64), .sc (.str), .sc (.str)] [.F, .F, .F] [])], [[none]], [none]⟩ z))⟩
noncomputable def spec_l7CopyOps_t : List Fs := spec_l7CopyOps_f :: laws_toCoord_t
theorem spec_l7CopyOps_g : FGood CX prims spec_l7CopyOps_t ∧ FEqn CX prims spec_l7CopyOps_f := fnG laws_toCoord_g.1 spec_l7CopyOps_f Tryz.f41 ⟨41, 1, 6, 4⟩ [] (fun _ _ => rfl) (fun _ _ _ => by kernel_rfl) trivial trivial (fun _ _ _ _ _ => by kernel_rfl)

/-! loop.example/g00244/spec.l11Copy -/
noncomputable def spec_l11Copy_L0_0 (m : Nat) : Nat → T → T → T → T → T → T → T → T → T → T → T → T → T → T → T → T → T → T → T → T → T → T → (T → T → T → T → T → T → T → T → T → T → T → T → T → T → An) → An
  | 0, _, _, _, _, _, _, _, _, _, _, _, _, _, _, _, _, _, _, _, _, _, _, _ => .bad
  | n + 1, x0, x1, x2, x3, x4, x5, x6, x7, x8, x9, x10, x11, x12, x13, x14, x15, x16, x17, x18, x19, x20, x21, k0 =>
    cond (decide (x3.int < (x7.rows.length : Int)))
    (cond (decide ((0 : Int) ≤ x3.int ∧ x3.int < (x7.rows.length : Int)))
    (spec_l7CopyOps m (T.l ((x7.rows.getD (Int.toNat x3.int) []).getD 1 dflt).rows)
    (fun y0 => cond (decide ((0 + ((x7.rows.getD (Int.toNat x3.int) []).getD 3 dflt).rows.length) * 1 ≤ maxRow))
    (cond (decide ((x20.rows.length + 1) * 4 ≤ maxRow))
    (spec_l11Copy_L0_0 m n (T.i (x0.int.toNat : Int)) (T.i (x1.int.toNat : Int)) (T.i (x2.int.toNat : Int)) (T.i (IntKind.i64.wrap (x3.int + 1))) x4 x5 x6 x7 x8 x9 x10 x11 x12 x13 x14 x15 x16 x17 (T.l x18.rows) (T.l x19.rows) (T.l (x20.rows ++ [[((x7.rows.getD (Int.toNat x3.int) []).getD 0 dflt), (T.l y0.rows), ((x7.rows.getD (Int.toNat x3.int) []).getD 2 dflt), (T.l ((x7.rows.getD (Int.toNat x3.int) []).getD 3 dflt).rows)]])) (T.l x21.rows) k0)
    (.bad))
    (.bad)))
    (.bad))
    (k0 (T.i (x1.int.toNat : Int)) (T.i (x2.int.toNat : Int)) x10 x11 x12 x13 x14 x15 x16 x17 (T.l x18.rows) (T.l x19.rows) (T.l x20.rows) (T.l x21.rows))
noncomputable def spec_l11Copy : Nat → T → T → T → T → T → T → (T → T → T → T → T → T → An) → An
  | 0, _, _, _, _, _, _, _ => .bad
  | m + 1, x0, x1, x2, x3, x4, x5, k0 =>
    cond (decide ((0 + x4.rows.length) * 2 ≤ maxRow))
    (spec_l11Copy_L0_0 m m (T.i 0) (T.i 0) (T.i 0) (T.i 0) x0 x1 x2 (T.l x3.rows) (T.l x4.rows) x5 (T.i 0) (T.i 0) (T.i 0) (T.i 0) x0 x1 x2 x5 (T.l []) (T.l []) (T.l []) (T.l x4.rows)
    (fun y1 y2 y3 y4 y5 y6 y7 y8 y9 y10 y11 y12 y13 y14 => k0 y7 y8 y9 (T.l y13.rows) (T.l y14.rows) y10))
    (.bad)
noncomputable def spec_l11Copy_f : Fs := ⟨21, [.agg [AI, AI, AI, .dz [.sc (.int .i64), .sl [.sc (.int .i64), .sc (.str), .sc (.str)], .sc (.int .i64), .sl [.sc (.int .i64)]] [], .dz [.sc (.int .i64), .sc (.bool)] [], AI]], fun m vs k => ap 6 (spec_l11Copy m) vs (lm 6 fun z => k (fRet ⟨[.agg [RI, RI, RI, .own (KR 0 3) [.sc (.int .i64), .sl [.sc (.int .i64), .sc (.str), .sc (.str)], .sc (.int .i64), .sl [.sc (.int .i64)]] [.F, .F, .F, .F] [], .own (KR 0 4) [.sc (.int .i64), .sc (.bool)] [.F, .F] [], RI]], [[none, none, none, none, none, none]], [none]⟩ z))⟩
noncomputable def spec_l11Copy_l : List Ls := [⟨[0, 1, 0, 1, 1, 1, 1], ⟨[(1, EP 0), (2, EP 1), (3, EP 2), (4, .one (LI))], [((KI 0), .box [LI, LI, LI, LD [.sc (.int .i64), .sl [.sc (.int .i64), .sc (.str), .sc (.str)], .sc (.int .i64), .sl [.sc (.int .i64)]], LD [.sc (.int .i64), .sc (.bool)], LI]), ((KI 1), .box [LI, LI, LI, LA (KI 4) [.sc (.int .i64), .sl [.sc (.int .i64), .sc (.str), .sc (.str)], .sc (.int .i64), .sl [.sc (.int .i64)]], LA (KI 5) [.sc (.int .i64), .sc (.bool)], LI]), ((KI 2), .box [LI, LI, LI, LA (KI 6) [.sc (.int .i64), .sl [.sc (.int .i64), .sc (.str), .sc (.str)], .sc (.int .i64), .sl [.sc (.int .i64)]], LA (KI 7) [.sc (.int .i64), .sc (.bool)], LI]), ([4000000], .gone), ((KI 4), .row [.sc (.int .i64), .sl [.sc (.int .i64), .sc (.str), .sc (.str)], .sc (.int .i64), .sl [.sc (.int .i64)]] [.F, .F, .F, .F] []), ((KI 5), .row [.sc (.int .i64), .sc (.bool)] [.F, .F] []), ((KI 6), .row [.sc (.int .i64), .sl [.sc (.int .i64), .sc (.str), .sc (.str)], .sc (.int .i64), .sl [.sc (.int .i64)]] [.F, .F, .F, .F] []), ((KI 7), .row [.sc (.int .i64), .sc (.bool)] [.F, .F] [])]⟩, fun m n vs k => ap 22 (spec_l11Copy_L0_0 m n) vs (lm 14 fun z => k (.exit 0) (fPack ⟨[(2, EP 0), (3, EP 1)], [((KI 0), .box [LI, LI, LI, LA (KI 2) [.sc (.int .i64), .sl [.sc (.int .i64), .sc (.str), .sc (.str)], .sc (.int .i64), .sl [.sc (.int .i64)]], LA (KI 3) [.sc (.int .i64), .sc (.bool)], LI]), ((KI 1), .box [LI, LI, LI, LA (KI 4) [.sc (.int .i64), .sl [.sc (.int .i64), .sc (.str), .sc (.str)], .sc (.int .i64), .sl [.sc (.int .i64)]], LA (KI 5) [.sc (.int .i64), .sc (.bool)], LI]), ((KI 2), .row [.sc (.int .i64), .sl [.sc (.int .i64), .sc (.str), .sc (.str)], .sc (.int .i64), .sl [.sc (.int .i64)]] [.F, .F, .F, .F] []), ((KI 3), .row [.sc (.int .i64), .sc (.bool)] [.F, .F] []), ((KI 4), .row [.sc (.int .i64), .sl [.sc (.int .i64), .sc (.str), .sc (.str)], .sc (.int .i64), .sl [.sc (.int .i64)]] [.F, .F, .F, .F] []), ((KI 5), .row [.sc (.int .i64), .sc (.bool)] [.F, .F] [])]⟩ z))⟩]
noncomputable def spec_l11Copy_t : List Fs := spec_l11Copy_f :: spec_l7CopyOps_t
theorem spec_l11Copy_g : FGood CX prims spec_l11Copy_t ∧ FEqn CX prims spec_l11Copy_f := fnG spec_l7CopyOps_g.1 spec_l11Copy_f Tryz.f21 ⟨21, 1, 42, 4⟩ spec_l11Copy_l (fun _ _ => rfl) (fun _ _ _ => by kernel_rfl) ⟨fun _ _ _ => rfl, trivial⟩ ⟨fun _ _ _ _ _ _ => by kernel_rfl, trivial⟩ (fun _ _ _ _ _ => by kernel_rfl)

/-! loop.example/g00244/spec.l1In -/
noncomputable def spec_l1In : Nat → T → T → T → (T → An) → An
  | 0, _, _, _, _ => .bad
  | m + 1, x0, x1, x2, k0 =>
    cond ((decide (x0.int ≥ x1.int)) == true)
    (k0 (T.b (decide (x0.int ≤ x2.int))))
    (k0 (T.b false))
noncomputable def spec_l1In_f : Fs := ⟨42, [.one (AI), .one (AI), .one (AI)], fun m vs k => ap 3 (spec_l1In m) vs (lm 1 fun z => k (fRet ⟨[.one (RB)], [[none], [none], [none]], [none, none, none]⟩ z))⟩
noncomputable def spec_l1In_t : List Fs := spec_l1In_f :: spec_l11Copy_t
theorem spec_l1In_g : FGood CX prims spec_l1In_t ∧ FEqn CX prims spec_l1In_f := fnG spec_l11Copy_g.1 spec_l1In_f Tryz.f42 ⟨42, 3, 15, 64⟩ [] (fun _ _ => rfl) (fun _ _ _ => by kernel_rfl) trivial trivial (fun _ _ _ _ _ => by kernel_rfl)

/-! loop.example/g00244/spec.l11Chosen -/
noncomputable def spec_l11Chosen_L0_0 (m : Nat) : Nat → T → T → T → T → T → T → T → T → T → (T → An) → An → An
  | 0, _, _, _, _, _, _, _, _, _, _, _ => .bad
  | n + 1, x0, x1, x2, x3, x4, x5, x6, x7, x8, k0, k1 =>
    cond (decide (x2.int < (x7.rows.length : Int)))
    (cond (decide ((0 : Int) ≤ x2.int ∧ x2.int < (x7.rows.length : Int)))
    (cond (((x7.rows.getD (Int.toNat x2.int) []).getD 0 dflt).int == x0.int)
    (k0 x2)
    (spec_l11Chosen_L0_0 m n x0 (T.i (x1.int.toNat : Int)) (T.i (IntKind.i64.wrap (x2.int + 1))) x3 x4 x5 x6 x7 x8 k0 k1))
    (.bad))
    (k1 )
noncomputable def spec_l11Chosen : Nat → T → T → T → T → T → T → T → (T → An) → An
  | 0, _, _, _, _, _, _, _, _ => .bad
  | m + 1, x0, x1, x2, x3, x4, x5, x6, k0 =>
    spec_l11Chosen_L0_0 m m x6 (T.i 0) (T.i 0) x0 x1 x2 (T.l x3.rows) (T.l x4.rows) x5
    (fun y0 => k0 y0)
    (k0 (T.i (-1)))
noncomputable def spec_l11Chosen_f : Fs := ⟨43, [.agg [AI, AI, AI, .dz [.sc (.int .i64), .sl [.sc (.int .i64), .sc (.str), .sc (.str)], .sc (.int .i64), .sl [.sc (.int .i64)]] [], .dz [.sc (.int .i64), .sc (.bool)] [], AI], .one (AI)], fun m vs k => ap 7 (spec_l11Chosen m) vs (lm 1 fun z => k (fRet ⟨[.one (RI)], [[none, none, none, none, none, none], [none]], [none, none]⟩ z))⟩
noncomputable def spec_l11Chosen_l : List Ls := [⟨[0, 1, 0, 1], ⟨[(1, .one (LI)), (2, EP 0), (5, .one (LI))], [((KI 0), .box [LI, LI, LI, LD [.sc (.int .i64), .sl [.sc (.int .i64), .sc (.str), .sc (.str)], .sc (.int .i64), .sl [.sc (.int .i64)]], LD [.sc (.int .i64), .sc (.bool)], LI]), ([4000000], .gone)]⟩, fun m n vs k => ap 9 (spec_l11Chosen_L0_0 m n) vs (lm 1 fun z => k .ret (fPack ⟨[(4, .one (LI))], []⟩ z)) (lm 0 fun z => k (.exit 0) (fPack ⟨[], []⟩ z))⟩]
noncomputable def spec_l11Chosen_t : List Fs := spec_l11Chosen_f :: spec_l1In_t
theorem spec_l11Chosen_g : FGood CX prims spec_l11Chosen_t ∧ FEqn CX prims spec_l11Chosen_f := fnG spec_l1In_g.1 spec_l11Chosen_f Tryz.f43 ⟨43, 2, 22, 16⟩ spec_l11Chosen_l (fun _ _ => rfl) (fun _ _ _ => by kernel_rfl) ⟨fun _ _ _ => rfl, trivial⟩ ⟨fun _ _ _ _ _ _ => by kernel_rfl, trivial⟩ (fun _ _ _ _ _ => by kernel_rfl)

/-! loop.example/g00244/spec.KeyOk -/
noncomputable def spec_KeyOk_L0_0 (m : Nat) : Nat → T → T → (T → An) → (T → An) → An
  | 0, _, _, _, _ => .bad
  | n + 1, x0, x1, k0, k1 =>
    cond (decide (x1.int < (x0.str.size : Int)))
    (cond (decide ((0 : Int) ≤ x1.int ∧ x1.int < (x0.str.size : Int)))
    (spec_l1In m (T.i (IntKind.i64.wrap ((x0.str.data.toList.getD (Int.toNat x1.int) 0).toNat : Int))) (T.i 97) (T.i 122)
    (fun y0 => cond ((!y0.bool) == true)
    (cond (decide ((0 : Int) ≤ x1.int ∧ x1.int < (x0.str.size : Int)))
    (spec_l1In m (T.i (IntKind.i64.wrap ((x0.str.data.toList.getD (Int.toNat x1.int) 0).toNat : Int))) (T.i 48) (T.i 57)
    (fun y1 => cond (!y1.bool)
    (k0 (T.b false))
    (spec_KeyOk_L0_0 m n x0 (T.i (IntKind.i64.wrap (x1.int + 1))) k0 k1)))
    (.bad))
    (spec_KeyOk_L0_0 m n x0 (T.i (IntKind.i64.wrap (x1.int + 1))) k0 k1)))
    (.bad))
    (k1 x0)
noncomputable def spec_KeyOk : Nat → T → (T → An) → An
  | 0, _, _ => .bad
  | m + 1, x0, k0 =>
    spec_KeyOk_L0_0 m m x0 (T.i 0)
    (fun y3 => k0 y3)
    (fun y4 => spec_l1In m (T.i (y4.str.size : Int)) (T.i 1) (T.i 12)
    (fun y5 => k0 y5))
noncomputable def spec_KeyOk_f : Fs := ⟨81, [.one (AS)], fun m vs k => ap 1 (spec_KeyOk m) vs (lm 1 fun z => k (fRet ⟨[.one (RB)], [[none]], [none]⟩ z))⟩
noncomputable def spec_KeyOk_l : List Ls := [⟨[0, 1, 0, 1], ⟨[(0, .one (LS)), (3, .one (LI))], []⟩, fun m n vs k => ap 2 (spec_KeyOk_L0_0 m n) vs (lm 1 fun z => k .ret (fPack ⟨[(2, .one (LB))], []⟩ z)) (lm 1 fun z => k (.exit 0) (fPack ⟨[(0, .one (LS))], []⟩ z))⟩]
noncomputable def spec_KeyOk_t : List Fs := spec_KeyOk_f :: spec_l11Chosen_t
theorem spec_KeyOk_g : FGood CX prims spec_KeyOk_t ∧ FEqn CX prims spec_KeyOk_f := fnG spec_l11Chosen_g.1 spec_KeyOk_f Tryz.f81 ⟨81, 1, 27, 4⟩ spec_KeyOk_l (fun _ _ => rfl) (fun _ _ _ => by kernel_rfl) ⟨fun _ _ _ => rfl, trivial⟩ ⟨fun _ _ _ _ _ _ => by kernel_rfl, trivial⟩ (fun _ _ _ _ _ => by kernel_rfl)

/-! loop.example/g00244/spec.l7Op -/
noncomputable def spec_l7Op : Nat → T → T → T → (T → An) → An
  | 0, _, _, _, _ => .bad
  | m + 1, x0, x1, x2, k0 =>
    spec_l1In m x0 (T.i 1) (T.i 3)
    (fun y0 => cond ((!y0.bool) == false)
    (cond ((x0.int == 2) == true)
    (cond (!(x2.str.toList == (⟨#[]⟩ : ByteArray).toList))
    (k0 (T.b false))
    (spec_KeyOk m x1
    (fun y6 => cond (y6.bool == true)
    (k0 (T.b (decide ((x2.str.size : Int) ≤ 20))))
    (k0 (T.b false)))))
    (spec_KeyOk m x1
    (fun y8 => cond (y8.bool == true)
    (k0 (T.b (decide ((x2.str.size : Int) ≤ 20))))
    (k0 (T.b false)))))
    (k0 (T.b false)))
noncomputable def spec_l7Op_f : Fs := ⟨66, [.agg [AI, AS, AS]], fun m vs k => ap 3 (spec_l7Op m) vs (lm 1 fun z => k (fRet ⟨[.one (RB)], [[none, none, none]], [none]⟩ z))⟩
noncomputable def spec_l7Op_t : List Fs := spec_l7Op_f :: spec_KeyOk_t
theorem spec_l7Op_g : FGood CX prims spec_l7Op_t ∧ FEqn CX prims spec_l7Op_f := fnG spec_KeyOk_g.1 spec_l7Op_f Tryz.f66 ⟨66, 1, 26, 4⟩ [] (fun _ _ => rfl) (fun _ _ _ => by kernel_rfl) trivial trivial (fun _ _ _ _ _ => by kernel_rfl)

/-! loop.example/g00244/spec.OpsOk -/
noncomputable def spec_OpsOk_L0_0 (m : Nat) : Nat → T → T → (T → An) → (T → An) → An
  | 0, _, _, _, _ => .bad
  | n + 1, x0, x1, k0, k1 =>
    cond (decide (x1.int < (x0.rows.length : Int)))
    (cond (decide ((0 : Int) ≤ x1.int ∧ x1.int < (x0.rows.length : Int)))
    (spec_l7Op m ((x0.rows.getD (Int.toNat x1.int) []).getD 0 dflt) ((x0.rows.getD (Int.toNat x1.int) []).getD 1 dflt) ((x0.rows.getD (Int.toNat x1.int) []).getD 2 dflt)
    (fun y0 => cond ((!y0.bool) == false)
    (cond ((decide (x1.int > 0)) == true)
    (cond (decide ((0 : Int) ≤ (IntKind.i64.wrap (x1.int - 1)) ∧ (IntKind.i64.wrap (x1.int - 1)) < (x0.rows.length : Int)))
    (cond (decide ((0 : Int) ≤ x1.int ∧ x1.int < (x0.rows.length : Int)))
    (cond (!(Op.bytesLess (((x0.rows.getD (Int.toNat (IntKind.i64.wrap (x1.int - 1))) []).drop 1).getD 0 dflt).str.toList (((x0.rows.getD (Int.toNat x1.int) []).drop 1).getD 0 dflt).str.toList))
    (k0 (T.b false))
    (spec_OpsOk_L0_0 m n x0 (T.i (IntKind.i64.wrap (x1.int + 1))) k0 k1))
    (.bad))
    (.bad))
    (spec_OpsOk_L0_0 m n x0 (T.i (IntKind.i64.wrap (x1.int + 1))) k0 k1))
    (k0 (T.b false))))
    (.bad))
    (k1 x0)
noncomputable def spec_OpsOk : Nat → T → (T → An) → An
  | 0, _, _ => .bad
  | m + 1, x0, k0 =>
    spec_OpsOk_L0_0 m m (T.l x0.rows) (T.i 0)
    (fun y2 => k0 y2)
    (fun y3 => spec_l1In m (T.i (y3.rows.length : Int)) (T.i 1) (T.i 8)
    (fun y4 => k0 y4))
noncomputable def spec_OpsOk_f : Fs := ⟨45, [.one (.dz [.sc (.int .i64), .sc (.str), .sc (.str)] [])], fun m vs k => ap 1 (spec_OpsOk m) vs (lm 1 fun z => k (fRet ⟨[.one (RB)], [[none]], [none]⟩ z))⟩
noncomputable def spec_OpsOk_l : List Ls := [⟨[0, 1, 0, 1], ⟨[(0, .one (LD [.sc (.int .i64), .sc (.str), .sc (.str)])), (3, .one (LI))], [([4000000], .gone)]⟩, fun m n vs k => ap 2 (spec_OpsOk_L0_0 m n) vs (lm 1 fun z => k .ret (fPack ⟨[(2, .one (LB))], []⟩ z)) (lm 1 fun z => k (.exit 0) (fPack ⟨[(0, .one (LD [.sc (.int .i64), .sc (.str), .sc (.str)]))], [([4000000], .gone)]⟩ z))⟩]
noncomputable def spec_OpsOk_t : List Fs := spec_OpsOk_f :: spec_l7Op_t
theorem spec_OpsOk_g : FGood CX prims spec_OpsOk_t ∧ FEqn CX prims spec_OpsOk_f := fnG spec_l7Op_g.1 spec_OpsOk_f Tryz.f45 ⟨45, 1, 37, 4⟩ spec_OpsOk_l (fun _ _ => rfl) (fun _ _ _ => by kernel_rfl) ⟨fun _ _ _ => rfl, trivial⟩ ⟨fun _ _ _ _ _ _ => by kernel_rfl, trivial⟩ (fun _ _ _ _ _ => by kernel_rfl)

/-! loop.example/g00244/spec.Hash -/
noncomputable def spec_Hash_L0_0 (m : Nat) : Nat → T → T → T → (T → An) → An
  | 0, _, _, _, _ => .bad
  | n + 1, x0, x1, x2, k0 =>
    cond (decide (x2.int < (x0.str.size : Int)))
    (cond (decide ((0 : Int) ≤ x2.int ∧ x2.int < (x0.str.size : Int)))
    (spec_Hash_L0_0 m n x0 (bvBack .i64 (BitVec.ofInt IntKind.i64.bits (IntKind.i64.wrap ((bvBack .i64 (BitVec.ofInt IntKind.i64.bits x1.int ^^^ BitVec.ofInt IntKind.i64.bits (IntKind.i64.wrap ((x0.str.data.toList.getD (Int.toNat x2.int) 0).toNat : Int)))).int * 16777619)) &&& BitVec.ofInt IntKind.i64.bits 4294967295)) (T.i (IntKind.i64.wrap (x2.int + 1))) k0)
    (.bad))
    (k0 x1)
noncomputable def spec_Hash : Nat → T → (T → An) → An
  | 0, _, _ => .bad
  | m + 1, x0, k0 =>
    spec_Hash_L0_0 m m x0 (T.i 2166136261) (T.i 0)
    (fun y0 => k0 y0)
noncomputable def spec_Hash_f : Fs := ⟨87, [.one (AS)], fun m vs k => ap 1 (spec_Hash m) vs (lm 1 fun z => k (fRet ⟨[.one (RI)], [[none]], [none]⟩ z))⟩
noncomputable def spec_Hash_l : List Ls := [⟨[0, 1, 0, 1, 1], ⟨[(0, .one (LS)), (3, .one (LI)), (4, .one (LI))], []⟩, fun m n vs k => ap 3 (spec_Hash_L0_0 m n) vs (lm 1 fun z => k (.exit 0) (fPack ⟨[(3, .one (LI))], []⟩ z))⟩]
noncomputable def spec_Hash_t : List Fs := spec_Hash_f :: spec_OpsOk_t
theorem spec_Hash_g : FGood CX prims spec_Hash_t ∧ FEqn CX prims spec_Hash_f := fnG spec_OpsOk_g.1 spec_Hash_f Tryz.f87 ⟨87, 1, 20, 4⟩ spec_Hash_l (fun _ _ => rfl) (fun _ _ _ => by kernel_rfl) ⟨fun _ _ _ => rfl, trivial⟩ ⟨fun _ _ _ _ _ _ => by kernel_rfl, trivial⟩ (fun _ _ _ _ _ => by kernel_rfl)

/-! loop.example/g00244/spec.ShardOf -/
noncomputable def spec_ShardOf : Nat → T → T → (T → An) → An
  | 0, _, _, _ => .bad
  | m + 1, x0, x1, k0 =>
    cond (decide (x1.int < 1))
    (k0 (T.i 0))
    (spec_Hash m x0
    (fun y0 => cond (!decide (x1.int = 0))
    (k0 (T.i (Int.tmod y0.int x1.int)))
    (.bad)))
noncomputable def spec_ShardOf_f : Fs := ⟨80, [.one (AS), .one (AI)], fun m vs k => ap 2 (spec_ShardOf m) vs (lm 1 fun z => k (fRet ⟨[.one (RI)], [[none], [none]], [none, none]⟩ z))⟩
noncomputable def spec_ShardOf_t : List Fs := spec_ShardOf_f :: spec_Hash_t
theorem spec_ShardOf_g : FGood CX prims spec_ShardOf_t ∧ FEqn CX prims spec_ShardOf_f := fnG spec_Hash_g.1 spec_ShardOf_f Tryz.f80 ⟨80, 2, 11, 16⟩ [] (fun _ _ => rfl) (fun _ _ _ => by kernel_rfl) trivial trivial (fun _ _ _ _ _ => by kernel_rfl)

/-! loop.example/g00244/spec.l7Has -/
noncomputable def spec_l7Has_L0_0 (m : Nat) : Nat → T → T → T → (T → An) → An → An
  | 0, _, _, _, _, _ => .bad
  | n + 1, x0, x1, x2, k0, k1 =>
    cond (decide (x2.int < (x0.rows.length : Int)))
    (cond (decide ((0 : Int) ≤ x2.int ∧ x2.int < (x0.rows.length : Int)))
    (cond (((x0.rows.getD (Int.toNat x2.int) []).getD 0 dflt).int == x1.int)
    (k0 (T.b true))
    (spec_l7Has_L0_0 m n x0 x1 (T.i (IntKind.i64.wrap (x2.int + 1))) k0 k1))
    (.bad))
    (k1 )
noncomputable def spec_l7Has : Nat → T → T → (T → An) → An
  | 0, _, _, _ => .bad
  | m + 1, x0, x1, k0 =>
    spec_l7Has_L0_0 m m (T.l x0.rows) x1 (T.i 0)
    (fun y0 => k0 y0)
    (k0 (T.b false))
noncomputable def spec_l7Has_f : Fs := ⟨65, [.one (.dz [.sc (.int .i64)] []), .one (AI)], fun m vs k => ap 2 (spec_l7Has m) vs (lm 1 fun z => k (fRet ⟨[.one (RB)], [[none], [none]], [none, none]⟩ z))⟩
noncomputable def spec_l7Has_l : List Ls := [⟨[0, 1, 0, 1], ⟨[(0, .one (LD [.sc (.int .i64)])), (1, .one (LI)), (5, .one (LI))], [([4000000], .gone)]⟩, fun m n vs k => ap 3 (spec_l7Has_L0_0 m n) vs (lm 1 fun z => k .ret (fPack ⟨[(4, .one (LB))], []⟩ z)) (lm 0 fun z => k (.exit 0) (fPack ⟨[], []⟩ z))⟩]
noncomputable def spec_l7Has_t : List Fs := spec_l7Has_f :: spec_ShardOf_t
theorem spec_l7Has_g : FGood CX prims spec_l7Has_t ∧ FEqn CX prims spec_l7Has_f := fnG spec_ShardOf_g.1 spec_l7Has_f Tryz.f65 ⟨65, 2, 18, 16⟩ spec_l7Has_l (fun _ _ => rfl) (fun _ _ _ => by kernel_rfl) ⟨fun _ _ _ => rfl, trivial⟩ ⟨fun _ _ _ _ _ _ => by kernel_rfl, trivial⟩ (fun _ _ _ _ _ => by kernel_rfl)

/-! loop.example/g00244/spec.l7Put -/
noncomputable def spec_l7Put_L0_0 (m : Nat) : Nat → T → T → T → (T → T → T → An) → An
  | 0, _, _, _, _ => .bad
  | n + 1, x0, x1, x2, k0 =>
    jn (fun (j2 : An) =>
    cond ((decide (x1.int > 0)) == true)
    (cond (decide ((0 : Int) ≤ (IntKind.i64.wrap (x1.int - 1)) ∧ (IntKind.i64.wrap (x1.int - 1)) < (x2.rows.length : Int)))
    (cond (decide ((Int.toNat (IntKind.i64.wrap (x1.int - 1))) < x2.rows.length))
    (cond (decide (((x2.rows.getD (Int.toNat (IntKind.i64.wrap (x1.int - 1))) []).getD 0 dflt).int > x0.int))
    (j2)
    (k0 x0 x1 (T.l x2.rows)))
    (.bad))
    (.bad))
    (k0 x0 x1 (T.l x2.rows)))
    (cond (decide ((0 : Int) ≤ (IntKind.i64.wrap (x1.int - 1)) ∧ (IntKind.i64.wrap (x1.int - 1)) < (x2.rows.length : Int)))
    (cond (decide ((Int.toNat (IntKind.i64.wrap (x1.int - 1))) < x2.rows.length))
    (cond (decide ((0 : Int) ≤ x1.int ∧ x1.int < (x2.rows.length : Int)))
    (cond (decide ((Int.toNat x1.int) < x2.rows.length))
    (spec_l7Put_L0_0 m n x0 (T.i (IntKind.i64.wrap (x1.int - 1))) (T.l (x2.rows.set (Int.toNat x1.int) ((x2.rows.getD (Int.toNat x1.int) []).set 0 ((x2.rows.getD (Int.toNat (IntKind.i64.wrap (x1.int - 1))) []).getD 0 dflt)))) k0)
    (.bad))
    (.bad))
    (.bad))
    (.bad))
noncomputable def spec_l7Put : Nat → T → T → (T → An) → An
  | 0, _, _, _ => .bad
  | m + 1, x0, x1, k0 =>
    spec_l7Has m (T.l x0.rows) x1
    (fun y0 => cond y0.bool
    (k0 (T.l x0.rows))
    (cond (decide ((0 + x0.rows.length) * 1 ≤ maxRow))
    (cond (decide ((x0.rows.length + 1) * 1 ≤ maxRow))
    (spec_l7Put_L0_0 m m x1 (T.i (IntKind.i64.wrap (((x0.rows ++ [[x1]]).length : Int) - 1))) (T.l (x0.rows ++ [[x1]]))
    (fun y3 y4 y5 => cond (decide ((0 : Int) ≤ y4.int ∧ y4.int < (y5.rows.length : Int)))
    (cond (decide ((Int.toNat y4.int) < y5.rows.length))
    (k0 (T.l (y5.rows.set (Int.toNat y4.int) ((y5.rows.getD (Int.toNat y4.int) []).set 0 y3))))
    (.bad))
    (.bad)))
    (.bad))
    (.bad)))
noncomputable def spec_l7Put_f : Fs := ⟨79, [.one (.fz [.sc (.int .i64)] []), .one (AI)], fun m vs k => ap 2 (spec_l7Put m) vs (lm 1 fun z => k (fRet ⟨[.one (.fz [.sc (.int .i64)] [])], [[none], [none]], [none, none]⟩ z))⟩
noncomputable def spec_l7Put_l : List Ls := [⟨[0, 0, 1, 1, 1, 1], ⟨[(1, .one (LI)), (5, .one (LA (KI 0) [.sc (.int .i64)])), (6, .one (LI))], [((KI 0), .row [.sc (.int .i64)] [.F] [])]⟩, fun m n vs k => ap 3 (spec_l7Put_L0_0 m n) vs (lm 3 fun z => k (.exit 0) (fPack ⟨[(1, .one (LI)), (5, .one (LA (KI 0) [.sc (.int .i64)])), (6, .one (LI))], [((KI 0), .row [.sc (.int .i64)] [.F] [])]⟩ z))⟩]
noncomputable def spec_l7Put_t : List Fs := spec_l7Put_f :: spec_l7Has_t
theorem spec_l7Put_g : FGood CX prims spec_l7Put_t ∧ FEqn CX prims spec_l7Put_f := fnG spec_l7Has_g.1 spec_l7Put_f Tryz.f79 ⟨79, 2, 46, 16⟩ spec_l7Put_l (fun _ _ => rfl) (fun _ _ _ => by kernel_rfl) ⟨fun _ _ _ => rfl, trivial⟩ ⟨fun _ _ _ _ _ _ => by kernel_rfl, trivial⟩ (fun _ _ _ _ _ => by kernel_rfl)

/-! loop.example/g00244/spec.ShardsOf -/
noncomputable def spec_ShardsOf_L0_1 (m : Nat) : Nat → T → T → T → T → (T → An) → (T → An) → An
  | 0, _, _, _, _, _, _ => .bad
  | n + 1, x0, x1, x2, x3, k0, k1 =>
    cond (decide (x3.int < (x0.rows.length : Int)))
    (cond (decide ((0 : Int) ≤ x3.int ∧ x3.int < (x0.rows.length : Int)))
    (spec_ShardOf m (((x0.rows.getD (Int.toNat x3.int) []).drop 1).getD 0 dflt) x1
    (fun y2 => spec_l7Put m (T.l x2.rows) y2
    (fun y3 => spec_ShardsOf_L0_1 m n x0 x1 (T.l y3.rows) (T.i (IntKind.i64.wrap (x3.int + 1))) k0 k1)))
    (.bad))
    (k0 x2)
noncomputable def spec_ShardsOf_L0_0 (m : Nat) : Nat → T → T → T → T → (T → An) → (T → An) → An
  | 0, _, _, _, _, _, _ => .bad
  | n + 1, x0, x1, x2, x3, k0, k1 =>
    cond (decide (x2.int < (x0.rows.length : Int)))
    (cond (decide ((0 : Int) ≤ x2.int ∧ x2.int < (x0.rows.length : Int)))
    (spec_ShardOf m (((x0.rows.getD (Int.toNat x2.int) []).drop 1).getD 0 dflt) x1
    (fun y0 => spec_l7Put m (T.l x3.rows) y0
    (fun y1 => spec_ShardsOf_L0_1 m n x0 x1 (T.l y1.rows) (T.i (IntKind.i64.wrap (x2.int + 1))) k0 k1)))
    (.bad))
    (k1 (T.l x3.rows))
def spec_ShardsOf_e0_0 : Pack := ⟨[(5, .one (LZ [.sc (.int .i64)]))], []⟩
def spec_ShardsOf_e0_1 : Pack := ⟨[(5, .one (LA (KI 0) [.sc (.int .i64)]))], [((KI 0), .fz [.sc (.int .i64)] [])]⟩
noncomputable def spec_ShardsOf : Nat → T → T → (T → An) → An
  | 0, _, _, _ => .bad
  | m + 1, x0, x1, k0 =>
    spec_ShardsOf_L0_0 m m (T.l x0.rows) x1 (T.i 0) (T.l [])
    (fun y4 => k0 (T.l y4.rows))
    (fun y5 => k0 (T.l y5.rows))
noncomputable def spec_ShardsOf_f : Fs := ⟨64, [.one (.dz [.sc (.int .i64), .sc (.str), .sc (.str)] []), .one (AI)], fun m vs k => ap 2 (spec_ShardsOf m) vs (lm 1 fun z => k (fRet ⟨[.one (.fz [.sc (.int .i64)] [])], [[none], [none]], [none, none]⟩ z))⟩
noncomputable def spec_ShardsOf_l : List Ls := [⟨[0, 1, 0, 1, 1], ⟨[(0, .one (LD [.sc (.int .i64), .sc (.str), .sc (.str)])), (1, .one (LI)), (5, .one (LZ [.sc (.int .i64)])), (6, .one (LI))], [([4000000], .gone)]⟩, fun m n vs k => ap 4 (spec_ShardsOf_L0_1 m n) vs (lm 1 fun z => k (.exit 0) (fPack spec_ShardsOf_e0_0 z)) (lm 1 fun z => k (.exit 0) (fPack spec_ShardsOf_e0_1 z))⟩, ⟨[0, 1, 0, 1, 1], ⟨[(0, .one (LD [.sc (.int .i64), .sc (.str), .sc (.str)])), (1, .one (LI)), (5, .one (LA (KI 1) [.sc (.int .i64)])), (6, .one (LI))], [([4000000], .gone), ((KI 1), .fz [.sc (.int .i64)] [])]⟩, fun m n vs k => ap 4 (spec_ShardsOf_L0_0 m n) vs (lm 1 fun z => k (.exit 0) (fPack spec_ShardsOf_e0_0 z)) (lm 1 fun z => k (.exit 0) (fPack spec_ShardsOf_e0_1 z))⟩]
noncomputable def spec_ShardsOf_t : List Fs := spec_ShardsOf_f :: spec_l7Put_t
theorem spec_ShardsOf_g : FGood CX prims spec_ShardsOf_t ∧ FEqn CX prims spec_ShardsOf_f := fnG spec_l7Put_g.1 spec_ShardsOf_f Tryz.f64 ⟨64, 2, 24, 16⟩ spec_ShardsOf_l (fun _ _ => rfl) (fun _ _ _ => by kernel_rfl) ⟨fun _ _ _ => rfl, fun _ _ _ => rfl, trivial⟩ ⟨fun _ _ _ _ _ _ => by kernel_rfl, fun _ _ _ _ _ _ => by kernel_rfl, trivial⟩ (fun _ _ _ _ _ => by kernel_rfl)

/-! loop.example/g00244/spec.l11Job -/
noncomputable def spec_l11Job_L0_0 (m : Nat) : Nat → T → T → T → T → T → T → T → T → T → T → T → T → T → T → (T → An) → (T → T → T → T → T → T → T → T → T → T → T → T → An) → An
  | 0, _, _, _, _, _, _, _, _, _, _, _, _, _, _, _, _ => .bad
  | n + 1, x0, x1, x2, x3, x4, x5, x6, x7, x8, x9, x10, x11, x12, x13, k0, k1 =>
    cond (decide (x3.int < (x13.rows.length : Int)))
    ((fun (j17 : An) =>
    cond (decide ((0 : Int) ≤ x3.int ∧ x3.int < (x13.rows.length : Int)))
    (spec_l7Has m (T.l x2.rows) ((x13.rows.getD (Int.toNat x3.int) []).getD 0 dflt)
    (fun y15 => cond ((!y15.bool) == false)
    (cond ((decide (x3.int > 0)) == true)
    (cond (decide ((0 : Int) ≤ (IntKind.i64.wrap (x3.int - 1)) ∧ (IntKind.i64.wrap (x3.int - 1)) < (x13.rows.length : Int)))
    (cond (decide ((0 : Int) ≤ x3.int ∧ x3.int < (x13.rows.length : Int)))
    (cond (decide (((x13.rows.getD (Int.toNat (IntKind.i64.wrap (x3.int - 1))) []).getD 0 dflt).int ≥ ((x13.rows.getD (Int.toNat x3.int) []).getD 0 dflt).int))
    (k0 (T.b false))
    (j17))
    (.bad))
    (.bad))
    (j17))
    (k0 (T.b false))))
    (.bad))
    (spec_l11Job_L0_0 m n (T.i (x0.int.toNat : Int)) (T.i (x1.int.toNat : Int)) x2 (T.i (IntKind.i64.wrap (x3.int + 1))) x4 x5 x6 x7 x8 x9 x10 x11 x12 x13 k0 k1))
    (k1 (T.i (x0.int.toNat : Int)) (T.i (x1.int.toNat : Int)) x4 x5 x6 x7 x8 x9 x10 x11 x12 x13)
noncomputable def spec_l11Job : Nat → T → T → T → T → T → T → T → (T → An) → An
  | 0, _, _, _, _, _, _, _, _ => .bad
  | m + 1, x0, x1, x2, x3, x4, x5, x6, k0 =>
    cond (decide ((0 : Int) ≤ x6.int ∧ x6.int < (x3.rows.length : Int)))
    (jn (fun (j33 : T → T → T → T → An) =>
    spec_l1In m ((x3.rows.getD (Int.toNat x6.int) []).getD 0 dflt) (T.i (IntKind.i64.wrap (x1.int * 1000))) (T.i (IntKind.i64.wrap ((IntKind.i64.wrap ((IntKind.i64.wrap (x1.int * 1000)) + x2.int)) - 1)))
    (fun y0 => cond ((!y0.bool) == false)
    (cond ((decide (x6.int > 0)) == true)
    (cond (decide ((0 : Int) ≤ (IntKind.i64.wrap (x6.int - 1)) ∧ (IntKind.i64.wrap (x6.int - 1)) < (x3.rows.length : Int)))
    (cond ((decide (((x3.rows.getD (Int.toNat (IntKind.i64.wrap (x6.int - 1))) []).getD 0 dflt).int ≥ ((x3.rows.getD (Int.toNat x6.int) []).getD 0 dflt).int)) == false)
    (spec_OpsOk m (T.l ((x3.rows.getD (Int.toNat x6.int) []).getD 1 dflt).rows)
    (fun y1 => cond ((!y1.bool) == false)
    (spec_l1In m ((x3.rows.getD (Int.toNat x6.int) []).getD 2 dflt) (T.i 1) (T.i 3)
    (fun y2 => cond (!y2.bool)
    (k0 (T.b false))
    (j33 ((x3.rows.getD (Int.toNat x6.int) []).getD 0 dflt) ((x3.rows.getD (Int.toNat x6.int) []).getD 1 dflt) ((x3.rows.getD (Int.toNat x6.int) []).getD 2 dflt) ((x3.rows.getD (Int.toNat x6.int) []).getD 3 dflt))))
    (k0 (T.b false))))
    (k0 (T.b false)))
    (.bad))
    (spec_OpsOk m (T.l ((x3.rows.getD (Int.toNat x6.int) []).getD 1 dflt).rows)
    (fun y3 => cond ((!y3.bool) == false)
    (spec_l1In m ((x3.rows.getD (Int.toNat x6.int) []).getD 2 dflt) (T.i 1) (T.i 3)
    (fun y4 => cond (!y4.bool)
    (k0 (T.b false))
    (j33 ((x3.rows.getD (Int.toNat x6.int) []).getD 0 dflt) ((x3.rows.getD (Int.toNat x6.int) []).getD 1 dflt) ((x3.rows.getD (Int.toNat x6.int) []).getD 2 dflt) ((x3.rows.getD (Int.toNat x6.int) []).getD 3 dflt))))
    (k0 (T.b false)))))
    (k0 (T.b false))))
    (fun y10 y11 y12 y13 => spec_ShardsOf m (T.l y11.rows) x0
    (fun y14 => spec_l11Job_L0_0 m m (T.i 0) (T.i 0) (T.l y14.rows) (T.i 0) x0 x1 x2 (T.l x3.rows) (T.l x4.rows) x5 y10 y11 y12 y13
    (fun y18 => k0 y18)
    (fun y19 y20 y21 y22 y23 y24 y25 y26 y27 y28 y29 y30 => spec_l11Chosen m y21 y22 y23 (T.l y24.rows) (T.l y25.rows) y26 y27
    (fun y31 => cond (decide (y31.int < 0))
    (k0 (T.b (y29.int == 1)))
    (cond ((y29.int == 2) == true)
    (cond (decide ((0 : Int) ≤ y31.int ∧ y31.int < (y25.rows.length : Int)))
    (cond ((((y25.rows.getD (Int.toNat y31.int) []).drop 1).getD 0 dflt).bool == false)
    (cond ((y29.int == 3) == true)
    (cond (decide ((0 : Int) ≤ y31.int ∧ y31.int < (y25.rows.length : Int)))
    (k0 (T.b (!(((y25.rows.getD (Int.toNat y31.int) []).drop 1).getD 0 dflt).bool)))
    (.bad))
    (k0 (T.b false)))
    (k0 (T.b true)))
    (.bad))
    (cond ((y29.int == 3) == true)
    (cond (decide ((0 : Int) ≤ y31.int ∧ y31.int < (y25.rows.length : Int)))
    (k0 (T.b (!(((y25.rows.getD (Int.toNat y31.int) []).drop 1).getD 0 dflt).bool)))
    (.bad))
    (k0 (T.b false)))))))))
    (.bad)
noncomputable def spec_l11Job_f : Fs := ⟨44, [.agg [AI, AI, AI, .dz [.sc (.int .i64), .sl [.sc (.int .i64), .sc (.str), .sc (.str)], .sc (.int .i64), .sl [.sc (.int .i64)]] [], .dz [.sc (.int .i64), .sc (.bool)] [], AI], .one (AI)], fun m vs k => ap 7 (spec_l11Job m) vs (lm 1 fun z => k (fRet ⟨[.one (RB)], [[none, none, none, none, none, none], [none]], [none, none]⟩ z))⟩
noncomputable def spec_l11Job_l : List Ls := [⟨[0, 1, 0, 1, 1, 1, 1], ⟨[(2, EP 0), (5, EP 1), (6, .one (LZ [.sc (.int .i64)])), (7, .one (LI))], [((KI 0), .box [LI, LI, LI, LD [.sc (.int .i64), .sl [.sc (.int .i64), .sc (.str), .sc (.str)], .sc (.int .i64), .sl [.sc (.int .i64)]], LD [.sc (.int .i64), .sc (.bool)], LI]), ((KI 1), .box [LI, LD [.sc (.int .i64), .sc (.str), .sc (.str)], LI, LD [.sc (.int .i64)]]), ([4000000], .gone)]⟩, fun m n vs k => ap 14 (spec_l11Job_L0_0 m n) vs (lm 1 fun z => k .ret (fPack ⟨[(4, .one (LB))], []⟩ z)) (lm 12 fun z => k (.exit 0) (fPack ⟨[(2, EP 0), (5, EP 1)], [((KI 0), .box [LI, LI, LI, LD [.sc (.int .i64), .sl [.sc (.int .i64), .sc (.str), .sc (.str)], .sc (.int .i64), .sl [.sc (.int .i64)]], LD [.sc (.int .i64), .sc (.bool)], LI]), ((KI 1), .box [LI, LD [.sc (.int .i64), .sc (.str), .sc (.str)], LI, LD [.sc (.int .i64)]]), ([4000000], .gone)]⟩ z))⟩]
noncomputable def spec_l11Job_t : List Fs := spec_l11Job_f :: spec_ShardsOf_t
theorem spec_l11Job_g : FGood CX prims spec_l11Job_t ∧ FEqn CX prims spec_l11Job_f := fnG spec_ShardsOf_g.1 spec_l11Job_f Tryz.f44 ⟨44, 2, 128, 16⟩ spec_l11Job_l (fun _ _ => rfl) (fun _ _ _ => by kernel_rfl) ⟨fun _ _ _ => rfl, trivial⟩ ⟨fun _ _ _ _ _ _ => by kernel_rfl, trivial⟩ (fun _ _ _ _ _ => by kernel_rfl)

/-! loop.example/g00244/spec.CoordOk -/
noncomputable def spec_CoordOk_L1_0 (m : Nat) : Nat → T → T → T → T → T → T → T → T → (T → An) → An → An
  | 0, _, _, _, _, _, _, _, _, _, _ => .bad
  | n + 1, x0, x1, x2, x3, x4, x5, x6, x7, k0, k1 =>
    cond (decide (x1.int < (x5.rows.length : Int)))
    (spec_l11Job m x2 x3 x4 (T.l x5.rows) (T.l x6.rows) x7 x1
    (fun y16 => cond (!y16.bool)
    (k0 (T.b false))
    (spec_CoordOk_L1_0 m n (T.i (x0.int.toNat : Int)) (T.i (IntKind.i64.wrap (x1.int + 1))) x2 x3 x4 x5 x6 x7 k0 k1)))
    (k1 )
noncomputable def spec_CoordOk_L0_0 (m : Nat) : Nat → T → T → T → T → T → T → T → T → (T → An) → (T → T → T → T → T → T → T → An) → An
  | 0, _, _, _, _, _, _, _, _, _, _ => .bad
  | n + 1, x0, x1, x2, x3, x4, x5, x6, x7, k0, k1 =>
    cond (decide (x1.int < (x6.rows.length : Int)))
    (cond (decide ((0 : Int) ≤ x1.int ∧ x1.int < (x6.rows.length : Int)))
    (spec_l1In m ((x6.rows.getD (Int.toNat x1.int) []).getD 0 dflt) (T.i 1000) (T.i (IntKind.i64.wrap ((IntKind.i64.wrap ((IntKind.i64.wrap (x3.int * 1000)) + x4.int)) - 1)))
    (fun y5 => cond ((!y5.bool) == false)
    (cond (decide ((0 : Int) ≤ x1.int ∧ x1.int < (x6.rows.length : Int)))
    (spec_l11Chosen m x2 x3 x4 (T.l x5.rows) (T.l x6.rows) x7 ((x6.rows.getD (Int.toNat x1.int) []).getD 0 dflt)
    (fun y6 => cond (y6.int != x1.int)
    (k0 (T.b false))
    (spec_CoordOk_L0_0 m n (T.i (x0.int.toNat : Int)) (T.i (IntKind.i64.wrap (x1.int + 1))) x2 x3 x4 x5 x6 x7 k0 k1)))
    (.bad))
    (k0 (T.b false))))
    (.bad))
    (k1 (T.i (x0.int.toNat : Int)) x2 x3 x4 x5 x6 x7)
noncomputable def spec_CoordOk : Nat → T → T → T → T → T → T → (T → An) → An
  | 0, _, _, _, _, _, _, _ => .bad
  | m + 1, x0, x1, x2, x3, x4, x5, k0 =>
    jn (fun (j18 : An) =>
    spec_l1In m x0 (T.i 1) (T.i 8)
    (fun y0 => cond ((!y0.bool) == false)
    (spec_l1In m x1 (T.i 1) (T.i 900)
    (fun y1 => cond ((!y1.bool) == false)
    (spec_l1In m x2 (T.i 0) (T.i 999)
    (fun y2 => cond ((!y2.bool) == false)
    (cond ((decide ((x4.rows.length : Int) > 1000)) == false)
    (spec_l1In m x5 (T.i 0) (T.i (x4.rows.length : Int))
    (fun y3 => cond (!y3.bool)
    (k0 (T.b false))
    (j18)))
    (k0 (T.b false)))
    (k0 (T.b false))))
    (k0 (T.b false))))
    (k0 (T.b false))))
    (spec_CoordOk_L0_0 m m (T.i 0) (T.i 0) x0 x1 x2 (T.l x3.rows) (T.l x4.rows) x5
    (fun y8 => k0 y8)
    (fun y9 y10 y11 y12 y13 y14 y15 => spec_CoordOk_L1_0 m m (T.i (y9.int.toNat : Int)) (T.i 0) y10 y11 y12 y13 y14 y15
    (fun y17 => k0 y17)
    (k0 (T.b true))))
noncomputable def spec_CoordOk_f : Fs := ⟨22, [.agg [AI, AI, AI, .dz [.sc (.int .i64), .sl [.sc (.int .i64), .sc (.str), .sc (.str)], .sc (.int .i64), .sl [.sc (.int .i64)]] [], .dz [.sc (.int .i64), .sc (.bool)] [], AI]], fun m vs k => ap 6 (spec_CoordOk m) vs (lm 1 fun z => k (fRet ⟨[.one (RB)], [[none, none, none, none, none, none]], [none]⟩ z))⟩
noncomputable def spec_CoordOk_l : List Ls := [⟨[0, 1, 0, 1, 1, 1], ⟨[(1, EP 0), (4, .one (LI))], [((KI 0), .box [LI, LI, LI, LD [.sc (.int .i64), .sl [.sc (.int .i64), .sc (.str), .sc (.str)], .sc (.int .i64), .sl [.sc (.int .i64)]], LD [.sc (.int .i64), .sc (.bool)], LI]), ([4000000], .gone)]⟩, fun m n vs k => ap 8 (spec_CoordOk_L1_0 m n) vs (lm 1 fun z => k .ret (fPack ⟨[(2, .one (LB))], []⟩ z)) (lm 0 fun z => k (.exit 2) (fPack ⟨[], []⟩ z))⟩, ⟨[0, 1, 0, 1, 1], ⟨[(1, EP 0), (3, .one (LI))], [((KI 0), .box [LI, LI, LI, LD [.sc (.int .i64), .sl [.sc (.int .i64), .sc (.str), .sc (.str)], .sc (.int .i64), .sl [.sc (.int .i64)]], LD [.sc (.int .i64), .sc (.bool)], LI]), ([4000000], .gone)]⟩, fun m n vs k => ap 8 (spec_CoordOk_L0_0 m n) vs (lm 1 fun z => k .ret (fPack ⟨[(2, .one (LB))], []⟩ z)) (lm 7 fun z => k (.exit 0) (fPack ⟨[(1, EP 0)], [((KI 0), .box [LI, LI, LI, LD [.sc (.int .i64), .sl [.sc (.int .i64), .sc (.str), .sc (.str)], .sc (.int .i64), .sl [.sc (.int .i64)]], LD [.sc (.int .i64), .sc (.bool)], LI]), ([4000000], .gone)]⟩ z))⟩]
noncomputable def spec_CoordOk_t : List Fs := spec_CoordOk_f :: spec_l11Job_t
theorem spec_CoordOk_g : FGood CX prims spec_CoordOk_t ∧ FEqn CX prims spec_CoordOk_f := fnG spec_l11Job_g.1 spec_CoordOk_f Tryz.f22 ⟨22, 1, 81, 4⟩ spec_CoordOk_l (fun _ _ => rfl) (fun _ _ _ => by kernel_rfl) ⟨fun _ _ _ => rfl, fun _ _ _ => rfl, trivial⟩ ⟨fun _ _ _ _ _ _ => by kernel_rfl, fun _ _ _ _ _ _ => by kernel_rfl, trivial⟩ (fun _ _ _ _ _ => by kernel_rfl)

/-! loop.example/g00244/spec.OpsFor -/
noncomputable def spec_OpsFor_L0_0 (m : Nat) : Nat → T → T → T → T → T → (T → An) → An
  | 0, _, _, _, _, _, _ => .bad
  | n + 1, x0, x1, x2, x3, x4, k0 =>
    cond (decide (x3.int < (x0.rows.length : Int)))
    (cond (decide ((0 : Int) ≤ x3.int ∧ x3.int < (x0.rows.length : Int)))
    (spec_ShardOf m (((x0.rows.getD (Int.toNat x3.int) []).drop 1).getD 0 dflt) x2
    (fun y0 => cond (y0.int == x1.int)
    (cond (decide ((0 : Int) ≤ x3.int ∧ x3.int < (x0.rows.length : Int)))
    (cond (decide ((x4.rows.length + 1) * 3 ≤ maxRow))
    (spec_OpsFor_L0_0 m n x0 x1 x2 (T.i (IntKind.i64.wrap (x3.int + 1))) (T.l (x4.rows ++ [[((x0.rows.getD (Int.toNat x3.int) []).getD 0 dflt), ((x0.rows.getD (Int.toNat x3.int) []).getD 1 dflt), ((x0.rows.getD (Int.toNat x3.int) []).getD 2 dflt)]])) k0)
    (.bad))
    (.bad))
    (spec_OpsFor_L0_0 m n x0 x1 x2 (T.i (IntKind.i64.wrap (x3.int + 1))) (T.l x4.rows) k0)))
    (.bad))
    (k0 (T.l x4.rows))
noncomputable def spec_OpsFor : Nat → T → T → T → (T → An) → An
  | 0, _, _, _, _ => .bad
  | m + 1, x0, x1, x2, k0 =>
    spec_OpsFor_L0_0 m m (T.l x0.rows) x1 x2 (T.i 0) (T.l [])
    (fun y3 => k0 (T.l y3.rows))
noncomputable def spec_OpsFor_f : Fs := ⟨67, [.one (.dz [.sc (.int .i64), .sc (.str), .sc (.str)] []), .one (AI), .one (AI)], fun m vs k => ap 3 (spec_OpsFor m) vs (lm 1 fun z => k (fRet ⟨[.one (.own (KR 0 0) [.sc (.int .i64), .sc (.str), .sc (.str)] [.F, .F, .F] [])], [[none], [none], [none]], [none, none, none]⟩ z))⟩
noncomputable def spec_OpsFor_l : List Ls := [⟨[0, 1, 0, 1, 1], ⟨[(0, .one (LD [.sc (.int .i64), .sc (.str), .sc (.str)])), (1, .one (LI)), (2, .one (LI)), (7, .one (LA (KI 1) [.sc (.int .i64), .sc (.str), .sc (.str)])), (8, .one (LI))], [([4000000], .gone), ((KI 1), .row [.sc (.int .i64), .sc (.str), .sc (.str)] [.F, .F, .F] [])]⟩, fun m n vs k => ap 5 (spec_OpsFor_L0_0 m n) vs (lm 1 fun z => k (.exit 0) (fPack ⟨[(7, .one (LA (KI 0) [.sc (.int .i64), .sc (.str), .sc (.str)]))], [((KI 0), .row [.sc (.int .i64), .sc (.str), .sc (.str)] [.F, .F, .F] [])]⟩ z))⟩]
noncomputable def spec_OpsFor_t : List Fs := spec_OpsFor_f :: spec_CoordOk_t
theorem spec_OpsFor_g : FGood CX prims spec_OpsFor_t ∧ FEqn CX prims spec_OpsFor_f := fnG spec_CoordOk_g.1 spec_OpsFor_f Tryz.f67 ⟨67, 3, 33, 64⟩ spec_OpsFor_l (fun _ _ => rfl) (fun _ _ _ => by kernel_rfl) ⟨fun _ _ _ => rfl, trivial⟩ ⟨fun _ _ _ _ _ _ => by kernel_rfl, trivial⟩ (fun _ _ _ _ _ => by kernel_rfl)

/-! loop.example/g00244/spec.l11Holds -/
noncomputable def spec_l11Holds_L0_0 (m : Nat) : Nat → T → T → T → T → T → T → T → T → T → T → T → T → T → T → T → (T → An) → An
  | 0, _, _, _, _, _, _, _, _, _, _, _, _, _, _, _, _ => .bad
  | n + 1, x0, x1, x2, x3, x4, x5, x6, x7, x8, x9, x10, x11, x12, x13, x14, k0 =>
    cond (decide (x3.int < (x2.rows.length : Int)))
    ((fun (j5 : T → An) =>
    cond (decide ((0 : Int) ≤ x3.int ∧ x3.int < (x2.rows.length : Int)))
    (spec_l7Has m (T.l x13.rows) ((x2.rows.getD (Int.toNat x3.int) []).getD 0 dflt)
    (fun y1 => cond (!y1.bool)
    (cond (decide ((0 : Int) ≤ x3.int ∧ x3.int < (x2.rows.length : Int)))
    (cond (decide ((0 : Int) ≤ x3.int ∧ x3.int < (x2.rows.length : Int)))
    (spec_OpsFor m (T.l x11.rows) ((x2.rows.getD (Int.toNat x3.int) []).getD 0 dflt) x4
    (fun y2 => cond (decide ((x14.rows.length + 1) * 5 ≤ maxRow))
    (j5 (T.l (x14.rows ++ [[(T.i 1), ((x2.rows.getD (Int.toNat x3.int) []).getD 0 dflt), x10, (T.l y2.rows), (T.b false)]])))
    (.bad)))
    (.bad))
    (.bad))
    (j5 (T.l x14.rows))))
    (.bad))
    (fun y4 => spec_l11Holds_L0_0 m n (T.i (x0.int.toNat : Int)) (T.i (x1.int.toNat : Int)) x2 (T.i (IntKind.i64.wrap (x3.int + 1))) x4 x5 x6 x7 x8 x9 x10 x11 x12 x13 (T.l y4.rows) k0))
    (k0 (T.l x14.rows))
noncomputable def spec_l11Holds : Nat → T → T → T → T → T → T → T → T → T → T → (T → An) → An
  | 0, _, _, _, _, _, _, _, _, _, _, _ => .bad
  | m + 1, x0, x1, x2, x3, x4, x5, x6, x7, x8, x9, k0 =>
    spec_ShardsOf m (T.l x7.rows) x0
    (fun y0 => spec_l11Holds_L0_0 m m (T.i 0) (T.i 0) (T.l y0.rows) (T.i 0) x0 x1 x2 (T.l x3.rows) (T.l x4.rows) x5 x6 (T.l x7.rows) x8 (T.l x9.rows) (T.l [])
    (fun y6 => k0 (T.l y6.rows)))
noncomputable def spec_l11Holds_f : Fs := ⟨46, [.agg [AI, AI, AI, .dz [.sc (.int .i64), .sl [.sc (.int .i64), .sc (.str), .sc (.str)], .sc (.int .i64), .sl [.sc (.int .i64)]] [], .dz [.sc (.int .i64), .sc (.bool)] [], AI], .agg [AI, .dz [.sc (.int .i64), .sc (.str), .sc (.str)] [], AI, .dz [.sc (.int .i64)] []]], fun m vs k => ap 10 (spec_l11Holds m) vs (lm 1 fun z => k (fRet ⟨[.one (.own (KR 0 0) [.sc (.int .i64), .sc (.int .i64), .sc (.int .i64), .sl [.sc (.int .i64), .sc (.str), .sc (.str)], .sc (.bool)] [.F, .F, .F, .F, .F] [])], [[none, none, none, none, none, none], [none, none, none, none]], [none, none]⟩ z))⟩
noncomputable def spec_l11Holds_l : List Ls := [⟨[0, 1, 0, 1, 1, 1], ⟨[(2, EP 0), (3, EP 1), (5, .one (LA (KI 2) [.sc (.int .i64), .sc (.int .i64), .sc (.int .i64), .sl [.sc (.int .i64), .sc (.str), .sc (.str)], .sc (.bool)])), (6, .one (LZ [.sc (.int .i64)])), (7, .one (LI))], [((KI 0), .box [LI, LI, LI, LD [.sc (.int .i64), .sl [.sc (.int .i64), .sc (.str), .sc (.str)], .sc (.int .i64), .sl [.sc (.int .i64)]], LD [.sc (.int .i64), .sc (.bool)], LI]), ((KI 1), .box [LI, LD [.sc (.int .i64), .sc (.str), .sc (.str)], LI, LD [.sc (.int .i64)]]), ((KI 2), .row [.sc (.int .i64), .sc (.int .i64), .sc (.int .i64), .sl [.sc (.int .i64), .sc (.str), .sc (.str)], .sc (.bool)] [.F, .F, .F, .F, .F] []), ([4000000], .gone)]⟩, fun m n vs k => ap 15 (spec_l11Holds_L0_0 m n) vs (lm 1 fun z => k (.exit 0) (fPack ⟨[(5, .one (LA (KI 0) [.sc (.int .i64), .sc (.int .i64), .sc (.int .i64), .sl [.sc (.int .i64), .sc (.str), .sc (.str)], .sc (.bool)]))], [((KI 0), .row [.sc (.int .i64), .sc (.int .i64), .sc (.int .i64), .sl [.sc (.int .i64), .sc (.str), .sc (.str)], .sc (.bool)] [.F, .F, .F, .F, .F] [])]⟩ z))⟩]
noncomputable def spec_l11Holds_t : List Fs := spec_l11Holds_f :: spec_OpsFor_t
theorem spec_l11Holds_g : FGood CX prims spec_l11Holds_t ∧ FEqn CX prims spec_l11Holds_f := fnG spec_OpsFor_g.1 spec_l11Holds_f Tryz.f46 ⟨46, 2, 48, 16⟩ spec_l11Holds_l (fun _ _ => rfl) (fun _ _ _ => by kernel_rfl) ⟨fun _ _ _ => rfl, trivial⟩ ⟨fun _ _ _ _ _ _ => by kernel_rfl, trivial⟩ (fun _ _ _ _ _ => by kernel_rfl)

/-! loop.example/g00244/spec.l11Begin -/
noncomputable def spec_l11Begin : Nat → T → T → T → T → T → T → T → (T → T → T → T → T → T → T → T → An) → An
  | 0, _, _, _, _, _, _, _, _ => .bad
  | m + 1, x0, x1, x2, x3, x4, x5, x6, k0 =>
    jn (fun (j4 : An) =>
    spec_OpsOk m (T.l x6.rows)
    (fun y0 => cond ((!y0.bool) == false)
    (cond ((x2.int == 999) == false)
    (cond (decide ((x4.rows.length : Int) ≥ 1000))
    (k0 (T.l []) (T.i 0) x0 x1 x2 (T.l x3.rows) (T.l x4.rows) x5)
    (j4))
    (k0 (T.l []) (T.i 0) x0 x1 x2 (T.l x3.rows) (T.l x4.rows) x5))
    (k0 (T.l []) (T.i 0) x0 x1 x2 (T.l x3.rows) (T.l x4.rows) x5)))
    (spec_l7CopyOps m (T.l x6.rows)
    (fun y2 => cond (decide ((x3.rows.length + 1) * 4 ≤ maxRow))
    (spec_l11Holds m x0 x1 (T.i (IntKind.i64.wrap (x2.int + 1))) (T.l (x3.rows ++ [[(T.i (IntKind.i64.wrap ((IntKind.i64.wrap (x1.int * 1000)) + x2.int))), (T.l y2.rows), (T.i 1), (T.l [])]])) (T.l x4.rows) x5 (T.i (IntKind.i64.wrap ((IntKind.i64.wrap (x1.int * 1000)) + x2.int))) (T.l y2.rows) (T.i 1) (T.l [])
    (fun y3 => k0 (T.l y3.rows) (T.i (IntKind.i64.wrap ((IntKind.i64.wrap (x1.int * 1000)) + x2.int))) x0 x1 (T.i (IntKind.i64.wrap (x2.int + 1))) (T.l (x3.rows ++ [[(T.i (IntKind.i64.wrap ((IntKind.i64.wrap (x1.int * 1000)) + x2.int))), (T.l y2.rows), (T.i 1), (T.l [])]])) (T.l x4.rows) x5))
    (.bad)))
noncomputable def spec_l11Begin_f : Fs := ⟨23, [.bx [AI, AI, AI, .own [.sc (.int .i64), .sl [.sc (.int .i64), .sc (.str), .sc (.str)], .sc (.int .i64), .sl [.sc (.int .i64)]] [.F, .F, .F, .F] [], .own [.sc (.int .i64), .sc (.bool)] [.F, .F] [], AI], .one (.dz [.sc (.int .i64), .sc (.str), .sc (.str)] [])], fun m vs k => ap 7 (spec_l11Begin m) vs (lm 8 fun z => k (fRet ⟨[.one (.own (KR 0 0) [.sc (.int .i64), .sc (.int .i64), .sc (.int .i64), .sl [.sc (.int .i64), .sc (.str), .sc (.str)], .sc (.bool)] [.F, .F, .F, .F, .F] []), .one (RI)], [[none, none, none, none, none, none], [none]], [some [RI, RI, RI, .own (KR 1000 3) [.sc (.int .i64), .sl [.sc (.int .i64), .sc (.str), .sc (.str)], .sc (.int .i64), .sl [.sc (.int .i64)]] [.F, .F, .F, .F] [], .own (KR 1000 4) [.sc (.int .i64), .sc (.bool)] [.F, .F] [], RI], none]⟩ z))⟩
noncomputable def spec_l11Begin_t : List Fs := spec_l11Begin_f :: spec_l11Holds_t
theorem spec_l11Begin_g : FGood CX prims spec_l11Begin_t ∧ FEqn CX prims spec_l11Begin_f := fnG spec_l11Holds_g.1 spec_l11Begin_f Tryz.f23 ⟨23, 2, 64, 49⟩ [] (fun _ _ => rfl) (fun _ _ _ => by kernel_rfl) trivial trivial (fun _ _ _ _ _ => by kernel_rfl)

/-! loop.example/g00244/spec.Begin -/
noncomputable def spec_Begin : Nat → T → T → T → T → T → T → T → (T → T → T → T → T → T → T → T → An) → An
  | 0, _, _, _, _, _, _, _, _ => .bad
  | m + 1, x0, x1, x2, x3, x4, x5, x6, k0 =>
    spec_l11Copy m x0 x1 x2 (T.l x3.rows) (T.l x4.rows) x5
    (fun y0 y1 y2 y3 y4 y5 => spec_CoordOk m x0 x1 x2 (T.l x3.rows) (T.l x4.rows) x5
    (fun y6 => cond (!y6.bool)
    (k0 y0 y1 y2 (T.l y3.rows) (T.l y4.rows) y5 (T.l []) (T.i 0))
    (spec_l11Begin m y0 y1 y2 (T.l y3.rows) (T.l y4.rows) y5 (T.l x6.rows)
    (fun y7 y8 y9 y10 y11 y12 y13 y14 => k0 y9 y10 y11 (T.l y12.rows) (T.l y13.rows) y14 (T.l y7.rows) y8))))
noncomputable def spec_Begin_f : Fs := ⟨6, [.agg [AI, AI, AI, .dz [.sc (.int .i64), .sl [.sc (.int .i64), .sc (.str), .sc (.str)], .sc (.int .i64), .sl [.sc (.int .i64)]] [], .dz [.sc (.int .i64), .sc (.bool)] [], AI], .one (.dz [.sc (.int .i64), .sc (.str), .sc (.str)] [])], fun m vs k => ap 7 (spec_Begin m) vs (lm 8 fun z => k (fRet ⟨[.agg [RI, RI, RI, .own (KR 0 3) [.sc (.int .i64), .sl [.sc (.int .i64), .sc (.str), .sc (.str)], .sc (.int .i64), .sl [.sc (.int .i64)]] [.F, .F, .F, .F] [], .own (KR 0 4) [.sc (.int .i64), .sc (.bool)] [.F, .F] [], RI], .one (.own (KR 1 0) [.sc (.int .i64), .sc (.int .i64), .sc (.int .i64), .sl [.sc (.int .i64), .sc (.str), .sc (.str)], .sc (.bool)] [.F, .F, .F, .F, .F] []), .one (RI)], [[none, none, none, none, none, none], [none]], [none, none]⟩ z))⟩
noncomputable def spec_Begin_t : List Fs := spec_Begin_f :: spec_l11Begin_t
theorem spec_Begin_g : FGood CX prims spec_Begin_t ∧ FEqn CX prims spec_Begin_f := fnG spec_l11Begin_g.1 spec_Begin_f Tryz.f6 ⟨6, 2, 25, 112⟩ [] (fun _ _ => rfl) (fun _ _ _ => by kernel_rfl) trivial trivial (fun _ _ _ _ _ => by kernel_rfl)

/-! loop.example/g00244/impl.copyCoord -/
noncomputable def impl_copyCoord_L0_1 (m : Nat) : Nat → T → T → T → T → T → T → T → T → T → T → T → T → T → T → T → T → T → T → T → T → T → T → T → T → (T → T → T → T → T → T → T → T → T → T → T → T → T → T → T → T → T → T → T → T → T → An) → (T → T → T → T → T → T → T → T → T → T → T → T → T → T → T → T → T → T → T → T → An) → An
  | 0, _, _, _, _, _, _, _, _, _, _, _, _, _, _, _, _, _, _, _, _, _, _, _, _, _, _ => .bad
  | n + 1, x0, x1, x2, x3, x4, x5, x6, x7, x8, x9, x10, x11, x12, x13, x14, x15, x16, x17, x18, x19, x20, x21, x22, x23, k0, k1 =>
    cond (decide (x5.int < x4.int))
    (cond (decide ((0 : Int) ≤ x5.int ∧ x5.int < (x3.rows.length : Int)))
    (slices_Clone___impl_Op_impl_Op_ m (T.l ((x3.rows.getD (Int.toNat x5.int) []).getD 1 dflt).rows)
    (fun y2 => slices_Clone___int_int_ m (T.l ((x3.rows.getD (Int.toNat x5.int) []).getD 3 dflt).rows)
    (fun y3 => cond (decide ((x23.rows.length + 1) * 4 ≤ maxRow))
    (impl_copyCoord_L0_1 m n (T.i (x0.int.toNat : Int)) (T.i (x1.int.toNat : Int)) (T.i (x2.int.toNat : Int)) x3 x4 (T.i (IntKind.i64.wrap (x5.int + 1))) x6 x7 x8 x9 x10 x11 x12 x13 x14 x15 x16 x17 x18 x19 x20 (T.l x21.rows) (T.l x22.rows) (T.l (x23.rows ++ [[((x3.rows.getD (Int.toNat x5.int) []).getD 0 dflt), (T.l y2.rows), ((x3.rows.getD (Int.toNat x5.int) []).getD 2 dflt), (T.l y3.rows)]])) k0 k1)
    (.bad))))
    (.bad))
    (k0 (T.i (x0.int.toNat : Int)) (T.i (x1.int.toNat : Int)) (T.i (x2.int.toNat : Int)) x6 x7 x8 x9 x10 x11 x12 x13 x14 x15 x16 x17 x18 x19 x20 (T.l x21.rows) (T.l x22.rows) (T.l x23.rows))
noncomputable def impl_copyCoord_L0_0 (m : Nat) : Nat → T → T → T → T → T → T → T → T → T → T → T → T → T → T → T → T → T → T → T → T → T → T → T → (T → T → T → T → T → T → T → T → T → T → T → T → T → T → T → T → T → T → T → T → T → An) → (T → T → T → T → T → T → T → T → T → T → T → T → T → T → T → T → T → T → T → T → An) → An
  | 0, _, _, _, _, _, _, _, _, _, _, _, _, _, _, _, _, _, _, _, _, _, _, _, _, _ => .bad
  | n + 1, x0, x1, x2, x3, x4, x5, x6, x7, x8, x9, x10, x11, x12, x13, x14, x15, x16, x17, x18, x19, x20, x21, x22, k0, k1 =>
    cond (decide (x5.int < x4.int))
    (cond (decide ((0 : Int) ≤ x5.int ∧ x5.int < (x3.rows.length : Int)))
    (slices_Clone___impl_Op_impl_Op_ m (T.l ((x3.rows.getD (Int.toNat x5.int) []).getD 1 dflt).rows)
    (fun y0 => slices_Clone___int_int_ m (T.l ((x3.rows.getD (Int.toNat x5.int) []).getD 3 dflt).rows)
    (fun y1 => impl_copyCoord_L0_1 m n (T.i (x0.int.toNat : Int)) (T.i (x1.int.toNat : Int)) (T.i (x2.int.toNat : Int)) x3 x4 (T.i (IntKind.i64.wrap (x5.int + 1))) x6 x7 x8 x9 x10 x11 x12 x13 x14 x15 x16 x17 x18 x19 x20 (T.l x21.rows) (T.l x22.rows) (T.l [[((x3.rows.getD (Int.toNat x5.int) []).getD 0 dflt), (T.l y0.rows), ((x3.rows.getD (Int.toNat x5.int) []).getD 2 dflt), (T.l y1.rows)]]) k0 k1)))
    (.bad))
    (k1 (T.i (x0.int.toNat : Int)) (T.i (x1.int.toNat : Int)) (T.i (x2.int.toNat : Int)) x6 x7 x8 x9 x10 x11 x12 x13 x14 x15 x16 x17 x18 x19 x20 (T.l x21.rows) (T.l x22.rows))
def impl_copyCoord_e0_0 : Pack := ⟨[(1, EP 0), (2, EP 1), (3, EP 2)], [((KI 0), .box [LI, LI, LI, LD [.sc (.int .i64), .sl [.sc (.int .i64), .sc (.str), .sc (.str)], .sc (.int .i64), .sl [.sc (.int .i64)]], LD [.sc (.int .i64), .sc (.bool)], LI]), ((KI 1), .box [LI, LI, LI, LA (KI 4) [.sc (.int .i64), .sl [.sc (.int .i64), .sc (.str), .sc (.str)], .sc (.int .i64), .sl [.sc (.int .i64)]], LA (KI 5) [.sc (.int .i64), .sc (.bool)], LI]), ((KI 2), .box [LI, LI, LI, LA (KI 6) [.sc (.int .i64), .sl [.sc (.int .i64), .sc (.str), .sc (.str)], .sc (.int .i64), .sl [.sc (.int .i64)]], LD [.sc (.int .i64), .sc (.bool)], LI]), ([4000000], .gone), ((KI 4), .row [.sc (.int .i64), .sl [.sc (.int .i64), .sc (.str), .sc (.str)], .sc (.int .i64), .sl [.sc (.int .i64)]] [.F, .O [.F, .F, .F], .F, .O [.F]] []), ((KI 5), .row [.sc (.int .i64), .sc (.bool)] [.F, .F] []), ((KI 6), .row [.sc (.int .i64), .sl [.sc (.int .i64), .sc (.str), .sc (.str)], .sc (.int .i64), .sl [.sc (.int .i64)]] [.F, .O [.F, .F, .F], .F, .O [.F]] [])]⟩
def impl_copyCoord_e0_1 : Pack := ⟨[(1, EP 0), (2, EP 1), (3, EP 2)], [((KI 0), .box [LI, LI, LI, LD [.sc (.int .i64), .sl [.sc (.int .i64), .sc (.str), .sc (.str)], .sc (.int .i64), .sl [.sc (.int .i64)]], LD [.sc (.int .i64), .sc (.bool)], LI]), ((KI 1), .box [LI, LI, LI, LA (KI 4) [.sc (.int .i64), .sl [.sc (.int .i64), .sc (.str), .sc (.str)], .sc (.int .i64), .sl [.sc (.int .i64)]], LA (KI 5) [.sc (.int .i64), .sc (.bool)], LI]), ((KI 2), .box [LI, LI, LI, LN [.sc (.int .i64), .sl [.sc (.int .i64), .sc (.str), .sc (.str)], .sc (.int .i64), .sl [.sc (.int .i64)]], LD [.sc (.int .i64), .sc (.bool)], LI]), ([4000000], .gone), ((KI 4), .row [.sc (.int .i64), .sl [.sc (.int .i64), .sc (.str), .sc (.str)], .sc (.int .i64), .sl [.sc (.int .i64)]] [.F, .O [.F, .F, .F], .F, .O [.F]] []), ((KI 5), .row [.sc (.int .i64), .sc (.bool)] [.F, .F] [])]⟩
noncomputable def impl_copyCoord : Nat → T → T → T → T → T → T → (T → T → T → T → T → T → An) → An
  | 0, _, _, _, _, _, _, _ => .bad
  | m + 1, x0, x1, x2, x3, x4, x5, k0 =>
    impl_copyCoord_L0_0 m m (T.i 0) (T.i 0) (T.i 0) (T.l x3.rows) (T.i (x3.rows.length : Int)) (T.i 0) x0 x1 x2 (T.l x3.rows) (T.l x4.rows) x5 (T.i 0) (T.i 0) (T.i 0) (T.i 0) x0 x1 x2 (T.l x4.rows) x5 (T.l []) (T.l [])
    (fun y4 y5 y6 y7 y8 y9 y10 y11 y12 y13 y14 y15 y16 y17 y18 y19 y20 y21 y22 y23 y24 => slices_Clone___impl_Choice_impl_Choice_ m (T.l y11.rows)
    (fun y45 => k0 y17 y18 y19 (T.l y24.rows) (T.l y45.rows) y21))
    (fun y25 y26 y27 y28 y29 y30 y31 y32 y33 y34 y35 y36 y37 y38 y39 y40 y41 y42 y43 y44 => slices_Clone___impl_Choice_impl_Choice_ m (T.l y32.rows)
    (fun y46 => k0 y38 y39 y40 (T.l []) (T.l y46.rows) y42))
noncomputable def impl_copyCoord_f : Fs := ⟨27, [.agg [AI, AI, AI, .dz [.sc (.int .i64), .sl [.sc (.int .i64), .sc (.str), .sc (.str)], .sc (.int .i64), .sl [.sc (.int .i64)]] [], .dz [.sc (.int .i64), .sc (.bool)] [], AI]], fun m vs k => ap 6 (impl_copyCoord m) vs (lm 6 fun z => k (fRet ⟨[.agg [RI, RI, RI, .own (KR 0 3) [.sc (.int .i64), .sl [.sc (.int .i64), .sc (.str), .sc (.str)], .sc (.int .i64), .sl [.sc (.int .i64)]] [.F, .O [.F, .F, .F], .F, .O [.F]] [], .own (KR 0 4) [.sc (.int .i64), .sc (.bool)] [.F, .F] [], RI]], [[none, none, none, none, none, none]], [none]⟩ z))⟩
noncomputable def impl_copyCoord_l : List Ls := [⟨[0, 1, 0, 1, 1, 1], ⟨[(1, EP 0), (2, EP 1), (3, EP 2), (9, .one (LD [.sc (.int .i64), .sl [.sc (.int .i64), .sc (.str), .sc (.str)], .sc (.int .i64), .sl [.sc (.int .i64)]])), (10, .one (LI)), (11, .one (LI))], [((KI 0), .box [LI, LI, LI, LD [.sc (.int .i64), .sl [.sc (.int .i64), .sc (.str), .sc (.str)], .sc (.int .i64), .sl [.sc (.int .i64)]], LD [.sc (.int .i64), .sc (.bool)], LI]), ((KI 1), .box [LI, LI, LI, LA (KI 4) [.sc (.int .i64), .sl [.sc (.int .i64), .sc (.str), .sc (.str)], .sc (.int .i64), .sl [.sc (.int .i64)]], LA (KI 5) [.sc (.int .i64), .sc (.bool)], LI]), ((KI 2), .box [LI, LI, LI, LA (KI 6) [.sc (.int .i64), .sl [.sc (.int .i64), .sc (.str), .sc (.str)], .sc (.int .i64), .sl [.sc (.int .i64)]], LD [.sc (.int .i64), .sc (.bool)], LI]), ([4000000], .gone), ((KI 4), .row [.sc (.int .i64), .sl [.sc (.int .i64), .sc (.str), .sc (.str)], .sc (.int .i64), .sl [.sc (.int .i64)]] [.F, .O [.F, .F, .F], .F, .O [.F]] []), ((KI 5), .row [.sc (.int .i64), .sc (.bool)] [.F, .F] []), ((KI 6), .row [.sc (.int .i64), .sl [.sc (.int .i64), .sc (.str), .sc (.str)], .sc (.int .i64), .sl [.sc (.int .i64)]] [.F, .O [.F, .F, .F], .F, .O [.F]] [])]⟩, fun m n vs k => ap 24 (impl_copyCoord_L0_1 m n) vs (lm 21 fun z => k (.exit 0) (fPack impl_copyCoord_e0_0 z)) (lm 20 fun z => k (.exit 0) (fPack impl_copyCoord_e0_1 z))⟩, ⟨[0, 1, 0, 1, 1, 1], ⟨[(1, EP 0), (2, EP 1), (3, EP 2), (9, .one (LD [.sc (.int .i64), .sl [.sc (.int .i64), .sc (.str), .sc (.str)], .sc (.int .i64), .sl [.sc (.int .i64)]])), (10, .one (LI)), (11, .one (LI))], [((KI 0), .box [LI, LI, LI, LD [.sc (.int .i64), .sl [.sc (.int .i64), .sc (.str), .sc (.str)], .sc (.int .i64), .sl [.sc (.int .i64)]], LD [.sc (.int .i64), .sc (.bool)], LI]), ((KI 1), .box [LI, LI, LI, LA (KI 4) [.sc (.int .i64), .sl [.sc (.int .i64), .sc (.str), .sc (.str)], .sc (.int .i64), .sl [.sc (.int .i64)]], LA (KI 5) [.sc (.int .i64), .sc (.bool)], LI]), ((KI 2), .box [LI, LI, LI, LN [.sc (.int .i64), .sl [.sc (.int .i64), .sc (.str), .sc (.str)], .sc (.int .i64), .sl [.sc (.int .i64)]], LD [.sc (.int .i64), .sc (.bool)], LI]), ([4000000], .gone), ((KI 4), .row [.sc (.int .i64), .sl [.sc (.int .i64), .sc (.str), .sc (.str)], .sc (.int .i64), .sl [.sc (.int .i64)]] [.F, .O [.F, .F, .F], .F, .O [.F]] []), ((KI 5), .row [.sc (.int .i64), .sc (.bool)] [.F, .F] [])]⟩, fun m n vs k => ap 23 (impl_copyCoord_L0_0 m n) vs (lm 21 fun z => k (.exit 0) (fPack impl_copyCoord_e0_0 z)) (lm 20 fun z => k (.exit 0) (fPack impl_copyCoord_e0_1 z))⟩]
noncomputable def impl_copyCoord_t : List Fs := impl_copyCoord_f :: spec_Begin_t
theorem impl_copyCoord_g : FGood CX prims impl_copyCoord_t ∧ FEqn CX prims impl_copyCoord_f := fnG spec_Begin_g.1 impl_copyCoord_f Tryz.f27 ⟨27, 1, 35, 4⟩ impl_copyCoord_l (fun _ _ => rfl) (fun _ _ _ => by kernel_rfl) ⟨fun _ _ _ => rfl, fun _ _ _ => rfl, trivial⟩ ⟨fun _ _ _ _ _ _ => by kernel_rfl, fun _ _ _ _ _ _ => by kernel_rfl, trivial⟩ (fun _ _ _ _ _ => by kernel_rfl)

/-! loop.example/g00244/impl.inRange -/
noncomputable def impl_inRange : Nat → T → T → T → (T → An) → An
  | 0, _, _, _, _ => .bad
  | m + 1, x0, x1, x2, k0 =>
    cond ((decide (x0.int ≥ x1.int)) == true)
    (k0 (T.b (decide (x0.int ≤ x2.int))))
    (k0 (T.b false))
noncomputable def impl_inRange_f : Fs := ⟨52, [.one (AI), .one (AI), .one (AI)], fun m vs k => ap 3 (impl_inRange m) vs (lm 1 fun z => k (fRet ⟨[.one (RB)], [[none], [none], [none]], [none, none, none]⟩ z))⟩
noncomputable def impl_inRange_t : List Fs := impl_inRange_f :: impl_copyCoord_t
theorem impl_inRange_g : FGood CX prims impl_inRange_t ∧ FEqn CX prims impl_inRange_f := fnG impl_copyCoord_g.1 impl_inRange_f Tryz.f52 ⟨52, 3, 15, 64⟩ [] (fun _ _ => rfl) (fun _ _ _ => by kernel_rfl) trivial trivial (fun _ _ _ _ _ => by kernel_rfl)

/-! (*loop.example/g00244/impl.Coord).nextTx -/
noncomputable def impl_Coord_nextTx : Nat → T → (T → An) → An
  | 0, _, _ => .bad
  | m + 1, x0, k0 =>
    k0 (T.i (IntKind.i64.wrap ((IntKind.i64.wrap ((((row1 x0).drop 1).getD 0 dflt).int * 1000)) + (((row1 x0).drop 2).getD 0 dflt).int)))
noncomputable def impl_Coord_nextTx_f : Fs := ⟨53, [.rpt [.sc (.int .i64), .sc (.int .i64), .sc (.int .i64), .sl [.sc (.int .i64), .sl [.sc (.int .i64), .sc (.str), .sc (.str)], .sc (.int .i64), .sl [.sc (.int .i64)]], .sl [.sc (.int .i64), .sc (.bool)], .sc (.int .i64)] []], fun m vs k => ap 1 (impl_Coord_nextTx m) vs (lm 1 fun z => k (fRet ⟨[.one (RI)], [[]], [none]⟩ z))⟩
noncomputable def impl_Coord_nextTx_t : List Fs := impl_Coord_nextTx_f :: impl_inRange_t
theorem impl_Coord_nextTx_g : FGood CX prims impl_Coord_nextTx_t ∧ FEqn CX prims impl_Coord_nextTx_f := fnG impl_inRange_g.1 impl_Coord_nextTx_f Tryz.f53 ⟨53, 1, 13, 4⟩ [] (fun _ _ => rfl) (fun _ _ _ => by kernel_rfl) trivial trivial (fun _ _ _ _ _ => by kernel_rfl)

/-! (*loop.example/g00244/impl.Coord).choiceAt$1 -/
noncomputable def impl_Coord_choiceAt_1 : Nat → T → T → T → (T → An) → An
  | 0, _, _, _, _ => .bad
  | m + 1, x0, x1, x2, k0 =>
    k0 (T.b (x0.int == ((row1 x2).getD 0 dflt).int))
noncomputable def impl_Coord_choiceAt_1_f : Fs := ⟨70, [.agg [AI, AB], .rpt [.sc (.int .i64)] []], fun m vs k => ap 3 (impl_Coord_choiceAt_1 m) vs (lm 1 fun z => k (fRet ⟨[.one (RB)], [[none, none], []], [none, none]⟩ z))⟩
noncomputable def impl_Coord_choiceAt_1_t : List Fs := impl_Coord_choiceAt_1_f :: impl_Coord_nextTx_t
theorem impl_Coord_choiceAt_1_g : FGood CX prims impl_Coord_choiceAt_1_t ∧ FEqn CX prims impl_Coord_choiceAt_1_f := fnG impl_Coord_nextTx_g.1 impl_Coord_choiceAt_1_f Tryz.f70 ⟨70, 2, 8, 8⟩ [] (fun _ _ => rfl) (fun _ _ _ => by kernel_rfl) trivial trivial (fun _ _ _ _ _ => by kernel_rfl)

/-! slices.IndexFunc[[]loop.example/g00244/impl.Choice,loop.example/g00244/impl.Choice] -/
noncomputable def slices_IndexFunc___impl_Choice_impl_Choice__L0_0 (m : Nat) : Nat → T → T → T → T → (T → An) → An → An
  | 0, _, _, _, _, _, _ => .bad
  | n + 1, x0, x1, x2, x3, k0, k1 =>
    cond (decide (x3.int < x2.int))
    (cond (decide ((0 : Int) ≤ x3.int ∧ x3.int < (x0.rows.length : Int)))
    (impl_Coord_choiceAt_1 m ((x0.rows.getD (Int.toNat x3.int) []).getD 0 dflt) ((x0.rows.getD (Int.toNat x3.int) []).getD 1 dflt) (T.l [(row1 x1)])
    (fun y0 => cond y0.bool
    (k0 x3)
    (slices_IndexFunc___impl_Choice_impl_Choice__L0_0 m n x0 (T.l [(row1 x1)]) x2 (T.i (IntKind.i64.wrap (x3.int + 1))) k0 k1)))
    (.bad))
    (k1 )
noncomputable def slices_IndexFunc___impl_Choice_impl_Choice_ : Nat → T → T → (T → An) → An
  | 0, _, _, _ => .bad
  | m + 1, x0, x1, k0 =>
    slices_IndexFunc___impl_Choice_impl_Choice__L0_0 m m (T.l x0.rows) (T.l [(row1 x1)]) (T.i (x0.rows.length : Int)) (T.i 0)
    (fun y1 => k0 y1)
    (k0 (T.i (-1)))
noncomputable def slices_IndexFunc___impl_Choice_impl_Choice__f : Fs := ⟨69, [.one (.dz [.sc (.int .i64), .sc (.bool)] []), .fn 70 [.rpt [.sc (.int .i64)] []]], fun m vs k => ap 2 (slices_IndexFunc___impl_Choice_impl_Choice_ m) vs (lm 1 fun z => k (fRet ⟨[.one (RI)], [[none], []], [none, none]⟩ z))⟩
noncomputable def slices_IndexFunc___impl_Choice_impl_Choice__l : List Ls := [⟨[0, 1, 0, 1], ⟨[(0, .one (LD [.sc (.int .i64), .sc (.bool)])), (1, .fn 70 [.rp [([4000000], 0)] [.sc (.int .i64)] []]), (7, .one (LI)), (8, .one (LI))], [([4000000], .gone)]⟩, fun m n vs k => ap 4 (slices_IndexFunc___impl_Choice_impl_Choice__L0_0 m n) vs (lm 1 fun z => k .ret (fPack ⟨[(4, .one (LI))], []⟩ z)) (lm 0 fun z => k (.exit 0) (fPack ⟨[], []⟩ z))⟩]
noncomputable def slices_IndexFunc___impl_Choice_impl_Choice__t : List Fs := slices_IndexFunc___impl_Choice_impl_Choice__f :: impl_Coord_choiceAt_1_t
theorem slices_IndexFunc___impl_Choice_impl_Choice__g : FGood CX prims slices_IndexFunc___impl_Choice_impl_Choice__t ∧ FEqn CX prims slices_IndexFunc___impl_Choice_impl_Choice__f := fnG impl_Coord_choiceAt_1_g.1 slices_IndexFunc___impl_Choice_impl_Choice__f Tryz.f69 ⟨69, 2, 19, 16⟩ slices_IndexFunc___impl_Choice_impl_Choice__l (fun _ _ => rfl) (fun _ _ _ => by kernel_rfl) ⟨fun _ _ _ => rfl, trivial⟩ ⟨fun _ _ _ _ _ _ => by kernel_rfl, trivial⟩ (fun _ _ _ _ _ => by kernel_rfl)

/-! (*loop.example/g00244/impl.Coord).choiceAt -/
noncomputable def impl_Coord_choiceAt : Nat → T → T → (T → An) → An
  | 0, _, _, _ => .bad
  | m + 1, x0, x1, k0 =>
    slices_IndexFunc___impl_Choice_impl_Choice_ m (T.l (((row1 x0).drop 4).getD 0 dflt).rows) (T.l [[x1]])
    (fun y0 => k0 y0)
noncomputable def impl_Coord_choiceAt_f : Fs := ⟨54, [.rpt [.sc (.int .i64), .sc (.int .i64), .sc (.int .i64), .sl [.sc (.int .i64), .sl [.sc (.int .i64), .sc (.str), .sc (.str)], .sc (.int .i64), .sl [.sc (.int .i64)]], .sl [.sc (.int .i64), .sc (.bool)], .sc (.int .i64)] [], .one (AI)], fun m vs k => ap 2 (impl_Coord_choiceAt m) vs (lm 1 fun z => k (fRet ⟨[.one (RI)], [[], [none]], [none, none]⟩ z))⟩
noncomputable def impl_Coord_choiceAt_t : List Fs := impl_Coord_choiceAt_f :: slices_IndexFunc___impl_Choice_impl_Choice__t
theorem impl_Coord_choiceAt_g : FGood CX prims impl_Coord_choiceAt_t ∧ FEqn CX prims impl_Coord_choiceAt_f := fnG slices_IndexFunc___impl_Choice_impl_Choice__g.1 impl_Coord_choiceAt_f Tryz.f54 ⟨54, 2, 11, 16⟩ [] (fun _ _ => rfl) (fun _ _ _ => by kernel_rfl) trivial trivial (fun _ _ _ _ _ => by kernel_rfl)

/-! loop.example/g00244/impl.isKeyByte -/
noncomputable def impl_isKeyByte : Nat → T → (T → An) → An
  | 0, _, _ => .bad
  | m + 1, x0, k0 =>
    cond ((decide (x0.int ≥ 97)) == true)
    (cond ((decide (x0.int ≤ 122)) == false)
    (cond ((decide (x0.int ≥ 48)) == true)
    (k0 (T.b (decide (x0.int ≤ 57))))
    (k0 (T.b false)))
    (k0 (T.b true)))
    (cond ((decide (x0.int ≥ 48)) == true)
    (k0 (T.b (decide (x0.int ≤ 57))))
    (k0 (T.b false)))
noncomputable def impl_isKeyByte_f : Fs := ⟨100, [.one (.sc (.int .u8) (.l []))], fun m vs k => ap 1 (impl_isKeyByte m) vs (lm 1 fun z => k (fRet ⟨[.one (RB)], [[none]], [none]⟩ z))⟩
noncomputable def impl_isKeyByte_t : List Fs := impl_isKeyByte_f :: impl_Coord_choiceAt_t
theorem impl_isKeyByte_g : FGood CX prims impl_isKeyByte_t ∧ FEqn CX prims impl_isKeyByte_f := fnG impl_Coord_choiceAt_g.1 impl_isKeyByte_f Tryz.f100 ⟨100, 1, 17, 4⟩ [] (fun _ _ => rfl) (fun _ _ _ => by kernel_rfl) trivial trivial (fun _ _ _ _ _ => by kernel_rfl)

/-! loop.example/g00244/impl.isWord -/
noncomputable def impl_isWord_L0_0 (m : Nat) : Nat → T → T → (T → An) → An → An
  | 0, _, _, _, _ => .bad
  | n + 1, x0, x1, k0, k1 =>
    cond (decide (x1.int < (x0.str.size : Int)))
    (cond (decide ((0 : Int) ≤ x1.int ∧ x1.int < (x0.str.size : Int)))
    (impl_isKeyByte m (T.i ((x0.str.data.toList.getD (Int.toNat x1.int) 0).toNat : Int))
    (fun y0 => cond (!y0.bool)
    (k0 (T.b false))
    (impl_isWord_L0_0 m n x0 (T.i (IntKind.i64.wrap (x1.int + 1))) k0 k1)))
    (.bad))
    (k1 )
noncomputable def impl_isWord : Nat → T → (T → An) → An
  | 0, _, _ => .bad
  | m + 1, x0, k0 =>
    impl_isWord_L0_0 m m x0 (T.i 0)
    (fun y1 => k0 y1)
    (k0 (T.b true))
noncomputable def impl_isWord_f : Fs := ⟨88, [.one (AS)], fun m vs k => ap 1 (impl_isWord m) vs (lm 1 fun z => k (fRet ⟨[.one (RB)], [[none]], [none]⟩ z))⟩
noncomputable def impl_isWord_l : List Ls := [⟨[0, 1, 0, 1], ⟨[(0, .one (LS)), (3, .one (LI))], []⟩, fun m n vs k => ap 2 (impl_isWord_L0_0 m n) vs (lm 1 fun z => k .ret (fPack ⟨[(2, .one (LB))], []⟩ z)) (lm 0 fun z => k (.exit 0) (fPack ⟨[], []⟩ z))⟩]
noncomputable def impl_isWord_t : List Fs := impl_isWord_f :: impl_isKeyByte_t
theorem impl_isWord_g : FGood CX prims impl_isWord_t ∧ FEqn CX prims impl_isWord_f := fnG impl_isKeyByte_g.1 impl_isWord_f Tryz.f88 ⟨88, 1, 15, 4⟩ impl_isWord_l (fun _ _ => rfl) (fun _ _ _ => by kernel_rfl) ⟨fun _ _ _ => rfl, trivial⟩ ⟨fun _ _ _ _ _ _ => by kernel_rfl, trivial⟩ (fun _ _ _ _ _ => by kernel_rfl)

/-! loop.example/g00244/impl.KeyOk -/
noncomputable def impl_KeyOk : Nat → T → (T → An) → An
  | 0, _, _ => .bad
  | m + 1, x0, k0 =>
    impl_inRange m (T.i (x0.str.size : Int)) (T.i 1) (T.i 12)
    (fun y0 => cond (y0.bool == true)
    (impl_isWord m x0
    (fun y1 => k0 y1))
    (k0 (T.b false)))
noncomputable def impl_KeyOk_f : Fs := ⟨83, [.one (AS)], fun m vs k => ap 1 (impl_KeyOk m) vs (lm 1 fun z => k (fRet ⟨[.one (RB)], [[none]], [none]⟩ z))⟩
noncomputable def impl_KeyOk_t : List Fs := impl_KeyOk_f :: impl_isWord_t
theorem impl_KeyOk_g : FGood CX prims impl_KeyOk_t ∧ FEqn CX prims impl_KeyOk_f := fnG impl_isWord_g.1 impl_KeyOk_f Tryz.f83 ⟨83, 1, 10, 4⟩ [] (fun _ _ => rfl) (fun _ _ _ => by kernel_rfl) trivial trivial (fun _ _ _ _ _ => by kernel_rfl)

/-! loop.example/g00244/impl.opOk -/
noncomputable def impl_opOk : Nat → T → T → T → (T → An) → An
  | 0, _, _, _, _ => .bad
  | m + 1, x0, x1, x2, k0 =>
    jn (fun (j5 : T → An) =>
    cond (x0.int == 1)
    (j5 (T.b (x0.int == 1)))
    (j5 (T.b (x0.int == 3))))
    (fun y0 => cond y0.bool
    (impl_KeyOk m x1
    (fun y1 => cond (y1.bool == true)
    (k0 (T.b (decide ((x2.str.size : Int) ≤ 20))))
    (k0 (T.b false))))
    (cond (x0.int == 2)
    (impl_KeyOk m x1
    (fun y3 => cond (y3.bool == true)
    (k0 (T.b (x2.str.toList == (⟨#[]⟩ : ByteArray).toList)))
    (k0 (T.b false))))
    (k0 (T.b false))))
noncomputable def impl_opOk_f : Fs := ⟨72, [.agg [AI, AS, AS]], fun m vs k => ap 3 (impl_opOk m) vs (lm 1 fun z => k (fRet ⟨[.one (RB)], [[none, none, none]], [none]⟩ z))⟩
noncomputable def impl_opOk_t : List Fs := impl_opOk_f :: impl_KeyOk_t
theorem impl_opOk_g : FGood CX prims impl_opOk_t ∧ FEqn CX prims impl_opOk_f := fnG impl_KeyOk_g.1 impl_opOk_f Tryz.f72 ⟨72, 1, 27, 4⟩ [] (fun _ _ => rfl) (fun _ _ _ => by kernel_rfl) trivial trivial (fun _ _ _ _ _ => by kernel_rfl)

/-! loop.example/g00244/impl.OpsOk -/
noncomputable def impl_OpsOk_L0_0 (m : Nat) : Nat → T → T → T → T → (T → An) → (T → An) → An
  | 0, _, _, _, _, _, _ => .bad
  | n + 1, x0, x1, x2, x3, k0, k1 =>
    cond (decide (x3.int < x2.int))
    (cond (decide ((0 : Int) ≤ x3.int ∧ x3.int < (x1.rows.length : Int)))
    (impl_opOk m ((x1.rows.getD (Int.toNat x3.int) []).getD 0 dflt) ((x1.rows.getD (Int.toNat x3.int) []).getD 1 dflt) ((x1.rows.getD (Int.toNat x3.int) []).getD 2 dflt)
    (fun y0 => cond ((!y0.bool) == false)
    (cond ((decide (x3.int > 0)) == true)
    (cond (decide ((0 : Int) ≤ (IntKind.i64.wrap (x3.int - 1)) ∧ (IntKind.i64.wrap (x3.int - 1)) < (x0.rows.length : Int)))
    (cond ((Op.bytesLess ((x1.rows.getD (Int.toNat x3.int) []).getD 1 dflt).str.toList (((x0.rows.getD (Int.toNat (IntKind.i64.wrap (x3.int - 1))) []).drop 1).getD 0 dflt).str.toList) || (((x1.rows.getD (Int.toNat x3.int) []).getD 1 dflt).str.toList == (((x0.rows.getD (Int.toNat (IntKind.i64.wrap (x3.int - 1))) []).drop 1).getD 0 dflt).str.toList))
    (k0 (T.b false))
    (impl_OpsOk_L0_0 m n x0 x1 x2 (T.i (IntKind.i64.wrap (x3.int + 1))) k0 k1))
    (.bad))
    (impl_OpsOk_L0_0 m n x0 x1 x2 (T.i (IntKind.i64.wrap (x3.int + 1))) k0 k1))
    (k0 (T.b false))))
    (.bad))
    (k1 x0)
noncomputable def impl_OpsOk : Nat → T → (T → An) → An
  | 0, _, _ => .bad
  | m + 1, x0, k0 =>
    impl_OpsOk_L0_0 m m (T.l x0.rows) (T.l x0.rows) (T.i (x0.rows.length : Int)) (T.i 0)
    (fun y2 => k0 y2)
    (fun y3 => impl_inRange m (T.i (y3.rows.length : Int)) (T.i 1) (T.i 8)
    (fun y4 => k0 y4))
noncomputable def impl_OpsOk_f : Fs := ⟨56, [.one (.dz [.sc (.int .i64), .sc (.str), .sc (.str)] [])], fun m vs k => ap 1 (impl_OpsOk m) vs (lm 1 fun z => k (fRet ⟨[.one (RB)], [[none]], [none]⟩ z))⟩
noncomputable def impl_OpsOk_l : List Ls := [⟨[0, 1, 0, 1], ⟨[(0, .one (LD [.sc (.int .i64), .sc (.str), .sc (.str)])), (5, .one (LD [.sc (.int .i64), .sc (.str), .sc (.str)])), (6, .one (LI)), (7, .one (LI))], [([4000000], .gone)]⟩, fun m n vs k => ap 4 (impl_OpsOk_L0_0 m n) vs (lm 1 fun z => k .ret (fPack ⟨[(2, .one (LB))], []⟩ z)) (lm 1 fun z => k (.exit 0) (fPack ⟨[(0, .one (LD [.sc (.int .i64), .sc (.str), .sc (.str)]))], [([4000000], .gone)]⟩ z))⟩]
noncomputable def impl_OpsOk_t : List Fs := impl_OpsOk_f :: impl_opOk_t
theorem impl_OpsOk_g : FGood CX prims impl_OpsOk_t ∧ FEqn CX prims impl_OpsOk_f := fnG impl_opOk_g.1 impl_OpsOk_f Tryz.f56 ⟨56, 1, 34, 4⟩ impl_OpsOk_l (fun _ _ => rfl) (fun _ _ _ => by kernel_rfl) ⟨fun _ _ _ => rfl, trivial⟩ ⟨fun _ _ _ _ _ _ => by kernel_rfl, trivial⟩ (fun _ _ _ _ _ => by kernel_rfl)

/-! loop.example/g00244/impl.Hash -/
noncomputable def impl_Hash_L0_0 (m : Nat) : Nat → T → T → T → (T → An) → An
  | 0, _, _, _, _ => .bad
  | n + 1, x0, x1, x2, k0 =>
    cond (decide (x2.int < (x0.str.size : Int)))
    (cond (decide ((0 : Int) ≤ x2.int ∧ x2.int < (x0.str.size : Int)))
    (impl_Hash_L0_0 m n x0 (T.i (IntKind.u32.wrap ((bvBack .u32 (BitVec.ofInt IntKind.u32.bits x1.int ^^^ BitVec.ofInt IntKind.u32.bits (IntKind.u32.wrap ((x0.str.data.toList.getD (Int.toNat x2.int) 0).toNat : Int)))).int * 16777619))) (T.i (IntKind.i64.wrap (x2.int + 1))) k0)
    (.bad))
    (k0 x1)
noncomputable def impl_Hash : Nat → T → (T → An) → An
  | 0, _, _ => .bad
  | m + 1, x0, k0 =>
    impl_Hash_L0_0 m m x0 (T.i 2166136261) (T.i 0)
    (fun y0 => k0 (T.i (IntKind.i64.wrap y0.int)))
noncomputable def impl_Hash_f : Fs := ⟨84, [.one (AS)], fun m vs k => ap 1 (impl_Hash m) vs (lm 1 fun z => k (fRet ⟨[.one (RI)], [[none]], [none]⟩ z))⟩
noncomputable def impl_Hash_l : List Ls := [⟨[0, 1, 0, 1, 1], ⟨[(0, .one (LS)), (3, .one (⟨.sc, .sc (.int .u32), .l []⟩)), (4, .one (LI))], []⟩, fun m n vs k => ap 3 (impl_Hash_L0_0 m n) vs (lm 1 fun z => k (.exit 0) (fPack ⟨[(3, .one (⟨.sc, .sc (.int .u32), .l []⟩))], []⟩ z))⟩]
noncomputable def impl_Hash_t : List Fs := impl_Hash_f :: impl_OpsOk_t
theorem impl_Hash_g : FGood CX prims impl_Hash_t ∧ FEqn CX prims impl_Hash_f := fnG impl_OpsOk_g.1 impl_Hash_f Tryz.f84 ⟨84, 1, 21, 4⟩ impl_Hash_l (fun _ _ => rfl) (fun _ _ _ => by kernel_rfl) ⟨fun _ _ _ => rfl, trivial⟩ ⟨fun _ _ _ _ _ _ => by kernel_rfl, trivial⟩ (fun _ _ _ _ _ => by kernel_rfl)

/-! loop.example/g00244/impl.ShardOf -/
noncomputable def impl_ShardOf : Nat → T → T → (T → An) → An
  | 0, _, _, _ => .bad
  | m + 1, x0, x1, k0 =>
    cond (decide (x1.int < 1))
    (k0 (T.i 0))
    (impl_Hash m x0
    (fun y0 => cond (!decide (x1.int = 0))
    (k0 (T.i (Int.tmod y0.int x1.int)))
    (.bad)))
noncomputable def impl_ShardOf_f : Fs := ⟨73, [.one (AS), .one (AI)], fun m vs k => ap 2 (impl_ShardOf m) vs (lm 1 fun z => k (fRet ⟨[.one (RI)], [[none], [none]], [none, none]⟩ z))⟩
noncomputable def impl_ShardOf_t : List Fs := impl_ShardOf_f :: impl_Hash_t
theorem impl_ShardOf_g : FGood CX prims impl_ShardOf_t ∧ FEqn CX prims impl_ShardOf_f := fnG impl_Hash_g.1 impl_ShardOf_f Tryz.f73 ⟨73, 2, 11, 16⟩ [] (fun _ _ => rfl) (fun _ _ _ => by kernel_rfl) trivial trivial (fun _ _ _ _ _ => by kernel_rfl)

/-! slices.Clip[[]int,int] -/
noncomputable def slices_Clip___int_int_ : Nat → T → (T → An) → An
  | 0, _, _ => .bad
  | m + 1, x0, k0 =>
    cond (decide ((0 : Int) ≤ (x0.rows.length : Int) ∧ (x0.rows.length : Int) ≤ (x0.rows.length : Int) ∧ (x0.rows.length : Int) ≤ (x0.rows.length : Int)))
    (cond (decide ((0 : Int) ≤ 0 ∧ 0 ≤ (x0.rows.length : Int)))
    (k0 (T.l (x0.rows.take (Int.toNat (x0.rows.length : Int)))))
    (.bad))
    (.bad)
noncomputable def slices_Clip___int_int__f : Fs := ⟨75, [.one (.fz [.sc (.int .i64)] [])], fun m vs k => ap 1 (slices_Clip___int_int_ m) vs (lm 1 fun z => k (fRet ⟨[.one (.fz [.sc (.int .i64)] [])], [[none]], [none]⟩ z))⟩
noncomputable def slices_Clip___int_int__t : List Fs := slices_Clip___int_int__f :: impl_ShardOf_t
theorem slices_Clip___int_int__g : FGood CX prims slices_Clip___int_int__t ∧ FEqn CX prims slices_Clip___int_int__f := fnG impl_ShardOf_g.1 slices_Clip___int_int__f Tryz.f75 ⟨75, 1, 9, 4⟩ [] (fun _ _ => rfl) (fun _ _ _ => by kernel_rfl) trivial trivial (fun _ _ _ _ _ => by kernel_rfl)

/-! loop.example/g00244/impl.ShardsOf -/
noncomputable def impl_ShardsOf_L0_0 (m : Nat) : Nat → T → T → T → T → T → (T → An) → An
  | 0, _, _, _, _, _, _ => .bad
  | n + 1, x0, x1, x2, x3, x4, k0 =>
    cond (decide (x3.int < x2.int))
    (cond (decide ((0 : Int) ≤ x3.int ∧ x3.int < (x1.rows.length : Int)))
    (impl_ShardOf m ((x1.rows.getD (Int.toNat x3.int) []).getD 1 dflt) x0
    (fun y0 => cond (decide ((x4.rows.length + 1) * 1 ≤ maxRow))
    (impl_ShardsOf_L0_0 m n x0 x1 x2 (T.i (IntKind.i64.wrap (x3.int + 1))) (T.l (x4.rows ++ [[y0]])) k0)
    (.bad)))
    (.bad))
    (k0 (T.l x4.rows))
noncomputable def impl_ShardsOf : Nat → T → T → (T → An) → An
  | 0, _, _, _ => .bad
  | m + 1, x0, x1, k0 =>
    impl_ShardsOf_L0_0 m m x1 (T.l x0.rows) (T.i (x0.rows.length : Int)) (T.i 0) (T.l [])
    (fun y1 => slices_Sort m (T.l y1.rows)
    (fun y2 => slices_Compact m (T.l y2.rows)
    (fun y3 => slices_Clip___int_int_ m (T.l y3.rows)
    (fun y4 => k0 (T.l y4.rows)))))
noncomputable def impl_ShardsOf_f : Fs := ⟨57, [.one (.dz [.sc (.int .i64), .sc (.str), .sc (.str)] []), .one (AI)], fun m vs k => ap 2 (impl_ShardsOf m) vs (lm 1 fun z => k (fRet ⟨[.one (.fz [.sc (.int .i64)] [])], [[none], [none]], [none, none]⟩ z))⟩
noncomputable def impl_ShardsOf_l : List Ls := [⟨[0, 1, 0, 1, 1], ⟨[(1, .one (LI)), (5, .one (LA (KI 0) [.sc (.int .i64)])), (8, .one (LD [.sc (.int .i64), .sc (.str), .sc (.str)])), (9, .one (LI)), (10, .one (LI))], [((KI 0), .row [.sc (.int .i64)] [.F] []), ([4000000], .gone)]⟩, fun m n vs k => ap 5 (impl_ShardsOf_L0_0 m n) vs (lm 1 fun z => k (.exit 0) (fPack ⟨[(5, .one (LA (KI 0) [.sc (.int .i64)]))], [((KI 0), .row [.sc (.int .i64)] [.F] [])]⟩ z))⟩]
noncomputable def impl_ShardsOf_t : List Fs := impl_ShardsOf_f :: slices_Clip___int_int__t
theorem impl_ShardsOf_g : FGood CX prims impl_ShardsOf_t ∧ FEqn CX prims impl_ShardsOf_f := fnG slices_Clip___int_int__g.1 impl_ShardsOf_f Tryz.f57 ⟨57, 2, 27, 16⟩ impl_ShardsOf_l (fun _ _ => rfl) (fun _ _ _ => by kernel_rfl) ⟨fun _ _ _ => rfl, trivial⟩ ⟨fun _ _ _ _ _ _ => by kernel_rfl, trivial⟩ (fun _ _ _ _ _ => by kernel_rfl)

/-! slices.Index[[]int,int] -/
noncomputable def slices_Index___int_int__L0_0 (m : Nat) : Nat → T → T → T → T → (T → An) → An → An
  | 0, _, _, _, _, _, _ => .bad
  | n + 1, x0, x1, x2, x3, k0, k1 =>
    cond (decide (x3.int < x2.int))
    (cond (decide ((0 : Int) ≤ x3.int ∧ x3.int < (x0.rows.length : Int)))
    (cond (x1.int == ((x0.rows.getD (Int.toNat x3.int) []).getD 0 dflt).int)
    (k0 x3)
    (slices_Index___int_int__L0_0 m n x0 x1 x2 (T.i (IntKind.i64.wrap (x3.int + 1))) k0 k1))
    (.bad))
    (k1 )
noncomputable def slices_Index___int_int_ : Nat → T → T → (T → An) → An
  | 0, _, _, _ => .bad
  | m + 1, x0, x1, k0 =>
    slices_Index___int_int__L0_0 m m (T.l x0.rows) x1 (T.i (x0.rows.length : Int)) (T.i 0)
    (fun y0 => k0 y0)
    (k0 (T.i (-1)))
noncomputable def slices_Index___int_int__f : Fs := ⟨82, [.one (.dz [.sc (.int .i64)] []), .one (AI)], fun m vs k => ap 2 (slices_Index___int_int_ m) vs (lm 1 fun z => k (fRet ⟨[.one (RI)], [[none], [none]], [none, none]⟩ z))⟩
noncomputable def slices_Index___int_int__l : List Ls := [⟨[0, 1, 0, 1], ⟨[(0, .one (LD [.sc (.int .i64)])), (1, .one (LI)), (7, .one (LI)), (8, .one (LI))], [([4000000], .gone)]⟩, fun m n vs k => ap 4 (slices_Index___int_int__L0_0 m n) vs (lm 1 fun z => k .ret (fPack ⟨[(4, .one (LI))], []⟩ z)) (lm 0 fun z => k (.exit 0) (fPack ⟨[], []⟩ z))⟩]
noncomputable def slices_Index___int_int__t : List Fs := slices_Index___int_int__f :: impl_ShardsOf_t
theorem slices_Index___int_int__g : FGood CX prims slices_Index___int_int__t ∧ FEqn CX prims slices_Index___int_int__f := fnG impl_ShardsOf_g.1 slices_Index___int_int__f Tryz.f82 ⟨82, 2, 19, 16⟩ slices_Index___int_int__l (fun _ _ => rfl) (fun _ _ _ => by kernel_rfl) ⟨fun _ _ _ => rfl, trivial⟩ ⟨fun _ _ _ _ _ _ => by kernel_rfl, trivial⟩ (fun _ _ _ _ _ => by kernel_rfl)

/-! slices.Contains[[]int,int] -/
noncomputable def slices_Contains___int_int_ : Nat → T → T → (T → An) → An
  | 0, _, _, _ => .bad
  | m + 1, x0, x1, k0 =>
    slices_Index___int_int_ m (T.l x0.rows) x1
    (fun y0 => k0 (T.b (decide (y0.int ≥ 0))))
noncomputable def slices_Contains___int_int__f : Fs := ⟨71, [.one (.dz [.sc (.int .i64)] []), .one (AI)], fun m vs k => ap 2 (slices_Contains___int_int_ m) vs (lm 1 fun z => k (fRet ⟨[.one (RB)], [[none], [none]], [none, none]⟩ z))⟩
noncomputable def slices_Contains___int_int__t : List Fs := slices_Contains___int_int__f :: slices_Index___int_int__t
theorem slices_Contains___int_int__g : FGood CX prims slices_Contains___int_int__t ∧ FEqn CX prims slices_Contains___int_int__f := fnG slices_Index___int_int__g.1 slices_Contains___int_int__f Tryz.f71 ⟨71, 2, 9, 16⟩ [] (fun _ _ => rfl) (fun _ _ _ => by kernel_rfl) trivial trivial (fun _ _ _ _ _ => by kernel_rfl)

/-! (*loop.example/g00244/impl.Coord).jobOk -/
noncomputable def impl_Coord_jobOk_L0_0 (m : Nat) : Nat → T → T → T → T → T → T → T → T → T → T → (T → An) → (T → T → T → T → T → T → An) → An
  | 0, _, _, _, _, _, _, _, _, _, _, _, _ => .bad
  | n + 1, x0, x1, x2, x3, x4, x5, x6, x7, x8, x9, k0, k1 =>
    cond (decide (x5.int < x4.int))
    ((fun (j10 : T → An) =>
    cond (decide ((0 : Int) ≤ x5.int ∧ x5.int < (x3.rows.length : Int)))
    (slices_Contains___int_int_ m (T.l x2.rows) ((x3.rows.getD (Int.toNat x5.int) []).getD 0 dflt)
    (fun y6 => cond ((!y6.bool) == false)
    (cond ((decide (x5.int > 0)) == true)
    (cond (decide ((0 : Int) ≤ (IntKind.i64.wrap (x5.int - 1)) ∧ (IntKind.i64.wrap (x5.int - 1)) < (x9.rows.length : Int)))
    (cond (decide (((x3.rows.getD (Int.toNat x5.int) []).getD 0 dflt).int ≤ ((x9.rows.getD (Int.toNat (IntKind.i64.wrap (x5.int - 1))) []).getD 0 dflt).int))
    (k0 (T.b false))
    (j10 (T.l [(row1 x0)])))
    (.bad))
    (j10 (T.l [(row1 x0)])))
    (k0 (T.b false))))
    (.bad))
    (fun y9 => impl_Coord_jobOk_L0_0 m n (T.l [(row1 y9)]) (T.i (x1.int.toNat : Int)) x2 x3 x4 (T.i (IntKind.i64.wrap (x5.int + 1))) x6 x7 x8 x9 k0 k1))
    (k1 (T.l [(row1 x0)]) (T.i (x1.int.toNat : Int)) x6 x7 x8 x9)
noncomputable def impl_Coord_jobOk : Nat → T → T → T → T → T → (T → An) → An
  | 0, _, _, _, _, _, _ => .bad
  | m + 1, x0, x1, x2, x3, x4, k0 =>
    jn (fun (j21 : T → An) =>
    impl_Coord_nextTx m (T.l [((row1 x0).take 6)])
    (fun y0 => impl_inRange m x1 (T.i (IntKind.i64.wrap ((((row1 x0).drop 1).getD 0 dflt).int * 1000))) (T.i (IntKind.i64.wrap (y0.int - 1)))
    (fun y1 => cond ((!y1.bool) == false)
    (impl_OpsOk m (T.l x2.rows)
    (fun y2 => cond (!y2.bool)
    (k0 (T.b false))
    (j21 (T.l [(row1 x0)]))))
    (k0 (T.b false)))))
    (fun y4 => impl_ShardsOf m (T.l x2.rows) ((row1 y4).getD 0 dflt)
    (fun y5 => impl_Coord_jobOk_L0_0 m m (T.l [(row1 y4)]) (T.i 0) (T.l y5.rows) (T.l x4.rows) (T.i (x4.rows.length : Int)) (T.i 0) x1 (T.l x2.rows) x3 (T.l x4.rows)
    (fun y11 => k0 y11)
    (fun y12 y13 y14 y15 y16 y17 => impl_Coord_choiceAt m (T.l [((row1 y12).take 6)]) y14
    (fun y18 => cond (y16.int == 1)
    (k0 (T.b (decide (y18.int < 0))))
    (cond (y16.int == 2)
    (cond ((decide (y18.int ≥ 0)) == true)
    (cond (decide ((0 : Int) ≤ y18.int ∧ y18.int < ((((row1 y12).drop 4).getD 0 dflt).rows.length : Int)))
    (k0 ((((((row1 y12).drop 4).getD 0 dflt).rows.getD (Int.toNat y18.int) []).drop 1).getD 0 dflt))
    (.bad))
    (k0 (T.b false)))
    (cond (y16.int == 3)
    (cond ((decide (y18.int ≥ 0)) == true)
    (cond (decide ((0 : Int) ≤ y18.int ∧ y18.int < ((((row1 y12).drop 4).getD 0 dflt).rows.length : Int)))
    (k0 (T.b (!((((((row1 y12).drop 4).getD 0 dflt).rows.getD (Int.toNat y18.int) []).drop 1).getD 0 dflt).bool)))
    (.bad))
    (k0 (T.b false)))
    (k0 (T.b false))))))))
noncomputable def impl_Coord_jobOk_f : Fs := ⟨55, [.rpt [.sc (.int .i64), .sc (.int .i64), .sc (.int .i64), .sl [.sc (.int .i64), .sl [.sc (.int .i64), .sc (.str), .sc (.str)], .sc (.int .i64), .sl [.sc (.int .i64)]], .sl [.sc (.int .i64), .sc (.bool)], .sc (.int .i64)] [], .agg [AI, .dz [.sc (.int .i64), .sc (.str), .sc (.str)] [], AI, .dz [.sc (.int .i64)] []]], fun m vs k => ap 5 (impl_Coord_jobOk m) vs (lm 1 fun z => k (fRet ⟨[.one (RB)], [[], [none, none, none, none]], [none, none]⟩ z))⟩
noncomputable def impl_Coord_jobOk_l : List Ls := [⟨[0, 1, 0, 1, 1, 1], ⟨[(0, .rp [([4000000], 0)] [.sc (.int .i64), .sc (.int .i64), .sc (.int .i64), .sl [.sc (.int .i64), .sl [.sc (.int .i64), .sc (.str), .sc (.str)], .sc (.int .i64), .sl [.sc (.int .i64)]], .sl [.sc (.int .i64), .sc (.bool)], .sc (.int .i64)] []), (3, EP 1), (5, .one (LZ [.sc (.int .i64)])), (35, .one (LD [.sc (.int .i64)])), (36, .one (LI)), (37, .one (LI))], [([4000000], .gone), ((KI 1), .box [LI, LD [.sc (.int .i64), .sc (.str), .sc (.str)], LI, LD [.sc (.int .i64)]])]⟩, fun m n vs k => ap 10 (impl_Coord_jobOk_L0_0 m n) vs (lm 1 fun z => k .ret (fPack ⟨[(4, .one (LB))], []⟩ z)) (lm 6 fun z => k (.exit 0) (fPack ⟨[(0, .rp [([4000000], 0)] [.sc (.int .i64), .sc (.int .i64), .sc (.int .i64), .sl [.sc (.int .i64), .sl [.sc (.int .i64), .sc (.str), .sc (.str)], .sc (.int .i64), .sl [.sc (.int .i64)]], .sl [.sc (.int .i64), .sc (.bool)], .sc (.int .i64)] []), (3, EP 1)], [([4000000], .gone), ((KI 1), .box [LI, LD [.sc (.int .i64), .sc (.str), .sc (.str)], LI, LD [.sc (.int .i64)]])]⟩ z))⟩]
noncomputable def impl_Coord_jobOk_t : List Fs := impl_Coord_jobOk_f :: slices_Contains___int_int__t
theorem impl_Coord_jobOk_g : FGood CX prims impl_Coord_jobOk_t ∧ FEqn CX prims impl_Coord_jobOk_f := fnG slices_Contains___int_int__g.1 impl_Coord_jobOk_f Tryz.f55 ⟨55, 2, 100, 16⟩ impl_Coord_jobOk_l (fun _ _ => rfl) (fun _ _ _ => by kernel_rfl) ⟨fun _ _ _ => rfl, trivial⟩ ⟨fun _ _ _ _ _ _ => by kernel_rfl, trivial⟩ (fun _ _ _ _ _ => by kernel_rfl)

/-! loop.example/g00244/impl.CoordOk -/
noncomputable def impl_CoordOk_L1_0 (m : Nat) : Nat → T → T → T → T → T → T → T → T → T → T → (T → An) → An → An
  | 0, _, _, _, _, _, _, _, _, _, _, _, _ => .bad
  | n + 1, x0, x1, x2, x3, x4, x5, x6, x7, x8, x9, k0, k1 =>
    cond (decide (x3.int < x2.int))
    (cond (decide ((0 : Int) ≤ x3.int ∧ x3.int < (x1.rows.length : Int)))
    (impl_Coord_jobOk m (T.l [[x4, x5, x6, (T.l x7.rows), (T.l x8.rows), x9]]) ((x1.rows.getD (Int.toNat x3.int) []).getD 0 dflt) (T.l ((x1.rows.getD (Int.toNat x3.int) []).getD 1 dflt).rows) ((x1.rows.getD (Int.toNat x3.int) []).getD 2 dflt) (T.l ((x1.rows.getD (Int.toNat x3.int) []).getD 3 dflt).rows)
    (fun y17 => cond ((!y17.bool) == false)
    (cond ((decide (x3.int > 0)) == true)
    (cond (decide ((0 : Int) ≤ (IntKind.i64.wrap (x3.int - 1)) ∧ (IntKind.i64.wrap (x3.int - 1)) < (x7.rows.length : Int)))
    (cond (decide (((x1.rows.getD (Int.toNat x3.int) []).getD 0 dflt).int ≤ ((x7.rows.getD (Int.toNat (IntKind.i64.wrap (x3.int - 1))) []).getD 0 dflt).int))
    (k0 (T.b false))
    (impl_CoordOk_L1_0 m n (T.i (x0.int.toNat : Int)) x1 x2 (T.i (IntKind.i64.wrap (x3.int + 1))) x4 x5 x6 x7 x8 x9 k0 k1))
    (.bad))
    (impl_CoordOk_L1_0 m n (T.i (x0.int.toNat : Int)) x1 x2 (T.i (IntKind.i64.wrap (x3.int + 1))) x4 x5 x6 x7 x8 x9 k0 k1))
    (k0 (T.b false))))
    (.bad))
    (k1 )
noncomputable def impl_CoordOk_L0_0 (m : Nat) : Nat → T → T → T → T → T → T → T → T → T → T → (T → An) → (T → T → T → T → T → T → T → An) → An
  | 0, _, _, _, _, _, _, _, _, _, _, _, _ => .bad
  | n + 1, x0, x1, x2, x3, x4, x5, x6, x7, x8, x9, k0, k1 =>
    cond (decide (x3.int < x2.int))
    (cond (decide ((0 : Int) ≤ x3.int ∧ x3.int < (x1.rows.length : Int)))
    (impl_Coord_nextTx m (T.l [[x4, x5, x6, (T.l x7.rows), (T.l x8.rows), x9]])
    (fun y5 => impl_inRange m ((x1.rows.getD (Int.toNat x3.int) []).getD 0 dflt) (T.i 1000) (T.i (IntKind.i64.wrap (y5.int - 1)))
    (fun y6 => cond ((!y6.bool) == false)
    (impl_Coord_choiceAt m (T.l [[x4, x5, x6, (T.l x7.rows), (T.l x8.rows), x9]]) ((x1.rows.getD (Int.toNat x3.int) []).getD 0 dflt)
    (fun y7 => cond (y7.int != x3.int)
    (k0 (T.b false))
    (impl_CoordOk_L0_0 m n (T.i (x0.int.toNat : Int)) x1 x2 (T.i (IntKind.i64.wrap (x3.int + 1))) x4 x5 x6 x7 x8 x9 k0 k1)))
    (k0 (T.b false)))))
    (.bad))
    (k1 (T.i (x0.int.toNat : Int)) x4 x5 x6 x7 x8 x9)
noncomputable def impl_CoordOk : Nat → T → T → T → T → T → T → (T → An) → An
  | 0, _, _, _, _, _, _, _ => .bad
  | m + 1, x0, x1, x2, x3, x4, x5, k0 =>
    jn (fun (j20 : An) =>
    impl_inRange m x0 (T.i 1) (T.i 8)
    (fun y0 => cond ((!y0.bool) == false)
    (impl_inRange m x1 (T.i 1) (T.i 900)
    (fun y1 => cond ((!y1.bool) == false)
    (impl_inRange m x2 (T.i 0) (T.i 999)
    (fun y2 => cond ((!y2.bool) == false)
    (cond ((decide ((x4.rows.length : Int) > 1000)) == false)
    (impl_inRange m x5 (T.i 0) (T.i (x4.rows.length : Int))
    (fun y3 => cond (!y3.bool)
    (k0 (T.b false))
    (j20)))
    (k0 (T.b false)))
    (k0 (T.b false))))
    (k0 (T.b false))))
    (k0 (T.b false))))
    (impl_CoordOk_L0_0 m m (T.i 0) (T.l x4.rows) (T.i (x4.rows.length : Int)) (T.i 0) x0 x1 x2 (T.l x3.rows) (T.l x4.rows) x5
    (fun y9 => k0 y9)
    (fun y10 y11 y12 y13 y14 y15 y16 => impl_CoordOk_L1_0 m m (T.i (y10.int.toNat : Int)) y14 (T.i (y14.rows.length : Int)) (T.i 0) y11 y12 y13 y14 y15 y16
    (fun y19 => k0 y19)
    (k0 (T.b true))))
noncomputable def impl_CoordOk_f : Fs := ⟨28, [.agg [AI, AI, AI, .dz [.sc (.int .i64), .sl [.sc (.int .i64), .sc (.str), .sc (.str)], .sc (.int .i64), .sl [.sc (.int .i64)]] [], .dz [.sc (.int .i64), .sc (.bool)] [], AI]], fun m vs k => ap 6 (impl_CoordOk m) vs (lm 1 fun z => k (fRet ⟨[.one (RB)], [[none, none, none, none, none, none]], [none]⟩ z))⟩
noncomputable def impl_CoordOk_l : List Ls := [⟨[0, 1, 0, 1, 1, 1], ⟨[(1, EP 0), (61, .one (LD [.sc (.int .i64), .sl [.sc (.int .i64), .sc (.str), .sc (.str)], .sc (.int .i64), .sl [.sc (.int .i64)]])), (62, .one (LI)), (63, .one (LI))], [((KI 0), .box [LI, LI, LI, LD [.sc (.int .i64), .sl [.sc (.int .i64), .sc (.str), .sc (.str)], .sc (.int .i64), .sl [.sc (.int .i64)]], LD [.sc (.int .i64), .sc (.bool)], LI]), ([4000000], .gone)]⟩, fun m n vs k => ap 10 (impl_CoordOk_L1_0 m n) vs (lm 1 fun z => k .ret (fPack ⟨[(2, .one (LB))], []⟩ z)) (lm 0 fun z => k (.exit 2) (fPack ⟨[], []⟩ z))⟩, ⟨[0, 1, 0, 1, 1], ⟨[(1, EP 0), (39, .one (LD [.sc (.int .i64), .sc (.bool)])), (40, .one (LI)), (41, .one (LI))], [((KI 0), .box [LI, LI, LI, LD [.sc (.int .i64), .sl [.sc (.int .i64), .sc (.str), .sc (.str)], .sc (.int .i64), .sl [.sc (.int .i64)]], LD [.sc (.int .i64), .sc (.bool)], LI]), ([4000000], .gone)]⟩, fun m n vs k => ap 10 (impl_CoordOk_L0_0 m n) vs (lm 1 fun z => k .ret (fPack ⟨[(2, .one (LB))], []⟩ z)) (lm 7 fun z => k (.exit 0) (fPack ⟨[(1, EP 0)], [((KI 0), .box [LI, LI, LI, LD [.sc (.int .i64), .sl [.sc (.int .i64), .sc (.str), .sc (.str)], .sc (.int .i64), .sl [.sc (.int .i64)]], LD [.sc (.int .i64), .sc (.bool)], LI]), ([4000000], .gone)]⟩ z))⟩]
noncomputable def impl_CoordOk_t : List Fs := impl_CoordOk_f :: impl_Coord_jobOk_t
theorem impl_CoordOk_g : FGood CX prims impl_CoordOk_t ∧ FEqn CX prims impl_CoordOk_f := fnG impl_Coord_jobOk_g.1 impl_CoordOk_f Tryz.f28 ⟨28, 1, 88, 4⟩ impl_CoordOk_l (fun _ _ => rfl) (fun _ _ _ => by kernel_rfl) ⟨fun _ _ _ => rfl, fun _ _ _ => rfl, trivial⟩ ⟨fun _ _ _ _ _ _ => by kernel_rfl, fun _ _ _ _ _ _ => by kernel_rfl, trivial⟩ (fun _ _ _ _ _ => by kernel_rfl)

/-! loop.example/g00244/impl.OpsFor -/
noncomputable def impl_OpsFor_L0_0 (m : Nat) : Nat → T → T → T → T → T → T → (T → An) → An
  | 0, _, _, _, _, _, _, _ => .bad
  | n + 1, x0, x1, x2, x3, x4, x5, k0 =>
    cond (decide (x4.int < x3.int))
    (cond (decide ((0 : Int) ≤ x4.int ∧ x4.int < (x2.rows.length : Int)))
    (impl_ShardOf m ((x2.rows.getD (Int.toNat x4.int) []).getD 1 dflt) x1
    (fun y0 => cond (y0.int == x0.int)
    (cond (decide ((x5.rows.length + 1) * 3 ≤ maxRow))
    (impl_OpsFor_L0_0 m n x0 x1 x2 x3 (T.i (IntKind.i64.wrap (x4.int + 1))) (T.l (x5.rows ++ [[((x2.rows.getD (Int.toNat x4.int) []).getD 0 dflt), ((x2.rows.getD (Int.toNat x4.int) []).getD 1 dflt), ((x2.rows.getD (Int.toNat x4.int) []).getD 2 dflt)]])) k0)
    (.bad))
    (impl_OpsFor_L0_0 m n x0 x1 x2 x3 (T.i (IntKind.i64.wrap (x4.int + 1))) (T.l x5.rows) k0)))
    (.bad))
    (k0 (T.l x5.rows))
noncomputable def impl_OpsFor : Nat → T → T → T → (T → An) → An
  | 0, _, _, _, _ => .bad
  | m + 1, x0, x1, x2, k0 =>
    impl_OpsFor_L0_0 m m x1 x2 (T.l x0.rows) (T.i (x0.rows.length : Int)) (T.i 0) (T.l [])
    (fun y3 => k0 (T.l y3.rows))
noncomputable def impl_OpsFor_f : Fs := ⟨77, [.one (.dz [.sc (.int .i64), .sc (.str), .sc (.str)] []), .one (AI), .one (AI)], fun m vs k => ap 3 (impl_OpsFor m) vs (lm 1 fun z => k (fRet ⟨[.one (.own (KR 0 0) [.sc (.int .i64), .sc (.str), .sc (.str)] [.F, .F, .F] [])], [[none], [none], [none]], [none, none, none]⟩ z))⟩
noncomputable def impl_OpsFor_l : List Ls := [⟨[0, 1, 0, 1, 1], ⟨[(1, .one (LI)), (2, .one (LI)), (7, .one (LA (KI 0) [.sc (.int .i64), .sc (.str), .sc (.str)])), (10, .one (LD [.sc (.int .i64), .sc (.str), .sc (.str)])), (11, .one (LI)), (12, .one (LI))], [((KI 0), .row [.sc (.int .i64), .sc (.str), .sc (.str)] [.F, .F, .F] []), ([4000000], .gone)]⟩, fun m n vs k => ap 6 (impl_OpsFor_L0_0 m n) vs (lm 1 fun z => k (.exit 0) (fPack ⟨[(7, .one (LA (KI 0) [.sc (.int .i64), .sc (.str), .sc (.str)]))], [((KI 0), .row [.sc (.int .i64), .sc (.str), .sc (.str)] [.F, .F, .F] [])]⟩ z))⟩]
noncomputable def impl_OpsFor_t : List Fs := impl_OpsFor_f :: impl_CoordOk_t
theorem impl_OpsFor_g : FGood CX prims impl_OpsFor_t ∧ FEqn CX prims impl_OpsFor_f := fnG impl_CoordOk_g.1 impl_OpsFor_f Tryz.f77 ⟨77, 3, 28, 64⟩ impl_OpsFor_l (fun _ _ => rfl) (fun _ _ _ => by kernel_rfl) ⟨fun _ _ _ => rfl, trivial⟩ ⟨fun _ _ _ _ _ _ => by kernel_rfl, trivial⟩ (fun _ _ _ _ _ => by kernel_rfl)

/-! (*loop.example/g00244/impl.Coord).holdWord -/
noncomputable def impl_Coord_holdWord : Nat → T → T → T → T → (T → T → T → T → T → An) → An
  | 0, _, _, _, _, _ => .bad
  | m + 1, x0, x1, x2, x3, k0 =>
    impl_OpsFor m (T.l x2.rows) x3 ((row1 x0).getD 0 dflt)
    (fun y0 => k0 (T.i 1) x3 x1 (T.l y0.rows) (T.b false))
noncomputable def impl_Coord_holdWord_f : Fs := ⟨58, [.rpt [.sc (.int .i64), .sc (.int .i64), .sc (.int .i64), .sl [.sc (.int .i64), .sl [.sc (.int .i64), .sc (.str), .sc (.str)], .sc (.int .i64), .sl [.sc (.int .i64)]], .sl [.sc (.int .i64), .sc (.bool)], .sc (.int .i64)] [], .one (AI), .one (.dz [.sc (.int .i64), .sc (.str), .sc (.str)] []), .one (AI)], fun m vs k => ap 4 (impl_Coord_holdWord m) vs (lm 5 fun z => k (fRet ⟨[.agg [RI, RI, RI, .own (KR 0 3) [.sc (.int .i64), .sc (.str), .sc (.str)] [.F, .F, .F] [], RB]], [[], [none], [none], [none]], [none, none, none, none]⟩ z))⟩
noncomputable def impl_Coord_holdWord_t : List Fs := impl_Coord_holdWord_f :: impl_OpsFor_t
theorem impl_Coord_holdWord_g : FGood CX prims impl_Coord_holdWord_t ∧ FEqn CX prims impl_Coord_holdWord_f := fnG impl_OpsFor_g.1 impl_Coord_holdWord_f Tryz.f58 ⟨58, 4, 19, 256⟩ [] (fun _ _ => rfl) (fun _ _ _ => by kernel_rfl) trivial trivial (fun _ _ _ _ _ => by kernel_rfl)

/-! (*loop.example/g00244/impl.Coord).begin -/
noncomputable def impl_Coord_begin_L0_0 (m : Nat) : Nat → T → T → T → T → T → T → T → T → T → T → T → T → T → (T → T → T → T → T → T → T → T → T → An) → An
  | 0, _, _, _, _, _, _, _, _, _, _, _, _, _, _ => .bad
  | n + 1, x0, x1, x2, x3, x4, x5, x6, x7, x8, x9, x10, x11, x12, k0 =>
    cond (decide (x5.int < x4.int))
    (cond (decide ((0 : Int) ≤ x5.int ∧ x5.int < (x3.rows.length : Int)))
    (impl_Coord_holdWord m (T.l [[x6, x7, x8, (T.l x11.rows), (T.l x12.rows), x9]]) x2 (T.l x1.rows) ((x3.rows.getD (Int.toNat x5.int) []).getD 0 dflt)
    (fun y5 y6 y7 y8 y9 => cond (decide ((x10.rows.length + 1) * 5 ≤ maxRow))
    (impl_Coord_begin_L0_0 m n (T.i (x0.int.toNat : Int)) x1 x2 x3 x4 (T.i (IntKind.i64.wrap (x5.int + 1))) x6 x7 x8 x9 (T.l (x10.rows ++ [[y5, y6, y7, (T.l y8.rows), y9]])) (T.l x11.rows) (T.l x12.rows) k0)
    (.bad)))
    (.bad))
    (k0 (T.i (x0.int.toNat : Int)) x2 x6 x7 x8 x9 (T.l x10.rows) (T.l x11.rows) (T.l x12.rows))
noncomputable def impl_Coord_begin : Nat → T → T → T → T → T → T → T → (T → T → T → T → T → T → T → T → An) → An
  | 0, _, _, _, _, _, _, _, _ => .bad
  | m + 1, x0, x1, x2, x3, x4, x5, x6, k0 =>
    jn (fun (j19 : An) =>
    impl_OpsOk m (T.l x6.rows)
    (fun y0 => cond ((!y0.bool) == false)
    (cond ((x2.int == 999) == false)
    (cond (decide ((x4.rows.length : Int) ≥ 1000))
    (k0 (T.l []) (T.i 0) x0 x1 x2 (T.l x3.rows) (T.l x4.rows) x5)
    (j19))
    (k0 (T.l []) (T.i 0) x0 x1 x2 (T.l x3.rows) (T.l x4.rows) x5))
    (k0 (T.l []) (T.i 0) x0 x1 x2 (T.l x3.rows) (T.l x4.rows) x5)))
    (impl_Coord_nextTx m (T.l [[x0, x1, x2, (T.l x3.rows), (T.l x4.rows), x5]])
    (fun y2 => slices_Clone___impl_Op_impl_Op_ m (T.l x6.rows)
    (fun y3 => cond (decide ((x3.rows.length + 1) * 4 ≤ maxRow))
    (impl_ShardsOf m (T.l x6.rows) x0
    (fun y4 => impl_Coord_begin_L0_0 m m (T.i 0) (T.l x6.rows) y2 (T.l y4.rows) (T.i (y4.rows.length : Int)) (T.i 0) x0 x1 (T.i (IntKind.i64.wrap (x2.int + 1))) x5 (T.l []) (T.l (x3.rows ++ [[y2, (T.l y3.rows), (T.i 1), (T.l [])]])) (T.l x4.rows)
    (fun y10 y11 y12 y13 y14 y15 y16 y17 y18 => k0 (T.l y16.rows) y11 y12 y13 y14 (T.l y17.rows) (T.l y18.rows) y15)))
    (.bad))))
noncomputable def impl_Coord_begin_f : Fs := ⟨29, [.bx [AI, AI, AI, .own [.sc (.int .i64), .sl [.sc (.int .i64), .sc (.str), .sc (.str)], .sc (.int .i64), .sl [.sc (.int .i64)]] [.F, .O [.F, .F, .F], .F, .O [.F]] [], .own [.sc (.int .i64), .sc (.bool)] [.F, .F] [], AI], .one (.dz [.sc (.int .i64), .sc (.str), .sc (.str)] [])], fun m vs k => ap 7 (impl_Coord_begin m) vs (lm 8 fun z => k (fRet ⟨[.one (.own (KR 0 0) [.sc (.int .i64), .sc (.int .i64), .sc (.int .i64), .sl [.sc (.int .i64), .sc (.str), .sc (.str)], .sc (.bool)] [.F, .F, .F, .O [.F, .F, .F], .F] []), .one (RI)], [[none, none, none, none, none, none], [none]], [some [RI, RI, RI, .own (KR 1000 3) [.sc (.int .i64), .sl [.sc (.int .i64), .sc (.str), .sc (.str)], .sc (.int .i64), .sl [.sc (.int .i64)]] [.F, .O [.F, .F, .F], .F, .O [.F]] [], .own (KR 1000 4) [.sc (.int .i64), .sc (.bool)] [.F, .F] [], RI], none]⟩ z))⟩
noncomputable def impl_Coord_begin_l : List Ls := [⟨[0, 1, 0, 1, 1, 1, 1, 1, 1], ⟨[(0, .ptr [0, 999999] 0 0 0), (1, .one (LD [.sc (.int .i64), .sc (.str), .sc (.str)])), (6, .one (LI)), (7, .one (LA (KI 2) [.sc (.int .i64), .sc (.int .i64), .sc (.int .i64), .sl [.sc (.int .i64), .sc (.str), .sc (.str)], .sc (.bool)])), (55, .one (LZ [.sc (.int .i64)])), (56, .one (LI)), (57, .one (LI))], [([0, 999999], .box [LI, LI, LI, LA (KI 3) [.sc (.int .i64), .sl [.sc (.int .i64), .sc (.str), .sc (.str)], .sc (.int .i64), .sl [.sc (.int .i64)]], LA [0, 4] [.sc (.int .i64), .sc (.bool)], LI]), ([4000000], .gone), ((KI 2), .row [.sc (.int .i64), .sc (.int .i64), .sc (.int .i64), .sl [.sc (.int .i64), .sc (.str), .sc (.str)], .sc (.bool)] [.F, .F, .F, .O [.F, .F, .F], .F] []), ((KI 3), .row [.sc (.int .i64), .sl [.sc (.int .i64), .sc (.str), .sc (.str)], .sc (.int .i64), .sl [.sc (.int .i64)]] [.F, .O [.F, .F, .F], .F, .O [.F]] []), ([0, 4], .row [.sc (.int .i64), .sc (.bool)] [.F, .F] [])]⟩, fun m n vs k => ap 13 (impl_Coord_begin_L0_0 m n) vs (lm 9 fun z => k (.exit 0) (fPack ⟨[(0, .ptr [0, 999999] 0 0 0), (6, .one (LI)), (7, .one (LA (KI 1) [.sc (.int .i64), .sc (.int .i64), .sc (.int .i64), .sl [.sc (.int .i64), .sc (.str), .sc (.str)], .sc (.bool)]))], [([0, 999999], .box [LI, LI, LI, LA (KI 2) [.sc (.int .i64), .sl [.sc (.int .i64), .sc (.str), .sc (.str)], .sc (.int .i64), .sl [.sc (.int .i64)]], LA [0, 4] [.sc (.int .i64), .sc (.bool)], LI]), ((KI 1), .row [.sc (.int .i64), .sc (.int .i64), .sc (.int .i64), .sl [.sc (.int .i64), .sc (.str), .sc (.str)], .sc (.bool)] [.F, .F, .F, .O [.F, .F, .F], .F] []), ((KI 2), .row [.sc (.int .i64), .sl [.sc (.int .i64), .sc (.str), .sc (.str)], .sc (.int .i64), .sl [.sc (.int .i64)]] [.F, .O [.F, .F, .F], .F, .O [.F]] []), ([0, 4], .row [.sc (.int .i64), .sc (.bool)] [.F, .F] [])]⟩ z))⟩]
noncomputable def impl_Coord_begin_t : List Fs := impl_Coord_begin_f :: impl_Coord_holdWord_t
theorem impl_Coord_begin_g : FGood CX prims impl_Coord_begin_t ∧ FEqn CX prims impl_Coord_begin_f := fnG impl_Coord_holdWord_g.1 impl_Coord_begin_f Tryz.f29 ⟨29, 2, 72, 49⟩ impl_Coord_begin_l (fun _ _ => rfl) (fun _ _ _ => by kernel_rfl) ⟨fun _ _ _ => rfl, trivial⟩ ⟨fun _ _ _ _ _ _ => by kernel_rfl, trivial⟩ (fun _ _ _ _ _ => by kernel_rfl)

/-! loop.example/g00244/impl.Begin -/
noncomputable def impl_Begin : Nat → T → T → T → T → T → T → T → (T → T → T → T → T → T → T → T → An) → An
  | 0, _, _, _, _, _, _, _, _ => .bad
  | m + 1, x0, x1, x2, x3, x4, x5, x6, k0 =>
    impl_copyCoord m x0 x1 x2 (T.l x3.rows) (T.l x4.rows) x5
    (fun y0 y1 y2 y3 y4 y5 => impl_CoordOk m x0 x1 x2 (T.l x3.rows) (T.l x4.rows) x5
    (fun y6 => cond (!y6.bool)
    (k0 y0 y1 y2 (T.l y3.rows) (T.l y4.rows) y5 (T.l []) (T.i 0))
    (impl_Coord_begin m y0 y1 y2 (T.l y3.rows) (T.l y4.rows) y5 (T.l x6.rows)
    (fun y7 y8 y9 y10 y11 y12 y13 y14 => k0 y9 y10 y11 (T.l y12.rows) (T.l y13.rows) y14 (T.l y7.rows) y8))))
noncomputable def impl_Begin_f : Fs := ⟨9, [.agg [AI, AI, AI, .dz [.sc (.int .i64), .sl [.sc (.int .i64), .sc (.str), .sc (.str)], .sc (.int .i64), .sl [.sc (.int .i64)]] [], .dz [.sc (.int .i64), .sc (.bool)] [], AI], .one (.dz [.sc (.int .i64), .sc (.str), .sc (.str)] [])], fun m vs k => ap 7 (impl_Begin m) vs (lm 8 fun z => k (fRet ⟨[.agg [RI, RI, RI, .own (KR 0 3) [.sc (.int .i64), .sl [.sc (.int .i64), .sc (.str), .sc (.str)], .sc (.int .i64), .sl [.sc (.int .i64)]] [.F, .O [.F, .F, .F], .F, .O [.F]] [], .own (KR 0 4) [.sc (.int .i64), .sc (.bool)] [.F, .F] [], RI], .one (.own (KR 1 0) [.sc (.int .i64), .sc (.int .i64), .sc (.int .i64), .sl [.sc (.int .i64), .sc (.str), .sc (.str)], .sc (.bool)] [.F, .F, .F, .O [.F, .F, .F], .F] []), .one (RI)], [[none, none, none, none, none, none], [none]], [none, none]⟩ z))⟩
noncomputable def impl_Begin_t : List Fs := impl_Begin_f :: impl_Coord_begin_t
theorem impl_Begin_g : FGood CX prims impl_Begin_t ∧ FEqn CX prims impl_Begin_f := fnG impl_Coord_begin_g.1 impl_Begin_f Tryz.f9 ⟨9, 2, 24, 112⟩ [] (fun _ _ => rfl) (fun _ _ _ => by kernel_rfl) trivial trivial (fun _ _ _ _ _ => by kernel_rfl)

/-! loop.example/g00244/laws.eqOp -/
noncomputable def laws_eqOp : Nat → T → T → T → T → T → T → (T → An) → An
  | 0, _, _, _, _, _, _, _ => .bad
  | m + 1, x0, x1, x2, x3, x4, x5, k0 =>
    cond (x0.int != x3.int)
    (k0 (T.b false))
    (cond (!(x1.str.toList == x4.str.toList))
    (k0 (T.b false))
    (cond (!(x2.str.toList == x5.str.toList))
    (k0 (T.b false))
    (k0 (T.b true))))
noncomputable def laws_eqOp_f : Fs := ⟨33, [.agg [AI, AS, AS], .agg [AI, AS, AS]], fun m vs k => ap 6 (laws_eqOp m) vs (lm 1 fun z => k (fRet ⟨[.one (RB)], [[none, none, none], [none, none, none]], [none, none]⟩ z))⟩
noncomputable def laws_eqOp_t : List Fs := laws_eqOp_f :: impl_Begin_t
theorem laws_eqOp_g : FGood CX prims laws_eqOp_t ∧ FEqn CX prims laws_eqOp_f := fnG impl_Begin_g.1 laws_eqOp_f Tryz.f33 ⟨33, 2, 20, 16⟩ [] (fun _ _ => rfl) (fun _ _ _ => by kernel_rfl) trivial trivial (fun _ _ _ _ _ => by kernel_rfl)

/-! loop.example/g00244/laws.eqOpS -/
noncomputable def laws_eqOpS_L0_0 (m : Nat) : Nat → T → T → T → (T → An) → An → An
  | 0, _, _, _, _, _ => .bad
  | n + 1, x0, x1, x2, k0, k1 =>
    cond (decide (x2.int < (x0.rows.length : Int)))
    (cond (decide ((0 : Int) ≤ x2.int ∧ x2.int < (x0.rows.length : Int)))
    (cond (decide ((0 : Int) ≤ x2.int ∧ x2.int < (x1.rows.length : Int)))
    (laws_eqOp m ((x0.rows.getD (Int.toNat x2.int) []).getD 0 dflt) ((x0.rows.getD (Int.toNat x2.int) []).getD 1 dflt) ((x0.rows.getD (Int.toNat x2.int) []).getD 2 dflt) ((x1.rows.getD (Int.toNat x2.int) []).getD 0 dflt) ((x1.rows.getD (Int.toNat x2.int) []).getD 1 dflt) ((x1.rows.getD (Int.toNat x2.int) []).getD 2 dflt)
    (fun y0 => cond (!y0.bool)
    (k0 (T.b false))
    (laws_eqOpS_L0_0 m n x0 x1 (T.i (IntKind.i64.wrap (x2.int + 1))) k0 k1)))
    (.bad))
    (.bad))
    (k1 )
noncomputable def laws_eqOpS : Nat → T → T → (T → An) → An
  | 0, _, _, _ => .bad
  | m + 1, x0, x1, k0 =>
    cond ((x0.rows.length : Int) != (x1.rows.length : Int))
    (k0 (T.b false))
    (laws_eqOpS_L0_0 m m (T.l x0.rows) (T.l x1.rows) (T.i 0)
    (fun y1 => k0 y1)
    (k0 (T.b true)))
noncomputable def laws_eqOpS_f : Fs := ⟨12, [.one (.dz [.sc (.int .i64), .sc (.str), .sc (.str)] []), .one (.dz [.sc (.int .i64), .sc (.str), .sc (.str)] [])], fun m vs k => ap 2 (laws_eqOpS m) vs (lm 1 fun z => k (fRet ⟨[.one (RB)], [[none], [none]], [none, none]⟩ z))⟩
noncomputable def laws_eqOpS_l : List Ls := [⟨[0, 1, 0, 1, 1], ⟨[(0, .one (LD [.sc (.int .i64), .sc (.str), .sc (.str)])), (1, .one (LD [.sc (.int .i64), .sc (.str), .sc (.str)])), (5, .one (LI))], [([4000000], .gone)]⟩, fun m n vs k => ap 3 (laws_eqOpS_L0_0 m n) vs (lm 1 fun z => k .ret (fPack ⟨[(4, .one (LB))], []⟩ z)) (lm 0 fun z => k (.exit 0) (fPack ⟨[], []⟩ z))⟩]
noncomputable def laws_eqOpS_t : List Fs := laws_eqOpS_f :: laws_eqOp_t
theorem laws_eqOpS_g : FGood CX prims laws_eqOpS_t ∧ FEqn CX prims laws_eqOpS_f := fnG laws_eqOp_g.1 laws_eqOpS_f Tryz.f12 ⟨12, 2, 27, 16⟩ laws_eqOpS_l (fun _ _ => rfl) (fun _ _ _ => by kernel_rfl) ⟨fun _ _ _ => rfl, trivial⟩ ⟨fun _ _ _ _ _ _ => by kernel_rfl, trivial⟩ (fun _ _ _ _ _ => by kernel_rfl)

/-! loop.example/g00244/laws.eqIntS -/
noncomputable def laws_eqIntS_L0_0 (m : Nat) : Nat → T → T → T → (T → An) → An → An
  | 0, _, _, _, _, _ => .bad
  | n + 1, x0, x1, x2, k0, k1 =>
    cond (decide (x2.int < (x0.rows.length : Int)))
    (cond (decide ((0 : Int) ≤ x2.int ∧ x2.int < (x0.rows.length : Int)))
    (cond (decide ((0 : Int) ≤ x2.int ∧ x2.int < (x1.rows.length : Int)))
    (cond (((x0.rows.getD (Int.toNat x2.int) []).getD 0 dflt).int != ((x1.rows.getD (Int.toNat x2.int) []).getD 0 dflt).int)
    (k0 (T.b false))
    (laws_eqIntS_L0_0 m n x0 x1 (T.i (IntKind.i64.wrap (x2.int + 1))) k0 k1))
    (.bad))
    (.bad))
    (k1 )
noncomputable def laws_eqIntS : Nat → T → T → (T → An) → An
  | 0, _, _, _ => .bad
  | m + 1, x0, x1, k0 =>
    cond ((x0.rows.length : Int) != (x1.rows.length : Int))
    (k0 (T.b false))
    (laws_eqIntS_L0_0 m m (T.l x0.rows) (T.l x1.rows) (T.i 0)
    (fun y0 => k0 y0)
    (k0 (T.b true)))
noncomputable def laws_eqIntS_f : Fs := ⟨78, [.one (.dz [.sc (.int .i64)] []), .one (.dz [.sc (.int .i64)] [])], fun m vs k => ap 2 (laws_eqIntS m) vs (lm 1 fun z => k (fRet ⟨[.one (RB)], [[none], [none]], [none, none]⟩ z))⟩
noncomputable def laws_eqIntS_l : List Ls := [⟨[0, 1, 0, 1, 1], ⟨[(0, .one (LD [.sc (.int .i64)])), (1, .one (LD [.sc (.int .i64)])), (5, .one (LI))], [([4000000], .gone)]⟩, fun m n vs k => ap 3 (laws_eqIntS_L0_0 m n) vs (lm 1 fun z => k .ret (fPack ⟨[(4, .one (LB))], []⟩ z)) (lm 0 fun z => k (.exit 0) (fPack ⟨[], []⟩ z))⟩]
noncomputable def laws_eqIntS_t : List Fs := laws_eqIntS_f :: laws_eqOpS_t
theorem laws_eqIntS_g : FGood CX prims laws_eqIntS_t ∧ FEqn CX prims laws_eqIntS_f := fnG laws_eqOpS_g.1 laws_eqIntS_f Tryz.f78 ⟨78, 2, 26, 16⟩ laws_eqIntS_l (fun _ _ => rfl) (fun _ _ _ => by kernel_rfl) ⟨fun _ _ _ => rfl, trivial⟩ ⟨fun _ _ _ _ _ _ => by kernel_rfl, trivial⟩ (fun _ _ _ _ _ => by kernel_rfl)

/-! loop.example/g00244/laws.eqJob -/
noncomputable def laws_eqJob : Nat → T → T → T → T → T → T → T → T → (T → An) → An
  | 0, _, _, _, _, _, _, _, _, _ => .bad
  | m + 1, x0, x1, x2, x3, x4, x5, x6, x7, k0 =>
    cond (x0.int != x4.int)
    (k0 (T.b false))
    (laws_eqOpS m (T.l x1.rows) (T.l x5.rows)
    (fun y0 => cond (!y0.bool)
    (k0 (T.b false))
    (cond (x2.int != x6.int)
    (k0 (T.b false))
    (laws_eqIntS m (T.l x3.rows) (T.l x7.rows)
    (fun y1 => cond (!y1.bool)
    (k0 (T.b false))
    (k0 (T.b true)))))))
noncomputable def laws_eqJob_f : Fs := ⟨59, [.agg [AI, .dz [.sc (.int .i64), .sc (.str), .sc (.str)] [], AI, .dz [.sc (.int .i64)] []], .agg [AI, .dz [.sc (.int .i64), .sc (.str), .sc (.str)] [], AI, .dz [.sc (.int .i64)] []]], fun m vs k => ap 8 (laws_eqJob m) vs (lm 1 fun z => k (fRet ⟨[.one (RB)], [[none, none, none, none], [none, none, none, none]], [none, none]⟩ z))⟩
noncomputable def laws_eqJob_t : List Fs := laws_eqJob_f :: laws_eqIntS_t
theorem laws_eqJob_g : FGood CX prims laws_eqJob_t ∧ FEqn CX prims laws_eqJob_f := fnG laws_eqIntS_g.1 laws_eqJob_f Tryz.f59 ⟨59, 2, 27, 16⟩ [] (fun _ _ => rfl) (fun _ _ _ => by kernel_rfl) trivial trivial (fun _ _ _ _ _ => by kernel_rfl)

/-! loop.example/g00244/laws.eqJobS -/
noncomputable def laws_eqJobS_L0_0 (m : Nat) : Nat → T → T → T → (T → An) → An → An
  | 0, _, _, _, _, _ => .bad
  | n + 1, x0, x1, x2, k0, k1 =>
    cond (decide (x2.int < (x0.rows.length : Int)))
    (cond (decide ((0 : Int) ≤ x2.int ∧ x2.int < (x0.rows.length : Int)))
    (cond (decide ((0 : Int) ≤ x2.int ∧ x2.int < (x1.rows.length : Int)))
    (laws_eqJob m ((x0.rows.getD (Int.toNat x2.int) []).getD 0 dflt) (T.l ((x0.rows.getD (Int.toNat x2.int) []).getD 1 dflt).rows) ((x0.rows.getD (Int.toNat x2.int) []).getD 2 dflt) (T.l ((x0.rows.getD (Int.toNat x2.int) []).getD 3 dflt).rows) ((x1.rows.getD (Int.toNat x2.int) []).getD 0 dflt) (T.l ((x1.rows.getD (Int.toNat x2.int) []).getD 1 dflt).rows) ((x1.rows.getD (Int.toNat x2.int) []).getD 2 dflt) (T.l ((x1.rows.getD (Int.toNat x2.int) []).getD 3 dflt).rows)
    (fun y0 => cond (!y0.bool)
    (k0 (T.b false))
    (laws_eqJobS_L0_0 m n x0 x1 (T.i (IntKind.i64.wrap (x2.int + 1))) k0 k1)))
    (.bad))
    (.bad))
    (k1 )
noncomputable def laws_eqJobS : Nat → T → T → (T → An) → An
  | 0, _, _, _ => .bad
  | m + 1, x0, x1, k0 =>
    cond ((x0.rows.length : Int) != (x1.rows.length : Int))
    (k0 (T.b false))
    (laws_eqJobS_L0_0 m m (T.l x0.rows) (T.l x1.rows) (T.i 0)
    (fun y1 => k0 y1)
    (k0 (T.b true)))
noncomputable def laws_eqJobS_f : Fs := ⟨30, [.one (.dz [.sc (.int .i64), .sl [.sc (.int .i64), .sc (.str), .sc (.str)], .sc (.int .i64), .sl [.sc (.int .i64)]] []), .one (.dz [.sc (.int .i64), .sl [.sc (.int .i64), .sc (.str), .sc (.str)], .sc (.int .i64), .sl [.sc (.int .i64)]] [])], fun m vs k => ap 2 (laws_eqJobS m) vs (lm 1 fun z => k (fRet ⟨[.one (RB)], [[none], [none]], [none, none]⟩ z))⟩
noncomputable def laws_eqJobS_l : List Ls := [⟨[0, 1, 0, 1, 1], ⟨[(0, .one (LD [.sc (.int .i64), .sl [.sc (.int .i64), .sc (.str), .sc (.str)], .sc (.int .i64), .sl [.sc (.int .i64)]])), (1, .one (LD [.sc (.int .i64), .sl [.sc (.int .i64), .sc (.str), .sc (.str)], .sc (.int .i64), .sl [.sc (.int .i64)]])), (5, .one (LI))], [([4000000], .gone)]⟩, fun m n vs k => ap 3 (laws_eqJobS_L0_0 m n) vs (lm 1 fun z => k .ret (fPack ⟨[(4, .one (LB))], []⟩ z)) (lm 0 fun z => k (.exit 0) (fPack ⟨[], []⟩ z))⟩]
noncomputable def laws_eqJobS_t : List Fs := laws_eqJobS_f :: laws_eqJob_t
theorem laws_eqJobS_g : FGood CX prims laws_eqJobS_t ∧ FEqn CX prims laws_eqJobS_f := fnG laws_eqJob_g.1 laws_eqJobS_f Tryz.f30 ⟨30, 2, 27, 16⟩ laws_eqJobS_l (fun _ _ => rfl) (fun _ _ _ => by kernel_rfl) ⟨fun _ _ _ => rfl, trivial⟩ ⟨fun _ _ _ _ _ _ => by kernel_rfl, trivial⟩ (fun _ _ _ _ _ => by kernel_rfl)

/-! loop.example/g00244/laws.eqChoice -/
noncomputable def laws_eqChoice : Nat → T → T → T → T → (T → An) → An
  | 0, _, _, _, _, _ => .bad
  | m + 1, x0, x1, x2, x3, k0 =>
    cond (x0.int != x2.int)
    (k0 (T.b false))
    (cond (!(x1.bool == x3.bool))
    (k0 (T.b false))
    (k0 (T.b true)))
noncomputable def laws_eqChoice_f : Fs := ⟨60, [.agg [AI, AB], .agg [AI, AB]], fun m vs k => ap 4 (laws_eqChoice m) vs (lm 1 fun z => k (fRet ⟨[.one (RB)], [[none, none], [none, none]], [none, none]⟩ z))⟩
noncomputable def laws_eqChoice_t : List Fs := laws_eqChoice_f :: laws_eqJobS_t
theorem laws_eqChoice_g : FGood CX prims laws_eqChoice_t ∧ FEqn CX prims laws_eqChoice_f := fnG laws_eqJobS_g.1 laws_eqChoice_f Tryz.f60 ⟨60, 2, 15, 16⟩ [] (fun _ _ => rfl) (fun _ _ _ => by kernel_rfl) trivial trivial (fun _ _ _ _ _ => by kernel_rfl)

/-! loop.example/g00244/laws.eqChoiceS -/
noncomputable def laws_eqChoiceS_L0_0 (m : Nat) : Nat → T → T → T → (T → An) → An → An
  | 0, _, _, _, _, _ => .bad
  | n + 1, x0, x1, x2, k0, k1 =>
    cond (decide (x2.int < (x0.rows.length : Int)))
    (cond (decide ((0 : Int) ≤ x2.int ∧ x2.int < (x0.rows.length : Int)))
    (cond (decide ((0 : Int) ≤ x2.int ∧ x2.int < (x1.rows.length : Int)))
    (laws_eqChoice m ((x0.rows.getD (Int.toNat x2.int) []).getD 0 dflt) ((x0.rows.getD (Int.toNat x2.int) []).getD 1 dflt) ((x1.rows.getD (Int.toNat x2.int) []).getD 0 dflt) ((x1.rows.getD (Int.toNat x2.int) []).getD 1 dflt)
    (fun y0 => cond (!y0.bool)
    (k0 (T.b false))
    (laws_eqChoiceS_L0_0 m n x0 x1 (T.i (IntKind.i64.wrap (x2.int + 1))) k0 k1)))
    (.bad))
    (.bad))
    (k1 )
noncomputable def laws_eqChoiceS : Nat → T → T → (T → An) → An
  | 0, _, _, _ => .bad
  | m + 1, x0, x1, k0 =>
    cond ((x0.rows.length : Int) != (x1.rows.length : Int))
    (k0 (T.b false))
    (laws_eqChoiceS_L0_0 m m (T.l x0.rows) (T.l x1.rows) (T.i 0)
    (fun y1 => k0 y1)
    (k0 (T.b true)))
noncomputable def laws_eqChoiceS_f : Fs := ⟨31, [.one (.dz [.sc (.int .i64), .sc (.bool)] []), .one (.dz [.sc (.int .i64), .sc (.bool)] [])], fun m vs k => ap 2 (laws_eqChoiceS m) vs (lm 1 fun z => k (fRet ⟨[.one (RB)], [[none], [none]], [none, none]⟩ z))⟩
noncomputable def laws_eqChoiceS_l : List Ls := [⟨[0, 1, 0, 1, 1], ⟨[(0, .one (LD [.sc (.int .i64), .sc (.bool)])), (1, .one (LD [.sc (.int .i64), .sc (.bool)])), (5, .one (LI))], [([4000000], .gone)]⟩, fun m n vs k => ap 3 (laws_eqChoiceS_L0_0 m n) vs (lm 1 fun z => k .ret (fPack ⟨[(4, .one (LB))], []⟩ z)) (lm 0 fun z => k (.exit 0) (fPack ⟨[], []⟩ z))⟩]
noncomputable def laws_eqChoiceS_t : List Fs := laws_eqChoiceS_f :: laws_eqChoice_t
theorem laws_eqChoiceS_g : FGood CX prims laws_eqChoiceS_t ∧ FEqn CX prims laws_eqChoiceS_f := fnG laws_eqChoice_g.1 laws_eqChoiceS_f Tryz.f31 ⟨31, 2, 27, 16⟩ laws_eqChoiceS_l (fun _ _ => rfl) (fun _ _ _ => by kernel_rfl) ⟨fun _ _ _ => rfl, trivial⟩ ⟨fun _ _ _ _ _ _ => by kernel_rfl, trivial⟩ (fun _ _ _ _ _ => by kernel_rfl)

/-! loop.example/g00244/laws.eqCoord -/
noncomputable def laws_eqCoord : Nat → T → T → T → T → T → T → T → T → T → T → T → T → (T → An) → An
  | 0, _, _, _, _, _, _, _, _, _, _, _, _, _ => .bad
  | m + 1, x0, x1, x2, x3, x4, x5, x6, x7, x8, x9, x10, x11, k0 =>
    cond (x0.int != x6.int)
    (k0 (T.b false))
    (cond (x1.int != x7.int)
    (k0 (T.b false))
    (cond (x2.int != x8.int)
    (k0 (T.b false))
    (laws_eqJobS m (T.l x3.rows) (T.l x9.rows)
    (fun y0 => cond (!y0.bool)
    (k0 (T.b false))
    (laws_eqChoiceS m (T.l x4.rows) (T.l x10.rows)
    (fun y1 => cond (!y1.bool)
    (k0 (T.b false))
    (cond (x5.int != x11.int)
    (k0 (T.b false))
    (k0 (T.b true)))))))))
noncomputable def laws_eqCoord_f : Fs := ⟨10, [.agg [AI, AI, AI, .dz [.sc (.int .i64), .sl [.sc (.int .i64), .sc (.str), .sc (.str)], .sc (.int .i64), .sl [.sc (.int .i64)]] [], .dz [.sc (.int .i64), .sc (.bool)] [], AI], .agg [AI, AI, AI, .dz [.sc (.int .i64), .sl [.sc (.int .i64), .sc (.str), .sc (.str)], .sc (.int .i64), .sl [.sc (.int .i64)]] [], .dz [.sc (.int .i64), .sc (.bool)] [], AI]], fun m vs k => ap 12 (laws_eqCoord m) vs (lm 1 fun z => k (fRet ⟨[.one (RB)], [[none, none, none, none, none, none], [none, none, none, none, none, none]], [none, none]⟩ z))⟩
noncomputable def laws_eqCoord_t : List Fs := laws_eqCoord_f :: laws_eqChoiceS_t
theorem laws_eqCoord_g : FGood CX prims laws_eqCoord_t ∧ FEqn CX prims laws_eqCoord_f := fnG laws_eqChoiceS_g.1 laws_eqCoord_f Tryz.f10 ⟨10, 2, 37, 16⟩ [] (fun _ _ => rfl) (fun _ _ _ => by kernel_rfl) trivial trivial (fun _ _ _ _ _ => by kernel_rfl)

/-! loop.example/g00244/laws.eqWord -/
noncomputable def laws_eqWord : Nat → T → T → T → T → T → T → T → T → T → T → (T → An) → An
  | 0, _, _, _, _, _, _, _, _, _, _, _ => .bad
  | m + 1, x0, x1, x2, x3, x4, x5, x6, x7, x8, x9, k0 =>
    cond (x0.int != x5.int)
    (k0 (T.b false))
    (cond (x1.int != x6.int)
    (k0 (T.b false))
    (cond (x2.int != x7.int)
    (k0 (T.b false))
    (laws_eqOpS m (T.l x3.rows) (T.l x8.rows)
    (fun y0 => cond (!y0.bool)
    (k0 (T.b false))
    (cond (!(x4.bool == x9.bool))
    (k0 (T.b false))
    (k0 (T.b true)))))))
noncomputable def laws_eqWord_f : Fs := ⟨32, [.agg [AI, AI, AI, .dz [.sc (.int .i64), .sc (.str), .sc (.str)] [], AB], .agg [AI, AI, AI, .dz [.sc (.int .i64), .sc (.str), .sc (.str)] [], AB]], fun m vs k => ap 10 (laws_eqWord m) vs (lm 1 fun z => k (fRet ⟨[.one (RB)], [[none, none, none, none, none], [none, none, none, none, none]], [none, none]⟩ z))⟩
noncomputable def laws_eqWord_t : List Fs := laws_eqWord_f :: laws_eqCoord_t
theorem laws_eqWord_g : FGood CX prims laws_eqWord_t ∧ FEqn CX prims laws_eqWord_f := fnG laws_eqCoord_g.1 laws_eqWord_f Tryz.f32 ⟨32, 2, 31, 16⟩ [] (fun _ _ => rfl) (fun _ _ _ => by kernel_rfl) trivial trivial (fun _ _ _ _ _ => by kernel_rfl)

/-! loop.example/g00244/laws.eqWordS -/
noncomputable def laws_eqWordS_L0_0 (m : Nat) : Nat → T → T → T → (T → An) → An → An
  | 0, _, _, _, _, _ => .bad
  | n + 1, x0, x1, x2, k0, k1 =>
    cond (decide (x2.int < (x0.rows.length : Int)))
    (cond (decide ((0 : Int) ≤ x2.int ∧ x2.int < (x0.rows.length : Int)))
    (cond (decide ((0 : Int) ≤ x2.int ∧ x2.int < (x1.rows.length : Int)))
    (laws_eqWord m ((x0.rows.getD (Int.toNat x2.int) []).getD 0 dflt) ((x0.rows.getD (Int.toNat x2.int) []).getD 1 dflt) ((x0.rows.getD (Int.toNat x2.int) []).getD 2 dflt) (T.l ((x0.rows.getD (Int.toNat x2.int) []).getD 3 dflt).rows) ((x0.rows.getD (Int.toNat x2.int) []).getD 4 dflt) ((x1.rows.getD (Int.toNat x2.int) []).getD 0 dflt) ((x1.rows.getD (Int.toNat x2.int) []).getD 1 dflt) ((x1.rows.getD (Int.toNat x2.int) []).getD 2 dflt) (T.l ((x1.rows.getD (Int.toNat x2.int) []).getD 3 dflt).rows) ((x1.rows.getD (Int.toNat x2.int) []).getD 4 dflt)
    (fun y0 => cond (!y0.bool)
    (k0 (T.b false))
    (laws_eqWordS_L0_0 m n x0 x1 (T.i (IntKind.i64.wrap (x2.int + 1))) k0 k1)))
    (.bad))
    (.bad))
    (k1 )
noncomputable def laws_eqWordS : Nat → T → T → (T → An) → An
  | 0, _, _, _ => .bad
  | m + 1, x0, x1, k0 =>
    cond ((x0.rows.length : Int) != (x1.rows.length : Int))
    (k0 (T.b false))
    (laws_eqWordS_L0_0 m m (T.l x0.rows) (T.l x1.rows) (T.i 0)
    (fun y1 => k0 y1)
    (k0 (T.b true)))
noncomputable def laws_eqWordS_f : Fs := ⟨11, [.one (.dz [.sc (.int .i64), .sc (.int .i64), .sc (.int .i64), .sl [.sc (.int .i64), .sc (.str), .sc (.str)], .sc (.bool)] []), .one (.dz [.sc (.int .i64), .sc (.int .i64), .sc (.int .i64), .sl [.sc (.int .i64), .sc (.str), .sc (.str)], .sc (.bool)] [])], fun m vs k => ap 2 (laws_eqWordS m) vs (lm 1 fun z => k (fRet ⟨[.one (RB)], [[none], [none]], [none, none]⟩ z))⟩
noncomputable def laws_eqWordS_l : List Ls := [⟨[0, 1, 0, 1, 1], ⟨[(0, .one (LD [.sc (.int .i64), .sc (.int .i64), .sc (.int .i64), .sl [.sc (.int .i64), .sc (.str), .sc (.str)], .sc (.bool)])), (1, .one (LD [.sc (.int .i64), .sc (.int .i64), .sc (.int .i64), .sl [.sc (.int .i64), .sc (.str), .sc (.str)], .sc (.bool)])), (5, .one (LI))], [([4000000], .gone)]⟩, fun m n vs k => ap 3 (laws_eqWordS_L0_0 m n) vs (lm 1 fun z => k .ret (fPack ⟨[(4, .one (LB))], []⟩ z)) (lm 0 fun z => k (.exit 0) (fPack ⟨[], []⟩ z))⟩]
noncomputable def laws_eqWordS_t : List Fs := laws_eqWordS_f :: laws_eqWord_t
theorem laws_eqWordS_g : FGood CX prims laws_eqWordS_t ∧ FEqn CX prims laws_eqWordS_f := fnG laws_eqWord_g.1 laws_eqWordS_f Tryz.f11 ⟨11, 2, 27, 16⟩ laws_eqWordS_l (fun _ _ => rfl) (fun _ _ _ => by kernel_rfl) ⟨fun _ _ _ => rfl, trivial⟩ ⟨fun _ _ _ _ _ _ => by kernel_rfl, trivial⟩ (fun _ _ _ _ _ => by kernel_rfl)

/-! loop.example/g00244/laws.markText -/
noncomputable def laws_markText_L0_0 (m : Nat) : Nat → T → T → (T → An) → An
  | 0, _, _, _ => .bad
  | n + 1, x0, x1, k0 =>
    cond (decide (x0.int > 0))
    (cond (decide ((rowsBytes [[(T.i (IntKind.u8.wrap (IntKind.i64.wrap (48 + (Int.tmod x0.int 10)))))]]).size + x1.str.size < 9223372036854775808))
    (laws_markText_L0_0 m n (T.i (IntKind.i64.wrap (Int.tdiv x0.int 10))) (T.s ((rowsBytes [[(T.i (IntKind.u8.wrap (IntKind.i64.wrap (48 + (Int.tmod x0.int 10)))))]]) ++ x1.str)) k0)
    (.bad))
    (k0 x1)
noncomputable def laws_markText : Nat → T → (T → An) → An
  | 0, _, _ => .bad
  | m + 1, x0, k0 =>
    cond (decide (x0.int ≤ 0))
    (k0 (T.s (⟨#[109, 48]⟩ : ByteArray)))
    (laws_markText_L0_0 m m x0 (T.s (⟨#[]⟩ : ByteArray))
    (fun y0 => cond (decide ((⟨#[109]⟩ : ByteArray).size + y0.str.size < 9223372036854775808))
    (k0 (T.s ((⟨#[109]⟩ : ByteArray) ++ y0.str)))
    (.bad)))
noncomputable def laws_markText_f : Fs := ⟨36, [.one (AI)], fun m vs k => ap 1 (laws_markText m) vs (lm 1 fun z => k (fRet ⟨[.one (RS)], [[none]], [none]⟩ z))⟩
noncomputable def laws_markText_l : List Ls := [⟨[0, 0, 1, 1, 1], ⟨[(0, .one (LI)), (3, .one (LS))], []⟩, fun m n vs k => ap 2 (laws_markText_L0_0 m n) vs (lm 1 fun z => k (.exit 0) (fPack ⟨[(3, .one (LS))], []⟩ z))⟩]
noncomputable def laws_markText_t : List Fs := laws_markText_f :: laws_eqWordS_t
theorem laws_markText_g : FGood CX prims laws_markText_t ∧ FEqn CX prims laws_markText_f := fnG laws_eqWordS_g.1 laws_markText_f Tryz.f36 ⟨36, 1, 20, 4⟩ laws_markText_l (fun _ _ => rfl) (fun _ _ _ => by kernel_rfl) ⟨fun _ _ _ => rfl, trivial⟩ ⟨fun _ _ _ _ _ _ => by kernel_rfl, trivial⟩ (fun _ _ _ _ _ => by kernel_rfl)

/-! loop.example/g00244/laws.markOpS -/
noncomputable def laws_markOpS_L0_0 (m : Nat) : Nat → T → T → T → (T → T → An) → An
  | 0, _, _, _, _ => .bad
  | n + 1, x0, x1, x2, k0 =>
    cond (decide (x1.int < (x2.rows.length : Int)))
    (cond (decide ((0 : Int) ≤ x1.int ∧ x1.int < (x2.rows.length : Int)))
    (cond (decide ((Int.toNat x1.int) < x2.rows.length))
    (laws_markText m (T.i (IntKind.i64.wrap (x0.int + 1)))
    (fun y0 => cond (decide ((0 : Int) ≤ x1.int ∧ x1.int < ((x2.rows.set (Int.toNat x1.int) ((x2.rows.getD (Int.toNat x1.int) []).set 0 x0)).length : Int)))
    (cond (decide ((Int.toNat x1.int) < (x2.rows.set (Int.toNat x1.int) ((x2.rows.getD (Int.toNat x1.int) []).set 0 x0)).length))
    (laws_markText m (T.i (IntKind.i64.wrap ((IntKind.i64.wrap (x0.int + 1)) + 1)))
    (fun y1 => cond (decide ((0 : Int) ≤ x1.int ∧ x1.int < (((x2.rows.set (Int.toNat x1.int) ((x2.rows.getD (Int.toNat x1.int) []).set 0 x0)).set (Int.toNat x1.int) (((x2.rows.set (Int.toNat x1.int) ((x2.rows.getD (Int.toNat x1.int) []).set 0 x0)).getD (Int.toNat x1.int) []).set 1 y0)).length : Int)))
    (cond (decide ((Int.toNat x1.int) < ((x2.rows.set (Int.toNat x1.int) ((x2.rows.getD (Int.toNat x1.int) []).set 0 x0)).set (Int.toNat x1.int) (((x2.rows.set (Int.toNat x1.int) ((x2.rows.getD (Int.toNat x1.int) []).set 0 x0)).getD (Int.toNat x1.int) []).set 1 y0)).length))
    (laws_markOpS_L0_0 m n (T.i (IntKind.i64.wrap ((IntKind.i64.wrap ((IntKind.i64.wrap (x0.int + 1)) + 1)) + 1))) (T.i (IntKind.i64.wrap (x1.int + 1))) (T.l (((x2.rows.set (Int.toNat x1.int) ((x2.rows.getD (Int.toNat x1.int) []).set 0 x0)).set (Int.toNat x1.int) (((x2.rows.set (Int.toNat x1.int) ((x2.rows.getD (Int.toNat x1.int) []).set 0 x0)).getD (Int.toNat x1.int) []).set 1 y0)).set (Int.toNat x1.int) ((((x2.rows.set (Int.toNat x1.int) ((x2.rows.getD (Int.toNat x1.int) []).set 0 x0)).set (Int.toNat x1.int) (((x2.rows.set (Int.toNat x1.int) ((x2.rows.getD (Int.toNat x1.int) []).set 0 x0)).getD (Int.toNat x1.int) []).set 1 y0)).getD (Int.toNat x1.int) []).set 2 y1))) k0)
    (.bad))
    (.bad)))
    (.bad))
    (.bad)))
    (.bad))
    (.bad))
    (k0 x0 (T.l x2.rows))
noncomputable def laws_markOpS : Nat → T → T → (T → T → An) → An
  | 0, _, _, _ => .bad
  | m + 1, x0, x1, k0 =>
    laws_markOpS_L0_0 m m x1 (T.i 0) (T.l x0.rows)
    (fun y2 y3 => k0 y2 (T.l y3.rows))
noncomputable def laws_markOpS_f : Fs := ⟨14, [.one (.own [.sc (.int .i64), .sc (.str), .sc (.str)] [.F, .F, .F] []), .one (AI)], fun m vs k => ap 2 (laws_markOpS m) vs (lm 2 fun z => k (fRet ⟨[.one (RI)], [[some ([.sc (.int .i64), .sc (.str), .sc (.str)], [.F, .F, .F], [])], [none]], [none, none]⟩ z))⟩
noncomputable def laws_markOpS_l : List Ls := [⟨[0, 1, 0, 1], ⟨[(0, .one (LA [0, 0] [.sc (.int .i64), .sc (.str), .sc (.str)])), (1, .one (LI)), (5, .one (LI))], [([0, 0], .row [.sc (.int .i64), .sc (.str), .sc (.str)] [.F, .F, .F] [])]⟩, fun m n vs k => ap 3 (laws_markOpS_L0_0 m n) vs (lm 2 fun z => k (.exit 0) (fPack ⟨[(0, .one (LA [0, 0] [.sc (.int .i64), .sc (.str), .sc (.str)])), (1, .one (LI))], [([0, 0], .row [.sc (.int .i64), .sc (.str), .sc (.str)] [.F, .F, .F] [])]⟩ z))⟩]
noncomputable def laws_markOpS_t : List Fs := laws_markOpS_f :: laws_markText_t
theorem laws_markOpS_g : FGood CX prims laws_markOpS_t ∧ FEqn CX prims laws_markOpS_f := fnG laws_markText_g.1 laws_markOpS_f Tryz.f14 ⟨14, 2, 36, 17⟩ laws_markOpS_l (fun _ _ => rfl) (fun _ _ _ => by kernel_rfl) ⟨fun _ _ _ => rfl, trivial⟩ ⟨fun _ _ _ _ _ _ => by kernel_rfl, trivial⟩ (fun _ _ _ _ _ => by kernel_rfl)

/-! loop.example/g00244/laws.markIntS -/
noncomputable def laws_markIntS_L0_0 (m : Nat) : Nat → T → T → T → (T → T → An) → An
  | 0, _, _, _, _ => .bad
  | n + 1, x0, x1, x2, k0 =>
    cond (decide (x1.int < (x2.rows.length : Int)))
    (cond (decide ((0 : Int) ≤ x1.int ∧ x1.int < (x2.rows.length : Int)))
    (cond (decide ((Int.toNat x1.int) < x2.rows.length))
    (laws_markIntS_L0_0 m n (T.i (IntKind.i64.wrap (x0.int + 1))) (T.i (IntKind.i64.wrap (x1.int + 1))) (T.l (x2.rows.set (Int.toNat x1.int) ((x2.rows.getD (Int.toNat x1.int) []).set 0 x0))) k0)
    (.bad))
    (.bad))
    (k0 x0 (T.l x2.rows))
noncomputable def laws_markIntS : Nat → T → T → (T → T → An) → An
  | 0, _, _, _ => .bad
  | m + 1, x0, x1, k0 =>
    laws_markIntS_L0_0 m m x1 (T.i 0) (T.l x0.rows)
    (fun y0 y1 => k0 y0 (T.l y1.rows))
noncomputable def laws_markIntS_f : Fs := ⟨61, [.one (.own [.sc (.int .i64)] [.F] []), .one (AI)], fun m vs k => ap 2 (laws_markIntS m) vs (lm 2 fun z => k (fRet ⟨[.one (RI)], [[some ([.sc (.int .i64)], [.F], [])], [none]], [none, none]⟩ z))⟩
noncomputable def laws_markIntS_l : List Ls := [⟨[0, 1, 0, 1], ⟨[(0, .one (LA [0, 0] [.sc (.int .i64)])), (1, .one (LI)), (5, .one (LI))], [([0, 0], .row [.sc (.int .i64)] [.F] [])]⟩, fun m n vs k => ap 3 (laws_markIntS_L0_0 m n) vs (lm 2 fun z => k (.exit 0) (fPack ⟨[(0, .one (LA [0, 0] [.sc (.int .i64)])), (1, .one (LI))], [([0, 0], .row [.sc (.int .i64)] [.F] [])]⟩ z))⟩]
noncomputable def laws_markIntS_t : List Fs := laws_markIntS_f :: laws_markOpS_t
theorem laws_markIntS_g : FGood CX prims laws_markIntS_t ∧ FEqn CX prims laws_markIntS_f := fnG laws_markOpS_g.1 laws_markIntS_f Tryz.f61 ⟨61, 2, 19, 17⟩ laws_markIntS_l (fun _ _ => rfl) (fun _ _ _ => by kernel_rfl) ⟨fun _ _ _ => rfl, trivial⟩ ⟨fun _ _ _ _ _ _ => by kernel_rfl, trivial⟩ (fun _ _ _ _ _ => by kernel_rfl)

/-! loop.example/g00244/laws.markJobS -/
noncomputable def laws_markJobS_L0_0 (m : Nat) : Nat → T → T → T → (T → T → An) → An
  | 0, _, _, _, _ => .bad
  | n + 1, x0, x1, x2, k0 =>
    cond (decide (x1.int < (x2.rows.length : Int)))
    (cond (decide ((0 : Int) ≤ x1.int ∧ x1.int < (x2.rows.length : Int)))
    (cond (decide ((Int.toNat x1.int) < x2.rows.length))
    (cond (decide ((0 : Int) ≤ x1.int ∧ x1.int < ((x2.rows.set (Int.toNat x1.int) ((x2.rows.getD (Int.toNat x1.int) []).set 0 x0)).length : Int)))
    (cond (decide ((Int.toNat x1.int) < (x2.rows.set (Int.toNat x1.int) ((x2.rows.getD (Int.toNat x1.int) []).set 0 x0)).length))
    (cond (decide ((Int.toNat x1.int) < (x2.rows.set (Int.toNat x1.int) ((x2.rows.getD (Int.toNat x1.int) []).set 0 x0)).length))
    (laws_markOpS m (T.l (((x2.rows.set (Int.toNat x1.int) ((x2.rows.getD (Int.toNat x1.int) []).set 0 x0)).getD (Int.toNat x1.int) []).tail.headD dflt).rows) (T.i (IntKind.i64.wrap (x0.int + 1)))
    (fun y0 y1 => cond (decide ((0 : Int) ≤ x1.int ∧ x1.int < (((x2.rows.set (Int.toNat x1.int) ((x2.rows.getD (Int.toNat x1.int) []).set 0 x0)).set (Int.toNat x1.int) [(((x2.rows.set (Int.toNat x1.int) ((x2.rows.getD (Int.toNat x1.int) []).set 0 x0)).getD (Int.toNat x1.int) []).headD dflt), (T.l y1.rows), (((x2.rows.set (Int.toNat x1.int) ((x2.rows.getD (Int.toNat x1.int) []).set 0 x0)).getD (Int.toNat x1.int) []).tail.tail.headD dflt), (T.l (((x2.rows.set (Int.toNat x1.int) ((x2.rows.getD (Int.toNat x1.int) []).set 0 x0)).getD (Int.toNat x1.int) []).tail.tail.tail.headD dflt).rows)]).length : Int)))
    (cond (decide ((Int.toNat x1.int) < ((x2.rows.set (Int.toNat x1.int) ((x2.rows.getD (Int.toNat x1.int) []).set 0 x0)).set (Int.toNat x1.int) [(((x2.rows.set (Int.toNat x1.int) ((x2.rows.getD (Int.toNat x1.int) []).set 0 x0)).getD (Int.toNat x1.int) []).headD dflt), (T.l y1.rows), (((x2.rows.set (Int.toNat x1.int) ((x2.rows.getD (Int.toNat x1.int) []).set 0 x0)).getD (Int.toNat x1.int) []).tail.tail.headD dflt), (T.l (((x2.rows.set (Int.toNat x1.int) ((x2.rows.getD (Int.toNat x1.int) []).set 0 x0)).getD (Int.toNat x1.int) []).tail.tail.tail.headD dflt).rows)]).length))
    (cond (decide ((0 : Int) ≤ x1.int ∧ x1.int < ((((x2.rows.set (Int.toNat x1.int) ((x2.rows.getD (Int.toNat x1.int) []).set 0 x0)).set (Int.toNat x1.int) [(((x2.rows.set (Int.toNat x1.int) ((x2.rows.getD (Int.toNat x1.int) []).set 0 x0)).getD (Int.toNat x1.int) []).headD dflt), (T.l y1.rows), (((x2.rows.set (Int.toNat x1.int) ((x2.rows.getD (Int.toNat x1.int) []).set 0 x0)).getD (Int.toNat x1.int) []).tail.tail.headD dflt), (T.l (((x2.rows.set (Int.toNat x1.int) ((x2.rows.getD (Int.toNat x1.int) []).set 0 x0)).getD (Int.toNat x1.int) []).tail.tail.tail.headD dflt).rows)]).set (Int.toNat x1.int) ((((x2.rows.set (Int.toNat x1.int) ((x2.rows.getD (Int.toNat x1.int) []).set 0 x0)).set (Int.toNat x1.int) [(((x2.rows.set (Int.toNat x1.int) ((x2.rows.getD (Int.toNat x1.int) []).set 0 x0)).getD (Int.toNat x1.int) []).headD dflt), (T.l y1.rows), (((x2.rows.set (Int.toNat x1.int) ((x2.rows.getD (Int.toNat x1.int) []).set 0 x0)).getD (Int.toNat x1.int) []).tail.tail.headD dflt), (T.l (((x2.rows.set (Int.toNat x1.int) ((x2.rows.getD (Int.toNat x1.int) []).set 0 x0)).getD (Int.toNat x1.int) []).tail.tail.tail.headD dflt).rows)]).getD (Int.toNat x1.int) []).set 2 y0)).length : Int)))
    (cond (decide ((Int.toNat x1.int) < (((x2.rows.set (Int.toNat x1.int) ((x2.rows.getD (Int.toNat x1.int) []).set 0 x0)).set (Int.toNat x1.int) [(((x2.rows.set (Int.toNat x1.int) ((x2.rows.getD (Int.toNat x1.int) []).set 0 x0)).getD (Int.toNat x1.int) []).headD dflt), (T.l y1.rows), (((x2.rows.set (Int.toNat x1.int) ((x2.rows.getD (Int.toNat x1.int) []).set 0 x0)).getD (Int.toNat x1.int) []).tail.tail.headD dflt), (T.l (((x2.rows.set (Int.toNat x1.int) ((x2.rows.getD (Int.toNat x1.int) []).set 0 x0)).getD (Int.toNat x1.int) []).tail.tail.tail.headD dflt).rows)]).set (Int.toNat x1.int) ((((x2.rows.set (Int.toNat x1.int) ((x2.rows.getD (Int.toNat x1.int) []).set 0 x0)).set (Int.toNat x1.int) [(((x2.rows.set (Int.toNat x1.int) ((x2.rows.getD (Int.toNat x1.int) []).set 0 x0)).getD (Int.toNat x1.int) []).headD dflt), (T.l y1.rows), (((x2.rows.set (Int.toNat x1.int) ((x2.rows.getD (Int.toNat x1.int) []).set 0 x0)).getD (Int.toNat x1.int) []).tail.tail.headD dflt), (T.l (((x2.rows.set (Int.toNat x1.int) ((x2.rows.getD (Int.toNat x1.int) []).set 0 x0)).getD (Int.toNat x1.int) []).tail.tail.tail.headD dflt).rows)]).getD (Int.toNat x1.int) []).set 2 y0)).length))
    (cond (decide ((Int.toNat x1.int) < (((x2.rows.set (Int.toNat x1.int) ((x2.rows.getD (Int.toNat x1.int) []).set 0 x0)).set (Int.toNat x1.int) [(((x2.rows.set (Int.toNat x1.int) ((x2.rows.getD (Int.toNat x1.int) []).set 0 x0)).getD (Int.toNat x1.int) []).headD dflt), (T.l y1.rows), (((x2.rows.set (Int.toNat x1.int) ((x2.rows.getD (Int.toNat x1.int) []).set 0 x0)).getD (Int.toNat x1.int) []).tail.tail.headD dflt), (T.l (((x2.rows.set (Int.toNat x1.int) ((x2.rows.getD (Int.toNat x1.int) []).set 0 x0)).getD (Int.toNat x1.int) []).tail.tail.tail.headD dflt).rows)]).set (Int.toNat x1.int) ((((x2.rows.set (Int.toNat x1.int) ((x2.rows.getD (Int.toNat x1.int) []).set 0 x0)).set (Int.toNat x1.int) [(((x2.rows.set (Int.toNat x1.int) ((x2.rows.getD (Int.toNat x1.int) []).set 0 x0)).getD (Int.toNat x1.int) []).headD dflt), (T.l y1.rows), (((x2.rows.set (Int.toNat x1.int) ((x2.rows.getD (Int.toNat x1.int) []).set 0 x0)).getD (Int.toNat x1.int) []).tail.tail.headD dflt), (T.l (((x2.rows.set (Int.toNat x1.int) ((x2.rows.getD (Int.toNat x1.int) []).set 0 x0)).getD (Int.toNat x1.int) []).tail.tail.tail.headD dflt).rows)]).getD (Int.toNat x1.int) []).set 2 y0)).length))
    (laws_markIntS m (T.l (((((x2.rows.set (Int.toNat x1.int) ((x2.rows.getD (Int.toNat x1.int) []).set 0 x0)).set (Int.toNat x1.int) [(((x2.rows.set (Int.toNat x1.int) ((x2.rows.getD (Int.toNat x1.int) []).set 0 x0)).getD (Int.toNat x1.int) []).headD dflt), (T.l y1.rows), (((x2.rows.set (Int.toNat x1.int) ((x2.rows.getD (Int.toNat x1.int) []).set 0 x0)).getD (Int.toNat x1.int) []).tail.tail.headD dflt), (T.l (((x2.rows.set (Int.toNat x1.int) ((x2.rows.getD (Int.toNat x1.int) []).set 0 x0)).getD (Int.toNat x1.int) []).tail.tail.tail.headD dflt).rows)]).set (Int.toNat x1.int) ((((x2.rows.set (Int.toNat x1.int) ((x2.rows.getD (Int.toNat x1.int) []).set 0 x0)).set (Int.toNat x1.int) [(((x2.rows.set (Int.toNat x1.int) ((x2.rows.getD (Int.toNat x1.int) []).set 0 x0)).getD (Int.toNat x1.int) []).headD dflt), (T.l y1.rows), (((x2.rows.set (Int.toNat x1.int) ((x2.rows.getD (Int.toNat x1.int) []).set 0 x0)).getD (Int.toNat x1.int) []).tail.tail.headD dflt), (T.l (((x2.rows.set (Int.toNat x1.int) ((x2.rows.getD (Int.toNat x1.int) []).set 0 x0)).getD (Int.toNat x1.int) []).tail.tail.tail.headD dflt).rows)]).getD (Int.toNat x1.int) []).set 2 y0)).getD (Int.toNat x1.int) []).tail.tail.tail.headD dflt).rows) (T.i (IntKind.i64.wrap (y0.int + 1)))
    (fun y2 y3 => laws_markJobS_L0_0 m n y2 (T.i (IntKind.i64.wrap (x1.int + 1))) (T.l ((((x2.rows.set (Int.toNat x1.int) ((x2.rows.getD (Int.toNat x1.int) []).set 0 x0)).set (Int.toNat x1.int) [(((x2.rows.set (Int.toNat x1.int) ((x2.rows.getD (Int.toNat x1.int) []).set 0 x0)).getD (Int.toNat x1.int) []).headD dflt), (T.l y1.rows), (((x2.rows.set (Int.toNat x1.int) ((x2.rows.getD (Int.toNat x1.int) []).set 0 x0)).getD (Int.toNat x1.int) []).tail.tail.headD dflt), (T.l (((x2.rows.set (Int.toNat x1.int) ((x2.rows.getD (Int.toNat x1.int) []).set 0 x0)).getD (Int.toNat x1.int) []).tail.tail.tail.headD dflt).rows)]).set (Int.toNat x1.int) ((((x2.rows.set (Int.toNat x1.int) ((x2.rows.getD (Int.toNat x1.int) []).set 0 x0)).set (Int.toNat x1.int) [(((x2.rows.set (Int.toNat x1.int) ((x2.rows.getD (Int.toNat x1.int) []).set 0 x0)).getD (Int.toNat x1.int) []).headD dflt), (T.l y1.rows), (((x2.rows.set (Int.toNat x1.int) ((x2.rows.getD (Int.toNat x1.int) []).set 0 x0)).getD (Int.toNat x1.int) []).tail.tail.headD dflt), (T.l (((x2.rows.set (Int.toNat x1.int) ((x2.rows.getD (Int.toNat x1.int) []).set 0 x0)).getD (Int.toNat x1.int) []).tail.tail.tail.headD dflt).rows)]).getD (Int.toNat x1.int) []).set 2 y0)).set (Int.toNat x1.int) [(((((x2.rows.set (Int.toNat x1.int) ((x2.rows.getD (Int.toNat x1.int) []).set 0 x0)).set (Int.toNat x1.int) [(((x2.rows.set (Int.toNat x1.int) ((x2.rows.getD (Int.toNat x1.int) []).set 0 x0)).getD (Int.toNat x1.int) []).headD dflt), (T.l y1.rows), (((x2.rows.set (Int.toNat x1.int) ((x2.rows.getD (Int.toNat x1.int) []).set 0 x0)).getD (Int.toNat x1.int) []).tail.tail.headD dflt), (T.l (((x2.rows.set (Int.toNat x1.int) ((x2.rows.getD (Int.toNat x1.int) []).set 0 x0)).getD (Int.toNat x1.int) []).tail.tail.tail.headD dflt).rows)]).set (Int.toNat x1.int) ((((x2.rows.set (Int.toNat x1.int) ((x2.rows.getD (Int.toNat x1.int) []).set 0 x0)).set (Int.toNat x1.int) [(((x2.rows.set (Int.toNat x1.int) ((x2.rows.getD (Int.toNat x1.int) []).set 0 x0)).getD (Int.toNat x1.int) []).headD dflt), (T.l y1.rows), (((x2.rows.set (Int.toNat x1.int) ((x2.rows.getD (Int.toNat x1.int) []).set 0 x0)).getD (Int.toNat x1.int) []).tail.tail.headD dflt), (T.l (((x2.rows.set (Int.toNat x1.int) ((x2.rows.getD (Int.toNat x1.int) []).set 0 x0)).getD (Int.toNat x1.int) []).tail.tail.tail.headD dflt).rows)]).getD (Int.toNat x1.int) []).set 2 y0)).getD (Int.toNat x1.int) []).headD dflt), (T.l (((((x2.rows.set (Int.toNat x1.int) ((x2.rows.getD (Int.toNat x1.int) []).set 0 x0)).set (Int.toNat x1.int) [(((x2.rows.set (Int.toNat x1.int) ((x2.rows.getD (Int.toNat x1.int) []).set 0 x0)).getD (Int.toNat x1.int) []).headD dflt), (T.l y1.rows), (((x2.rows.set (Int.toNat x1.int) ((x2.rows.getD (Int.toNat x1.int) []).set 0 x0)).getD (Int.toNat x1.int) []).tail.tail.headD dflt), (T.l (((x2.rows.set (Int.toNat x1.int) ((x2.rows.getD (Int.toNat x1.int) []).set 0 x0)).getD (Int.toNat x1.int) []).tail.tail.tail.headD dflt).rows)]).set (Int.toNat x1.int) ((((x2.rows.set (Int.toNat x1.int) ((x2.rows.getD (Int.toNat x1.int) []).set 0 x0)).set (Int.toNat x1.int) [(((x2.rows.set (Int.toNat x1.int) ((x2.rows.getD (Int.toNat x1.int) []).set 0 x0)).getD (Int.toNat x1.int) []).headD dflt), (T.l y1.rows), (((x2.rows.set (Int.toNat x1.int) ((x2.rows.getD (Int.toNat x1.int) []).set 0 x0)).getD (Int.toNat x1.int) []).tail.tail.headD dflt), (T.l (((x2.rows.set (Int.toNat x1.int) ((x2.rows.getD (Int.toNat x1.int) []).set 0 x0)).getD (Int.toNat x1.int) []).tail.tail.tail.headD dflt).rows)]).getD (Int.toNat x1.int) []).set 2 y0)).getD (Int.toNat x1.int) []).tail.headD dflt).rows), (((((x2.rows.set (Int.toNat x1.int) ((x2.rows.getD (Int.toNat x1.int) []).set 0 x0)).set (Int.toNat x1.int) [(((x2.rows.set (Int.toNat x1.int) ((x2.rows.getD (Int.toNat x1.int) []).set 0 x0)).getD (Int.toNat x1.int) []).headD dflt), (T.l y1.rows), (((x2.rows.set (Int.toNat x1.int) ((x2.rows.getD (Int.toNat x1.int) []).set 0 x0)).getD (Int.toNat x1.int) []).tail.tail.headD dflt), (T.l (((x2.rows.set (Int.toNat x1.int) ((x2.rows.getD (Int.toNat x1.int) []).set 0 x0)).getD (Int.toNat x1.int) []).tail.tail.tail.headD dflt).rows)]).set (Int.toNat x1.int) ((((x2.rows.set (Int.toNat x1.int) ((x2.rows.getD (Int.toNat x1.int) []).set 0 x0)).set (Int.toNat x1.int) [(((x2.rows.set (Int.toNat x1.int) ((x2.rows.getD (Int.toNat x1.int) []).set 0 x0)).getD (Int.toNat x1.int) []).headD dflt), (T.l y1.rows), (((x2.rows.set (Int.toNat x1.int) ((x2.rows.getD (Int.toNat x1.int) []).set 0 x0)).getD (Int.toNat x1.int) []).tail.tail.headD dflt), (T.l (((x2.rows.set (Int.toNat x1.int) ((x2.rows.getD (Int.toNat x1.int) []).set 0 x0)).getD (Int.toNat x1.int) []).tail.tail.tail.headD dflt).rows)]).getD (Int.toNat x1.int) []).set 2 y0)).getD (Int.toNat x1.int) []).tail.tail.headD dflt), (T.l y3.rows)])) k0))
    (.bad))
    (.bad))
    (.bad))
    (.bad))
    (.bad)))
    (.bad))
    (.bad))
    (.bad))
    (.bad))
    (.bad))
    (k0 x0 (T.l x2.rows))
noncomputable def laws_markJobS : Nat → T → T → (T → T → An) → An
  | 0, _, _, _ => .bad
  | m + 1, x0, x1, k0 =>
    laws_markJobS_L0_0 m m x1 (T.i 0) (T.l x0.rows)
    (fun y4 y5 => k0 y4 (T.l y5.rows))
noncomputable def laws_markJobS_f : Fs := ⟨34, [.one (.own [.sc (.int .i64), .sl [.sc (.int .i64), .sc (.str), .sc (.str)], .sc (.int .i64), .sl [.sc (.int .i64)]] [.F, .O [.F, .F, .F], .F, .O [.F]] []), .one (AI)], fun m vs k => ap 2 (laws_markJobS m) vs (lm 2 fun z => k (fRet ⟨[.one (RI)], [[some ([.sc (.int .i64), .sl [.sc (.int .i64), .sc (.str), .sc (.str)], .sc (.int .i64), .sl [.sc (.int .i64)]], [.F, .O [.F, .F, .F], .F, .O [.F]], [])], [none]], [none, none]⟩ z))⟩
noncomputable def laws_markJobS_l : List Ls := [⟨[0, 1, 0, 1], ⟨[(0, .one (LA [0, 0] [.sc (.int .i64), .sl [.sc (.int .i64), .sc (.str), .sc (.str)], .sc (.int .i64), .sl [.sc (.int .i64)]])), (1, .one (LI)), (5, .one (LI))], [([0, 0], .row [.sc (.int .i64), .sl [.sc (.int .i64), .sc (.str), .sc (.str)], .sc (.int .i64), .sl [.sc (.int .i64)]] [.F, .O [.F, .F, .F], .F, .O [.F]] [])]⟩, fun m n vs k => ap 3 (laws_markJobS_L0_0 m n) vs (lm 2 fun z => k (.exit 0) (fPack ⟨[(0, .one (LA [0, 0] [.sc (.int .i64), .sl [.sc (.int .i64), .sc (.str), .sc (.str)], .sc (.int .i64), .sl [.sc (.int .i64)]])), (1, .one (LI))], [([0, 0], .row [.sc (.int .i64), .sl [.sc (.int .i64), .sc (.str), .sc (.str)], .sc (.int .i64), .sl [.sc (.int .i64)]] [.F, .O [.F, .F, .F], .F, .O [.F]] [])]⟩ z))⟩]
noncomputable def laws_markJobS_t : List Fs := laws_markJobS_f :: laws_markIntS_t
theorem laws_markJobS_g : FGood CX prims laws_markJobS_t ∧ FEqn CX prims laws_markJobS_f := fnG laws_markIntS_g.1 laws_markJobS_f Tryz.f34 ⟨34, 2, 41, 17⟩ laws_markJobS_l (fun _ _ => rfl) (fun _ _ _ => by kernel_rfl) ⟨fun _ _ _ => rfl, trivial⟩ ⟨fun _ _ _ _ _ _ => by kernel_rfl, trivial⟩ (fun _ _ _ _ _ => by kernel_rfl)

/-! loop.example/g00244/laws.markChoiceS -/
noncomputable def laws_markChoiceS_L0_0 (m : Nat) : Nat → T → T → T → (T → T → An) → An
  | 0, _, _, _, _ => .bad
  | n + 1, x0, x1, x2, k0 =>
    cond (decide (x1.int < (x2.rows.length : Int)))
    (cond (decide ((0 : Int) ≤ x1.int ∧ x1.int < (x2.rows.length : Int)))
    (cond (decide ((Int.toNat x1.int) < x2.rows.length))
    (cond (decide ((0 : Int) ≤ x1.int ∧ x1.int < ((x2.rows.set (Int.toNat x1.int) ((x2.rows.getD (Int.toNat x1.int) []).set 0 x0)).length : Int)))
    (cond (decide ((Int.toNat x1.int) < (x2.rows.set (Int.toNat x1.int) ((x2.rows.getD (Int.toNat x1.int) []).set 0 x0)).length))
    (laws_markChoiceS_L0_0 m n (T.i (IntKind.i64.wrap ((IntKind.i64.wrap (x0.int + 1)) + 1))) (T.i (IntKind.i64.wrap (x1.int + 1))) (T.l ((x2.rows.set (Int.toNat x1.int) ((x2.rows.getD (Int.toNat x1.int) []).set 0 x0)).set (Int.toNat x1.int) (((x2.rows.set (Int.toNat x1.int) ((x2.rows.getD (Int.toNat x1.int) []).set 0 x0)).getD (Int.toNat x1.int) []).set 1 (T.b ((Int.tmod (IntKind.i64.wrap (x0.int + 1)) 3) == 0))))) k0)
    (.bad))
    (.bad))
    (.bad))
    (.bad))
    (k0 x0 (T.l x2.rows))
noncomputable def laws_markChoiceS : Nat → T → T → (T → T → An) → An
  | 0, _, _, _ => .bad
  | m + 1, x0, x1, k0 =>
    laws_markChoiceS_L0_0 m m x1 (T.i 0) (T.l x0.rows)
    (fun y0 y1 => k0 y0 (T.l y1.rows))
noncomputable def laws_markChoiceS_f : Fs := ⟨35, [.one (.own [.sc (.int .i64), .sc (.bool)] [.F, .F] []), .one (AI)], fun m vs k => ap 2 (laws_markChoiceS m) vs (lm 2 fun z => k (fRet ⟨[.one (RI)], [[some ([.sc (.int .i64), .sc (.bool)], [.F, .F], [])], [none]], [none, none]⟩ z))⟩
noncomputable def laws_markChoiceS_l : List Ls := [⟨[0, 1, 0, 1], ⟨[(0, .one (LA [0, 0] [.sc (.int .i64), .sc (.bool)])), (1, .one (LI)), (5, .one (LI))], [([0, 0], .row [.sc (.int .i64), .sc (.bool)] [.F, .F] [])]⟩, fun m n vs k => ap 3 (laws_markChoiceS_L0_0 m n) vs (lm 2 fun z => k (.exit 0) (fPack ⟨[(0, .one (LA [0, 0] [.sc (.int .i64), .sc (.bool)])), (1, .one (LI))], [([0, 0], .row [.sc (.int .i64), .sc (.bool)] [.F, .F] [])]⟩ z))⟩]
noncomputable def laws_markChoiceS_t : List Fs := laws_markChoiceS_f :: laws_markJobS_t
theorem laws_markChoiceS_g : FGood CX prims laws_markChoiceS_t ∧ FEqn CX prims laws_markChoiceS_f := fnG laws_markJobS_g.1 laws_markChoiceS_f Tryz.f35 ⟨35, 2, 29, 17⟩ laws_markChoiceS_l (fun _ _ => rfl) (fun _ _ _ => by kernel_rfl) ⟨fun _ _ _ => rfl, trivial⟩ ⟨fun _ _ _ _ _ _ => by kernel_rfl, trivial⟩ (fun _ _ _ _ _ => by kernel_rfl)

/-! loop.example/g00244/laws.markCoord -/
noncomputable def laws_markCoord : Nat → T → T → T → T → T → T → T → (T → T → T → An) → An
  | 0, _, _, _, _, _, _, _, _ => .bad
  | m + 1, x0, x1, x2, x3, x4, x5, x6, k0 =>
    laws_markJobS m (T.l x3.rows) x6
    (fun y0 y1 => laws_markChoiceS m (T.l x4.rows) y0
    (fun y2 y3 => k0 y2 (T.l y1.rows) (T.l y3.rows)))
noncomputable def laws_markCoord_f : Fs := ⟨13, [.agg [AI, AI, AI, .own [.sc (.int .i64), .sl [.sc (.int .i64), .sc (.str), .sc (.str)], .sc (.int .i64), .sl [.sc (.int .i64)]] [.F, .O [.F, .F, .F], .F, .O [.F]] [], .own [.sc (.int .i64), .sc (.bool)] [.F, .F] [], AI], .one (AI)], fun m vs k => ap 7 (laws_markCoord m) vs (lm 3 fun z => k (fRet ⟨[.one (RI)], [[none, none, none, some ([.sc (.int .i64), .sl [.sc (.int .i64), .sc (.str), .sc (.str)], .sc (.int .i64), .sl [.sc (.int .i64)]], [.F, .O [.F, .F, .F], .F, .O [.F]], []), some ([.sc (.int .i64), .sc (.bool)], [.F, .F], []), none], [none]], [none, none]⟩ z))⟩
noncomputable def laws_markCoord_t : List Fs := laws_markCoord_f :: laws_markChoiceS_t
theorem laws_markCoord_g : FGood CX prims laws_markCoord_t ∧ FEqn CX prims laws_markCoord_f := fnG laws_markChoiceS_g.1 laws_markCoord_f Tryz.f13 ⟨13, 2, 14, 17⟩ [] (fun _ _ => rfl) (fun _ _ _ => by kernel_rfl) trivial trivial (fun _ _ _ _ _ => by kernel_rfl)

/-! loop.example/g00244/laws.markWordS -/
noncomputable def laws_markWordS_L0_0 (m : Nat) : Nat → T → T → T → (T → T → An) → An
  | 0, _, _, _, _ => .bad
  | n + 1, x0, x1, x2, k0 =>
    cond (decide (x1.int < (x2.rows.length : Int)))
    (cond (decide ((0 : Int) ≤ x1.int ∧ x1.int < (x2.rows.length : Int)))
    (cond (decide ((Int.toNat x1.int) < x2.rows.length))
    (cond (decide ((0 : Int) ≤ x1.int ∧ x1.int < ((x2.rows.set (Int.toNat x1.int) ((x2.rows.getD (Int.toNat x1.int) []).set 0 x0)).length : Int)))
    (cond (decide ((Int.toNat x1.int) < (x2.rows.set (Int.toNat x1.int) ((x2.rows.getD (Int.toNat x1.int) []).set 0 x0)).length))
    (cond (decide ((0 : Int) ≤ x1.int ∧ x1.int < (((x2.rows.set (Int.toNat x1.int) ((x2.rows.getD (Int.toNat x1.int) []).set 0 x0)).set (Int.toNat x1.int) (((x2.rows.set (Int.toNat x1.int) ((x2.rows.getD (Int.toNat x1.int) []).set 0 x0)).getD (Int.toNat x1.int) []).set 1 (T.i (IntKind.i64.wrap (x0.int + 1))))).length : Int)))
    (cond (decide ((Int.toNat x1.int) < ((x2.rows.set (Int.toNat x1.int) ((x2.rows.getD (Int.toNat x1.int) []).set 0 x0)).set (Int.toNat x1.int) (((x2.rows.set (Int.toNat x1.int) ((x2.rows.getD (Int.toNat x1.int) []).set 0 x0)).getD (Int.toNat x1.int) []).set 1 (T.i (IntKind.i64.wrap (x0.int + 1))))).length))
    (cond (decide ((0 : Int) ≤ x1.int ∧ x1.int < ((((x2.rows.set (Int.toNat x1.int) ((x2.rows.getD (Int.toNat x1.int) []).set 0 x0)).set (Int.toNat x1.int) (((x2.rows.set (Int.toNat x1.int) ((x2.rows.getD (Int.toNat x1.int) []).set 0 x0)).getD (Int.toNat x1.int) []).set 1 (T.i (IntKind.i64.wrap (x0.int + 1))))).set (Int.toNat x1.int) ((((x2.rows.set (Int.toNat x1.int) ((x2.rows.getD (Int.toNat x1.int) []).set 0 x0)).set (Int.toNat x1.int) (((x2.rows.set (Int.toNat x1.int) ((x2.rows.getD (Int.toNat x1.int) []).set 0 x0)).getD (Int.toNat x1.int) []).set 1 (T.i (IntKind.i64.wrap (x0.int + 1))))).getD (Int.toNat x1.int) []).set 2 (T.i (IntKind.i64.wrap ((IntKind.i64.wrap (x0.int + 1)) + 1))))).length : Int)))
    (cond (decide ((Int.toNat x1.int) < (((x2.rows.set (Int.toNat x1.int) ((x2.rows.getD (Int.toNat x1.int) []).set 0 x0)).set (Int.toNat x1.int) (((x2.rows.set (Int.toNat x1.int) ((x2.rows.getD (Int.toNat x1.int) []).set 0 x0)).getD (Int.toNat x1.int) []).set 1 (T.i (IntKind.i64.wrap (x0.int + 1))))).set (Int.toNat x1.int) ((((x2.rows.set (Int.toNat x1.int) ((x2.rows.getD (Int.toNat x1.int) []).set 0 x0)).set (Int.toNat x1.int) (((x2.rows.set (Int.toNat x1.int) ((x2.rows.getD (Int.toNat x1.int) []).set 0 x0)).getD (Int.toNat x1.int) []).set 1 (T.i (IntKind.i64.wrap (x0.int + 1))))).getD (Int.toNat x1.int) []).set 2 (T.i (IntKind.i64.wrap ((IntKind.i64.wrap (x0.int + 1)) + 1))))).length))
    (cond (decide ((Int.toNat x1.int) < (((x2.rows.set (Int.toNat x1.int) ((x2.rows.getD (Int.toNat x1.int) []).set 0 x0)).set (Int.toNat x1.int) (((x2.rows.set (Int.toNat x1.int) ((x2.rows.getD (Int.toNat x1.int) []).set 0 x0)).getD (Int.toNat x1.int) []).set 1 (T.i (IntKind.i64.wrap (x0.int + 1))))).set (Int.toNat x1.int) ((((x2.rows.set (Int.toNat x1.int) ((x2.rows.getD (Int.toNat x1.int) []).set 0 x0)).set (Int.toNat x1.int) (((x2.rows.set (Int.toNat x1.int) ((x2.rows.getD (Int.toNat x1.int) []).set 0 x0)).getD (Int.toNat x1.int) []).set 1 (T.i (IntKind.i64.wrap (x0.int + 1))))).getD (Int.toNat x1.int) []).set 2 (T.i (IntKind.i64.wrap ((IntKind.i64.wrap (x0.int + 1)) + 1))))).length))
    (laws_markOpS m (T.l (((((x2.rows.set (Int.toNat x1.int) ((x2.rows.getD (Int.toNat x1.int) []).set 0 x0)).set (Int.toNat x1.int) (((x2.rows.set (Int.toNat x1.int) ((x2.rows.getD (Int.toNat x1.int) []).set 0 x0)).getD (Int.toNat x1.int) []).set 1 (T.i (IntKind.i64.wrap (x0.int + 1))))).set (Int.toNat x1.int) ((((x2.rows.set (Int.toNat x1.int) ((x2.rows.getD (Int.toNat x1.int) []).set 0 x0)).set (Int.toNat x1.int) (((x2.rows.set (Int.toNat x1.int) ((x2.rows.getD (Int.toNat x1.int) []).set 0 x0)).getD (Int.toNat x1.int) []).set 1 (T.i (IntKind.i64.wrap (x0.int + 1))))).getD (Int.toNat x1.int) []).set 2 (T.i (IntKind.i64.wrap ((IntKind.i64.wrap (x0.int + 1)) + 1))))).getD (Int.toNat x1.int) []).tail.tail.tail.headD dflt).rows) (T.i (IntKind.i64.wrap ((IntKind.i64.wrap ((IntKind.i64.wrap (x0.int + 1)) + 1)) + 1)))
    (fun y0 y1 => cond (decide ((0 : Int) ≤ x1.int ∧ x1.int < (((((x2.rows.set (Int.toNat x1.int) ((x2.rows.getD (Int.toNat x1.int) []).set 0 x0)).set (Int.toNat x1.int) (((x2.rows.set (Int.toNat x1.int) ((x2.rows.getD (Int.toNat x1.int) []).set 0 x0)).getD (Int.toNat x1.int) []).set 1 (T.i (IntKind.i64.wrap (x0.int + 1))))).set (Int.toNat x1.int) ((((x2.rows.set (Int.toNat x1.int) ((x2.rows.getD (Int.toNat x1.int) []).set 0 x0)).set (Int.toNat x1.int) (((x2.rows.set (Int.toNat x1.int) ((x2.rows.getD (Int.toNat x1.int) []).set 0 x0)).getD (Int.toNat x1.int) []).set 1 (T.i (IntKind.i64.wrap (x0.int + 1))))).getD (Int.toNat x1.int) []).set 2 (T.i (IntKind.i64.wrap ((IntKind.i64.wrap (x0.int + 1)) + 1))))).set (Int.toNat x1.int) [(((((x2.rows.set (Int.toNat x1.int) ((x2.rows.getD (Int.toNat x1.int) []).set 0 x0)).set (Int.toNat x1.int) (((x2.rows.set (Int.toNat x1.int) ((x2.rows.getD (Int.toNat x1.int) []).set 0 x0)).getD (Int.toNat x1.int) []).set 1 (T.i (IntKind.i64.wrap (x0.int + 1))))).set (Int.toNat x1.int) ((((x2.rows.set (Int.toNat x1.int) ((x2.rows.getD (Int.toNat x1.int) []).set 0 x0)).set (Int.toNat x1.int) (((x2.rows.set (Int.toNat x1.int) ((x2.rows.getD (Int.toNat x1.int) []).set 0 x0)).getD (Int.toNat x1.int) []).set 1 (T.i (IntKind.i64.wrap (x0.int + 1))))).getD (Int.toNat x1.int) []).set 2 (T.i (IntKind.i64.wrap ((IntKind.i64.wrap (x0.int + 1)) + 1))))).getD (Int.toNat x1.int) []).headD dflt), (((((x2.rows.set (Int.toNat x1.int) ((x2.rows.getD (Int.toNat x1.int) []).set 0 x0)).set (Int.toNat x1.int) (((x2.rows.set (Int.toNat x1.int) ((x2.rows.getD (Int.toNat x1.int) []).set 0 x0)).getD (Int.toNat x1.int) []).set 1 (T.i (IntKind.i64.wrap (x0.int + 1))))).set (Int.toNat x1.int) ((((x2.rows.set (Int.toNat x1.int) ((x2.rows.getD (Int.toNat x1.int) []).set 0 x0)).set (Int.toNat x1.int) (((x2.rows.set (Int.toNat x1.int) ((x2.rows.getD (Int.toNat x1.int) []).set 0 x0)).getD (Int.toNat x1.int) []).set 1 (T.i (IntKind.i64.wrap (x0.int + 1))))).getD (Int.toNat x1.int) []).set 2 (T.i (IntKind.i64.wrap ((IntKind.i64.wrap (x0.int + 1)) + 1))))).getD (Int.toNat x1.int) []).tail.headD dflt), (((((x2.rows.set (Int.toNat x1.int) ((x2.rows.getD (Int.toNat x1.int) []).set 0 x0)).set (Int.toNat x1.int) (((x2.rows.set (Int.toNat x1.int) ((x2.rows.getD (Int.toNat x1.int) []).set 0 x0)).getD (Int.toNat x1.int) []).set 1 (T.i (IntKind.i64.wrap (x0.int + 1))))).set (Int.toNat x1.int) ((((x2.rows.set (Int.toNat x1.int) ((x2.rows.getD (Int.toNat x1.int) []).set 0 x0)).set (Int.toNat x1.int) (((x2.rows.set (Int.toNat x1.int) ((x2.rows.getD (Int.toNat x1.int) []).set 0 x0)).getD (Int.toNat x1.int) []).set 1 (T.i (IntKind.i64.wrap (x0.int + 1))))).getD (Int.toNat x1.int) []).set 2 (T.i (IntKind.i64.wrap ((IntKind.i64.wrap (x0.int + 1)) + 1))))).getD (Int.toNat x1.int) []).tail.tail.headD dflt), (T.l y1.rows), (((((x2.rows.set (Int.toNat x1.int) ((x2.rows.getD (Int.toNat x1.int) []).set 0 x0)).set (Int.toNat x1.int) (((x2.rows.set (Int.toNat x1.int) ((x2.rows.getD (Int.toNat x1.int) []).set 0 x0)).getD (Int.toNat x1.int) []).set 1 (T.i (IntKind.i64.wrap (x0.int + 1))))).set (Int.toNat x1.int) ((((x2.rows.set (Int.toNat x1.int) ((x2.rows.getD (Int.toNat x1.int) []).set 0 x0)).set (Int.toNat x1.int) (((x2.rows.set (Int.toNat x1.int) ((x2.rows.getD (Int.toNat x1.int) []).set 0 x0)).getD (Int.toNat x1.int) []).set 1 (T.i (IntKind.i64.wrap (x0.int + 1))))).getD (Int.toNat x1.int) []).set 2 (T.i (IntKind.i64.wrap ((IntKind.i64.wrap (x0.int + 1)) + 1))))).getD (Int.toNat x1.int) []).tail.tail.tail.tail.headD dflt)]).length : Int)))
    (cond (decide ((Int.toNat x1.int) < ((((x2.rows.set (Int.toNat x1.int) ((x2.rows.getD (Int.toNat x1.int) []).set 0 x0)).set (Int.toNat x1.int) (((x2.rows.set (Int.toNat x1.int) ((x2.rows.getD (Int.toNat x1.int) []).set 0 x0)).getD (Int.toNat x1.int) []).set 1 (T.i (IntKind.i64.wrap (x0.int + 1))))).set (Int.toNat x1.int) ((((x2.rows.set (Int.toNat x1.int) ((x2.rows.getD (Int.toNat x1.int) []).set 0 x0)).set (Int.toNat x1.int) (((x2.rows.set (Int.toNat x1.int) ((x2.rows.getD (Int.toNat x1.int) []).set 0 x0)).getD (Int.toNat x1.int) []).set 1 (T.i (IntKind.i64.wrap (x0.int + 1))))).getD (Int.toNat x1.int) []).set 2 (T.i (IntKind.i64.wrap ((IntKind.i64.wrap (x0.int + 1)) + 1))))).set (Int.toNat x1.int) [(((((x2.rows.set (Int.toNat x1.int) ((x2.rows.getD (Int.toNat x1.int) []).set 0 x0)).set (Int.toNat x1.int) (((x2.rows.set (Int.toNat x1.int) ((x2.rows.getD (Int.toNat x1.int) []).set 0 x0)).getD (Int.toNat x1.int) []).set 1 (T.i (IntKind.i64.wrap (x0.int + 1))))).set (Int.toNat x1.int) ((((x2.rows.set (Int.toNat x1.int) ((x2.rows.getD (Int.toNat x1.int) []).set 0 x0)).set (Int.toNat x1.int) (((x2.rows.set (Int.toNat x1.int) ((x2.rows.getD (Int.toNat x1.int) []).set 0 x0)).getD (Int.toNat x1.int) []).set 1 (T.i (IntKind.i64.wrap (x0.int + 1))))).getD (Int.toNat x1.int) []).set 2 (T.i (IntKind.i64.wrap ((IntKind.i64.wrap (x0.int + 1)) + 1))))).getD (Int.toNat x1.int) []).headD dflt), (((((x2.rows.set (Int.toNat x1.int) ((x2.rows.getD (Int.toNat x1.int) []).set 0 x0)).set (Int.toNat x1.int) (((x2.rows.set (Int.toNat x1.int) ((x2.rows.getD (Int.toNat x1.int) []).set 0 x0)).getD (Int.toNat x1.int) []).set 1 (T.i (IntKind.i64.wrap (x0.int + 1))))).set (Int.toNat x1.int) ((((x2.rows.set (Int.toNat x1.int) ((x2.rows.getD (Int.toNat x1.int) []).set 0 x0)).set (Int.toNat x1.int) (((x2.rows.set (Int.toNat x1.int) ((x2.rows.getD (Int.toNat x1.int) []).set 0 x0)).getD (Int.toNat x1.int) []).set 1 (T.i (IntKind.i64.wrap (x0.int + 1))))).getD (Int.toNat x1.int) []).set 2 (T.i (IntKind.i64.wrap ((IntKind.i64.wrap (x0.int + 1)) + 1))))).getD (Int.toNat x1.int) []).tail.headD dflt), (((((x2.rows.set (Int.toNat x1.int) ((x2.rows.getD (Int.toNat x1.int) []).set 0 x0)).set (Int.toNat x1.int) (((x2.rows.set (Int.toNat x1.int) ((x2.rows.getD (Int.toNat x1.int) []).set 0 x0)).getD (Int.toNat x1.int) []).set 1 (T.i (IntKind.i64.wrap (x0.int + 1))))).set (Int.toNat x1.int) ((((x2.rows.set (Int.toNat x1.int) ((x2.rows.getD (Int.toNat x1.int) []).set 0 x0)).set (Int.toNat x1.int) (((x2.rows.set (Int.toNat x1.int) ((x2.rows.getD (Int.toNat x1.int) []).set 0 x0)).getD (Int.toNat x1.int) []).set 1 (T.i (IntKind.i64.wrap (x0.int + 1))))).getD (Int.toNat x1.int) []).set 2 (T.i (IntKind.i64.wrap ((IntKind.i64.wrap (x0.int + 1)) + 1))))).getD (Int.toNat x1.int) []).tail.tail.headD dflt), (T.l y1.rows), (((((x2.rows.set (Int.toNat x1.int) ((x2.rows.getD (Int.toNat x1.int) []).set 0 x0)).set (Int.toNat x1.int) (((x2.rows.set (Int.toNat x1.int) ((x2.rows.getD (Int.toNat x1.int) []).set 0 x0)).getD (Int.toNat x1.int) []).set 1 (T.i (IntKind.i64.wrap (x0.int + 1))))).set (Int.toNat x1.int) ((((x2.rows.set (Int.toNat x1.int) ((x2.rows.getD (Int.toNat x1.int) []).set 0 x0)).set (Int.toNat x1.int) (((x2.rows.set (Int.toNat x1.int) ((x2.rows.getD (Int.toNat x1.int) []).set 0 x0)).getD (Int.toNat x1.int) []).set 1 (T.i (IntKind.i64.wrap (x0.int + 1))))).getD (Int.toNat x1.int) []).set 2 (T.i (IntKind.i64.wrap ((IntKind.i64.wrap (x0.int + 1)) + 1))))).getD (Int.toNat x1.int) []).tail.tail.tail.tail.headD dflt)]).length))
    (laws_markWordS_L0_0 m n (T.i (IntKind.i64.wrap (y0.int + 1))) (T.i (IntKind.i64.wrap (x1.int + 1))) (T.l (((((x2.rows.set (Int.toNat x1.int) ((x2.rows.getD (Int.toNat x1.int) []).set 0 x0)).set (Int.toNat x1.int) (((x2.rows.set (Int.toNat x1.int) ((x2.rows.getD (Int.toNat x1.int) []).set 0 x0)).getD (Int.toNat x1.int) []).set 1 (T.i (IntKind.i64.wrap (x0.int + 1))))).set (Int.toNat x1.int) ((((x2.rows.set (Int.toNat x1.int) ((x2.rows.getD (Int.toNat x1.int) []).set 0 x0)).set (Int.toNat x1.int) (((x2.rows.set (Int.toNat x1.int) ((x2.rows.getD (Int.toNat x1.int) []).set 0 x0)).getD (Int.toNat x1.int) []).set 1 (T.i (IntKind.i64.wrap (x0.int + 1))))).getD (Int.toNat x1.int) []).set 2 (T.i (IntKind.i64.wrap ((IntKind.i64.wrap (x0.int + 1)) + 1))))).set (Int.toNat x1.int) [(((((x2.rows.set (Int.toNat x1.int) ((x2.rows.getD (Int.toNat x1.int) []).set 0 x0)).set (Int.toNat x1.int) (((x2.rows.set (Int.toNat x1.int) ((x2.rows.getD (Int.toNat x1.int) []).set 0 x0)).getD (Int.toNat x1.int) []).set 1 (T.i (IntKind.i64.wrap (x0.int + 1))))).set (Int.toNat x1.int) ((((x2.rows.set (Int.toNat x1.int) ((x2.rows.getD (Int.toNat x1.int) []).set 0 x0)).set (Int.toNat x1.int) (((x2.rows.set (Int.toNat x1.int) ((x2.rows.getD (Int.toNat x1.int) []).set 0 x0)).getD (Int.toNat x1.int) []).set 1 (T.i (IntKind.i64.wrap (x0.int + 1))))).getD (Int.toNat x1.int) []).set 2 (T.i (IntKind.i64.wrap ((IntKind.i64.wrap (x0.int + 1)) + 1))))).getD (Int.toNat x1.int) []).headD dflt), (((((x2.rows.set (Int.toNat x1.int) ((x2.rows.getD (Int.toNat x1.int) []).set 0 x0)).set (Int.toNat x1.int) (((x2.rows.set (Int.toNat x1.int) ((x2.rows.getD (Int.toNat x1.int) []).set 0 x0)).getD (Int.toNat x1.int) []).set 1 (T.i (IntKind.i64.wrap (x0.int + 1))))).set (Int.toNat x1.int) ((((x2.rows.set (Int.toNat x1.int) ((x2.rows.getD (Int.toNat x1.int) []).set 0 x0)).set (Int.toNat x1.int) (((x2.rows.set (Int.toNat x1.int) ((x2.rows.getD (Int.toNat x1.int) []).set 0 x0)).getD (Int.toNat x1.int) []).set 1 (T.i (IntKind.i64.wrap (x0.int + 1))))).getD (Int.toNat x1.int) []).set 2 (T.i (IntKind.i64.wrap ((IntKind.i64.wrap (x0.int + 1)) + 1))))).getD (Int.toNat x1.int) []).tail.headD dflt), (((((x2.rows.set (Int.toNat x1.int) ((x2.rows.getD (Int.toNat x1.int) []).set 0 x0)).set (Int.toNat x1.int) (((x2.rows.set (Int.toNat x1.int) ((x2.rows.getD (Int.toNat x1.int) []).set 0 x0)).getD (Int.toNat x1.int) []).set 1 (T.i (IntKind.i64.wrap (x0.int + 1))))).set (Int.toNat x1.int) ((((x2.rows.set (Int.toNat x1.int) ((x2.rows.getD (Int.toNat x1.int) []).set 0 x0)).set (Int.toNat x1.int) (((x2.rows.set (Int.toNat x1.int) ((x2.rows.getD (Int.toNat x1.int) []).set 0 x0)).getD (Int.toNat x1.int) []).set 1 (T.i (IntKind.i64.wrap (x0.int + 1))))).getD (Int.toNat x1.int) []).set 2 (T.i (IntKind.i64.wrap ((IntKind.i64.wrap (x0.int + 1)) + 1))))).getD (Int.toNat x1.int) []).tail.tail.headD dflt), (T.l y1.rows), (((((x2.rows.set (Int.toNat x1.int) ((x2.rows.getD (Int.toNat x1.int) []).set 0 x0)).set (Int.toNat x1.int) (((x2.rows.set (Int.toNat x1.int) ((x2.rows.getD (Int.toNat x1.int) []).set 0 x0)).getD (Int.toNat x1.int) []).set 1 (T.i (IntKind.i64.wrap (x0.int + 1))))).set (Int.toNat x1.int) ((((x2.rows.set (Int.toNat x1.int) ((x2.rows.getD (Int.toNat x1.int) []).set 0 x0)).set (Int.toNat x1.int) (((x2.rows.set (Int.toNat x1.int) ((x2.rows.getD (Int.toNat x1.int) []).set 0 x0)).getD (Int.toNat x1.int) []).set 1 (T.i (IntKind.i64.wrap (x0.int + 1))))).getD (Int.toNat x1.int) []).set 2 (T.i (IntKind.i64.wrap ((IntKind.i64.wrap (x0.int + 1)) + 1))))).getD (Int.toNat x1.int) []).tail.tail.tail.tail.headD dflt)]).set (Int.toNat x1.int) ((((((x2.rows.set (Int.toNat x1.int) ((x2.rows.getD (Int.toNat x1.int) []).set 0 x0)).set (Int.toNat x1.int) (((x2.rows.set (Int.toNat x1.int) ((x2.rows.getD (Int.toNat x1.int) []).set 0 x0)).getD (Int.toNat x1.int) []).set 1 (T.i (IntKind.i64.wrap (x0.int + 1))))).set (Int.toNat x1.int) ((((x2.rows.set (Int.toNat x1.int) ((x2.rows.getD (Int.toNat x1.int) []).set 0 x0)).set (Int.toNat x1.int) (((x2.rows.set (Int.toNat x1.int) ((x2.rows.getD (Int.toNat x1.int) []).set 0 x0)).getD (Int.toNat x1.int) []).set 1 (T.i (IntKind.i64.wrap (x0.int + 1))))).getD (Int.toNat x1.int) []).set 2 (T.i (IntKind.i64.wrap ((IntKind.i64.wrap (x0.int + 1)) + 1))))).set (Int.toNat x1.int) [(((((x2.rows.set (Int.toNat x1.int) ((x2.rows.getD (Int.toNat x1.int) []).set 0 x0)).set (Int.toNat x1.int) (((x2.rows.set (Int.toNat x1.int) ((x2.rows.getD (Int.toNat x1.int) []).set 0 x0)).getD (Int.toNat x1.int) []).set 1 (T.i (IntKind.i64.wrap (x0.int + 1))))).set (Int.toNat x1.int) ((((x2.rows.set (Int.toNat x1.int) ((x2.rows.getD (Int.toNat x1.int) []).set 0 x0)).set (Int.toNat x1.int) (((x2.rows.set (Int.toNat x1.int) ((x2.rows.getD (Int.toNat x1.int) []).set 0 x0)).getD (Int.toNat x1.int) []).set 1 (T.i (IntKind.i64.wrap (x0.int + 1))))).getD (Int.toNat x1.int) []).set 2 (T.i (IntKind.i64.wrap ((IntKind.i64.wrap (x0.int + 1)) + 1))))).getD (Int.toNat x1.int) []).headD dflt), (((((x2.rows.set (Int.toNat x1.int) ((x2.rows.getD (Int.toNat x1.int) []).set 0 x0)).set (Int.toNat x1.int) (((x2.rows.set (Int.toNat x1.int) ((x2.rows.getD (Int.toNat x1.int) []).set 0 x0)).getD (Int.toNat x1.int) []).set 1 (T.i (IntKind.i64.wrap (x0.int + 1))))).set (Int.toNat x1.int) ((((x2.rows.set (Int.toNat x1.int) ((x2.rows.getD (Int.toNat x1.int) []).set 0 x0)).set (Int.toNat x1.int) (((x2.rows.set (Int.toNat x1.int) ((x2.rows.getD (Int.toNat x1.int) []).set 0 x0)).getD (Int.toNat x1.int) []).set 1 (T.i (IntKind.i64.wrap (x0.int + 1))))).getD (Int.toNat x1.int) []).set 2 (T.i (IntKind.i64.wrap ((IntKind.i64.wrap (x0.int + 1)) + 1))))).getD (Int.toNat x1.int) []).tail.headD dflt), (((((x2.rows.set (Int.toNat x1.int) ((x2.rows.getD (Int.toNat x1.int) []).set 0 x0)).set (Int.toNat x1.int) (((x2.rows.set (Int.toNat x1.int) ((x2.rows.getD (Int.toNat x1.int) []).set 0 x0)).getD (Int.toNat x1.int) []).set 1 (T.i (IntKind.i64.wrap (x0.int + 1))))).set (Int.toNat x1.int) ((((x2.rows.set (Int.toNat x1.int) ((x2.rows.getD (Int.toNat x1.int) []).set 0 x0)).set (Int.toNat x1.int) (((x2.rows.set (Int.toNat x1.int) ((x2.rows.getD (Int.toNat x1.int) []).set 0 x0)).getD (Int.toNat x1.int) []).set 1 (T.i (IntKind.i64.wrap (x0.int + 1))))).getD (Int.toNat x1.int) []).set 2 (T.i (IntKind.i64.wrap ((IntKind.i64.wrap (x0.int + 1)) + 1))))).getD (Int.toNat x1.int) []).tail.tail.headD dflt), (T.l y1.rows), (((((x2.rows.set (Int.toNat x1.int) ((x2.rows.getD (Int.toNat x1.int) []).set 0 x0)).set (Int.toNat x1.int) (((x2.rows.set (Int.toNat x1.int) ((x2.rows.getD (Int.toNat x1.int) []).set 0 x0)).getD (Int.toNat x1.int) []).set 1 (T.i (IntKind.i64.wrap (x0.int + 1))))).set (Int.toNat x1.int) ((((x2.rows.set (Int.toNat x1.int) ((x2.rows.getD (Int.toNat x1.int) []).set 0 x0)).set (Int.toNat x1.int) (((x2.rows.set (Int.toNat x1.int) ((x2.rows.getD (Int.toNat x1.int) []).set 0 x0)).getD (Int.toNat x1.int) []).set 1 (T.i (IntKind.i64.wrap (x0.int + 1))))).getD (Int.toNat x1.int) []).set 2 (T.i (IntKind.i64.wrap ((IntKind.i64.wrap (x0.int + 1)) + 1))))).getD (Int.toNat x1.int) []).tail.tail.tail.tail.headD dflt)]).getD (Int.toNat x1.int) []).set 4 (T.b ((Int.tmod y0.int 3) == 0))))) k0)
    (.bad))
    (.bad)))
    (.bad))
    (.bad))
    (.bad))
    (.bad))
    (.bad))
    (.bad))
    (.bad))
    (.bad))
    (.bad))
    (k0 x0 (T.l x2.rows))
noncomputable def laws_markWordS : Nat → T → T → (T → T → An) → An
  | 0, _, _, _ => .bad
  | m + 1, x0, x1, k0 =>
    laws_markWordS_L0_0 m m x1 (T.i 0) (T.l x0.rows)
    (fun y2 y3 => k0 y2 (T.l y3.rows))
noncomputable def laws_markWordS_f : Fs := ⟨15, [.one (.own [.sc (.int .i64), .sc (.int .i64), .sc (.int .i64), .sl [.sc (.int .i64), .sc (.str), .sc (.str)], .sc (.bool)] [.F, .F, .F, .O [.F, .F, .F], .F] []), .one (AI)], fun m vs k => ap 2 (laws_markWordS m) vs (lm 2 fun z => k (fRet ⟨[.one (RI)], [[some ([.sc (.int .i64), .sc (.int .i64), .sc (.int .i64), .sl [.sc (.int .i64), .sc (.str), .sc (.str)], .sc (.bool)], [.F, .F, .F, .O [.F, .F, .F], .F], [])], [none]], [none, none]⟩ z))⟩
noncomputable def laws_markWordS_l : List Ls := [⟨[0, 1, 0, 1], ⟨[(0, .one (LA [0, 0] [.sc (.int .i64), .sc (.int .i64), .sc (.int .i64), .sl [.sc (.int .i64), .sc (.str), .sc (.str)], .sc (.bool)])), (1, .one (LI)), (5, .one (LI))], [([0, 0], .row [.sc (.int .i64), .sc (.int .i64), .sc (.int .i64), .sl [.sc (.int .i64), .sc (.str), .sc (.str)], .sc (.bool)] [.F, .F, .F, .O [.F, .F, .F], .F] [])]⟩, fun m n vs k => ap 3 (laws_markWordS_L0_0 m n) vs (lm 2 fun z => k (.exit 0) (fPack ⟨[(0, .one (LA [0, 0] [.sc (.int .i64), .sc (.int .i64), .sc (.int .i64), .sl [.sc (.int .i64), .sc (.str), .sc (.str)], .sc (.bool)])), (1, .one (LI))], [([0, 0], .row [.sc (.int .i64), .sc (.int .i64), .sc (.int .i64), .sl [.sc (.int .i64), .sc (.str), .sc (.str)], .sc (.bool)] [.F, .F, .F, .O [.F, .F, .F], .F] [])]⟩ z))⟩]
noncomputable def laws_markWordS_t : List Fs := laws_markWordS_f :: laws_markCoord_t
theorem laws_markWordS_g : FGood CX prims laws_markWordS_t ∧ FEqn CX prims laws_markWordS_f := fnG laws_markCoord_g.1 laws_markWordS_f Tryz.f15 ⟨15, 2, 50, 17⟩ laws_markWordS_l (fun _ _ => rfl) (fun _ _ _ => by kernel_rfl) ⟨fun _ _ _ => rfl, trivial⟩ ⟨fun _ _ _ _ _ _ => by kernel_rfl, trivial⟩ (fun _ _ _ _ _ => by kernel_rfl)

/-! loop.example/g00244/laws.heldOpS -/
noncomputable def laws_heldOpS_L0_0 (m : Nat) : Nat → T → T → T → (T → An) → (T → An) → An
  | 0, _, _, _, _, _ => .bad
  | n + 1, x0, x1, x2, k0, k1 =>
    cond (decide (x2.int < (x0.rows.length : Int)))
    (cond (decide ((0 : Int) ≤ x2.int ∧ x2.int < (x0.rows.length : Int)))
    (cond (((x0.rows.getD (Int.toNat x2.int) []).getD 0 dflt).int != x1.int)
    (k0 (T.i (-1)))
    (cond (decide ((0 : Int) ≤ x2.int ∧ x2.int < (x0.rows.length : Int)))
    (laws_markText m (T.i (IntKind.i64.wrap (x1.int + 1)))
    (fun y0 => cond (!((((x0.rows.getD (Int.toNat x2.int) []).drop 1).getD 0 dflt).str.toList == y0.str.toList))
    (k0 (T.i (-1)))
    (cond (decide ((0 : Int) ≤ x2.int ∧ x2.int < (x0.rows.length : Int)))
    (laws_markText m (T.i (IntKind.i64.wrap ((IntKind.i64.wrap (x1.int + 1)) + 1)))
    (fun y1 => cond (!((((x0.rows.getD (Int.toNat x2.int) []).drop 2).getD 0 dflt).str.toList == y1.str.toList))
    (k0 (T.i (-1)))
    (laws_heldOpS_L0_0 m n x0 (T.i (IntKind.i64.wrap ((IntKind.i64.wrap ((IntKind.i64.wrap (x1.int + 1)) + 1)) + 1))) (T.i (IntKind.i64.wrap (x2.int + 1))) k0 k1)))
    (.bad))))
    (.bad)))
    (.bad))
    (k1 x1)
noncomputable def laws_heldOpS : Nat → T → T → (T → An) → An
  | 0, _, _, _ => .bad
  | m + 1, x0, x1, k0 =>
    laws_heldOpS_L0_0 m m (T.l x0.rows) x1 (T.i 0)
    (fun y2 => k0 y2)
    (fun y3 => k0 y3)
noncomputable def laws_heldOpS_f : Fs := ⟨39, [.one (.dz [.sc (.int .i64), .sc (.str), .sc (.str)] []), .one (AI)], fun m vs k => ap 2 (laws_heldOpS m) vs (lm 1 fun z => k (fRet ⟨[.one (RI)], [[none], [none]], [none, none]⟩ z))⟩
noncomputable def laws_heldOpS_l : List Ls := [⟨[0, 1, 0, 1], ⟨[(0, .one (LD [.sc (.int .i64), .sc (.str), .sc (.str)])), (1, .one (LI)), (5, .one (LI))], [([4000000], .gone)]⟩, fun m n vs k => ap 3 (laws_heldOpS_L0_0 m n) vs (lm 1 fun z => k .ret (fPack ⟨[(4, .one (LI))], []⟩ z)) (lm 1 fun z => k (.exit 0) (fPack ⟨[(1, .one (LI))], []⟩ z))⟩]
noncomputable def laws_heldOpS_t : List Fs := laws_heldOpS_f :: laws_markWordS_t
theorem laws_heldOpS_g : FGood CX prims laws_heldOpS_t ∧ FEqn CX prims laws_heldOpS_f := fnG laws_markWordS_g.1 laws_heldOpS_f Tryz.f39 ⟨39, 2, 42, 16⟩ laws_heldOpS_l (fun _ _ => rfl) (fun _ _ _ => by kernel_rfl) ⟨fun _ _ _ => rfl, trivial⟩ ⟨fun _ _ _ _ _ _ => by kernel_rfl, trivial⟩ (fun _ _ _ _ _ => by kernel_rfl)

/-! loop.example/g00244/laws.heldIntS -/
noncomputable def laws_heldIntS_L0_0 (m : Nat) : Nat → T → T → T → (T → An) → (T → An) → An
  | 0, _, _, _, _, _ => .bad
  | n + 1, x0, x1, x2, k0, k1 =>
    cond (decide (x2.int < (x0.rows.length : Int)))
    (cond (decide ((0 : Int) ≤ x2.int ∧ x2.int < (x0.rows.length : Int)))
    (cond (((x0.rows.getD (Int.toNat x2.int) []).getD 0 dflt).int != x1.int)
    (k0 (T.i (-1)))
    (laws_heldIntS_L0_0 m n x0 (T.i (IntKind.i64.wrap (x1.int + 1))) (T.i (IntKind.i64.wrap (x2.int + 1))) k0 k1))
    (.bad))
    (k1 x1)
noncomputable def laws_heldIntS : Nat → T → T → (T → An) → An
  | 0, _, _, _ => .bad
  | m + 1, x0, x1, k0 =>
    laws_heldIntS_L0_0 m m (T.l x0.rows) x1 (T.i 0)
    (fun y0 => k0 y0)
    (fun y1 => k0 y1)
noncomputable def laws_heldIntS_f : Fs := ⟨62, [.one (.dz [.sc (.int .i64)] []), .one (AI)], fun m vs k => ap 2 (laws_heldIntS m) vs (lm 1 fun z => k (fRet ⟨[.one (RI)], [[none], [none]], [none, none]⟩ z))⟩
noncomputable def laws_heldIntS_l : List Ls := [⟨[0, 1, 0, 1], ⟨[(0, .one (LD [.sc (.int .i64)])), (1, .one (LI)), (5, .one (LI))], [([4000000], .gone)]⟩, fun m n vs k => ap 3 (laws_heldIntS_L0_0 m n) vs (lm 1 fun z => k .ret (fPack ⟨[(4, .one (LI))], []⟩ z)) (lm 1 fun z => k (.exit 0) (fPack ⟨[(1, .one (LI))], []⟩ z))⟩]
noncomputable def laws_heldIntS_t : List Fs := laws_heldIntS_f :: laws_heldOpS_t
theorem laws_heldIntS_g : FGood CX prims laws_heldIntS_t ∧ FEqn CX prims laws_heldIntS_f := fnG laws_heldOpS_g.1 laws_heldIntS_f Tryz.f62 ⟨62, 2, 21, 16⟩ laws_heldIntS_l (fun _ _ => rfl) (fun _ _ _ => by kernel_rfl) ⟨fun _ _ _ => rfl, trivial⟩ ⟨fun _ _ _ _ _ _ => by kernel_rfl, trivial⟩ (fun _ _ _ _ _ => by kernel_rfl)

/-! loop.example/g00244/laws.heldJobS -/
noncomputable def laws_heldJobS_L0_0 (m : Nat) : Nat → T → T → T → (T → An) → (T → An) → An
  | 0, _, _, _, _, _ => .bad
  | n + 1, x0, x1, x2, k0, k1 =>
    cond (decide (x2.int < (x0.rows.length : Int)))
    (cond (decide ((0 : Int) ≤ x2.int ∧ x2.int < (x0.rows.length : Int)))
    (cond (((x0.rows.getD (Int.toNat x2.int) []).getD 0 dflt).int != x1.int)
    (k0 (T.i (-1)))
    (cond (decide ((0 : Int) ≤ x2.int ∧ x2.int < (x0.rows.length : Int)))
    (laws_heldOpS m (T.l (((x0.rows.getD (Int.toNat x2.int) []).drop 1).getD 0 dflt).rows) (T.i (IntKind.i64.wrap (x1.int + 1)))
    (fun y0 => cond (decide (y0.int < 0))
    (k0 (T.i (-1)))
    (cond (decide ((0 : Int) ≤ x2.int ∧ x2.int < (x0.rows.length : Int)))
    (cond ((((x0.rows.getD (Int.toNat x2.int) []).drop 2).getD 0 dflt).int != y0.int)
    (k0 (T.i (-1)))
    (cond (decide ((0 : Int) ≤ x2.int ∧ x2.int < (x0.rows.length : Int)))
    (laws_heldIntS m (T.l (((x0.rows.getD (Int.toNat x2.int) []).drop 3).getD 0 dflt).rows) (T.i (IntKind.i64.wrap (y0.int + 1)))
    (fun y1 => cond (decide (y1.int < 0))
    (k0 (T.i (-1)))
    (laws_heldJobS_L0_0 m n x0 y1 (T.i (IntKind.i64.wrap (x2.int + 1))) k0 k1)))
    (.bad)))
    (.bad))))
    (.bad)))
    (.bad))
    (k1 x1)
noncomputable def laws_heldJobS : Nat → T → T → (T → An) → An
  | 0, _, _, _ => .bad
  | m + 1, x0, x1, k0 =>
    laws_heldJobS_L0_0 m m (T.l x0.rows) x1 (T.i 0)
    (fun y2 => k0 y2)
    (fun y3 => k0 y3)
noncomputable def laws_heldJobS_f : Fs := ⟨37, [.one (.dz [.sc (.int .i64), .sl [.sc (.int .i64), .sc (.str), .sc (.str)], .sc (.int .i64), .sl [.sc (.int .i64)]] []), .one (AI)], fun m vs k => ap 2 (laws_heldJobS m) vs (lm 1 fun z => k (fRet ⟨[.one (RI)], [[none], [none]], [none, none]⟩ z))⟩
noncomputable def laws_heldJobS_l : List Ls := [⟨[0, 1, 0, 1], ⟨[(0, .one (LD [.sc (.int .i64), .sl [.sc (.int .i64), .sc (.str), .sc (.str)], .sc (.int .i64), .sl [.sc (.int .i64)]])), (1, .one (LI)), (5, .one (LI))], [([4000000], .gone)]⟩, fun m n vs k => ap 3 (laws_heldJobS_L0_0 m n) vs (lm 1 fun z => k .ret (fPack ⟨[(4, .one (LI))], []⟩ z)) (lm 1 fun z => k (.exit 0) (fPack ⟨[(1, .one (LI))], []⟩ z))⟩]
noncomputable def laws_heldJobS_t : List Fs := laws_heldJobS_f :: laws_heldIntS_t
theorem laws_heldJobS_g : FGood CX prims laws_heldJobS_t ∧ FEqn CX prims laws_heldJobS_f := fnG laws_heldIntS_g.1 laws_heldJobS_f Tryz.f37 ⟨37, 2, 49, 16⟩ laws_heldJobS_l (fun _ _ => rfl) (fun _ _ _ => by kernel_rfl) ⟨fun _ _ _ => rfl, trivial⟩ ⟨fun _ _ _ _ _ _ => by kernel_rfl, trivial⟩ (fun _ _ _ _ _ => by kernel_rfl)

/-! loop.example/g00244/laws.heldChoiceS -/
noncomputable def laws_heldChoiceS_L0_0 (m : Nat) : Nat → T → T → T → (T → An) → (T → An) → An
  | 0, _, _, _, _, _ => .bad
  | n + 1, x0, x1, x2, k0, k1 =>
    cond (decide (x2.int < (x0.rows.length : Int)))
    (cond (decide ((0 : Int) ≤ x2.int ∧ x2.int < (x0.rows.length : Int)))
    (cond (((x0.rows.getD (Int.toNat x2.int) []).getD 0 dflt).int != x1.int)
    (k0 (T.i (-1)))
    (cond (decide ((0 : Int) ≤ x2.int ∧ x2.int < (x0.rows.length : Int)))
    (cond (!((((x0.rows.getD (Int.toNat x2.int) []).drop 1).getD 0 dflt).bool == ((Int.tmod (IntKind.i64.wrap (x1.int + 1)) 3) == 0)))
    (k0 (T.i (-1)))
    (laws_heldChoiceS_L0_0 m n x0 (T.i (IntKind.i64.wrap ((IntKind.i64.wrap (x1.int + 1)) + 1))) (T.i (IntKind.i64.wrap (x2.int + 1))) k0 k1))
    (.bad)))
    (.bad))
    (k1 x1)
noncomputable def laws_heldChoiceS : Nat → T → T → (T → An) → An
  | 0, _, _, _ => .bad
  | m + 1, x0, x1, k0 =>
    laws_heldChoiceS_L0_0 m m (T.l x0.rows) x1 (T.i 0)
    (fun y0 => k0 y0)
    (fun y1 => k0 y1)
noncomputable def laws_heldChoiceS_f : Fs := ⟨38, [.one (.dz [.sc (.int .i64), .sc (.bool)] []), .one (AI)], fun m vs k => ap 2 (laws_heldChoiceS m) vs (lm 1 fun z => k (fRet ⟨[.one (RI)], [[none], [none]], [none, none]⟩ z))⟩
noncomputable def laws_heldChoiceS_l : List Ls := [⟨[0, 1, 0, 1], ⟨[(0, .one (LD [.sc (.int .i64), .sc (.bool)])), (1, .one (LI)), (5, .one (LI))], [([4000000], .gone)]⟩, fun m n vs k => ap 3 (laws_heldChoiceS_L0_0 m n) vs (lm 1 fun z => k .ret (fPack ⟨[(4, .one (LI))], []⟩ z)) (lm 1 fun z => k (.exit 0) (fPack ⟨[(1, .one (LI))], []⟩ z))⟩]
noncomputable def laws_heldChoiceS_t : List Fs := laws_heldChoiceS_f :: laws_heldJobS_t
theorem laws_heldChoiceS_g : FGood CX prims laws_heldChoiceS_t ∧ FEqn CX prims laws_heldChoiceS_f := fnG laws_heldJobS_g.1 laws_heldChoiceS_f Tryz.f38 ⟨38, 2, 33, 16⟩ laws_heldChoiceS_l (fun _ _ => rfl) (fun _ _ _ => by kernel_rfl) ⟨fun _ _ _ => rfl, trivial⟩ ⟨fun _ _ _ _ _ _ => by kernel_rfl, trivial⟩ (fun _ _ _ _ _ => by kernel_rfl)

/-! loop.example/g00244/laws.heldCoord -/
noncomputable def laws_heldCoord : Nat → T → T → T → T → T → T → T → (T → An) → An
  | 0, _, _, _, _, _, _, _, _ => .bad
  | m + 1, x0, x1, x2, x3, x4, x5, x6, k0 =>
    laws_heldJobS m (T.l x3.rows) x6
    (fun y0 => cond (decide (y0.int < 0))
    (k0 (T.i (-1)))
    (laws_heldChoiceS m (T.l x4.rows) y0
    (fun y1 => cond (decide (y1.int < 0))
    (k0 (T.i (-1)))
    (k0 y1))))
noncomputable def laws_heldCoord_f : Fs := ⟨16, [.agg [AI, AI, AI, .dz [.sc (.int .i64), .sl [.sc (.int .i64), .sc (.str), .sc (.str)], .sc (.int .i64), .sl [.sc (.int .i64)]] [], .dz [.sc (.int .i64), .sc (.bool)] [], AI], .one (AI)], fun m vs k => ap 7 (laws_heldCoord m) vs (lm 1 fun z => k (fRet ⟨[.one (RI)], [[none, none, none, none, none, none], [none]], [none, none]⟩ z))⟩
noncomputable def laws_heldCoord_t : List Fs := laws_heldCoord_f :: laws_heldChoiceS_t
theorem laws_heldCoord_g : FGood CX prims laws_heldCoord_t ∧ FEqn CX prims laws_heldCoord_f := fnG laws_heldChoiceS_g.1 laws_heldCoord_f Tryz.f16 ⟨16, 2, 18, 16⟩ [] (fun _ _ => rfl) (fun _ _ _ => by kernel_rfl) trivial trivial (fun _ _ _ _ _ => by kernel_rfl)

/-! loop.example/g00244/laws.heldWordS -/
noncomputable def laws_heldWordS_L0_0 (m : Nat) : Nat → T → T → T → (T → An) → (T → An) → An
  | 0, _, _, _, _, _ => .bad
  | n + 1, x0, x1, x2, k0, k1 =>
    cond (decide (x2.int < (x0.rows.length : Int)))
    (cond (decide ((0 : Int) ≤ x2.int ∧ x2.int < (x0.rows.length : Int)))
    (cond (((x0.rows.getD (Int.toNat x2.int) []).getD 0 dflt).int != x1.int)
    (k0 (T.i (-1)))
    (cond (decide ((0 : Int) ≤ x2.int ∧ x2.int < (x0.rows.length : Int)))
    (cond ((((x0.rows.getD (Int.toNat x2.int) []).drop 1).getD 0 dflt).int != (IntKind.i64.wrap (x1.int + 1)))
    (k0 (T.i (-1)))
    (cond (decide ((0 : Int) ≤ x2.int ∧ x2.int < (x0.rows.length : Int)))
    (cond ((((x0.rows.getD (Int.toNat x2.int) []).drop 2).getD 0 dflt).int != (IntKind.i64.wrap ((IntKind.i64.wrap (x1.int + 1)) + 1)))
    (k0 (T.i (-1)))
    (cond (decide ((0 : Int) ≤ x2.int ∧ x2.int < (x0.rows.length : Int)))
    (laws_heldOpS m (T.l (((x0.rows.getD (Int.toNat x2.int) []).drop 3).getD 0 dflt).rows) (T.i (IntKind.i64.wrap ((IntKind.i64.wrap ((IntKind.i64.wrap (x1.int + 1)) + 1)) + 1)))
    (fun y0 => cond (decide (y0.int < 0))
    (k0 (T.i (-1)))
    (cond (decide ((0 : Int) ≤ x2.int ∧ x2.int < (x0.rows.length : Int)))
    (cond (!((((x0.rows.getD (Int.toNat x2.int) []).drop 4).getD 0 dflt).bool == ((Int.tmod y0.int 3) == 0)))
    (k0 (T.i (-1)))
    (laws_heldWordS_L0_0 m n x0 (T.i (IntKind.i64.wrap (y0.int + 1))) (T.i (IntKind.i64.wrap (x2.int + 1))) k0 k1))
    (.bad))))
    (.bad)))
    (.bad)))
    (.bad)))
    (.bad))
    (k1 x1)
noncomputable def laws_heldWordS : Nat → T → T → (T → An) → An
  | 0, _, _, _ => .bad
  | m + 1, x0, x1, k0 =>
    laws_heldWordS_L0_0 m m (T.l x0.rows) x1 (T.i 0)
    (fun y1 => k0 y1)
    (fun y2 => k0 y2)
noncomputable def laws_heldWordS_f : Fs := ⟨17, [.one (.dz [.sc (.int .i64), .sc (.int .i64), .sc (.int .i64), .sl [.sc (.int .i64), .sc (.str), .sc (.str)], .sc (.bool)] []), .one (AI)], fun m vs k => ap 2 (laws_heldWordS m) vs (lm 1 fun z => k (fRet ⟨[.one (RI)], [[none], [none]], [none, none]⟩ z))⟩
noncomputable def laws_heldWordS_l : List Ls := [⟨[0, 1, 0, 1], ⟨[(0, .one (LD [.sc (.int .i64), .sc (.int .i64), .sc (.int .i64), .sl [.sc (.int .i64), .sc (.str), .sc (.str)], .sc (.bool)])), (1, .one (LI)), (5, .one (LI))], [([4000000], .gone)]⟩, fun m n vs k => ap 3 (laws_heldWordS_L0_0 m n) vs (lm 1 fun z => k .ret (fPack ⟨[(4, .one (LI))], []⟩ z)) (lm 1 fun z => k (.exit 0) (fPack ⟨[(1, .one (LI))], []⟩ z))⟩]
noncomputable def laws_heldWordS_t : List Fs := laws_heldWordS_f :: laws_heldCoord_t
theorem laws_heldWordS_g : FGood CX prims laws_heldWordS_t ∧ FEqn CX prims laws_heldWordS_f := fnG laws_heldCoord_g.1 laws_heldWordS_f Tryz.f17 ⟨17, 2, 60, 16⟩ laws_heldWordS_l (fun _ _ => rfl) (fun _ _ _ => by kernel_rfl) ⟨fun _ _ _ => rfl, trivial⟩ ⟨fun _ _ _ _ _ _ => by kernel_rfl, trivial⟩ (fun _ _ _ _ _ => by kernel_rfl)

/-! loop.example/g00244/laws.FnExactBegin -/
noncomputable def laws_FnExactBegin : Nat → T → T → T → T → T → T → T → (T → An) → An
  | 0, _, _, _, _, _, _, _, _ => .bad
  | m + 1, x0, x1, x2, x3, x4, x5, x6, k0 =>
    laws_szCoord m x0 x1 x2 (T.l x3.rows) (T.l x4.rows) x5 (T.i 1048576)
    (fun y0 => cond (decide (y0.int < 0))
    (k0 (T.b true))
    (laws_szOpS m (T.l x6.rows) y0
    (fun y1 => cond (decide (y1.int < 0))
    (k0 (T.b true))
    (laws_toCoord m x0 x1 x2 (T.l x3.rows) (T.l x4.rows) x5
    (fun y2 y3 y4 y5 y6 y7 => laws_toOpS m (T.l x6.rows)
    (fun y8 => spec_Begin m y2 y3 y4 (T.l y5.rows) (T.l y6.rows) y7 (T.l y8.rows)
    (fun y9 y10 y11 y12 y13 y14 y15 y16 => laws_toCoord m x0 x1 x2 (T.l x3.rows) (T.l x4.rows) x5
    (fun y17 y18 y19 y20 y21 y22 => laws_toOpS m (T.l x6.rows)
    (fun y23 => impl_Begin m y17 y18 y19 (T.l y20.rows) (T.l y21.rows) y22 (T.l y23.rows)
    (fun y24 y25 y26 y27 y28 y29 y30 y31 => jn (fun (j81 : An) =>
    laws_eqCoord m y24 y25 y26 (T.l y27.rows) (T.l y28.rows) y29 y9 y10 y11 (T.l y12.rows) (T.l y13.rows) y14
    (fun y32 => cond ((!y32.bool) == false)
    (laws_eqWordS m (T.l y30.rows) (T.l y15.rows)
    (fun y33 => cond ((!y33.bool) == false)
    (cond (y31.int != y16.int)
    (k0 (T.b false))
    (j81))
    (k0 (T.b false))))
    (k0 (T.b false))))
    (laws_toCoord m x0 x1 x2 (T.l x3.rows) (T.l x4.rows) x5
    (fun y35 y36 y37 y38 y39 y40 => laws_eqCoord m y17 y18 y19 (T.l y20.rows) (T.l y21.rows) y22 y35 y36 y37 (T.l y38.rows) (T.l y39.rows) y40
    (fun y41 => cond (!y41.bool)
    (k0 (T.b false))
    (laws_toOpS m (T.l x6.rows)
    (fun y42 => laws_eqOpS m (T.l y23.rows) (T.l y42.rows)
    (fun y43 => cond (!y43.bool)
    (k0 (T.b false))
    (laws_markCoord m y17 y18 y19 (T.l y20.rows) (T.l y21.rows) y22 (T.i 1)
    (fun y44 y45 y46 => laws_markOpS m (T.l y23.rows) y44
    (fun y47 y48 => jn (fun (j80 : An) =>
    cond ((decide (y47.int < 0)) == false)
    (laws_eqCoord m y24 y25 y26 (T.l y27.rows) (T.l y28.rows) y29 y9 y10 y11 (T.l y12.rows) (T.l y13.rows) y14
    (fun y49 => cond ((!y49.bool) == false)
    (laws_eqWordS m (T.l y30.rows) (T.l y15.rows)
    (fun y50 => cond ((!y50.bool) == false)
    (cond (y31.int != y16.int)
    (k0 (T.b false))
    (j80))
    (k0 (T.b false))))
    (k0 (T.b false))))
    (k0 (T.b false)))
    (laws_markCoord m y24 y25 y26 (T.l y27.rows) (T.l y28.rows) y29 (T.i 1)
    (fun y52 y53 y54 => laws_markWordS m (T.l y30.rows) y52
    (fun y55 y56 => laws_heldCoord m y24 y25 y26 (T.l y53.rows) (T.l y54.rows) y29 (T.i 1)
    (fun y57 => cond (decide (y57.int < 0))
    (k0 (T.b false))
    (laws_heldWordS m (T.l y56.rows) y57
    (fun y58 => cond (decide (y58.int < 0))
    (k0 (T.b false))
    (cond (y58.int != y55.int)
    (k0 (T.b false))
    (laws_toCoord m x0 x1 x2 (T.l x3.rows) (T.l x4.rows) x5
    (fun y59 y60 y61 y62 y63 y64 => laws_toOpS m (T.l x6.rows)
    (fun y65 => impl_Begin m y59 y60 y61 (T.l y62.rows) (T.l y63.rows) y64 (T.l y65.rows)
    (fun y66 y67 y68 y69 y70 y71 y72 y73 => jn (fun (j79 : An) =>
    laws_eqCoord m y66 y67 y68 (T.l y69.rows) (T.l y70.rows) y71 y9 y10 y11 (T.l y12.rows) (T.l y13.rows) y14
    (fun y74 => cond ((!y74.bool) == false)
    (laws_eqWordS m (T.l y72.rows) (T.l y15.rows)
    (fun y75 => cond ((!y75.bool) == false)
    (cond (y73.int != y16.int)
    (k0 (T.b false))
    (j79))
    (k0 (T.b false))))
    (k0 (T.b false))))
    (laws_heldCoord m y24 y25 y26 (T.l y53.rows) (T.l y54.rows) y29 (T.i 1)
    (fun y77 => cond (decide (y77.int < 0))
    (k0 (T.b false))
    (laws_heldWordS m (T.l y56.rows) y77
    (fun y78 => cond (decide (y78.int < 0))
    (k0 (T.b false))
    (cond (y78.int != y55.int)
    (k0 (T.b false))
    (k0 (T.b true)))))))))))))))))))))))))))))))))))))
noncomputable def laws_FnExactBegin_f : Fs := ⟨3, [.agg [AI, AI, AI, .fz [.sc (.int .i64), .sl [.sc (.int .i64), .sc (.str), .sc (.str)], .sc (.int .i64), .sl [.sc (.int .i64)]] [], .fz [.sc (.int .i64), .sc (.bool)] [], AI], .one (.fz [.sc (.int .i64), .sc (.str), .sc (.str)] [])], fun m vs k => ap 7 (laws_FnExactBegin m) vs (lm 1 fun z => k (fRet ⟨[.one (RB)], [[none, none, none, none, none, none], [none]], [none, none]⟩ z))⟩
noncomputable def laws_FnExactBegin_t : List Fs := laws_FnExactBegin_f :: laws_heldWordS_t
theorem laws_FnExactBegin_g : FGood CX prims laws_FnExactBegin_t ∧ FEqn CX prims laws_FnExactBegin_f := fnG laws_heldWordS_g.1 laws_FnExactBegin_f Tryz.f3 ⟨3, 2, 156, 16⟩ [] (fun _ _ => rfl) (fun _ _ _ => by kernel_rfl) trivial trivial (fun _ _ _ _ _ => by kernel_rfl)

end Go.Proofs.YtajahiglgcogeaaGreat

