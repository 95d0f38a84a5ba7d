/- A part of the proof: texts CP: see the last part's opening words. -/
import Derived.Test.YtajahiglgcogeaaH
set_option linter.unusedVariables false
set_option linter.unusedSimpArgs false
set_option linter.unnecessarySimpa false
namespace Go.Proofs.Ytajahiglgcogeaa
open Go Go.E Go.Proofs
def slices_Clone___impl_Op_impl_Op_ : Nat → T → (T → An) → An
  | 0, _, _ => .bad
  | m + 1, x0, k0 => cond (decide (x0.rows.length * 3 ≤ maxRow)) (k0 (T.l x0.rows)) .bad
noncomputable def slices_Clone___impl_Op_impl_Op__a : List Arg := [.one (.dz [.sc (.int .i64), .sc (.str), .sc (.str)] [])]
def slices_Clone___impl_Op_impl_Op__w (m : Nat) (vs : List T) (k : Ret → An) : An := slices_Clone___impl_Op_impl_Op_ m (vs.headD dflt) (fun z0 => k ⟨[.one (.own [7000000] [.sc (.int .i64), .sc (.str), .sc (.str)] [.F, .F, .F] z0.rows)], [[none]], []⟩)
theorem slices_Clone___impl_Op_impl_Op__eq (m : Nat) : ∀ vs k, callK CX prims m 38 (fArgs slices_Clone___impl_Op_impl_Op__a vs) k = slices_Clone___impl_Op_impl_Op__w m vs k := by
  intro vs k
  cases m with
  | zero => rfl
  | succ m =>
    refine Eq.trans (b := ((primClone [.sc (.int .i64), .sc (.str), .sc (.str)]) (fArgs slices_Clone___impl_Op_impl_Op__a vs)).bind k) (by kernel_rfl) ?_
    refine Eq.trans (b := (cond (decide ((vs.headD dflt).rows.length * 3 ≤ maxRow)) (R3.ok ⟨[.one (.own [7000000] [.sc (.int .i64), .sc (.str), .sc (.str)] [.F, .F, .F] (vs.headD dflt).rows)], [[none]], []⟩) .bad).bind k) (by kernel_rfl) ?_
    rw [cond_bind]; rfl

noncomputable def slices_Clone___impl_Op_impl_Op__f : Fs := ⟨38, slices_Clone___impl_Op_impl_Op__a, slices_Clone___impl_Op_impl_Op__w⟩
noncomputable def slices_Clone___impl_Op_impl_Op__t : List Fs := slices_Clone___impl_Op_impl_Op__f :: []
theorem slices_Clone___impl_Op_impl_Op__g : FGood CX prims slices_Clone___impl_Op_impl_Op__t ∧ FEqn CX prims slices_Clone___impl_Op_impl_Op__f := ⟨good_cons good_nil (x := slices_Clone___impl_Op_impl_Op__f) slices_Clone___impl_Op_impl_Op__eq, slices_Clone___impl_Op_impl_Op__eq⟩
def slices_Clone___int_int_ : Nat → T → (T → An) → An
  | 0, _, _ => .bad
  | m + 1, x0, k0 => cond (decide (x0.rows.length * 1 ≤ maxRow)) (k0 (T.l x0.rows)) .bad
noncomputable def slices_Clone___int_int__a : List Arg := [.one (.dz [.sc (.int .i64)] [])]
def slices_Clone___int_int__w (m : Nat) (vs : List T) (k : Ret → An) : An := slices_Clone___int_int_ m (vs.headD dflt) (fun z0 => k ⟨[.one (.own [7000000] [.sc (.int .i64)] [.F] z0.rows)], [[none]], []⟩)
theorem slices_Clone___int_int__eq (m : Nat) : ∀ vs k, callK CX prims m 39 (fArgs slices_Clone___int_int__a vs) k = slices_Clone___int_int__w m vs k := by
  intro vs k
  cases m with
  | zero => rfl
  | succ m =>
    refine Eq.trans (b := ((primClone [.sc (.int .i64)]) (fArgs slices_Clone___int_int__a vs)).bind k) (by kernel_rfl) ?_
    refine Eq.trans (b := (cond (decide ((vs.headD dflt).rows.length * 1 ≤ maxRow)) (R3.ok ⟨[.one (.own [7000000] [.sc (.int .i64)] [.F] (vs.headD dflt).rows)], [[none]], []⟩) .bad).bind k) (by kernel_rfl) ?_
    rw [cond_bind]; rfl

noncomputable def slices_Clone___int_int__f : Fs := ⟨39, slices_Clone___int_int__a, slices_Clone___int_int__w⟩
noncomputable def slices_Clone___int_int__t : List Fs := slices_Clone___int_int__f :: slices_Clone___impl_Op_impl_Op__t
theorem slices_Clone___int_int__g : FGood CX prims slices_Clone___int_int__t ∧ FEqn CX prims slices_Clone___int_int__f := ⟨good_cons slices_Clone___impl_Op_impl_Op__g.1 (x := slices_Clone___int_int__f) slices_Clone___int_int__eq, slices_Clone___int_int__eq⟩
def slices_Clone___impl_Choice_impl_Choice_ : Nat → T → (T → An) → An
  | 0, _, _ => .bad
  | m + 1, x0, k0 => cond (decide (x0.rows.length * 2 ≤ maxRow)) (k0 (T.l x0.rows)) .bad
noncomputable def slices_Clone___impl_Choice_impl_Choice__a : List Arg := [.one (.dz [.sc (.int .i64), .sc (.bool)] [])]
def slices_Clone___impl_Choice_impl_Choice__w (m : Nat) (vs : List T) (k : Ret → An) : An := slices_Clone___impl_Choice_impl_Choice_ m (vs.headD dflt) (fun z0 => k ⟨[.one (.own [7000000] [.sc (.int .i64), .sc (.bool)] [.F, .F] z0.rows)], [[none]], []⟩)
theorem slices_Clone___impl_Choice_impl_Choice__eq (m : Nat) : ∀ vs k, callK CX prims m 40 (fArgs slices_Clone___impl_Choice_impl_Choice__a vs) k = slices_Clone___impl_Choice_impl_Choice__w m vs k := by
  intro vs k
  cases m with
  | zero => rfl
  | succ m =>
    refine Eq.trans (b := ((primClone [.sc (.int .i64), .sc (.bool)]) (fArgs slices_Clone___impl_Choice_impl_Choice__a vs)).bind k) (by kernel_rfl) ?_
    refine Eq.trans (b := (cond (decide ((vs.headD dflt).rows.length * 2 ≤ maxRow)) (R3.ok ⟨[.one (.own [7000000] [.sc (.int .i64), .sc (.bool)] [.F, .F] (vs.headD dflt).rows)], [[none]], []⟩) .bad).bind k) (by kernel_rfl) ?_
    rw [cond_bind]; rfl

noncomputable def slices_Clone___impl_Choice_impl_Choice__f : Fs := ⟨40, slices_Clone___impl_Choice_impl_Choice__a, slices_Clone___impl_Choice_impl_Choice__w⟩
noncomputable def slices_Clone___impl_Choice_impl_Choice__t : List Fs := slices_Clone___impl_Choice_impl_Choice__f :: slices_Clone___int_int__t
theorem slices_Clone___impl_Choice_impl_Choice__g : FGood CX prims slices_Clone___impl_Choice_impl_Choice__t ∧ FEqn CX prims slices_Clone___impl_Choice_impl_Choice__f := ⟨good_cons slices_Clone___int_int__g.1 (x := slices_Clone___impl_Choice_impl_Choice__f) slices_Clone___impl_Choice_impl_Choice__eq, slices_Clone___impl_Choice_impl_Choice__eq⟩
def slices_Sort : Nat → T → (T → An) → An
  | 0, _, _ => .bad
  | m + 1, x0, k0 => k0 (T.l (sortRows x0.rows))
noncomputable def slices_Sort_a : List Arg := [.one (.own [.sc (.int .i64)] [.F] [])]
def slices_Sort_w (m : Nat) (vs : List T) (k : Ret → An) : An := slices_Sort m (vs.headD dflt) (fun z0 => k ⟨[], [[some ([.sc (.int .i64)], [.F], z0.rows)]], []⟩)
theorem slices_Sort_eq (m : Nat) : ∀ vs k, callK CX prims m 23 (fArgs slices_Sort_a vs) k = slices_Sort_w m vs k := by
  intro vs k
  cases m with
  | zero => rfl
  | succ m =>
    refine Eq.trans (b := (primSort (fArgs slices_Sort_a vs)).bind k) (by kernel_rfl) ?_
    rfl

noncomputable def slices_Sort_f : Fs := ⟨23, slices_Sort_a, slices_Sort_w⟩
noncomputable def slices_Sort_t : List Fs := slices_Sort_f :: slices_Clone___impl_Choice_impl_Choice__t
theorem slices_Sort_g : FGood CX prims slices_Sort_t ∧ FEqn CX prims slices_Sort_f := ⟨good_cons slices_Clone___impl_Choice_impl_Choice__g.1 (x := slices_Sort_f) slices_Sort_eq, slices_Sort_eq⟩
def slices_Compact : Nat → T → (T → An) → An
  | 0, _, _ => .bad
  | m + 1, x0, k0 => k0 (T.l (compactRows x0.rows))
noncomputable def slices_Compact_a : List Arg := [.one (.own [.sc (.int .i64)] [.F] [])]
def slices_Compact_w (m : Nat) (vs : List T) (k : Ret → An) : An := slices_Compact m (vs.headD dflt) (fun z0 => k ⟨[.one (.own [7000000] [.sc (.int .i64)] [.F] z0.rows)], [[none]], []⟩)
theorem slices_Compact_eq (m : Nat) : ∀ vs k, callK CX prims m 25 (fArgs slices_Compact_a vs) k = slices_Compact_w m vs k := by
  intro vs k
  cases m with
  | zero => rfl
  | succ m =>
    refine Eq.trans (b := (primCompact (fArgs slices_Compact_a vs)).bind k) (by kernel_rfl) ?_
    rfl

noncomputable def slices_Compact_f : Fs := ⟨25, slices_Compact_a, slices_Compact_w⟩
noncomputable def slices_Compact_t : List Fs := slices_Compact_f :: slices_Sort_t
theorem slices_Compact_g : FGood CX prims slices_Compact_t ∧ FEqn CX prims slices_Compact_f := ⟨good_cons slices_Sort_g.1 (x := slices_Compact_f) slices_Compact_eq, slices_Compact_eq⟩
/-! loop.example/g00244/laws.big -/
noncomputable def laws_big : Nat → T → (T → An) → An
  | 0, _, _ => .bad
  | m + 1, x0, k0 =>
    k0 (T.b (decide ((x0.rows.length : Int) > 1048576)))
noncomputable def laws_big_f : Fs := ⟨4, [.one (.dz [.sc (.int .u8)] [])], fun m vs k => ap 1 (laws_big m) vs (lm 1 fun z => k (fRet ⟨[.one (RB)], [[none]], [none]⟩ z))⟩
noncomputable def laws_big_t : List Fs := laws_big_f :: slices_Compact_t
theorem laws_big_g : FGood CX prims laws_big_t ∧ FEqn CX prims laws_big_f := fnG slices_Compact_g.1 laws_big_f Try.f4 ⟨4, 1, 6, 4⟩ [] (fun _ _ => rfl) (fun _ _ _ => by kernel_rfl) trivial trivial (fun _ _ _ _ _ => by kernel_rfl)

/-! loop.example/g00244/spec.l1New -/
noncomputable def spec_l1New_L0_0 (m : Nat) : Nat → T → T → T → (T → T → An) → An
  | 0, _, _, _, _ => .bad
  | n + 1, x0, x1, x2, k0 =>
    jn (fun (j1 : An) =>
    cond ((decide (x2.int < (x0.rows.length : Int))) == true)
    (cond (decide (x2.int < 4000))
    (j1)
    (k0 x0 x1))
    (k0 x0 x1))
    (cond (decide ((0 : Int) ≤ x2.int ∧ x2.int < (x0.rows.length : Int)))
    (spec_l1New_L0_0 m n x0 (bvBack .i64 (BitVec.ofInt IntKind.i64.bits (IntKind.i64.wrap ((IntKind.i64.wrap ((IntKind.i64.wrap (x1.int * 137)) + (IntKind.i64.wrap ((x0.rows.getD (Int.toNat x2.int) []).getD 0 dflt).int))) + 11)) &&& BitVec.ofInt IntKind.i64.bits 1073741823)) (T.i (IntKind.i64.wrap (x2.int + 1))) k0)
    (.bad))
noncomputable def spec_l1New : Nat → T → (T → T → T → An) → An
  | 0, _, _ => .bad
  | m + 1, x0, k0 =>
    spec_l1New_L0_0 m m (T.l x0.rows) (T.i (IntKind.i64.wrap (381381 + (x0.rows.length : Int)))) (T.i 0)
    (fun y2 y3 => k0 (T.l y2.rows) (T.i 0) y3)
noncomputable def spec_l1New_f : Fs := ⟨13, [.one (.fz [.sc (.int .u8)] [])], fun m vs k => ap 1 (spec_l1New m) vs (lm 3 fun z => k (fRet ⟨[.bx [2000031] [.fz [.sc (.int .u8)] [], RI, RI]], [[none]], [none]⟩ z))⟩
noncomputable def spec_l1New_l : List Ls := [⟨[0, 1, 0, 1, 1], ⟨[(0, .one (LZ [.sc (.int .u8)])), (3, .one (LI)), (4, .one (LI))], []⟩, fun m n vs k => ap 3 (spec_l1New_L0_0 m n) vs (lm 2 fun z => k (.exit 0) (fPack ⟨[(0, .one (LZ [.sc (.int .u8)])), (3, .one (LI))], []⟩ z))⟩]
noncomputable def spec_l1New_t : List Fs := spec_l1New_f :: laws_big_t
theorem spec_l1New_g : FGood CX prims spec_l1New_t ∧ FEqn CX prims spec_l1New_f := fnG laws_big_g.1 spec_l1New_f Try.f13 ⟨13, 1, 32, 4⟩ spec_l1New_l (fun _ _ => rfl) (fun _ _ _ => by kernel_rfl) ⟨fun _ _ _ => rfl, trivial⟩ ⟨fun _ _ _ _ _ _ => by kernel_rfl, trivial⟩ (fun _ _ _ _ _ => by kernel_rfl)

/-! loop.example/g00244/spec.l1Size -/
noncomputable def spec_l1Size : Nat → T → T → (T → An) → An
  | 0, _, _, _ => .bad
  | m + 1, x0, x1, k0 =>
    cond (decide ((IntKind.i64.wrap (3 + (IntKind.i64.wrap (Int.tdiv (x0.rows.length : Int) 12)))) > x1.int))
    (k0 x1)
    (k0 (T.i (IntKind.i64.wrap (3 + (IntKind.i64.wrap (Int.tdiv (x0.rows.length : Int) 12))))))
noncomputable def spec_l1Size_f : Fs := ⟨15, [.one (.fz [.sc (.int .u8)] []), .one (AI)], fun m vs k => ap 2 (spec_l1Size m) vs (lm 1 fun z => k (fRet ⟨[.one (RI)], [[none], [none]], [none, none]⟩ z))⟩
noncomputable def spec_l1Size_t : List Fs := spec_l1Size_f :: spec_l1New_t
theorem spec_l1Size_g : FGood CX prims spec_l1Size_t ∧ FEqn CX prims spec_l1Size_f := fnG spec_l1New_g.1 spec_l1Size_f Try.f15 ⟨15, 2, 15, 16⟩ [] (fun _ _ => rfl) (fun _ _ _ => by kernel_rfl) trivial trivial (fun _ _ _ _ _ => by kernel_rfl)

/-! loop.example/g00244/spec.l1Byte -/
noncomputable def spec_l1Byte : Nat → T → T → T → (T → T → T → T → An) → An
  | 0, _, _, _, _ => .bad
  | m + 1, x0, x1, x2, k0 =>
    cond (decide (x1.int < (x0.rows.length : Int)))
    (cond (decide ((0 : Int) ≤ x1.int ∧ x1.int < (x0.rows.length : Int)))
    (k0 (bvBack .i64 (BitVec.ofInt IntKind.i64.bits (IntKind.i64.wrap ((bvBack .i64 (BitVec.ofInt IntKind.i64.bits (bvBack .i64 (BitVec.ofInt IntKind.i64.bits (Int.fdiv (IntKind.i64.wrap ((IntKind.i64.wrap (x2.int * 6364136223846793005)) + 1442695040888963407)) (2 ^ (min (Int.toNat 33) IntKind.i64.bits))) ^^^ BitVec.ofInt IntKind.i64.bits (Int.fdiv (IntKind.i64.wrap ((IntKind.i64.wrap (x2.int * 6364136223846793005)) + 1442695040888963407)) (2 ^ (min (Int.toNat 47) IntKind.i64.bits))))).int &&& BitVec.ofInt IntKind.i64.bits 255)).int + (IntKind.i64.wrap ((x0.rows.getD (Int.toNat x1.int) []).getD 0 dflt).int))) &&& BitVec.ofInt IntKind.i64.bits 255)) (T.l x0.rows) (T.i (IntKind.i64.wrap (x1.int + 1))) (T.i (IntKind.i64.wrap ((IntKind.i64.wrap (x2.int * 6364136223846793005)) + 1442695040888963407))))
    (.bad))
    (k0 (bvBack .i64 (BitVec.ofInt IntKind.i64.bits (bvBack .i64 (BitVec.ofInt IntKind.i64.bits (Int.fdiv (IntKind.i64.wrap ((IntKind.i64.wrap (x2.int * 6364136223846793005)) + 1442695040888963407)) (2 ^ (min (Int.toNat 33) IntKind.i64.bits))) ^^^ BitVec.ofInt IntKind.i64.bits (Int.fdiv (IntKind.i64.wrap ((IntKind.i64.wrap (x2.int * 6364136223846793005)) + 1442695040888963407)) (2 ^ (min (Int.toNat 47) IntKind.i64.bits))))).int &&& BitVec.ofInt IntKind.i64.bits 255)) (T.l x0.rows) x1 (T.i (IntKind.i64.wrap ((IntKind.i64.wrap (x2.int * 6364136223846793005)) + 1442695040888963407))))
noncomputable def spec_l1Byte_f : Fs := ⟨60, [.bx [.fz [.sc (.int .u8)] [], AI, AI]], fun m vs k => ap 3 (spec_l1Byte m) vs (lm 4 fun z => k (fRet ⟨[.one (RI)], [[none, none, none]], [some [.fz [.sc (.int .u8)] [], RI, RI]]⟩ z))⟩
noncomputable def spec_l1Byte_t : List Fs := spec_l1Byte_f :: spec_l1Size_t
theorem spec_l1Byte_g : FGood CX prims spec_l1Byte_t ∧ FEqn CX prims spec_l1Byte_f := fnG spec_l1Size_g.1 spec_l1Byte_f Try.f60 ⟨60, 1, 58, 5⟩ [] (fun _ _ => rfl) (fun _ _ _ => by kernel_rfl) trivial trivial (fun _ _ _ _ _ => by kernel_rfl)

/-! loop.example/g00244/spec.l1Below -/
noncomputable def spec_l1Below : Nat → T → T → T → T → (T → T → T → T → An) → An
  | 0, _, _, _, _, _ => .bad
  | m + 1, x0, x1, x2, x3, k0 =>
    cond (decide (x3.int ≤ 0))
    (k0 (T.i 0) (T.l x0.rows) x1 x2)
    (cond (decide (x3.int ≤ 256))
    (spec_l1Byte m (T.l x0.rows) x1 x2
    (fun y0 y1 y2 y3 => cond (!decide (x3.int = 0))
    (k0 (T.i (Int.tmod y0.int x3.int)) (T.l y1.rows) y2 y3)
    (.bad)))
    (spec_l1Byte m (T.l x0.rows) x1 x2
    (fun y4 y5 y6 y7 => spec_l1Byte m (T.l y5.rows) y6 y7
    (fun y8 y9 y10 y11 => spec_l1Byte m (T.l y9.rows) y10 y11
    (fun y12 y13 y14 y15 => cond (!decide (x3.int = 0))
    (k0 (T.i (Int.tmod (IntKind.i64.wrap ((IntKind.i64.wrap ((IntKind.i64.wrap (y4.int * 65536)) + (IntKind.i64.wrap (y8.int * 256)))) + y12.int)) x3.int)) (T.l y13.rows) y14 y15)
    (.bad))))))
noncomputable def spec_l1Below_f : Fs := ⟨33, [.bx [.fz [.sc (.int .u8)] [], AI, AI], .one (AI)], fun m vs k => ap 4 (spec_l1Below m) vs (lm 4 fun z => k (fRet ⟨[.one (RI)], [[none, none, none], [none]], [some [.fz [.sc (.int .u8)] [], RI, RI], none]⟩ z))⟩
noncomputable def spec_l1Below_t : List Fs := spec_l1Below_f :: spec_l1Byte_t
theorem spec_l1Below_g : FGood CX prims spec_l1Below_t ∧ FEqn CX prims spec_l1Below_f := fnG spec_l1Byte_g.1 spec_l1Below_f Try.f33 ⟨33, 2, 31, 17⟩ [] (fun _ _ => rfl) (fun _ _ _ => by kernel_rfl) trivial trivial (fun _ _ _ _ _ => by kernel_rfl)

/-! loop.example/g00244/spec.l1Int -/
noncomputable def spec_l1Int : Nat → T → T → T → T → (T → T → T → T → An) → An
  | 0, _, _, _, _, _ => .bad
  | m + 1, x0, x1, x2, x3, k0 =>
    spec_l1Below m (T.l x0.rows) x1 x2 (T.i (x3.rows.length : Int))
    (fun y0 y1 y2 y3 => cond (decide ((0 : Int) ≤ y0.int ∧ y0.int < (x3.rows.length : Int)))
    (k0 ((x3.rows.getD (Int.toNat y0.int) []).getD 0 dflt) (T.l y1.rows) y2 y3)
    (.bad))
noncomputable def spec_l1Int_f : Fs := ⟨34, [.bx [.fz [.sc (.int .u8)] [], AI, AI], .one (.dz [.sc (.int .i64)] [])], fun m vs k => ap 4 (spec_l1Int m) vs (lm 4 fun z => k (fRet ⟨[.one (RI)], [[none, none, none], [none]], [some [.fz [.sc (.int .u8)] [], RI, RI], none]⟩ z))⟩
noncomputable def spec_l1Int_t : List Fs := spec_l1Int_f :: spec_l1Below_t
theorem spec_l1Int_g : FGood CX prims spec_l1Int_t ∧ FEqn CX prims spec_l1Int_f := fnG spec_l1Below_g.1 spec_l1Int_f Try.f34 ⟨34, 2, 12, 17⟩ [] (fun _ _ => rfl) (fun _ _ _ => by kernel_rfl) trivial trivial (fun _ _ _ _ _ => by kernel_rfl)

/-! loop.example/g00244/spec.l1In -/
noncomputable def spec_l1In : Nat → T → T → T → (T → An) → An
  | 0, _, _, _, _ => .bad
  | m + 1, x0, x1, x2, k0 =>
    cond ((decide (x0.int ≥ x1.int)) == true)
    (k0 (T.b (decide (x0.int ≤ x2.int))))
    (k0 (T.b false))
noncomputable def spec_l1In_f : Fs := ⟨44, [.one (AI), .one (AI), .one (AI)], fun m vs k => ap 3 (spec_l1In m) vs (lm 1 fun z => k (fRet ⟨[.one (RB)], [[none], [none], [none]], [none, none, none]⟩ z))⟩
noncomputable def spec_l1In_t : List Fs := spec_l1In_f :: spec_l1Int_t
theorem spec_l1In_g : FGood CX prims spec_l1In_t ∧ FEqn CX prims spec_l1In_f := fnG spec_l1Int_g.1 spec_l1In_f Try.f44 ⟨44, 3, 15, 64⟩ [] (fun _ _ => rfl) (fun _ _ _ => by kernel_rfl) trivial trivial (fun _ _ _ _ _ => by kernel_rfl)

/-! loop.example/g00244/spec.CoordNew -/
noncomputable def spec_CoordNew : Nat → T → (T → T → T → T → T → T → An) → An
  | 0, _, _ => .bad
  | m + 1, x0, k0 =>
    spec_l1In m x0 (T.i 1) (T.i 8)
    (fun y0 => cond (!y0.bool)
    (k0 (T.i 0) (T.i 0) (T.i 0) (T.l []) (T.l []) (T.i 0))
    (k0 x0 (T.i 1) (T.i 0) (T.l []) (T.l []) (T.i 0)))
noncomputable def spec_CoordNew_f : Fs := ⟨55, [.one (AI)], fun m vs k => ap 1 (spec_CoordNew m) vs (lm 6 fun z => k (fRet ⟨[.agg [RI, RI, RI, .own (KR 0 3) [.sc (.int .i64), .sl [.sc (.int .i64), .sc (.str), .sc (.str)], .sc (.int .i64), .sl [.sc (.int .i64)]] [.F, .F, .F, .F] [], .own (KR 0 4) [.sc (.int .i64), .sc (.bool)] [.F, .F] [], RI]], [[none]], [none]⟩ z))⟩
noncomputable def spec_CoordNew_t : List Fs := spec_CoordNew_f :: spec_l1In_t
theorem spec_CoordNew_g : FGood CX prims spec_CoordNew_t ∧ FEqn CX prims spec_CoordNew_f := fnG spec_l1In_g.1 spec_CoordNew_f Try.f55 ⟨55, 1, 9, 4⟩ [] (fun _ _ => rfl) (fun _ _ _ => by kernel_rfl) trivial trivial (fun _ _ _ _ _ => by kernel_rfl)

/-! loop.example/g00244/spec.l1Str -/
noncomputable def spec_l1Str : Nat → T → T → T → T → (T → T → T → T → An) → An
  | 0, _, _, _, _, _ => .bad
  | m + 1, x0, x1, x2, x3, k0 =>
    spec_l1Below m (T.l x0.rows) x1 x2 (T.i (x3.rows.length : Int))
    (fun y0 y1 y2 y3 => cond (decide ((0 : Int) ≤ y0.int ∧ y0.int < (x3.rows.length : Int)))
    (k0 ((x3.rows.getD (Int.toNat y0.int) []).getD 0 dflt) (T.l y1.rows) y2 y3)
    (.bad))
noncomputable def spec_l1Str_f : Fs := ⟨63, [.bx [.fz [.sc (.int .u8)] [], AI, AI], .one (.dz [.sc (.str)] [])], fun m vs k => ap 4 (spec_l1Str m) vs (lm 4 fun z => k (fRet ⟨[.one (RS)], [[none, none, none], [none]], [some [.fz [.sc (.int .u8)] [], RI, RI], none]⟩ z))⟩
noncomputable def spec_l1Str_t : List Fs := spec_l1Str_f :: spec_CoordNew_t
theorem spec_l1Str_g : FGood CX prims spec_l1Str_t ∧ FEqn CX prims spec_l1Str_f := fnG spec_CoordNew_g.1 spec_l1Str_f Try.f63 ⟨63, 2, 12, 17⟩ [] (fun _ _ => rfl) (fun _ _ _ => by kernel_rfl) trivial trivial (fun _ _ _ _ _ => by kernel_rfl)

/-! loop.example/g00244/spec.l3Key -/
noncomputable def spec_l3Key : Nat → T → T → T → (T → T → T → T → An) → An
  | 0, _, _, _, _ => .bad
  | m + 1, x0, x1, x2, k0 =>
    spec_l1Str m (T.l x0.rows) x1 x2 (T.l [[(T.s (⟨#[97]⟩ : ByteArray))], [(T.s (⟨#[98]⟩ : ByteArray))], [(T.s (⟨#[99]⟩ : ByteArray))], [(T.s (⟨#[107, 49]⟩ : ByteArray))], [(T.s (⟨#[107, 50]⟩ : ByteArray))], [(T.s (⟨#[109]⟩ : ByteArray))], [(T.s (⟨#[122]⟩ : ByteArray))]])
    (fun y0 y1 y2 y3 => k0 y0 (T.l y1.rows) y2 y3)
noncomputable def spec_l3Key_f : Fs := ⟨62, [.bx [.fz [.sc (.int .u8)] [], AI, AI]], fun m vs k => ap 3 (spec_l3Key m) vs (lm 4 fun z => k (fRet ⟨[.one (RS)], [[none, none, none]], [some [.fz [.sc (.int .u8)] [], RI, RI]]⟩ z))⟩
noncomputable def spec_l3Key_t : List Fs := spec_l3Key_f :: spec_l1Str_t
theorem spec_l3Key_g : FGood CX prims spec_l3Key_t ∧ FEqn CX prims spec_l3Key_f := fnG spec_l1Str_g.1 spec_l3Key_f Try.f62 ⟨62, 1, 6, 5⟩ [] (fun _ _ => rfl) (fun _ _ _ => by kernel_rfl) trivial trivial (fun _ _ _ _ _ => by kernel_rfl)

/-! loop.example/g00244/spec.l7Op1 -/
noncomputable def spec_l7Op1 : Nat → T → T → T → (T → T → T → T → T → T → An) → An
  | 0, _, _, _, _ => .bad
  | m + 1, x0, x1, x2, k0 =>
    spec_l1Int m (T.l x0.rows) x1 x2 (T.l [[(T.i 1)], [(T.i 1)], [(T.i 1)], [(T.i 2)], [(T.i 3)]])
    (fun y0 y1 y2 y3 => spec_l3Key m (T.l y1.rows) y2 y3
    (fun y4 y5 y6 y7 => cond (y0.int != 2)
    (spec_l1Str m (T.l y5.rows) y6 y7 (T.l [[(T.s (⟨#[49]⟩ : ByteArray))], [(T.s (⟨#[50]⟩ : ByteArray))], [(T.s (⟨#[120]⟩ : ByteArray))], [(T.s (⟨#[]⟩ : ByteArray))], [(T.s (⟨#[49]⟩ : ByteArray))]])
    (fun y8 y9 y10 y11 => k0 y0 y4 y8 (T.l y9.rows) y10 y11))
    (k0 y0 y4 (T.s (⟨#[]⟩ : ByteArray)) (T.l y5.rows) y6 y7)))
noncomputable def spec_l7Op1_f : Fs := ⟨36, [.bx [.fz [.sc (.int .u8)] [], AI, AI]], fun m vs k => ap 3 (spec_l7Op1 m) vs (lm 6 fun z => k (fRet ⟨[.agg [RI, RS, RS]], [[none, none, none]], [some [.fz [.sc (.int .u8)] [], RI, RI]]⟩ z))⟩
noncomputable def spec_l7Op1_t : List Fs := spec_l7Op1_f :: spec_l3Key_t
theorem spec_l7Op1_g : FGood CX prims spec_l7Op1_t ∧ FEqn CX prims spec_l7Op1_f := fnG spec_l3Key_g.1 spec_l7Op1_f Try.f36 ⟨36, 1, 18, 5⟩ [] (fun _ _ => rfl) (fun _ _ _ => by kernel_rfl) trivial trivial (fun _ _ _ _ _ => by kernel_rfl)

/-! loop.example/g00244/spec.l7One -/
noncomputable def spec_l7One_L0_0 (m : Nat) : Nat → T → T → T → T → T → T → T → T → (T → T → T → T → T → T → An) → An
  | 0, _, _, _, _, _, _, _, _, _ => .bad
  | n + 1, x0, x1, x2, x3, x4, x5, x6, x7, k0 =>
    cond (decide (x3.int < (x0.rows.length : Int)))
    (jn (fun (j3 : T → T → An) =>
    cond ((!x2.bool) == true)
    (cond (decide ((0 : Int) ≤ x3.int ∧ x3.int < (x0.rows.length : Int)))
    (cond (!(Op.bytesLess (((x0.rows.getD (Int.toNat x3.int) []).drop 1).getD 0 dflt).str.toList x5.str.toList))
    (cond (decide ((x7.rows.length + 1) * 3 ≤ maxRow))
    (j3 (T.b true) (T.l (x7.rows ++ [[x4, x5, x6]])))
    (.bad))
    (j3 x2 (T.l x7.rows)))
    (.bad))
    (j3 x2 (T.l x7.rows)))
    (fun y1 y2 => cond (decide ((0 : Int) ≤ x3.int ∧ x3.int < (x0.rows.length : Int)))
    (cond (!((((x0.rows.getD (Int.toNat x3.int) []).drop 1).getD 0 dflt).str.toList == x5.str.toList))
    (cond (decide ((0 : Int) ≤ x3.int ∧ x3.int < (x0.rows.length : Int)))
    (cond (decide ((y2.rows.length + 1) * 3 ≤ maxRow))
    (spec_l7One_L0_0 m n x0 (T.i (x1.int.toNat : Int)) y1 (T.i (IntKind.i64.wrap (x3.int + 1))) x4 x5 x6 (T.l (y2.rows ++ [[((x0.rows.getD (Int.toNat x3.int) []).getD 0 dflt), ((x0.rows.getD (Int.toNat x3.int) []).getD 1 dflt), ((x0.rows.getD (Int.toNat x3.int) []).getD 2 dflt)]])) k0)
    (.bad))
    (.bad))
    (spec_l7One_L0_0 m n x0 (T.i (x1.int.toNat : Int)) y1 (T.i (IntKind.i64.wrap (x3.int + 1))) x4 x5 x6 (T.l y2.rows) k0))
    (.bad)))
    (k0 (T.i (x1.int.toNat : Int)) x2 x4 x5 x6 (T.l x7.rows))
noncomputable def spec_l7One : Nat → T → T → T → T → (T → An) → An
  | 0, _, _, _, _, _ => .bad
  | m + 1, x0, x1, x2, x3, k0 =>
    spec_l7One_L0_0 m m (T.l x0.rows) (T.i 0) (T.b false) (T.i 0) x1 x2 x3 (T.l [])
    (fun y6 y7 y8 y9 y10 y11 => cond (!y7.bool)
    (cond (decide ((y11.rows.length + 1) * 3 ≤ maxRow))
    (k0 (T.l (y11.rows ++ [[y8, y9, y10]])))
    (.bad))
    (k0 (T.l y11.rows)))
noncomputable def spec_l7One_f : Fs := ⟨61, [.one (.dz [.sc (.int .i64), .sc (.str), .sc (.str)] []), .agg [AI, AS, AS]], fun m vs k => ap 4 (spec_l7One m) vs (lm 1 fun z => k (fRet ⟨[.one (.own (KR 0 0) [.sc (.int .i64), .sc (.str), .sc (.str)] [.F, .F, .F] [])], [[none], [none, none, none]], [none, none]⟩ z))⟩
noncomputable def spec_l7One_l : List Ls := [⟨[0, 1, 0, 1, 1, 1], ⟨[(0, .one (LD [.sc (.int .i64), .sc (.str), .sc (.str)])), (3, EP 1), (5, .one (LA (KI 2) [.sc (.int .i64), .sc (.str), .sc (.str)])), (6, .one (LB)), (7, .one (LI))], [([4000000], .gone), ((KI 1), .box [LI, LS, LS]), ((KI 2), .row [.sc (.int .i64), .sc (.str), .sc (.str)] [.F, .F, .F] [])]⟩, fun m n vs k => ap 8 (spec_l7One_L0_0 m n) vs (lm 6 fun z => k (.exit 0) (fPack ⟨[(3, EP 0), (5, .one (LA (KI 1) [.sc (.int .i64), .sc (.str), .sc (.str)])), (6, .one (LB))], [((KI 0), .box [LI, LS, LS]), ((KI 1), .row [.sc (.int .i64), .sc (.str), .sc (.str)] [.F, .F, .F] [])]⟩ z))⟩]
noncomputable def spec_l7One_t : List Fs := spec_l7One_f :: spec_l7Op1_t
theorem spec_l7One_g : FGood CX prims spec_l7One_t ∧ FEqn CX prims spec_l7One_f := fnG spec_l7Op1_g.1 spec_l7One_f Try.f61 ⟨61, 2, 53, 16⟩ spec_l7One_l (fun _ _ => rfl) (fun _ _ _ => by kernel_rfl) ⟨fun _ _ _ => rfl, trivial⟩ ⟨fun _ _ _ _ _ _ => by kernel_rfl, trivial⟩ (fun _ _ _ _ _ => by kernel_rfl)

/-! loop.example/g00244/spec.l7Draw -/
noncomputable def spec_l7Draw_L0_0 (m : Nat) : Nat → T → T → T → T → T → T → (T → T → T → T → T → An) → An
  | 0, _, _, _, _, _, _, _ => .bad
  | n + 1, x0, x1, x2, x3, x4, x5, k0 =>
    cond (decide (x1.int > 0))
    (spec_l7Op1 m (T.l x2.rows) x3 x4
    (fun y4 y5 y6 y7 y8 y9 => spec_l7One m (T.l x5.rows) y4 y5 y6
    (fun y10 => spec_l7Draw_L0_0 m n (T.i (x0.int.toNat : Int)) (T.i (IntKind.i64.wrap (x1.int - 1))) (T.l y7.rows) y8 y9 (T.l y10.rows) k0)))
    (k0 (T.i (x0.int.toNat : Int)) x2 x3 x4 (T.l x5.rows))
noncomputable def spec_l7Draw : Nat → T → T → T → (T → T → T → T → An) → An
  | 0, _, _, _, _ => .bad
  | m + 1, x0, x1, x2, k0 =>
    spec_l1Below m (T.l x0.rows) x1 x2 (T.i 4)
    (fun y0 y1 y2 y3 => spec_l7Draw_L0_0 m m (T.i 0) (T.i (IntKind.i64.wrap (1 + y0.int))) (T.l y1.rows) y2 y3 (T.l [])
    (fun y11 y12 y13 y14 y15 => k0 (T.l y15.rows) (T.l y12.rows) y13 y14))
noncomputable def spec_l7Draw_f : Fs := ⟨35, [.bx [.fz [.sc (.int .u8)] [], AI, AI]], fun m vs k => ap 3 (spec_l7Draw m) vs (lm 4 fun z => k (fRet ⟨[.one (.own (KR 0 0) [.sc (.int .i64), .sc (.str), .sc (.str)] [.F, .F, .F] [])], [[none, none, none]], [some [.fz [.sc (.int .u8)] [], RI, RI]]⟩ z))⟩
noncomputable def spec_l7Draw_l : List Ls := [⟨[0, 1, 0, 1, 1], ⟨[(0, .ptr [0, 999999] 0 0 0), (3, .one (LA (KI 1) [.sc (.int .i64), .sc (.str), .sc (.str)])), (4, .one (LI))], [([0, 999999], .box [LZ [.sc (.int .u8)], LI, LI]), ((KI 1), .row [.sc (.int .i64), .sc (.str), .sc (.str)] [.F, .F, .F] [])]⟩, fun m n vs k => ap 6 (spec_l7Draw_L0_0 m n) vs (lm 5 fun z => k (.exit 0) (fPack ⟨[(0, .ptr [0, 999999] 0 0 0), (3, .one (LA (KI 1) [.sc (.int .i64), .sc (.str), .sc (.str)]))], [([0, 999999], .box [LZ [.sc (.int .u8)], LI, LI]), ((KI 1), .row [.sc (.int .i64), .sc (.str), .sc (.str)] [.F, .F, .F] [])]⟩ z))⟩]
noncomputable def spec_l7Draw_t : List Fs := spec_l7Draw_f :: spec_l7One_t
theorem spec_l7Draw_g : FGood CX prims spec_l7Draw_t ∧ FEqn CX prims spec_l7Draw_f := fnG spec_l7One_g.1 spec_l7Draw_f Try.f35 ⟨35, 1, 18, 5⟩ spec_l7Draw_l (fun _ _ => rfl) (fun _ _ _ => by kernel_rfl) ⟨fun _ _ _ => rfl, trivial⟩ ⟨fun _ _ _ _ _ _ => by kernel_rfl, trivial⟩ (fun _ _ _ _ _ => by kernel_rfl)

/-! loop.example/g00244/spec.KeyOk -/
noncomputable def spec_KeyOk_L0_0 (m : Nat) : Nat → T → T → (T → An) → (T → An) → An
  | 0, _, _, _, _ => .bad
  | n + 1, x0, x1, k0, k1 =>
    cond (decide (x1.int < (x0.str.size : Int)))
    (cond (decide ((0 : Int) ≤ x1.int ∧ x1.int < (x0.str.size : Int)))
    (spec_l1In m (T.i (IntKind.i64.wrap ((x0.str.data.toList.getD (Int.toNat x1.int) 0).toNat : Int))) (T.i 97) (T.i 122)
    (fun y0 => cond ((!y0.bool) == true)
    (cond (decide ((0 : Int) ≤ x1.int ∧ x1.int < (x0.str.size : Int)))
    (spec_l1In m (T.i (IntKind.i64.wrap ((x0.str.data.toList.getD (Int.toNat x1.int) 0).toNat : Int))) (T.i 48) (T.i 57)
    (fun y1 => cond (!y1.bool)
    (k0 (T.b false))
    (spec_KeyOk_L0_0 m n x0 (T.i (IntKind.i64.wrap (x1.int + 1))) k0 k1)))
    (.bad))
    (spec_KeyOk_L0_0 m n x0 (T.i (IntKind.i64.wrap (x1.int + 1))) k0 k1)))
    (.bad))
    (k1 x0)
noncomputable def spec_KeyOk : Nat → T → (T → An) → An
  | 0, _, _ => .bad
  | m + 1, x0, k0 =>
    spec_KeyOk_L0_0 m m x0 (T.i 0)
    (fun y3 => k0 y3)
    (fun y4 => spec_l1In m (T.i (y4.str.size : Int)) (T.i 1) (T.i 12)
    (fun y5 => k0 y5))
noncomputable def spec_KeyOk_f : Fs := ⟨84, [.one (AS)], fun m vs k => ap 1 (spec_KeyOk m) vs (lm 1 fun z => k (fRet ⟨[.one (RB)], [[none]], [none]⟩ z))⟩
noncomputable def spec_KeyOk_l : List Ls := [⟨[0, 1, 0, 1], ⟨[(0, .one (LS)), (3, .one (LI))], []⟩, fun m n vs k => ap 2 (spec_KeyOk_L0_0 m n) vs (lm 1 fun z => k .ret (fPack ⟨[(2, .one (LB))], []⟩ z)) (lm 1 fun z => k (.exit 0) (fPack ⟨[(0, .one (LS))], []⟩ z))⟩]
noncomputable def spec_KeyOk_t : List Fs := spec_KeyOk_f :: spec_l7Draw_t
theorem spec_KeyOk_g : FGood CX prims spec_KeyOk_t ∧ FEqn CX prims spec_KeyOk_f := fnG spec_l7Draw_g.1 spec_KeyOk_f Try.f84 ⟨84, 1, 27, 4⟩ spec_KeyOk_l (fun _ _ => rfl) (fun _ _ _ => by kernel_rfl) ⟨fun _ _ _ => rfl, trivial⟩ ⟨fun _ _ _ _ _ _ => by kernel_rfl, trivial⟩ (fun _ _ _ _ _ => by kernel_rfl)

/-! loop.example/g00244/spec.l7Op -/
noncomputable def spec_l7Op : Nat → T → T → T → (T → An) → An
  | 0, _, _, _, _ => .bad
  | m + 1, x0, x1, x2, k0 =>
    spec_l1In m x0 (T.i 1) (T.i 3)
    (fun y0 => cond ((!y0.bool) == false)
    (cond ((x0.int == 2) == true)
    (cond (!(x2.str.toList == (⟨#[]⟩ : ByteArray).toList))
    (k0 (T.b false))
    (spec_KeyOk m x1
    (fun y6 => cond (y6.bool == true)
    (k0 (T.b (decide ((x2.str.size : Int) ≤ 20))))
    (k0 (T.b false)))))
    (spec_KeyOk m x1
    (fun y8 => cond (y8.bool == true)
    (k0 (T.b (decide ((x2.str.size : Int) ≤ 20))))
    (k0 (T.b false)))))
    (k0 (T.b false)))
noncomputable def spec_l7Op_f : Fs := ⟨66, [.agg [AI, AS, AS]], fun m vs k => ap 3 (spec_l7Op m) vs (lm 1 fun z => k (fRet ⟨[.one (RB)], [[none, none, none]], [none]⟩ z))⟩
noncomputable def spec_l7Op_t : List Fs := spec_l7Op_f :: spec_KeyOk_t
theorem spec_l7Op_g : FGood CX prims spec_l7Op_t ∧ FEqn CX prims spec_l7Op_f := fnG spec_KeyOk_g.1 spec_l7Op_f Try.f66 ⟨66, 1, 26, 4⟩ [] (fun _ _ => rfl) (fun _ _ _ => by kernel_rfl) trivial trivial (fun _ _ _ _ _ => by kernel_rfl)

/-! loop.example/g00244/spec.OpsOk -/
noncomputable def spec_OpsOk_L0_0 (m : Nat) : Nat → T → T → (T → An) → (T → An) → An
  | 0, _, _, _, _ => .bad
  | n + 1, x0, x1, k0, k1 =>
    cond (decide (x1.int < (x0.rows.length : Int)))
    (cond (decide ((0 : Int) ≤ x1.int ∧ x1.int < (x0.rows.length : Int)))
    (spec_l7Op m ((x0.rows.getD (Int.toNat x1.int) []).getD 0 dflt) ((x0.rows.getD (Int.toNat x1.int) []).getD 1 dflt) ((x0.rows.getD (Int.toNat x1.int) []).getD 2 dflt)
    (fun y0 => cond ((!y0.bool) == false)
    (cond ((decide (x1.int > 0)) == true)
    (cond (decide ((0 : Int) ≤ (IntKind.i64.wrap (x1.int - 1)) ∧ (IntKind.i64.wrap (x1.int - 1)) < (x0.rows.length : Int)))
    (cond (decide ((0 : Int) ≤ x1.int ∧ x1.int < (x0.rows.length : Int)))
    (cond (!(Op.bytesLess (((x0.rows.getD (Int.toNat (IntKind.i64.wrap (x1.int - 1))) []).drop 1).getD 0 dflt).str.toList (((x0.rows.getD (Int.toNat x1.int) []).drop 1).getD 0 dflt).str.toList))
    (k0 (T.b false))
    (spec_OpsOk_L0_0 m n x0 (T.i (IntKind.i64.wrap (x1.int + 1))) k0 k1))
    (.bad))
    (.bad))
    (spec_OpsOk_L0_0 m n x0 (T.i (IntKind.i64.wrap (x1.int + 1))) k0 k1))
    (k0 (T.b false))))
    (.bad))
    (k1 x0)
noncomputable def spec_OpsOk : Nat → T → (T → An) → An
  | 0, _, _ => .bad
  | m + 1, x0, k0 =>
    spec_OpsOk_L0_0 m m (T.l x0.rows) (T.i 0)
    (fun y2 => k0 y2)
    (fun y3 => spec_l1In m (T.i (y3.rows.length : Int)) (T.i 1) (T.i 8)
    (fun y4 => k0 y4))
noncomputable def spec_OpsOk_f : Fs := ⟨47, [.one (.dz [.sc (.int .i64), .sc (.str), .sc (.str)] [])], fun m vs k => ap 1 (spec_OpsOk m) vs (lm 1 fun z => k (fRet ⟨[.one (RB)], [[none]], [none]⟩ z))⟩
noncomputable def spec_OpsOk_l : List Ls := [⟨[0, 1, 0, 1], ⟨[(0, .one (LD [.sc (.int .i64), .sc (.str), .sc (.str)])), (3, .one (LI))], [([4000000], .gone)]⟩, fun m n vs k => ap 2 (spec_OpsOk_L0_0 m n) vs (lm 1 fun z => k .ret (fPack ⟨[(2, .one (LB))], []⟩ z)) (lm 1 fun z => k (.exit 0) (fPack ⟨[(0, .one (LD [.sc (.int .i64), .sc (.str), .sc (.str)]))], [([4000000], .gone)]⟩ z))⟩]
noncomputable def spec_OpsOk_t : List Fs := spec_OpsOk_f :: spec_l7Op_t
theorem spec_OpsOk_g : FGood CX prims spec_OpsOk_t ∧ FEqn CX prims spec_OpsOk_f := fnG spec_l7Op_g.1 spec_OpsOk_f Try.f47 ⟨47, 1, 37, 4⟩ spec_OpsOk_l (fun _ _ => rfl) (fun _ _ _ => by kernel_rfl) ⟨fun _ _ _ => rfl, trivial⟩ ⟨fun _ _ _ _ _ _ => by kernel_rfl, trivial⟩ (fun _ _ _ _ _ => by kernel_rfl)

/-! loop.example/g00244/spec.l7CopyOps -/
noncomputable def spec_l7CopyOps : Nat → T → (T → An) → An
  | 0, _, _ => .bad
  | m + 1, x0, k0 =>
    cond (decide ((0 + x0.rows.length) * 3 ≤ maxRow))
    (k0 (T.l x0.rows))
    (.bad)
noncomputable def spec_l7CopyOps_f : Fs := ⟨43, [.one (.dz [.sc (.int .i64), .sc (.str), .sc (.str)] [])], fun m vs k => ap 1 (spec_l7CopyOps m) vs (lm 1 fun z => k (fRet ⟨[.one (.own (KR 0 0) [.sc (.int .i64), .sc (.str), .sc (.str)] [.F, .F, .F] [])], [[none]], [none]⟩ z))⟩
noncomputable def spec_l7CopyOps_t : List Fs := spec_l7CopyOps_f :: spec_OpsOk_t
theorem spec_l7CopyOps_g : FGood CX prims spec_l7CopyOps_t ∧ FEqn CX prims spec_l7CopyOps_f := fnG spec_OpsOk_g.1 spec_l7CopyOps_f Try.f43 ⟨43, 1, 6, 4⟩ [] (fun _ _ => rfl) (fun _ _ _ => by kernel_rfl) trivial trivial (fun _ _ _ _ _ => by kernel_rfl)

/-! loop.example/g00244/spec.Hash -/
noncomputable def spec_Hash_L0_0 (m : Nat) : Nat → T → T → T → (T → An) → An
  | 0, _, _, _, _ => .bad
  | n + 1, x0, x1, x2, k0 =>
    cond (decide (x2.int < (x0.str.size : Int)))
    (cond (decide ((0 : Int) ≤ x2.int ∧ x2.int < (x0.str.size : Int)))
    (spec_Hash_L0_0 m n x0 (bvBack .i64 (BitVec.ofInt IntKind.i64.bits (IntKind.i64.wrap ((bvBack .i64 (BitVec.ofInt IntKind.i64.bits x1.int ^^^ BitVec.ofInt IntKind.i64.bits (IntKind.i64.wrap ((x0.str.data.toList.getD (Int.toNat x2.int) 0).toNat : Int)))).int * 16777619)) &&& BitVec.ofInt IntKind.i64.bits 4294967295)) (T.i (IntKind.i64.wrap (x2.int + 1))) k0)
    (.bad))
    (k0 x1)
noncomputable def spec_Hash : Nat → T → (T → An) → An
  | 0, _, _ => .bad
  | m + 1, x0, k0 =>
    spec_Hash_L0_0 m m x0 (T.i 2166136261) (T.i 0)
    (fun y0 => k0 y0)
noncomputable def spec_Hash_f : Fs := ⟨91, [.one (AS)], fun m vs k => ap 1 (spec_Hash m) vs (lm 1 fun z => k (fRet ⟨[.one (RI)], [[none]], [none]⟩ z))⟩
noncomputable def spec_Hash_l : List Ls := [⟨[0, 1, 0, 1, 1], ⟨[(0, .one (LS)), (3, .one (LI)), (4, .one (LI))], []⟩, fun m n vs k => ap 3 (spec_Hash_L0_0 m n) vs (lm 1 fun z => k (.exit 0) (fPack ⟨[(3, .one (LI))], []⟩ z))⟩]
noncomputable def spec_Hash_t : List Fs := spec_Hash_f :: spec_l7CopyOps_t
theorem spec_Hash_g : FGood CX prims spec_Hash_t ∧ FEqn CX prims spec_Hash_f := fnG spec_l7CopyOps_g.1 spec_Hash_f Try.f91 ⟨91, 1, 20, 4⟩ spec_Hash_l (fun _ _ => rfl) (fun _ _ _ => by kernel_rfl) ⟨fun _ _ _ => rfl, trivial⟩ ⟨fun _ _ _ _ _ _ => by kernel_rfl, trivial⟩ (fun _ _ _ _ _ => by kernel_rfl)

/-! loop.example/g00244/spec.ShardOf -/
noncomputable def spec_ShardOf : Nat → T → T → (T → An) → An
  | 0, _, _, _ => .bad
  | m + 1, x0, x1, k0 =>
    cond (decide (x1.int < 1))
    (k0 (T.i 0))
    (spec_Hash m x0
    (fun y0 => cond (!decide (x1.int = 0))
    (k0 (T.i (Int.tmod y0.int x1.int)))
    (.bad)))
noncomputable def spec_ShardOf_f : Fs := ⟨81, [.one (AS), .one (AI)], fun m vs k => ap 2 (spec_ShardOf m) vs (lm 1 fun z => k (fRet ⟨[.one (RI)], [[none], [none]], [none, none]⟩ z))⟩
noncomputable def spec_ShardOf_t : List Fs := spec_ShardOf_f :: spec_Hash_t
theorem spec_ShardOf_g : FGood CX prims spec_ShardOf_t ∧ FEqn CX prims spec_ShardOf_f := fnG spec_Hash_g.1 spec_ShardOf_f Try.f81 ⟨81, 2, 11, 16⟩ [] (fun _ _ => rfl) (fun _ _ _ => by kernel_rfl) trivial trivial (fun _ _ _ _ _ => by kernel_rfl)

/-! loop.example/g00244/spec.l7Has -/
noncomputable def spec_l7Has_L0_0 (m : Nat) : Nat → T → T → T → (T → An) → An → An
  | 0, _, _, _, _, _ => .bad
  | n + 1, x0, x1, x2, k0, k1 =>
    cond (decide (x2.int < (x0.rows.length : Int)))
    (cond (decide ((0 : Int) ≤ x2.int ∧ x2.int < (x0.rows.length : Int)))
    (cond (((x0.rows.getD (Int.toNat x2.int) []).getD 0 dflt).int == x1.int)
    (k0 (T.b true))
    (spec_l7Has_L0_0 m n x0 x1 (T.i (IntKind.i64.wrap (x2.int + 1))) k0 k1))
    (.bad))
    (k1 )
noncomputable def spec_l7Has : Nat → T → T → (T → An) → An
  | 0, _, _, _ => .bad
  | m + 1, x0, x1, k0 =>
    spec_l7Has_L0_0 m m (T.l x0.rows) x1 (T.i 0)
    (fun y0 => k0 y0)
    (k0 (T.b false))
noncomputable def spec_l7Has_f : Fs := ⟨65, [.one (.dz [.sc (.int .i64)] []), .one (AI)], fun m vs k => ap 2 (spec_l7Has m) vs (lm 1 fun z => k (fRet ⟨[.one (RB)], [[none], [none]], [none, none]⟩ z))⟩
noncomputable def spec_l7Has_l : List Ls := [⟨[0, 1, 0, 1], ⟨[(0, .one (LD [.sc (.int .i64)])), (1, .one (LI)), (5, .one (LI))], [([4000000], .gone)]⟩, fun m n vs k => ap 3 (spec_l7Has_L0_0 m n) vs (lm 1 fun z => k .ret (fPack ⟨[(4, .one (LB))], []⟩ z)) (lm 0 fun z => k (.exit 0) (fPack ⟨[], []⟩ z))⟩]
noncomputable def spec_l7Has_t : List Fs := spec_l7Has_f :: spec_ShardOf_t
theorem spec_l7Has_g : FGood CX prims spec_l7Has_t ∧ FEqn CX prims spec_l7Has_f := fnG spec_ShardOf_g.1 spec_l7Has_f Try.f65 ⟨65, 2, 18, 16⟩ spec_l7Has_l (fun _ _ => rfl) (fun _ _ _ => by kernel_rfl) ⟨fun _ _ _ => rfl, trivial⟩ ⟨fun _ _ _ _ _ _ => by kernel_rfl, trivial⟩ (fun _ _ _ _ _ => by kernel_rfl)

/-! loop.example/g00244/spec.l7Put -/
noncomputable def spec_l7Put_L0_0 (m : Nat) : Nat → T → T → T → (T → T → T → An) → An
  | 0, _, _, _, _ => .bad
  | n + 1, x0, x1, x2, k0 =>
    jn (fun (j2 : An) =>
    cond ((decide (x1.int > 0)) == true)
    (cond (decide ((0 : Int) ≤ (IntKind.i64.wrap (x1.int - 1)) ∧ (IntKind.i64.wrap (x1.int - 1)) < (x2.rows.length : Int)))
    (cond (decide ((Int.toNat (IntKind.i64.wrap (x1.int - 1))) < x2.rows.length))
    (cond (decide (((x2.rows.getD (Int.toNat (IntKind.i64.wrap (x1.int - 1))) []).getD 0 dflt).int > x0.int))
    (j2)
    (k0 x0 x1 (T.l x2.rows)))
    (.bad))
    (.bad))
    (k0 x0 x1 (T.l x2.rows)))
    (cond (decide ((0 : Int) ≤ (IntKind.i64.wrap (x1.int - 1)) ∧ (IntKind.i64.wrap (x1.int - 1)) < (x2.rows.length : Int)))
    (cond (decide ((Int.toNat (IntKind.i64.wrap (x1.int - 1))) < x2.rows.length))
    (cond (decide ((0 : Int) ≤ x1.int ∧ x1.int < (x2.rows.length : Int)))
    (cond (decide ((Int.toNat x1.int) < x2.rows.length))
    (spec_l7Put_L0_0 m n x0 (T.i (IntKind.i64.wrap (x1.int - 1))) (T.l (x2.rows.set (Int.toNat x1.int) ((x2.rows.getD (Int.toNat x1.int) []).set 0 ((x2.rows.getD (Int.toNat (IntKind.i64.wrap (x1.int - 1))) []).getD 0 dflt)))) k0)
    (.bad))
    (.bad))
    (.bad))
    (.bad))
noncomputable def spec_l7Put : Nat → T → T → (T → An) → An
  | 0, _, _, _ => .bad
  | m + 1, x0, x1, k0 =>
    spec_l7Has m (T.l x0.rows) x1
    (fun y0 => cond y0.bool
    (k0 (T.l x0.rows))
    (cond (decide ((0 + x0.rows.length) * 1 ≤ maxRow))
    (cond (decide ((x0.rows.length + 1) * 1 ≤ maxRow))
    (spec_l7Put_L0_0 m m x1 (T.i (IntKind.i64.wrap (((x0.rows ++ [[x1]]).length : Int) - 1))) (T.l (x0.rows ++ [[x1]]))
    (fun y3 y4 y5 => cond (decide ((0 : Int) ≤ y4.int ∧ y4.int < (y5.rows.length : Int)))
    (cond (decide ((Int.toNat y4.int) < y5.rows.length))
    (k0 (T.l (y5.rows.set (Int.toNat y4.int) ((y5.rows.getD (Int.toNat y4.int) []).set 0 y3))))
    (.bad))
    (.bad)))
    (.bad))
    (.bad)))
noncomputable def spec_l7Put_f : Fs := ⟨80, [.one (.fz [.sc (.int .i64)] []), .one (AI)], fun m vs k => ap 2 (spec_l7Put m) vs (lm 1 fun z => k (fRet ⟨[.one (.fz [.sc (.int .i64)] [])], [[none], [none]], [none, none]⟩ z))⟩
noncomputable def spec_l7Put_l : List Ls := [⟨[0, 0, 1, 1, 1, 1], ⟨[(1, .one (LI)), (5, .one (LA (KI 0) [.sc (.int .i64)])), (6, .one (LI))], [((KI 0), .row [.sc (.int .i64)] [.F] [])]⟩, fun m n vs k => ap 3 (spec_l7Put_L0_0 m n) vs (lm 3 fun z => k (.exit 0) (fPack ⟨[(1, .one (LI)), (5, .one (LA (KI 0) [.sc (.int .i64)])), (6, .one (LI))], [((KI 0), .row [.sc (.int .i64)] [.F] [])]⟩ z))⟩]
noncomputable def spec_l7Put_t : List Fs := spec_l7Put_f :: spec_l7Has_t
theorem spec_l7Put_g : FGood CX prims spec_l7Put_t ∧ FEqn CX prims spec_l7Put_f := fnG spec_l7Has_g.1 spec_l7Put_f Try.f80 ⟨80, 2, 46, 16⟩ spec_l7Put_l (fun _ _ => rfl) (fun _ _ _ => by kernel_rfl) ⟨fun _ _ _ => rfl, trivial⟩ ⟨fun _ _ _ _ _ _ => by kernel_rfl, trivial⟩ (fun _ _ _ _ _ => by kernel_rfl)

/-! loop.example/g00244/spec.ShardsOf -/
noncomputable def spec_ShardsOf_L0_1 (m : Nat) : Nat → T → T → T → T → (T → An) → (T → An) → An
  | 0, _, _, _, _, _, _ => .bad
  | n + 1, x0, x1, x2, x3, k0, k1 =>
    cond (decide (x3.int < (x0.rows.length : Int)))
    (cond (decide ((0 : Int) ≤ x3.int ∧ x3.int < (x0.rows.length : Int)))
    (spec_ShardOf m (((x0.rows.getD (Int.toNat x3.int) []).drop 1).getD 0 dflt) x1
    (fun y2 => spec_l7Put m (T.l x2.rows) y2
    (fun y3 => spec_ShardsOf_L0_1 m n x0 x1 (T.l y3.rows) (T.i (IntKind.i64.wrap (x3.int + 1))) k0 k1)))
    (.bad))
    (k0 x2)
noncomputable def spec_ShardsOf_L0_0 (m : Nat) : Nat → T → T → T → T → (T → An) → (T → An) → An
  | 0, _, _, _, _, _, _ => .bad
  | n + 1, x0, x1, x2, x3, k0, k1 =>
    cond (decide (x2.int < (x0.rows.length : Int)))
    (cond (decide ((0 : Int) ≤ x2.int ∧ x2.int < (x0.rows.length : Int)))
    (spec_ShardOf m (((x0.rows.getD (Int.toNat x2.int) []).drop 1).getD 0 dflt) x1
    (fun y0 => spec_l7Put m (T.l x3.rows) y0
    (fun y1 => spec_ShardsOf_L0_1 m n x0 x1 (T.l y1.rows) (T.i (IntKind.i64.wrap (x2.int + 1))) k0 k1)))
    (.bad))
    (k1 (T.l x3.rows))
def spec_ShardsOf_e0_0 : Pack := ⟨[(5, .one (LZ [.sc (.int .i64)]))], []⟩
def spec_ShardsOf_e0_1 : Pack := ⟨[(5, .one (LA (KI 0) [.sc (.int .i64)]))], [((KI 0), .fz [.sc (.int .i64)] [])]⟩
noncomputable def spec_ShardsOf : Nat → T → T → (T → An) → An
  | 0, _, _, _ => .bad
  | m + 1, x0, x1, k0 =>
    spec_ShardsOf_L0_0 m m (T.l x0.rows) x1 (T.i 0) (T.l [])
    (fun y4 => k0 (T.l y4.rows))
    (fun y5 => k0 (T.l y5.rows))
noncomputable def spec_ShardsOf_f : Fs := ⟨56, [.one (.dz [.sc (.int .i64), .sc (.str), .sc (.str)] []), .one (AI)], fun m vs k => ap 2 (spec_ShardsOf m) vs (lm 1 fun z => k (fRet ⟨[.one (.fz [.sc (.int .i64)] [])], [[none], [none]], [none, none]⟩ z))⟩
noncomputable def spec_ShardsOf_l : List Ls := [⟨[0, 1, 0, 1, 1], ⟨[(0, .one (LD [.sc (.int .i64), .sc (.str), .sc (.str)])), (1, .one (LI)), (5, .one (LZ [.sc (.int .i64)])), (6, .one (LI))], [([4000000], .gone)]⟩, fun m n vs k => ap 4 (spec_ShardsOf_L0_1 m n) vs (lm 1 fun z => k (.exit 0) (fPack spec_ShardsOf_e0_0 z)) (lm 1 fun z => k (.exit 0) (fPack spec_ShardsOf_e0_1 z))⟩, ⟨[0, 1, 0, 1, 1], ⟨[(0, .one (LD [.sc (.int .i64), .sc (.str), .sc (.str)])), (1, .one (LI)), (5, .one (LA (KI 1) [.sc (.int .i64)])), (6, .one (LI))], [([4000000], .gone), ((KI 1), .fz [.sc (.int .i64)] [])]⟩, fun m n vs k => ap 4 (spec_ShardsOf_L0_0 m n) vs (lm 1 fun z => k (.exit 0) (fPack spec_ShardsOf_e0_0 z)) (lm 1 fun z => k (.exit 0) (fPack spec_ShardsOf_e0_1 z))⟩]
noncomputable def spec_ShardsOf_t : List Fs := spec_ShardsOf_f :: spec_l7Put_t
theorem spec_ShardsOf_g : FGood CX prims spec_ShardsOf_t ∧ FEqn CX prims spec_ShardsOf_f := fnG spec_l7Put_g.1 spec_ShardsOf_f Try.f56 ⟨56, 2, 24, 16⟩ spec_ShardsOf_l (fun _ _ => rfl) (fun _ _ _ => by kernel_rfl) ⟨fun _ _ _ => rfl, fun _ _ _ => rfl, trivial⟩ ⟨fun _ _ _ _ _ _ => by kernel_rfl, fun _ _ _ _ _ _ => by kernel_rfl, trivial⟩ (fun _ _ _ _ _ => by kernel_rfl)

/-! loop.example/g00244/spec.OpsFor -/
noncomputable def spec_OpsFor_L0_0 (m : Nat) : Nat → T → T → T → T → T → (T → An) → An
  | 0, _, _, _, _, _, _ => .bad
  | n + 1, x0, x1, x2, x3, x4, k0 =>
    cond (decide (x3.int < (x0.rows.length : Int)))
    (cond (decide ((0 : Int) ≤ x3.int ∧ x3.int < (x0.rows.length : Int)))
    (spec_ShardOf m (((x0.rows.getD (Int.toNat x3.int) []).drop 1).getD 0 dflt) x2
    (fun y0 => cond (y0.int == x1.int)
    (cond (decide ((0 : Int) ≤ x3.int ∧ x3.int < (x0.rows.length : Int)))
    (cond (decide ((x4.rows.length + 1) * 3 ≤ maxRow))
    (spec_OpsFor_L0_0 m n x0 x1 x2 (T.i (IntKind.i64.wrap (x3.int + 1))) (T.l (x4.rows ++ [[((x0.rows.getD (Int.toNat x3.int) []).getD 0 dflt), ((x0.rows.getD (Int.toNat x3.int) []).getD 1 dflt), ((x0.rows.getD (Int.toNat x3.int) []).getD 2 dflt)]])) k0)
    (.bad))
    (.bad))
    (spec_OpsFor_L0_0 m n x0 x1 x2 (T.i (IntKind.i64.wrap (x3.int + 1))) (T.l x4.rows) k0)))
    (.bad))
    (k0 (T.l x4.rows))
noncomputable def spec_OpsFor : Nat → T → T → T → (T → An) → An
  | 0, _, _, _, _ => .bad
  | m + 1, x0, x1, x2, k0 =>
    spec_OpsFor_L0_0 m m (T.l x0.rows) x1 x2 (T.i 0) (T.l [])
    (fun y3 => k0 (T.l y3.rows))
noncomputable def spec_OpsFor_f : Fs := ⟨67, [.one (.dz [.sc (.int .i64), .sc (.str), .sc (.str)] []), .one (AI), .one (AI)], fun m vs k => ap 3 (spec_OpsFor m) vs (lm 1 fun z => k (fRet ⟨[.one (.own (KR 0 0) [.sc (.int .i64), .sc (.str), .sc (.str)] [.F, .F, .F] [])], [[none], [none], [none]], [none, none, none]⟩ z))⟩
noncomputable def spec_OpsFor_l : List Ls := [⟨[0, 1, 0, 1, 1], ⟨[(0, .one (LD [.sc (.int .i64), .sc (.str), .sc (.str)])), (1, .one (LI)), (2, .one (LI)), (7, .one (LA (KI 1) [.sc (.int .i64), .sc (.str), .sc (.str)])), (8, .one (LI))], [([4000000], .gone), ((KI 1), .row [.sc (.int .i64), .sc (.str), .sc (.str)] [.F, .F, .F] [])]⟩, fun m n vs k => ap 5 (spec_OpsFor_L0_0 m n) vs (lm 1 fun z => k (.exit 0) (fPack ⟨[(7, .one (LA (KI 0) [.sc (.int .i64), .sc (.str), .sc (.str)]))], [((KI 0), .row [.sc (.int .i64), .sc (.str), .sc (.str)] [.F, .F, .F] [])]⟩ z))⟩]
noncomputable def spec_OpsFor_t : List Fs := spec_OpsFor_f :: spec_ShardsOf_t
theorem spec_OpsFor_g : FGood CX prims spec_OpsFor_t ∧ FEqn CX prims spec_OpsFor_f := fnG spec_ShardsOf_g.1 spec_OpsFor_f Try.f67 ⟨67, 3, 33, 64⟩ spec_OpsFor_l (fun _ _ => rfl) (fun _ _ _ => by kernel_rfl) ⟨fun _ _ _ => rfl, trivial⟩ ⟨fun _ _ _ _ _ _ => by kernel_rfl, trivial⟩ (fun _ _ _ _ _ => by kernel_rfl)

/-! loop.example/g00244/spec.l11Holds -/
noncomputable def spec_l11Holds_L0_0 (m : Nat) : Nat → T → T → T → T → T → T → T → T → T → T → T → T → T → T → T → (T → An) → An
  | 0, _, _, _, _, _, _, _, _, _, _, _, _, _, _, _, _ => .bad
  | n + 1, x0, x1, x2, x3, x4, x5, x6, x7, x8, x9, x10, x11, x12, x13, x14, k0 =>
    cond (decide (x3.int < (x2.rows.length : Int)))
    ((fun (j5 : T → An) =>
    cond (decide ((0 : Int) ≤ x3.int ∧ x3.int < (x2.rows.length : Int)))
    (spec_l7Has m (T.l x13.rows) ((x2.rows.getD (Int.toNat x3.int) []).getD 0 dflt)
    (fun y1 => cond (!y1.bool)
    (cond (decide ((0 : Int) ≤ x3.int ∧ x3.int < (x2.rows.length : Int)))
    (cond (decide ((0 : Int) ≤ x3.int ∧ x3.int < (x2.rows.length : Int)))
    (spec_OpsFor m (T.l x11.rows) ((x2.rows.getD (Int.toNat x3.int) []).getD 0 dflt) x4
    (fun y2 => cond (decide ((x14.rows.length + 1) * 5 ≤ maxRow))
    (j5 (T.l (x14.rows ++ [[(T.i 1), ((x2.rows.getD (Int.toNat x3.int) []).getD 0 dflt), x10, (T.l y2.rows), (T.b false)]])))
    (.bad)))
    (.bad))
    (.bad))
    (j5 (T.l x14.rows))))
    (.bad))
    (fun y4 => spec_l11Holds_L0_0 m n (T.i (x0.int.toNat : Int)) (T.i (x1.int.toNat : Int)) x2 (T.i (IntKind.i64.wrap (x3.int + 1))) x4 x5 x6 x7 x8 x9 x10 x11 x12 x13 (T.l y4.rows) k0))
    (k0 (T.l x14.rows))
noncomputable def spec_l11Holds : Nat → T → T → T → T → T → T → T → T → T → T → (T → An) → An
  | 0, _, _, _, _, _, _, _, _, _, _, _ => .bad
  | m + 1, x0, x1, x2, x3, x4, x5, x6, x7, x8, x9, k0 =>
    spec_ShardsOf m (T.l x7.rows) x0
    (fun y0 => spec_l11Holds_L0_0 m m (T.i 0) (T.i 0) (T.l y0.rows) (T.i 0) x0 x1 x2 (T.l x3.rows) (T.l x4.rows) x5 x6 (T.l x7.rows) x8 (T.l x9.rows) (T.l [])
    (fun y6 => k0 (T.l y6.rows)))
noncomputable def spec_l11Holds_f : Fs := ⟨48, [.agg [AI, AI, AI, .dz [.sc (.int .i64), .sl [.sc (.int .i64), .sc (.str), .sc (.str)], .sc (.int .i64), .sl [.sc (.int .i64)]] [], .dz [.sc (.int .i64), .sc (.bool)] [], AI], .agg [AI, .dz [.sc (.int .i64), .sc (.str), .sc (.str)] [], AI, .dz [.sc (.int .i64)] []]], fun m vs k => ap 10 (spec_l11Holds m) vs (lm 1 fun z => k (fRet ⟨[.one (.own (KR 0 0) [.sc (.int .i64), .sc (.int .i64), .sc (.int .i64), .sl [.sc (.int .i64), .sc (.str), .sc (.str)], .sc (.bool)] [.F, .F, .F, .F, .F] [])], [[none, none, none, none, none, none], [none, none, none, none]], [none, none]⟩ z))⟩
noncomputable def spec_l11Holds_l : List Ls := [⟨[0, 1, 0, 1, 1, 1], ⟨[(2, EP 0), (3, EP 1), (5, .one (LA (KI 2) [.sc (.int .i64), .sc (.int .i64), .sc (.int .i64), .sl [.sc (.int .i64), .sc (.str), .sc (.str)], .sc (.bool)])), (6, .one (LZ [.sc (.int .i64)])), (7, .one (LI))], [((KI 0), .box [LI, LI, LI, LD [.sc (.int .i64), .sl [.sc (.int .i64), .sc (.str), .sc (.str)], .sc (.int .i64), .sl [.sc (.int .i64)]], LD [.sc (.int .i64), .sc (.bool)], LI]), ((KI 1), .box [LI, LD [.sc (.int .i64), .sc (.str), .sc (.str)], LI, LD [.sc (.int .i64)]]), ((KI 2), .row [.sc (.int .i64), .sc (.int .i64), .sc (.int .i64), .sl [.sc (.int .i64), .sc (.str), .sc (.str)], .sc (.bool)] [.F, .F, .F, .F, .F] []), ([4000000], .gone)]⟩, fun m n vs k => ap 15 (spec_l11Holds_L0_0 m n) vs (lm 1 fun z => k (.exit 0) (fPack ⟨[(5, .one (LA (KI 0) [.sc (.int .i64), .sc (.int .i64), .sc (.int .i64), .sl [.sc (.int .i64), .sc (.str), .sc (.str)], .sc (.bool)]))], [((KI 0), .row [.sc (.int .i64), .sc (.int .i64), .sc (.int .i64), .sl [.sc (.int .i64), .sc (.str), .sc (.str)], .sc (.bool)] [.F, .F, .F, .F, .F] [])]⟩ z))⟩]
noncomputable def spec_l11Holds_t : List Fs := spec_l11Holds_f :: spec_OpsFor_t
theorem spec_l11Holds_g : FGood CX prims spec_l11Holds_t ∧ FEqn CX prims spec_l11Holds_f := fnG spec_OpsFor_g.1 spec_l11Holds_f Try.f48 ⟨48, 2, 48, 16⟩ spec_l11Holds_l (fun _ _ => rfl) (fun _ _ _ => by kernel_rfl) ⟨fun _ _ _ => rfl, trivial⟩ ⟨fun _ _ _ _ _ _ => by kernel_rfl, trivial⟩ (fun _ _ _ _ _ => by kernel_rfl)

/-! loop.example/g00244/spec.l11Begin -/
noncomputable def spec_l11Begin : Nat → T → T → T → T → T → T → T → (T → T → T → T → T → T → T → T → An) → An
  | 0, _, _, _, _, _, _, _, _ => .bad
  | m + 1, x0, x1, x2, x3, x4, x5, x6, k0 =>
    jn (fun (j4 : An) =>
    spec_OpsOk m (T.l x6.rows)
    (fun y0 => cond ((!y0.bool) == false)
    (cond ((x2.int == 999) == false)
    (cond (decide ((x4.rows.length : Int) ≥ 1000))
    (k0 (T.l []) (T.i 0) x0 x1 x2 (T.l x3.rows) (T.l x4.rows) x5)
    (j4))
    (k0 (T.l []) (T.i 0) x0 x1 x2 (T.l x3.rows) (T.l x4.rows) x5))
    (k0 (T.l []) (T.i 0) x0 x1 x2 (T.l x3.rows) (T.l x4.rows) x5)))
    (spec_l7CopyOps m (T.l x6.rows)
    (fun y2 => cond (decide ((x3.rows.length + 1) * 4 ≤ maxRow))
    (spec_l11Holds m x0 x1 (T.i (IntKind.i64.wrap (x2.int + 1))) (T.l (x3.rows ++ [[(T.i (IntKind.i64.wrap ((IntKind.i64.wrap (x1.int * 1000)) + x2.int))), (T.l y2.rows), (T.i 1), (T.l [])]])) (T.l x4.rows) x5 (T.i (IntKind.i64.wrap ((IntKind.i64.wrap (x1.int * 1000)) + x2.int))) (T.l y2.rows) (T.i 1) (T.l [])
    (fun y3 => k0 (T.l y3.rows) (T.i (IntKind.i64.wrap ((IntKind.i64.wrap (x1.int * 1000)) + x2.int))) x0 x1 (T.i (IntKind.i64.wrap (x2.int + 1))) (T.l (x3.rows ++ [[(T.i (IntKind.i64.wrap ((IntKind.i64.wrap (x1.int * 1000)) + x2.int))), (T.l y2.rows), (T.i 1), (T.l [])]])) (T.l x4.rows) x5))
    (.bad)))
noncomputable def spec_l11Begin_f : Fs := ⟨21, [.bx [AI, AI, AI, .own [.sc (.int .i64), .sl [.sc (.int .i64), .sc (.str), .sc (.str)], .sc (.int .i64), .sl [.sc (.int .i64)]] [.F, .F, .F, .F] [], .own [.sc (.int .i64), .sc (.bool)] [.F, .F] [], AI], .one (.dz [.sc (.int .i64), .sc (.str), .sc (.str)] [])], fun m vs k => ap 7 (spec_l11Begin m) vs (lm 8 fun z => k (fRet ⟨[.one (.own (KR 0 0) [.sc (.int .i64), .sc (.int .i64), .sc (.int .i64), .sl [.sc (.int .i64), .sc (.str), .sc (.str)], .sc (.bool)] [.F, .F, .F, .F, .F] []), .one (RI)], [[none, none, none, none, none, none], [none]], [some [RI, RI, RI, .own (KR 1000 3) [.sc (.int .i64), .sl [.sc (.int .i64), .sc (.str), .sc (.str)], .sc (.int .i64), .sl [.sc (.int .i64)]] [.F, .F, .F, .F] [], .own (KR 1000 4) [.sc (.int .i64), .sc (.bool)] [.F, .F] [], RI], none]⟩ z))⟩
noncomputable def spec_l11Begin_t : List Fs := spec_l11Begin_f :: spec_l11Holds_t
theorem spec_l11Begin_g : FGood CX prims spec_l11Begin_t ∧ FEqn CX prims spec_l11Begin_f := fnG spec_l11Holds_g.1 spec_l11Begin_f Try.f21 ⟨21, 2, 64, 49⟩ [] (fun _ _ => rfl) (fun _ _ _ => by kernel_rfl) trivial trivial (fun _ _ _ _ _ => by kernel_rfl)

/-! loop.example/g00244/spec.l1Once -/
noncomputable def spec_l1Once : Nat → T → T → T → T → (T → T → T → T → An) → An
  | 0, _, _, _, _, _ => .bad
  | m + 1, x0, x1, x2, x3, k0 =>
    spec_l1Below m (T.l x0.rows) x1 x2 x3
    (fun y0 y1 y2 y3 => k0 (T.b (y0.int == 0)) (T.l y1.rows) y2 y3)
noncomputable def spec_l1Once_f : Fs := ⟨58, [.bx [.fz [.sc (.int .u8)] [], AI, AI], .one (AI)], fun m vs k => ap 4 (spec_l1Once m) vs (lm 4 fun z => k (fRet ⟨[.one (RB)], [[none, none, none], [none]], [some [.fz [.sc (.int .u8)] [], RI, RI], none]⟩ z))⟩
noncomputable def spec_l1Once_t : List Fs := spec_l1Once_f :: spec_l11Begin_t
theorem spec_l1Once_g : FGood CX prims spec_l1Once_t ∧ FEqn CX prims spec_l1Once_f := fnG spec_l11Begin_g.1 spec_l1Once_f Try.f58 ⟨58, 2, 9, 17⟩ [] (fun _ _ => rfl) (fun _ _ _ => by kernel_rfl) trivial trivial (fun _ _ _ _ _ => by kernel_rfl)

/-! loop.example/g00244/spec.l11JobAt -/
noncomputable def spec_l11JobAt_L0_0 (m : Nat) : Nat → T → T → T → T → T → T → T → T → T → (T → An) → An → An
  | 0, _, _, _, _, _, _, _, _, _, _, _ => .bad
  | n + 1, x0, x1, x2, x3, x4, x5, x6, x7, x8, k0, k1 =>
    cond (decide (x2.int < (x6.rows.length : Int)))
    (cond (decide ((0 : Int) ≤ x2.int ∧ x2.int < (x6.rows.length : Int)))
    (cond (((x6.rows.getD (Int.toNat x2.int) []).getD 0 dflt).int == x0.int)
    (k0 x2)
    (spec_l11JobAt_L0_0 m n x0 (T.i (x1.int.toNat : Int)) (T.i (IntKind.i64.wrap (x2.int + 1))) x3 x4 x5 x6 x7 x8 k0 k1))
    (.bad))
    (k1 )
noncomputable def spec_l11JobAt : Nat → T → T → T → T → T → T → T → (T → An) → An
  | 0, _, _, _, _, _, _, _, _ => .bad
  | m + 1, x0, x1, x2, x3, x4, x5, x6, k0 =>
    spec_l11JobAt_L0_0 m m x6 (T.i 0) (T.i 0) x0 x1 x2 (T.l x3.rows) (T.l x4.rows) x5
    (fun y0 => k0 y0)
    (k0 (T.i (-1)))
noncomputable def spec_l11JobAt_f : Fs := ⟨82, [.agg [AI, AI, AI, .dz [.sc (.int .i64), .sl [.sc (.int .i64), .sc (.str), .sc (.str)], .sc (.int .i64), .sl [.sc (.int .i64)]] [], .dz [.sc (.int .i64), .sc (.bool)] [], AI], .one (AI)], fun m vs k => ap 7 (spec_l11JobAt m) vs (lm 1 fun z => k (fRet ⟨[.one (RI)], [[none, none, none, none, none, none], [none]], [none, none]⟩ z))⟩
noncomputable def spec_l11JobAt_l : List Ls := [⟨[0, 1, 0, 1], ⟨[(1, .one (LI)), (2, EP 0), (5, .one (LI))], [((KI 0), .box [LI, LI, LI, LD [.sc (.int .i64), .sl [.sc (.int .i64), .sc (.str), .sc (.str)], .sc (.int .i64), .sl [.sc (.int .i64)]], LD [.sc (.int .i64), .sc (.bool)], LI]), ([4000000], .gone)]⟩, fun m n vs k => ap 9 (spec_l11JobAt_L0_0 m n) vs (lm 1 fun z => k .ret (fPack ⟨[(4, .one (LI))], []⟩ z)) (lm 0 fun z => k (.exit 0) (fPack ⟨[], []⟩ z))⟩]
noncomputable def spec_l11JobAt_t : List Fs := spec_l11JobAt_f :: spec_l1Once_t
theorem spec_l11JobAt_g : FGood CX prims spec_l11JobAt_t ∧ FEqn CX prims spec_l11JobAt_f := fnG spec_l1Once_g.1 spec_l11JobAt_f Try.f82 ⟨82, 2, 22, 16⟩ spec_l11JobAt_l (fun _ _ => rfl) (fun _ _ _ => by kernel_rfl) ⟨fun _ _ _ => rfl, trivial⟩ ⟨fun _ _ _ _ _ _ => by kernel_rfl, trivial⟩ (fun _ _ _ _ _ => by kernel_rfl)

/-! loop.example/g00244/spec.l11Vote -/
noncomputable def spec_l11Vote : Nat → T → T → T → T → T → T → T → T → T → (T → T → T → T → T → T → An) → An
  | 0, _, _, _, _, _, _, _, _, _, _ => .bad
  | m + 1, x0, x1, x2, x3, x4, x5, x6, x7, x8, k0 =>
    spec_l11JobAt m x0 x1 x2 (T.l x3.rows) (T.l x4.rows) x5 x7
    (fun y0 => jn (fun (j5 : An) =>
    cond ((decide (y0.int < 0)) == false)
    (cond (decide ((0 : Int) ≤ y0.int ∧ y0.int < (x3.rows.length : Int)))
    (cond (decide ((Int.toNat y0.int) < x3.rows.length))
    (cond ((((x3.rows.getD (Int.toNat y0.int) []).getD 2 dflt).int != 1) == false)
    (cond (decide ((x4.rows.length : Int) ≥ 1000))
    (k0 x0 x1 x2 (T.l x3.rows) (T.l x4.rows) x5)
    (j5))
    (k0 x0 x1 x2 (T.l x3.rows) (T.l x4.rows) x5))
    (.bad))
    (.bad))
    (k0 x0 x1 x2 (T.l x3.rows) (T.l x4.rows) x5))
    (cond (decide ((0 : Int) ≤ y0.int ∧ y0.int < (x3.rows.length : Int)))
    (cond (decide ((Int.toNat y0.int) < x3.rows.length))
    (spec_ShardsOf m (T.l ((x3.rows.getD (Int.toNat y0.int) []).getD 1 dflt).rows) x0
    (fun y2 => spec_l7Has m (T.l y2.rows) x6
    (fun y3 => cond (!y3.bool)
    (k0 x0 x1 x2 (T.l x3.rows) (T.l x4.rows) x5)
    (cond (!x8.bool)
    (cond (decide ((Int.toNat y0.int) < x3.rows.length))
    (cond (decide ((x4.rows.length + 1) * 2 ≤ maxRow))
    (k0 x0 x1 x2 (T.l (x3.rows.set (Int.toNat y0.int) ((x3.rows.getD (Int.toNat y0.int) []).set 2 (T.i 3)))) (T.l (x4.rows ++ [[x7, (T.b false)]])) x5)
    (.bad))
    (.bad))
    (cond (decide ((Int.toNat y0.int) < x3.rows.length))
    (spec_l7Put m (T.l ((x3.rows.getD (Int.toNat y0.int) []).getD 3 dflt).rows) x6
    (fun y4 => cond (decide ((Int.toNat y0.int) < x3.rows.length))
    (cond (decide ((Int.toNat y0.int) < (x3.rows.set (Int.toNat y0.int) ((x3.rows.getD (Int.toNat y0.int) []).set 3 (T.l y4.rows))).length))
    (cond (((((x3.rows.set (Int.toNat y0.int) ((x3.rows.getD (Int.toNat y0.int) []).set 3 (T.l y4.rows))).getD (Int.toNat y0.int) []).getD 3 dflt).rows.length : Int) == (y2.rows.length : Int))
    (cond (decide ((Int.toNat y0.int) < (x3.rows.set (Int.toNat y0.int) ((x3.rows.getD (Int.toNat y0.int) []).set 3 (T.l y4.rows))).length))
    (cond (decide ((x4.rows.length + 1) * 2 ≤ maxRow))
    (k0 x0 x1 x2 (T.l ((x3.rows.set (Int.toNat y0.int) ((x3.rows.getD (Int.toNat y0.int) []).set 3 (T.l y4.rows))).set (Int.toNat y0.int) (((x3.rows.set (Int.toNat y0.int) ((x3.rows.getD (Int.toNat y0.int) []).set 3 (T.l y4.rows))).getD (Int.toNat y0.int) []).set 2 (T.i 2)))) (T.l (x4.rows ++ [[x7, (T.b true)]])) x5)
    (.bad))
    (.bad))
    (k0 x0 x1 x2 (T.l (x3.rows.set (Int.toNat y0.int) ((x3.rows.getD (Int.toNat y0.int) []).set 3 (T.l y4.rows)))) (T.l x4.rows) x5))
    (.bad))
    (.bad)))
    (.bad))))))
    (.bad))
    (.bad)))
noncomputable def spec_l11Vote_f : Fs := ⟨57, [.bx [AI, AI, AI, .own [.sc (.int .i64), .sl [.sc (.int .i64), .sc (.str), .sc (.str)], .sc (.int .i64), .sl [.sc (.int .i64)]] [.F, .F, .F, .F] [], .own [.sc (.int .i64), .sc (.bool)] [.F, .F] [], AI], .one (AI), .one (AI), .one (AB)], fun m vs k => ap 9 (spec_l11Vote m) vs (lm 6 fun z => k (fRet ⟨[], [[none, none, none, none, none, none], [none], [none], [none]], [some [RI, RI, RI, .own (KR 1000 3) [.sc (.int .i64), .sl [.sc (.int .i64), .sc (.str), .sc (.str)], .sc (.int .i64), .sl [.sc (.int .i64)]] [.F, .F, .F, .F] [], .own (KR 1000 4) [.sc (.int .i64), .sc (.bool)] [.F, .F] [], RI], none, none, none]⟩ z))⟩
noncomputable def spec_l11Vote_t : List Fs := spec_l11Vote_f :: spec_l11JobAt_t
theorem spec_l11Vote_g : FGood CX prims spec_l11Vote_t ∧ FEqn CX prims spec_l11Vote_f := fnG spec_l11JobAt_g.1 spec_l11Vote_f Try.f57 ⟨57, 4, 103, 1⟩ [] (fun _ _ => rfl) (fun _ _ _ => by kernel_rfl) trivial trivial (fun _ _ _ _ _ => by kernel_rfl)

/-! loop.example/g00244/spec.l11Crash -/
noncomputable def spec_l11Crash : Nat → T → T → T → T → T → T → T → (T → T → T → T → T → T → T → An) → (T → T → T → T → T → T → T → T → An) → An
  | 0, _, _, _, _, _, _, _, _, _ => .bad
  | m + 1, x0, x1, x2, x3, x4, x5, x6, k0, k1 =>
    cond (x1.int == 900)
    (k0 (T.b false) x0 x1 x2 (T.l x3.rows) (T.l x4.rows) x5)
    (jn (fun (j3 : T → An) =>
    cond (decide (x6.int < 0))
    (j3 (T.i 0))
    (j3 x6))
    (fun y0 => jn (fun (j2 : T → An) =>
    cond (decide (y0.int > (IntKind.i64.wrap ((x4.rows.length : Int) - x5.int))))
    (j2 (T.i (IntKind.i64.wrap ((x4.rows.length : Int) - x5.int))))
    (j2 y0))
    (fun y1 => cond (decide ((0 : Int) ≤ (IntKind.i64.wrap (x5.int + y1.int)) ∧ (IntKind.i64.wrap (x5.int + y1.int)) ≤ (x4.rows.length : Int)))
    (cond (decide ((0 : Int) ≤ 0 ∧ 0 ≤ (IntKind.i64.wrap (x5.int + y1.int))))
    (k1 (T.b true) (T.l x3.rows) x0 (T.i (IntKind.i64.wrap (x1.int + 1))) (T.i 0) (T.l []) (T.l (x4.rows.take (Int.toNat (IntKind.i64.wrap (x5.int + y1.int))))) (T.i ((x4.rows.take (Int.toNat (IntKind.i64.wrap (x5.int + y1.int)))).length : Int)))
    (.bad))
    (.bad))))
noncomputable def spec_l11Crash_f : Fs := ⟨59, [.bx [AI, AI, AI, .own [.sc (.int .i64), .sl [.sc (.int .i64), .sc (.str), .sc (.str)], .sc (.int .i64), .sl [.sc (.int .i64)]] [.F, .F, .F, .F] [], .own [.sc (.int .i64), .sc (.bool)] [.F, .F] [], AI], .one (AI)], fun m vs k => ap 7 (spec_l11Crash m) vs (lm 7 fun z => k (fRet ⟨[.one (RB)], [[none, none, none, none, none, none], [none]], [some [RI, RI, RI, .own (KR 1000 3) [.sc (.int .i64), .sl [.sc (.int .i64), .sc (.str), .sc (.str)], .sc (.int .i64), .sl [.sc (.int .i64)]] [.F, .F, .F, .F] [], .own (KR 1000 4) [.sc (.int .i64), .sc (.bool)] [.F, .F] [], RI], none]⟩ z)) (lm 8 fun z => k (fRet ⟨[.one (RB)], [[none, none, none, some ([.sc (.int .i64), .sl [.sc (.int .i64), .sc (.str), .sc (.str)], .sc (.int .i64), .sl [.sc (.int .i64)]], [.F, .F, .F, .F], []), none, none], [none]], [some [RI, RI, RI, .own (KR 1000 3) [.sc (.int .i64), .sl [.sc (.int .i64), .sc (.str), .sc (.str)], .sc (.int .i64), .sl [.sc (.int .i64)]] [.F, .F, .F, .F] [], .own (KR 1000 4) [.sc (.int .i64), .sc (.bool)] [.F, .F] [], RI], none]⟩ z))⟩
noncomputable def spec_l11Crash_t : List Fs := spec_l11Crash_f :: spec_l11Vote_t
theorem spec_l11Crash_g : FGood CX prims spec_l11Crash_t ∧ FEqn CX prims spec_l11Crash_f := fnG spec_l11Vote_g.1 spec_l11Crash_f Try.f59 ⟨59, 2, 71, 17⟩ [] (fun _ _ => rfl) (fun _ _ _ => by kernel_rfl) trivial trivial (fun _ _ _ _ _ => by kernel_rfl)

/-! loop.example/g00244/spec.l11Draw -/
noncomputable def spec_l11Draw_L0_0 (m : Nat) : Nat → T → T → T → T → T → T → T → T → T → T → T → T → T → T → T → T → T → T → T → (T → T → T → T → T → T → T → T → T → T → T → T → T → T → T → T → T → T → An) → An
  | 0, _, _, _, _, _, _, _, _, _, _, _, _, _, _, _, _, _, _, _, _ => .bad
  | n + 1, x0, x1, x2, x3, x4, x5, x6, x7, x8, x9, x10, x11, x12, x13, x14, x15, x16, x17, x18, k0 =>
    cond (decide (x3.int > 0))
    (jn (fun (j103 : T → T → T → T → T → T → T → T → T → An) =>
    spec_l1Below m (T.l x4.rows) x5 x6 (T.i 8)
    (fun y14 y15 y16 y17 => jn (fun (j75 : T → An) =>
    cond (y14.int == 0)
    (j75 (T.b (y14.int == 0)))
    (cond (y14.int == 1)
    (j75 (T.b (y14.int == 1)))
    (j75 (T.b (y14.int == 2)))))
    (fun y18 => cond y18.bool
    (spec_l7Draw m (T.l y15.rows) y16 y17
    (fun y19 y20 y21 y22 => spec_l11Begin m x11 x12 x13 (T.l x17.rows) (T.l x18.rows) x14 (T.l y19.rows)
    (fun y23 y24 y25 y26 y27 y28 y29 y30 => j103 (T.l y20.rows) y21 y22 y25 y26 y27 y30 (T.l y28.rows) (T.l y29.rows))))
    (jn (fun (j74 : T → An) =>
    cond (y14.int == 3)
    (j74 (T.b (y14.int == 3)))
    (cond (y14.int == 4)
    (j74 (T.b (y14.int == 4)))
    (j74 (T.b (y14.int == 5)))))
    (fun y31 => cond y31.bool
    (cond (decide ((x17.rows.length : Int) > 0))
    (spec_l1Below m (T.l y15.rows) y16 y17 (T.i (x17.rows.length : Int))
    (fun y32 y33 y34 y35 => cond (decide ((0 : Int) ≤ y32.int ∧ y32.int < (x17.rows.length : Int)))
    (cond (decide ((Int.toNat y32.int) < x17.rows.length))
    (spec_ShardsOf m (T.l ((x17.rows.getD (Int.toNat y32.int) []).getD 1 dflt).rows) x11
    (fun y36 => spec_l1Below m (T.l y33.rows) y34 y35 (T.i (y36.rows.length : Int))
    (fun y37 y38 y39 y40 => cond (decide ((0 : Int) ≤ y37.int ∧ y37.int < (y36.rows.length : Int)))
    (spec_l1Once m (T.l y38.rows) y39 y40 (T.i 5)
    (fun y41 y42 y43 y44 => spec_l11Vote m x11 x12 x13 (T.l x17.rows) (T.l x18.rows) x14 ((y36.rows.getD (Int.toNat y37.int) []).getD 0 dflt) ((x17.rows.getD (Int.toNat y32.int) []).getD 0 dflt) (T.b (!y41.bool))
    (fun y45 y46 y47 y48 y49 y50 => j103 (T.l y42.rows) y43 y44 y45 y46 y47 y50 (T.l y48.rows) (T.l y49.rows))))
    (.bad))))
    (.bad))
    (.bad)))
    (j103 (T.l y15.rows) y16 y17 x11 x12 x13 x14 (T.l x17.rows) (T.l x18.rows)))
    (cond (y14.int == 6)
    (j103 (T.l y15.rows) y16 y17 x11 x12 x13 (T.i (x18.rows.length : Int)) (T.l x17.rows) (T.l x18.rows))
    (spec_l1Once m (T.l y15.rows) y16 y17 (T.i 3)
    (fun y51 y52 y53 y54 => cond y51.bool
    (spec_l1Below m (T.l y52.rows) y53 y54 (T.i 3)
    (fun y55 y56 y57 y58 => spec_l11Crash m x11 x12 x13 (T.l x17.rows) (T.l x18.rows) x14 y55
    (fun y59 y60 y61 y62 y63 y64 y65 => j103 (T.l y56.rows) y57 y58 y60 y61 y62 y65 (T.l y63.rows) (T.l y64.rows))
    (fun y66 y67 y68 y69 y70 y71 y72 y73 => j103 (T.l y56.rows) y57 y58 y68 y69 y70 y73 (T.l y71.rows) (T.l y72.rows))))
    (j103 (T.l y52.rows) y53 y54 x11 x12 x13 x14 (T.l x17.rows) (T.l x18.rows))))))))))
    (fun y94 y95 y96 y97 y98 y99 y100 y101 y102 => spec_l11Draw_L0_0 m n (T.i (x0.int.toNat : Int)) (T.i (x1.int.toNat : Int)) (T.i (x2.int.toNat : Int)) (T.i (IntKind.i64.wrap (x3.int - 1))) y94 y95 y96 x7 x8 x9 x10 y97 y98 y99 y100 (T.l x15.rows) (T.l x16.rows) (T.l y101.rows) (T.l y102.rows) k0))
    (k0 (T.i (x0.int.toNat : Int)) (T.i (x1.int.toNat : Int)) (T.i (x2.int.toNat : Int)) x4 x5 x6 x7 x8 x9 x10 x11 x12 x13 x14 (T.l x15.rows) (T.l x16.rows) (T.l x17.rows) (T.l x18.rows))
noncomputable def spec_l11Draw : Nat → T → T → T → T → (T → T → T → T → T → T → T → T → T → An) → An
  | 0, _, _, _, _, _ => .bad
  | m + 1, x0, x1, x2, x3, k0 =>
    spec_l1Int m (T.l x0.rows) x1 x2 (T.l [[(T.i 3)], [(T.i 2)], [(T.i 1)]])
    (fun y0 y1 y2 y3 => spec_CoordNew m y0
    (fun y4 y5 y6 y7 y8 y9 => spec_l1Below m (T.l y1.rows) y2 y3 x3
    (fun y10 y11 y12 y13 => spec_l11Draw_L0_0 m m (T.i 0) (T.i 0) (T.i 0) y10 (T.l y11.rows) y12 y13 (T.i 0) (T.i 0) (T.i 0) (T.i 0) y4 y5 y6 y9 (T.l []) (T.l []) (T.l y7.rows) (T.l y8.rows)
    (fun y104 y105 y106 y107 y108 y109 y110 y111 y112 y113 y114 y115 y116 y117 y118 y119 y120 y121 => k0 y114 y115 y116 (T.l y120.rows) (T.l y121.rows) y117 (T.l y107.rows) y108 y109))))
noncomputable def spec_l11Draw_f : Fs := ⟨32, [.bx [.fz [.sc (.int .u8)] [], AI, AI], .one (AI)], fun m vs k => ap 4 (spec_l11Draw m) vs (lm 9 fun z => k (fRet ⟨[.agg [RI, RI, RI, .own (KR 0 3) [.sc (.int .i64), .sl [.sc (.int .i64), .sc (.str), .sc (.str)], .sc (.int .i64), .sl [.sc (.int .i64)]] [.F, .F, .F, .F] [], .own (KR 0 4) [.sc (.int .i64), .sc (.bool)] [.F, .F] [], RI]], [[none, none, none], [none]], [some [.fz [.sc (.int .u8)] [], RI, RI], none]⟩ z))⟩
noncomputable def spec_l11Draw_l : List Ls := [⟨[0, 1, 0, 1, 1], ⟨[(0, .ptr [0, 999999] 0 0 0), (4, EP 1), (5, EP 2), (6, .one (LI))], [([0, 999999], .box [LZ [.sc (.int .u8)], LI, LI]), ((KI 1), .box [LI, LI, LI, LA (KI 3) [.sc (.int .i64), .sl [.sc (.int .i64), .sc (.str), .sc (.str)], .sc (.int .i64), .sl [.sc (.int .i64)]], LA (KI 4) [.sc (.int .i64), .sc (.bool)], LI]), ((KI 2), .box [LI, LI, LI, LA (KI 5) [.sc (.int .i64), .sl [.sc (.int .i64), .sc (.str), .sc (.str)], .sc (.int .i64), .sl [.sc (.int .i64)]], LA (KI 6) [.sc (.int .i64), .sc (.bool)], LI]), ((KI 3), .row [.sc (.int .i64), .sl [.sc (.int .i64), .sc (.str), .sc (.str)], .sc (.int .i64), .sl [.sc (.int .i64)]] [.F, .F, .F, .F] []), ((KI 4), .row [.sc (.int .i64), .sc (.bool)] [.F, .F] []), ((KI 5), .row [.sc (.int .i64), .sl [.sc (.int .i64), .sc (.str), .sc (.str)], .sc (.int .i64), .sl [.sc (.int .i64)]] [.F, .F, .F, .F] []), ((KI 6), .row [.sc (.int .i64), .sc (.bool)] [.F, .F] [])]⟩, fun m n vs k => ap 19 (spec_l11Draw_L0_0 m n) vs (lm 18 fun z => k (.exit 0) (fPack ⟨[(0, .ptr [0, 999999] 0 0 0), (4, EP 1), (5, EP 2)], [([0, 999999], .box [LZ [.sc (.int .u8)], LI, LI]), ((KI 1), .box [LI, LI, LI, LA (KI 3) [.sc (.int .i64), .sl [.sc (.int .i64), .sc (.str), .sc (.str)], .sc (.int .i64), .sl [.sc (.int .i64)]], LA (KI 4) [.sc (.int .i64), .sc (.bool)], LI]), ((KI 2), .box [LI, LI, LI, LA (KI 5) [.sc (.int .i64), .sl [.sc (.int .i64), .sc (.str), .sc (.str)], .sc (.int .i64), .sl [.sc (.int .i64)]], LA (KI 6) [.sc (.int .i64), .sc (.bool)], LI]), ((KI 3), .row [.sc (.int .i64), .sl [.sc (.int .i64), .sc (.str), .sc (.str)], .sc (.int .i64), .sl [.sc (.int .i64)]] [.F, .F, .F, .F] []), ((KI 4), .row [.sc (.int .i64), .sc (.bool)] [.F, .F] []), ((KI 5), .row [.sc (.int .i64), .sl [.sc (.int .i64), .sc (.str), .sc (.str)], .sc (.int .i64), .sl [.sc (.int .i64)]] [.F, .F, .F, .F] []), ((KI 6), .row [.sc (.int .i64), .sc (.bool)] [.F, .F] [])]⟩ z))⟩]
noncomputable def spec_l11Draw_t : List Fs := spec_l11Draw_f :: spec_l11Crash_t
theorem spec_l11Draw_g : FGood CX prims spec_l11Draw_t ∧ FEqn CX prims spec_l11Draw_f := fnG spec_l11Crash_g.1 spec_l11Draw_f Try.f32 ⟨32, 2, 76, 17⟩ spec_l11Draw_l (fun _ _ => rfl) (fun _ _ _ => by kernel_rfl) ⟨fun _ _ _ => rfl, trivial⟩ ⟨fun _ _ _ _ _ _ => by kernel_rfl, trivial⟩ (fun _ _ _ _ _ => by kernel_rfl)

/-! loop.example/g00244/spec.l11Any -/
noncomputable def spec_l11Any : Nat → T → T → T → T → (T → T → T → T → T → T → T → T → T → An) → An
  | 0, _, _, _, _, _ => .bad
  | m + 1, x0, x1, x2, x3, k0 =>
    spec_l11Draw m (T.l x0.rows) x1 x2 x3
    (fun y0 y1 y2 y3 y4 y5 y6 y7 y8 => spec_l1Below m (T.l y6.rows) y7 y8 (T.i 12)
    (fun y9 y10 y11 y12 => cond (y9.int == 0)
    (spec_l1Int m (T.l y10.rows) y11 y12 (T.l [[(T.i 0)], [(T.i 1)], [(T.i 9)]])
    (fun y13 y14 y15 y16 => k0 y13 y1 y2 (T.l y3.rows) (T.l y4.rows) y5 (T.l y14.rows) y15 y16))
    (cond (y9.int == 1)
    (spec_l1Int m (T.l y10.rows) y11 y12 (T.l [[(T.i 0)], [(T.i 999)], [(T.i 1000)], [(T.i (-1))]])
    (fun y17 y18 y19 y20 => k0 y0 y1 y17 (T.l y3.rows) (T.l y4.rows) y5 (T.l y18.rows) y19 y20))
    (cond (y9.int == 2)
    (spec_l1Int m (T.l y10.rows) y11 y12 (T.l [[(T.i 0)], [(T.i 1)], [(T.i 900)], [(T.i 901)]])
    (fun y21 y22 y23 y24 => k0 y0 y21 y2 (T.l y3.rows) (T.l y4.rows) y5 (T.l y22.rows) y23 y24))
    (cond (y9.int == 3)
    (spec_l1Int m (T.l y10.rows) y11 y12 (T.l [[(T.i (-1))], [(T.i (IntKind.i64.wrap ((y4.rows.length : Int) + 1)))]])
    (fun y25 y26 y27 y28 => k0 y0 y1 y2 (T.l y3.rows) (T.l y4.rows) y25 (T.l y26.rows) y27 y28))
    (cond (y9.int == 4)
    (spec_l1Int m (T.l y10.rows) y11 y12 (T.l [[(T.i 999)], [(T.i 1000)], [(T.i 1001)], [(T.i 5000)]])
    (fun y29 y30 y31 y32 => cond (decide ((y4.rows.length + 1) * 2 ≤ maxRow))
    (k0 y0 y1 y2 (T.l y3.rows) (T.l (y4.rows ++ [[y29, (T.b false)]])) y5 (T.l y30.rows) y31 y32)
    (.bad)))
    (cond (y9.int == 5)
    (cond (decide ((y3.rows.length : Int) > 0))
    (spec_l1Below m (T.l y10.rows) y11 y12 (T.i 5)
    (fun y33 y34 y35 y36 => cond (decide ((0 : Int) ≤ 0 ∧ 0 < (y3.rows.length : Int)))
    (cond (decide (0 < y3.rows.length))
    (k0 y0 y1 y2 (T.l (y3.rows.set 0 ((y3.rows.getD 0 []).set 2 y33))) (T.l y4.rows) y5 (T.l y34.rows) y35 y36)
    (.bad))
    (.bad)))
    (k0 y0 y1 y2 (T.l y3.rows) (T.l y4.rows) y5 (T.l y10.rows) y11 y12))
    (k0 y0 y1 y2 (T.l y3.rows) (T.l y4.rows) y5 (T.l y10.rows) y11 y12))))))))
noncomputable def spec_l11Any_f : Fs := ⟨14, [.bx [.fz [.sc (.int .u8)] [], AI, AI], .one (AI)], fun m vs k => ap 4 (spec_l11Any m) vs (lm 9 fun z => k (fRet ⟨[.agg [RI, RI, RI, .own (KR 0 3) [.sc (.int .i64), .sl [.sc (.int .i64), .sc (.str), .sc (.str)], .sc (.int .i64), .sl [.sc (.int .i64)]] [.F, .F, .F, .F] [], .own (KR 0 4) [.sc (.int .i64), .sc (.bool)] [.F, .F] [], RI]], [[none, none, none], [none]], [some [.fz [.sc (.int .u8)] [], RI, RI], none]⟩ z))⟩
noncomputable def spec_l11Any_t : List Fs := spec_l11Any_f :: spec_l11Draw_t
theorem spec_l11Any_g : FGood CX prims spec_l11Any_t ∧ FEqn CX prims spec_l11Any_f := fnG spec_l11Draw_g.1 spec_l11Any_f Try.f14 ⟨14, 2, 63, 17⟩ [] (fun _ _ => rfl) (fun _ _ _ => by kernel_rfl) trivial trivial (fun _ _ _ _ _ => by kernel_rfl)

/-! loop.example/g00244/spec.l3KeyAny -/
noncomputable def spec_l3KeyAny : Nat → T → T → T → (T → T → T → T → An) → An
  | 0, _, _, _, _ => .bad
  | m + 1, x0, x1, x2, k0 =>
    spec_l1Once m (T.l x0.rows) x1 x2 (T.i 6)
    (fun y0 y1 y2 y3 => cond y0.bool
    (spec_l1Str m (T.l y1.rows) y2 y3 (T.l [[(T.s (⟨#[]⟩ : ByteArray))], [(T.s (⟨#[65]⟩ : ByteArray))], [(T.s (⟨#[97, 32, 98]⟩ : ByteArray))], [(T.s (⟨#[116, 104, 105, 114, 116, 101, 101, 110, 98, 121, 116, 101, 115]⟩ : ByteArray))], [(T.s (⟨#[116, 119, 101, 108, 118, 101, 98, 121, 116, 101, 115, 49]⟩ : ByteArray))]])
    (fun y4 y5 y6 y7 => k0 y4 (T.l y5.rows) y6 y7))
    (spec_l3Key m (T.l y1.rows) y2 y3
    (fun y8 y9 y10 y11 => k0 y8 (T.l y9.rows) y10 y11)))
noncomputable def spec_l3KeyAny_f : Fs := ⟨37, [.bx [.fz [.sc (.int .u8)] [], AI, AI]], fun m vs k => ap 3 (spec_l3KeyAny m) vs (lm 4 fun z => k (fRet ⟨[.one (RS)], [[none, none, none]], [some [.fz [.sc (.int .u8)] [], RI, RI]]⟩ z))⟩
noncomputable def spec_l3KeyAny_t : List Fs := spec_l3KeyAny_f :: spec_l11Any_t
theorem spec_l3KeyAny_g : FGood CX prims spec_l3KeyAny_t ∧ FEqn CX prims spec_l3KeyAny_f := fnG spec_l11Any_g.1 spec_l3KeyAny_f Try.f37 ⟨37, 1, 10, 5⟩ [] (fun _ _ => rfl) (fun _ _ _ => by kernel_rfl) trivial trivial (fun _ _ _ _ _ => by kernel_rfl)

/-! loop.example/g00244/spec.l7Any -/
noncomputable def spec_l7Any : Nat → T → T → T → (T → T → T → T → An) → An
  | 0, _, _, _, _ => .bad
  | m + 1, x0, x1, x2, k0 =>
    spec_l7Draw m (T.l x0.rows) x1 x2
    (fun y0 y1 y2 y3 => spec_l1Below m (T.l y1.rows) y2 y3 (T.i 10)
    (fun y4 y5 y6 y7 => cond (y4.int == 0)
    (spec_l7Op1 m (T.l y5.rows) y6 y7
    (fun y8 y9 y10 y11 y12 y13 => cond (decide ((y0.rows.length + 1) * 3 ≤ maxRow))
    (k0 (T.l (y0.rows ++ [[y8, y9, y10]])) (T.l y11.rows) y12 y13)
    (.bad)))
    (cond (y4.int == 1)
    (spec_l1Below m (T.l y5.rows) y6 y7 (T.i 5)
    (fun y14 y15 y16 y17 => cond (decide ((0 : Int) ≤ 0 ∧ 0 < (y0.rows.length : Int)))
    (cond (decide (0 < y0.rows.length))
    (k0 (T.l (y0.rows.set 0 ((y0.rows.getD 0 []).set 0 y14))) (T.l y15.rows) y16 y17)
    (.bad))
    (.bad)))
    (cond (y4.int == 2)
    (spec_l3KeyAny m (T.l y5.rows) y6 y7
    (fun y18 y19 y20 y21 => cond (decide ((0 : Int) ≤ 0 ∧ 0 < (y0.rows.length : Int)))
    (cond (decide (0 < y0.rows.length))
    (k0 (T.l (y0.rows.set 0 ((y0.rows.getD 0 []).set 1 y18))) (T.l y19.rows) y20 y21)
    (.bad))
    (.bad)))
    (cond (y4.int == 3)
    (spec_l1Below m (T.l y5.rows) y6 y7 (T.i 2)
    (fun y22 y23 y24 y25 => cond (decide (0 ≤ (IntKind.i64.wrap (20 + y22.int)) ∧ (IntKind.i64.wrap (20 + y22.int)) ≤ (IntKind.i64.wrap (20 + y22.int))))
    (cond (decide ((IntKind.i64.wrap (20 + y22.int)) * ((1 : Nat) : Int) ≤ (maxCells : Int)))
    (cond (decide ((0 : Int) ≤ 0 ∧ 0 < (y0.rows.length : Int)))
    (cond (decide (0 < y0.rows.length))
    (k0 (T.l (y0.rows.set 0 ((y0.rows.getD 0 []).set 2 (T.s (rowsBytes (List.replicate (Int.toNat (IntKind.i64.wrap (20 + y22.int))) [(T.i 0)])))))) (T.l y23.rows) y24 y25)
    (.bad))
    (.bad))
    (.bad))
    (.bad)))
    (cond (y4.int == 4)
    (cond (decide ((0 : Int) ≤ 0 ∧ 0 ≤ (y0.rows.length : Int)))
    (k0 (T.l (y0.rows.take 0)) (T.l y5.rows) y6 y7)
    (.bad))
    (k0 (T.l y0.rows) (T.l y5.rows) y6 y7)))))))
noncomputable def spec_l7Any_f : Fs := ⟨16, [.bx [.fz [.sc (.int .u8)] [], AI, AI]], fun m vs k => ap 3 (spec_l7Any m) vs (lm 4 fun z => k (fRet ⟨[.one (.own (KR 0 0) [.sc (.int .i64), .sc (.str), .sc (.str)] [.F, .F, .F] [])], [[none, none, none]], [some [.fz [.sc (.int .u8)] [], RI, RI]]⟩ z))⟩
noncomputable def spec_l7Any_t : List Fs := spec_l7Any_f :: spec_l3KeyAny_t
theorem spec_l7Any_g : FGood CX prims spec_l7Any_t ∧ FEqn CX prims spec_l7Any_f := fnG spec_l3KeyAny_g.1 spec_l7Any_f Try.f16 ⟨16, 1, 44, 5⟩ [] (fun _ _ => rfl) (fun _ _ _ => by kernel_rfl) trivial trivial (fun _ _ _ _ _ => by kernel_rfl)

/-! loop.example/g00244/spec.DrawBegin -/
noncomputable def spec_DrawBegin : Nat → T → (T → T → T → T → T → T → T → An) → An
  | 0, _, _ => .bad
  | m + 1, x0, k0 =>
    spec_l1New m (T.l x0.rows)
    (fun y0 y1 y2 => spec_l1Size m (T.l x0.rows) (T.i 16)
    (fun y3 => spec_l11Any m (T.l y0.rows) y1 y2 y3
    (fun y4 y5 y6 y7 y8 y9 y10 y11 y12 => spec_l7Any m (T.l y10.rows) y11 y12
    (fun y13 y14 y15 y16 => k0 y4 y5 y6 (T.l y7.rows) (T.l y8.rows) y9 (T.l y13.rows)))))
noncomputable def spec_DrawBegin_f : Fs := ⟨5, [.one (.fz [.sc (.int .u8)] [])], fun m vs k => ap 1 (spec_DrawBegin m) vs (lm 7 fun z => k (fRet ⟨[.agg [RI, RI, RI, .own (KR 0 3) [.sc (.int .i64), .sl [.sc (.int .i64), .sc (.str), .sc (.str)], .sc (.int .i64), .sl [.sc (.int .i64)]] [.F, .F, .F, .F] [], .own (KR 0 4) [.sc (.int .i64), .sc (.bool)] [.F, .F] [], RI], .one (.own (KR 1 0) [.sc (.int .i64), .sc (.str), .sc (.str)] [.F, .F, .F] [])], [[none]], [none]⟩ z))⟩
noncomputable def spec_DrawBegin_t : List Fs := spec_DrawBegin_f :: spec_l7Any_t
theorem spec_DrawBegin_g : FGood CX prims spec_DrawBegin_t ∧ FEqn CX prims spec_DrawBegin_f := fnG spec_l7Any_g.1 spec_DrawBegin_f Try.f5 ⟨5, 1, 13, 12⟩ [] (fun _ _ => rfl) (fun _ _ _ => by kernel_rfl) trivial trivial (fun _ _ _ _ _ => by kernel_rfl)

/-! loop.example/g00244/impl.copyCoord -/
noncomputable def impl_copyCoord_L0_1 (m : Nat) : Nat → T → T → T → T → T → T → T → T → T → T → T → T → T → T → T → T → T → T → T → T → T → T → T → T → (T → T → T → T → T → T → T → T → T → T → T → T → T → T → T → T → T → T → T → T → T → An) → (T → T → T → T → T → T → T → T → T → T → T → T → T → T → T → T → T → T → T → T → An) → An
  | 0, _, _, _, _, _, _, _, _, _, _, _, _, _, _, _, _, _, _, _, _, _, _, _, _, _, _ => .bad
  | n + 1, x0, x1, x2, x3, x4, x5, x6, x7, x8, x9, x10, x11, x12, x13, x14, x15, x16, x17, x18, x19, x20, x21, x22, x23, k0, k1 =>
    cond (decide (x5.int < x4.int))
    (cond (decide ((0 : Int) ≤ x5.int ∧ x5.int < (x3.rows.length : Int)))
    (slices_Clone___impl_Op_impl_Op_ m (T.l ((x3.rows.getD (Int.toNat x5.int) []).getD 1 dflt).rows)
    (fun y2 => slices_Clone___int_int_ m (T.l ((x3.rows.getD (Int.toNat x5.int) []).getD 3 dflt).rows)
    (fun y3 => cond (decide ((x23.rows.length + 1) * 4 ≤ maxRow))
    (impl_copyCoord_L0_1 m n (T.i (x0.int.toNat : Int)) (T.i (x1.int.toNat : Int)) (T.i (x2.int.toNat : Int)) x3 x4 (T.i (IntKind.i64.wrap (x5.int + 1))) x6 x7 x8 x9 x10 x11 x12 x13 x14 x15 x16 x17 x18 x19 x20 (T.l x21.rows) (T.l x22.rows) (T.l (x23.rows ++ [[((x3.rows.getD (Int.toNat x5.int) []).getD 0 dflt), (T.l y2.rows), ((x3.rows.getD (Int.toNat x5.int) []).getD 2 dflt), (T.l y3.rows)]])) k0 k1)
    (.bad))))
    (.bad))
    (k0 (T.i (x0.int.toNat : Int)) (T.i (x1.int.toNat : Int)) (T.i (x2.int.toNat : Int)) x6 x7 x8 x9 x10 x11 x12 x13 x14 x15 x16 x17 x18 x19 x20 (T.l x21.rows) (T.l x22.rows) (T.l x23.rows))
noncomputable def impl_copyCoord_L0_0 (m : Nat) : Nat → T → T → T → T → T → T → T → T → T → T → T → T → T → T → T → T → T → T → T → T → T → T → T → (T → T → T → T → T → T → T → T → T → T → T → T → T → T → T → T → T → T → T → T → T → An) → (T → T → T → T → T → T → T → T → T → T → T → T → T → T → T → T → T → T → T → T → An) → An
  | 0, _, _, _, _, _, _, _, _, _, _, _, _, _, _, _, _, _, _, _, _, _, _, _, _, _ => .bad
  | n + 1, x0, x1, x2, x3, x4, x5, x6, x7, x8, x9, x10, x11, x12, x13, x14, x15, x16, x17, x18, x19, x20, x21, x22, k0, k1 =>
    cond (decide (x5.int < x4.int))
    (cond (decide ((0 : Int) ≤ x5.int ∧ x5.int < (x3.rows.length : Int)))
    (slices_Clone___impl_Op_impl_Op_ m (T.l ((x3.rows.getD (Int.toNat x5.int) []).getD 1 dflt).rows)
    (fun y0 => slices_Clone___int_int_ m (T.l ((x3.rows.getD (Int.toNat x5.int) []).getD 3 dflt).rows)
    (fun y1 => impl_copyCoord_L0_1 m n (T.i (x0.int.toNat : Int)) (T.i (x1.int.toNat : Int)) (T.i (x2.int.toNat : Int)) x3 x4 (T.i (IntKind.i64.wrap (x5.int + 1))) x6 x7 x8 x9 x10 x11 x12 x13 x14 x15 x16 x17 x18 x19 x20 (T.l x21.rows) (T.l x22.rows) (T.l [[((x3.rows.getD (Int.toNat x5.int) []).getD 0 dflt), (T.l y0.rows), ((x3.rows.getD (Int.toNat x5.int) []).getD 2 dflt), (T.l y1.rows)]]) k0 k1)))
    (.bad))
    (k1 (T.i (x0.int.toNat : Int)) (T.i (x1.int.toNat : Int)) (T.i (x2.int.toNat : Int)) x6 x7 x8 x9 x10 x11 x12 x13 x14 x15 x16 x17 x18 x19 x20 (T.l x21.rows) (T.l x22.rows))
def impl_copyCoord_e0_0 : Pack := ⟨[(1, EP 0), (2, EP 1), (3, EP 2)], [((KI 0), .box [LI, LI, LI, LD [.sc (.int .i64), .sl [.sc (.int .i64), .sc (.str), .sc (.str)], .sc (.int .i64), .sl [.sc (.int .i64)]], LD [.sc (.int .i64), .sc (.bool)], LI]), ((KI 1), .box [LI, LI, LI, LA (KI 4) [.sc (.int .i64), .sl [.sc (.int .i64), .sc (.str), .sc (.str)], .sc (.int .i64), .sl [.sc (.int .i64)]], LA (KI 5) [.sc (.int .i64), .sc (.bool)], LI]), ((KI 2), .box [LI, LI, LI, LA (KI 6) [.sc (.int .i64), .sl [.sc (.int .i64), .sc (.str), .sc (.str)], .sc (.int .i64), .sl [.sc (.int .i64)]], LD [.sc (.int .i64), .sc (.bool)], LI]), ([4000000], .gone), ((KI 4), .row [.sc (.int .i64), .sl [.sc (.int .i64), .sc (.str), .sc (.str)], .sc (.int .i64), .sl [.sc (.int .i64)]] [.F, .O [.F, .F, .F], .F, .O [.F]] []), ((KI 5), .row [.sc (.int .i64), .sc (.bool)] [.F, .F] []), ((KI 6), .row [.sc (.int .i64), .sl [.sc (.int .i64), .sc (.str), .sc (.str)], .sc (.int .i64), .sl [.sc (.int .i64)]] [.F, .O [.F, .F, .F], .F, .O [.F]] [])]⟩
def impl_copyCoord_e0_1 : Pack := ⟨[(1, EP 0), (2, EP 1), (3, EP 2)], [((KI 0), .box [LI, LI, LI, LD [.sc (.int .i64), .sl [.sc (.int .i64), .sc (.str), .sc (.str)], .sc (.int .i64), .sl [.sc (.int .i64)]], LD [.sc (.int .i64), .sc (.bool)], LI]), ((KI 1), .box [LI, LI, LI, LA (KI 4) [.sc (.int .i64), .sl [.sc (.int .i64), .sc (.str), .sc (.str)], .sc (.int .i64), .sl [.sc (.int .i64)]], LA (KI 5) [.sc (.int .i64), .sc (.bool)], LI]), ((KI 2), .box [LI, LI, LI, LN [.sc (.int .i64), .sl [.sc (.int .i64), .sc (.str), .sc (.str)], .sc (.int .i64), .sl [.sc (.int .i64)]], LD [.sc (.int .i64), .sc (.bool)], LI]), ([4000000], .gone), ((KI 4), .row [.sc (.int .i64), .sl [.sc (.int .i64), .sc (.str), .sc (.str)], .sc (.int .i64), .sl [.sc (.int .i64)]] [.F, .O [.F, .F, .F], .F, .O [.F]] []), ((KI 5), .row [.sc (.int .i64), .sc (.bool)] [.F, .F] [])]⟩
noncomputable def impl_copyCoord : Nat → T → T → T → T → T → T → (T → T → T → T → T → T → An) → An
  | 0, _, _, _, _, _, _, _ => .bad
  | m + 1, x0, x1, x2, x3, x4, x5, k0 =>
    impl_copyCoord_L0_0 m m (T.i 0) (T.i 0) (T.i 0) (T.l x3.rows) (T.i (x3.rows.length : Int)) (T.i 0) x0 x1 x2 (T.l x3.rows) (T.l x4.rows) x5 (T.i 0) (T.i 0) (T.i 0) (T.i 0) x0 x1 x2 (T.l x4.rows) x5 (T.l []) (T.l [])
    (fun y4 y5 y6 y7 y8 y9 y10 y11 y12 y13 y14 y15 y16 y17 y18 y19 y20 y21 y22 y23 y24 => slices_Clone___impl_Choice_impl_Choice_ m (T.l y11.rows)
    (fun y45 => k0 y17 y18 y19 (T.l y24.rows) (T.l y45.rows) y21))
    (fun y25 y26 y27 y28 y29 y30 y31 y32 y33 y34 y35 y36 y37 y38 y39 y40 y41 y42 y43 y44 => slices_Clone___impl_Choice_impl_Choice_ m (T.l y32.rows)
    (fun y46 => k0 y38 y39 y40 (T.l []) (T.l y46.rows) y42))
noncomputable def impl_copyCoord_f : Fs := ⟨17, [.agg [AI, AI, AI, .dz [.sc (.int .i64), .sl [.sc (.int .i64), .sc (.str), .sc (.str)], .sc (.int .i64), .sl [.sc (.int .i64)]] [], .dz [.sc (.int .i64), .sc (.bool)] [], AI]], fun m vs k => ap 6 (impl_copyCoord m) vs (lm 6 fun z => k (fRet ⟨[.agg [RI, RI, RI, .own (KR 0 3) [.sc (.int .i64), .sl [.sc (.int .i64), .sc (.str), .sc (.str)], .sc (.int .i64), .sl [.sc (.int .i64)]] [.F, .O [.F, .F, .F], .F, .O [.F]] [], .own (KR 0 4) [.sc (.int .i64), .sc (.bool)] [.F, .F] [], RI]], [[none, none, none, none, none, none]], [none]⟩ z))⟩
noncomputable def impl_copyCoord_l : List Ls := [⟨[0, 1, 0, 1, 1, 1], ⟨[(1, EP 0), (2, EP 1), (3, EP 2), (9, .one (LD [.sc (.int .i64), .sl [.sc (.int .i64), .sc (.str), .sc (.str)], .sc (.int .i64), .sl [.sc (.int .i64)]])), (10, .one (LI)), (11, .one (LI))], [((KI 0), .box [LI, LI, LI, LD [.sc (.int .i64), .sl [.sc (.int .i64), .sc (.str), .sc (.str)], .sc (.int .i64), .sl [.sc (.int .i64)]], LD [.sc (.int .i64), .sc (.bool)], LI]), ((KI 1), .box [LI, LI, LI, LA (KI 4) [.sc (.int .i64), .sl [.sc (.int .i64), .sc (.str), .sc (.str)], .sc (.int .i64), .sl [.sc (.int .i64)]], LA (KI 5) [.sc (.int .i64), .sc (.bool)], LI]), ((KI 2), .box [LI, LI, LI, LA (KI 6) [.sc (.int .i64), .sl [.sc (.int .i64), .sc (.str), .sc (.str)], .sc (.int .i64), .sl [.sc (.int .i64)]], LD [.sc (.int .i64), .sc (.bool)], LI]), ([4000000], .gone), ((KI 4), .row [.sc (.int .i64), .sl [.sc (.int .i64), .sc (.str), .sc (.str)], .sc (.int .i64), .sl [.sc (.int .i64)]] [.F, .O [.F, .F, .F], .F, .O [.F]] []), ((KI 5), .row [.sc (.int .i64), .sc (.bool)] [.F, .F] []), ((KI 6), .row [.sc (.int .i64), .sl [.sc (.int .i64), .sc (.str), .sc (.str)], .sc (.int .i64), .sl [.sc (.int .i64)]] [.F, .O [.F, .F, .F], .F, .O [.F]] [])]⟩, fun m n vs k => ap 24 (impl_copyCoord_L0_1 m n) vs (lm 21 fun z => k (.exit 0) (fPack impl_copyCoord_e0_0 z)) (lm 20 fun z => k (.exit 0) (fPack impl_copyCoord_e0_1 z))⟩, ⟨[0, 1, 0, 1, 1, 1], ⟨[(1, EP 0), (2, EP 1), (3, EP 2), (9, .one (LD [.sc (.int .i64), .sl [.sc (.int .i64), .sc (.str), .sc (.str)], .sc (.int .i64), .sl [.sc (.int .i64)]])), (10, .one (LI)), (11, .one (LI))], [((KI 0), .box [LI, LI, LI, LD [.sc (.int .i64), .sl [.sc (.int .i64), .sc (.str), .sc (.str)], .sc (.int .i64), .sl [.sc (.int .i64)]], LD [.sc (.int .i64), .sc (.bool)], LI]), ((KI 1), .box [LI, LI, LI, LA (KI 4) [.sc (.int .i64), .sl [.sc (.int .i64), .sc (.str), .sc (.str)], .sc (.int .i64), .sl [.sc (.int .i64)]], LA (KI 5) [.sc (.int .i64), .sc (.bool)], LI]), ((KI 2), .box [LI, LI, LI, LN [.sc (.int .i64), .sl [.sc (.int .i64), .sc (.str), .sc (.str)], .sc (.int .i64), .sl [.sc (.int .i64)]], LD [.sc (.int .i64), .sc (.bool)], LI]), ([4000000], .gone), ((KI 4), .row [.sc (.int .i64), .sl [.sc (.int .i64), .sc (.str), .sc (.str)], .sc (.int .i64), .sl [.sc (.int .i64)]] [.F, .O [.F, .F, .F], .F, .O [.F]] []), ((KI 5), .row [.sc (.int .i64), .sc (.bool)] [.F, .F] [])]⟩, fun m n vs k => ap 23 (impl_copyCoord_L0_0 m n) vs (lm 21 fun z => k (.exit 0) (fPack impl_copyCoord_e0_0 z)) (lm 20 fun z => k (.exit 0) (fPack impl_copyCoord_e0_1 z))⟩]
noncomputable def impl_copyCoord_t : List Fs := impl_copyCoord_f :: spec_DrawBegin_t
theorem impl_copyCoord_g : FGood CX prims impl_copyCoord_t ∧ FEqn CX prims impl_copyCoord_f := fnG spec_DrawBegin_g.1 impl_copyCoord_f Try.f17 ⟨17, 1, 35, 4⟩ impl_copyCoord_l (fun _ _ => rfl) (fun _ _ _ => by kernel_rfl) ⟨fun _ _ _ => rfl, fun _ _ _ => rfl, trivial⟩ ⟨fun _ _ _ _ _ _ => by kernel_rfl, fun _ _ _ _ _ _ => by kernel_rfl, trivial⟩ (fun _ _ _ _ _ => by kernel_rfl)

/-! loop.example/g00244/impl.inRange -/
noncomputable def impl_inRange : Nat → T → T → T → (T → An) → An
  | 0, _, _, _, _ => .bad
  | m + 1, x0, x1, x2, k0 =>
    cond ((decide (x0.int ≥ x1.int)) == true)
    (k0 (T.b (decide (x0.int ≤ x2.int))))
    (k0 (T.b false))
noncomputable def impl_inRange_f : Fs := ⟨26, [.one (AI), .one (AI), .one (AI)], fun m vs k => ap 3 (impl_inRange m) vs (lm 1 fun z => k (fRet ⟨[.one (RB)], [[none], [none], [none]], [none, none, none]⟩ z))⟩
noncomputable def impl_inRange_t : List Fs := impl_inRange_f :: impl_copyCoord_t
theorem impl_inRange_g : FGood CX prims impl_inRange_t ∧ FEqn CX prims impl_inRange_f := fnG impl_copyCoord_g.1 impl_inRange_f Try.f26 ⟨26, 3, 15, 64⟩ [] (fun _ _ => rfl) (fun _ _ _ => by kernel_rfl) trivial trivial (fun _ _ _ _ _ => by kernel_rfl)

/-! (*loop.example/g00244/impl.Coord).nextTx -/
noncomputable def impl_Coord_nextTx : Nat → T → (T → An) → An
  | 0, _, _ => .bad
  | m + 1, x0, k0 =>
    k0 (T.i (IntKind.i64.wrap ((IntKind.i64.wrap ((((row1 x0).drop 1).getD 0 dflt).int * 1000)) + (((row1 x0).drop 2).getD 0 dflt).int)))
noncomputable def impl_Coord_nextTx_f : Fs := ⟨27, [.rpt [.sc (.int .i64), .sc (.int .i64), .sc (.int .i64), .sl [.sc (.int .i64), .sl [.sc (.int .i64), .sc (.str), .sc (.str)], .sc (.int .i64), .sl [.sc (.int .i64)]], .sl [.sc (.int .i64), .sc (.bool)], .sc (.int .i64)] []], fun m vs k => ap 1 (impl_Coord_nextTx m) vs (lm 1 fun z => k (fRet ⟨[.one (RI)], [[]], [none]⟩ z))⟩
noncomputable def impl_Coord_nextTx_t : List Fs := impl_Coord_nextTx_f :: impl_inRange_t
theorem impl_Coord_nextTx_g : FGood CX prims impl_Coord_nextTx_t ∧ FEqn CX prims impl_Coord_nextTx_f := fnG impl_inRange_g.1 impl_Coord_nextTx_f Try.f27 ⟨27, 1, 13, 4⟩ [] (fun _ _ => rfl) (fun _ _ _ => by kernel_rfl) trivial trivial (fun _ _ _ _ _ => by kernel_rfl)

/-! (*loop.example/g00244/impl.Coord).choiceAt$1 -/
noncomputable def impl_Coord_choiceAt_1 : Nat → T → T → T → (T → An) → An
  | 0, _, _, _, _ => .bad
  | m + 1, x0, x1, x2, k0 =>
    k0 (T.b (x0.int == ((row1 x2).getD 0 dflt).int))
noncomputable def impl_Coord_choiceAt_1_f : Fs := ⟨53, [.agg [AI, AB], .rpt [.sc (.int .i64)] []], fun m vs k => ap 3 (impl_Coord_choiceAt_1 m) vs (lm 1 fun z => k (fRet ⟨[.one (RB)], [[none, none], []], [none, none]⟩ z))⟩
noncomputable def impl_Coord_choiceAt_1_t : List Fs := impl_Coord_choiceAt_1_f :: impl_Coord_nextTx_t
theorem impl_Coord_choiceAt_1_g : FGood CX prims impl_Coord_choiceAt_1_t ∧ FEqn CX prims impl_Coord_choiceAt_1_f := fnG impl_Coord_nextTx_g.1 impl_Coord_choiceAt_1_f Try.f53 ⟨53, 2, 8, 8⟩ [] (fun _ _ => rfl) (fun _ _ _ => by kernel_rfl) trivial trivial (fun _ _ _ _ _ => by kernel_rfl)

/-! slices.IndexFunc[[]loop.example/g00244/impl.Choice,loop.example/g00244/impl.Choice] -/
noncomputable def slices_IndexFunc___impl_Choice_impl_Choice__L0_0 (m : Nat) : Nat → T → T → T → T → (T → An) → An → An
  | 0, _, _, _, _, _, _ => .bad
  | n + 1, x0, x1, x2, x3, k0, k1 =>
    cond (decide (x3.int < x2.int))
    (cond (decide ((0 : Int) ≤ x3.int ∧ x3.int < (x0.rows.length : Int)))
    (impl_Coord_choiceAt_1 m ((x0.rows.getD (Int.toNat x3.int) []).getD 0 dflt) ((x0.rows.getD (Int.toNat x3.int) []).getD 1 dflt) (T.l [(row1 x1)])
    (fun y0 => cond y0.bool
    (k0 x3)
    (slices_IndexFunc___impl_Choice_impl_Choice__L0_0 m n x0 (T.l [(row1 x1)]) x2 (T.i (IntKind.i64.wrap (x3.int + 1))) k0 k1)))
    (.bad))
    (k1 )
noncomputable def slices_IndexFunc___impl_Choice_impl_Choice_ : Nat → T → T → (T → An) → An
  | 0, _, _, _ => .bad
  | m + 1, x0, x1, k0 =>
    slices_IndexFunc___impl_Choice_impl_Choice__L0_0 m m (T.l x0.rows) (T.l [(row1 x1)]) (T.i (x0.rows.length : Int)) (T.i 0)
    (fun y1 => k0 y1)
    (k0 (T.i (-1)))
noncomputable def slices_IndexFunc___impl_Choice_impl_Choice__f : Fs := ⟨52, [.one (.dz [.sc (.int .i64), .sc (.bool)] []), .fn 53 [.rpt [.sc (.int .i64)] []]], fun m vs k => ap 2 (slices_IndexFunc___impl_Choice_impl_Choice_ m) vs (lm 1 fun z => k (fRet ⟨[.one (RI)], [[none], []], [none, none]⟩ z))⟩
noncomputable def slices_IndexFunc___impl_Choice_impl_Choice__l : List Ls := [⟨[0, 1, 0, 1], ⟨[(0, .one (LD [.sc (.int .i64), .sc (.bool)])), (1, .fn 53 [.rp [([4000000], 0)] [.sc (.int .i64)] []]), (7, .one (LI)), (8, .one (LI))], [([4000000], .gone)]⟩, fun m n vs k => ap 4 (slices_IndexFunc___impl_Choice_impl_Choice__L0_0 m n) vs (lm 1 fun z => k .ret (fPack ⟨[(4, .one (LI))], []⟩ z)) (lm 0 fun z => k (.exit 0) (fPack ⟨[], []⟩ z))⟩]
noncomputable def slices_IndexFunc___impl_Choice_impl_Choice__t : List Fs := slices_IndexFunc___impl_Choice_impl_Choice__f :: impl_Coord_choiceAt_1_t
theorem slices_IndexFunc___impl_Choice_impl_Choice__g : FGood CX prims slices_IndexFunc___impl_Choice_impl_Choice__t ∧ FEqn CX prims slices_IndexFunc___impl_Choice_impl_Choice__f := fnG impl_Coord_choiceAt_1_g.1 slices_IndexFunc___impl_Choice_impl_Choice__f Try.f52 ⟨52, 2, 19, 16⟩ slices_IndexFunc___impl_Choice_impl_Choice__l (fun _ _ => rfl) (fun _ _ _ => by kernel_rfl) ⟨fun _ _ _ => rfl, trivial⟩ ⟨fun _ _ _ _ _ _ => by kernel_rfl, trivial⟩ (fun _ _ _ _ _ => by kernel_rfl)

/-! (*loop.example/g00244/impl.Coord).choiceAt -/
noncomputable def impl_Coord_choiceAt : Nat → T → T → (T → An) → An
  | 0, _, _, _ => .bad
  | m + 1, x0, x1, k0 =>
    slices_IndexFunc___impl_Choice_impl_Choice_ m (T.l (((row1 x0).drop 4).getD 0 dflt).rows) (T.l [[x1]])
    (fun y0 => k0 y0)
noncomputable def impl_Coord_choiceAt_f : Fs := ⟨28, [.rpt [.sc (.int .i64), .sc (.int .i64), .sc (.int .i64), .sl [.sc (.int .i64), .sl [.sc (.int .i64), .sc (.str), .sc (.str)], .sc (.int .i64), .sl [.sc (.int .i64)]], .sl [.sc (.int .i64), .sc (.bool)], .sc (.int .i64)] [], .one (AI)], fun m vs k => ap 2 (impl_Coord_choiceAt m) vs (lm 1 fun z => k (fRet ⟨[.one (RI)], [[], [none]], [none, none]⟩ z))⟩
noncomputable def impl_Coord_choiceAt_t : List Fs := impl_Coord_choiceAt_f :: slices_IndexFunc___impl_Choice_impl_Choice__t
theorem impl_Coord_choiceAt_g : FGood CX prims impl_Coord_choiceAt_t ∧ FEqn CX prims impl_Coord_choiceAt_f := fnG slices_IndexFunc___impl_Choice_impl_Choice__g.1 impl_Coord_choiceAt_f Try.f28 ⟨28, 2, 11, 16⟩ [] (fun _ _ => rfl) (fun _ _ _ => by kernel_rfl) trivial trivial (fun _ _ _ _ _ => by kernel_rfl)

/-! loop.example/g00244/impl.isKeyByte -/
noncomputable def impl_isKeyByte : Nat → T → (T → An) → An
  | 0, _, _ => .bad
  | m + 1, x0, k0 =>
    cond ((decide (x0.int ≥ 97)) == true)
    (cond ((decide (x0.int ≤ 122)) == false)
    (cond ((decide (x0.int ≥ 48)) == true)
    (k0 (T.b (decide (x0.int ≤ 57))))
    (k0 (T.b false)))
    (k0 (T.b true)))
    (cond ((decide (x0.int ≥ 48)) == true)
    (k0 (T.b (decide (x0.int ≤ 57))))
    (k0 (T.b false)))
noncomputable def impl_isKeyByte_f : Fs := ⟨94, [.one (.sc (.int .u8) (.l []))], fun m vs k => ap 1 (impl_isKeyByte m) vs (lm 1 fun z => k (fRet ⟨[.one (RB)], [[none]], [none]⟩ z))⟩
noncomputable def impl_isKeyByte_t : List Fs := impl_isKeyByte_f :: impl_Coord_choiceAt_t
theorem impl_isKeyByte_g : FGood CX prims impl_isKeyByte_t ∧ FEqn CX prims impl_isKeyByte_f := fnG impl_Coord_choiceAt_g.1 impl_isKeyByte_f Try.f94 ⟨94, 1, 17, 4⟩ [] (fun _ _ => rfl) (fun _ _ _ => by kernel_rfl) trivial trivial (fun _ _ _ _ _ => by kernel_rfl)

/-! loop.example/g00244/impl.isWord -/
noncomputable def impl_isWord_L0_0 (m : Nat) : Nat → T → T → (T → An) → An → An
  | 0, _, _, _, _ => .bad
  | n + 1, x0, x1, k0, k1 =>
    cond (decide (x1.int < (x0.str.size : Int)))
    (cond (decide ((0 : Int) ≤ x1.int ∧ x1.int < (x0.str.size : Int)))
    (impl_isKeyByte m (T.i ((x0.str.data.toList.getD (Int.toNat x1.int) 0).toNat : Int))
    (fun y0 => cond (!y0.bool)
    (k0 (T.b false))
    (impl_isWord_L0_0 m n x0 (T.i (IntKind.i64.wrap (x1.int + 1))) k0 k1)))
    (.bad))
    (k1 )
noncomputable def impl_isWord : Nat → T → (T → An) → An
  | 0, _, _ => .bad
  | m + 1, x0, k0 =>
    impl_isWord_L0_0 m m x0 (T.i 0)
    (fun y1 => k0 y1)
    (k0 (T.b true))
noncomputable def impl_isWord_f : Fs := ⟨92, [.one (AS)], fun m vs k => ap 1 (impl_isWord m) vs (lm 1 fun z => k (fRet ⟨[.one (RB)], [[none]], [none]⟩ z))⟩
noncomputable def impl_isWord_l : List Ls := [⟨[0, 1, 0, 1], ⟨[(0, .one (LS)), (3, .one (LI))], []⟩, fun m n vs k => ap 2 (impl_isWord_L0_0 m n) vs (lm 1 fun z => k .ret (fPack ⟨[(2, .one (LB))], []⟩ z)) (lm 0 fun z => k (.exit 0) (fPack ⟨[], []⟩ z))⟩]
noncomputable def impl_isWord_t : List Fs := impl_isWord_f :: impl_isKeyByte_t
theorem impl_isWord_g : FGood CX prims impl_isWord_t ∧ FEqn CX prims impl_isWord_f := fnG impl_isKeyByte_g.1 impl_isWord_f Try.f92 ⟨92, 1, 15, 4⟩ impl_isWord_l (fun _ _ => rfl) (fun _ _ _ => by kernel_rfl) ⟨fun _ _ _ => rfl, trivial⟩ ⟨fun _ _ _ _ _ _ => by kernel_rfl, trivial⟩ (fun _ _ _ _ _ => by kernel_rfl)

/-! loop.example/g00244/impl.KeyOk -/
noncomputable def impl_KeyOk : Nat → T → (T → An) → An
  | 0, _, _ => .bad
  | m + 1, x0, k0 =>
    impl_inRange m (T.i (x0.str.size : Int)) (T.i 1) (T.i 12)
    (fun y0 => cond (y0.bool == true)
    (impl_isWord m x0
    (fun y1 => k0 y1))
    (k0 (T.b false)))
noncomputable def impl_KeyOk_f : Fs := ⟨83, [.one (AS)], fun m vs k => ap 1 (impl_KeyOk m) vs (lm 1 fun z => k (fRet ⟨[.one (RB)], [[none]], [none]⟩ z))⟩
noncomputable def impl_KeyOk_t : List Fs := impl_KeyOk_f :: impl_isWord_t
theorem impl_KeyOk_g : FGood CX prims impl_KeyOk_t ∧ FEqn CX prims impl_KeyOk_f := fnG impl_isWord_g.1 impl_KeyOk_f Try.f83 ⟨83, 1, 10, 4⟩ [] (fun _ _ => rfl) (fun _ _ _ => by kernel_rfl) trivial trivial (fun _ _ _ _ _ => by kernel_rfl)

/-! loop.example/g00244/impl.opOk -/
noncomputable def impl_opOk : Nat → T → T → T → (T → An) → An
  | 0, _, _, _, _ => .bad
  | m + 1, x0, x1, x2, k0 =>
    jn (fun (j5 : T → An) =>
    cond (x0.int == 1)
    (j5 (T.b (x0.int == 1)))
    (j5 (T.b (x0.int == 3))))
    (fun y0 => cond y0.bool
    (impl_KeyOk m x1
    (fun y1 => cond (y1.bool == true)
    (k0 (T.b (decide ((x2.str.size : Int) ≤ 20))))
    (k0 (T.b false))))
    (cond (x0.int == 2)
    (impl_KeyOk m x1
    (fun y3 => cond (y3.bool == true)
    (k0 (T.b (x2.str.toList == (⟨#[]⟩ : ByteArray).toList)))
    (k0 (T.b false))))
    (k0 (T.b false))))
noncomputable def impl_opOk_f : Fs := ⟨64, [.agg [AI, AS, AS]], fun m vs k => ap 3 (impl_opOk m) vs (lm 1 fun z => k (fRet ⟨[.one (RB)], [[none, none, none]], [none]⟩ z))⟩
noncomputable def impl_opOk_t : List Fs := impl_opOk_f :: impl_KeyOk_t
theorem impl_opOk_g : FGood CX prims impl_opOk_t ∧ FEqn CX prims impl_opOk_f := fnG impl_KeyOk_g.1 impl_opOk_f Try.f64 ⟨64, 1, 27, 4⟩ [] (fun _ _ => rfl) (fun _ _ _ => by kernel_rfl) trivial trivial (fun _ _ _ _ _ => by kernel_rfl)

/-! loop.example/g00244/impl.OpsOk -/
noncomputable def impl_OpsOk_L0_0 (m : Nat) : Nat → T → T → T → T → (T → An) → (T → An) → An
  | 0, _, _, _, _, _, _ => .bad
  | n + 1, x0, x1, x2, x3, k0, k1 =>
    cond (decide (x3.int < x2.int))
    (cond (decide ((0 : Int) ≤ x3.int ∧ x3.int < (x1.rows.length : Int)))
    (impl_opOk m ((x1.rows.getD (Int.toNat x3.int) []).getD 0 dflt) ((x1.rows.getD (Int.toNat x3.int) []).getD 1 dflt) ((x1.rows.getD (Int.toNat x3.int) []).getD 2 dflt)
    (fun y0 => cond ((!y0.bool) == false)
    (cond ((decide (x3.int > 0)) == true)
    (cond (decide ((0 : Int) ≤ (IntKind.i64.wrap (x3.int - 1)) ∧ (IntKind.i64.wrap (x3.int - 1)) < (x0.rows.length : Int)))
    (cond ((Op.bytesLess ((x1.rows.getD (Int.toNat x3.int) []).getD 1 dflt).str.toList (((x0.rows.getD (Int.toNat (IntKind.i64.wrap (x3.int - 1))) []).drop 1).getD 0 dflt).str.toList) || (((x1.rows.getD (Int.toNat x3.int) []).getD 1 dflt).str.toList == (((x0.rows.getD (Int.toNat (IntKind.i64.wrap (x3.int - 1))) []).drop 1).getD 0 dflt).str.toList))
    (k0 (T.b false))
    (impl_OpsOk_L0_0 m n x0 x1 x2 (T.i (IntKind.i64.wrap (x3.int + 1))) k0 k1))
    (.bad))
    (impl_OpsOk_L0_0 m n x0 x1 x2 (T.i (IntKind.i64.wrap (x3.int + 1))) k0 k1))
    (k0 (T.b false))))
    (.bad))
    (k1 x0)
noncomputable def impl_OpsOk : Nat → T → (T → An) → An
  | 0, _, _ => .bad
  | m + 1, x0, k0 =>
    impl_OpsOk_L0_0 m m (T.l x0.rows) (T.l x0.rows) (T.i (x0.rows.length : Int)) (T.i 0)
    (fun y2 => k0 y2)
    (fun y3 => impl_inRange m (T.i (y3.rows.length : Int)) (T.i 1) (T.i 8)
    (fun y4 => k0 y4))
noncomputable def impl_OpsOk_f : Fs := ⟨41, [.one (.dz [.sc (.int .i64), .sc (.str), .sc (.str)] [])], fun m vs k => ap 1 (impl_OpsOk m) vs (lm 1 fun z => k (fRet ⟨[.one (RB)], [[none]], [none]⟩ z))⟩
noncomputable def impl_OpsOk_l : List Ls := [⟨[0, 1, 0, 1], ⟨[(0, .one (LD [.sc (.int .i64), .sc (.str), .sc (.str)])), (5, .one (LD [.sc (.int .i64), .sc (.str), .sc (.str)])), (6, .one (LI)), (7, .one (LI))], [([4000000], .gone)]⟩, fun m n vs k => ap 4 (impl_OpsOk_L0_0 m n) vs (lm 1 fun z => k .ret (fPack ⟨[(2, .one (LB))], []⟩ z)) (lm 1 fun z => k (.exit 0) (fPack ⟨[(0, .one (LD [.sc (.int .i64), .sc (.str), .sc (.str)]))], [([4000000], .gone)]⟩ z))⟩]
noncomputable def impl_OpsOk_t : List Fs := impl_OpsOk_f :: impl_opOk_t
theorem impl_OpsOk_g : FGood CX prims impl_OpsOk_t ∧ FEqn CX prims impl_OpsOk_f := fnG impl_opOk_g.1 impl_OpsOk_f Try.f41 ⟨41, 1, 34, 4⟩ impl_OpsOk_l (fun _ _ => rfl) (fun _ _ _ => by kernel_rfl) ⟨fun _ _ _ => rfl, trivial⟩ ⟨fun _ _ _ _ _ _ => by kernel_rfl, trivial⟩ (fun _ _ _ _ _ => by kernel_rfl)

/-! loop.example/g00244/impl.Hash -/
noncomputable def impl_Hash_L0_0 (m : Nat) : Nat → T → T → T → (T → An) → An
  | 0, _, _, _, _ => .bad
  | n + 1, x0, x1, x2, k0 =>
    cond (decide (x2.int < (x0.str.size : Int)))
    (cond (decide ((0 : Int) ≤ x2.int ∧ x2.int < (x0.str.size : Int)))
    (impl_Hash_L0_0 m n x0 (T.i (IntKind.u32.wrap ((bvBack .u32 (BitVec.ofInt IntKind.u32.bits x1.int ^^^ BitVec.ofInt IntKind.u32.bits (IntKind.u32.wrap ((x0.str.data.toList.getD (Int.toNat x2.int) 0).toNat : Int)))).int * 16777619))) (T.i (IntKind.i64.wrap (x2.int + 1))) k0)
    (.bad))
    (k0 x1)
noncomputable def impl_Hash : Nat → T → (T → An) → An
  | 0, _, _ => .bad
  | m + 1, x0, k0 =>
    impl_Hash_L0_0 m m x0 (T.i 2166136261) (T.i 0)
    (fun y0 => k0 (T.i (IntKind.i64.wrap y0.int)))
noncomputable def impl_Hash_f : Fs := ⟨49, [.one (AS)], fun m vs k => ap 1 (impl_Hash m) vs (lm 1 fun z => k (fRet ⟨[.one (RI)], [[none]], [none]⟩ z))⟩
noncomputable def impl_Hash_l : List Ls := [⟨[0, 1, 0, 1, 1], ⟨[(0, .one (LS)), (3, .one (⟨.sc, .sc (.int .u32), .l []⟩)), (4, .one (LI))], []⟩, fun m n vs k => ap 3 (impl_Hash_L0_0 m n) vs (lm 1 fun z => k (.exit 0) (fPack ⟨[(3, .one (⟨.sc, .sc (.int .u32), .l []⟩))], []⟩ z))⟩]
noncomputable def impl_Hash_t : List Fs := impl_Hash_f :: impl_OpsOk_t
theorem impl_Hash_g : FGood CX prims impl_Hash_t ∧ FEqn CX prims impl_Hash_f := fnG impl_OpsOk_g.1 impl_Hash_f Try.f49 ⟨49, 1, 21, 4⟩ impl_Hash_l (fun _ _ => rfl) (fun _ _ _ => by kernel_rfl) ⟨fun _ _ _ => rfl, trivial⟩ ⟨fun _ _ _ _ _ _ => by kernel_rfl, trivial⟩ (fun _ _ _ _ _ => by kernel_rfl)

/-! loop.example/g00244/impl.ShardOf -/
noncomputable def impl_ShardOf : Nat → T → T → (T → An) → An
  | 0, _, _, _ => .bad
  | m + 1, x0, x1, k0 =>
    cond (decide (x1.int < 1))
    (k0 (T.i 0))
    (impl_Hash m x0
    (fun y0 => cond (!decide (x1.int = 0))
    (k0 (T.i (Int.tmod y0.int x1.int)))
    (.bad)))
noncomputable def impl_ShardOf_f : Fs := ⟨22, [.one (AS), .one (AI)], fun m vs k => ap 2 (impl_ShardOf m) vs (lm 1 fun z => k (fRet ⟨[.one (RI)], [[none], [none]], [none, none]⟩ z))⟩
noncomputable def impl_ShardOf_t : List Fs := impl_ShardOf_f :: impl_Hash_t
theorem impl_ShardOf_g : FGood CX prims impl_ShardOf_t ∧ FEqn CX prims impl_ShardOf_f := fnG impl_Hash_g.1 impl_ShardOf_f Try.f22 ⟨22, 2, 11, 16⟩ [] (fun _ _ => rfl) (fun _ _ _ => by kernel_rfl) trivial trivial (fun _ _ _ _ _ => by kernel_rfl)

/-! slices.Clip[[]int,int] -/
noncomputable def slices_Clip___int_int_ : Nat → T → (T → An) → An
  | 0, _, _ => .bad
  | m + 1, x0, k0 =>
    cond (decide ((0 : Int) ≤ (x0.rows.length : Int) ∧ (x0.rows.length : Int) ≤ (x0.rows.length : Int) ∧ (x0.rows.length : Int) ≤ (x0.rows.length : Int)))
    (cond (decide ((0 : Int) ≤ 0 ∧ 0 ≤ (x0.rows.length : Int)))
    (k0 (T.l (x0.rows.take (Int.toNat (x0.rows.length : Int)))))
    (.bad))
    (.bad)
noncomputable def slices_Clip___int_int__f : Fs := ⟨24, [.one (.fz [.sc (.int .i64)] [])], fun m vs k => ap 1 (slices_Clip___int_int_ m) vs (lm 1 fun z => k (fRet ⟨[.one (.fz [.sc (.int .i64)] [])], [[none]], [none]⟩ z))⟩
noncomputable def slices_Clip___int_int__t : List Fs := slices_Clip___int_int__f :: impl_ShardOf_t
theorem slices_Clip___int_int__g : FGood CX prims slices_Clip___int_int__t ∧ FEqn CX prims slices_Clip___int_int__f := fnG impl_ShardOf_g.1 slices_Clip___int_int__f Try.f24 ⟨24, 1, 9, 4⟩ [] (fun _ _ => rfl) (fun _ _ _ => by kernel_rfl) trivial trivial (fun _ _ _ _ _ => by kernel_rfl)

/-! loop.example/g00244/impl.ShardsOf -/
noncomputable def impl_ShardsOf_L0_0 (m : Nat) : Nat → T → T → T → T → T → (T → An) → An
  | 0, _, _, _, _, _, _ => .bad
  | n + 1, x0, x1, x2, x3, x4, k0 =>
    cond (decide (x3.int < x2.int))
    (cond (decide ((0 : Int) ≤ x3.int ∧ x3.int < (x1.rows.length : Int)))
    (impl_ShardOf m ((x1.rows.getD (Int.toNat x3.int) []).getD 1 dflt) x0
    (fun y0 => cond (decide ((x4.rows.length + 1) * 1 ≤ maxRow))
    (impl_ShardsOf_L0_0 m n x0 x1 x2 (T.i (IntKind.i64.wrap (x3.int + 1))) (T.l (x4.rows ++ [[y0]])) k0)
    (.bad)))
    (.bad))
    (k0 (T.l x4.rows))
noncomputable def impl_ShardsOf : Nat → T → T → (T → An) → An
  | 0, _, _, _ => .bad
  | m + 1, x0, x1, k0 =>
    impl_ShardsOf_L0_0 m m x1 (T.l x0.rows) (T.i (x0.rows.length : Int)) (T.i 0) (T.l [])
    (fun y1 => slices_Sort m (T.l y1.rows)
    (fun y2 => slices_Compact m (T.l y2.rows)
    (fun y3 => slices_Clip___int_int_ m (T.l y3.rows)
    (fun y4 => k0 (T.l y4.rows)))))
noncomputable def impl_ShardsOf_f : Fs := ⟨8, [.one (.dz [.sc (.int .i64), .sc (.str), .sc (.str)] []), .one (AI)], fun m vs k => ap 2 (impl_ShardsOf m) vs (lm 1 fun z => k (fRet ⟨[.one (.fz [.sc (.int .i64)] [])], [[none], [none]], [none, none]⟩ z))⟩
noncomputable def impl_ShardsOf_l : List Ls := [⟨[0, 1, 0, 1, 1], ⟨[(1, .one (LI)), (5, .one (LA (KI 0) [.sc (.int .i64)])), (8, .one (LD [.sc (.int .i64), .sc (.str), .sc (.str)])), (9, .one (LI)), (10, .one (LI))], [((KI 0), .row [.sc (.int .i64)] [.F] []), ([4000000], .gone)]⟩, fun m n vs k => ap 5 (impl_ShardsOf_L0_0 m n) vs (lm 1 fun z => k (.exit 0) (fPack ⟨[(5, .one (LA (KI 0) [.sc (.int .i64)]))], [((KI 0), .row [.sc (.int .i64)] [.F] [])]⟩ z))⟩]
noncomputable def impl_ShardsOf_t : List Fs := impl_ShardsOf_f :: slices_Clip___int_int__t
theorem impl_ShardsOf_g : FGood CX prims impl_ShardsOf_t ∧ FEqn CX prims impl_ShardsOf_f := fnG slices_Clip___int_int__g.1 impl_ShardsOf_f Try.f8 ⟨8, 2, 27, 16⟩ impl_ShardsOf_l (fun _ _ => rfl) (fun _ _ _ => by kernel_rfl) ⟨fun _ _ _ => rfl, trivial⟩ ⟨fun _ _ _ _ _ _ => by kernel_rfl, trivial⟩ (fun _ _ _ _ _ => by kernel_rfl)

/-! slices.Index[[]int,int] -/
noncomputable def slices_Index___int_int__L0_0 (m : Nat) : Nat → T → T → T → T → (T → An) → An → An
  | 0, _, _, _, _, _, _ => .bad
  | n + 1, x0, x1, x2, x3, k0, k1 =>
    cond (decide (x3.int < x2.int))
    (cond (decide ((0 : Int) ≤ x3.int ∧ x3.int < (x0.rows.length : Int)))
    (cond (x1.int == ((x0.rows.getD (Int.toNat x3.int) []).getD 0 dflt).int)
    (k0 x3)
    (slices_Index___int_int__L0_0 m n x0 x1 x2 (T.i (IntKind.i64.wrap (x3.int + 1))) k0 k1))
    (.bad))
    (k1 )
noncomputable def slices_Index___int_int_ : Nat → T → T → (T → An) → An
  | 0, _, _, _ => .bad
  | m + 1, x0, x1, k0 =>
    slices_Index___int_int__L0_0 m m (T.l x0.rows) x1 (T.i (x0.rows.length : Int)) (T.i 0)
    (fun y0 => k0 y0)
    (k0 (T.i (-1)))
noncomputable def slices_Index___int_int__f : Fs := ⟨79, [.one (.dz [.sc (.int .i64)] []), .one (AI)], fun m vs k => ap 2 (slices_Index___int_int_ m) vs (lm 1 fun z => k (fRet ⟨[.one (RI)], [[none], [none]], [none, none]⟩ z))⟩
noncomputable def slices_Index___int_int__l : List Ls := [⟨[0, 1, 0, 1], ⟨[(0, .one (LD [.sc (.int .i64)])), (1, .one (LI)), (7, .one (LI)), (8, .one (LI))], [([4000000], .gone)]⟩, fun m n vs k => ap 4 (slices_Index___int_int__L0_0 m n) vs (lm 1 fun z => k .ret (fPack ⟨[(4, .one (LI))], []⟩ z)) (lm 0 fun z => k (.exit 0) (fPack ⟨[], []⟩ z))⟩]
noncomputable def slices_Index___int_int__t : List Fs := slices_Index___int_int__f :: impl_ShardsOf_t
theorem slices_Index___int_int__g : FGood CX prims slices_Index___int_int__t ∧ FEqn CX prims slices_Index___int_int__f := fnG impl_ShardsOf_g.1 slices_Index___int_int__f Try.f79 ⟨79, 2, 19, 16⟩ slices_Index___int_int__l (fun _ _ => rfl) (fun _ _ _ => by kernel_rfl) ⟨fun _ _ _ => rfl, trivial⟩ ⟨fun _ _ _ _ _ _ => by kernel_rfl, trivial⟩ (fun _ _ _ _ _ => by kernel_rfl)

/-! slices.Contains[[]int,int] -/
noncomputable def slices_Contains___int_int_ : Nat → T → T → (T → An) → An
  | 0, _, _, _ => .bad
  | m + 1, x0, x1, k0 =>
    slices_Index___int_int_ m (T.l x0.rows) x1
    (fun y0 => k0 (T.b (decide (y0.int ≥ 0))))
noncomputable def slices_Contains___int_int__f : Fs := ⟨54, [.one (.dz [.sc (.int .i64)] []), .one (AI)], fun m vs k => ap 2 (slices_Contains___int_int_ m) vs (lm 1 fun z => k (fRet ⟨[.one (RB)], [[none], [none]], [none, none]⟩ z))⟩
noncomputable def slices_Contains___int_int__t : List Fs := slices_Contains___int_int__f :: slices_Index___int_int__t
theorem slices_Contains___int_int__g : FGood CX prims slices_Contains___int_int__t ∧ FEqn CX prims slices_Contains___int_int__f := fnG slices_Index___int_int__g.1 slices_Contains___int_int__f Try.f54 ⟨54, 2, 9, 16⟩ [] (fun _ _ => rfl) (fun _ _ _ => by kernel_rfl) trivial trivial (fun _ _ _ _ _ => by kernel_rfl)

/-! (*loop.example/g00244/impl.Coord).jobOk -/
noncomputable def impl_Coord_jobOk_L0_0 (m : Nat) : Nat → T → T → T → T → T → T → T → T → T → T → (T → An) → (T → T → T → T → T → T → An) → An
  | 0, _, _, _, _, _, _, _, _, _, _, _, _ => .bad
  | n + 1, x0, x1, x2, x3, x4, x5, x6, x7, x8, x9, k0, k1 =>
    cond (decide (x5.int < x4.int))
    ((fun (j10 : T → An) =>
    cond (decide ((0 : Int) ≤ x5.int ∧ x5.int < (x3.rows.length : Int)))
    (slices_Contains___int_int_ m (T.l x2.rows) ((x3.rows.getD (Int.toNat x5.int) []).getD 0 dflt)
    (fun y6 => cond ((!y6.bool) == false)
    (cond ((decide (x5.int > 0)) == true)
    (cond (decide ((0 : Int) ≤ (IntKind.i64.wrap (x5.int - 1)) ∧ (IntKind.i64.wrap (x5.int - 1)) < (x9.rows.length : Int)))
    (cond (decide (((x3.rows.getD (Int.toNat x5.int) []).getD 0 dflt).int ≤ ((x9.rows.getD (Int.toNat (IntKind.i64.wrap (x5.int - 1))) []).getD 0 dflt).int))
    (k0 (T.b false))
    (j10 (T.l [(row1 x0)])))
    (.bad))
    (j10 (T.l [(row1 x0)])))
    (k0 (T.b false))))
    (.bad))
    (fun y9 => impl_Coord_jobOk_L0_0 m n (T.l [(row1 y9)]) (T.i (x1.int.toNat : Int)) x2 x3 x4 (T.i (IntKind.i64.wrap (x5.int + 1))) x6 x7 x8 x9 k0 k1))
    (k1 (T.l [(row1 x0)]) (T.i (x1.int.toNat : Int)) x6 x7 x8 x9)
noncomputable def impl_Coord_jobOk : Nat → T → T → T → T → T → (T → An) → An
  | 0, _, _, _, _, _, _ => .bad
  | m + 1, x0, x1, x2, x3, x4, k0 =>
    jn (fun (j21 : T → An) =>
    impl_Coord_nextTx m (T.l [((row1 x0).take 6)])
    (fun y0 => impl_inRange m x1 (T.i (IntKind.i64.wrap ((((row1 x0).drop 1).getD 0 dflt).int * 1000))) (T.i (IntKind.i64.wrap (y0.int - 1)))
    (fun y1 => cond ((!y1.bool) == false)
    (impl_OpsOk m (T.l x2.rows)
    (fun y2 => cond (!y2.bool)
    (k0 (T.b false))
    (j21 (T.l [(row1 x0)]))))
    (k0 (T.b false)))))
    (fun y4 => impl_ShardsOf m (T.l x2.rows) ((row1 y4).getD 0 dflt)
    (fun y5 => impl_Coord_jobOk_L0_0 m m (T.l [(row1 y4)]) (T.i 0) (T.l y5.rows) (T.l x4.rows) (T.i (x4.rows.length : Int)) (T.i 0) x1 (T.l x2.rows) x3 (T.l x4.rows)
    (fun y11 => k0 y11)
    (fun y12 y13 y14 y15 y16 y17 => impl_Coord_choiceAt m (T.l [((row1 y12).take 6)]) y14
    (fun y18 => cond (y16.int == 1)
    (k0 (T.b (decide (y18.int < 0))))
    (cond (y16.int == 2)
    (cond ((decide (y18.int ≥ 0)) == true)
    (cond (decide ((0 : Int) ≤ y18.int ∧ y18.int < ((((row1 y12).drop 4).getD 0 dflt).rows.length : Int)))
    (k0 ((((((row1 y12).drop 4).getD 0 dflt).rows.getD (Int.toNat y18.int) []).drop 1).getD 0 dflt))
    (.bad))
    (k0 (T.b false)))
    (cond (y16.int == 3)
    (cond ((decide (y18.int ≥ 0)) == true)
    (cond (decide ((0 : Int) ≤ y18.int ∧ y18.int < ((((row1 y12).drop 4).getD 0 dflt).rows.length : Int)))
    (k0 (T.b (!((((((row1 y12).drop 4).getD 0 dflt).rows.getD (Int.toNat y18.int) []).drop 1).getD 0 dflt).bool)))
    (.bad))
    (k0 (T.b false)))
    (k0 (T.b false))))))))
noncomputable def impl_Coord_jobOk_f : Fs := ⟨29, [.rpt [.sc (.int .i64), .sc (.int .i64), .sc (.int .i64), .sl [.sc (.int .i64), .sl [.sc (.int .i64), .sc (.str), .sc (.str)], .sc (.int .i64), .sl [.sc (.int .i64)]], .sl [.sc (.int .i64), .sc (.bool)], .sc (.int .i64)] [], .agg [AI, .dz [.sc (.int .i64), .sc (.str), .sc (.str)] [], AI, .dz [.sc (.int .i64)] []]], fun m vs k => ap 5 (impl_Coord_jobOk m) vs (lm 1 fun z => k (fRet ⟨[.one (RB)], [[], [none, none, none, none]], [none, none]⟩ z))⟩
noncomputable def impl_Coord_jobOk_l : List Ls := [⟨[0, 1, 0, 1, 1, 1], ⟨[(0, .rp [([4000000], 0)] [.sc (.int .i64), .sc (.int .i64), .sc (.int .i64), .sl [.sc (.int .i64), .sl [.sc (.int .i64), .sc (.str), .sc (.str)], .sc (.int .i64), .sl [.sc (.int .i64)]], .sl [.sc (.int .i64), .sc (.bool)], .sc (.int .i64)] []), (3, EP 1), (5, .one (LZ [.sc (.int .i64)])), (35, .one (LD [.sc (.int .i64)])), (36, .one (LI)), (37, .one (LI))], [([4000000], .gone), ((KI 1), .box [LI, LD [.sc (.int .i64), .sc (.str), .sc (.str)], LI, LD [.sc (.int .i64)]])]⟩, fun m n vs k => ap 10 (impl_Coord_jobOk_L0_0 m n) vs (lm 1 fun z => k .ret (fPack ⟨[(4, .one (LB))], []⟩ z)) (lm 6 fun z => k (.exit 0) (fPack ⟨[(0, .rp [([4000000], 0)] [.sc (.int .i64), .sc (.int .i64), .sc (.int .i64), .sl [.sc (.int .i64), .sl [.sc (.int .i64), .sc (.str), .sc (.str)], .sc (.int .i64), .sl [.sc (.int .i64)]], .sl [.sc (.int .i64), .sc (.bool)], .sc (.int .i64)] []), (3, EP 1)], [([4000000], .gone), ((KI 1), .box [LI, LD [.sc (.int .i64), .sc (.str), .sc (.str)], LI, LD [.sc (.int .i64)]])]⟩ z))⟩]
noncomputable def impl_Coord_jobOk_t : List Fs := impl_Coord_jobOk_f :: slices_Contains___int_int__t
theorem impl_Coord_jobOk_g : FGood CX prims impl_Coord_jobOk_t ∧ FEqn CX prims impl_Coord_jobOk_f := fnG slices_Contains___int_int__g.1 impl_Coord_jobOk_f Try.f29 ⟨29, 2, 100, 16⟩ impl_Coord_jobOk_l (fun _ _ => rfl) (fun _ _ _ => by kernel_rfl) ⟨fun _ _ _ => rfl, trivial⟩ ⟨fun _ _ _ _ _ _ => by kernel_rfl, trivial⟩ (fun _ _ _ _ _ => by kernel_rfl)

/-! loop.example/g00244/impl.CoordOk -/
noncomputable def impl_CoordOk_L1_0 (m : Nat) : Nat → T → T → T → T → T → T → T → T → T → T → (T → An) → An → An
  | 0, _, _, _, _, _, _, _, _, _, _, _, _ => .bad
  | n + 1, x0, x1, x2, x3, x4, x5, x6, x7, x8, x9, k0, k1 =>
    cond (decide (x3.int < x2.int))
    (cond (decide ((0 : Int) ≤ x3.int ∧ x3.int < (x1.rows.length : Int)))
    (impl_Coord_jobOk m (T.l [[x4, x5, x6, (T.l x7.rows), (T.l x8.rows), x9]]) ((x1.rows.getD (Int.toNat x3.int) []).getD 0 dflt) (T.l ((x1.rows.getD (Int.toNat x3.int) []).getD 1 dflt).rows) ((x1.rows.getD (Int.toNat x3.int) []).getD 2 dflt) (T.l ((x1.rows.getD (Int.toNat x3.int) []).getD 3 dflt).rows)
    (fun y17 => cond ((!y17.bool) == false)
    (cond ((decide (x3.int > 0)) == true)
    (cond (decide ((0 : Int) ≤ (IntKind.i64.wrap (x3.int - 1)) ∧ (IntKind.i64.wrap (x3.int - 1)) < (x7.rows.length : Int)))
    (cond (decide (((x1.rows.getD (Int.toNat x3.int) []).getD 0 dflt).int ≤ ((x7.rows.getD (Int.toNat (IntKind.i64.wrap (x3.int - 1))) []).getD 0 dflt).int))
    (k0 (T.b false))
    (impl_CoordOk_L1_0 m n (T.i (x0.int.toNat : Int)) x1 x2 (T.i (IntKind.i64.wrap (x3.int + 1))) x4 x5 x6 x7 x8 x9 k0 k1))
    (.bad))
    (impl_CoordOk_L1_0 m n (T.i (x0.int.toNat : Int)) x1 x2 (T.i (IntKind.i64.wrap (x3.int + 1))) x4 x5 x6 x7 x8 x9 k0 k1))
    (k0 (T.b false))))
    (.bad))
    (k1 )
noncomputable def impl_CoordOk_L0_0 (m : Nat) : Nat → T → T → T → T → T → T → T → T → T → T → (T → An) → (T → T → T → T → T → T → T → An) → An
  | 0, _, _, _, _, _, _, _, _, _, _, _, _ => .bad
  | n + 1, x0, x1, x2, x3, x4, x5, x6, x7, x8, x9, k0, k1 =>
    cond (decide (x3.int < x2.int))
    (cond (decide ((0 : Int) ≤ x3.int ∧ x3.int < (x1.rows.length : Int)))
    (impl_Coord_nextTx m (T.l [[x4, x5, x6, (T.l x7.rows), (T.l x8.rows), x9]])
    (fun y5 => impl_inRange m ((x1.rows.getD (Int.toNat x3.int) []).getD 0 dflt) (T.i 1000) (T.i (IntKind.i64.wrap (y5.int - 1)))
    (fun y6 => cond ((!y6.bool) == false)
    (impl_Coord_choiceAt m (T.l [[x4, x5, x6, (T.l x7.rows), (T.l x8.rows), x9]]) ((x1.rows.getD (Int.toNat x3.int) []).getD 0 dflt)
    (fun y7 => cond (y7.int != x3.int)
    (k0 (T.b false))
    (impl_CoordOk_L0_0 m n (T.i (x0.int.toNat : Int)) x1 x2 (T.i (IntKind.i64.wrap (x3.int + 1))) x4 x5 x6 x7 x8 x9 k0 k1)))
    (k0 (T.b false)))))
    (.bad))
    (k1 (T.i (x0.int.toNat : Int)) x4 x5 x6 x7 x8 x9)
noncomputable def impl_CoordOk : Nat → T → T → T → T → T → T → (T → An) → An
  | 0, _, _, _, _, _, _, _ => .bad
  | m + 1, x0, x1, x2, x3, x4, x5, k0 =>
    jn (fun (j20 : An) =>
    impl_inRange m x0 (T.i 1) (T.i 8)
    (fun y0 => cond ((!y0.bool) == false)
    (impl_inRange m x1 (T.i 1) (T.i 900)
    (fun y1 => cond ((!y1.bool) == false)
    (impl_inRange m x2 (T.i 0) (T.i 999)
    (fun y2 => cond ((!y2.bool) == false)
    (cond ((decide ((x4.rows.length : Int) > 1000)) == false)
    (impl_inRange m x5 (T.i 0) (T.i (x4.rows.length : Int))
    (fun y3 => cond (!y3.bool)
    (k0 (T.b false))
    (j20)))
    (k0 (T.b false)))
    (k0 (T.b false))))
    (k0 (T.b false))))
    (k0 (T.b false))))
    (impl_CoordOk_L0_0 m m (T.i 0) (T.l x4.rows) (T.i (x4.rows.length : Int)) (T.i 0) x0 x1 x2 (T.l x3.rows) (T.l x4.rows) x5
    (fun y9 => k0 y9)
    (fun y10 y11 y12 y13 y14 y15 y16 => impl_CoordOk_L1_0 m m (T.i (y10.int.toNat : Int)) y14 (T.i (y14.rows.length : Int)) (T.i 0) y11 y12 y13 y14 y15 y16
    (fun y19 => k0 y19)
    (k0 (T.b true))))
noncomputable def impl_CoordOk_f : Fs := ⟨9, [.agg [AI, AI, AI, .dz [.sc (.int .i64), .sl [.sc (.int .i64), .sc (.str), .sc (.str)], .sc (.int .i64), .sl [.sc (.int .i64)]] [], .dz [.sc (.int .i64), .sc (.bool)] [], AI]], fun m vs k => ap 6 (impl_CoordOk m) vs (lm 1 fun z => k (fRet ⟨[.one (RB)], [[none, none, none, none, none, none]], [none]⟩ z))⟩
noncomputable def impl_CoordOk_l : List Ls := [⟨[0, 1, 0, 1, 1, 1], ⟨[(1, EP 0), (61, .one (LD [.sc (.int .i64), .sl [.sc (.int .i64), .sc (.str), .sc (.str)], .sc (.int .i64), .sl [.sc (.int .i64)]])), (62, .one (LI)), (63, .one (LI))], [((KI 0), .box [LI, LI, LI, LD [.sc (.int .i64), .sl [.sc (.int .i64), .sc (.str), .sc (.str)], .sc (.int .i64), .sl [.sc (.int .i64)]], LD [.sc (.int .i64), .sc (.bool)], LI]), ([4000000], .gone)]⟩, fun m n vs k => ap 10 (impl_CoordOk_L1_0 m n) vs (lm 1 fun z => k .ret (fPack ⟨[(2, .one (LB))], []⟩ z)) (lm 0 fun z => k (.exit 2) (fPack ⟨[], []⟩ z))⟩, ⟨[0, 1, 0, 1, 1], ⟨[(1, EP 0), (39, .one (LD [.sc (.int .i64), .sc (.bool)])), (40, .one (LI)), (41, .one (LI))], [((KI 0), .box [LI, LI, LI, LD [.sc (.int .i64), .sl [.sc (.int .i64), .sc (.str), .sc (.str)], .sc (.int .i64), .sl [.sc (.int .i64)]], LD [.sc (.int .i64), .sc (.bool)], LI]), ([4000000], .gone)]⟩, fun m n vs k => ap 10 (impl_CoordOk_L0_0 m n) vs (lm 1 fun z => k .ret (fPack ⟨[(2, .one (LB))], []⟩ z)) (lm 7 fun z => k (.exit 0) (fPack ⟨[(1, EP 0)], [((KI 0), .box [LI, LI, LI, LD [.sc (.int .i64), .sl [.sc (.int .i64), .sc (.str), .sc (.str)], .sc (.int .i64), .sl [.sc (.int .i64)]], LD [.sc (.int .i64), .sc (.bool)], LI]), ([4000000], .gone)]⟩ z))⟩]
noncomputable def impl_CoordOk_t : List Fs := impl_CoordOk_f :: impl_Coord_jobOk_t
theorem impl_CoordOk_g : FGood CX prims impl_CoordOk_t ∧ FEqn CX prims impl_CoordOk_f := fnG impl_Coord_jobOk_g.1 impl_CoordOk_f Try.f9 ⟨9, 1, 88, 4⟩ impl_CoordOk_l (fun _ _ => rfl) (fun _ _ _ => by kernel_rfl) ⟨fun _ _ _ => rfl, fun _ _ _ => rfl, trivial⟩ ⟨fun _ _ _ _ _ _ => by kernel_rfl, fun _ _ _ _ _ _ => by kernel_rfl, trivial⟩ (fun _ _ _ _ _ => by kernel_rfl)

/-! loop.example/g00244/impl.OpsFor -/
noncomputable def impl_OpsFor_L0_0 (m : Nat) : Nat → T → T → T → T → T → T → (T → An) → An
  | 0, _, _, _, _, _, _, _ => .bad
  | n + 1, x0, x1, x2, x3, x4, x5, k0 =>
    cond (decide (x4.int < x3.int))
    (cond (decide ((0 : Int) ≤ x4.int ∧ x4.int < (x2.rows.length : Int)))
    (impl_ShardOf m ((x2.rows.getD (Int.toNat x4.int) []).getD 1 dflt) x1
    (fun y0 => cond (y0.int == x0.int)
    (cond (decide ((x5.rows.length + 1) * 3 ≤ maxRow))
    (impl_OpsFor_L0_0 m n x0 x1 x2 x3 (T.i (IntKind.i64.wrap (x4.int + 1))) (T.l (x5.rows ++ [[((x2.rows.getD (Int.toNat x4.int) []).getD 0 dflt), ((x2.rows.getD (Int.toNat x4.int) []).getD 1 dflt), ((x2.rows.getD (Int.toNat x4.int) []).getD 2 dflt)]])) k0)
    (.bad))
    (impl_OpsFor_L0_0 m n x0 x1 x2 x3 (T.i (IntKind.i64.wrap (x4.int + 1))) (T.l x5.rows) k0)))
    (.bad))
    (k0 (T.l x5.rows))
noncomputable def impl_OpsFor : Nat → T → T → T → (T → An) → An
  | 0, _, _, _, _ => .bad
  | m + 1, x0, x1, x2, k0 =>
    impl_OpsFor_L0_0 m m x1 x2 (T.l x0.rows) (T.i (x0.rows.length : Int)) (T.i 0) (T.l [])
    (fun y3 => k0 (T.l y3.rows))
noncomputable def impl_OpsFor_f : Fs := ⟨11, [.one (.dz [.sc (.int .i64), .sc (.str), .sc (.str)] []), .one (AI), .one (AI)], fun m vs k => ap 3 (impl_OpsFor m) vs (lm 1 fun z => k (fRet ⟨[.one (.own (KR 0 0) [.sc (.int .i64), .sc (.str), .sc (.str)] [.F, .F, .F] [])], [[none], [none], [none]], [none, none, none]⟩ z))⟩
noncomputable def impl_OpsFor_l : List Ls := [⟨[0, 1, 0, 1, 1], ⟨[(1, .one (LI)), (2, .one (LI)), (7, .one (LA (KI 0) [.sc (.int .i64), .sc (.str), .sc (.str)])), (10, .one (LD [.sc (.int .i64), .sc (.str), .sc (.str)])), (11, .one (LI)), (12, .one (LI))], [((KI 0), .row [.sc (.int .i64), .sc (.str), .sc (.str)] [.F, .F, .F] []), ([4000000], .gone)]⟩, fun m n vs k => ap 6 (impl_OpsFor_L0_0 m n) vs (lm 1 fun z => k (.exit 0) (fPack ⟨[(7, .one (LA (KI 0) [.sc (.int .i64), .sc (.str), .sc (.str)]))], [((KI 0), .row [.sc (.int .i64), .sc (.str), .sc (.str)] [.F, .F, .F] [])]⟩ z))⟩]
noncomputable def impl_OpsFor_t : List Fs := impl_OpsFor_f :: impl_CoordOk_t
theorem impl_OpsFor_g : FGood CX prims impl_OpsFor_t ∧ FEqn CX prims impl_OpsFor_f := fnG impl_CoordOk_g.1 impl_OpsFor_f Try.f11 ⟨11, 3, 28, 64⟩ impl_OpsFor_l (fun _ _ => rfl) (fun _ _ _ => by kernel_rfl) ⟨fun _ _ _ => rfl, trivial⟩ ⟨fun _ _ _ _ _ _ => by kernel_rfl, trivial⟩ (fun _ _ _ _ _ => by kernel_rfl)

/-! (*loop.example/g00244/impl.Coord).holdWord -/
noncomputable def impl_Coord_holdWord : Nat → T → T → T → T → (T → T → T → T → T → An) → An
  | 0, _, _, _, _, _ => .bad
  | m + 1, x0, x1, x2, x3, k0 =>
    impl_OpsFor m (T.l x2.rows) x3 ((row1 x0).getD 0 dflt)
    (fun y0 => k0 (T.i 1) x3 x1 (T.l y0.rows) (T.b false))
noncomputable def impl_Coord_holdWord_f : Fs := ⟨42, [.rpt [.sc (.int .i64), .sc (.int .i64), .sc (.int .i64), .sl [.sc (.int .i64), .sl [.sc (.int .i64), .sc (.str), .sc (.str)], .sc (.int .i64), .sl [.sc (.int .i64)]], .sl [.sc (.int .i64), .sc (.bool)], .sc (.int .i64)] [], .one (AI), .one (.dz [.sc (.int .i64), .sc (.str), .sc (.str)] []), .one (AI)], fun m vs k => ap 4 (impl_Coord_holdWord m) vs (lm 5 fun z => k (fRet ⟨[.agg [RI, RI, RI, .own (KR 0 3) [.sc (.int .i64), .sc (.str), .sc (.str)] [.F, .F, .F] [], RB]], [[], [none], [none], [none]], [none, none, none, none]⟩ z))⟩
noncomputable def impl_Coord_holdWord_t : List Fs := impl_Coord_holdWord_f :: impl_OpsFor_t
theorem impl_Coord_holdWord_g : FGood CX prims impl_Coord_holdWord_t ∧ FEqn CX prims impl_Coord_holdWord_f := fnG impl_OpsFor_g.1 impl_Coord_holdWord_f Try.f42 ⟨42, 4, 19, 256⟩ [] (fun _ _ => rfl) (fun _ _ _ => by kernel_rfl) trivial trivial (fun _ _ _ _ _ => by kernel_rfl)

/-! (*loop.example/g00244/impl.Coord).begin -/
noncomputable def impl_Coord_begin_L0_0 (m : Nat) : Nat → T → T → T → T → T → T → T → T → T → T → T → T → T → (T → T → T → T → T → T → T → T → T → An) → An
  | 0, _, _, _, _, _, _, _, _, _, _, _, _, _, _ => .bad
  | n + 1, x0, x1, x2, x3, x4, x5, x6, x7, x8, x9, x10, x11, x12, k0 =>
    cond (decide (x5.int < x4.int))
    (cond (decide ((0 : Int) ≤ x5.int ∧ x5.int < (x3.rows.length : Int)))
    (impl_Coord_holdWord m (T.l [[x6, x7, x8, (T.l x11.rows), (T.l x12.rows), x9]]) x2 (T.l x1.rows) ((x3.rows.getD (Int.toNat x5.int) []).getD 0 dflt)
    (fun y5 y6 y7 y8 y9 => cond (decide ((x10.rows.length + 1) * 5 ≤ maxRow))
    (impl_Coord_begin_L0_0 m n (T.i (x0.int.toNat : Int)) x1 x2 x3 x4 (T.i (IntKind.i64.wrap (x5.int + 1))) x6 x7 x8 x9 (T.l (x10.rows ++ [[y5, y6, y7, (T.l y8.rows), y9]])) (T.l x11.rows) (T.l x12.rows) k0)
    (.bad)))
    (.bad))
    (k0 (T.i (x0.int.toNat : Int)) x2 x6 x7 x8 x9 (T.l x10.rows) (T.l x11.rows) (T.l x12.rows))
noncomputable def impl_Coord_begin : Nat → T → T → T → T → T → T → T → (T → T → T → T → T → T → T → T → An) → An
  | 0, _, _, _, _, _, _, _, _ => .bad
  | m + 1, x0, x1, x2, x3, x4, x5, x6, k0 =>
    jn (fun (j19 : An) =>
    impl_OpsOk m (T.l x6.rows)
    (fun y0 => cond ((!y0.bool) == false)
    (cond ((x2.int == 999) == false)
    (cond (decide ((x4.rows.length : Int) ≥ 1000))
    (k0 (T.l []) (T.i 0) x0 x1 x2 (T.l x3.rows) (T.l x4.rows) x5)
    (j19))
    (k0 (T.l []) (T.i 0) x0 x1 x2 (T.l x3.rows) (T.l x4.rows) x5))
    (k0 (T.l []) (T.i 0) x0 x1 x2 (T.l x3.rows) (T.l x4.rows) x5)))
    (impl_Coord_nextTx m (T.l [[x0, x1, x2, (T.l x3.rows), (T.l x4.rows), x5]])
    (fun y2 => slices_Clone___impl_Op_impl_Op_ m (T.l x6.rows)
    (fun y3 => cond (decide ((x3.rows.length + 1) * 4 ≤ maxRow))
    (impl_ShardsOf m (T.l x6.rows) x0
    (fun y4 => impl_Coord_begin_L0_0 m m (T.i 0) (T.l x6.rows) y2 (T.l y4.rows) (T.i (y4.rows.length : Int)) (T.i 0) x0 x1 (T.i (IntKind.i64.wrap (x2.int + 1))) x5 (T.l []) (T.l (x3.rows ++ [[y2, (T.l y3.rows), (T.i 1), (T.l [])]])) (T.l x4.rows)
    (fun y10 y11 y12 y13 y14 y15 y16 y17 y18 => k0 (T.l y16.rows) y11 y12 y13 y14 (T.l y17.rows) (T.l y18.rows) y15)))
    (.bad))))
noncomputable def impl_Coord_begin_f : Fs := ⟨18, [.bx [AI, AI, AI, .own [.sc (.int .i64), .sl [.sc (.int .i64), .sc (.str), .sc (.str)], .sc (.int .i64), .sl [.sc (.int .i64)]] [.F, .O [.F, .F, .F], .F, .O [.F]] [], .own [.sc (.int .i64), .sc (.bool)] [.F, .F] [], AI], .one (.dz [.sc (.int .i64), .sc (.str), .sc (.str)] [])], fun m vs k => ap 7 (impl_Coord_begin m) vs (lm 8 fun z => k (fRet ⟨[.one (.own (KR 0 0) [.sc (.int .i64), .sc (.int .i64), .sc (.int .i64), .sl [.sc (.int .i64), .sc (.str), .sc (.str)], .sc (.bool)] [.F, .F, .F, .O [.F, .F, .F], .F] []), .one (RI)], [[none, none, none, none, none, none], [none]], [some [RI, RI, RI, .own (KR 1000 3) [.sc (.int .i64), .sl [.sc (.int .i64), .sc (.str), .sc (.str)], .sc (.int .i64), .sl [.sc (.int .i64)]] [.F, .O [.F, .F, .F], .F, .O [.F]] [], .own (KR 1000 4) [.sc (.int .i64), .sc (.bool)] [.F, .F] [], RI], none]⟩ z))⟩
noncomputable def impl_Coord_begin_l : List Ls := [⟨[0, 1, 0, 1, 1, 1, 1, 1, 1], ⟨[(0, .ptr [0, 999999] 0 0 0), (1, .one (LD [.sc (.int .i64), .sc (.str), .sc (.str)])), (6, .one (LI)), (7, .one (LA (KI 2) [.sc (.int .i64), .sc (.int .i64), .sc (.int .i64), .sl [.sc (.int .i64), .sc (.str), .sc (.str)], .sc (.bool)])), (55, .one (LZ [.sc (.int .i64)])), (56, .one (LI)), (57, .one (LI))], [([0, 999999], .box [LI, LI, LI, LA (KI 3) [.sc (.int .i64), .sl [.sc (.int .i64), .sc (.str), .sc (.str)], .sc (.int .i64), .sl [.sc (.int .i64)]], LA [0, 4] [.sc (.int .i64), .sc (.bool)], LI]), ([4000000], .gone), ((KI 2), .row [.sc (.int .i64), .sc (.int .i64), .sc (.int .i64), .sl [.sc (.int .i64), .sc (.str), .sc (.str)], .sc (.bool)] [.F, .F, .F, .O [.F, .F, .F], .F] []), ((KI 3), .row [.sc (.int .i64), .sl [.sc (.int .i64), .sc (.str), .sc (.str)], .sc (.int .i64), .sl [.sc (.int .i64)]] [.F, .O [.F, .F, .F], .F, .O [.F]] []), ([0, 4], .row [.sc (.int .i64), .sc (.bool)] [.F, .F] [])]⟩, fun m n vs k => ap 13 (impl_Coord_begin_L0_0 m n) vs (lm 9 fun z => k (.exit 0) (fPack ⟨[(0, .ptr [0, 999999] 0 0 0), (6, .one (LI)), (7, .one (LA (KI 1) [.sc (.int .i64), .sc (.int .i64), .sc (.int .i64), .sl [.sc (.int .i64), .sc (.str), .sc (.str)], .sc (.bool)]))], [([0, 999999], .box [LI, LI, LI, LA (KI 2) [.sc (.int .i64), .sl [.sc (.int .i64), .sc (.str), .sc (.str)], .sc (.int .i64), .sl [.sc (.int .i64)]], LA [0, 4] [.sc (.int .i64), .sc (.bool)], LI]), ((KI 1), .row [.sc (.int .i64), .sc (.int .i64), .sc (.int .i64), .sl [.sc (.int .i64), .sc (.str), .sc (.str)], .sc (.bool)] [.F, .F, .F, .O [.F, .F, .F], .F] []), ((KI 2), .row [.sc (.int .i64), .sl [.sc (.int .i64), .sc (.str), .sc (.str)], .sc (.int .i64), .sl [.sc (.int .i64)]] [.F, .O [.F, .F, .F], .F, .O [.F]] []), ([0, 4], .row [.sc (.int .i64), .sc (.bool)] [.F, .F] [])]⟩ z))⟩]
noncomputable def impl_Coord_begin_t : List Fs := impl_Coord_begin_f :: impl_Coord_holdWord_t
theorem impl_Coord_begin_g : FGood CX prims impl_Coord_begin_t ∧ FEqn CX prims impl_Coord_begin_f := fnG impl_Coord_holdWord_g.1 impl_Coord_begin_f Try.f18 ⟨18, 2, 72, 49⟩ impl_Coord_begin_l (fun _ _ => rfl) (fun _ _ _ => by kernel_rfl) ⟨fun _ _ _ => rfl, trivial⟩ ⟨fun _ _ _ _ _ _ => by kernel_rfl, trivial⟩ (fun _ _ _ _ _ => by kernel_rfl)

/-! loop.example/g00244/impl.Begin -/
noncomputable def impl_Begin : Nat → T → T → T → T → T → T → T → (T → T → T → T → T → T → T → T → An) → An
  | 0, _, _, _, _, _, _, _, _ => .bad
  | m + 1, x0, x1, x2, x3, x4, x5, x6, k0 =>
    impl_copyCoord m x0 x1 x2 (T.l x3.rows) (T.l x4.rows) x5
    (fun y0 y1 y2 y3 y4 y5 => impl_CoordOk m x0 x1 x2 (T.l x3.rows) (T.l x4.rows) x5
    (fun y6 => cond (!y6.bool)
    (k0 y0 y1 y2 (T.l y3.rows) (T.l y4.rows) y5 (T.l []) (T.i 0))
    (impl_Coord_begin m y0 y1 y2 (T.l y3.rows) (T.l y4.rows) y5 (T.l x6.rows)
    (fun y7 y8 y9 y10 y11 y12 y13 y14 => k0 y9 y10 y11 (T.l y12.rows) (T.l y13.rows) y14 (T.l y7.rows) y8))))
noncomputable def impl_Begin_f : Fs := ⟨6, [.agg [AI, AI, AI, .dz [.sc (.int .i64), .sl [.sc (.int .i64), .sc (.str), .sc (.str)], .sc (.int .i64), .sl [.sc (.int .i64)]] [], .dz [.sc (.int .i64), .sc (.bool)] [], AI], .one (.dz [.sc (.int .i64), .sc (.str), .sc (.str)] [])], fun m vs k => ap 7 (impl_Begin m) vs (lm 8 fun z => k (fRet ⟨[.agg [RI, RI, RI, .own (KR 0 3) [.sc (.int .i64), .sl [.sc (.int .i64), .sc (.str), .sc (.str)], .sc (.int .i64), .sl [.sc (.int .i64)]] [.F, .O [.F, .F, .F], .F, .O [.F]] [], .own (KR 0 4) [.sc (.int .i64), .sc (.bool)] [.F, .F] [], RI], .one (.own (KR 1 0) [.sc (.int .i64), .sc (.int .i64), .sc (.int .i64), .sl [.sc (.int .i64), .sc (.str), .sc (.str)], .sc (.bool)] [.F, .F, .F, .O [.F, .F, .F], .F] []), .one (RI)], [[none, none, none, none, none, none], [none]], [none, none]⟩ z))⟩
noncomputable def impl_Begin_t : List Fs := impl_Begin_f :: impl_Coord_begin_t
theorem impl_Begin_g : FGood CX prims impl_Begin_t ∧ FEqn CX prims impl_Begin_f := fnG impl_Coord_begin_g.1 impl_Begin_f Try.f6 ⟨6, 2, 24, 112⟩ [] (fun _ _ => rfl) (fun _ _ _ => by kernel_rfl) trivial trivial (fun _ _ _ _ _ => by kernel_rfl)

/-! loop.example/g00244/spec.l11Copy -/
noncomputable def spec_l11Copy_L0_0 (m : Nat) : Nat → T → T → T → T → T → T → T → T → T → T → T → T → T → T → T → T → T → T → T → T → T → T → (T → T → T → T → T → T → T → T → T → T → T → T → T → T → An) → An
  | 0, _, _, _, _, _, _, _, _, _, _, _, _, _, _, _, _, _, _, _, _, _, _, _ => .bad
  | n + 1, x0, x1, x2, x3, x4, x5, x6, x7, x8, x9, x10, x11, x12, x13, x14, x15, x16, x17, x18, x19, x20, x21, k0 =>
    cond (decide (x3.int < (x7.rows.length : Int)))
    (cond (decide ((0 : Int) ≤ x3.int ∧ x3.int < (x7.rows.length : Int)))
    (spec_l7CopyOps m (T.l ((x7.rows.getD (Int.toNat x3.int) []).getD 1 dflt).rows)
    (fun y0 => cond (decide ((0 + ((x7.rows.getD (Int.toNat x3.int) []).getD 3 dflt).rows.length) * 1 ≤ maxRow))
    (cond (decide ((x20.rows.length + 1) * 4 ≤ maxRow))
    (spec_l11Copy_L0_0 m n (T.i (x0.int.toNat : Int)) (T.i (x1.int.toNat : Int)) (T.i (x2.int.toNat : Int)) (T.i (IntKind.i64.wrap (x3.int + 1))) x4 x5 x6 x7 x8 x9 x10 x11 x12 x13 x14 x15 x16 x17 (T.l x18.rows) (T.l x19.rows) (T.l (x20.rows ++ [[((x7.rows.getD (Int.toNat x3.int) []).getD 0 dflt), (T.l y0.rows), ((x7.rows.getD (Int.toNat x3.int) []).getD 2 dflt), (T.l ((x7.rows.getD (Int.toNat x3.int) []).getD 3 dflt).rows)]])) (T.l x21.rows) k0)
    (.bad))
    (.bad)))
    (.bad))
    (k0 (T.i (x1.int.toNat : Int)) (T.i (x2.int.toNat : Int)) x10 x11 x12 x13 x14 x15 x16 x17 (T.l x18.rows) (T.l x19.rows) (T.l x20.rows) (T.l x21.rows))
noncomputable def spec_l11Copy : Nat → T → T → T → T → T → T → (T → T → T → T → T → T → An) → An
  | 0, _, _, _, _, _, _, _ => .bad
  | m + 1, x0, x1, x2, x3, x4, x5, k0 =>
    cond (decide ((0 + x4.rows.length) * 2 ≤ maxRow))
    (spec_l11Copy_L0_0 m m (T.i 0) (T.i 0) (T.i 0) (T.i 0) x0 x1 x2 (T.l x3.rows) (T.l x4.rows) x5 (T.i 0) (T.i 0) (T.i 0) (T.i 0) x0 x1 x2 x5 (T.l []) (T.l []) (T.l []) (T.l x4.rows)
    (fun y1 y2 y3 y4 y5 y6 y7 y8 y9 y10 y11 y12 y13 y14 => k0 y7 y8 y9 (T.l y13.rows) (T.l y14.rows) y10))
    (.bad)
noncomputable def spec_l11Copy_f : Fs := ⟨19, [.agg [AI, AI, AI, .dz [.sc (.int .i64), .sl [.sc (.int .i64), .sc (.str), .sc (.str)], .sc (.int .i64), .sl [.sc (.int .i64)]] [], .dz [.sc (.int .i64), .sc (.bool)] [], AI]], fun m vs k => ap 6 (spec_l11Copy m) vs (lm 6 fun z => k (fRet ⟨[.agg [RI, RI, RI, .own (KR 0 3) [.sc (.int .i64), .sl [.sc (.int .i64), .sc (.str), .sc (.str)], .sc (.int .i64), .sl [.sc (.int .i64)]] [.F, .F, .F, .F] [], .own (KR 0 4) [.sc (.int .i64), .sc (.bool)] [.F, .F] [], RI]], [[none, none, none, none, none, none]], [none]⟩ z))⟩
noncomputable def spec_l11Copy_l : List Ls := [⟨[0, 1, 0, 1, 1, 1, 1], ⟨[(1, EP 0), (2, EP 1), (3, EP 2), (4, .one (LI))], [((KI 0), .box [LI, LI, LI, LD [.sc (.int .i64), .sl [.sc (.int .i64), .sc (.str), .sc (.str)], .sc (.int .i64), .sl [.sc (.int .i64)]], LD [.sc (.int .i64), .sc (.bool)], LI]), ((KI 1), .box [LI, LI, LI, LA (KI 4) [.sc (.int .i64), .sl [.sc (.int .i64), .sc (.str), .sc (.str)], .sc (.int .i64), .sl [.sc (.int .i64)]], LA (KI 5) [.sc (.int .i64), .sc (.bool)], LI]), ((KI 2), .box [LI, LI, LI, LA (KI 6) [.sc (.int .i64), .sl [.sc (.int .i64), .sc (.str), .sc (.str)], .sc (.int .i64), .sl [.sc (.int .i64)]], LA (KI 7) [.sc (.int .i64), .sc (.bool)], LI]), ([4000000], .gone), ((KI 4), .row [.sc (.int .i64), .sl [.sc (.int .i64), .sc (.str), .sc (.str)], .sc (.int .i64), .sl [.sc (.int .i64)]] [.F, .F, .F, .F] []), ((KI 5), .row [.sc (.int .i64), .sc (.bool)] [.F, .F] []), ((KI 6), .row [.sc (.int .i64), .sl [.sc (.int .i64), .sc (.str), .sc (.str)], .sc (.int .i64), .sl [.sc (.int .i64)]] [.F, .F, .F, .F] []), ((KI 7), .row [.sc (.int .i64), .sc (.bool)] [.F, .F] [])]⟩, fun m n vs k => ap 22 (spec_l11Copy_L0_0 m n) vs (lm 14 fun z => k (.exit 0) (fPack ⟨[(2, EP 0), (3, EP 1)], [((KI 0), .box [LI, LI, LI, LA (KI 2) [.sc (.int .i64), .sl [.sc (.int .i64), .sc (.str), .sc (.str)], .sc (.int .i64), .sl [.sc (.int .i64)]], LA (KI 3) [.sc (.int .i64), .sc (.bool)], LI]), ((KI 1), .box [LI, LI, LI, LA (KI 4) [.sc (.int .i64), .sl [.sc (.int .i64), .sc (.str), .sc (.str)], .sc (.int .i64), .sl [.sc (.int .i64)]], LA (KI 5) [.sc (.int .i64), .sc (.bool)], LI]), ((KI 2), .row [.sc (.int .i64), .sl [.sc (.int .i64), .sc (.str), .sc (.str)], .sc (.int .i64), .sl [.sc (.int .i64)]] [.F, .F, .F, .F] []), ((KI 3), .row [.sc (.int .i64), .sc (.bool)] [.F, .F] []), ((KI 4), .row [.sc (.int .i64), .sl [.sc (.int .i64), .sc (.str), .sc (.str)], .sc (.int .i64), .sl [.sc (.int .i64)]] [.F, .F, .F, .F] []), ((KI 5), .row [.sc (.int .i64), .sc (.bool)] [.F, .F] [])]⟩ z))⟩]
noncomputable def spec_l11Copy_t : List Fs := spec_l11Copy_f :: impl_Begin_t
theorem spec_l11Copy_g : FGood CX prims spec_l11Copy_t ∧ FEqn CX prims spec_l11Copy_f := fnG impl_Begin_g.1 spec_l11Copy_f Try.f19 ⟨19, 1, 42, 4⟩ spec_l11Copy_l (fun _ _ => rfl) (fun _ _ _ => by kernel_rfl) ⟨fun _ _ _ => rfl, trivial⟩ ⟨fun _ _ _ _ _ _ => by kernel_rfl, trivial⟩ (fun _ _ _ _ _ => by kernel_rfl)

/-! loop.example/g00244/spec.l11Chosen -/
noncomputable def spec_l11Chosen_L0_0 (m : Nat) : Nat → T → T → T → T → T → T → T → T → T → (T → An) → An → An
  | 0, _, _, _, _, _, _, _, _, _, _, _ => .bad
  | n + 1, x0, x1, x2, x3, x4, x5, x6, x7, x8, k0, k1 =>
    cond (decide (x2.int < (x7.rows.length : Int)))
    (cond (decide ((0 : Int) ≤ x2.int ∧ x2.int < (x7.rows.length : Int)))
    (cond (((x7.rows.getD (Int.toNat x2.int) []).getD 0 dflt).int == x0.int)
    (k0 x2)
    (spec_l11Chosen_L0_0 m n x0 (T.i (x1.int.toNat : Int)) (T.i (IntKind.i64.wrap (x2.int + 1))) x3 x4 x5 x6 x7 x8 k0 k1))
    (.bad))
    (k1 )
noncomputable def spec_l11Chosen : Nat → T → T → T → T → T → T → T → (T → An) → An
  | 0, _, _, _, _, _, _, _, _ => .bad
  | m + 1, x0, x1, x2, x3, x4, x5, x6, k0 =>
    spec_l11Chosen_L0_0 m m x6 (T.i 0) (T.i 0) x0 x1 x2 (T.l x3.rows) (T.l x4.rows) x5
    (fun y0 => k0 y0)
    (k0 (T.i (-1)))
noncomputable def spec_l11Chosen_f : Fs := ⟨45, [.agg [AI, AI, AI, .dz [.sc (.int .i64), .sl [.sc (.int .i64), .sc (.str), .sc (.str)], .sc (.int .i64), .sl [.sc (.int .i64)]] [], .dz [.sc (.int .i64), .sc (.bool)] [], AI], .one (AI)], fun m vs k => ap 7 (spec_l11Chosen m) vs (lm 1 fun z => k (fRet ⟨[.one (RI)], [[none, none, none, none, none, none], [none]], [none, none]⟩ z))⟩
noncomputable def spec_l11Chosen_l : List Ls := [⟨[0, 1, 0, 1], ⟨[(1, .one (LI)), (2, EP 0), (5, .one (LI))], [((KI 0), .box [LI, LI, LI, LD [.sc (.int .i64), .sl [.sc (.int .i64), .sc (.str), .sc (.str)], .sc (.int .i64), .sl [.sc (.int .i64)]], LD [.sc (.int .i64), .sc (.bool)], LI]), ([4000000], .gone)]⟩, fun m n vs k => ap 9 (spec_l11Chosen_L0_0 m n) vs (lm 1 fun z => k .ret (fPack ⟨[(4, .one (LI))], []⟩ z)) (lm 0 fun z => k (.exit 0) (fPack ⟨[], []⟩ z))⟩]
noncomputable def spec_l11Chosen_t : List Fs := spec_l11Chosen_f :: spec_l11Copy_t
theorem spec_l11Chosen_g : FGood CX prims spec_l11Chosen_t ∧ FEqn CX prims spec_l11Chosen_f := fnG spec_l11Copy_g.1 spec_l11Chosen_f Try.f45 ⟨45, 2, 22, 16⟩ spec_l11Chosen_l (fun _ _ => rfl) (fun _ _ _ => by kernel_rfl) ⟨fun _ _ _ => rfl, trivial⟩ ⟨fun _ _ _ _ _ _ => by kernel_rfl, trivial⟩ (fun _ _ _ _ _ => by kernel_rfl)

/-! loop.example/g00244/spec.l11Job -/
noncomputable def spec_l11Job_L0_0 (m : Nat) : Nat → T → T → T → T → T → T → T → T → T → T → T → T → T → T → (T → An) → (T → T → T → T → T → T → T → T → T → T → T → T → An) → An
  | 0, _, _, _, _, _, _, _, _, _, _, _, _, _, _, _, _ => .bad
  | n + 1, x0, x1, x2, x3, x4, x5, x6, x7, x8, x9, x10, x11, x12, x13, k0, k1 =>
    cond (decide (x3.int < (x13.rows.length : Int)))
    ((fun (j17 : An) =>
    cond (decide ((0 : Int) ≤ x3.int ∧ x3.int < (x13.rows.length : Int)))
    (spec_l7Has m (T.l x2.rows) ((x13.rows.getD (Int.toNat x3.int) []).getD 0 dflt)
    (fun y15 => cond ((!y15.bool) == false)
    (cond ((decide (x3.int > 0)) == true)
    (cond (decide ((0 : Int) ≤ (IntKind.i64.wrap (x3.int - 1)) ∧ (IntKind.i64.wrap (x3.int - 1)) < (x13.rows.length : Int)))
    (cond (decide ((0 : Int) ≤ x3.int ∧ x3.int < (x13.rows.length : Int)))
    (cond (decide (((x13.rows.getD (Int.toNat (IntKind.i64.wrap (x3.int - 1))) []).getD 0 dflt).int ≥ ((x13.rows.getD (Int.toNat x3.int) []).getD 0 dflt).int))
    (k0 (T.b false))
    (j17))
    (.bad))
    (.bad))
    (j17))
    (k0 (T.b false))))
    (.bad))
    (spec_l11Job_L0_0 m n (T.i (x0.int.toNat : Int)) (T.i (x1.int.toNat : Int)) x2 (T.i (IntKind.i64.wrap (x3.int + 1))) x4 x5 x6 x7 x8 x9 x10 x11 x12 x13 k0 k1))
    (k1 (T.i (x0.int.toNat : Int)) (T.i (x1.int.toNat : Int)) x4 x5 x6 x7 x8 x9 x10 x11 x12 x13)
noncomputable def spec_l11Job : Nat → T → T → T → T → T → T → T → (T → An) → An
  | 0, _, _, _, _, _, _, _, _ => .bad
  | m + 1, x0, x1, x2, x3, x4, x5, x6, k0 =>
    cond (decide ((0 : Int) ≤ x6.int ∧ x6.int < (x3.rows.length : Int)))
    (jn (fun (j33 : T → T → T → T → An) =>
    spec_l1In m ((x3.rows.getD (Int.toNat x6.int) []).getD 0 dflt) (T.i (IntKind.i64.wrap (x1.int * 1000))) (T.i (IntKind.i64.wrap ((IntKind.i64.wrap ((IntKind.i64.wrap (x1.int * 1000)) + x2.int)) - 1)))
    (fun y0 => cond ((!y0.bool) == false)
    (cond ((decide (x6.int > 0)) == true)
    (cond (decide ((0 : Int) ≤ (IntKind.i64.wrap (x6.int - 1)) ∧ (IntKind.i64.wrap (x6.int - 1)) < (x3.rows.length : Int)))
    (cond ((decide (((x3.rows.getD (Int.toNat (IntKind.i64.wrap (x6.int - 1))) []).getD 0 dflt).int ≥ ((x3.rows.getD (Int.toNat x6.int) []).getD 0 dflt).int)) == false)
    (spec_OpsOk m (T.l ((x3.rows.getD (Int.toNat x6.int) []).getD 1 dflt).rows)
    (fun y1 => cond ((!y1.bool) == false)
    (spec_l1In m ((x3.rows.getD (Int.toNat x6.int) []).getD 2 dflt) (T.i 1) (T.i 3)
    (fun y2 => cond (!y2.bool)
    (k0 (T.b false))
    (j33 ((x3.rows.getD (Int.toNat x6.int) []).getD 0 dflt) ((x3.rows.getD (Int.toNat x6.int) []).getD 1 dflt) ((x3.rows.getD (Int.toNat x6.int) []).getD 2 dflt) ((x3.rows.getD (Int.toNat x6.int) []).getD 3 dflt))))
    (k0 (T.b false))))
    (k0 (T.b false)))
    (.bad))
    (spec_OpsOk m (T.l ((x3.rows.getD (Int.toNat x6.int) []).getD 1 dflt).rows)
    (fun y3 => cond ((!y3.bool) == false)
    (spec_l1In m ((x3.rows.getD (Int.toNat x6.int) []).getD 2 dflt) (T.i 1) (T.i 3)
    (fun y4 => cond (!y4.bool)
    (k0 (T.b false))
    (j33 ((x3.rows.getD (Int.toNat x6.int) []).getD 0 dflt) ((x3.rows.getD (Int.toNat x6.int) []).getD 1 dflt) ((x3.rows.getD (Int.toNat x6.int) []).getD 2 dflt) ((x3.rows.getD (Int.toNat x6.int) []).getD 3 dflt))))
    (k0 (T.b false)))))
    (k0 (T.b false))))
    (fun y10 y11 y12 y13 => spec_ShardsOf m (T.l y11.rows) x0
    (fun y14 => spec_l11Job_L0_0 m m (T.i 0) (T.i 0) (T.l y14.rows) (T.i 0) x0 x1 x2 (T.l x3.rows) (T.l x4.rows) x5 y10 y11 y12 y13
    (fun y18 => k0 y18)
    (fun y19 y20 y21 y22 y23 y24 y25 y26 y27 y28 y29 y30 => spec_l11Chosen m y21 y22 y23 (T.l y24.rows) (T.l y25.rows) y26 y27
    (fun y31 => cond (decide (y31.int < 0))
    (k0 (T.b (y29.int == 1)))
    (cond ((y29.int == 2) == true)
    (cond (decide ((0 : Int) ≤ y31.int ∧ y31.int < (y25.rows.length : Int)))
    (cond ((((y25.rows.getD (Int.toNat y31.int) []).drop 1).getD 0 dflt).bool == false)
    (cond ((y29.int == 3) == true)
    (cond (decide ((0 : Int) ≤ y31.int ∧ y31.int < (y25.rows.length : Int)))
    (k0 (T.b (!(((y25.rows.getD (Int.toNat y31.int) []).drop 1).getD 0 dflt).bool)))
    (.bad))
    (k0 (T.b false)))
    (k0 (T.b true)))
    (.bad))
    (cond ((y29.int == 3) == true)
    (cond (decide ((0 : Int) ≤ y31.int ∧ y31.int < (y25.rows.length : Int)))
    (k0 (T.b (!(((y25.rows.getD (Int.toNat y31.int) []).drop 1).getD 0 dflt).bool)))
    (.bad))
    (k0 (T.b false)))))))))
    (.bad)
noncomputable def spec_l11Job_f : Fs := ⟨46, [.agg [AI, AI, AI, .dz [.sc (.int .i64), .sl [.sc (.int .i64), .sc (.str), .sc (.str)], .sc (.int .i64), .sl [.sc (.int .i64)]] [], .dz [.sc (.int .i64), .sc (.bool)] [], AI], .one (AI)], fun m vs k => ap 7 (spec_l11Job m) vs (lm 1 fun z => k (fRet ⟨[.one (RB)], [[none, none, none, none, none, none], [none]], [none, none]⟩ z))⟩
noncomputable def spec_l11Job_l : List Ls := [⟨[0, 1, 0, 1, 1, 1, 1], ⟨[(2, EP 0), (5, EP 1), (6, .one (LZ [.sc (.int .i64)])), (7, .one (LI))], [((KI 0), .box [LI, LI, LI, LD [.sc (.int .i64), .sl [.sc (.int .i64), .sc (.str), .sc (.str)], .sc (.int .i64), .sl [.sc (.int .i64)]], LD [.sc (.int .i64), .sc (.bool)], LI]), ((KI 1), .box [LI, LD [.sc (.int .i64), .sc (.str), .sc (.str)], LI, LD [.sc (.int .i64)]]), ([4000000], .gone)]⟩, fun m n vs k => ap 14 (spec_l11Job_L0_0 m n) vs (lm 1 fun z => k .ret (fPack ⟨[(4, .one (LB))], []⟩ z)) (lm 12 fun z => k (.exit 0) (fPack ⟨[(2, EP 0), (5, EP 1)], [((KI 0), .box [LI, LI, LI, LD [.sc (.int .i64), .sl [.sc (.int .i64), .sc (.str), .sc (.str)], .sc (.int .i64), .sl [.sc (.int .i64)]], LD [.sc (.int .i64), .sc (.bool)], LI]), ((KI 1), .box [LI, LD [.sc (.int .i64), .sc (.str), .sc (.str)], LI, LD [.sc (.int .i64)]]), ([4000000], .gone)]⟩ z))⟩]
noncomputable def spec_l11Job_t : List Fs := spec_l11Job_f :: spec_l11Chosen_t
theorem spec_l11Job_g : FGood CX prims spec_l11Job_t ∧ FEqn CX prims spec_l11Job_f := fnG spec_l11Chosen_g.1 spec_l11Job_f Try.f46 ⟨46, 2, 128, 16⟩ spec_l11Job_l (fun _ _ => rfl) (fun _ _ _ => by kernel_rfl) ⟨fun _ _ _ => rfl, trivial⟩ ⟨fun _ _ _ _ _ _ => by kernel_rfl, trivial⟩ (fun _ _ _ _ _ => by kernel_rfl)

/-! loop.example/g00244/spec.CoordOk -/
noncomputable def spec_CoordOk_L1_0 (m : Nat) : Nat → T → T → T → T → T → T → T → T → (T → An) → An → An
  | 0, _, _, _, _, _, _, _, _, _, _ => .bad
  | n + 1, x0, x1, x2, x3, x4, x5, x6, x7, k0, k1 =>
    cond (decide (x1.int < (x5.rows.length : Int)))
    (spec_l11Job m x2 x3 x4 (T.l x5.rows) (T.l x6.rows) x7 x1
    (fun y16 => cond (!y16.bool)
    (k0 (T.b false))
    (spec_CoordOk_L1_0 m n (T.i (x0.int.toNat : Int)) (T.i (IntKind.i64.wrap (x1.int + 1))) x2 x3 x4 x5 x6 x7 k0 k1)))
    (k1 )
noncomputable def spec_CoordOk_L0_0 (m : Nat) : Nat → T → T → T → T → T → T → T → T → (T → An) → (T → T → T → T → T → T → T → An) → An
  | 0, _, _, _, _, _, _, _, _, _, _ => .bad
  | n + 1, x0, x1, x2, x3, x4, x5, x6, x7, k0, k1 =>
    cond (decide (x1.int < (x6.rows.length : Int)))
    (cond (decide ((0 : Int) ≤ x1.int ∧ x1.int < (x6.rows.length : Int)))
    (spec_l1In m ((x6.rows.getD (Int.toNat x1.int) []).getD 0 dflt) (T.i 1000) (T.i (IntKind.i64.wrap ((IntKind.i64.wrap ((IntKind.i64.wrap (x3.int * 1000)) + x4.int)) - 1)))
    (fun y5 => cond ((!y5.bool) == false)
    (cond (decide ((0 : Int) ≤ x1.int ∧ x1.int < (x6.rows.length : Int)))
    (spec_l11Chosen m x2 x3 x4 (T.l x5.rows) (T.l x6.rows) x7 ((x6.rows.getD (Int.toNat x1.int) []).getD 0 dflt)
    (fun y6 => cond (y6.int != x1.int)
    (k0 (T.b false))
    (spec_CoordOk_L0_0 m n (T.i (x0.int.toNat : Int)) (T.i (IntKind.i64.wrap (x1.int + 1))) x2 x3 x4 x5 x6 x7 k0 k1)))
    (.bad))
    (k0 (T.b false))))
    (.bad))
    (k1 (T.i (x0.int.toNat : Int)) x2 x3 x4 x5 x6 x7)
noncomputable def spec_CoordOk : Nat → T → T → T → T → T → T → (T → An) → An
  | 0, _, _, _, _, _, _, _ => .bad
  | m + 1, x0, x1, x2, x3, x4, x5, k0 =>
    jn (fun (j18 : An) =>
    spec_l1In m x0 (T.i 1) (T.i 8)
    (fun y0 => cond ((!y0.bool) == false)
    (spec_l1In m x1 (T.i 1) (T.i 900)
    (fun y1 => cond ((!y1.bool) == false)
    (spec_l1In m x2 (T.i 0) (T.i 999)
    (fun y2 => cond ((!y2.bool) == false)
    (cond ((decide ((x4.rows.length : Int) > 1000)) == false)
    (spec_l1In m x5 (T.i 0) (T.i (x4.rows.length : Int))
    (fun y3 => cond (!y3.bool)
    (k0 (T.b false))
    (j18)))
    (k0 (T.b false)))
    (k0 (T.b false))))
    (k0 (T.b false))))
    (k0 (T.b false))))
    (spec_CoordOk_L0_0 m m (T.i 0) (T.i 0) x0 x1 x2 (T.l x3.rows) (T.l x4.rows) x5
    (fun y8 => k0 y8)
    (fun y9 y10 y11 y12 y13 y14 y15 => spec_CoordOk_L1_0 m m (T.i (y9.int.toNat : Int)) (T.i 0) y10 y11 y12 y13 y14 y15
    (fun y17 => k0 y17)
    (k0 (T.b true))))
noncomputable def spec_CoordOk_f : Fs := ⟨20, [.agg [AI, AI, AI, .dz [.sc (.int .i64), .sl [.sc (.int .i64), .sc (.str), .sc (.str)], .sc (.int .i64), .sl [.sc (.int .i64)]] [], .dz [.sc (.int .i64), .sc (.bool)] [], AI]], fun m vs k => ap 6 (spec_CoordOk m) vs (lm 1 fun z => k (fRet ⟨[.one (RB)], [[none, none, none, none, none, none]], [none]⟩ z))⟩
noncomputable def spec_CoordOk_l : List Ls := [⟨[0, 1, 0, 1, 1, 1], ⟨[(1, EP 0), (4, .one (LI))], [((KI 0), .box [LI, LI, LI, LD [.sc (.int .i64), .sl [.sc (.int .i64), .sc (.str), .sc (.str)], .sc (.int .i64), .sl [.sc (.int .i64)]], LD [.sc (.int .i64), .sc (.bool)], LI]), ([4000000], .gone)]⟩, fun m n vs k => ap 8 (spec_CoordOk_L1_0 m n) vs (lm 1 fun z => k .ret (fPack ⟨[(2, .one (LB))], []⟩ z)) (lm 0 fun z => k (.exit 2) (fPack ⟨[], []⟩ z))⟩, ⟨[0, 1, 0, 1, 1], ⟨[(1, EP 0), (3, .one (LI))], [((KI 0), .box [LI, LI, LI, LD [.sc (.int .i64), .sl [.sc (.int .i64), .sc (.str), .sc (.str)], .sc (.int .i64), .sl [.sc (.int .i64)]], LD [.sc (.int .i64), .sc (.bool)], LI]), ([4000000], .gone)]⟩, fun m n vs k => ap 8 (spec_CoordOk_L0_0 m n) vs (lm 1 fun z => k .ret (fPack ⟨[(2, .one (LB))], []⟩ z)) (lm 7 fun z => k (.exit 0) (fPack ⟨[(1, EP 0)], [((KI 0), .box [LI, LI, LI, LD [.sc (.int .i64), .sl [.sc (.int .i64), .sc (.str), .sc (.str)], .sc (.int .i64), .sl [.sc (.int .i64)]], LD [.sc (.int .i64), .sc (.bool)], LI]), ([4000000], .gone)]⟩ z))⟩]
noncomputable def spec_CoordOk_t : List Fs := spec_CoordOk_f :: spec_l11Job_t
theorem spec_CoordOk_g : FGood CX prims spec_CoordOk_t ∧ FEqn CX prims spec_CoordOk_f := fnG spec_l11Job_g.1 spec_CoordOk_f Try.f20 ⟨20, 1, 81, 4⟩ spec_CoordOk_l (fun _ _ => rfl) (fun _ _ _ => by kernel_rfl) ⟨fun _ _ _ => rfl, fun _ _ _ => rfl, trivial⟩ ⟨fun _ _ _ _ _ _ => by kernel_rfl, fun _ _ _ _ _ _ => by kernel_rfl, trivial⟩ (fun _ _ _ _ _ => by kernel_rfl)

/-! loop.example/g00244/spec.Begin -/
noncomputable def spec_Begin : Nat → T → T → T → T → T → T → T → (T → T → T → T → T → T → T → T → An) → An
  | 0, _, _, _, _, _, _, _, _ => .bad
  | m + 1, x0, x1, x2, x3, x4, x5, x6, k0 =>
    spec_l11Copy m x0 x1 x2 (T.l x3.rows) (T.l x4.rows) x5
    (fun y0 y1 y2 y3 y4 y5 => spec_CoordOk m x0 x1 x2 (T.l x3.rows) (T.l x4.rows) x5
    (fun y6 => cond (!y6.bool)
    (k0 y0 y1 y2 (T.l y3.rows) (T.l y4.rows) y5 (T.l []) (T.i 0))
    (spec_l11Begin m y0 y1 y2 (T.l y3.rows) (T.l y4.rows) y5 (T.l x6.rows)
    (fun y7 y8 y9 y10 y11 y12 y13 y14 => k0 y9 y10 y11 (T.l y12.rows) (T.l y13.rows) y14 (T.l y7.rows) y8))))
noncomputable def spec_Begin_f : Fs := ⟨7, [.agg [AI, AI, AI, .dz [.sc (.int .i64), .sl [.sc (.int .i64), .sc (.str), .sc (.str)], .sc (.int .i64), .sl [.sc (.int .i64)]] [], .dz [.sc (.int .i64), .sc (.bool)] [], AI], .one (.dz [.sc (.int .i64), .sc (.str), .sc (.str)] [])], fun m vs k => ap 7 (spec_Begin m) vs (lm 8 fun z => k (fRet ⟨[.agg [RI, RI, RI, .own (KR 0 3) [.sc (.int .i64), .sl [.sc (.int .i64), .sc (.str), .sc (.str)], .sc (.int .i64), .sl [.sc (.int .i64)]] [.F, .F, .F, .F] [], .own (KR 0 4) [.sc (.int .i64), .sc (.bool)] [.F, .F] [], RI], .one (.own (KR 1 0) [.sc (.int .i64), .sc (.int .i64), .sc (.int .i64), .sl [.sc (.int .i64), .sc (.str), .sc (.str)], .sc (.bool)] [.F, .F, .F, .F, .F] []), .one (RI)], [[none, none, none, none, none, none], [none]], [none, none]⟩ z))⟩
noncomputable def spec_Begin_t : List Fs := spec_Begin_f :: spec_CoordOk_t
theorem spec_Begin_g : FGood CX prims spec_Begin_t ∧ FEqn CX prims spec_Begin_f := fnG spec_CoordOk_g.1 spec_Begin_f Try.f7 ⟨7, 2, 25, 112⟩ [] (fun _ _ => rfl) (fun _ _ _ => by kernel_rfl) trivial trivial (fun _ _ _ _ _ => by kernel_rfl)

/-! loop.example/g00244/laws.sameOps -/
noncomputable def laws_sameOps_L0_0 (m : Nat) : Nat → T → T → T → (T → An) → An → An
  | 0, _, _, _, _, _ => .bad
  | n + 1, x0, x1, x2, k0, k1 =>
    cond (decide (x2.int < (x0.rows.length : Int)))
    (cond (decide ((0 : Int) ≤ x2.int ∧ x2.int < (x0.rows.length : Int)))
    (cond (decide ((0 : Int) ≤ x2.int ∧ x2.int < (x1.rows.length : Int)))
    (cond (!((((x0.rows.getD (Int.toNat x2.int) []).getD 0 dflt).int == ((x1.rows.getD (Int.toNat x2.int) []).getD 0 dflt).int) && ((((x0.rows.getD (Int.toNat x2.int) []).getD 1 dflt).str.toList == ((x1.rows.getD (Int.toNat x2.int) []).getD 1 dflt).str.toList) && ((((x0.rows.getD (Int.toNat x2.int) []).getD 2 dflt).str.toList == ((x1.rows.getD (Int.toNat x2.int) []).getD 2 dflt).str.toList) && true))))
    (k0 (T.b false))
    (laws_sameOps_L0_0 m n x0 x1 (T.i (IntKind.i64.wrap (x2.int + 1))) k0 k1))
    (.bad))
    (.bad))
    (k1 )
noncomputable def laws_sameOps : Nat → T → T → (T → An) → An
  | 0, _, _, _ => .bad
  | m + 1, x0, x1, k0 =>
    cond ((x0.rows.length : Int) != (x1.rows.length : Int))
    (k0 (T.b false))
    (laws_sameOps_L0_0 m m (T.l x0.rows) (T.l x1.rows) (T.i 0)
    (fun y0 => k0 y0)
    (k0 (T.b true)))
noncomputable def laws_sameOps_f : Fs := ⟨30, [.one (.dz [.sc (.int .i64), .sc (.str), .sc (.str)] []), .one (.dz [.sc (.int .i64), .sc (.str), .sc (.str)] [])], fun m vs k => ap 2 (laws_sameOps m) vs (lm 1 fun z => k (fRet ⟨[.one (RB)], [[none], [none]], [none, none]⟩ z))⟩
noncomputable def laws_sameOps_l : List Ls := [⟨[0, 1, 0, 1, 1], ⟨[(0, .one (LD [.sc (.int .i64), .sc (.str), .sc (.str)])), (1, .one (LD [.sc (.int .i64), .sc (.str), .sc (.str)])), (5, .one (LI))], [([4000000], .gone)]⟩, fun m n vs k => ap 3 (laws_sameOps_L0_0 m n) vs (lm 1 fun z => k .ret (fPack ⟨[(4, .one (LB))], []⟩ z)) (lm 0 fun z => k (.exit 0) (fPack ⟨[], []⟩ z))⟩]
noncomputable def laws_sameOps_t : List Fs := laws_sameOps_f :: spec_Begin_t
theorem laws_sameOps_g : FGood CX prims laws_sameOps_t ∧ FEqn CX prims laws_sameOps_f := fnG spec_Begin_g.1 laws_sameOps_f Try.f30 ⟨30, 2, 26, 16⟩ laws_sameOps_l (fun _ _ => rfl) (fun _ _ _ => by kernel_rfl) ⟨fun _ _ _ => rfl, trivial⟩ ⟨fun _ _ _ _ _ _ => by kernel_rfl, trivial⟩ (fun _ _ _ _ _ => by kernel_rfl)

/-! loop.example/g00244/laws.sameWord -/
noncomputable def laws_sameWord : Nat → T → T → T → T → T → T → T → T → T → T → (T → An) → An
  | 0, _, _, _, _, _, _, _, _, _, _, _ => .bad
  | m + 1, x0, x1, x2, x3, x4, x5, x6, x7, x8, x9, k0 =>
    cond ((x0.int == x5.int) == true)
    (cond ((x1.int == x6.int) == true)
    (cond ((x2.int == x7.int) == true)
    (cond ((x4.bool == x9.bool) == true)
    (laws_sameOps m (T.l x3.rows) (T.l x8.rows)
    (fun y0 => k0 y0))
    (k0 (T.b false)))
    (k0 (T.b false)))
    (k0 (T.b false)))
    (k0 (T.b false))
noncomputable def laws_sameWord_f : Fs := ⟨10, [.agg [AI, AI, AI, .dz [.sc (.int .i64), .sc (.str), .sc (.str)] [], AB], .agg [AI, AI, AI, .dz [.sc (.int .i64), .sc (.str), .sc (.str)] [], AB]], fun m vs k => ap 10 (laws_sameWord m) vs (lm 1 fun z => k (fRet ⟨[.one (RB)], [[none, none, none, none, none], [none, none, none, none, none]], [none, none]⟩ z))⟩
noncomputable def laws_sameWord_t : List Fs := laws_sameWord_f :: laws_sameOps_t
theorem laws_sameWord_g : FGood CX prims laws_sameWord_t ∧ FEqn CX prims laws_sameWord_f := fnG laws_sameOps_g.1 laws_sameWord_f Try.f10 ⟨10, 2, 38, 16⟩ [] (fun _ _ => rfl) (fun _ _ _ => by kernel_rfl) trivial trivial (fun _ _ _ _ _ => by kernel_rfl)

/-! (*loop.example/g00244/impl.Coord).answer -/
noncomputable def impl_Coord_answer : Nat → T → T → (T → T → An) → An
  | 0, _, _, _ => .bad
  | m + 1, x0, x1, k0 =>
    cond (decide (x1.int < 1000))
    (k0 (T.b false) (T.b false))
    (impl_Coord_choiceAt m (T.l [((row1 x0).take 6)]) x1
    (fun y0 => cond (decide (y0.int < 0))
    (k0 (T.b false) (T.b (decide (x1.int < (IntKind.i64.wrap ((((row1 x0).drop 1).getD 0 dflt).int * 1000))))))
    (cond (decide (y0.int ≥ (((row1 x0).drop 5).getD 0 dflt).int))
    (k0 (T.b false) (T.b false))
    (cond (decide ((0 : Int) ≤ y0.int ∧ y0.int < ((((row1 x0).drop 4).getD 0 dflt).rows.length : Int)))
    (k0 ((((((row1 x0).drop 4).getD 0 dflt).rows.getD (Int.toNat y0.int) []).drop 1).getD 0 dflt) (T.b true))
    (.bad)))))
noncomputable def impl_Coord_answer_f : Fs := ⟨31, [.rpt [.sc (.int .i64), .sc (.int .i64), .sc (.int .i64), .sl [.sc (.int .i64), .sl [.sc (.int .i64), .sc (.str), .sc (.str)], .sc (.int .i64), .sl [.sc (.int .i64)]], .sl [.sc (.int .i64), .sc (.bool)], .sc (.int .i64)] [], .one (AI)], fun m vs k => ap 2 (impl_Coord_answer m) vs (lm 2 fun z => k (fRet ⟨[.one (RB), .one (RB)], [[], [none]], [none, none]⟩ z))⟩
noncomputable def impl_Coord_answer_t : List Fs := impl_Coord_answer_f :: laws_sameWord_t
theorem impl_Coord_answer_g : FGood CX prims impl_Coord_answer_t ∧ FEqn CX prims impl_Coord_answer_f := fnG laws_sameWord_g.1 impl_Coord_answer_f Try.f31 ⟨31, 2, 35, 48⟩ [] (fun _ _ => rfl) (fun _ _ _ => by kernel_rfl) trivial trivial (fun _ _ _ _ _ => by kernel_rfl)

/-! loop.example/g00244/impl.Answer -/
noncomputable def impl_Answer : Nat → T → T → T → T → T → T → T → (T → T → An) → An
  | 0, _, _, _, _, _, _, _, _ => .bad
  | m + 1, x0, x1, x2, x3, x4, x5, x6, k0 =>
    impl_CoordOk m x0 x1 x2 (T.l x3.rows) (T.l x4.rows) x5
    (fun y0 => cond (!y0.bool)
    (k0 (T.b false) (T.b false))
    (impl_Coord_answer m (T.l [[x0, x1, x2, (T.l x3.rows), (T.l x4.rows), x5]]) x6
    (fun y1 y2 => k0 y1 y2)))
noncomputable def impl_Answer_f : Fs := ⟨12, [.agg [AI, AI, AI, .dz [.sc (.int .i64), .sl [.sc (.int .i64), .sc (.str), .sc (.str)], .sc (.int .i64), .sl [.sc (.int .i64)]] [], .dz [.sc (.int .i64), .sc (.bool)] [], AI], .one (AI)], fun m vs k => ap 7 (impl_Answer m) vs (lm 2 fun z => k (fRet ⟨[.one (RB), .one (RB)], [[none, none, none, none, none, none], [none]], [none, none]⟩ z))⟩
noncomputable def impl_Answer_t : List Fs := impl_Answer_f :: impl_Coord_answer_t
theorem impl_Answer_g : FGood CX prims impl_Answer_t ∧ FEqn CX prims impl_Answer_f := fnG impl_Coord_answer_g.1 impl_Answer_f Try.f12 ⟨12, 2, 13, 48⟩ [] (fun _ _ => rfl) (fun _ _ _ => by kernel_rfl) trivial trivial (fun _ _ _ _ _ => by kernel_rfl)

/-! loop.example/g00244/laws.FnBegan -/
noncomputable def laws_FnBegan_L1_0 (m : Nat) : Nat → T → T → T → T → T → T → T → T → T → T → T → T → T → T → T → T → (T → An) → (T → T → T → T → T → T → T → T → An) → An
  | 0, _, _, _, _, _, _, _, _, _, _, _, _, _, _, _, _, _, _ => .bad
  | n + 1, x0, x1, x2, x3, x4, x5, x6, x7, x8, x9, x10, x11, x12, x13, x14, x15, k0, k1 =>
    cond (decide (x3.int < (x13.rows.length : Int)))
    (cond (decide ((0 : Int) ≤ x3.int ∧ x3.int < (x13.rows.length : Int)))
    (cond (decide ((Int.toNat x3.int) < x13.rows.length))
    (cond (((x13.rows.getD (Int.toNat x3.int) []).getD 0 dflt).int == x2.int)
    (k0 (T.b false))
    (laws_FnBegan_L1_0 m n (T.i (x0.int.toNat : Int)) (T.i (x1.int.toNat : Int)) x2 (T.i (IntKind.i64.wrap (x3.int + 1))) x4 x5 x6 x7 x8 x9 x10 x11 (T.l x12.rows) (T.l x13.rows) (T.l x14.rows) (T.l x15.rows) k0 k1))
    (.bad))
    (.bad))
    (k1 (T.i (x1.int.toNat : Int)) x2 x8 x9 x10 x11 (T.l x14.rows) (T.l x15.rows))
noncomputable def laws_FnBegan_L0_0 (m : Nat) : Nat → T → T → T → T → T → T → T → T → T → T → T → T → T → T → T → T → T → T → T → (T → An) → (T → T → T → T → T → T → T → T → T → T → T → T → T → T → T → An) → An
  | 0, _, _, _, _, _, _, _, _, _, _, _, _, _, _, _, _, _, _, _, _, _ => .bad
  | n + 1, x0, x1, x2, x3, x4, x5, x6, x7, x8, x9, x10, x11, x12, x13, x14, x15, x16, x17, x18, k0, k1 =>
    cond (decide (x4.int < (x14.rows.length : Int)))
    (cond (decide ((0 : Int) ≤ x4.int ∧ x4.int < (x14.rows.length : Int)))
    (cond (decide ((Int.toNat x4.int) < x14.rows.length))
    (cond (decide ((0 : Int) ≤ x4.int ∧ x4.int < (x3.rows.length : Int)))
    (cond (decide ((0 : Int) ≤ x4.int ∧ x4.int < (x3.rows.length : Int)))
    (impl_OpsFor m (T.l x9.rows) ((x3.rows.getD (Int.toNat x4.int) []).getD 0 dflt) x5
    (fun y30 => laws_sameWord m ((x14.rows.getD (Int.toNat x4.int) []).getD 0 dflt) ((x14.rows.getD (Int.toNat x4.int) []).getD 1 dflt) ((x14.rows.getD (Int.toNat x4.int) []).getD 2 dflt) (T.l ((x14.rows.getD (Int.toNat x4.int) []).getD 3 dflt).rows) ((x14.rows.getD (Int.toNat x4.int) []).getD 4 dflt) (T.i 1) ((x3.rows.getD (Int.toNat x4.int) []).getD 0 dflt) x2 (T.l y30.rows) (T.b false)
    (fun y31 => cond (!y31.bool)
    (k0 (T.b false))
    (laws_FnBegan_L0_0 m n (T.i (x0.int.toNat : Int)) (T.i (x1.int.toNat : Int)) x2 x3 (T.i (IntKind.i64.wrap (x4.int + 1))) x5 x6 x7 x8 (T.l x9.rows) x10 x11 x12 x13 (T.l x14.rows) (T.l x15.rows) (T.l x16.rows) (T.l x17.rows) (T.l x18.rows) k0 k1))))
    (.bad))
    (.bad))
    (.bad))
    (.bad))
    (k1 (T.i (x0.int.toNat : Int)) (T.i (x1.int.toNat : Int)) x2 x5 x6 x7 x8 x10 x11 x12 x13 (T.l x15.rows) (T.l x16.rows) (T.l x17.rows) (T.l x18.rows))
noncomputable def laws_FnBegan : Nat → T → (T → An) → An
  | 0, _, _ => .bad
  | m + 1, x0, k0 =>
    laws_big m (T.l x0.rows)
    (fun y0 => cond y0.bool
    (k0 (T.b true))
    (spec_DrawBegin m (T.l x0.rows)
    (fun y1 y2 y3 y4 y5 y6 y7 => impl_Begin m y1 y2 y3 (T.l y4.rows) (T.l y5.rows) y6 (T.l y7.rows)
    (fun y8 y9 y10 y11 y12 y13 y14 y15 => spec_Begin m y1 y2 y3 (T.l y4.rows) (T.l y5.rows) y6 (T.l y7.rows)
    (fun y16 y17 y18 y19 y20 y21 y22 y23 => jn (fun (j26 : T → An) =>
    cond ((y15.int != y23.int) == false)
    (j26 (T.b (y15.int == 0)))
    (j26 (T.b true)))
    (fun y24 => cond y24.bool
    (cond ((y15.int == y23.int) == true)
    (cond (((y14.rows.length : Int) == 0) == true)
    (k0 (T.b (y10.int == y3.int)))
    (k0 (T.b false)))
    (k0 (T.b false)))
    (impl_ShardsOf m (T.l y7.rows) y1
    (fun y27 => jn (fun (j59 : An) =>
    cond (((y14.rows.length : Int) != (y27.rows.length : Int)) == false)
    (cond ((y10.int != (IntKind.i64.wrap (y3.int + 1))) == false)
    (impl_CoordOk m y8 y9 y10 (T.l y11.rows) (T.l y12.rows) y13
    (fun y28 => cond (!y28.bool)
    (k0 (T.b false))
    (j59)))
    (k0 (T.b false)))
    (k0 (T.b false)))
    (laws_FnBegan_L0_0 m m (T.i 0) (T.i 0) y15 (T.l y27.rows) (T.i 0) y1 y2 y3 y6 (T.l y7.rows) y8 y9 y10 y13 (T.l y14.rows) (T.l y4.rows) (T.l y5.rows) (T.l y11.rows) (T.l y12.rows)
    (fun y32 => k0 y32)
    (fun y33 y34 y35 y36 y37 y38 y39 y40 y41 y42 y43 y44 y45 y46 y47 => laws_FnBegan_L1_0 m m (T.i (y33.int.toNat : Int)) (T.i (y34.int.toNat : Int)) y35 (T.i 0) y36 y37 y38 y39 y40 y41 y42 y43 (T.l y44.rows) (T.l y45.rows) (T.l y46.rows) (T.l y47.rows)
    (fun y48 => k0 y48)
    (fun y49 y50 y51 y52 y53 y54 y55 y56 => impl_Answer m y51 y52 y53 (T.l y55.rows) (T.l y56.rows) y54 y50
    (fun y57 y58 => k0 (T.b (!y58.bool))))))))))))))
noncomputable def laws_FnBegan_f : Fs := ⟨3, [.one (.fz [.sc (.int .u8)] [])], fun m vs k => ap 1 (laws_FnBegan m) vs (lm 1 fun z => k (fRet ⟨[.one (RB)], [[none]], [none]⟩ z))⟩
noncomputable def laws_FnBegan_l : List Ls := [⟨[0, 1, 0, 1, 1, 1, 1, 1, 1, 1, 1, 1], ⟨[(3, EP 0), (5, EP 1), (7, .one (LI)), (13, .one (LI))], [((KI 0), .box [LI, LI, LI, LA (KI 2) [.sc (.int .i64), .sl [.sc (.int .i64), .sc (.str), .sc (.str)], .sc (.int .i64), .sl [.sc (.int .i64)]], LA (KI 3) [.sc (.int .i64), .sc (.bool)], LI]), ((KI 1), .box [LI, LI, LI, LA (KI 4) [.sc (.int .i64), .sl [.sc (.int .i64), .sc (.str), .sc (.str)], .sc (.int .i64), .sl [.sc (.int .i64)]], LA (KI 5) [.sc (.int .i64), .sc (.bool)], LI]), ((KI 2), .row [.sc (.int .i64), .sl [.sc (.int .i64), .sc (.str), .sc (.str)], .sc (.int .i64), .sl [.sc (.int .i64)]] [.F, .F, .F, .F] []), ((KI 3), .row [.sc (.int .i64), .sc (.bool)] [.F, .F] []), ((KI 4), .row [.sc (.int .i64), .sl [.sc (.int .i64), .sc (.str), .sc (.str)], .sc (.int .i64), .sl [.sc (.int .i64)]] [.F, .O [.F, .F, .F], .F, .O [.F]] []), ((KI 5), .row [.sc (.int .i64), .sc (.bool)] [.F, .F] [])]⟩, fun m n vs k => ap 16 (laws_FnBegan_L1_0 m n) vs (lm 1 fun z => k .ret (fPack ⟨[(2, .one (LB))], []⟩ z)) (lm 8 fun z => k (.exit 2) (fPack ⟨[(5, EP 0), (7, .one (LI))], [((KI 0), .box [LI, LI, LI, LA (KI 1) [.sc (.int .i64), .sl [.sc (.int .i64), .sc (.str), .sc (.str)], .sc (.int .i64), .sl [.sc (.int .i64)]], LA (KI 2) [.sc (.int .i64), .sc (.bool)], LI]), ((KI 1), .row [.sc (.int .i64), .sl [.sc (.int .i64), .sc (.str), .sc (.str)], .sc (.int .i64), .sl [.sc (.int .i64)]] [.F, .O [.F, .F, .F], .F, .O [.F]] []), ((KI 2), .row [.sc (.int .i64), .sc (.bool)] [.F, .F] [])]⟩ z))⟩, ⟨[0, 1, 0, 1, 1, 1, 1, 1, 1, 1, 1], ⟨[(3, EP 0), (4, .one (LA (KI 1) [.sc (.int .i64), .sc (.str), .sc (.str)])), (5, EP 2), (6, .one (LA (KI 3) [.sc (.int .i64), .sc (.int .i64), .sc (.int .i64), .sl [.sc (.int .i64), .sc (.str), .sc (.str)], .sc (.bool)])), (7, .one (LI)), (11, .one (LZ [.sc (.int .i64)])), (12, .one (LI))], [((KI 0), .box [LI, LI, LI, LA (KI 4) [.sc (.int .i64), .sl [.sc (.int .i64), .sc (.str), .sc (.str)], .sc (.int .i64), .sl [.sc (.int .i64)]], LA (KI 5) [.sc (.int .i64), .sc (.bool)], LI]), ((KI 1), .row [.sc (.int .i64), .sc (.str), .sc (.str)] [.F, .F, .F] []), ((KI 2), .box [LI, LI, LI, LA (KI 6) [.sc (.int .i64), .sl [.sc (.int .i64), .sc (.str), .sc (.str)], .sc (.int .i64), .sl [.sc (.int .i64)]], LA (KI 7) [.sc (.int .i64), .sc (.bool)], LI]), ((KI 3), .row [.sc (.int .i64), .sc (.int .i64), .sc (.int .i64), .sl [.sc (.int .i64), .sc (.str), .sc (.str)], .sc (.bool)] [.F, .F, .F, .O [.F, .F, .F], .F] []), ((KI 4), .row [.sc (.int .i64), .sl [.sc (.int .i64), .sc (.str), .sc (.str)], .sc (.int .i64), .sl [.sc (.int .i64)]] [.F, .F, .F, .F] []), ((KI 5), .row [.sc (.int .i64), .sc (.bool)] [.F, .F] []), ((KI 6), .row [.sc (.int .i64), .sl [.sc (.int .i64), .sc (.str), .sc (.str)], .sc (.int .i64), .sl [.sc (.int .i64)]] [.F, .O [.F, .F, .F], .F, .O [.F]] []), ((KI 7), .row [.sc (.int .i64), .sc (.bool)] [.F, .F] [])]⟩, fun m n vs k => ap 19 (laws_FnBegan_L0_0 m n) vs (lm 1 fun z => k .ret (fPack ⟨[(2, .one (LB))], []⟩ z)) (lm 15 fun z => k (.exit 0) (fPack ⟨[(3, EP 0), (5, EP 1), (7, .one (LI))], [((KI 0), .box [LI, LI, LI, LA (KI 2) [.sc (.int .i64), .sl [.sc (.int .i64), .sc (.str), .sc (.str)], .sc (.int .i64), .sl [.sc (.int .i64)]], LA (KI 3) [.sc (.int .i64), .sc (.bool)], LI]), ((KI 1), .box [LI, LI, LI, LA (KI 4) [.sc (.int .i64), .sl [.sc (.int .i64), .sc (.str), .sc (.str)], .sc (.int .i64), .sl [.sc (.int .i64)]], LA (KI 5) [.sc (.int .i64), .sc (.bool)], LI]), ((KI 2), .row [.sc (.int .i64), .sl [.sc (.int .i64), .sc (.str), .sc (.str)], .sc (.int .i64), .sl [.sc (.int .i64)]] [.F, .F, .F, .F] []), ((KI 3), .row [.sc (.int .i64), .sc (.bool)] [.F, .F] []), ((KI 4), .row [.sc (.int .i64), .sl [.sc (.int .i64), .sc (.str), .sc (.str)], .sc (.int .i64), .sl [.sc (.int .i64)]] [.F, .O [.F, .F, .F], .F, .O [.F]] []), ((KI 5), .row [.sc (.int .i64), .sc (.bool)] [.F, .F] [])]⟩ z))⟩]
noncomputable def laws_FnBegan_t : List Fs := laws_FnBegan_f :: impl_Answer_t
theorem laws_FnBegan_g : FGood CX prims laws_FnBegan_t ∧ FEqn CX prims laws_FnBegan_f := fnG impl_Answer_g.1 laws_FnBegan_f Try.f3 ⟨3, 1, 130, 4⟩ laws_FnBegan_l (fun _ _ => rfl) (fun _ _ _ => by kernel_rfl) ⟨fun _ _ _ => rfl, fun _ _ _ => rfl, trivial⟩ ⟨fun _ _ _ _ _ _ => by kernel_rfl, fun _ _ _ _ _ _ => by kernel_rfl, trivial⟩ (fun _ _ _ _ _ => by kernel_rfl)

end Go.Proofs.Ytajahiglgcogeaa

