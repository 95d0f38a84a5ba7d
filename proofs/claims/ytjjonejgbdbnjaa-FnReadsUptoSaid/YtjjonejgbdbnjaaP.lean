/- A part of the proof: texts RP: see the last part's opening words. -/
import Derived.Test.YtjjonejgbdbnjaaH
set_option linter.unusedVariables false
set_option linter.unusedSimpArgs false
set_option linter.unnecessarySimpa false
namespace Go.Proofs.Ytjjonejgbdbnjaa
open Go Go.E Go.Proofs
def slices_Clone___impl_Pair_impl_Pair_ : Nat → T → (T → An) → An
  | 0, _, _ => .bad
  | m + 1, x0, k0 => cond (decide (x0.rows.length * 2 ≤ maxRow)) (k0 (T.l x0.rows)) .bad
noncomputable def slices_Clone___impl_Pair_impl_Pair__a : List Arg := [.one (.dz [.sc (.str), .sc (.str)] [])]
def slices_Clone___impl_Pair_impl_Pair__w (m : Nat) (vs : List T) (k : Ret → An) : An := slices_Clone___impl_Pair_impl_Pair_ m (vs.headD dflt) (fun z0 => k ⟨[.one (.own [7000000] [.sc (.str), .sc (.str)] [.F, .F] z0.rows)], [[none]], []⟩)
theorem slices_Clone___impl_Pair_impl_Pair__eq (m : Nat) : ∀ vs k, callK CX prims m 18 (fArgs slices_Clone___impl_Pair_impl_Pair__a vs) k = slices_Clone___impl_Pair_impl_Pair__w m vs k := by
  intro vs k
  cases m with
  | zero => rfl
  | succ m =>
    refine Eq.trans (b := ((primClone [.sc (.str), .sc (.str)]) (fArgs slices_Clone___impl_Pair_impl_Pair__a vs)).bind k) (by kernel_rfl) ?_
    refine Eq.trans (b := (cond (decide ((vs.headD dflt).rows.length * 2 ≤ maxRow)) (R3.ok ⟨[.one (.own [7000000] [.sc (.str), .sc (.str)] [.F, .F] (vs.headD dflt).rows)], [[none]], []⟩) .bad).bind k) (by kernel_rfl) ?_
    rw [cond_bind]; rfl

noncomputable def slices_Clone___impl_Pair_impl_Pair__f : Fs := ⟨18, slices_Clone___impl_Pair_impl_Pair__a, slices_Clone___impl_Pair_impl_Pair__w⟩
noncomputable def slices_Clone___impl_Pair_impl_Pair__t : List Fs := slices_Clone___impl_Pair_impl_Pair__f :: []
theorem slices_Clone___impl_Pair_impl_Pair__g : FGood CX prims slices_Clone___impl_Pair_impl_Pair__t ∧ FEqn CX prims slices_Clone___impl_Pair_impl_Pair__f := ⟨good_cons good_nil (x := slices_Clone___impl_Pair_impl_Pair__f) slices_Clone___impl_Pair_impl_Pair__eq, slices_Clone___impl_Pair_impl_Pair__eq⟩
def slices_Insert___impl_Pair_impl_Pair_ : Nat → T → T → T → (T → An) → An
  | 0, _, _, _, _ => .bad
  | m + 1, x0, x1, x2, k0 => cond (decide (0 ≤ x1.int ∧ x1.int ≤ (x0.rows.length : Int)) && decide (0 < x2.rows.length) && decide ((x0.rows.length + x2.rows.length) * 2 ≤ maxRow)) (k0 (T.l (x0.rows.take x1.int.toNat ++ x2.rows ++ x0.rows.drop x1.int.toNat))) .bad
noncomputable def slices_Insert___impl_Pair_impl_Pair__a : List Arg := [.one (.own [.sc (.str), .sc (.str)] [.F, .F] []), .one (AI), .one (.own [.sc (.str), .sc (.str)] [.F, .F] [])]
def slices_Insert___impl_Pair_impl_Pair__w (m : Nat) (vs : List T) (k : Ret → An) : An := slices_Insert___impl_Pair_impl_Pair_ m (vs.headD dflt) (vs.tail.headD dflt) (vs.tail.tail.headD dflt) (fun z0 => k ⟨[.one (.own [7000000] [.sc (.str), .sc (.str)] [.F, .F] z0.rows)], [[none], [none], [none]], []⟩)
theorem slices_Insert___impl_Pair_impl_Pair__eq (m : Nat) : ∀ vs k, callK CX prims m 40 (fArgs slices_Insert___impl_Pair_impl_Pair__a vs) k = slices_Insert___impl_Pair_impl_Pair__w m vs k := by
  intro vs k
  cases m with
  | zero => rfl
  | succ m =>
    refine Eq.trans (b := ((primInsert [.sc (.str), .sc (.str)]) (fArgs slices_Insert___impl_Pair_impl_Pair__a vs)).bind k) (by kernel_rfl) ?_
    refine Eq.trans (b := (cond (decide (0 ≤ (vs.tail.headD dflt).int ∧ (vs.tail.headD dflt).int ≤ ((vs.headD dflt).rows.length : Int)) && decide (0 < (vs.tail.tail.headD dflt).rows.length) && decide (((vs.headD dflt).rows.length + (vs.tail.tail.headD dflt).rows.length) * 2 ≤ maxRow)) (R3.ok ⟨[.one (.own [7000000] [.sc (.str), .sc (.str)] [.F, .F] ((vs.headD dflt).rows.take (vs.tail.headD dflt).int.toNat ++ (vs.tail.tail.headD dflt).rows ++ (vs.headD dflt).rows.drop (vs.tail.headD dflt).int.toNat))], [[none], [none], [none]], []⟩) .bad).bind k) (by kernel_rfl) ?_
    rw [cond_bind]; rfl

noncomputable def slices_Insert___impl_Pair_impl_Pair__f : Fs := ⟨40, slices_Insert___impl_Pair_impl_Pair__a, slices_Insert___impl_Pair_impl_Pair__w⟩
noncomputable def slices_Insert___impl_Pair_impl_Pair__t : List Fs := slices_Insert___impl_Pair_impl_Pair__f :: slices_Clone___impl_Pair_impl_Pair__t
theorem slices_Insert___impl_Pair_impl_Pair__g : FGood CX prims slices_Insert___impl_Pair_impl_Pair__t ∧ FEqn CX prims slices_Insert___impl_Pair_impl_Pair__f := ⟨good_cons slices_Clone___impl_Pair_impl_Pair__g.1 (x := slices_Insert___impl_Pair_impl_Pair__f) slices_Insert___impl_Pair_impl_Pair__eq, slices_Insert___impl_Pair_impl_Pair__eq⟩
/-! loop.example/g00244/laws.big -/
noncomputable def laws_big : Nat → T → (T → An) → An
  | 0, _, _ => .bad
  | m + 1, x0, k0 =>
    k0 (T.b (decide ((x0.rows.length : Int) > 1048576)))
noncomputable def laws_big_f : Fs := ⟨4, [.one (.dz [.sc (.int .u8)] [])], fun m vs k => ap 1 (laws_big m) vs (lm 1 fun z => k (fRet ⟨[.one (RB)], [[none]], [none]⟩ z))⟩
noncomputable def laws_big_t : List Fs := laws_big_f :: slices_Insert___impl_Pair_impl_Pair__t
theorem laws_big_g : FGood CX prims laws_big_t ∧ FEqn CX prims laws_big_f := fnG slices_Insert___impl_Pair_impl_Pair__g.1 laws_big_f Try.f4 ⟨4, 1, 6, 4⟩ [] (fun _ _ => rfl) (fun _ _ _ => by kernel_rfl) trivial trivial (fun _ _ _ _ _ => by kernel_rfl)

/-! loop.example/g00244/spec.l1New -/
noncomputable def spec_l1New_L0_0 (m : Nat) : Nat → T → T → T → (T → T → An) → An
  | 0, _, _, _, _ => .bad
  | n + 1, x0, x1, x2, k0 =>
    jn (fun (j1 : An) =>
    cond ((decide (x2.int < (x0.rows.length : Int))) == true)
    (cond (decide (x2.int < 4000))
    (j1)
    (k0 x0 x1))
    (k0 x0 x1))
    (cond (decide ((0 : Int) ≤ x2.int ∧ x2.int < (x0.rows.length : Int)))
    (spec_l1New_L0_0 m n x0 (bvBack .i64 (BitVec.ofInt IntKind.i64.bits (IntKind.i64.wrap ((IntKind.i64.wrap ((IntKind.i64.wrap (x1.int * 137)) + (IntKind.i64.wrap ((x0.rows.getD (Int.toNat x2.int) []).getD 0 dflt).int))) + 11)) &&& BitVec.ofInt IntKind.i64.bits 1073741823)) (T.i (IntKind.i64.wrap (x2.int + 1))) k0)
    (.bad))
noncomputable def spec_l1New : Nat → T → (T → T → T → An) → An
  | 0, _, _ => .bad
  | m + 1, x0, k0 =>
    spec_l1New_L0_0 m m (T.l x0.rows) (T.i (IntKind.i64.wrap (381381 + (x0.rows.length : Int)))) (T.i 0)
    (fun y2 y3 => k0 (T.l y2.rows) (T.i 0) y3)
noncomputable def spec_l1New_f : Fs := ⟨11, [.one (.fz [.sc (.int .u8)] [])], fun m vs k => ap 1 (spec_l1New m) vs (lm 3 fun z => k (fRet ⟨[.bx [2000031] [.fz [.sc (.int .u8)] [], RI, RI]], [[none]], [none]⟩ z))⟩
noncomputable def spec_l1New_l : List Ls := [⟨[0, 1, 0, 1, 1], ⟨[(0, .one (LZ [.sc (.int .u8)])), (3, .one (LI)), (4, .one (LI))], []⟩, fun m n vs k => ap 3 (spec_l1New_L0_0 m n) vs (lm 2 fun z => k (.exit 0) (fPack ⟨[(0, .one (LZ [.sc (.int .u8)])), (3, .one (LI))], []⟩ z))⟩]
noncomputable def spec_l1New_t : List Fs := spec_l1New_f :: laws_big_t
theorem spec_l1New_g : FGood CX prims spec_l1New_t ∧ FEqn CX prims spec_l1New_f := fnG laws_big_g.1 spec_l1New_f Try.f11 ⟨11, 1, 32, 4⟩ spec_l1New_l (fun _ _ => rfl) (fun _ _ _ => by kernel_rfl) ⟨fun _ _ _ => rfl, trivial⟩ ⟨fun _ _ _ _ _ _ => by kernel_rfl, trivial⟩ (fun _ _ _ _ _ => by kernel_rfl)

/-! loop.example/g00244/spec.l1Size -/
noncomputable def spec_l1Size : Nat → T → T → (T → An) → An
  | 0, _, _, _ => .bad
  | m + 1, x0, x1, k0 =>
    cond (decide ((IntKind.i64.wrap (3 + (IntKind.i64.wrap (Int.tdiv (x0.rows.length : Int) 12)))) > x1.int))
    (k0 x1)
    (k0 (T.i (IntKind.i64.wrap (3 + (IntKind.i64.wrap (Int.tdiv (x0.rows.length : Int) 12))))))
noncomputable def spec_l1Size_f : Fs := ⟨13, [.one (.fz [.sc (.int .u8)] []), .one (AI)], fun m vs k => ap 2 (spec_l1Size m) vs (lm 1 fun z => k (fRet ⟨[.one (RI)], [[none], [none]], [none, none]⟩ z))⟩
noncomputable def spec_l1Size_t : List Fs := spec_l1Size_f :: spec_l1New_t
theorem spec_l1Size_g : FGood CX prims spec_l1Size_t ∧ FEqn CX prims spec_l1Size_f := fnG spec_l1New_g.1 spec_l1Size_f Try.f13 ⟨13, 2, 15, 16⟩ [] (fun _ _ => rfl) (fun _ _ _ => by kernel_rfl) trivial trivial (fun _ _ _ _ _ => by kernel_rfl)

/-! loop.example/g00244/spec.l1Byte -/
noncomputable def spec_l1Byte : Nat → T → T → T → (T → T → T → T → An) → An
  | 0, _, _, _, _ => .bad
  | m + 1, x0, x1, x2, k0 =>
    cond (decide (x1.int < (x0.rows.length : Int)))
    (cond (decide ((0 : Int) ≤ x1.int ∧ x1.int < (x0.rows.length : Int)))
    (k0 (bvBack .i64 (BitVec.ofInt IntKind.i64.bits (IntKind.i64.wrap ((bvBack .i64 (BitVec.ofInt IntKind.i64.bits (bvBack .i64 (BitVec.ofInt IntKind.i64.bits (Int.fdiv (IntKind.i64.wrap ((IntKind.i64.wrap (x2.int * 6364136223846793005)) + 1442695040888963407)) (2 ^ (min (Int.toNat 33) IntKind.i64.bits))) ^^^ BitVec.ofInt IntKind.i64.bits (Int.fdiv (IntKind.i64.wrap ((IntKind.i64.wrap (x2.int * 6364136223846793005)) + 1442695040888963407)) (2 ^ (min (Int.toNat 47) IntKind.i64.bits))))).int &&& BitVec.ofInt IntKind.i64.bits 255)).int + (IntKind.i64.wrap ((x0.rows.getD (Int.toNat x1.int) []).getD 0 dflt).int))) &&& BitVec.ofInt IntKind.i64.bits 255)) (T.l x0.rows) (T.i (IntKind.i64.wrap (x1.int + 1))) (T.i (IntKind.i64.wrap ((IntKind.i64.wrap (x2.int * 6364136223846793005)) + 1442695040888963407))))
    (.bad))
    (k0 (bvBack .i64 (BitVec.ofInt IntKind.i64.bits (bvBack .i64 (BitVec.ofInt IntKind.i64.bits (Int.fdiv (IntKind.i64.wrap ((IntKind.i64.wrap (x2.int * 6364136223846793005)) + 1442695040888963407)) (2 ^ (min (Int.toNat 33) IntKind.i64.bits))) ^^^ BitVec.ofInt IntKind.i64.bits (Int.fdiv (IntKind.i64.wrap ((IntKind.i64.wrap (x2.int * 6364136223846793005)) + 1442695040888963407)) (2 ^ (min (Int.toNat 47) IntKind.i64.bits))))).int &&& BitVec.ofInt IntKind.i64.bits 255)) (T.l x0.rows) x1 (T.i (IntKind.i64.wrap ((IntKind.i64.wrap (x2.int * 6364136223846793005)) + 1442695040888963407))))
noncomputable def spec_l1Byte_f : Fs := ⟨31, [.bx [.fz [.sc (.int .u8)] [], AI, AI]], fun m vs k => ap 3 (spec_l1Byte m) vs (lm 4 fun z => k (fRet ⟨[.one (RI)], [[none, none, none]], [some [.fz [.sc (.int .u8)] [], RI, RI]]⟩ z))⟩
noncomputable def spec_l1Byte_t : List Fs := spec_l1Byte_f :: spec_l1Size_t
theorem spec_l1Byte_g : FGood CX prims spec_l1Byte_t ∧ FEqn CX prims spec_l1Byte_f := fnG spec_l1Size_g.1 spec_l1Byte_f Try.f31 ⟨31, 1, 58, 5⟩ [] (fun _ _ => rfl) (fun _ _ _ => by kernel_rfl) trivial trivial (fun _ _ _ _ _ => by kernel_rfl)

/-! loop.example/g00244/spec.l1Below -/
noncomputable def spec_l1Below : Nat → T → T → T → T → (T → T → T → T → An) → An
  | 0, _, _, _, _, _ => .bad
  | m + 1, x0, x1, x2, x3, k0 =>
    cond (decide (x3.int ≤ 0))
    (k0 (T.i 0) (T.l x0.rows) x1 x2)
    (cond (decide (x3.int ≤ 256))
    (spec_l1Byte m (T.l x0.rows) x1 x2
    (fun y0 y1 y2 y3 => cond (!decide (x3.int = 0))
    (k0 (T.i (Int.tmod y0.int x3.int)) (T.l y1.rows) y2 y3)
    (.bad)))
    (spec_l1Byte m (T.l x0.rows) x1 x2
    (fun y4 y5 y6 y7 => spec_l1Byte m (T.l y5.rows) y6 y7
    (fun y8 y9 y10 y11 => spec_l1Byte m (T.l y9.rows) y10 y11
    (fun y12 y13 y14 y15 => cond (!decide (x3.int = 0))
    (k0 (T.i (Int.tmod (IntKind.i64.wrap ((IntKind.i64.wrap ((IntKind.i64.wrap (y4.int * 65536)) + (IntKind.i64.wrap (y8.int * 256)))) + y12.int)) x3.int)) (T.l y13.rows) y14 y15)
    (.bad))))))
noncomputable def spec_l1Below_f : Fs := ⟨21, [.bx [.fz [.sc (.int .u8)] [], AI, AI], .one (AI)], fun m vs k => ap 4 (spec_l1Below m) vs (lm 4 fun z => k (fRet ⟨[.one (RI)], [[none, none, none], [none]], [some [.fz [.sc (.int .u8)] [], RI, RI], none]⟩ z))⟩
noncomputable def spec_l1Below_t : List Fs := spec_l1Below_f :: spec_l1Byte_t
theorem spec_l1Below_g : FGood CX prims spec_l1Below_t ∧ FEqn CX prims spec_l1Below_f := fnG spec_l1Byte_g.1 spec_l1Below_f Try.f21 ⟨21, 2, 31, 17⟩ [] (fun _ _ => rfl) (fun _ _ _ => by kernel_rfl) trivial trivial (fun _ _ _ _ _ => by kernel_rfl)

/-! loop.example/g00244/spec.l1Int -/
noncomputable def spec_l1Int : Nat → T → T → T → T → (T → T → T → T → An) → An
  | 0, _, _, _, _, _ => .bad
  | m + 1, x0, x1, x2, x3, k0 =>
    spec_l1Below m (T.l x0.rows) x1 x2 (T.i (x3.rows.length : Int))
    (fun y0 y1 y2 y3 => cond (decide ((0 : Int) ≤ y0.int ∧ y0.int < (x3.rows.length : Int)))
    (k0 ((x3.rows.getD (Int.toNat y0.int) []).getD 0 dflt) (T.l y1.rows) y2 y3)
    (.bad))
noncomputable def spec_l1Int_f : Fs := ⟨20, [.bx [.fz [.sc (.int .u8)] [], AI, AI], .one (.dz [.sc (.int .i64)] [])], fun m vs k => ap 4 (spec_l1Int m) vs (lm 4 fun z => k (fRet ⟨[.one (RI)], [[none, none, none], [none]], [some [.fz [.sc (.int .u8)] [], RI, RI], none]⟩ z))⟩
noncomputable def spec_l1Int_t : List Fs := spec_l1Int_f :: spec_l1Below_t
theorem spec_l1Int_g : FGood CX prims spec_l1Int_t ∧ FEqn CX prims spec_l1Int_f := fnG spec_l1Below_g.1 spec_l1Int_f Try.f20 ⟨20, 2, 12, 17⟩ [] (fun _ _ => rfl) (fun _ _ _ => by kernel_rfl) trivial trivial (fun _ _ _ _ _ => by kernel_rfl)

/-! loop.example/g00244/spec.l1In -/
noncomputable def spec_l1In : Nat → T → T → T → (T → An) → An
  | 0, _, _, _, _ => .bad
  | m + 1, x0, x1, x2, k0 =>
    cond ((decide (x0.int ≥ x1.int)) == true)
    (k0 (T.b (decide (x0.int ≤ x2.int))))
    (k0 (T.b false))
noncomputable def spec_l1In_f : Fs := ⟨28, [.one (AI), .one (AI), .one (AI)], fun m vs k => ap 3 (spec_l1In m) vs (lm 1 fun z => k (fRet ⟨[.one (RB)], [[none], [none], [none]], [none, none, none]⟩ z))⟩
noncomputable def spec_l1In_t : List Fs := spec_l1In_f :: spec_l1Int_t
theorem spec_l1In_g : FGood CX prims spec_l1In_t ∧ FEqn CX prims spec_l1In_f := fnG spec_l1Int_g.1 spec_l1In_f Try.f28 ⟨28, 3, 15, 64⟩ [] (fun _ _ => rfl) (fun _ _ _ => by kernel_rfl) trivial trivial (fun _ _ _ _ _ => by kernel_rfl)

/-! loop.example/g00244/spec.CoordNew -/
noncomputable def spec_CoordNew : Nat → T → (T → T → T → T → T → T → An) → An
  | 0, _, _ => .bad
  | m + 1, x0, k0 =>
    spec_l1In m x0 (T.i 1) (T.i 8)
    (fun y0 => cond (!y0.bool)
    (k0 (T.i 0) (T.i 0) (T.i 0) (T.l []) (T.l []) (T.i 0))
    (k0 x0 (T.i 1) (T.i 0) (T.l []) (T.l []) (T.i 0)))
noncomputable def spec_CoordNew_f : Fs := ⟨29, [.one (AI)], fun m vs k => ap 1 (spec_CoordNew m) vs (lm 6 fun z => k (fRet ⟨[.agg [RI, RI, RI, .own (KR 0 3) [.sc (.int .i64), .sl [.sc (.int .i64), .sc (.str), .sc (.str)], .sc (.int .i64), .sl [.sc (.int .i64)]] [.F, .F, .F, .F] [], .own (KR 0 4) [.sc (.int .i64), .sc (.bool)] [.F, .F] [], RI]], [[none]], [none]⟩ z))⟩
noncomputable def spec_CoordNew_t : List Fs := spec_CoordNew_f :: spec_l1In_t
theorem spec_CoordNew_g : FGood CX prims spec_CoordNew_t ∧ FEqn CX prims spec_CoordNew_f := fnG spec_l1In_g.1 spec_CoordNew_f Try.f29 ⟨29, 1, 9, 4⟩ [] (fun _ _ => rfl) (fun _ _ _ => by kernel_rfl) trivial trivial (fun _ _ _ _ _ => by kernel_rfl)

/-! loop.example/g00244/spec.ShardNew -/
noncomputable def spec_ShardNew : Nat → T → (T → T → T → T → T → An) → An
  | 0, _, _ => .bad
  | m + 1, x0, k0 =>
    spec_l1In m x0 (T.i 0) (T.i 7)
    (fun y0 => cond (!y0.bool)
    (k0 (T.i 0) (T.l []) (T.i 0) (T.l []) (T.l []))
    (k0 x0 (T.l []) (T.i 0) (T.l []) (T.l [])))
noncomputable def spec_ShardNew_f : Fs := ⟨30, [.one (AI)], fun m vs k => ap 1 (spec_ShardNew m) vs (lm 5 fun z => k (fRet ⟨[.agg [RI, .own (KR 0 1) [.sc (.int .i64), .sc (.int .i64), .sl [.sc (.int .i64), .sc (.str), .sc (.str)]] [.F, .F, .F] [], RI, .own (KR 0 3) [.sc (.str), .sc (.str)] [.F, .F] [], .own (KR 0 4) [.sc (.int .i64), .sc (.int .i64), .sl [.sc (.int .i64), .sc (.str), .sc (.str)]] [.F, .F, .F] []]], [[none]], [none]⟩ z))⟩
noncomputable def spec_ShardNew_t : List Fs := spec_ShardNew_f :: spec_CoordNew_t
theorem spec_ShardNew_g : FGood CX prims spec_ShardNew_t ∧ FEqn CX prims spec_ShardNew_f := fnG spec_CoordNew_g.1 spec_ShardNew_f Try.f30 ⟨30, 1, 9, 4⟩ [] (fun _ _ => rfl) (fun _ _ _ => by kernel_rfl) trivial trivial (fun _ _ _ _ _ => by kernel_rfl)

/-! loop.example/g00244/spec.WorldNew -/
noncomputable def spec_WorldNew_L0_0 (m : Nat) : Nat → T → T → T → T → T → T → T → T → T → T → T → T → T → T → T → T → T → T → T → T → T → T → T → T → (T → T → T → T → T → T → T → T → T → T → T → T → T → T → T → T → T → T → T → T → T → T → An) → An
  | 0, _, _, _, _, _, _, _, _, _, _, _, _, _, _, _, _, _, _, _, _, _, _, _, _, _ => .bad
  | n + 1, x0, x1, x2, x3, x4, x5, x6, x7, x8, x9, x10, x11, x12, x13, x14, x15, x16, x17, x18, x19, x20, x21, x22, x23, k0 =>
    cond (decide (x3.int < x0.int))
    (spec_ShardNew m x3
    (fun y7 y8 y9 y10 y11 => cond (decide ((x20.rows.length + 1) * 5 ≤ maxRow))
    (spec_WorldNew_L0_0 m n x0 (T.i (x1.int.toNat : Int)) (T.i (x2.int.toNat : Int)) (T.i (IntKind.i64.wrap (x3.int + 1))) x4 x5 x6 x7 x8 x9 x10 x11 (T.l x12.rows) (T.l x13.rows) (T.l x14.rows) (T.l x15.rows) (T.l x16.rows) (T.l x17.rows) (T.l x18.rows) (T.l x19.rows) (T.l (x20.rows ++ [[y7, (T.l y8.rows), y9, (T.l y10.rows), (T.l y11.rows)]])) (T.l x21.rows) (T.l x22.rows) (T.l x23.rows) k0)
    (.bad)))
    (k0 (T.i (x1.int.toNat : Int)) (T.i (x2.int.toNat : Int)) x4 x5 x6 x7 x8 x9 x10 x11 (T.l x12.rows) (T.l x13.rows) (T.l x14.rows) (T.l x15.rows) (T.l x16.rows) (T.l x17.rows) (T.l x18.rows) (T.l x19.rows) (T.l x20.rows) (T.l x21.rows) (T.l x22.rows) (T.l x23.rows))
noncomputable def spec_WorldNew : Nat → T → (T → T → T → T → T → T → T → T → T → T → An) → An
  | 0, _, _ => .bad
  | m + 1, x0, k0 =>
    spec_l1In m x0 (T.i 1) (T.i 8)
    (fun y0 => cond (!y0.bool)
    (k0 (T.i 0) (T.i 0) (T.i 0) (T.l []) (T.l []) (T.i 0) (T.l []) (T.l []) (T.l []) (T.l []))
    (spec_CoordNew m x0
    (fun y1 y2 y3 y4 y5 y6 => spec_WorldNew_L0_0 m m x0 (T.i 0) (T.i 0) (T.i 0) (T.i 0) (T.i 0) (T.i 0) (T.i 0) y1 y2 y3 y6 (T.l []) (T.l []) (T.l []) (T.l []) (T.l []) (T.l []) (T.l y4.rows) (T.l y5.rows) (T.l []) (T.l []) (T.l []) (T.l [])
    (fun y12 y13 y14 y15 y16 y17 y18 y19 y20 y21 y22 y23 y24 y25 y26 y27 y28 y29 y30 y31 y32 y33 => k0 y18 y19 y20 (T.l y28.rows) (T.l y29.rows) y21 (T.l y30.rows) (T.l y31.rows) (T.l y32.rows) (T.l y33.rows)))))
noncomputable def spec_WorldNew_f : Fs := ⟨19, [.one (AI)], fun m vs k => ap 1 (spec_WorldNew m) vs (lm 10 fun z => k (fRet ⟨[.agg [RI, RI, RI, .own (KR 0 3) [.sc (.int .i64), .sl [.sc (.int .i64), .sc (.str), .sc (.str)], .sc (.int .i64), .sl [.sc (.int .i64)]] [.F, .F, .F, .F] [], .own (KR 0 4) [.sc (.int .i64), .sc (.bool)] [.F, .F] [], RI, .own (KR 0 6) [.sc (.int .i64), .sl [.sc (.int .i64), .sc (.int .i64), .sl [.sc (.int .i64), .sc (.str), .sc (.str)]], .sc (.int .i64), .sl [.sc (.str), .sc (.str)], .sl [.sc (.int .i64), .sc (.int .i64), .sl [.sc (.int .i64), .sc (.str), .sc (.str)]]] [.F, .O [.F, .F, .F], .F, .O [.F, .F], .O [.F, .F, .F]] [], .own (KR 0 7) [.sc (.int .i64), .sc (.int .i64), .sc (.int .i64), .sl [.sc (.int .i64), .sc (.str), .sc (.str)], .sc (.bool)] [.F, .F, .F, .F, .F] [], .own (KR 0 8) [.sc (.int .i64), .sc (.int .i64), .sc (.int .i64), .sl [.sc (.int .i64), .sc (.str), .sc (.str)], .sc (.bool)] [.F, .F, .F, .F, .F] [], .own (KR 0 9) [.sc (.int .i64), .sl [.sc (.int .i64), .sc (.str), .sc (.str)]] [.F, .F] []]], [[none]], [none]⟩ z))⟩
noncomputable def spec_WorldNew_l : List Ls := [⟨[0, 1, 0, 1, 1, 1], ⟨[(0, .one (LI)), (2, EP 0), (3, EP 1), (4, .one (LI))], [((KI 0), .box [LI, LI, LI, LA (KI 2) [.sc (.int .i64), .sl [.sc (.int .i64), .sc (.str), .sc (.str)], .sc (.int .i64), .sl [.sc (.int .i64)]], LA (KI 3) [.sc (.int .i64), .sc (.bool)], LI, LA (KI 4) [.sc (.int .i64), .sl [.sc (.int .i64), .sc (.int .i64), .sl [.sc (.int .i64), .sc (.str), .sc (.str)]], .sc (.int .i64), .sl [.sc (.str), .sc (.str)], .sl [.sc (.int .i64), .sc (.int .i64), .sl [.sc (.int .i64), .sc (.str), .sc (.str)]]], LA (KI 5) [.sc (.int .i64), .sc (.int .i64), .sc (.int .i64), .sl [.sc (.int .i64), .sc (.str), .sc (.str)], .sc (.bool)], LA (KI 6) [.sc (.int .i64), .sc (.int .i64), .sc (.int .i64), .sl [.sc (.int .i64), .sc (.str), .sc (.str)], .sc (.bool)], LA (KI 7) [.sc (.int .i64), .sl [.sc (.int .i64), .sc (.str), .sc (.str)]]]), ((KI 1), .box [LI, LI, LI, LA (KI 8) [.sc (.int .i64), .sl [.sc (.int .i64), .sc (.str), .sc (.str)], .sc (.int .i64), .sl [.sc (.int .i64)]], LA (KI 9) [.sc (.int .i64), .sc (.bool)], LI, LA (KI 10) [.sc (.int .i64), .sl [.sc (.int .i64), .sc (.int .i64), .sl [.sc (.int .i64), .sc (.str), .sc (.str)]], .sc (.int .i64), .sl [.sc (.str), .sc (.str)], .sl [.sc (.int .i64), .sc (.int .i64), .sl [.sc (.int .i64), .sc (.str), .sc (.str)]]], LA (KI 11) [.sc (.int .i64), .sc (.int .i64), .sc (.int .i64), .sl [.sc (.int .i64), .sc (.str), .sc (.str)], .sc (.bool)], LA (KI 12) [.sc (.int .i64), .sc (.int .i64), .sc (.int .i64), .sl [.sc (.int .i64), .sc (.str), .sc (.str)], .sc (.bool)], LA (KI 13) [.sc (.int .i64), .sl [.sc (.int .i64), .sc (.str), .sc (.str)]]]), ((KI 2), .row [.sc (.int .i64), .sl [.sc (.int .i64), .sc (.str), .sc (.str)], .sc (.int .i64), .sl [.sc (.int .i64)]] [.F, .F, .F, .F] []), ((KI 3), .row [.sc (.int .i64), .sc (.bool)] [.F, .F] []), ((KI 4), .row [.sc (.int .i64), .sl [.sc (.int .i64), .sc (.int .i64), .sl [.sc (.int .i64), .sc (.str), .sc (.str)]], .sc (.int .i64), .sl [.sc (.str), .sc (.str)], .sl [.sc (.int .i64), .sc (.int .i64), .sl [.sc (.int .i64), .sc (.str), .sc (.str)]]] [.F, .O [.F, .F, .F], .F, .O [.F, .F], .O [.F, .F, .F]] []), ((KI 5), .row [.sc (.int .i64), .sc (.int .i64), .sc (.int .i64), .sl [.sc (.int .i64), .sc (.str), .sc (.str)], .sc (.bool)] [.F, .F, .F, .F, .F] []), ((KI 6), .row [.sc (.int .i64), .sc (.int .i64), .sc (.int .i64), .sl [.sc (.int .i64), .sc (.str), .sc (.str)], .sc (.bool)] [.F, .F, .F, .F, .F] []), ((KI 7), .row [.sc (.int .i64), .sl [.sc (.int .i64), .sc (.str), .sc (.str)]] [.F, .F] []), ((KI 8), .row [.sc (.int .i64), .sl [.sc (.int .i64), .sc (.str), .sc (.str)], .sc (.int .i64), .sl [.sc (.int .i64)]] [.F, .F, .F, .F] []), ((KI 9), .row [.sc (.int .i64), .sc (.bool)] [.F, .F] []), ((KI 10), .row [.sc (.int .i64), .sl [.sc (.int .i64), .sc (.int .i64), .sl [.sc (.int .i64), .sc (.str), .sc (.str)]], .sc (.int .i64), .sl [.sc (.str), .sc (.str)], .sl [.sc (.int .i64), .sc (.int .i64), .sl [.sc (.int .i64), .sc (.str), .sc (.str)]]] [.F, .O [.F, .F, .F], .F, .O [.F, .F], .O [.F, .F, .F]] []), ((KI 11), .row [.sc (.int .i64), .sc (.int .i64), .sc (.int .i64), .sl [.sc (.int .i64), .sc (.str), .sc (.str)], .sc (.bool)] [.F, .F, .F, .F, .F] []), ((KI 12), .row [.sc (.int .i64), .sc (.int .i64), .sc (.int .i64), .sl [.sc (.int .i64), .sc (.str), .sc (.str)], .sc (.bool)] [.F, .F, .F, .F, .F] []), ((KI 13), .row [.sc (.int .i64), .sl [.sc (.int .i64), .sc (.str), .sc (.str)]] [.F, .F] [])]⟩, fun m n vs k => ap 24 (spec_WorldNew_L0_0 m n) vs (lm 22 fun z => k (.exit 0) (fPack ⟨[(2, EP 0), (3, EP 1)], [((KI 0), .box [LI, LI, LI, LA (KI 2) [.sc (.int .i64), .sl [.sc (.int .i64), .sc (.str), .sc (.str)], .sc (.int .i64), .sl [.sc (.int .i64)]], LA (KI 3) [.sc (.int .i64), .sc (.bool)], LI, LA (KI 4) [.sc (.int .i64), .sl [.sc (.int .i64), .sc (.int .i64), .sl [.sc (.int .i64), .sc (.str), .sc (.str)]], .sc (.int .i64), .sl [.sc (.str), .sc (.str)], .sl [.sc (.int .i64), .sc (.int .i64), .sl [.sc (.int .i64), .sc (.str), .sc (.str)]]], LA (KI 5) [.sc (.int .i64), .sc (.int .i64), .sc (.int .i64), .sl [.sc (.int .i64), .sc (.str), .sc (.str)], .sc (.bool)], LA (KI 6) [.sc (.int .i64), .sc (.int .i64), .sc (.int .i64), .sl [.sc (.int .i64), .sc (.str), .sc (.str)], .sc (.bool)], LA (KI 7) [.sc (.int .i64), .sl [.sc (.int .i64), .sc (.str), .sc (.str)]]]), ((KI 1), .box [LI, LI, LI, LA (KI 8) [.sc (.int .i64), .sl [.sc (.int .i64), .sc (.str), .sc (.str)], .sc (.int .i64), .sl [.sc (.int .i64)]], LA (KI 9) [.sc (.int .i64), .sc (.bool)], LI, LA (KI 10) [.sc (.int .i64), .sl [.sc (.int .i64), .sc (.int .i64), .sl [.sc (.int .i64), .sc (.str), .sc (.str)]], .sc (.int .i64), .sl [.sc (.str), .sc (.str)], .sl [.sc (.int .i64), .sc (.int .i64), .sl [.sc (.int .i64), .sc (.str), .sc (.str)]]], LA (KI 11) [.sc (.int .i64), .sc (.int .i64), .sc (.int .i64), .sl [.sc (.int .i64), .sc (.str), .sc (.str)], .sc (.bool)], LA (KI 12) [.sc (.int .i64), .sc (.int .i64), .sc (.int .i64), .sl [.sc (.int .i64), .sc (.str), .sc (.str)], .sc (.bool)], LA (KI 13) [.sc (.int .i64), .sl [.sc (.int .i64), .sc (.str), .sc (.str)]]]), ((KI 2), .row [.sc (.int .i64), .sl [.sc (.int .i64), .sc (.str), .sc (.str)], .sc (.int .i64), .sl [.sc (.int .i64)]] [.F, .F, .F, .F] []), ((KI 3), .row [.sc (.int .i64), .sc (.bool)] [.F, .F] []), ((KI 4), .row [.sc (.int .i64), .sl [.sc (.int .i64), .sc (.int .i64), .sl [.sc (.int .i64), .sc (.str), .sc (.str)]], .sc (.int .i64), .sl [.sc (.str), .sc (.str)], .sl [.sc (.int .i64), .sc (.int .i64), .sl [.sc (.int .i64), .sc (.str), .sc (.str)]]] [.F, .O [.F, .F, .F], .F, .O [.F, .F], .O [.F, .F, .F]] []), ((KI 5), .row [.sc (.int .i64), .sc (.int .i64), .sc (.int .i64), .sl [.sc (.int .i64), .sc (.str), .sc (.str)], .sc (.bool)] [.F, .F, .F, .F, .F] []), ((KI 6), .row [.sc (.int .i64), .sc (.int .i64), .sc (.int .i64), .sl [.sc (.int .i64), .sc (.str), .sc (.str)], .sc (.bool)] [.F, .F, .F, .F, .F] []), ((KI 7), .row [.sc (.int .i64), .sl [.sc (.int .i64), .sc (.str), .sc (.str)]] [.F, .F] []), ((KI 8), .row [.sc (.int .i64), .sl [.sc (.int .i64), .sc (.str), .sc (.str)], .sc (.int .i64), .sl [.sc (.int .i64)]] [.F, .F, .F, .F] []), ((KI 9), .row [.sc (.int .i64), .sc (.bool)] [.F, .F] []), ((KI 10), .row [.sc (.int .i64), .sl [.sc (.int .i64), .sc (.int .i64), .sl [.sc (.int .i64), .sc (.str), .sc (.str)]], .sc (.int .i64), .sl [.sc (.str), .sc (.str)], .sl [.sc (.int .i64), .sc (.int .i64), .sl [.sc (.int .i64), .sc (.str), .sc (.str)]]] [.F, .O [.F, .F, .F], .F, .O [.F, .F], .O [.F, .F, .F]] []), ((KI 11), .row [.sc (.int .i64), .sc (.int .i64), .sc (.int .i64), .sl [.sc (.int .i64), .sc (.str), .sc (.str)], .sc (.bool)] [.F, .F, .F, .F, .F] []), ((KI 12), .row [.sc (.int .i64), .sc (.int .i64), .sc (.int .i64), .sl [.sc (.int .i64), .sc (.str), .sc (.str)], .sc (.bool)] [.F, .F, .F, .F, .F] []), ((KI 13), .row [.sc (.int .i64), .sl [.sc (.int .i64), .sc (.str), .sc (.str)]] [.F, .F] [])]⟩ z))⟩]
noncomputable def spec_WorldNew_t : List Fs := spec_WorldNew_f :: spec_ShardNew_t
theorem spec_WorldNew_g : FGood CX prims spec_WorldNew_t ∧ FEqn CX prims spec_WorldNew_f := fnG spec_ShardNew_g.1 spec_WorldNew_f Try.f19 ⟨19, 1, 25, 4⟩ spec_WorldNew_l (fun _ _ => rfl) (fun _ _ _ => by kernel_rfl) ⟨fun _ _ _ => rfl, trivial⟩ ⟨fun _ _ _ _ _ _ => by kernel_rfl, trivial⟩ (fun _ _ _ _ _ => by kernel_rfl)

/-! loop.example/g00244/spec.l1Once -/
noncomputable def spec_l1Once : Nat → T → T → T → T → (T → T → T → T → An) → An
  | 0, _, _, _, _, _ => .bad
  | m + 1, x0, x1, x2, x3, k0 =>
    spec_l1Below m (T.l x0.rows) x1 x2 x3
    (fun y0 y1 y2 y3 => k0 (T.b (y0.int == 0)) (T.l y1.rows) y2 y3)
noncomputable def spec_l1Once_f : Fs := ⟨38, [.bx [.fz [.sc (.int .u8)] [], AI, AI], .one (AI)], fun m vs k => ap 4 (spec_l1Once m) vs (lm 4 fun z => k (fRet ⟨[.one (RB)], [[none, none, none], [none]], [some [.fz [.sc (.int .u8)] [], RI, RI], none]⟩ z))⟩
noncomputable def spec_l1Once_t : List Fs := spec_l1Once_f :: spec_WorldNew_t
theorem spec_l1Once_g : FGood CX prims spec_l1Once_t ∧ FEqn CX prims spec_l1Once_f := fnG spec_WorldNew_g.1 spec_l1Once_f Try.f38 ⟨38, 2, 9, 17⟩ [] (fun _ _ => rfl) (fun _ _ _ => by kernel_rfl) trivial trivial (fun _ _ _ _ _ => by kernel_rfl)

/-! loop.example/g00244/spec.l1Str -/
noncomputable def spec_l1Str : Nat → T → T → T → T → (T → T → T → T → An) → An
  | 0, _, _, _, _, _ => .bad
  | m + 1, x0, x1, x2, x3, k0 =>
    spec_l1Below m (T.l x0.rows) x1 x2 (T.i (x3.rows.length : Int))
    (fun y0 y1 y2 y3 => cond (decide ((0 : Int) ≤ y0.int ∧ y0.int < (x3.rows.length : Int)))
    (k0 ((x3.rows.getD (Int.toNat y0.int) []).getD 0 dflt) (T.l y1.rows) y2 y3)
    (.bad))
noncomputable def spec_l1Str_f : Fs := ⟨63, [.bx [.fz [.sc (.int .u8)] [], AI, AI], .one (.dz [.sc (.str)] [])], fun m vs k => ap 4 (spec_l1Str m) vs (lm 4 fun z => k (fRet ⟨[.one (RS)], [[none, none, none], [none]], [some [.fz [.sc (.int .u8)] [], RI, RI], none]⟩ z))⟩
noncomputable def spec_l1Str_t : List Fs := spec_l1Str_f :: spec_l1Once_t
theorem spec_l1Str_g : FGood CX prims spec_l1Str_t ∧ FEqn CX prims spec_l1Str_f := fnG spec_l1Once_g.1 spec_l1Str_f Try.f63 ⟨63, 2, 12, 17⟩ [] (fun _ _ => rfl) (fun _ _ _ => by kernel_rfl) trivial trivial (fun _ _ _ _ _ => by kernel_rfl)

/-! loop.example/g00244/spec.l3Key -/
noncomputable def spec_l3Key : Nat → T → T → T → (T → T → T → T → An) → An
  | 0, _, _, _, _ => .bad
  | m + 1, x0, x1, x2, k0 =>
    spec_l1Str m (T.l x0.rows) x1 x2 (T.l [[(T.s (⟨#[97]⟩ : ByteArray))], [(T.s (⟨#[98]⟩ : ByteArray))], [(T.s (⟨#[99]⟩ : ByteArray))], [(T.s (⟨#[107, 49]⟩ : ByteArray))], [(T.s (⟨#[107, 50]⟩ : ByteArray))], [(T.s (⟨#[109]⟩ : ByteArray))], [(T.s (⟨#[122]⟩ : ByteArray))]])
    (fun y0 y1 y2 y3 => k0 y0 (T.l y1.rows) y2 y3)
noncomputable def spec_l3Key_f : Fs := ⟨62, [.bx [.fz [.sc (.int .u8)] [], AI, AI]], fun m vs k => ap 3 (spec_l3Key m) vs (lm 4 fun z => k (fRet ⟨[.one (RS)], [[none, none, none]], [some [.fz [.sc (.int .u8)] [], RI, RI]]⟩ z))⟩
noncomputable def spec_l3Key_t : List Fs := spec_l3Key_f :: spec_l1Str_t
theorem spec_l3Key_g : FGood CX prims spec_l3Key_t ∧ FEqn CX prims spec_l3Key_f := fnG spec_l1Str_g.1 spec_l3Key_f Try.f62 ⟨62, 1, 6, 5⟩ [] (fun _ _ => rfl) (fun _ _ _ => by kernel_rfl) trivial trivial (fun _ _ _ _ _ => by kernel_rfl)

/-! loop.example/g00244/spec.l7Op1 -/
noncomputable def spec_l7Op1 : Nat → T → T → T → (T → T → T → T → T → T → An) → An
  | 0, _, _, _, _ => .bad
  | m + 1, x0, x1, x2, k0 =>
    spec_l1Int m (T.l x0.rows) x1 x2 (T.l [[(T.i 1)], [(T.i 1)], [(T.i 1)], [(T.i 2)], [(T.i 3)]])
    (fun y0 y1 y2 y3 => spec_l3Key m (T.l y1.rows) y2 y3
    (fun y4 y5 y6 y7 => cond (y0.int != 2)
    (spec_l1Str m (T.l y5.rows) y6 y7 (T.l [[(T.s (⟨#[49]⟩ : ByteArray))], [(T.s (⟨#[50]⟩ : ByteArray))], [(T.s (⟨#[120]⟩ : ByteArray))], [(T.s (⟨#[]⟩ : ByteArray))], [(T.s (⟨#[49]⟩ : ByteArray))]])
    (fun y8 y9 y10 y11 => k0 y0 y4 y8 (T.l y9.rows) y10 y11))
    (k0 y0 y4 (T.s (⟨#[]⟩ : ByteArray)) (T.l y5.rows) y6 y7)))
noncomputable def spec_l7Op1_f : Fs := ⟨51, [.bx [.fz [.sc (.int .u8)] [], AI, AI]], fun m vs k => ap 3 (spec_l7Op1 m) vs (lm 6 fun z => k (fRet ⟨[.agg [RI, RS, RS]], [[none, none, none]], [some [.fz [.sc (.int .u8)] [], RI, RI]]⟩ z))⟩
noncomputable def spec_l7Op1_t : List Fs := spec_l7Op1_f :: spec_l3Key_t
theorem spec_l7Op1_g : FGood CX prims spec_l7Op1_t ∧ FEqn CX prims spec_l7Op1_f := fnG spec_l3Key_g.1 spec_l7Op1_f Try.f51 ⟨51, 1, 18, 5⟩ [] (fun _ _ => rfl) (fun _ _ _ => by kernel_rfl) trivial trivial (fun _ _ _ _ _ => by kernel_rfl)

/-! loop.example/g00244/spec.l7One -/
noncomputable def spec_l7One_L0_0 (m : Nat) : Nat → T → T → T → T → T → T → T → T → (T → T → T → T → T → T → An) → An
  | 0, _, _, _, _, _, _, _, _, _ => .bad
  | n + 1, x0, x1, x2, x3, x4, x5, x6, x7, k0 =>
    cond (decide (x3.int < (x0.rows.length : Int)))
    (jn (fun (j3 : T → T → An) =>
    cond ((!x2.bool) == true)
    (cond (decide ((0 : Int) ≤ x3.int ∧ x3.int < (x0.rows.length : Int)))
    (cond (!(Op.bytesLess (((x0.rows.getD (Int.toNat x3.int) []).drop 1).getD 0 dflt).str.toList x5.str.toList))
    (cond (decide ((x7.rows.length + 1) * 3 ≤ maxRow))
    (j3 (T.b true) (T.l (x7.rows ++ [[x4, x5, x6]])))
    (.bad))
    (j3 x2 (T.l x7.rows)))
    (.bad))
    (j3 x2 (T.l x7.rows)))
    (fun y1 y2 => cond (decide ((0 : Int) ≤ x3.int ∧ x3.int < (x0.rows.length : Int)))
    (cond (!((((x0.rows.getD (Int.toNat x3.int) []).drop 1).getD 0 dflt).str.toList == x5.str.toList))
    (cond (decide ((0 : Int) ≤ x3.int ∧ x3.int < (x0.rows.length : Int)))
    (cond (decide ((y2.rows.length + 1) * 3 ≤ maxRow))
    (spec_l7One_L0_0 m n x0 (T.i (x1.int.toNat : Int)) y1 (T.i (IntKind.i64.wrap (x3.int + 1))) x4 x5 x6 (T.l (y2.rows ++ [[((x0.rows.getD (Int.toNat x3.int) []).getD 0 dflt), ((x0.rows.getD (Int.toNat x3.int) []).getD 1 dflt), ((x0.rows.getD (Int.toNat x3.int) []).getD 2 dflt)]])) k0)
    (.bad))
    (.bad))
    (spec_l7One_L0_0 m n x0 (T.i (x1.int.toNat : Int)) y1 (T.i (IntKind.i64.wrap (x3.int + 1))) x4 x5 x6 (T.l y2.rows) k0))
    (.bad)))
    (k0 (T.i (x1.int.toNat : Int)) x2 x4 x5 x6 (T.l x7.rows))
noncomputable def spec_l7One : Nat → T → T → T → T → (T → An) → An
  | 0, _, _, _, _, _ => .bad
  | m + 1, x0, x1, x2, x3, k0 =>
    spec_l7One_L0_0 m m (T.l x0.rows) (T.i 0) (T.b false) (T.i 0) x1 x2 x3 (T.l [])
    (fun y8 y9 y10 y11 y12 y13 => cond (!y9.bool)
    (cond (decide ((y13.rows.length + 1) * 3 ≤ maxRow))
    (k0 (T.l (y13.rows ++ [[y10, y11, y12]])))
    (.bad))
    (k0 (T.l y13.rows)))
noncomputable def spec_l7One_f : Fs := ⟨50, [.one (.dz [.sc (.int .i64), .sc (.str), .sc (.str)] []), .agg [AI, AS, AS]], fun m vs k => ap 4 (spec_l7One m) vs (lm 1 fun z => k (fRet ⟨[.one (.own (KR 0 0) [.sc (.int .i64), .sc (.str), .sc (.str)] [.F, .F, .F] [])], [[none], [none, none, none]], [none, none]⟩ z))⟩
noncomputable def spec_l7One_l : List Ls := [⟨[0, 1, 0, 1, 1, 1], ⟨[(0, .one (LD [.sc (.int .i64), .sc (.str), .sc (.str)])), (3, EP 1), (5, .one (LA (KI 2) [.sc (.int .i64), .sc (.str), .sc (.str)])), (6, .one (LB)), (7, .one (LI))], [([4000000], .gone), ((KI 1), .box [LI, LS, LS]), ((KI 2), .row [.sc (.int .i64), .sc (.str), .sc (.str)] [.F, .F, .F] [])]⟩, fun m n vs k => ap 8 (spec_l7One_L0_0 m n) vs (lm 6 fun z => k (.exit 0) (fPack ⟨[(3, EP 0), (5, .one (LA (KI 1) [.sc (.int .i64), .sc (.str), .sc (.str)])), (6, .one (LB))], [((KI 0), .box [LI, LS, LS]), ((KI 1), .row [.sc (.int .i64), .sc (.str), .sc (.str)] [.F, .F, .F] [])]⟩ z))⟩]
noncomputable def spec_l7One_t : List Fs := spec_l7One_f :: spec_l7Op1_t
theorem spec_l7One_g : FGood CX prims spec_l7One_t ∧ FEqn CX prims spec_l7One_f := fnG spec_l7Op1_g.1 spec_l7One_f Try.f50 ⟨50, 2, 53, 16⟩ spec_l7One_l (fun _ _ => rfl) (fun _ _ _ => by kernel_rfl) ⟨fun _ _ _ => rfl, trivial⟩ ⟨fun _ _ _ _ _ _ => by kernel_rfl, trivial⟩ (fun _ _ _ _ _ => by kernel_rfl)

/-! loop.example/g00244/spec.l7Draw -/
noncomputable def spec_l7Draw_L0_0 (m : Nat) : Nat → T → T → T → T → T → T → (T → T → T → T → T → An) → An
  | 0, _, _, _, _, _, _, _ => .bad
  | n + 1, x0, x1, x2, x3, x4, x5, k0 =>
    cond (decide (x1.int > 0))
    (spec_l7Op1 m (T.l x2.rows) x3 x4
    (fun y4 y5 y6 y7 y8 y9 => spec_l7One m (T.l x5.rows) y4 y5 y6
    (fun y10 => spec_l7Draw_L0_0 m n (T.i (x0.int.toNat : Int)) (T.i (IntKind.i64.wrap (x1.int - 1))) (T.l y7.rows) y8 y9 (T.l y10.rows) k0)))
    (k0 (T.i (x0.int.toNat : Int)) x2 x3 x4 (T.l x5.rows))
noncomputable def spec_l7Draw : Nat → T → T → T → (T → T → T → T → An) → An
  | 0, _, _, _, _ => .bad
  | m + 1, x0, x1, x2, k0 =>
    spec_l1Below m (T.l x0.rows) x1 x2 (T.i 4)
    (fun y0 y1 y2 y3 => spec_l7Draw_L0_0 m m (T.i 0) (T.i (IntKind.i64.wrap (1 + y0.int))) (T.l y1.rows) y2 y3 (T.l [])
    (fun y11 y12 y13 y14 y15 => k0 (T.l y15.rows) (T.l y12.rows) y13 y14))
noncomputable def spec_l7Draw_f : Fs := ⟨39, [.bx [.fz [.sc (.int .u8)] [], AI, AI]], fun m vs k => ap 3 (spec_l7Draw m) vs (lm 4 fun z => k (fRet ⟨[.one (.own (KR 0 0) [.sc (.int .i64), .sc (.str), .sc (.str)] [.F, .F, .F] [])], [[none, none, none]], [some [.fz [.sc (.int .u8)] [], RI, RI]]⟩ z))⟩
noncomputable def spec_l7Draw_l : List Ls := [⟨[0, 1, 0, 1, 1], ⟨[(0, .ptr [0, 999999] 0 0 0), (3, .one (LA (KI 1) [.sc (.int .i64), .sc (.str), .sc (.str)])), (4, .one (LI))], [([0, 999999], .box [LZ [.sc (.int .u8)], LI, LI]), ((KI 1), .row [.sc (.int .i64), .sc (.str), .sc (.str)] [.F, .F, .F] [])]⟩, fun m n vs k => ap 6 (spec_l7Draw_L0_0 m n) vs (lm 5 fun z => k (.exit 0) (fPack ⟨[(0, .ptr [0, 999999] 0 0 0), (3, .one (LA (KI 1) [.sc (.int .i64), .sc (.str), .sc (.str)]))], [([0, 999999], .box [LZ [.sc (.int .u8)], LI, LI]), ((KI 1), .row [.sc (.int .i64), .sc (.str), .sc (.str)] [.F, .F, .F] [])]⟩ z))⟩]
noncomputable def spec_l7Draw_t : List Fs := spec_l7Draw_f :: spec_l7One_t
theorem spec_l7Draw_g : FGood CX prims spec_l7Draw_t ∧ FEqn CX prims spec_l7Draw_f := fnG spec_l7One_g.1 spec_l7Draw_f Try.f39 ⟨39, 1, 18, 5⟩ spec_l7Draw_l (fun _ _ => rfl) (fun _ _ _ => by kernel_rfl) ⟨fun _ _ _ => rfl, trivial⟩ ⟨fun _ _ _ _ _ _ => by kernel_rfl, trivial⟩ (fun _ _ _ _ _ => by kernel_rfl)

/-! loop.example/g00244/spec.l12Event -/
noncomputable def spec_l12Event : Nat → T → T → T → T → T → T → T → T → T → T → T → T → T → (T → T → T → T → T → T → T → An) → An
  | 0, _, _, _, _, _, _, _, _, _, _, _, _, _, _ => .bad
  | m + 1, x0, x1, x2, x3, x4, x5, x6, x7, x8, x9, x10, x11, x12, k0 =>
    jn (fun (j16 : T → T → T → T → An) =>
    cond ((decide ((x10.rows.length : Int) > 0)) == true)
    (spec_l1Once m (T.l x0.rows) x1 x2 (T.i 2)
    (fun y0 y1 y2 y3 => j16 (T.b y0.bool) (T.l y1.rows) y2 y3))
    (j16 (T.b false) (T.l x0.rows) x1 x2))
    (fun y4 y5 y6 y7 => cond y4.bool
    (spec_l1Int m (T.l y5.rows) y6 y7 (T.l [[(T.i 2)], [(T.i 2)], [(T.i 2)], [(T.i 2)], [(T.i 2)], [(T.i 2)], [(T.i 3)], [(T.i 4)]])
    (fun y8 y9 y10 y11 => spec_l1Below m (T.l y9.rows) y10 y11 (T.i (x10.rows.length : Int))
    (fun y12 y13 y14 y15 => k0 y8 y12 (T.i 0) (T.l []) (T.l y13.rows) y14 y15)))
    (spec_l1Below m (T.l y5.rows) y6 y7 (T.i (x9.rows.length : Int))
    (fun y17 y18 y19 y20 => spec_l1Below m (T.l y18.rows) y19 y20 (T.i 14)
    (fun y21 y22 y23 y24 => jn (fun (j44 : T → An) =>
    cond (y21.int == 0)
    (j44 (T.b true))
    (cond (y21.int == 1)
    (j44 (T.b true))
    (j44 (T.b (y21.int == 2)))))
    (fun y25 => cond y25.bool
    (spec_l7Draw m (T.l y22.rows) y23 y24
    (fun y26 y27 y28 y29 => k0 (T.i 1) (T.i 0) (T.i 0) (T.l y26.rows) (T.l y27.rows) y28 y29))
    (jn (fun (j43 : T → An) =>
    cond (y21.int == 3)
    (j43 (T.b true))
    (cond (y21.int == 4)
    (j43 (T.b true))
    (cond (y21.int == 5)
    (j43 (T.b true))
    (j43 (T.b (y21.int == 6))))))
    (fun y30 => cond y30.bool
    (k0 (T.i 5) y17 (T.i 0) (T.l []) (T.l y22.rows) y23 y24)
    (jn (fun (j42 : T → An) =>
    cond (y21.int == 7)
    (j42 (T.b true))
    (j42 (T.b (y21.int == 8))))
    (fun y31 => cond y31.bool
    (k0 (T.i 6) (T.i 0) (T.i 0) (T.l []) (T.l y22.rows) y23 y24)
    (jn (fun (j41 : T → An) =>
    cond (y21.int == 9)
    (j41 (T.b true))
    (j41 (T.b (y21.int == 10))))
    (fun y32 => cond y32.bool
    (k0 (T.i 7) (T.i 0) (T.i 0) (T.l []) (T.l y22.rows) y23 y24)
    (cond (y21.int == 11)
    (k0 (T.i 8) y17 (T.i 0) (T.l []) (T.l y22.rows) y23 y24)
    (cond (y21.int == 12)
    (spec_l1Below m (T.l y22.rows) y23 y24 (T.i 3)
    (fun y33 y34 y35 y36 => k0 (T.i 9) y17 y33 (T.l []) (T.l y34.rows) y35 y36))
    (spec_l1Below m (T.l y22.rows) y23 y24 (T.i 3)
    (fun y37 y38 y39 y40 => k0 (T.i 10) (T.i 0) y37 (T.l []) (T.l y38.rows) y39 y40)))))))))))))))
noncomputable def spec_l12Event_f : Fs := ⟨23, [.bx [.fz [.sc (.int .u8)] [], AI, AI], .agg [AI, AI, AI, .dz [.sc (.int .i64), .sl [.sc (.int .i64), .sc (.str), .sc (.str)], .sc (.int .i64), .sl [.sc (.int .i64)]] [], .dz [.sc (.int .i64), .sc (.bool)] [], AI, .dz [.sc (.int .i64), .sl [.sc (.int .i64), .sc (.int .i64), .sl [.sc (.int .i64), .sc (.str), .sc (.str)]], .sc (.int .i64), .sl [.sc (.str), .sc (.str)], .sl [.sc (.int .i64), .sc (.int .i64), .sl [.sc (.int .i64), .sc (.str), .sc (.str)]]] [], .dz [.sc (.int .i64), .sc (.int .i64), .sc (.int .i64), .sl [.sc (.int .i64), .sc (.str), .sc (.str)], .sc (.bool)] [], .dz [.sc (.int .i64), .sc (.int .i64), .sc (.int .i64), .sl [.sc (.int .i64), .sc (.str), .sc (.str)], .sc (.bool)] [], .dz [.sc (.int .i64), .sl [.sc (.int .i64), .sc (.str), .sc (.str)]] []]], fun m vs k => ap 13 (spec_l12Event m) vs (lm 7 fun z => k (fRet ⟨[.agg [RI, RI, RI, .own (KR 0 3) [.sc (.int .i64), .sc (.str), .sc (.str)] [.F, .F, .F] []]], [[none, none, none], [none, none, none, none, none, none, none, none, none, none]], [some [.fz [.sc (.int .u8)] [], RI, RI], none]⟩ z))⟩
noncomputable def spec_l12Event_t : List Fs := spec_l12Event_f :: spec_l7Draw_t
theorem spec_l12Event_g : FGood CX prims spec_l12Event_t ∧ FEqn CX prims spec_l12Event_f := fnG spec_l7Draw_g.1 spec_l12Event_f Try.f23 ⟨23, 2, 65, 17⟩ [] (fun _ _ => rfl) (fun _ _ _ => by kernel_rfl) trivial trivial (fun _ _ _ _ _ => by kernel_rfl)

/-! loop.example/g00244/spec.KeyOk -/
noncomputable def spec_KeyOk_L0_0 (m : Nat) : Nat → T → T → (T → An) → (T → An) → An
  | 0, _, _, _, _ => .bad
  | n + 1, x0, x1, k0, k1 =>
    cond (decide (x1.int < (x0.str.size : Int)))
    (cond (decide ((0 : Int) ≤ x1.int ∧ x1.int < (x0.str.size : Int)))
    (spec_l1In m (T.i (IntKind.i64.wrap ((x0.str.data.toList.getD (Int.toNat x1.int) 0).toNat : Int))) (T.i 97) (T.i 122)
    (fun y0 => cond ((!y0.bool) == true)
    (cond (decide ((0 : Int) ≤ x1.int ∧ x1.int < (x0.str.size : Int)))
    (spec_l1In m (T.i (IntKind.i64.wrap ((x0.str.data.toList.getD (Int.toNat x1.int) 0).toNat : Int))) (T.i 48) (T.i 57)
    (fun y1 => cond (!y1.bool)
    (k0 (T.b false))
    (spec_KeyOk_L0_0 m n x0 (T.i (IntKind.i64.wrap (x1.int + 1))) k0 k1)))
    (.bad))
    (spec_KeyOk_L0_0 m n x0 (T.i (IntKind.i64.wrap (x1.int + 1))) k0 k1)))
    (.bad))
    (k1 x0)
noncomputable def spec_KeyOk : Nat → T → (T → An) → An
  | 0, _, _ => .bad
  | m + 1, x0, k0 =>
    spec_KeyOk_L0_0 m m x0 (T.i 0)
    (fun y3 => k0 y3)
    (fun y4 => spec_l1In m (T.i (y4.str.size : Int)) (T.i 1) (T.i 12)
    (fun y5 => k0 y5))
noncomputable def spec_KeyOk_f : Fs := ⟨77, [.one (AS)], fun m vs k => ap 1 (spec_KeyOk m) vs (lm 1 fun z => k (fRet ⟨[.one (RB)], [[none]], [none]⟩ z))⟩
noncomputable def spec_KeyOk_l : List Ls := [⟨[0, 1, 0, 1], ⟨[(0, .one (LS)), (3, .one (LI))], []⟩, fun m n vs k => ap 2 (spec_KeyOk_L0_0 m n) vs (lm 1 fun z => k .ret (fPack ⟨[(2, .one (LB))], []⟩ z)) (lm 1 fun z => k (.exit 0) (fPack ⟨[(0, .one (LS))], []⟩ z))⟩]
noncomputable def spec_KeyOk_t : List Fs := spec_KeyOk_f :: spec_l12Event_t
theorem spec_KeyOk_g : FGood CX prims spec_KeyOk_t ∧ FEqn CX prims spec_KeyOk_f := fnG spec_l12Event_g.1 spec_KeyOk_f Try.f77 ⟨77, 1, 27, 4⟩ spec_KeyOk_l (fun _ _ => rfl) (fun _ _ _ => by kernel_rfl) ⟨fun _ _ _ => rfl, trivial⟩ ⟨fun _ _ _ _ _ _ => by kernel_rfl, trivial⟩ (fun _ _ _ _ _ => by kernel_rfl)

/-! loop.example/g00244/spec.l7Op -/
noncomputable def spec_l7Op : Nat → T → T → T → (T → An) → An
  | 0, _, _, _, _ => .bad
  | m + 1, x0, x1, x2, k0 =>
    spec_l1In m x0 (T.i 1) (T.i 3)
    (fun y0 => cond ((!y0.bool) == false)
    (cond ((x0.int == 2) == true)
    (cond (!(x2.str.toList == (⟨#[]⟩ : ByteArray).toList))
    (k0 (T.b false))
    (spec_KeyOk m x1
    (fun y6 => cond (y6.bool == true)
    (k0 (T.b (decide ((x2.str.size : Int) ≤ 20))))
    (k0 (T.b false)))))
    (spec_KeyOk m x1
    (fun y8 => cond (y8.bool == true)
    (k0 (T.b (decide ((x2.str.size : Int) ≤ 20))))
    (k0 (T.b false)))))
    (k0 (T.b false)))
noncomputable def spec_l7Op_f : Fs := ⟨65, [.agg [AI, AS, AS]], fun m vs k => ap 3 (spec_l7Op m) vs (lm 1 fun z => k (fRet ⟨[.one (RB)], [[none, none, none]], [none]⟩ z))⟩
noncomputable def spec_l7Op_t : List Fs := spec_l7Op_f :: spec_KeyOk_t
theorem spec_l7Op_g : FGood CX prims spec_l7Op_t ∧ FEqn CX prims spec_l7Op_f := fnG spec_KeyOk_g.1 spec_l7Op_f Try.f65 ⟨65, 1, 26, 4⟩ [] (fun _ _ => rfl) (fun _ _ _ => by kernel_rfl) trivial trivial (fun _ _ _ _ _ => by kernel_rfl)

/-! loop.example/g00244/spec.OpsOk -/
noncomputable def spec_OpsOk_L0_0 (m : Nat) : Nat → T → T → (T → An) → (T → An) → An
  | 0, _, _, _, _ => .bad
  | n + 1, x0, x1, k0, k1 =>
    cond (decide (x1.int < (x0.rows.length : Int)))
    (cond (decide ((0 : Int) ≤ x1.int ∧ x1.int < (x0.rows.length : Int)))
    (spec_l7Op m ((x0.rows.getD (Int.toNat x1.int) []).getD 0 dflt) ((x0.rows.getD (Int.toNat x1.int) []).getD 1 dflt) ((x0.rows.getD (Int.toNat x1.int) []).getD 2 dflt)
    (fun y0 => cond ((!y0.bool) == false)
    (cond ((decide (x1.int > 0)) == true)
    (cond (decide ((0 : Int) ≤ (IntKind.i64.wrap (x1.int - 1)) ∧ (IntKind.i64.wrap (x1.int - 1)) < (x0.rows.length : Int)))
    (cond (decide ((0 : Int) ≤ x1.int ∧ x1.int < (x0.rows.length : Int)))
    (cond (!(Op.bytesLess (((x0.rows.getD (Int.toNat (IntKind.i64.wrap (x1.int - 1))) []).drop 1).getD 0 dflt).str.toList (((x0.rows.getD (Int.toNat x1.int) []).drop 1).getD 0 dflt).str.toList))
    (k0 (T.b false))
    (spec_OpsOk_L0_0 m n x0 (T.i (IntKind.i64.wrap (x1.int + 1))) k0 k1))
    (.bad))
    (.bad))
    (spec_OpsOk_L0_0 m n x0 (T.i (IntKind.i64.wrap (x1.int + 1))) k0 k1))
    (k0 (T.b false))))
    (.bad))
    (k1 x0)
noncomputable def spec_OpsOk : Nat → T → (T → An) → An
  | 0, _, _ => .bad
  | m + 1, x0, k0 =>
    spec_OpsOk_L0_0 m m (T.l x0.rows) (T.i 0)
    (fun y2 => k0 y2)
    (fun y3 => spec_l1In m (T.i (y3.rows.length : Int)) (T.i 1) (T.i 8)
    (fun y4 => k0 y4))
noncomputable def spec_OpsOk_f : Fs := ⟨54, [.one (.dz [.sc (.int .i64), .sc (.str), .sc (.str)] [])], fun m vs k => ap 1 (spec_OpsOk m) vs (lm 1 fun z => k (fRet ⟨[.one (RB)], [[none]], [none]⟩ z))⟩
noncomputable def spec_OpsOk_l : List Ls := [⟨[0, 1, 0, 1], ⟨[(0, .one (LD [.sc (.int .i64), .sc (.str), .sc (.str)])), (3, .one (LI))], [([4000000], .gone)]⟩, fun m n vs k => ap 2 (spec_OpsOk_L0_0 m n) vs (lm 1 fun z => k .ret (fPack ⟨[(2, .one (LB))], []⟩ z)) (lm 1 fun z => k (.exit 0) (fPack ⟨[(0, .one (LD [.sc (.int .i64), .sc (.str), .sc (.str)]))], [([4000000], .gone)]⟩ z))⟩]
noncomputable def spec_OpsOk_t : List Fs := spec_OpsOk_f :: spec_l7Op_t
theorem spec_OpsOk_g : FGood CX prims spec_OpsOk_t ∧ FEqn CX prims spec_OpsOk_f := fnG spec_l7Op_g.1 spec_OpsOk_f Try.f54 ⟨54, 1, 37, 4⟩ spec_OpsOk_l (fun _ _ => rfl) (fun _ _ _ => by kernel_rfl) ⟨fun _ _ _ => rfl, trivial⟩ ⟨fun _ _ _ _ _ _ => by kernel_rfl, trivial⟩ (fun _ _ _ _ _ => by kernel_rfl)

/-! loop.example/g00244/spec.l7CopyOps -/
noncomputable def spec_l7CopyOps : Nat → T → (T → An) → An
  | 0, _, _ => .bad
  | m + 1, x0, k0 =>
    cond (decide ((0 + x0.rows.length) * 3 ≤ maxRow))
    (k0 (T.l x0.rows))
    (.bad)
noncomputable def spec_l7CopyOps_f : Fs := ⟨44, [.one (.dz [.sc (.int .i64), .sc (.str), .sc (.str)] [])], fun m vs k => ap 1 (spec_l7CopyOps m) vs (lm 1 fun z => k (fRet ⟨[.one (.own (KR 0 0) [.sc (.int .i64), .sc (.str), .sc (.str)] [.F, .F, .F] [])], [[none]], [none]⟩ z))⟩
noncomputable def spec_l7CopyOps_t : List Fs := spec_l7CopyOps_f :: spec_OpsOk_t
theorem spec_l7CopyOps_g : FGood CX prims spec_l7CopyOps_t ∧ FEqn CX prims spec_l7CopyOps_f := fnG spec_OpsOk_g.1 spec_l7CopyOps_f Try.f44 ⟨44, 1, 6, 4⟩ [] (fun _ _ => rfl) (fun _ _ _ => by kernel_rfl) trivial trivial (fun _ _ _ _ _ => by kernel_rfl)

/-! loop.example/g00244/spec.Hash -/
noncomputable def spec_Hash_L0_0 (m : Nat) : Nat → T → T → T → (T → An) → An
  | 0, _, _, _, _ => .bad
  | n + 1, x0, x1, x2, k0 =>
    cond (decide (x2.int < (x0.str.size : Int)))
    (cond (decide ((0 : Int) ≤ x2.int ∧ x2.int < (x0.str.size : Int)))
    (spec_Hash_L0_0 m n x0 (bvBack .i64 (BitVec.ofInt IntKind.i64.bits (IntKind.i64.wrap ((bvBack .i64 (BitVec.ofInt IntKind.i64.bits x1.int ^^^ BitVec.ofInt IntKind.i64.bits (IntKind.i64.wrap ((x0.str.data.toList.getD (Int.toNat x2.int) 0).toNat : Int)))).int * 16777619)) &&& BitVec.ofInt IntKind.i64.bits 4294967295)) (T.i (IntKind.i64.wrap (x2.int + 1))) k0)
    (.bad))
    (k0 x1)
noncomputable def spec_Hash : Nat → T → (T → An) → An
  | 0, _, _ => .bad
  | m + 1, x0, k0 =>
    spec_Hash_L0_0 m m x0 (T.i 2166136261) (T.i 0)
    (fun y0 => k0 y0)
noncomputable def spec_Hash_f : Fs := ⟨85, [.one (AS)], fun m vs k => ap 1 (spec_Hash m) vs (lm 1 fun z => k (fRet ⟨[.one (RI)], [[none]], [none]⟩ z))⟩
noncomputable def spec_Hash_l : List Ls := [⟨[0, 1, 0, 1, 1], ⟨[(0, .one (LS)), (3, .one (LI)), (4, .one (LI))], []⟩, fun m n vs k => ap 3 (spec_Hash_L0_0 m n) vs (lm 1 fun z => k (.exit 0) (fPack ⟨[(3, .one (LI))], []⟩ z))⟩]
noncomputable def spec_Hash_t : List Fs := spec_Hash_f :: spec_l7CopyOps_t
theorem spec_Hash_g : FGood CX prims spec_Hash_t ∧ FEqn CX prims spec_Hash_f := fnG spec_l7CopyOps_g.1 spec_Hash_f Try.f85 ⟨85, 1, 20, 4⟩ spec_Hash_l (fun _ _ => rfl) (fun _ _ _ => by kernel_rfl) ⟨fun _ _ _ => rfl, trivial⟩ ⟨fun _ _ _ _ _ _ => by kernel_rfl, trivial⟩ (fun _ _ _ _ _ => by kernel_rfl)

/-! loop.example/g00244/spec.ShardOf -/
noncomputable def spec_ShardOf : Nat → T → T → (T → An) → An
  | 0, _, _, _ => .bad
  | m + 1, x0, x1, k0 =>
    cond (decide (x1.int < 1))
    (k0 (T.i 0))
    (spec_Hash m x0
    (fun y0 => cond (!decide (x1.int = 0))
    (k0 (T.i (Int.tmod y0.int x1.int)))
    (.bad)))
noncomputable def spec_ShardOf_f : Fs := ⟨75, [.one (AS), .one (AI)], fun m vs k => ap 2 (spec_ShardOf m) vs (lm 1 fun z => k (fRet ⟨[.one (RI)], [[none], [none]], [none, none]⟩ z))⟩
noncomputable def spec_ShardOf_t : List Fs := spec_ShardOf_f :: spec_Hash_t
theorem spec_ShardOf_g : FGood CX prims spec_ShardOf_t ∧ FEqn CX prims spec_ShardOf_f := fnG spec_Hash_g.1 spec_ShardOf_f Try.f75 ⟨75, 2, 11, 16⟩ [] (fun _ _ => rfl) (fun _ _ _ => by kernel_rfl) trivial trivial (fun _ _ _ _ _ => by kernel_rfl)

/-! loop.example/g00244/spec.l7Has -/
noncomputable def spec_l7Has_L0_0 (m : Nat) : Nat → T → T → T → (T → An) → An → An
  | 0, _, _, _, _, _ => .bad
  | n + 1, x0, x1, x2, k0, k1 =>
    cond (decide (x2.int < (x0.rows.length : Int)))
    (cond (decide ((0 : Int) ≤ x2.int ∧ x2.int < (x0.rows.length : Int)))
    (cond (((x0.rows.getD (Int.toNat x2.int) []).getD 0 dflt).int == x1.int)
    (k0 (T.b true))
    (spec_l7Has_L0_0 m n x0 x1 (T.i (IntKind.i64.wrap (x2.int + 1))) k0 k1))
    (.bad))
    (k1 )
noncomputable def spec_l7Has : Nat → T → T → (T → An) → An
  | 0, _, _, _ => .bad
  | m + 1, x0, x1, k0 =>
    spec_l7Has_L0_0 m m (T.l x0.rows) x1 (T.i 0)
    (fun y0 => k0 y0)
    (k0 (T.b false))
noncomputable def spec_l7Has_f : Fs := ⟨66, [.one (.dz [.sc (.int .i64)] []), .one (AI)], fun m vs k => ap 2 (spec_l7Has m) vs (lm 1 fun z => k (fRet ⟨[.one (RB)], [[none], [none]], [none, none]⟩ z))⟩
noncomputable def spec_l7Has_l : List Ls := [⟨[0, 1, 0, 1], ⟨[(0, .one (LD [.sc (.int .i64)])), (1, .one (LI)), (5, .one (LI))], [([4000000], .gone)]⟩, fun m n vs k => ap 3 (spec_l7Has_L0_0 m n) vs (lm 1 fun z => k .ret (fPack ⟨[(4, .one (LB))], []⟩ z)) (lm 0 fun z => k (.exit 0) (fPack ⟨[], []⟩ z))⟩]
noncomputable def spec_l7Has_t : List Fs := spec_l7Has_f :: spec_ShardOf_t
theorem spec_l7Has_g : FGood CX prims spec_l7Has_t ∧ FEqn CX prims spec_l7Has_f := fnG spec_ShardOf_g.1 spec_l7Has_f Try.f66 ⟨66, 2, 18, 16⟩ spec_l7Has_l (fun _ _ => rfl) (fun _ _ _ => by kernel_rfl) ⟨fun _ _ _ => rfl, trivial⟩ ⟨fun _ _ _ _ _ _ => by kernel_rfl, trivial⟩ (fun _ _ _ _ _ => by kernel_rfl)

/-! loop.example/g00244/spec.l7Put -/
noncomputable def spec_l7Put_L0_0 (m : Nat) : Nat → T → T → T → (T → T → T → An) → An
  | 0, _, _, _, _ => .bad
  | n + 1, x0, x1, x2, k0 =>
    jn (fun (j2 : An) =>
    cond ((decide (x1.int > 0)) == true)
    (cond (decide ((0 : Int) ≤ (IntKind.i64.wrap (x1.int - 1)) ∧ (IntKind.i64.wrap (x1.int - 1)) < (x2.rows.length : Int)))
    (cond (decide ((Int.toNat (IntKind.i64.wrap (x1.int - 1))) < x2.rows.length))
    (cond (decide (((x2.rows.getD (Int.toNat (IntKind.i64.wrap (x1.int - 1))) []).getD 0 dflt).int > x0.int))
    (j2)
    (k0 x0 x1 (T.l x2.rows)))
    (.bad))
    (.bad))
    (k0 x0 x1 (T.l x2.rows)))
    (cond (decide ((0 : Int) ≤ (IntKind.i64.wrap (x1.int - 1)) ∧ (IntKind.i64.wrap (x1.int - 1)) < (x2.rows.length : Int)))
    (cond (decide ((Int.toNat (IntKind.i64.wrap (x1.int - 1))) < x2.rows.length))
    (cond (decide ((0 : Int) ≤ x1.int ∧ x1.int < (x2.rows.length : Int)))
    (cond (decide ((Int.toNat x1.int) < x2.rows.length))
    (spec_l7Put_L0_0 m n x0 (T.i (IntKind.i64.wrap (x1.int - 1))) (T.l (x2.rows.set (Int.toNat x1.int) ((x2.rows.getD (Int.toNat x1.int) []).set 0 ((x2.rows.getD (Int.toNat (IntKind.i64.wrap (x1.int - 1))) []).getD 0 dflt)))) k0)
    (.bad))
    (.bad))
    (.bad))
    (.bad))
noncomputable def spec_l7Put : Nat → T → T → (T → An) → An
  | 0, _, _, _ => .bad
  | m + 1, x0, x1, k0 =>
    spec_l7Has m (T.l x0.rows) x1
    (fun y0 => cond y0.bool
    (k0 (T.l x0.rows))
    (cond (decide ((0 + x0.rows.length) * 1 ≤ maxRow))
    (cond (decide ((x0.rows.length + 1) * 1 ≤ maxRow))
    (spec_l7Put_L0_0 m m x1 (T.i (IntKind.i64.wrap (((x0.rows ++ [[x1]]).length : Int) - 1))) (T.l (x0.rows ++ [[x1]]))
    (fun y3 y4 y5 => cond (decide ((0 : Int) ≤ y4.int ∧ y4.int < (y5.rows.length : Int)))
    (cond (decide ((Int.toNat y4.int) < y5.rows.length))
    (k0 (T.l (y5.rows.set (Int.toNat y4.int) ((y5.rows.getD (Int.toNat y4.int) []).set 0 y3))))
    (.bad))
    (.bad)))
    (.bad))
    (.bad)))
noncomputable def spec_l7Put_f : Fs := ⟨72, [.one (.fz [.sc (.int .i64)] []), .one (AI)], fun m vs k => ap 2 (spec_l7Put m) vs (lm 1 fun z => k (fRet ⟨[.one (.fz [.sc (.int .i64)] [])], [[none], [none]], [none, none]⟩ z))⟩
noncomputable def spec_l7Put_l : List Ls := [⟨[0, 0, 1, 1, 1, 1], ⟨[(1, .one (LI)), (5, .one (LA (KI 0) [.sc (.int .i64)])), (6, .one (LI))], [((KI 0), .row [.sc (.int .i64)] [.F] [])]⟩, fun m n vs k => ap 3 (spec_l7Put_L0_0 m n) vs (lm 3 fun z => k (.exit 0) (fPack ⟨[(1, .one (LI)), (5, .one (LA (KI 0) [.sc (.int .i64)])), (6, .one (LI))], [((KI 0), .row [.sc (.int .i64)] [.F] [])]⟩ z))⟩]
noncomputable def spec_l7Put_t : List Fs := spec_l7Put_f :: spec_l7Has_t
theorem spec_l7Put_g : FGood CX prims spec_l7Put_t ∧ FEqn CX prims spec_l7Put_f := fnG spec_l7Has_g.1 spec_l7Put_f Try.f72 ⟨72, 2, 46, 16⟩ spec_l7Put_l (fun _ _ => rfl) (fun _ _ _ => by kernel_rfl) ⟨fun _ _ _ => rfl, trivial⟩ ⟨fun _ _ _ _ _ _ => by kernel_rfl, trivial⟩ (fun _ _ _ _ _ => by kernel_rfl)

/-! loop.example/g00244/spec.ShardsOf -/
noncomputable def spec_ShardsOf_L0_1 (m : Nat) : Nat → T → T → T → T → (T → An) → (T → An) → An
  | 0, _, _, _, _, _, _ => .bad
  | n + 1, x0, x1, x2, x3, k0, k1 =>
    cond (decide (x3.int < (x0.rows.length : Int)))
    (cond (decide ((0 : Int) ≤ x3.int ∧ x3.int < (x0.rows.length : Int)))
    (spec_ShardOf m (((x0.rows.getD (Int.toNat x3.int) []).drop 1).getD 0 dflt) x1
    (fun y2 => spec_l7Put m (T.l x2.rows) y2
    (fun y3 => spec_ShardsOf_L0_1 m n x0 x1 (T.l y3.rows) (T.i (IntKind.i64.wrap (x3.int + 1))) k0 k1)))
    (.bad))
    (k0 x2)
noncomputable def spec_ShardsOf_L0_0 (m : Nat) : Nat → T → T → T → T → (T → An) → (T → An) → An
  | 0, _, _, _, _, _, _ => .bad
  | n + 1, x0, x1, x2, x3, k0, k1 =>
    cond (decide (x2.int < (x0.rows.length : Int)))
    (cond (decide ((0 : Int) ≤ x2.int ∧ x2.int < (x0.rows.length : Int)))
    (spec_ShardOf m (((x0.rows.getD (Int.toNat x2.int) []).drop 1).getD 0 dflt) x1
    (fun y0 => spec_l7Put m (T.l x3.rows) y0
    (fun y1 => spec_ShardsOf_L0_1 m n x0 x1 (T.l y1.rows) (T.i (IntKind.i64.wrap (x2.int + 1))) k0 k1)))
    (.bad))
    (k1 (T.l x3.rows))
def spec_ShardsOf_e0_0 : Pack := ⟨[(5, .one (LZ [.sc (.int .i64)]))], []⟩
def spec_ShardsOf_e0_1 : Pack := ⟨[(5, .one (LA (KI 0) [.sc (.int .i64)]))], [((KI 0), .fz [.sc (.int .i64)] [])]⟩
noncomputable def spec_ShardsOf : Nat → T → T → (T → An) → An
  | 0, _, _, _ => .bad
  | m + 1, x0, x1, k0 =>
    spec_ShardsOf_L0_0 m m (T.l x0.rows) x1 (T.i 0) (T.l [])
    (fun y4 => k0 (T.l y4.rows))
    (fun y5 => k0 (T.l y5.rows))
noncomputable def spec_ShardsOf_f : Fs := ⟨61, [.one (.dz [.sc (.int .i64), .sc (.str), .sc (.str)] []), .one (AI)], fun m vs k => ap 2 (spec_ShardsOf m) vs (lm 1 fun z => k (fRet ⟨[.one (.fz [.sc (.int .i64)] [])], [[none], [none]], [none, none]⟩ z))⟩
noncomputable def spec_ShardsOf_l : List Ls := [⟨[0, 1, 0, 1, 1], ⟨[(0, .one (LD [.sc (.int .i64), .sc (.str), .sc (.str)])), (1, .one (LI)), (5, .one (LZ [.sc (.int .i64)])), (6, .one (LI))], [([4000000], .gone)]⟩, fun m n vs k => ap 4 (spec_ShardsOf_L0_1 m n) vs (lm 1 fun z => k (.exit 0) (fPack spec_ShardsOf_e0_0 z)) (lm 1 fun z => k (.exit 0) (fPack spec_ShardsOf_e0_1 z))⟩, ⟨[0, 1, 0, 1, 1], ⟨[(0, .one (LD [.sc (.int .i64), .sc (.str), .sc (.str)])), (1, .one (LI)), (5, .one (LA (KI 1) [.sc (.int .i64)])), (6, .one (LI))], [([4000000], .gone), ((KI 1), .fz [.sc (.int .i64)] [])]⟩, fun m n vs k => ap 4 (spec_ShardsOf_L0_0 m n) vs (lm 1 fun z => k (.exit 0) (fPack spec_ShardsOf_e0_0 z)) (lm 1 fun z => k (.exit 0) (fPack spec_ShardsOf_e0_1 z))⟩]
noncomputable def spec_ShardsOf_t : List Fs := spec_ShardsOf_f :: spec_l7Put_t
theorem spec_ShardsOf_g : FGood CX prims spec_ShardsOf_t ∧ FEqn CX prims spec_ShardsOf_f := fnG spec_l7Put_g.1 spec_ShardsOf_f Try.f61 ⟨61, 2, 24, 16⟩ spec_ShardsOf_l (fun _ _ => rfl) (fun _ _ _ => by kernel_rfl) ⟨fun _ _ _ => rfl, fun _ _ _ => rfl, trivial⟩ ⟨fun _ _ _ _ _ _ => by kernel_rfl, fun _ _ _ _ _ _ => by kernel_rfl, trivial⟩ (fun _ _ _ _ _ => by kernel_rfl)

/-! loop.example/g00244/spec.OpsFor -/
noncomputable def spec_OpsFor_L0_0 (m : Nat) : Nat → T → T → T → T → T → (T → An) → An
  | 0, _, _, _, _, _, _ => .bad
  | n + 1, x0, x1, x2, x3, x4, k0 =>
    cond (decide (x3.int < (x0.rows.length : Int)))
    (cond (decide ((0 : Int) ≤ x3.int ∧ x3.int < (x0.rows.length : Int)))
    (spec_ShardOf m (((x0.rows.getD (Int.toNat x3.int) []).drop 1).getD 0 dflt) x2
    (fun y0 => cond (y0.int == x1.int)
    (cond (decide ((0 : Int) ≤ x3.int ∧ x3.int < (x0.rows.length : Int)))
    (cond (decide ((x4.rows.length + 1) * 3 ≤ maxRow))
    (spec_OpsFor_L0_0 m n x0 x1 x2 (T.i (IntKind.i64.wrap (x3.int + 1))) (T.l (x4.rows ++ [[((x0.rows.getD (Int.toNat x3.int) []).getD 0 dflt), ((x0.rows.getD (Int.toNat x3.int) []).getD 1 dflt), ((x0.rows.getD (Int.toNat x3.int) []).getD 2 dflt)]])) k0)
    (.bad))
    (.bad))
    (spec_OpsFor_L0_0 m n x0 x1 x2 (T.i (IntKind.i64.wrap (x3.int + 1))) (T.l x4.rows) k0)))
    (.bad))
    (k0 (T.l x4.rows))
noncomputable def spec_OpsFor : Nat → T → T → T → (T → An) → An
  | 0, _, _, _, _ => .bad
  | m + 1, x0, x1, x2, k0 =>
    spec_OpsFor_L0_0 m m (T.l x0.rows) x1 x2 (T.i 0) (T.l [])
    (fun y3 => k0 (T.l y3.rows))
noncomputable def spec_OpsFor_f : Fs := ⟨67, [.one (.dz [.sc (.int .i64), .sc (.str), .sc (.str)] []), .one (AI), .one (AI)], fun m vs k => ap 3 (spec_OpsFor m) vs (lm 1 fun z => k (fRet ⟨[.one (.own (KR 0 0) [.sc (.int .i64), .sc (.str), .sc (.str)] [.F, .F, .F] [])], [[none], [none], [none]], [none, none, none]⟩ z))⟩
noncomputable def spec_OpsFor_l : List Ls := [⟨[0, 1, 0, 1, 1], ⟨[(0, .one (LD [.sc (.int .i64), .sc (.str), .sc (.str)])), (1, .one (LI)), (2, .one (LI)), (7, .one (LA (KI 1) [.sc (.int .i64), .sc (.str), .sc (.str)])), (8, .one (LI))], [([4000000], .gone), ((KI 1), .row [.sc (.int .i64), .sc (.str), .sc (.str)] [.F, .F, .F] [])]⟩, fun m n vs k => ap 5 (spec_OpsFor_L0_0 m n) vs (lm 1 fun z => k (.exit 0) (fPack ⟨[(7, .one (LA (KI 0) [.sc (.int .i64), .sc (.str), .sc (.str)]))], [((KI 0), .row [.sc (.int .i64), .sc (.str), .sc (.str)] [.F, .F, .F] [])]⟩ z))⟩]
noncomputable def spec_OpsFor_t : List Fs := spec_OpsFor_f :: spec_ShardsOf_t
theorem spec_OpsFor_g : FGood CX prims spec_OpsFor_t ∧ FEqn CX prims spec_OpsFor_f := fnG spec_ShardsOf_g.1 spec_OpsFor_f Try.f67 ⟨67, 3, 33, 64⟩ spec_OpsFor_l (fun _ _ => rfl) (fun _ _ _ => by kernel_rfl) ⟨fun _ _ _ => rfl, trivial⟩ ⟨fun _ _ _ _ _ _ => by kernel_rfl, trivial⟩ (fun _ _ _ _ _ => by kernel_rfl)

/-! loop.example/g00244/spec.l11Holds -/
noncomputable def spec_l11Holds_L0_0 (m : Nat) : Nat → T → T → T → T → T → T → T → T → T → T → T → T → T → T → T → (T → An) → An
  | 0, _, _, _, _, _, _, _, _, _, _, _, _, _, _, _, _ => .bad
  | n + 1, x0, x1, x2, x3, x4, x5, x6, x7, x8, x9, x10, x11, x12, x13, x14, k0 =>
    cond (decide (x3.int < (x2.rows.length : Int)))
    ((fun (j5 : T → An) =>
    cond (decide ((0 : Int) ≤ x3.int ∧ x3.int < (x2.rows.length : Int)))
    (spec_l7Has m (T.l x13.rows) ((x2.rows.getD (Int.toNat x3.int) []).getD 0 dflt)
    (fun y1 => cond (!y1.bool)
    (cond (decide ((0 : Int) ≤ x3.int ∧ x3.int < (x2.rows.length : Int)))
    (cond (decide ((0 : Int) ≤ x3.int ∧ x3.int < (x2.rows.length : Int)))
    (spec_OpsFor m (T.l x11.rows) ((x2.rows.getD (Int.toNat x3.int) []).getD 0 dflt) x4
    (fun y2 => cond (decide ((x14.rows.length + 1) * 5 ≤ maxRow))
    (j5 (T.l (x14.rows ++ [[(T.i 1), ((x2.rows.getD (Int.toNat x3.int) []).getD 0 dflt), x10, (T.l y2.rows), (T.b false)]])))
    (.bad)))
    (.bad))
    (.bad))
    (j5 (T.l x14.rows))))
    (.bad))
    (fun y4 => spec_l11Holds_L0_0 m n (T.i (x0.int.toNat : Int)) (T.i (x1.int.toNat : Int)) x2 (T.i (IntKind.i64.wrap (x3.int + 1))) x4 x5 x6 x7 x8 x9 x10 x11 x12 x13 (T.l y4.rows) k0))
    (k0 (T.l x14.rows))
noncomputable def spec_l11Holds : Nat → T → T → T → T → T → T → T → T → T → T → (T → An) → An
  | 0, _, _, _, _, _, _, _, _, _, _, _ => .bad
  | m + 1, x0, x1, x2, x3, x4, x5, x6, x7, x8, x9, k0 =>
    spec_ShardsOf m (T.l x7.rows) x0
    (fun y0 => spec_l11Holds_L0_0 m m (T.i 0) (T.i 0) (T.l y0.rows) (T.i 0) x0 x1 x2 (T.l x3.rows) (T.l x4.rows) x5 x6 (T.l x7.rows) x8 (T.l x9.rows) (T.l [])
    (fun y6 => k0 (T.l y6.rows)))
noncomputable def spec_l11Holds_f : Fs := ⟨55, [.agg [AI, AI, AI, .dz [.sc (.int .i64), .sl [.sc (.int .i64), .sc (.str), .sc (.str)], .sc (.int .i64), .sl [.sc (.int .i64)]] [], .dz [.sc (.int .i64), .sc (.bool)] [], AI], .agg [AI, .dz [.sc (.int .i64), .sc (.str), .sc (.str)] [], AI, .dz [.sc (.int .i64)] []]], fun m vs k => ap 10 (spec_l11Holds m) vs (lm 1 fun z => k (fRet ⟨[.one (.own (KR 0 0) [.sc (.int .i64), .sc (.int .i64), .sc (.int .i64), .sl [.sc (.int .i64), .sc (.str), .sc (.str)], .sc (.bool)] [.F, .F, .F, .F, .F] [])], [[none, none, none, none, none, none], [none, none, none, none]], [none, none]⟩ z))⟩
noncomputable def spec_l11Holds_l : List Ls := [⟨[0, 1, 0, 1, 1, 1], ⟨[(2, EP 0), (3, EP 1), (5, .one (LA (KI 2) [.sc (.int .i64), .sc (.int .i64), .sc (.int .i64), .sl [.sc (.int .i64), .sc (.str), .sc (.str)], .sc (.bool)])), (6, .one (LZ [.sc (.int .i64)])), (7, .one (LI))], [((KI 0), .box [LI, LI, LI, LD [.sc (.int .i64), .sl [.sc (.int .i64), .sc (.str), .sc (.str)], .sc (.int .i64), .sl [.sc (.int .i64)]], LD [.sc (.int .i64), .sc (.bool)], LI]), ((KI 1), .box [LI, LD [.sc (.int .i64), .sc (.str), .sc (.str)], LI, LD [.sc (.int .i64)]]), ((KI 2), .row [.sc (.int .i64), .sc (.int .i64), .sc (.int .i64), .sl [.sc (.int .i64), .sc (.str), .sc (.str)], .sc (.bool)] [.F, .F, .F, .F, .F] []), ([4000000], .gone)]⟩, fun m n vs k => ap 15 (spec_l11Holds_L0_0 m n) vs (lm 1 fun z => k (.exit 0) (fPack ⟨[(5, .one (LA (KI 0) [.sc (.int .i64), .sc (.int .i64), .sc (.int .i64), .sl [.sc (.int .i64), .sc (.str), .sc (.str)], .sc (.bool)]))], [((KI 0), .row [.sc (.int .i64), .sc (.int .i64), .sc (.int .i64), .sl [.sc (.int .i64), .sc (.str), .sc (.str)], .sc (.bool)] [.F, .F, .F, .F, .F] [])]⟩ z))⟩]
noncomputable def spec_l11Holds_t : List Fs := spec_l11Holds_f :: spec_OpsFor_t
theorem spec_l11Holds_g : FGood CX prims spec_l11Holds_t ∧ FEqn CX prims spec_l11Holds_f := fnG spec_OpsFor_g.1 spec_l11Holds_f Try.f55 ⟨55, 2, 48, 16⟩ spec_l11Holds_l (fun _ _ => rfl) (fun _ _ _ => by kernel_rfl) ⟨fun _ _ _ => rfl, trivial⟩ ⟨fun _ _ _ _ _ _ => by kernel_rfl, trivial⟩ (fun _ _ _ _ _ => by kernel_rfl)

/-! loop.example/g00244/spec.l11Begin -/
noncomputable def spec_l11Begin : Nat → T → T → T → T → T → T → T → (T → T → T → T → T → T → T → T → An) → An
  | 0, _, _, _, _, _, _, _, _ => .bad
  | m + 1, x0, x1, x2, x3, x4, x5, x6, k0 =>
    jn (fun (j4 : An) =>
    spec_OpsOk m (T.l x6.rows)
    (fun y0 => cond ((!y0.bool) == false)
    (cond ((x2.int == 999) == false)
    (cond (decide ((x4.rows.length : Int) ≥ 1000))
    (k0 (T.l []) (T.i 0) x0 x1 x2 (T.l x3.rows) (T.l x4.rows) x5)
    (j4))
    (k0 (T.l []) (T.i 0) x0 x1 x2 (T.l x3.rows) (T.l x4.rows) x5))
    (k0 (T.l []) (T.i 0) x0 x1 x2 (T.l x3.rows) (T.l x4.rows) x5)))
    (spec_l7CopyOps m (T.l x6.rows)
    (fun y2 => cond (decide ((x3.rows.length + 1) * 4 ≤ maxRow))
    (spec_l11Holds m x0 x1 (T.i (IntKind.i64.wrap (x2.int + 1))) (T.l (x3.rows ++ [[(T.i (IntKind.i64.wrap ((IntKind.i64.wrap (x1.int * 1000)) + x2.int))), (T.l y2.rows), (T.i 1), (T.l [])]])) (T.l x4.rows) x5 (T.i (IntKind.i64.wrap ((IntKind.i64.wrap (x1.int * 1000)) + x2.int))) (T.l y2.rows) (T.i 1) (T.l [])
    (fun y3 => k0 (T.l y3.rows) (T.i (IntKind.i64.wrap ((IntKind.i64.wrap (x1.int * 1000)) + x2.int))) x0 x1 (T.i (IntKind.i64.wrap (x2.int + 1))) (T.l (x3.rows ++ [[(T.i (IntKind.i64.wrap ((IntKind.i64.wrap (x1.int * 1000)) + x2.int))), (T.l y2.rows), (T.i 1), (T.l [])]])) (T.l x4.rows) x5))
    (.bad)))
noncomputable def spec_l11Begin_f : Fs := ⟨43, [.bx [AI, AI, AI, .own [.sc (.int .i64), .sl [.sc (.int .i64), .sc (.str), .sc (.str)], .sc (.int .i64), .sl [.sc (.int .i64)]] [.F, .F, .F, .F] [], .own [.sc (.int .i64), .sc (.bool)] [.F, .F] [], AI], .one (.dz [.sc (.int .i64), .sc (.str), .sc (.str)] [])], fun m vs k => ap 7 (spec_l11Begin m) vs (lm 8 fun z => k (fRet ⟨[.one (.own (KR 0 0) [.sc (.int .i64), .sc (.int .i64), .sc (.int .i64), .sl [.sc (.int .i64), .sc (.str), .sc (.str)], .sc (.bool)] [.F, .F, .F, .F, .F] []), .one (RI)], [[none, none, none, none, none, none], [none]], [some [RI, RI, RI, .own (KR 1000 3) [.sc (.int .i64), .sl [.sc (.int .i64), .sc (.str), .sc (.str)], .sc (.int .i64), .sl [.sc (.int .i64)]] [.F, .F, .F, .F] [], .own (KR 1000 4) [.sc (.int .i64), .sc (.bool)] [.F, .F] [], RI], none]⟩ z))⟩
noncomputable def spec_l11Begin_t : List Fs := spec_l11Begin_f :: spec_l11Holds_t
theorem spec_l11Begin_g : FGood CX prims spec_l11Begin_t ∧ FEqn CX prims spec_l11Begin_f := fnG spec_l11Holds_g.1 spec_l11Begin_f Try.f43 ⟨43, 2, 64, 49⟩ [] (fun _ _ => rfl) (fun _ _ _ => by kernel_rfl) trivial trivial (fun _ _ _ _ _ => by kernel_rfl)

/-! loop.example/g00244/spec.l10Copy -/
noncomputable def spec_l10Copy : Nat → T → T → T → T → T → (T → T → T → T → T → An) → An
  | 0, _, _, _, _, _, _ => .bad
  | m + 1, x0, x1, x2, x3, x4, k0 =>
    spec_l7CopyOps m (T.l x3.rows)
    (fun y0 => k0 x0 x1 x2 (T.l y0.rows) x4)
noncomputable def spec_l10Copy_f : Fs := ⟨48, [.agg [AI, AI, AI, .dz [.sc (.int .i64), .sc (.str), .sc (.str)] [], AB]], fun m vs k => ap 5 (spec_l10Copy m) vs (lm 5 fun z => k (fRet ⟨[.agg [RI, RI, RI, .own (KR 0 3) [.sc (.int .i64), .sc (.str), .sc (.str)] [.F, .F, .F] [], RB]], [[none, none, none, none, none]], [none]⟩ z))⟩
noncomputable def spec_l10Copy_t : List Fs := spec_l10Copy_f :: spec_l11Begin_t
theorem spec_l10Copy_g : FGood CX prims spec_l10Copy_t ∧ FEqn CX prims spec_l10Copy_f := fnG spec_l11Begin_g.1 spec_l10Copy_f Try.f48 ⟨48, 1, 8, 4⟩ [] (fun _ _ => rfl) (fun _ _ _ => by kernel_rfl) trivial trivial (fun _ _ _ _ _ => by kernel_rfl)

/-! loop.example/g00244/spec.l12Says -/
noncomputable def spec_l12Says_L0_1 (m : Nat) : Nat → T → T → T → T → T → T → T → T → T → T → T → T → T → (T → T → T → T → T → T → T → T → T → T → T → An) → (T → T → T → T → T → T → T → T → T → T → T → An) → An
  | 0, _, _, _, _, _, _, _, _, _, _, _, _, _, _, _ => .bad
  | n + 1, x0, x1, x2, x3, x4, x5, x6, x7, x8, x9, x10, x11, x12, k0, k1 =>
    cond (decide (x2.int < (x1.rows.length : Int)))
    ((fun (j12 : T → An) =>
    cond (decide ((x10.rows.length : Int) < 400))
    (cond (decide ((0 : Int) ≤ x2.int ∧ x2.int < (x1.rows.length : Int)))
    (spec_l10Copy m ((x1.rows.getD (Int.toNat x2.int) []).getD 0 dflt) ((x1.rows.getD (Int.toNat x2.int) []).getD 1 dflt) ((x1.rows.getD (Int.toNat x2.int) []).getD 2 dflt) (T.l ((x1.rows.getD (Int.toNat x2.int) []).getD 3 dflt).rows) ((x1.rows.getD (Int.toNat x2.int) []).getD 4 dflt)
    (fun y5 y6 y7 y8 y9 => cond (decide ((x10.rows.length + 1) * 5 ≤ maxRow))
    (j12 (T.l (x10.rows ++ [[y5, y6, y7, (T.l y8.rows), y9]])))
    (.bad)))
    (.bad))
    (j12 (T.l x10.rows)))
    (fun y11 => spec_l12Says_L0_1 m n (T.i (x0.int.toNat : Int)) x1 (T.i (IntKind.i64.wrap (x2.int + 1))) x3 x4 x5 x6 (T.l x7.rows) (T.l x8.rows) (T.l x9.rows) (T.l y11.rows) (T.l x11.rows) (T.l x12.rows) k0 k1))
    (k0 (T.i (x0.int.toNat : Int)) x3 x4 x5 x6 (T.l x7.rows) (T.l x8.rows) (T.l x9.rows) (T.l x10.rows) (T.l x11.rows) (T.l x12.rows))
noncomputable def spec_l12Says_L0_0 (m : Nat) : Nat → T → T → T → T → T → T → T → T → T → T → T → T → T → (T → T → T → T → T → T → T → T → T → T → T → An) → (T → T → T → T → T → T → T → T → T → T → T → An) → An
  | 0, _, _, _, _, _, _, _, _, _, _, _, _, _, _, _ => .bad
  | n + 1, x0, x1, x2, x3, x4, x5, x6, x7, x8, x9, x10, x11, x12, k0, k1 =>
    cond (decide (x2.int < (x1.rows.length : Int)))
    (cond (decide ((x10.rows.length : Int) < 400))
    (cond (decide ((0 : Int) ≤ x2.int ∧ x2.int < (x1.rows.length : Int)))
    (spec_l10Copy m ((x1.rows.getD (Int.toNat x2.int) []).getD 0 dflt) ((x1.rows.getD (Int.toNat x2.int) []).getD 1 dflt) ((x1.rows.getD (Int.toNat x2.int) []).getD 2 dflt) (T.l ((x1.rows.getD (Int.toNat x2.int) []).getD 3 dflt).rows) ((x1.rows.getD (Int.toNat x2.int) []).getD 4 dflt)
    (fun y0 y1 y2 y3 y4 => cond (decide ((x10.rows.length + 1) * 5 ≤ maxRow))
    (spec_l12Says_L0_1 m n (T.i (x0.int.toNat : Int)) x1 (T.i (IntKind.i64.wrap (x2.int + 1))) x3 x4 x5 x6 (T.l x7.rows) (T.l x8.rows) (T.l x9.rows) (T.l (x10.rows ++ [[y0, y1, y2, (T.l y3.rows), y4]])) (T.l x11.rows) (T.l x12.rows) k0 k1)
    (.bad)))
    (.bad))
    (spec_l12Says_L0_0 m n (T.i (x0.int.toNat : Int)) x1 (T.i (IntKind.i64.wrap (x2.int + 1))) x3 x4 x5 x6 (T.l x7.rows) (T.l x8.rows) (T.l x9.rows) (T.l x10.rows) (T.l x11.rows) (T.l x12.rows) k0 k1))
    (k1 (T.i (x0.int.toNat : Int)) x3 x4 x5 x6 (T.l x7.rows) (T.l x8.rows) (T.l x9.rows) (T.l x10.rows) (T.l x11.rows) (T.l x12.rows))
def spec_l12Says_e0_0 : Pack := ⟨[(0, .ptr [0, 999999] 0 0 0)], [([0, 999999], .box [LI, LI, LI, LA [0, 3] [.sc (.int .i64), .sl [.sc (.int .i64), .sc (.str), .sc (.str)], .sc (.int .i64), .sl [.sc (.int .i64)]], LA [0, 4] [.sc (.int .i64), .sc (.bool)], LI, LA [0, 6] [.sc (.int .i64), .sl [.sc (.int .i64), .sc (.int .i64), .sl [.sc (.int .i64), .sc (.str), .sc (.str)]], .sc (.int .i64), .sl [.sc (.str), .sc (.str)], .sl [.sc (.int .i64), .sc (.int .i64), .sl [.sc (.int .i64), .sc (.str), .sc (.str)]]], LA (KI 4) [.sc (.int .i64), .sc (.int .i64), .sc (.int .i64), .sl [.sc (.int .i64), .sc (.str), .sc (.str)], .sc (.bool)], LA [0, 8] [.sc (.int .i64), .sc (.int .i64), .sc (.int .i64), .sl [.sc (.int .i64), .sc (.str), .sc (.str)], .sc (.bool)], LA [0, 9] [.sc (.int .i64), .sl [.sc (.int .i64), .sc (.str), .sc (.str)]]]), ([0, 3], .row [.sc (.int .i64), .sl [.sc (.int .i64), .sc (.str), .sc (.str)], .sc (.int .i64), .sl [.sc (.int .i64)]] [.F, .F, .F, .F] []), ([0, 4], .row [.sc (.int .i64), .sc (.bool)] [.F, .F] []), ([0, 6], .row [.sc (.int .i64), .sl [.sc (.int .i64), .sc (.int .i64), .sl [.sc (.int .i64), .sc (.str), .sc (.str)]], .sc (.int .i64), .sl [.sc (.str), .sc (.str)], .sl [.sc (.int .i64), .sc (.int .i64), .sl [.sc (.int .i64), .sc (.str), .sc (.str)]]] [.F, .O [.F, .F, .F], .F, .O [.F, .F], .O [.F, .F, .F]] []), ((KI 4), .row [.sc (.int .i64), .sc (.int .i64), .sc (.int .i64), .sl [.sc (.int .i64), .sc (.str), .sc (.str)], .sc (.bool)] [.F, .F, .F, .F, .F] []), ([0, 8], .row [.sc (.int .i64), .sc (.int .i64), .sc (.int .i64), .sl [.sc (.int .i64), .sc (.str), .sc (.str)], .sc (.bool)] [.F, .F, .F, .F, .F] []), ([0, 9], .row [.sc (.int .i64), .sl [.sc (.int .i64), .sc (.str), .sc (.str)]] [.F, .F] [])]⟩
def spec_l12Says_e0_1 : Pack := ⟨[(0, .ptr [0, 999999] 0 0 0)], [([0, 999999], .box [LI, LI, LI, LA [0, 3] [.sc (.int .i64), .sl [.sc (.int .i64), .sc (.str), .sc (.str)], .sc (.int .i64), .sl [.sc (.int .i64)]], LA [0, 4] [.sc (.int .i64), .sc (.bool)], LI, LA [0, 6] [.sc (.int .i64), .sl [.sc (.int .i64), .sc (.int .i64), .sl [.sc (.int .i64), .sc (.str), .sc (.str)]], .sc (.int .i64), .sl [.sc (.str), .sc (.str)], .sl [.sc (.int .i64), .sc (.int .i64), .sl [.sc (.int .i64), .sc (.str), .sc (.str)]]], LA [0, 7] [.sc (.int .i64), .sc (.int .i64), .sc (.int .i64), .sl [.sc (.int .i64), .sc (.str), .sc (.str)], .sc (.bool)], LA [0, 8] [.sc (.int .i64), .sc (.int .i64), .sc (.int .i64), .sl [.sc (.int .i64), .sc (.str), .sc (.str)], .sc (.bool)], LA [0, 9] [.sc (.int .i64), .sl [.sc (.int .i64), .sc (.str), .sc (.str)]]]), ([0, 3], .row [.sc (.int .i64), .sl [.sc (.int .i64), .sc (.str), .sc (.str)], .sc (.int .i64), .sl [.sc (.int .i64)]] [.F, .F, .F, .F] []), ([0, 4], .row [.sc (.int .i64), .sc (.bool)] [.F, .F] []), ([0, 6], .row [.sc (.int .i64), .sl [.sc (.int .i64), .sc (.int .i64), .sl [.sc (.int .i64), .sc (.str), .sc (.str)]], .sc (.int .i64), .sl [.sc (.str), .sc (.str)], .sl [.sc (.int .i64), .sc (.int .i64), .sl [.sc (.int .i64), .sc (.str), .sc (.str)]]] [.F, .O [.F, .F, .F], .F, .O [.F, .F], .O [.F, .F, .F]] []), ([0, 7], .row [.sc (.int .i64), .sc (.int .i64), .sc (.int .i64), .sl [.sc (.int .i64), .sc (.str), .sc (.str)], .sc (.bool)] [.F, .F, .F, .F, .F] []), ([0, 8], .row [.sc (.int .i64), .sc (.int .i64), .sc (.int .i64), .sl [.sc (.int .i64), .sc (.str), .sc (.str)], .sc (.bool)] [.F, .F, .F, .F, .F] []), ([0, 9], .row [.sc (.int .i64), .sl [.sc (.int .i64), .sc (.str), .sc (.str)]] [.F, .F] [])]⟩
noncomputable def spec_l12Says : Nat → T → T → T → T → T → T → T → T → T → T → T → (T → T → T → T → T → T → T → T → T → T → An) → An
  | 0, _, _, _, _, _, _, _, _, _, _, _, _ => .bad
  | m + 1, x0, x1, x2, x3, x4, x5, x6, x7, x8, x9, x10, k0 =>
    spec_l12Says_L0_0 m m (T.i 0) (T.l x10.rows) (T.i 0) x0 x1 x2 x5 (T.l x3.rows) (T.l x4.rows) (T.l x6.rows) (T.l x7.rows) (T.l x8.rows) (T.l x9.rows)
    (fun y13 y14 y15 y16 y17 y18 y19 y20 y21 y22 y23 => k0 (T.l y18.rows) (T.l y19.rows) (T.l y20.rows) (T.l y22.rows) (T.l y23.rows) y14 y15 y16 y17 (T.l y21.rows))
    (fun y24 y25 y26 y27 y28 y29 y30 y31 y32 y33 y34 => k0 (T.l y29.rows) (T.l y30.rows) (T.l y31.rows) (T.l y33.rows) (T.l y34.rows) y25 y26 y27 y28 (T.l y32.rows))
noncomputable def spec_l12Says_f : Fs := ⟨35, [.bx [AI, AI, AI, .own [.sc (.int .i64), .sl [.sc (.int .i64), .sc (.str), .sc (.str)], .sc (.int .i64), .sl [.sc (.int .i64)]] [.F, .F, .F, .F] [], .own [.sc (.int .i64), .sc (.bool)] [.F, .F] [], AI, .own [.sc (.int .i64), .sl [.sc (.int .i64), .sc (.int .i64), .sl [.sc (.int .i64), .sc (.str), .sc (.str)]], .sc (.int .i64), .sl [.sc (.str), .sc (.str)], .sl [.sc (.int .i64), .sc (.int .i64), .sl [.sc (.int .i64), .sc (.str), .sc (.str)]]] [.F, .O [.F, .F, .F], .F, .O [.F, .F], .O [.F, .F, .F]] [], .own [.sc (.int .i64), .sc (.int .i64), .sc (.int .i64), .sl [.sc (.int .i64), .sc (.str), .sc (.str)], .sc (.bool)] [.F, .F, .F, .F, .F] [], .own [.sc (.int .i64), .sc (.int .i64), .sc (.int .i64), .sl [.sc (.int .i64), .sc (.str), .sc (.str)], .sc (.bool)] [.F, .F, .F, .F, .F] [], .own [.sc (.int .i64), .sl [.sc (.int .i64), .sc (.str), .sc (.str)]] [.F, .F] []], .one (.dz [.sc (.int .i64), .sc (.int .i64), .sc (.int .i64), .sl [.sc (.int .i64), .sc (.str), .sc (.str)], .sc (.bool)] [])], fun m vs k => ap 11 (spec_l12Says m) vs (lm 10 fun z => k (fRet ⟨[], [[none, none, none, some ([.sc (.int .i64), .sl [.sc (.int .i64), .sc (.str), .sc (.str)], .sc (.int .i64), .sl [.sc (.int .i64)]], [.F, .F, .F, .F], []), some ([.sc (.int .i64), .sc (.bool)], [.F, .F], []), none, some ([.sc (.int .i64), .sl [.sc (.int .i64), .sc (.int .i64), .sl [.sc (.int .i64), .sc (.str), .sc (.str)]], .sc (.int .i64), .sl [.sc (.str), .sc (.str)], .sl [.sc (.int .i64), .sc (.int .i64), .sl [.sc (.int .i64), .sc (.str), .sc (.str)]]], [.F, .O [.F, .F, .F], .F, .O [.F, .F], .O [.F, .F, .F]], []), none, some ([.sc (.int .i64), .sc (.int .i64), .sc (.int .i64), .sl [.sc (.int .i64), .sc (.str), .sc (.str)], .sc (.bool)], [.F, .F, .F, .F, .F], []), some ([.sc (.int .i64), .sl [.sc (.int .i64), .sc (.str), .sc (.str)]], [.F, .F], [])], [none]], [some [RI, RI, RI, .par 0 3, .par 0 4, RI, .par 0 6, .own (KR 1000 7) [.sc (.int .i64), .sc (.int .i64), .sc (.int .i64), .sl [.sc (.int .i64), .sc (.str), .sc (.str)], .sc (.bool)] [.F, .F, .F, .F, .F] [], .par 0 8, .par 0 9], none]⟩ z))⟩
noncomputable def spec_l12Says_l : List Ls := [⟨[0, 1], ⟨[(0, .ptr [0, 999999] 0 0 0), (1, .one (LD [.sc (.int .i64), .sc (.int .i64), .sc (.int .i64), .sl [.sc (.int .i64), .sc (.str), .sc (.str)], .sc (.bool)])), (4, .one (LI))], [([0, 999999], .box [LI, LI, LI, LA [0, 3] [.sc (.int .i64), .sl [.sc (.int .i64), .sc (.str), .sc (.str)], .sc (.int .i64), .sl [.sc (.int .i64)]], LA [0, 4] [.sc (.int .i64), .sc (.bool)], LI, LA [0, 6] [.sc (.int .i64), .sl [.sc (.int .i64), .sc (.int .i64), .sl [.sc (.int .i64), .sc (.str), .sc (.str)]], .sc (.int .i64), .sl [.sc (.str), .sc (.str)], .sl [.sc (.int .i64), .sc (.int .i64), .sl [.sc (.int .i64), .sc (.str), .sc (.str)]]], LA (KI 5) [.sc (.int .i64), .sc (.int .i64), .sc (.int .i64), .sl [.sc (.int .i64), .sc (.str), .sc (.str)], .sc (.bool)], LA [0, 8] [.sc (.int .i64), .sc (.int .i64), .sc (.int .i64), .sl [.sc (.int .i64), .sc (.str), .sc (.str)], .sc (.bool)], LA [0, 9] [.sc (.int .i64), .sl [.sc (.int .i64), .sc (.str), .sc (.str)]]]), ([4000000], .gone), ([0, 3], .row [.sc (.int .i64), .sl [.sc (.int .i64), .sc (.str), .sc (.str)], .sc (.int .i64), .sl [.sc (.int .i64)]] [.F, .F, .F, .F] []), ([0, 4], .row [.sc (.int .i64), .sc (.bool)] [.F, .F] []), ([0, 6], .row [.sc (.int .i64), .sl [.sc (.int .i64), .sc (.int .i64), .sl [.sc (.int .i64), .sc (.str), .sc (.str)]], .sc (.int .i64), .sl [.sc (.str), .sc (.str)], .sl [.sc (.int .i64), .sc (.int .i64), .sl [.sc (.int .i64), .sc (.str), .sc (.str)]]] [.F, .O [.F, .F, .F], .F, .O [.F, .F], .O [.F, .F, .F]] []), ((KI 5), .row [.sc (.int .i64), .sc (.int .i64), .sc (.int .i64), .sl [.sc (.int .i64), .sc (.str), .sc (.str)], .sc (.bool)] [.F, .F, .F, .F, .F] []), ([0, 8], .row [.sc (.int .i64), .sc (.int .i64), .sc (.int .i64), .sl [.sc (.int .i64), .sc (.str), .sc (.str)], .sc (.bool)] [.F, .F, .F, .F, .F] []), ([0, 9], .row [.sc (.int .i64), .sl [.sc (.int .i64), .sc (.str), .sc (.str)]] [.F, .F] [])]⟩, fun m n vs k => ap 13 (spec_l12Says_L0_1 m n) vs (lm 11 fun z => k (.exit 0) (fPack spec_l12Says_e0_0 z)) (lm 11 fun z => k (.exit 0) (fPack spec_l12Says_e0_1 z))⟩, ⟨[0, 1], ⟨[(0, .ptr [0, 999999] 0 0 0), (1, .one (LD [.sc (.int .i64), .sc (.int .i64), .sc (.int .i64), .sl [.sc (.int .i64), .sc (.str), .sc (.str)], .sc (.bool)])), (4, .one (LI))], [([0, 999999], .box [LI, LI, LI, LA [0, 3] [.sc (.int .i64), .sl [.sc (.int .i64), .sc (.str), .sc (.str)], .sc (.int .i64), .sl [.sc (.int .i64)]], LA [0, 4] [.sc (.int .i64), .sc (.bool)], LI, LA [0, 6] [.sc (.int .i64), .sl [.sc (.int .i64), .sc (.int .i64), .sl [.sc (.int .i64), .sc (.str), .sc (.str)]], .sc (.int .i64), .sl [.sc (.str), .sc (.str)], .sl [.sc (.int .i64), .sc (.int .i64), .sl [.sc (.int .i64), .sc (.str), .sc (.str)]]], LA [0, 7] [.sc (.int .i64), .sc (.int .i64), .sc (.int .i64), .sl [.sc (.int .i64), .sc (.str), .sc (.str)], .sc (.bool)], LA [0, 8] [.sc (.int .i64), .sc (.int .i64), .sc (.int .i64), .sl [.sc (.int .i64), .sc (.str), .sc (.str)], .sc (.bool)], LA [0, 9] [.sc (.int .i64), .sl [.sc (.int .i64), .sc (.str), .sc (.str)]]]), ([4000000], .gone), ([0, 3], .row [.sc (.int .i64), .sl [.sc (.int .i64), .sc (.str), .sc (.str)], .sc (.int .i64), .sl [.sc (.int .i64)]] [.F, .F, .F, .F] []), ([0, 4], .row [.sc (.int .i64), .sc (.bool)] [.F, .F] []), ([0, 6], .row [.sc (.int .i64), .sl [.sc (.int .i64), .sc (.int .i64), .sl [.sc (.int .i64), .sc (.str), .sc (.str)]], .sc (.int .i64), .sl [.sc (.str), .sc (.str)], .sl [.sc (.int .i64), .sc (.int .i64), .sl [.sc (.int .i64), .sc (.str), .sc (.str)]]] [.F, .O [.F, .F, .F], .F, .O [.F, .F], .O [.F, .F, .F]] []), ([0, 7], .row [.sc (.int .i64), .sc (.int .i64), .sc (.int .i64), .sl [.sc (.int .i64), .sc (.str), .sc (.str)], .sc (.bool)] [.F, .F, .F, .F, .F] []), ([0, 8], .row [.sc (.int .i64), .sc (.int .i64), .sc (.int .i64), .sl [.sc (.int .i64), .sc (.str), .sc (.str)], .sc (.bool)] [.F, .F, .F, .F, .F] []), ([0, 9], .row [.sc (.int .i64), .sl [.sc (.int .i64), .sc (.str), .sc (.str)]] [.F, .F] [])]⟩, fun m n vs k => ap 13 (spec_l12Says_L0_0 m n) vs (lm 11 fun z => k (.exit 0) (fPack spec_l12Says_e0_0 z)) (lm 11 fun z => k (.exit 0) (fPack spec_l12Says_e0_1 z))⟩]
noncomputable def spec_l12Says_t : List Fs := spec_l12Says_f :: spec_l10Copy_t
theorem spec_l12Says_g : FGood CX prims spec_l12Says_t ∧ FEqn CX prims spec_l12Says_f := fnG spec_l10Copy_g.1 spec_l12Says_f Try.f35 ⟨35, 2, 31, 1⟩ spec_l12Says_l (fun _ _ => rfl) (fun _ _ _ => by kernel_rfl) ⟨fun _ _ _ => rfl, fun _ _ _ => rfl, trivial⟩ ⟨fun _ _ _ _ _ _ => by kernel_rfl, fun _ _ _ _ _ _ => by kernel_rfl, trivial⟩ (fun _ _ _ _ _ => by kernel_rfl)

/-! loop.example/g00244/spec.l12Begin -/
noncomputable def spec_l12Begin : Nat → T → T → T → T → T → T → T → T → T → T → T → (T → T → T → T → T → T → T → T → T → T → T → An) → An
  | 0, _, _, _, _, _, _, _, _, _, _, _, _ => .bad
  | m + 1, x0, x1, x2, x3, x4, x5, x6, x7, x8, x9, x10, k0 =>
    cond ((x9.rows.length : Int) == 1000)
    (k0 (T.b false) x0 x1 x2 (T.l x3.rows) (T.l x4.rows) x5 (T.l x6.rows) (T.l x7.rows) (T.l x8.rows) (T.l x9.rows))
    (spec_l11Begin m x0 x1 x2 (T.l x3.rows) (T.l x4.rows) x5 (T.l x10.rows)
    (fun y0 y1 y2 y3 y4 y5 y6 y7 => cond (y1.int == 0)
    (k0 (T.b false) y2 y3 y4 (T.l y5.rows) (T.l y6.rows) y7 (T.l x6.rows) (T.l x7.rows) (T.l x8.rows) (T.l x9.rows))
    (spec_l7CopyOps m (T.l x10.rows)
    (fun y8 => cond (decide ((x9.rows.length + 1) * 2 ≤ maxRow))
    (spec_l12Says m y2 y3 y4 (T.l y5.rows) (T.l y6.rows) y7 (T.l x6.rows) (T.l x7.rows) (T.l x8.rows) (T.l (x9.rows ++ [[y1, (T.l y8.rows)]])) (T.l y0.rows)
    (fun y9 y10 y11 y12 y13 y14 y15 y16 y17 y18 => k0 (T.b true) y14 y15 y16 (T.l y9.rows) (T.l y10.rows) y17 (T.l y11.rows) (T.l y18.rows) (T.l y12.rows) (T.l y13.rows)))
    (.bad)))))
noncomputable def spec_l12Begin_f : Fs := ⟨32, [.bx [AI, AI, AI, .own [.sc (.int .i64), .sl [.sc (.int .i64), .sc (.str), .sc (.str)], .sc (.int .i64), .sl [.sc (.int .i64)]] [.F, .F, .F, .F] [], .own [.sc (.int .i64), .sc (.bool)] [.F, .F] [], AI, .own [.sc (.int .i64), .sl [.sc (.int .i64), .sc (.int .i64), .sl [.sc (.int .i64), .sc (.str), .sc (.str)]], .sc (.int .i64), .sl [.sc (.str), .sc (.str)], .sl [.sc (.int .i64), .sc (.int .i64), .sl [.sc (.int .i64), .sc (.str), .sc (.str)]]] [.F, .O [.F, .F, .F], .F, .O [.F, .F], .O [.F, .F, .F]] [], .own [.sc (.int .i64), .sc (.int .i64), .sc (.int .i64), .sl [.sc (.int .i64), .sc (.str), .sc (.str)], .sc (.bool)] [.F, .F, .F, .F, .F] [], .own [.sc (.int .i64), .sc (.int .i64), .sc (.int .i64), .sl [.sc (.int .i64), .sc (.str), .sc (.str)], .sc (.bool)] [.F, .F, .F, .F, .F] [], .own [.sc (.int .i64), .sl [.sc (.int .i64), .sc (.str), .sc (.str)]] [.F, .F] []], .one (.dz [.sc (.int .i64), .sc (.str), .sc (.str)] [])], fun m vs k => ap 11 (spec_l12Begin m) vs (lm 11 fun z => k (fRet ⟨[.one (RB)], [[none, none, none, none, none, none, none, none, none, none], [none]], [some [RI, RI, RI, .own (KR 1000 3) [.sc (.int .i64), .sl [.sc (.int .i64), .sc (.str), .sc (.str)], .sc (.int .i64), .sl [.sc (.int .i64)]] [.F, .F, .F, .F] [], .own (KR 1000 4) [.sc (.int .i64), .sc (.bool)] [.F, .F] [], RI, .own (KR 1000 6) [.sc (.int .i64), .sl [.sc (.int .i64), .sc (.int .i64), .sl [.sc (.int .i64), .sc (.str), .sc (.str)]], .sc (.int .i64), .sl [.sc (.str), .sc (.str)], .sl [.sc (.int .i64), .sc (.int .i64), .sl [.sc (.int .i64), .sc (.str), .sc (.str)]]] [.F, .O [.F, .F, .F], .F, .O [.F, .F], .O [.F, .F, .F]] [], .own (KR 1000 7) [.sc (.int .i64), .sc (.int .i64), .sc (.int .i64), .sl [.sc (.int .i64), .sc (.str), .sc (.str)], .sc (.bool)] [.F, .F, .F, .F, .F] [], .own (KR 1000 8) [.sc (.int .i64), .sc (.int .i64), .sc (.int .i64), .sl [.sc (.int .i64), .sc (.str), .sc (.str)], .sc (.bool)] [.F, .F, .F, .F, .F] [], .own (KR 1000 9) [.sc (.int .i64), .sl [.sc (.int .i64), .sc (.str), .sc (.str)]] [.F, .F] []], none]⟩ z))⟩
noncomputable def spec_l12Begin_t : List Fs := spec_l12Begin_f :: spec_l12Says_t
theorem spec_l12Begin_g : FGood CX prims spec_l12Begin_t ∧ FEqn CX prims spec_l12Begin_f := fnG spec_l12Says_g.1 spec_l12Begin_f Try.f32 ⟨32, 2, 39, 17⟩ [] (fun _ _ => rfl) (fun _ _ _ => by kernel_rfl) trivial trivial (fun _ _ _ _ _ => by kernel_rfl)

/-! loop.example/g00244/spec.l8At -/
noncomputable def spec_l8At_L0_0 (m : Nat) : Nat → T → T → T → (T → An) → An → An
  | 0, _, _, _, _, _ => .bad
  | n + 1, x0, x1, x2, k0, k1 =>
    cond (decide (x2.int < (x0.rows.length : Int)))
    (cond (decide ((0 : Int) ≤ x2.int ∧ x2.int < (x0.rows.length : Int)))
    (cond ((((x0.rows.getD (Int.toNat x2.int) []).drop 1).getD 0 dflt).int == x1.int)
    (k0 x2)
    (spec_l8At_L0_0 m n x0 x1 (T.i (IntKind.i64.wrap (x2.int + 1))) k0 k1))
    (.bad))
    (k1 )
noncomputable def spec_l8At : Nat → T → T → (T → An) → An
  | 0, _, _, _ => .bad
  | m + 1, x0, x1, k0 =>
    spec_l8At_L0_0 m m (T.l x0.rows) x1 (T.i 0)
    (fun y0 => k0 y0)
    (k0 (T.i (-1)))
noncomputable def spec_l8At_f : Fs := ⟨81, [.one (.dz [.sc (.int .i64), .sc (.int .i64), .sl [.sc (.int .i64), .sc (.str), .sc (.str)]] []), .one (AI)], fun m vs k => ap 2 (spec_l8At m) vs (lm 1 fun z => k (fRet ⟨[.one (RI)], [[none], [none]], [none, none]⟩ z))⟩
noncomputable def spec_l8At_l : List Ls := [⟨[0, 1, 0, 1], ⟨[(0, .one (LD [.sc (.int .i64), .sc (.int .i64), .sl [.sc (.int .i64), .sc (.str), .sc (.str)]])), (1, .one (LI)), (5, .one (LI))], [([4000000], .gone)]⟩, fun m n vs k => ap 3 (spec_l8At_L0_0 m n) vs (lm 1 fun z => k .ret (fPack ⟨[(4, .one (LI))], []⟩ z)) (lm 0 fun z => k (.exit 0) (fPack ⟨[], []⟩ z))⟩]
noncomputable def spec_l8At_t : List Fs := spec_l8At_f :: spec_l12Begin_t
theorem spec_l8At_g : FGood CX prims spec_l8At_t ∧ FEqn CX prims spec_l8At_f := fnG spec_l12Begin_g.1 spec_l8At_f Try.f81 ⟨81, 2, 20, 16⟩ spec_l8At_l (fun _ _ => rfl) (fun _ _ _ => by kernel_rfl) ⟨fun _ _ _ => rfl, trivial⟩ ⟨fun _ _ _ _ _ _ => by kernel_rfl, trivial⟩ (fun _ _ _ _ _ => by kernel_rfl)

/-! loop.example/g00244/spec.l9Outcome -/
noncomputable def spec_l9Outcome_L0_0 (m : Nat) : Nat → T → T → T → T → T → T → T → T → T → (T → An) → An
  | 0, _, _, _, _, _, _, _, _, _, _ => .bad
  | n + 1, x0, x1, x2, x3, x4, x5, x6, x7, x8, k0 =>
    cond (decide (x3.int < (x5.rows.length : Int)))
    (jn (fun (j4 : T → An) =>
    cond (decide ((0 : Int) ≤ x3.int ∧ x3.int < (x5.rows.length : Int)))
    (cond (((((x5.rows.getD (Int.toNat x3.int) []).drop 1).getD 0 dflt).int == x0.int) == true)
    (cond (decide ((0 : Int) ≤ x3.int ∧ x3.int < (x5.rows.length : Int)))
    (cond (((x5.rows.getD (Int.toNat x3.int) []).getD 0 dflt).int == 2)
    (j4 (T.i 3))
    (j4 x2))
    (.bad))
    (j4 x2))
    (.bad))
    (fun y2 => cond (decide ((0 : Int) ≤ x3.int ∧ x3.int < (x5.rows.length : Int)))
    (cond (((((x5.rows.getD (Int.toNat x3.int) []).drop 1).getD 0 dflt).int == x0.int) == true)
    (cond (decide ((0 : Int) ≤ x3.int ∧ x3.int < (x5.rows.length : Int)))
    (cond (((x5.rows.getD (Int.toNat x3.int) []).getD 0 dflt).int == 3)
    (spec_l9Outcome_L0_0 m n x0 (T.i (x1.int.toNat : Int)) (T.i 4) (T.i (IntKind.i64.wrap (x3.int + 1))) x4 x5 x6 x7 x8 k0)
    (spec_l9Outcome_L0_0 m n x0 (T.i (x1.int.toNat : Int)) y2 (T.i (IntKind.i64.wrap (x3.int + 1))) x4 x5 x6 x7 x8 k0))
    (.bad))
    (spec_l9Outcome_L0_0 m n x0 (T.i (x1.int.toNat : Int)) y2 (T.i (IntKind.i64.wrap (x3.int + 1))) x4 x5 x6 x7 x8 k0))
    (.bad)))
    (k0 x2)
noncomputable def spec_l9Outcome : Nat → T → T → T → T → T → T → (T → An) → An
  | 0, _, _, _, _, _, _, _ => .bad
  | m + 1, x0, x1, x2, x3, x4, x5, k0 =>
    spec_l8At m (T.l x4.rows) x5
    (fun y0 => cond (decide (y0.int ≥ 0))
    (k0 (T.i 1))
    (spec_l9Outcome_L0_0 m m x5 (T.i 0) (T.i 2) (T.i 0) x0 (T.l x1.rows) x2 (T.l x3.rows) (T.l x4.rows)
    (fun y7 => k0 y7)))
noncomputable def spec_l9Outcome_f : Fs := ⟨69, [.agg [AI, .dz [.sc (.int .i64), .sc (.int .i64), .sl [.sc (.int .i64), .sc (.str), .sc (.str)]] [], AI, .dz [.sc (.str), .sc (.str)] [], .dz [.sc (.int .i64), .sc (.int .i64), .sl [.sc (.int .i64), .sc (.str), .sc (.str)]] []], .one (AI)], fun m vs k => ap 6 (spec_l9Outcome m) vs (lm 1 fun z => k (fRet ⟨[.one (RI)], [[none, none, none, none, none], [none]], [none, none]⟩ z))⟩
noncomputable def spec_l9Outcome_l : List Ls := [⟨[0, 1, 0, 1, 1, 1], ⟨[(1, .one (LI)), (2, EP 0), (5, .one (LI)), (6, .one (LI))], [((KI 0), .box [LI, LD [.sc (.int .i64), .sc (.int .i64), .sl [.sc (.int .i64), .sc (.str), .sc (.str)]], LI, LD [.sc (.str), .sc (.str)], LD [.sc (.int .i64), .sc (.int .i64), .sl [.sc (.int .i64), .sc (.str), .sc (.str)]]]), ([4000000], .gone)]⟩, fun m n vs k => ap 9 (spec_l9Outcome_L0_0 m n) vs (lm 1 fun z => k (.exit 0) (fPack ⟨[(5, .one (LI))], []⟩ z))⟩]
noncomputable def spec_l9Outcome_t : List Fs := spec_l9Outcome_f :: spec_l8At_t
theorem spec_l9Outcome_g : FGood CX prims spec_l9Outcome_t ∧ FEqn CX prims spec_l9Outcome_f := fnG spec_l8At_g.1 spec_l9Outcome_f Try.f69 ⟨69, 2, 54, 16⟩ spec_l9Outcome_l (fun _ _ => rfl) (fun _ _ _ => by kernel_rfl) ⟨fun _ _ _ => rfl, trivial⟩ ⟨fun _ _ _ _ _ _ => by kernel_rfl, trivial⟩ (fun _ _ _ _ _ => by kernel_rfl)

/-! loop.example/g00244/spec.l8Locked -/
noncomputable def spec_l8Locked_L2_0 (m : Nat) : Nat → T → T → T → T → T → (T → An) → (T → T → T → T → An) → An
  | 0, _, _, _, _, _, _, _ => .bad
  | n + 1, x0, x1, x2, x3, x4, k0, k1 =>
    cond (decide (x4.int < (x1.rows.length : Int)))
    (cond (decide ((0 : Int) ≤ x2.int ∧ x2.int < (x0.rows.length : Int)))
    (cond (decide ((0 : Int) ≤ x3.int ∧ x3.int < ((((x0.rows.getD (Int.toNat x2.int) []).drop 2).getD 0 dflt).rows.length : Int)))
    (cond (decide ((0 : Int) ≤ x4.int ∧ x4.int < (x1.rows.length : Int)))
    (cond (((((((x0.rows.getD (Int.toNat x2.int) []).drop 2).getD 0 dflt).rows.getD (Int.toNat x3.int) []).drop 1).getD 0 dflt).str.toList == (((x1.rows.getD (Int.toNat x4.int) []).drop 1).getD 0 dflt).str.toList)
    (k0 (T.b true))
    (spec_l8Locked_L2_0 m n x0 x1 x2 x3 (T.i (IntKind.i64.wrap (x4.int + 1))) k0 k1))
    (.bad))
    (.bad))
    (.bad))
    (k1 x0 x1 x2 x3)
noncomputable def spec_l8Locked_L1_0 (m : Nat) : Nat → T → T → T → T → (T → An) → (T → T → T → An) → An
  | 0, _, _, _, _, _, _ => .bad
  | n + 1, x0, x1, x2, x3, k0, k1 =>
    cond (decide ((0 : Int) ≤ x2.int ∧ x2.int < (x0.rows.length : Int)))
    (cond (decide (x3.int < ((((x0.rows.getD (Int.toNat x2.int) []).drop 2).getD 0 dflt).rows.length : Int)))
    (spec_l8Locked_L2_0 m n x0 x1 x2 x3 (T.i 0)
    (fun y0 => k0 y0)
    (fun y1 y2 y3 y4 => spec_l8Locked_L1_0 m n y1 y2 y3 (T.i (IntKind.i64.wrap (y4.int + 1))) k0 k1))
    (k1 x0 x1 x2))
    (.bad)
noncomputable def spec_l8Locked_L0_0 (m : Nat) : Nat → T → T → T → (T → An) → An → An
  | 0, _, _, _, _, _ => .bad
  | n + 1, x0, x1, x2, k0, k1 =>
    cond (decide (x2.int < (x0.rows.length : Int)))
    (spec_l8Locked_L1_0 m n x0 x1 x2 (T.i 0)
    (fun y5 => k0 y5)
    (fun y6 y7 y8 => spec_l8Locked_L0_0 m n y6 y7 (T.i (IntKind.i64.wrap (y8.int + 1))) k0 k1))
    (k1 )
noncomputable def spec_l8Locked : Nat → T → T → (T → An) → An
  | 0, _, _, _ => .bad
  | m + 1, x0, x1, k0 =>
    spec_l8Locked_L0_0 m m (T.l x0.rows) (T.l x1.rows) (T.i 0)
    (fun y9 => k0 y9)
    (k0 (T.b false))
noncomputable def spec_l8Locked_f : Fs := ⟨78, [.one (.dz [.sc (.int .i64), .sc (.int .i64), .sl [.sc (.int .i64), .sc (.str), .sc (.str)]] []), .one (.dz [.sc (.int .i64), .sc (.str), .sc (.str)] [])], fun m vs k => ap 2 (spec_l8Locked m) vs (lm 1 fun z => k (fRet ⟨[.one (RB)], [[none], [none]], [none, none]⟩ z))⟩
noncomputable def spec_l8Locked_l : List Ls := [⟨[0, 1, 0, 0, 1, 0, 0, 1, 0, 0, 1, 0, 0, 1, 0, 1], ⟨[(0, .one (LD [.sc (.int .i64), .sc (.int .i64), .sl [.sc (.int .i64), .sc (.str), .sc (.str)]])), (1, .one (LD [.sc (.int .i64), .sc (.str), .sc (.str)])), (5, .one (LI)), (6, .one (LI)), (7, .one (LI))], [([4000000], .gone)]⟩, fun m n vs k => ap 5 (spec_l8Locked_L2_0 m n) vs (lm 1 fun z => k .ret (fPack ⟨[(4, .one (LB))], []⟩ z)) (lm 4 fun z => k (.exit 4) (fPack ⟨[(0, .one (LD [.sc (.int .i64), .sc (.int .i64), .sl [.sc (.int .i64), .sc (.str), .sc (.str)]])), (1, .one (LD [.sc (.int .i64), .sc (.str), .sc (.str)])), (5, .one (LI)), (6, .one (LI))], [([4000000], .gone)]⟩ z))⟩, ⟨[0, 1, 0, 0, 1, 0, 0, 1, 0, 1], ⟨[(0, .one (LD [.sc (.int .i64), .sc (.int .i64), .sl [.sc (.int .i64), .sc (.str), .sc (.str)]])), (1, .one (LD [.sc (.int .i64), .sc (.str), .sc (.str)])), (5, .one (LI)), (6, .one (LI))], [([4000000], .gone)]⟩, fun m n vs k => ap 4 (spec_l8Locked_L1_0 m n) vs (lm 1 fun z => k .ret (fPack ⟨[(4, .one (LB))], []⟩ z)) (lm 3 fun z => k (.exit 2) (fPack ⟨[(0, .one (LD [.sc (.int .i64), .sc (.int .i64), .sl [.sc (.int .i64), .sc (.str), .sc (.str)]])), (1, .one (LD [.sc (.int .i64), .sc (.str), .sc (.str)])), (5, .one (LI))], [([4000000], .gone)]⟩ z))⟩, ⟨[0, 1, 0, 1], ⟨[(0, .one (LD [.sc (.int .i64), .sc (.int .i64), .sl [.sc (.int .i64), .sc (.str), .sc (.str)]])), (1, .one (LD [.sc (.int .i64), .sc (.str), .sc (.str)])), (5, .one (LI))], [([4000000], .gone)]⟩, fun m n vs k => ap 3 (spec_l8Locked_L0_0 m n) vs (lm 1 fun z => k .ret (fPack ⟨[(4, .one (LB))], []⟩ z)) (lm 0 fun z => k (.exit 0) (fPack ⟨[], []⟩ z))⟩]
noncomputable def spec_l8Locked_t : List Fs := spec_l8Locked_f :: spec_l9Outcome_t
theorem spec_l8Locked_g : FGood CX prims spec_l8Locked_t ∧ FEqn CX prims spec_l8Locked_f := fnG spec_l9Outcome_g.1 spec_l8Locked_f Try.f78 ⟨78, 2, 45, 16⟩ spec_l8Locked_l (fun _ _ => rfl) (fun _ _ _ => by kernel_rfl) ⟨fun _ _ _ => rfl, fun _ _ _ => rfl, fun _ _ _ => rfl, trivial⟩ ⟨fun _ _ _ _ _ _ => by kernel_rfl, fun _ _ _ _ _ _ => by kernel_rfl, fun _ _ _ _ _ _ => by kernel_rfl, trivial⟩ (fun _ _ _ _ _ => by kernel_rfl)

/-! loop.example/g00244/spec.GetKey -/
noncomputable def spec_GetKey_L0_0 (m : Nat) : Nat → T → T → T → (T → T → An) → An → An
  | 0, _, _, _, _, _ => .bad
  | n + 1, x0, x1, x2, k0, k1 =>
    cond (decide (x2.int < (x0.rows.length : Int)))
    (cond (decide ((0 : Int) ≤ x2.int ∧ x2.int < (x0.rows.length : Int)))
    (cond (((x0.rows.getD (Int.toNat x2.int) []).getD 0 dflt).str.toList == x1.str.toList)
    (cond (decide ((0 : Int) ≤ x2.int ∧ x2.int < (x0.rows.length : Int)))
    (k0 (((x0.rows.getD (Int.toNat x2.int) []).drop 1).getD 0 dflt) (T.b true))
    (.bad))
    (spec_GetKey_L0_0 m n x0 x1 (T.i (IntKind.i64.wrap (x2.int + 1))) k0 k1))
    (.bad))
    (k1 )
noncomputable def spec_GetKey : Nat → T → T → (T → T → An) → An
  | 0, _, _, _ => .bad
  | m + 1, x0, x1, k0 =>
    spec_GetKey_L0_0 m m (T.l x0.rows) x1 (T.i 0)
    (fun y0 y1 => k0 y0 y1)
    (k0 (T.s (⟨#[]⟩ : ByteArray)) (T.b false))
noncomputable def spec_GetKey_f : Fs := ⟨86, [.one (.dz [.sc (.str), .sc (.str)] []), .one (AS)], fun m vs k => ap 2 (spec_GetKey m) vs (lm 2 fun z => k (fRet ⟨[.one (RS), .one (RB)], [[none], [none]], [none, none]⟩ z))⟩
noncomputable def spec_GetKey_l : List Ls := [⟨[0, 1, 0, 1], ⟨[(0, .one (LD [.sc (.str), .sc (.str)])), (1, .one (LS)), (6, .one (LI))], [([4000000], .gone)]⟩, fun m n vs k => ap 3 (spec_GetKey_L0_0 m n) vs (lm 2 fun z => k .ret (fPack ⟨[(4, .one (LS)), (5, .one (LB))], []⟩ z)) (lm 0 fun z => k (.exit 0) (fPack ⟨[], []⟩ z))⟩]
noncomputable def spec_GetKey_t : List Fs := spec_GetKey_f :: spec_l8Locked_t
theorem spec_GetKey_g : FGood CX prims spec_GetKey_t ∧ FEqn CX prims spec_GetKey_f := fnG spec_l8Locked_g.1 spec_GetKey_f Try.f86 ⟨86, 2, 25, 48⟩ spec_GetKey_l (fun _ _ => rfl) (fun _ _ _ => by kernel_rfl) ⟨fun _ _ _ => rfl, trivial⟩ ⟨fun _ _ _ _ _ _ => by kernel_rfl, trivial⟩ (fun _ _ _ _ _ => by kernel_rfl)

/-! loop.example/g00244/spec.Meets -/
noncomputable def spec_Meets_L0_0 (m : Nat) : Nat → T → T → T → (T → An) → An → An
  | 0, _, _, _, _, _ => .bad
  | n + 1, x0, x1, x2, k0, k1 =>
    cond (decide (x2.int < (x1.rows.length : Int)))
    (cond (decide ((0 : Int) ≤ x2.int ∧ x2.int < (x1.rows.length : Int)))
    (cond (((x1.rows.getD (Int.toNat x2.int) []).getD 0 dflt).int != 3)
    (spec_Meets_L0_0 m n x0 x1 (T.i (IntKind.i64.wrap (x2.int + 1))) k0 k1)
    (cond (decide ((0 : Int) ≤ x2.int ∧ x2.int < (x1.rows.length : Int)))
    (spec_GetKey m (T.l x0.rows) (((x1.rows.getD (Int.toNat x2.int) []).drop 1).getD 0 dflt)
    (fun y0 y1 => cond (decide ((0 : Int) ≤ x2.int ∧ x2.int < (x1.rows.length : Int)))
    (cond ((!(y1.bool == (!((((x1.rows.getD (Int.toNat x2.int) []).drop 2).getD 0 dflt).str.toList == (⟨#[]⟩ : ByteArray).toList)))) == false)
    (cond (decide ((0 : Int) ≤ x2.int ∧ x2.int < (x1.rows.length : Int)))
    (cond (!(y0.str.toList == (((x1.rows.getD (Int.toNat x2.int) []).drop 2).getD 0 dflt).str.toList))
    (k0 (T.b false))
    (spec_Meets_L0_0 m n x0 x1 (T.i (IntKind.i64.wrap (x2.int + 1))) k0 k1))
    (.bad))
    (k0 (T.b false)))
    (.bad)))
    (.bad)))
    (.bad))
    (k1 )
noncomputable def spec_Meets : Nat → T → T → (T → An) → An
  | 0, _, _, _ => .bad
  | m + 1, x0, x1, k0 =>
    spec_Meets_L0_0 m m (T.l x0.rows) (T.l x1.rows) (T.i 0)
    (fun y3 => k0 y3)
    (k0 (T.b true))
noncomputable def spec_Meets_f : Fs := ⟨79, [.one (.dz [.sc (.str), .sc (.str)] []), .one (.dz [.sc (.int .i64), .sc (.str), .sc (.str)] [])], fun m vs k => ap 2 (spec_Meets m) vs (lm 1 fun z => k (fRet ⟨[.one (RB)], [[none], [none]], [none, none]⟩ z))⟩
noncomputable def spec_Meets_l : List Ls := [⟨[0, 1, 0, 1], ⟨[(0, .one (LD [.sc (.str), .sc (.str)])), (1, .one (LD [.sc (.int .i64), .sc (.str), .sc (.str)])), (5, .one (LI))], [([4000000], .gone)]⟩, fun m n vs k => ap 3 (spec_Meets_L0_0 m n) vs (lm 1 fun z => k .ret (fPack ⟨[(4, .one (LB))], []⟩ z)) (lm 0 fun z => k (.exit 0) (fPack ⟨[], []⟩ z))⟩]
noncomputable def spec_Meets_t : List Fs := spec_Meets_f :: spec_GetKey_t
theorem spec_Meets_g : FGood CX prims spec_Meets_t ∧ FEqn CX prims spec_Meets_f := fnG spec_GetKey_g.1 spec_Meets_f Try.f79 ⟨79, 2, 47, 16⟩ spec_Meets_l (fun _ _ => rfl) (fun _ _ _ => by kernel_rfl) ⟨fun _ _ _ => rfl, trivial⟩ ⟨fun _ _ _ _ _ _ => by kernel_rfl, trivial⟩ (fun _ _ _ _ _ => by kernel_rfl)

/-! loop.example/g00244/spec.l9Keys -/
noncomputable def spec_l9Keys_L0_0 (m : Nat) : Nat → T → T → T → T → T → T → T → T → (T → An) → An
  | 0, _, _, _, _, _, _, _, _, _ => .bad
  | n + 1, x0, x1, x2, x3, x4, x5, x6, x7, k0 =>
    cond (decide (x2.int < (x7.rows.length : Int)))
    (cond (decide ((0 : Int) ≤ x2.int ∧ x2.int < (x7.rows.length : Int)))
    (spec_l9Keys_L0_0 m n (T.i (x0.int.toNat : Int)) (T.i (IntKind.i64.wrap (x1.int + ((((x7.rows.getD (Int.toNat x2.int) []).drop 2).getD 0 dflt).rows.length : Int)))) (T.i (IntKind.i64.wrap (x2.int + 1))) x3 x4 x5 x6 x7 k0)
    (.bad))
    (k0 x1)
noncomputable def spec_l9Keys : Nat → T → T → T → T → T → T → (T → An) → An
  | 0, _, _, _, _, _, _, _ => .bad
  | m + 1, x0, x1, x2, x3, x4, x5, k0 =>
    spec_l9Keys_L0_0 m m (T.i 0) (T.i (IntKind.i64.wrap ((x3.rows.length : Int) + (x5.rows.length : Int)))) (T.i 0) x0 (T.l x1.rows) x2 (T.l x3.rows) (T.l x4.rows)
    (fun y0 => k0 y0)
noncomputable def spec_l9Keys_f : Fs := ⟨80, [.agg [AI, .dz [.sc (.int .i64), .sc (.int .i64), .sl [.sc (.int .i64), .sc (.str), .sc (.str)]] [], AI, .dz [.sc (.str), .sc (.str)] [], .dz [.sc (.int .i64), .sc (.int .i64), .sl [.sc (.int .i64), .sc (.str), .sc (.str)]] []], .one (.dz [.sc (.int .i64), .sc (.str), .sc (.str)] [])], fun m vs k => ap 6 (spec_l9Keys m) vs (lm 1 fun z => k (fRet ⟨[.one (RI)], [[none, none, none, none, none], [none]], [none, none]⟩ z))⟩
noncomputable def spec_l9Keys_l : List Ls := [⟨[0, 1, 0, 1, 1], ⟨[(2, EP 0), (5, .one (LI)), (6, .one (LI))], [((KI 0), .box [LI, LD [.sc (.int .i64), .sc (.int .i64), .sl [.sc (.int .i64), .sc (.str), .sc (.str)]], LI, LD [.sc (.str), .sc (.str)], LD [.sc (.int .i64), .sc (.int .i64), .sl [.sc (.int .i64), .sc (.str), .sc (.str)]]]), ([4000000], .gone)]⟩, fun m n vs k => ap 8 (spec_l9Keys_L0_0 m n) vs (lm 1 fun z => k (.exit 0) (fPack ⟨[(5, .one (LI))], []⟩ z))⟩]
noncomputable def spec_l9Keys_t : List Fs := spec_l9Keys_f :: spec_Meets_t
theorem spec_l9Keys_g : FGood CX prims spec_l9Keys_t ∧ FEqn CX prims spec_l9Keys_f := fnG spec_Meets_g.1 spec_l9Keys_f Try.f80 ⟨80, 2, 30, 16⟩ spec_l9Keys_l (fun _ _ => rfl) (fun _ _ _ => by kernel_rfl) ⟨fun _ _ _ => rfl, trivial⟩ ⟨fun _ _ _ _ _ _ => by kernel_rfl, trivial⟩ (fun _ _ _ _ _ => by kernel_rfl)

/-! loop.example/g00244/spec.RecOk -/
noncomputable def spec_RecOk : Nat → T → T → T → (T → An) → An
  | 0, _, _, _, _ => .bad
  | m + 1, x0, x1, x2, k0 =>
    spec_l1In m x1 (T.i 1) (T.i 1000000)
    (fun y0 => cond (!y0.bool)
    (k0 (T.b false))
    (cond (x0.int == 1)
    (spec_OpsOk m (T.l x2.rows)
    (fun y1 => k0 y1))
    (cond (x0.int == 2)
    (k0 (T.b ((x2.rows.length : Int) == 0)))
    (cond (x0.int == 3)
    (k0 (T.b ((x2.rows.length : Int) == 0)))
    (k0 (T.b false))))))
noncomputable def spec_RecOk_f : Fs := ⟨83, [.agg [AI, AI, .dz [.sc (.int .i64), .sc (.str), .sc (.str)] []]], fun m vs k => ap 3 (spec_RecOk m) vs (lm 1 fun z => k (fRet ⟨[.one (RB)], [[none, none, none]], [none]⟩ z))⟩
noncomputable def spec_RecOk_t : List Fs := spec_RecOk_f :: spec_l9Keys_t
theorem spec_RecOk_g : FGood CX prims spec_RecOk_t ∧ FEqn CX prims spec_RecOk_f := fnG spec_l9Keys_g.1 spec_RecOk_f Try.f83 ⟨83, 1, 21, 4⟩ [] (fun _ _ => rfl) (fun _ _ _ => by kernel_rfl) trivial trivial (fun _ _ _ _ _ => by kernel_rfl)

/-! loop.example/g00244/spec.l8CopyRec -/
noncomputable def spec_l8CopyRec : Nat → T → T → T → (T → T → T → An) → An
  | 0, _, _, _, _ => .bad
  | m + 1, x0, x1, x2, k0 =>
    spec_l7CopyOps m (T.l x2.rows)
    (fun y0 => k0 x0 x1 (T.l y0.rows))
noncomputable def spec_l8CopyRec_f : Fs := ⟨82, [.agg [AI, AI, .dz [.sc (.int .i64), .sc (.str), .sc (.str)] []]], fun m vs k => ap 3 (spec_l8CopyRec m) vs (lm 3 fun z => k (fRet ⟨[.agg [RI, RI, .own (KR 0 2) [.sc (.int .i64), .sc (.str), .sc (.str)] [.F, .F, .F] []]], [[none, none, none]], [none]⟩ z))⟩
noncomputable def spec_l8CopyRec_t : List Fs := spec_l8CopyRec_f :: spec_RecOk_t
theorem spec_l8CopyRec_g : FGood CX prims spec_l8CopyRec_t ∧ FEqn CX prims spec_l8CopyRec_f := fnG spec_RecOk_g.1 spec_l8CopyRec_f Try.f82 ⟨82, 1, 8, 4⟩ [] (fun _ _ => rfl) (fun _ _ _ => by kernel_rfl) trivial trivial (fun _ _ _ _ _ => by kernel_rfl)

/-! loop.example/g00244/spec.PutKey -/
noncomputable def spec_PutKey_L1_0 (m : Nat) : Nat → T → T → T → T → (T → T → T → T → An) → An
  | 0, _, _, _, _, _ => .bad
  | n + 1, x0, x1, x2, x3, k0 =>
    cond ((decide (x3.int < (x0.rows.length : Int))) == true)
    (cond (decide ((0 : Int) ≤ x3.int ∧ x3.int < (x0.rows.length : Int)))
    (cond ((Op.bytesLess ((x0.rows.getD (Int.toNat x3.int) []).getD 0 dflt).str.toList x1.str.toList) || (((x0.rows.getD (Int.toNat x3.int) []).getD 0 dflt).str.toList == x1.str.toList))
    (spec_PutKey_L1_0 m n x0 x1 x2 (T.i (IntKind.i64.wrap (x3.int + 1))) k0)
    (k0 x0 x1 x2 x3))
    (.bad))
    (k0 x0 x1 x2 x3)
noncomputable def spec_PutKey_L0_0 (m : Nat) : Nat → T → T → T → T → T → (T → An) → (T → T → T → An) → An
  | 0, _, _, _, _, _, _, _ => .bad
  | n + 1, x0, x1, x2, x3, x4, k0, k1 =>
    cond (decide (x3.int < (x4.rows.length : Int)))
    (cond (decide ((0 : Int) ≤ x3.int ∧ x3.int < (x4.rows.length : Int)))
    (cond (decide ((Int.toNat x3.int) < x4.rows.length))
    (cond (((x4.rows.getD (Int.toNat x3.int) []).getD 0 dflt).str.toList == x1.str.toList)
    (cond (decide ((0 : Int) ≤ x3.int ∧ x3.int < (x4.rows.length : Int)))
    (cond (decide ((Int.toNat x3.int) < x4.rows.length))
    (k0 (T.l (x4.rows.set (Int.toNat x3.int) ((x4.rows.getD (Int.toNat x3.int) []).set 1 x2))))
    (.bad))
    (.bad))
    (spec_PutKey_L0_0 m n x0 x1 x2 (T.i (IntKind.i64.wrap (x3.int + 1))) (T.l x4.rows) k0 k1))
    (.bad))
    (.bad))
    (k1 x0 x1 x2)
noncomputable def spec_PutKey : Nat → T → T → T → (T → An) → An
  | 0, _, _, _, _ => .bad
  | m + 1, x0, x1, x2, k0 =>
    cond (decide ((0 + x0.rows.length) * 2 ≤ maxRow))
    (spec_PutKey_L0_0 m m (T.l x0.rows) x1 x2 (T.i 0) (T.l x0.rows)
    (fun y0 => k0 (T.l y0.rows))
    (fun y1 y2 y3 => spec_PutKey_L1_0 m m y1 y2 y3 (T.i 0)
    (fun y5 y6 y7 y8 => cond (decide ((0 : Int) ≤ y8.int ∧ y8.int ≤ (y5.rows.length : Int)))
    (cond (decide ((0 : Int) ≤ 0 ∧ 0 ≤ y8.int))
    (cond (decide ((0 + (y5.rows.take (Int.toNat y8.int)).length) * 2 ≤ maxRow))
    (cond (decide (((y5.rows.take (Int.toNat y8.int)).length + 1) * 2 ≤ maxRow))
    (cond (decide ((0 : Int) ≤ (y5.rows.length : Int) ∧ (y5.rows.length : Int) ≤ (y5.rows.length : Int)))
    (cond (decide ((0 : Int) ≤ y8.int ∧ y8.int ≤ (y5.rows.length : Int)))
    (cond (decide ((((y5.rows.take (Int.toNat y8.int)) ++ [[y6, y7]]).length + ((y5.rows.take (Int.toNat (y5.rows.length : Int))).drop (Int.toNat y8.int)).length) * 2 ≤ maxRow))
    (k0 (T.l (((y5.rows.take (Int.toNat y8.int)) ++ [[y6, y7]]) ++ ((y5.rows.take (Int.toNat (y5.rows.length : Int))).drop (Int.toNat y8.int)))))
    (.bad))
    (.bad))
    (.bad))
    (.bad))
    (.bad))
    (.bad))
    (.bad))))
    (.bad)
noncomputable def spec_PutKey_f : Fs := ⟨27, [.one (.dz [.sc (.str), .sc (.str)] []), .one (AS), .one (AS)], fun m vs k => ap 3 (spec_PutKey m) vs (lm 1 fun z => k (fRet ⟨[.one (.own (KR 0 0) [.sc (.str), .sc (.str)] [.F, .F] [])], [[none], [none], [none]], [none, none, none]⟩ z))⟩
noncomputable def spec_PutKey_l : List Ls := [⟨[0, 0, 1, 1, 1, 1], ⟨[(0, .one (LD [.sc (.str), .sc (.str)])), (1, .one (LS)), (2, .one (LS)), (9, .one (LI))], [([4000000], .gone)]⟩, fun m n vs k => ap 4 (spec_PutKey_L1_0 m n) vs (lm 4 fun z => k (.exit 2) (fPack ⟨[(0, .one (LD [.sc (.str), .sc (.str)])), (1, .one (LS)), (2, .one (LS)), (9, .one (LI))], [([4000000], .gone)]⟩ z))⟩, ⟨[0, 1, 0, 1, 1], ⟨[(0, .one (LD [.sc (.str), .sc (.str)])), (1, .one (LS)), (2, .one (LS)), (7, .one (LA (KI 1) [.sc (.str), .sc (.str)])), (8, .one (LI))], [([4000000], .gone), ((KI 1), .row [.sc (.str), .sc (.str)] [.F, .F] [])]⟩, fun m n vs k => ap 5 (spec_PutKey_L0_0 m n) vs (lm 1 fun z => k .ret (fPack ⟨[(6, .one (LA (KI 0) [.sc (.str), .sc (.str)]))], [((KI 0), .row [.sc (.str), .sc (.str)] [.F, .F] [])]⟩ z)) (lm 3 fun z => k (.exit 0) (fPack ⟨[(0, .one (LD [.sc (.str), .sc (.str)])), (1, .one (LS)), (2, .one (LS))], [([4000000], .gone)]⟩ z))⟩]
noncomputable def spec_PutKey_t : List Fs := spec_PutKey_f :: spec_l8CopyRec_t
theorem spec_PutKey_g : FGood CX prims spec_PutKey_t ∧ FEqn CX prims spec_PutKey_f := fnG spec_l8CopyRec_g.1 spec_PutKey_f Try.f27 ⟨27, 3, 62, 64⟩ spec_PutKey_l (fun _ _ => rfl) (fun _ _ _ => by kernel_rfl) ⟨fun _ _ _ => rfl, fun _ _ _ => rfl, trivial⟩ ⟨fun _ _ _ _ _ _ => by kernel_rfl, fun _ _ _ _ _ _ => by kernel_rfl, trivial⟩ (fun _ _ _ _ _ => by kernel_rfl)

/-! loop.example/g00244/spec.DelKey -/
noncomputable def spec_DelKey_L0_0 (m : Nat) : Nat → T → T → T → T → (T → An) → An
  | 0, _, _, _, _, _ => .bad
  | n + 1, x0, x1, x2, x3, k0 =>
    cond (decide (x2.int < (x0.rows.length : Int)))
    (cond (decide ((0 : Int) ≤ x2.int ∧ x2.int < (x0.rows.length : Int)))
    (cond (!(((x0.rows.getD (Int.toNat x2.int) []).getD 0 dflt).str.toList == x1.str.toList))
    (cond (decide ((0 : Int) ≤ x2.int ∧ x2.int < (x0.rows.length : Int)))
    (cond (decide ((x3.rows.length + 1) * 2 ≤ maxRow))
    (spec_DelKey_L0_0 m n x0 x1 (T.i (IntKind.i64.wrap (x2.int + 1))) (T.l (x3.rows ++ [[((x0.rows.getD (Int.toNat x2.int) []).getD 0 dflt), ((x0.rows.getD (Int.toNat x2.int) []).getD 1 dflt)]])) k0)
    (.bad))
    (.bad))
    (spec_DelKey_L0_0 m n x0 x1 (T.i (IntKind.i64.wrap (x2.int + 1))) (T.l x3.rows) k0))
    (.bad))
    (k0 (T.l x3.rows))
noncomputable def spec_DelKey : Nat → T → T → (T → An) → An
  | 0, _, _, _ => .bad
  | m + 1, x0, x1, k0 =>
    spec_DelKey_L0_0 m m (T.l x0.rows) x1 (T.i 0) (T.l [])
    (fun y2 => k0 (T.l y2.rows))
noncomputable def spec_DelKey_f : Fs := ⟨87, [.one (.dz [.sc (.str), .sc (.str)] []), .one (AS)], fun m vs k => ap 2 (spec_DelKey m) vs (lm 1 fun z => k (fRet ⟨[.one (.own (KR 0 0) [.sc (.str), .sc (.str)] [.F, .F] [])], [[none], [none]], [none, none]⟩ z))⟩
noncomputable def spec_DelKey_l : List Ls := [⟨[0, 1, 0, 1, 1], ⟨[(0, .one (LD [.sc (.str), .sc (.str)])), (1, .one (LS)), (5, .one (LA (KI 1) [.sc (.str), .sc (.str)])), (6, .one (LI))], [([4000000], .gone), ((KI 1), .row [.sc (.str), .sc (.str)] [.F, .F] [])]⟩, fun m n vs k => ap 4 (spec_DelKey_L0_0 m n) vs (lm 1 fun z => k (.exit 0) (fPack ⟨[(5, .one (LA (KI 0) [.sc (.str), .sc (.str)]))], [((KI 0), .row [.sc (.str), .sc (.str)] [.F, .F] [])]⟩ z))⟩]
noncomputable def spec_DelKey_t : List Fs := spec_DelKey_f :: spec_PutKey_t
theorem spec_DelKey_g : FGood CX prims spec_DelKey_t ∧ FEqn CX prims spec_DelKey_f := fnG spec_PutKey_g.1 spec_DelKey_f Try.f87 ⟨87, 2, 29, 16⟩ spec_DelKey_l (fun _ _ => rfl) (fun _ _ _ => by kernel_rfl) ⟨fun _ _ _ => rfl, trivial⟩ ⟨fun _ _ _ _ _ _ => by kernel_rfl, trivial⟩ (fun _ _ _ _ _ => by kernel_rfl)

/-! loop.example/g00244/spec.Apply -/
noncomputable def spec_Apply_L0_0 (m : Nat) : Nat → T → T → T → (T → An) → An
  | 0, _, _, _, _ => .bad
  | n + 1, x0, x1, x2, k0 =>
    cond (decide (x1.int < (x0.rows.length : Int)))
    (cond (decide ((0 : Int) ≤ x1.int ∧ x1.int < (x0.rows.length : Int)))
    (cond (((x0.rows.getD (Int.toNat x1.int) []).getD 0 dflt).int == 1)
    (cond (decide ((0 : Int) ≤ x1.int ∧ x1.int < (x0.rows.length : Int)))
    (cond (decide ((0 : Int) ≤ x1.int ∧ x1.int < (x0.rows.length : Int)))
    (spec_PutKey m (T.l x2.rows) (((x0.rows.getD (Int.toNat x1.int) []).drop 1).getD 0 dflt) (((x0.rows.getD (Int.toNat x1.int) []).drop 2).getD 0 dflt)
    (fun y0 => spec_Apply_L0_0 m n x0 (T.i (IntKind.i64.wrap (x1.int + 1))) (T.l y0.rows) k0))
    (.bad))
    (.bad))
    (cond (((x0.rows.getD (Int.toNat x1.int) []).getD 0 dflt).int == 2)
    (cond (decide ((0 : Int) ≤ x1.int ∧ x1.int < (x0.rows.length : Int)))
    (spec_DelKey m (T.l x2.rows) (((x0.rows.getD (Int.toNat x1.int) []).drop 1).getD 0 dflt)
    (fun y1 => spec_Apply_L0_0 m n x0 (T.i (IntKind.i64.wrap (x1.int + 1))) (T.l y1.rows) k0))
    (.bad))
    (spec_Apply_L0_0 m n x0 (T.i (IntKind.i64.wrap (x1.int + 1))) (T.l x2.rows) k0)))
    (.bad))
    (k0 (T.l x2.rows))
noncomputable def spec_Apply : Nat → T → T → (T → An) → An
  | 0, _, _, _ => .bad
  | m + 1, x0, x1, k0 =>
    cond (decide ((0 + x0.rows.length) * 2 ≤ maxRow))
    (spec_Apply_L0_0 m m (T.l x1.rows) (T.i 0) (T.l x0.rows)
    (fun y5 => k0 (T.l y5.rows)))
    (.bad)
noncomputable def spec_Apply_f : Fs := ⟨84, [.one (.dz [.sc (.str), .sc (.str)] []), .one (.dz [.sc (.int .i64), .sc (.str), .sc (.str)] [])], fun m vs k => ap 2 (spec_Apply m) vs (lm 1 fun z => k (fRet ⟨[.one (.own (KR 0 0) [.sc (.str), .sc (.str)] [.F, .F] [])], [[none], [none]], [none, none]⟩ z))⟩
noncomputable def spec_Apply_l : List Ls := [⟨[0, 1, 0, 1, 1], ⟨[(1, .one (LD [.sc (.int .i64), .sc (.str), .sc (.str)])), (5, .one (LA (KI 1) [.sc (.str), .sc (.str)])), (6, .one (LI))], [([4000000], .gone), ((KI 1), .row [.sc (.str), .sc (.str)] [.F, .F] [])]⟩, fun m n vs k => ap 3 (spec_Apply_L0_0 m n) vs (lm 1 fun z => k (.exit 0) (fPack ⟨[(5, .one (LA (KI 0) [.sc (.str), .sc (.str)]))], [((KI 0), .row [.sc (.str), .sc (.str)] [.F, .F] [])]⟩ z))⟩]
noncomputable def spec_Apply_t : List Fs := spec_Apply_f :: spec_DelKey_t
theorem spec_Apply_g : FGood CX prims spec_Apply_t ∧ FEqn CX prims spec_Apply_f := fnG spec_DelKey_g.1 spec_Apply_f Try.f84 ⟨84, 2, 45, 16⟩ spec_Apply_l (fun _ _ => rfl) (fun _ _ _ => by kernel_rfl) ⟨fun _ _ _ => rfl, trivial⟩ ⟨fun _ _ _ _ _ _ => by kernel_rfl, trivial⟩ (fun _ _ _ _ _ => by kernel_rfl)

/-! loop.example/g00244/spec.l8One -/
noncomputable def spec_l8One : Nat → T → T → T → T → T → T → (T → T → T → T → An) → (T → T → T → T → T → An) → An
  | 0, _, _, _, _, _, _, _, _ => .bad
  | m + 1, x0, x1, x2, x3, x4, x5, k0, k1 =>
    spec_l8At m (T.l x1.rows) x4
    (fun y0 => spec_RecOk m x3 x4 (T.l x5.rows)
    (fun y1 => cond (!y1.bool)
    (k0 (T.b false) (T.l x0.rows) (T.l x1.rows) (T.l x2.rows))
    (cond (x3.int == 1)
    (jn (fun (j9 : An) =>
    spec_l7Has m (T.l x2.rows) x4
    (fun y2 => cond (y2.bool == false)
    (spec_l8Locked m (T.l x1.rows) (T.l x5.rows)
    (fun y3 => cond (y3.bool == false)
    (spec_Meets m (T.l x0.rows) (T.l x5.rows)
    (fun y4 => cond (!y4.bool)
    (k0 (T.b false) (T.l x0.rows) (T.l x1.rows) (T.l x2.rows))
    (j9)))
    (k0 (T.b false) (T.l x0.rows) (T.l x1.rows) (T.l x2.rows))))
    (k0 (T.b false) (T.l x0.rows) (T.l x1.rows) (T.l x2.rows))))
    (spec_l8CopyRec m x3 x4 (T.l x5.rows)
    (fun y6 y7 y8 => cond (decide ((x1.rows.length + 1) * 3 ≤ maxRow))
    (cond (decide ((x2.rows.length + 1) * 1 ≤ maxRow))
    (k0 (T.b true) (T.l x0.rows) (T.l (x1.rows ++ [[y6, y7, (T.l y8.rows)]])) (T.l (x2.rows ++ [[x4]])))
    (.bad))
    (.bad))))
    (cond (decide (y0.int < 0))
    (cond ((x3.int == 3) == true)
    (spec_l7Has m (T.l x2.rows) x4
    (fun y10 => cond (decide ((x2.rows.length + 1) * 1 ≤ maxRow))
    (k0 (T.b (!y10.bool)) (T.l x0.rows) (T.l x1.rows) (T.l (x2.rows ++ [[x4]])))
    (.bad)))
    (cond (decide ((x2.rows.length + 1) * 1 ≤ maxRow))
    (k0 (T.b false) (T.l x0.rows) (T.l x1.rows) (T.l (x2.rows ++ [[x4]])))
    (.bad)))
    (cond (x3.int == 2)
    (cond (decide ((0 : Int) ≤ y0.int ∧ y0.int < (x1.rows.length : Int)))
    (cond (decide ((Int.toNat y0.int) < x1.rows.length))
    (spec_Apply m (T.l x0.rows) (T.l ((x1.rows.getD (Int.toNat y0.int) []).getD 2 dflt).rows)
    (fun y12 => cond (decide ((0 : Int) ≤ y0.int ∧ y0.int ≤ (x1.rows.length : Int)))
    (cond (decide ((0 : Int) ≤ 0 ∧ 0 ≤ y0.int))
    (cond (decide ((0 + (x1.rows.take (Int.toNat y0.int)).length) * 3 ≤ maxRow))
    (cond (decide ((0 : Int) ≤ (x1.rows.length : Int) ∧ (x1.rows.length : Int) ≤ (x1.rows.length : Int)))
    (cond (decide ((0 : Int) ≤ (IntKind.i64.wrap (y0.int + 1)) ∧ (IntKind.i64.wrap (y0.int + 1)) ≤ (x1.rows.length : Int)))
    (cond (decide (((x1.rows.take (Int.toNat y0.int)).length + ((x1.rows.take (Int.toNat (x1.rows.length : Int))).drop (Int.toNat (IntKind.i64.wrap (y0.int + 1)))).length) * 3 ≤ maxRow))
    (k1 (T.b (decide ((y12.rows.length : Int) ≤ 60))) (T.l x0.rows) (T.l y12.rows) (T.l ((x1.rows.take (Int.toNat y0.int)) ++ ((x1.rows.take (Int.toNat (x1.rows.length : Int))).drop (Int.toNat (IntKind.i64.wrap (y0.int + 1)))))) (T.l x2.rows))
    (.bad))
    (.bad))
    (.bad))
    (.bad))
    (.bad))
    (.bad)))
    (.bad))
    (.bad))
    (cond (decide ((0 : Int) ≤ y0.int ∧ y0.int ≤ (x1.rows.length : Int)))
    (cond (decide ((0 : Int) ≤ 0 ∧ 0 ≤ y0.int))
    (cond (decide ((0 + (x1.rows.take (Int.toNat y0.int)).length) * 3 ≤ maxRow))
    (cond (decide ((0 : Int) ≤ (x1.rows.length : Int) ∧ (x1.rows.length : Int) ≤ (x1.rows.length : Int)))
    (cond (decide ((0 : Int) ≤ (IntKind.i64.wrap (y0.int + 1)) ∧ (IntKind.i64.wrap (y0.int + 1)) ≤ (x1.rows.length : Int)))
    (cond (decide (((x1.rows.take (Int.toNat y0.int)).length + ((x1.rows.take (Int.toNat (x1.rows.length : Int))).drop (Int.toNat (IntKind.i64.wrap (y0.int + 1)))).length) * 3 ≤ maxRow))
    (k0 (T.b (decide ((x0.rows.length : Int) ≤ 60))) (T.l x0.rows) (T.l ((x1.rows.take (Int.toNat y0.int)) ++ ((x1.rows.take (Int.toNat (x1.rows.length : Int))).drop (Int.toNat (IntKind.i64.wrap (y0.int + 1)))))) (T.l x2.rows))
    (.bad))
    (.bad))
    (.bad))
    (.bad))
    (.bad))
    (.bad)))))))
noncomputable def spec_l8One_f : Fs := ⟨74, [.bx [.own [.sc (.str), .sc (.str)] [.F, .F] [], .own [.sc (.int .i64), .sc (.int .i64), .sl [.sc (.int .i64), .sc (.str), .sc (.str)]] [.F, .F, .F] [], .own [.sc (.int .i64)] [.F] []], .agg [AI, AI, .dz [.sc (.int .i64), .sc (.str), .sc (.str)] []]], fun m vs k => ap 6 (spec_l8One m) vs (lm 4 fun z => k (fRet ⟨[.one (RB)], [[none, none, none], [none, none, none]], [some [.own (KR 1000 0) [.sc (.str), .sc (.str)] [.F, .F] [], .own (KR 1000 1) [.sc (.int .i64), .sc (.int .i64), .sl [.sc (.int .i64), .sc (.str), .sc (.str)]] [.F, .F, .F] [], .own (KR 1000 2) [.sc (.int .i64)] [.F] []], none]⟩ z)) (lm 5 fun z => k (fRet ⟨[.one (RB)], [[some ([.sc (.str), .sc (.str)], [.F, .F], []), none, none], [none, none, none]], [some [.own (KR 1000 0) [.sc (.str), .sc (.str)] [.F, .F] [], .own (KR 1000 1) [.sc (.int .i64), .sc (.int .i64), .sl [.sc (.int .i64), .sc (.str), .sc (.str)]] [.F, .F, .F] [], .own (KR 1000 2) [.sc (.int .i64)] [.F] []], none]⟩ z))⟩
noncomputable def spec_l8One_t : List Fs := spec_l8One_f :: spec_Apply_t
theorem spec_l8One_g : FGood CX prims spec_l8One_t ∧ FEqn CX prims spec_l8One_f := fnG spec_Apply_g.1 spec_l8One_f Try.f74 ⟨74, 2, 139, 17⟩ [] (fun _ _ => rfl) (fun _ _ _ => by kernel_rfl) trivial trivial (fun _ _ _ _ _ => by kernel_rfl)

/-! loop.example/g00244/spec.l9Write -/
noncomputable def spec_l9Write : Nat → T → T → T → T → T → T → T → T → (T → T → T → T → T → An) → (T → T → T → T → T → T → An) → An
  | 0, _, _, _, _, _, _, _, _, _, _ => .bad
  | m + 1, x0, x1, x2, x3, x4, x5, x6, x7, k0, k1 =>
    spec_l8One m (T.l x3.rows) (T.l x4.rows) (T.l []) x5 x6 (T.l x7.rows)
    (fun y0 y1 y2 y3 => spec_l8CopyRec m x5 x6 (T.l x7.rows)
    (fun y9 y10 y11 => cond (decide ((x1.rows.length + 1) * 3 ≤ maxRow))
    (k0 x0 (T.l (x1.rows ++ [[y9, y10, (T.l y11.rows)]])) x2 (T.l y1.rows) (T.l y2.rows))
    (.bad)))
    (fun y4 y5 y6 y7 y8 => spec_l8CopyRec m x5 x6 (T.l x7.rows)
    (fun y12 y13 y14 => cond (decide ((x1.rows.length + 1) * 3 ≤ maxRow))
    (k1 (T.l y5.rows) x0 (T.l (x1.rows ++ [[y12, y13, (T.l y14.rows)]])) x2 (T.l y6.rows) (T.l y7.rows))
    (.bad)))
noncomputable def spec_l9Write_f : Fs := ⟨70, [.bx [AI, .own [.sc (.int .i64), .sc (.int .i64), .sl [.sc (.int .i64), .sc (.str), .sc (.str)]] [.F, .F, .F] [], AI, .own [.sc (.str), .sc (.str)] [.F, .F] [], .own [.sc (.int .i64), .sc (.int .i64), .sl [.sc (.int .i64), .sc (.str), .sc (.str)]] [.F, .F, .F] []], .agg [AI, AI, .dz [.sc (.int .i64), .sc (.str), .sc (.str)] []]], fun m vs k => ap 8 (spec_l9Write m) vs (lm 5 fun z => k (fRet ⟨[], [[none, none, none, none, none], [none, none, none]], [some [RI, .own (KR 1000 1) [.sc (.int .i64), .sc (.int .i64), .sl [.sc (.int .i64), .sc (.str), .sc (.str)]] [.F, .F, .F] [], RI, .own (KR 1000 3) [.sc (.str), .sc (.str)] [.F, .F] [], .own (KR 1000 4) [.sc (.int .i64), .sc (.int .i64), .sl [.sc (.int .i64), .sc (.str), .sc (.str)]] [.F, .F, .F] []], none]⟩ z)) (lm 6 fun z => k (fRet ⟨[], [[none, none, none, some ([.sc (.str), .sc (.str)], [.F, .F], []), none], [none, none, none]], [some [RI, .own (KR 1000 1) [.sc (.int .i64), .sc (.int .i64), .sl [.sc (.int .i64), .sc (.str), .sc (.str)]] [.F, .F, .F] [], RI, .own (KR 1000 3) [.sc (.str), .sc (.str)] [.F, .F] [], .own (KR 1000 4) [.sc (.int .i64), .sc (.int .i64), .sl [.sc (.int .i64), .sc (.str), .sc (.str)]] [.F, .F, .F] []], none]⟩ z))⟩
noncomputable def spec_l9Write_t : List Fs := spec_l9Write_f :: spec_l8One_t
theorem spec_l9Write_g : FGood CX prims spec_l9Write_t ∧ FEqn CX prims spec_l9Write_f := fnG spec_l8One_g.1 spec_l9Write_f Try.f70 ⟨70, 2, 43, 1⟩ [] (fun _ _ => rfl) (fun _ _ _ => by kernel_rfl) trivial trivial (fun _ _ _ _ _ => by kernel_rfl)

/-! loop.example/g00244/spec.l9Hold -/
noncomputable def spec_l9Hold : Nat → T → T → T → T → T → T → T → (T → T → T → T → T → T → An) → (T → T → T → T → T → T → T → An) → An
  | 0, _, _, _, _, _, _, _, _, _ => .bad
  | m + 1, x0, x1, x2, x3, x4, x5, x6, k0, k1 =>
    jn (fun (j26 : An) =>
    spec_l1In m x5 (T.i 1) (T.i 1000000)
    (fun y0 => cond ((!y0.bool) == false)
    (spec_OpsOk m (T.l x6.rows)
    (fun y1 => cond (!y1.bool)
    (k0 (T.i 5) x0 (T.l x1.rows) x2 (T.l x3.rows) (T.l x4.rows))
    (j26)))
    (k0 (T.i 5) x0 (T.l x1.rows) x2 (T.l x3.rows) (T.l x4.rows))))
    (spec_l9Outcome m x0 (T.l x1.rows) x2 (T.l x3.rows) (T.l x4.rows) x5
    (fun y3 => cond (y3.int != 2)
    (k0 y3 x0 (T.l x1.rows) x2 (T.l x3.rows) (T.l x4.rows))
    (jn (fun (j25 : An) =>
    spec_l8Locked m (T.l x4.rows) (T.l x6.rows)
    (fun y4 => cond (y4.bool == false)
    (spec_Meets m (T.l x3.rows) (T.l x6.rows)
    (fun y5 => cond ((!y5.bool) == false)
    (spec_l9Keys m x0 (T.l x1.rows) x2 (T.l x3.rows) (T.l x4.rows) (T.l x6.rows)
    (fun y6 => cond ((decide (y6.int > 60)) == false)
    (cond (decide ((IntKind.i64.wrap ((IntKind.i64.wrap ((x1.rows.length : Int) + (x4.rows.length : Int))) + 2)) > 300))
    (k0 (T.i 2) x0 (T.l x1.rows) x2 (T.l x3.rows) (T.l x4.rows))
    (j25))
    (k0 (T.i 2) x0 (T.l x1.rows) x2 (T.l x3.rows) (T.l x4.rows))))
    (k0 (T.i 2) x0 (T.l x1.rows) x2 (T.l x3.rows) (T.l x4.rows))))
    (k0 (T.i 2) x0 (T.l x1.rows) x2 (T.l x3.rows) (T.l x4.rows))))
    (spec_l7CopyOps m (T.l x6.rows)
    (fun y8 => spec_l9Write m x0 (T.l x1.rows) x2 (T.l x3.rows) (T.l x4.rows) (T.i 1) x5 (T.l y8.rows)
    (fun y9 y10 y11 y12 y13 => k0 (T.i 1) y9 (T.l y10.rows) y11 (T.l y12.rows) (T.l y13.rows))
    (fun y14 y15 y16 y17 y18 y19 => k1 (T.i 1) (T.l y14.rows) y15 (T.l y16.rows) y17 (T.l y18.rows) (T.l y19.rows)))))))
noncomputable def spec_l9Hold_f : Fs := ⟨68, [.bx [AI, .own [.sc (.int .i64), .sc (.int .i64), .sl [.sc (.int .i64), .sc (.str), .sc (.str)]] [.F, .F, .F] [], AI, .own [.sc (.str), .sc (.str)] [.F, .F] [], .own [.sc (.int .i64), .sc (.int .i64), .sl [.sc (.int .i64), .sc (.str), .sc (.str)]] [.F, .F, .F] []], .one (AI), .one (.dz [.sc (.int .i64), .sc (.str), .sc (.str)] [])], fun m vs k => ap 7 (spec_l9Hold m) vs (lm 6 fun z => k (fRet ⟨[.one (RI)], [[none, none, none, none, none], [none], [none]], [some [RI, .own (KR 1000 1) [.sc (.int .i64), .sc (.int .i64), .sl [.sc (.int .i64), .sc (.str), .sc (.str)]] [.F, .F, .F] [], RI, .own (KR 1000 3) [.sc (.str), .sc (.str)] [.F, .F] [], .own (KR 1000 4) [.sc (.int .i64), .sc (.int .i64), .sl [.sc (.int .i64), .sc (.str), .sc (.str)]] [.F, .F, .F] []], none, none]⟩ z)) (lm 7 fun z => k (fRet ⟨[.one (RI)], [[none, none, none, some ([.sc (.str), .sc (.str)], [.F, .F], []), none], [none], [none]], [some [RI, .own (KR 1000 1) [.sc (.int .i64), .sc (.int .i64), .sl [.sc (.int .i64), .sc (.str), .sc (.str)]] [.F, .F, .F] [], RI, .own (KR 1000 3) [.sc (.str), .sc (.str)] [.F, .F] [], .own (KR 1000 4) [.sc (.int .i64), .sc (.int .i64), .sl [.sc (.int .i64), .sc (.str), .sc (.str)]] [.F, .F, .F] []], none, none]⟩ z))⟩
noncomputable def spec_l9Hold_t : List Fs := spec_l9Hold_f :: spec_l9Write_t
theorem spec_l9Hold_g : FGood CX prims spec_l9Hold_t ∧ FEqn CX prims spec_l9Hold_f := fnG spec_l9Write_g.1 spec_l9Hold_f Try.f68 ⟨68, 3, 68, 65⟩ [] (fun _ _ => rfl) (fun _ _ _ => by kernel_rfl) trivial trivial (fun _ _ _ _ _ => by kernel_rfl)

/-! loop.example/g00244/spec.l12Hold -/
noncomputable def spec_l12Hold : Nat → T → T → T → T → T → T → T → T → T → T → T → T → T → T → T → (T → T → T → T → T → T → T → T → T → T → An) → An
  | 0, _, _, _, _, _, _, _, _, _, _, _, _, _, _, _, _ => .bad
  | m + 1, x0, x1, x2, x3, x4, x5, x6, x7, x8, x9, x10, x11, x12, x13, x14, k0 =>
    jn (fun (j17 : T → T → An) =>
    cond (decide ((0 : Int) ≤ x11.int ∧ x11.int < (x6.rows.length : Int)))
    (cond (decide ((Int.toNat x11.int) < x6.rows.length))
    (spec_l9Hold m ((x6.rows.getD (Int.toNat x11.int) []).headD dflt) (T.l ((x6.rows.getD (Int.toNat x11.int) []).tail.headD dflt).rows) ((x6.rows.getD (Int.toNat x11.int) []).tail.tail.headD dflt) (T.l ((x6.rows.getD (Int.toNat x11.int) []).tail.tail.tail.headD dflt).rows) (T.l ((x6.rows.getD (Int.toNat x11.int) []).tail.tail.tail.tail.headD dflt).rows) x12 (T.l x13.rows)
    (fun y0 y1 y2 y3 y4 y5 => j17 y0 (T.l (x6.rows.set (Int.toNat x11.int) [y1, (T.l y2.rows), y3, (T.l y4.rows), (T.l y5.rows)])))
    (fun y6 y7 y8 y9 y10 y11 y12 => j17 y6 (T.l (x6.rows.set (Int.toNat x11.int) [y8, (T.l y9.rows), y10, (T.l y11.rows), (T.l y12.rows)]))))
    (.bad))
    (.bad))
    (fun y13 y14 => jn (fun (j16 : T → An) =>
    cond ((y13.int != 5) == true)
    (j16 (T.b (decide ((x8.rows.length : Int) < 400))))
    (j16 (T.b false)))
    (fun y15 => cond y15.bool
    (cond ((y13.int == 1) == false)
    (cond (decide ((x8.rows.length + 1) * 5 ≤ maxRow))
    (k0 x0 x1 x2 (T.l x3.rows) (T.l x4.rows) x5 (T.l y14.rows) (T.l x7.rows) (T.l (x8.rows ++ [[(T.i 2), x11, x12, (T.l []), (T.b (y13.int == 3))]])) (T.l x9.rows))
    (.bad))
    (cond (decide ((x8.rows.length + 1) * 5 ≤ maxRow))
    (k0 x0 x1 x2 (T.l x3.rows) (T.l x4.rows) x5 (T.l y14.rows) (T.l x7.rows) (T.l (x8.rows ++ [[(T.i 2), x11, x12, (T.l []), (T.b true)]])) (T.l x9.rows))
    (.bad)))
    (k0 x0 x1 x2 (T.l x3.rows) (T.l x4.rows) x5 (T.l y14.rows) (T.l x7.rows) (T.l x8.rows) (T.l x9.rows))))
noncomputable def spec_l12Hold_f : Fs := ⟨56, [.bx [AI, AI, AI, .own [.sc (.int .i64), .sl [.sc (.int .i64), .sc (.str), .sc (.str)], .sc (.int .i64), .sl [.sc (.int .i64)]] [.F, .F, .F, .F] [], .own [.sc (.int .i64), .sc (.bool)] [.F, .F] [], AI, .own [.sc (.int .i64), .sl [.sc (.int .i64), .sc (.int .i64), .sl [.sc (.int .i64), .sc (.str), .sc (.str)]], .sc (.int .i64), .sl [.sc (.str), .sc (.str)], .sl [.sc (.int .i64), .sc (.int .i64), .sl [.sc (.int .i64), .sc (.str), .sc (.str)]]] [.F, .O [.F, .F, .F], .F, .O [.F, .F], .O [.F, .F, .F]] [], .own [.sc (.int .i64), .sc (.int .i64), .sc (.int .i64), .sl [.sc (.int .i64), .sc (.str), .sc (.str)], .sc (.bool)] [.F, .F, .F, .F, .F] [], .own [.sc (.int .i64), .sc (.int .i64), .sc (.int .i64), .sl [.sc (.int .i64), .sc (.str), .sc (.str)], .sc (.bool)] [.F, .F, .F, .F, .F] [], .own [.sc (.int .i64), .sl [.sc (.int .i64), .sc (.str), .sc (.str)]] [.F, .F] []], .agg [AI, AI, AI, .dz [.sc (.int .i64), .sc (.str), .sc (.str)] [], AB]], fun m vs k => ap 15 (spec_l12Hold m) vs (lm 10 fun z => k (fRet ⟨[], [[none, none, none, none, none, none, none, none, none, none], [none, none, none, none, none]], [some [RI, RI, RI, .own (KR 1000 3) [.sc (.int .i64), .sl [.sc (.int .i64), .sc (.str), .sc (.str)], .sc (.int .i64), .sl [.sc (.int .i64)]] [.F, .F, .F, .F] [], .own (KR 1000 4) [.sc (.int .i64), .sc (.bool)] [.F, .F] [], RI, .own (KR 1000 6) [.sc (.int .i64), .sl [.sc (.int .i64), .sc (.int .i64), .sl [.sc (.int .i64), .sc (.str), .sc (.str)]], .sc (.int .i64), .sl [.sc (.str), .sc (.str)], .sl [.sc (.int .i64), .sc (.int .i64), .sl [.sc (.int .i64), .sc (.str), .sc (.str)]]] [.F, .O [.F, .F, .F], .F, .O [.F, .F], .O [.F, .F, .F]] [], .own (KR 1000 7) [.sc (.int .i64), .sc (.int .i64), .sc (.int .i64), .sl [.sc (.int .i64), .sc (.str), .sc (.str)], .sc (.bool)] [.F, .F, .F, .F, .F] [], .own (KR 1000 8) [.sc (.int .i64), .sc (.int .i64), .sc (.int .i64), .sl [.sc (.int .i64), .sc (.str), .sc (.str)], .sc (.bool)] [.F, .F, .F, .F, .F] [], .own (KR 1000 9) [.sc (.int .i64), .sl [.sc (.int .i64), .sc (.str), .sc (.str)]] [.F, .F] []], none]⟩ z))⟩
noncomputable def spec_l12Hold_t : List Fs := spec_l12Hold_f :: spec_l9Hold_t
theorem spec_l12Hold_g : FGood CX prims spec_l12Hold_t ∧ FEqn CX prims spec_l12Hold_f := fnG spec_l9Hold_g.1 spec_l12Hold_f Try.f56 ⟨56, 2, 47, 1⟩ [] (fun _ _ => rfl) (fun _ _ _ => by kernel_rfl) trivial trivial (fun _ _ _ _ _ => by kernel_rfl)

/-! loop.example/g00244/spec.l9Decide -/
noncomputable def spec_l9Decide : Nat → T → T → T → T → T → T → T → (T → T → T → T → T → T → An) → (T → T → T → T → T → T → T → An) → An
  | 0, _, _, _, _, _, _, _, _, _ => .bad
  | m + 1, x0, x1, x2, x3, x4, x5, x6, k0, k1 =>
    spec_l1In m x5 (T.i 1) (T.i 1000000)
    (fun y0 => cond (!y0.bool)
    (k0 (T.b false) x0 (T.l x1.rows) x2 (T.l x3.rows) (T.l x4.rows))
    (jn (fun (j37 : T → An) =>
    cond x6.bool
    (j37 (T.i 2))
    (j37 (T.i 3)))
    (fun y1 => spec_l9Outcome m x0 (T.l x1.rows) x2 (T.l x3.rows) (T.l x4.rows) x5
    (fun y2 => cond (y2.int == 1)
    (spec_l9Write m x0 (T.l x1.rows) x2 (T.l x3.rows) (T.l x4.rows) y1 x5 (T.l [])
    (fun y3 y4 y5 y6 y7 => k0 (T.b true) y3 (T.l y4.rows) y5 (T.l y6.rows) (T.l y7.rows))
    (fun y8 y9 y10 y11 y12 y13 => k1 (T.b true) (T.l y8.rows) y9 (T.l y10.rows) y11 (T.l y12.rows) (T.l y13.rows)))
    (cond (y2.int == 3)
    (k0 x6 x0 (T.l x1.rows) x2 (T.l x3.rows) (T.l x4.rows))
    (cond (y2.int == 4)
    (k0 (T.b (!x6.bool)) x0 (T.l x1.rows) x2 (T.l x3.rows) (T.l x4.rows))
    (jn (fun (j36 : An) =>
    cond (x6.bool == false)
    (cond (decide ((IntKind.i64.wrap ((x1.rows.length : Int) + (x4.rows.length : Int))) ≥ 300))
    (k0 (T.b false) x0 (T.l x1.rows) x2 (T.l x3.rows) (T.l x4.rows))
    (j36))
    (k0 (T.b false) x0 (T.l x1.rows) x2 (T.l x3.rows) (T.l x4.rows)))
    (spec_l9Write m x0 (T.l x1.rows) x2 (T.l x3.rows) (T.l x4.rows) y1 x5 (T.l [])
    (fun y20 y21 y22 y23 y24 => k0 (T.b true) y20 (T.l y21.rows) y22 (T.l y23.rows) (T.l y24.rows))
    (fun y25 y26 y27 y28 y29 y30 => k1 (T.b true) (T.l y25.rows) y26 (T.l y27.rows) y28 (T.l y29.rows) (T.l y30.rows))))))))))
noncomputable def spec_l9Decide_f : Fs := ⟨57, [.bx [AI, .own [.sc (.int .i64), .sc (.int .i64), .sl [.sc (.int .i64), .sc (.str), .sc (.str)]] [.F, .F, .F] [], AI, .own [.sc (.str), .sc (.str)] [.F, .F] [], .own [.sc (.int .i64), .sc (.int .i64), .sl [.sc (.int .i64), .sc (.str), .sc (.str)]] [.F, .F, .F] []], .one (AI), .one (AB)], fun m vs k => ap 7 (spec_l9Decide m) vs (lm 6 fun z => k (fRet ⟨[.one (RB)], [[none, none, none, none, none], [none], [none]], [some [RI, .own (KR 1000 1) [.sc (.int .i64), .sc (.int .i64), .sl [.sc (.int .i64), .sc (.str), .sc (.str)]] [.F, .F, .F] [], RI, .own (KR 1000 3) [.sc (.str), .sc (.str)] [.F, .F] [], .own (KR 1000 4) [.sc (.int .i64), .sc (.int .i64), .sl [.sc (.int .i64), .sc (.str), .sc (.str)]] [.F, .F, .F] []], none, none]⟩ z)) (lm 7 fun z => k (fRet ⟨[.one (RB)], [[none, none, none, some ([.sc (.str), .sc (.str)], [.F, .F], []), none], [none], [none]], [some [RI, .own (KR 1000 1) [.sc (.int .i64), .sc (.int .i64), .sl [.sc (.int .i64), .sc (.str), .sc (.str)]] [.F, .F, .F] [], RI, .own (KR 1000 3) [.sc (.str), .sc (.str)] [.F, .F] [], .own (KR 1000 4) [.sc (.int .i64), .sc (.int .i64), .sl [.sc (.int .i64), .sc (.str), .sc (.str)]] [.F, .F, .F] []], none, none]⟩ z))⟩
noncomputable def spec_l9Decide_t : List Fs := spec_l9Decide_f :: spec_l12Hold_t
theorem spec_l9Decide_g : FGood CX prims spec_l9Decide_t ∧ FEqn CX prims spec_l9Decide_f := fnG spec_l12Hold_g.1 spec_l9Decide_f Try.f57 ⟨57, 3, 50, 65⟩ [] (fun _ _ => rfl) (fun _ _ _ => by kernel_rfl) trivial trivial (fun _ _ _ _ _ => by kernel_rfl)

/-! loop.example/g00244/spec.l11JobAt -/
noncomputable def spec_l11JobAt_L0_0 (m : Nat) : Nat → T → T → T → T → T → T → T → T → T → (T → An) → An → An
  | 0, _, _, _, _, _, _, _, _, _, _, _ => .bad
  | n + 1, x0, x1, x2, x3, x4, x5, x6, x7, x8, k0, k1 =>
    cond (decide (x2.int < (x6.rows.length : Int)))
    (cond (decide ((0 : Int) ≤ x2.int ∧ x2.int < (x6.rows.length : Int)))
    (cond (((x6.rows.getD (Int.toNat x2.int) []).getD 0 dflt).int == x0.int)
    (k0 x2)
    (spec_l11JobAt_L0_0 m n x0 (T.i (x1.int.toNat : Int)) (T.i (IntKind.i64.wrap (x2.int + 1))) x3 x4 x5 x6 x7 x8 k0 k1))
    (.bad))
    (k1 )
noncomputable def spec_l11JobAt : Nat → T → T → T → T → T → T → T → (T → An) → An
  | 0, _, _, _, _, _, _, _, _ => .bad
  | m + 1, x0, x1, x2, x3, x4, x5, x6, k0 =>
    spec_l11JobAt_L0_0 m m x6 (T.i 0) (T.i 0) x0 x1 x2 (T.l x3.rows) (T.l x4.rows) x5
    (fun y0 => k0 y0)
    (k0 (T.i (-1)))
noncomputable def spec_l11JobAt_f : Fs := ⟨71, [.agg [AI, AI, AI, .dz [.sc (.int .i64), .sl [.sc (.int .i64), .sc (.str), .sc (.str)], .sc (.int .i64), .sl [.sc (.int .i64)]] [], .dz [.sc (.int .i64), .sc (.bool)] [], AI], .one (AI)], fun m vs k => ap 7 (spec_l11JobAt m) vs (lm 1 fun z => k (fRet ⟨[.one (RI)], [[none, none, none, none, none, none], [none]], [none, none]⟩ z))⟩
noncomputable def spec_l11JobAt_l : List Ls := [⟨[0, 1, 0, 1], ⟨[(1, .one (LI)), (2, EP 0), (5, .one (LI))], [((KI 0), .box [LI, LI, LI, LD [.sc (.int .i64), .sl [.sc (.int .i64), .sc (.str), .sc (.str)], .sc (.int .i64), .sl [.sc (.int .i64)]], LD [.sc (.int .i64), .sc (.bool)], LI]), ([4000000], .gone)]⟩, fun m n vs k => ap 9 (spec_l11JobAt_L0_0 m n) vs (lm 1 fun z => k .ret (fPack ⟨[(4, .one (LI))], []⟩ z)) (lm 0 fun z => k (.exit 0) (fPack ⟨[], []⟩ z))⟩]
noncomputable def spec_l11JobAt_t : List Fs := spec_l11JobAt_f :: spec_l9Decide_t
theorem spec_l11JobAt_g : FGood CX prims spec_l11JobAt_t ∧ FEqn CX prims spec_l11JobAt_f := fnG spec_l9Decide_g.1 spec_l11JobAt_f Try.f71 ⟨71, 2, 22, 16⟩ spec_l11JobAt_l (fun _ _ => rfl) (fun _ _ _ => by kernel_rfl) ⟨fun _ _ _ => rfl, trivial⟩ ⟨fun _ _ _ _ _ _ => by kernel_rfl, trivial⟩ (fun _ _ _ _ _ => by kernel_rfl)

/-! loop.example/g00244/spec.l11Vote -/
noncomputable def spec_l11Vote : Nat → T → T → T → T → T → T → T → T → T → (T → T → T → T → T → T → An) → An
  | 0, _, _, _, _, _, _, _, _, _, _ => .bad
  | m + 1, x0, x1, x2, x3, x4, x5, x6, x7, x8, k0 =>
    spec_l11JobAt m x0 x1 x2 (T.l x3.rows) (T.l x4.rows) x5 x7
    (fun y0 => jn (fun (j5 : An) =>
    cond ((decide (y0.int < 0)) == false)
    (cond (decide ((0 : Int) ≤ y0.int ∧ y0.int < (x3.rows.length : Int)))
    (cond (decide ((Int.toNat y0.int) < x3.rows.length))
    (cond ((((x3.rows.getD (Int.toNat y0.int) []).getD 2 dflt).int != 1) == false)
    (cond (decide ((x4.rows.length : Int) ≥ 1000))
    (k0 x0 x1 x2 (T.l x3.rows) (T.l x4.rows) x5)
    (j5))
    (k0 x0 x1 x2 (T.l x3.rows) (T.l x4.rows) x5))
    (.bad))
    (.bad))
    (k0 x0 x1 x2 (T.l x3.rows) (T.l x4.rows) x5))
    (cond (decide ((0 : Int) ≤ y0.int ∧ y0.int < (x3.rows.length : Int)))
    (cond (decide ((Int.toNat y0.int) < x3.rows.length))
    (spec_ShardsOf m (T.l ((x3.rows.getD (Int.toNat y0.int) []).getD 1 dflt).rows) x0
    (fun y2 => spec_l7Has m (T.l y2.rows) x6
    (fun y3 => cond (!y3.bool)
    (k0 x0 x1 x2 (T.l x3.rows) (T.l x4.rows) x5)
    (cond (!x8.bool)
    (cond (decide ((Int.toNat y0.int) < x3.rows.length))
    (cond (decide ((x4.rows.length + 1) * 2 ≤ maxRow))
    (k0 x0 x1 x2 (T.l (x3.rows.set (Int.toNat y0.int) ((x3.rows.getD (Int.toNat y0.int) []).set 2 (T.i 3)))) (T.l (x4.rows ++ [[x7, (T.b false)]])) x5)
    (.bad))
    (.bad))
    (cond (decide ((Int.toNat y0.int) < x3.rows.length))
    (spec_l7Put m (T.l ((x3.rows.getD (Int.toNat y0.int) []).getD 3 dflt).rows) x6
    (fun y4 => cond (decide ((Int.toNat y0.int) < x3.rows.length))
    (cond (decide ((Int.toNat y0.int) < (x3.rows.set (Int.toNat y0.int) ((x3.rows.getD (Int.toNat y0.int) []).set 3 (T.l y4.rows))).length))
    (cond (((((x3.rows.set (Int.toNat y0.int) ((x3.rows.getD (Int.toNat y0.int) []).set 3 (T.l y4.rows))).getD (Int.toNat y0.int) []).getD 3 dflt).rows.length : Int) == (y2.rows.length : Int))
    (cond (decide ((Int.toNat y0.int) < (x3.rows.set (Int.toNat y0.int) ((x3.rows.getD (Int.toNat y0.int) []).set 3 (T.l y4.rows))).length))
    (cond (decide ((x4.rows.length + 1) * 2 ≤ maxRow))
    (k0 x0 x1 x2 (T.l ((x3.rows.set (Int.toNat y0.int) ((x3.rows.getD (Int.toNat y0.int) []).set 3 (T.l y4.rows))).set (Int.toNat y0.int) (((x3.rows.set (Int.toNat y0.int) ((x3.rows.getD (Int.toNat y0.int) []).set 3 (T.l y4.rows))).getD (Int.toNat y0.int) []).set 2 (T.i 2)))) (T.l (x4.rows ++ [[x7, (T.b true)]])) x5)
    (.bad))
    (.bad))
    (k0 x0 x1 x2 (T.l (x3.rows.set (Int.toNat y0.int) ((x3.rows.getD (Int.toNat y0.int) []).set 3 (T.l y4.rows)))) (T.l x4.rows) x5))
    (.bad))
    (.bad)))
    (.bad))))))
    (.bad))
    (.bad)))
noncomputable def spec_l11Vote_f : Fs := ⟨58, [.bx [AI, AI, AI, .own [.sc (.int .i64), .sl [.sc (.int .i64), .sc (.str), .sc (.str)], .sc (.int .i64), .sl [.sc (.int .i64)]] [.F, .F, .F, .F] [], .own [.sc (.int .i64), .sc (.bool)] [.F, .F] [], AI], .one (AI), .one (AI), .one (AB)], fun m vs k => ap 9 (spec_l11Vote m) vs (lm 6 fun z => k (fRet ⟨[], [[none, none, none, none, none, none], [none], [none], [none]], [some [RI, RI, RI, .own (KR 1000 3) [.sc (.int .i64), .sl [.sc (.int .i64), .sc (.str), .sc (.str)], .sc (.int .i64), .sl [.sc (.int .i64)]] [.F, .F, .F, .F] [], .own (KR 1000 4) [.sc (.int .i64), .sc (.bool)] [.F, .F] [], RI], none, none, none]⟩ z))⟩
noncomputable def spec_l11Vote_t : List Fs := spec_l11Vote_f :: spec_l11JobAt_t
theorem spec_l11Vote_g : FGood CX prims spec_l11Vote_t ∧ FEqn CX prims spec_l11Vote_f := fnG spec_l11JobAt_g.1 spec_l11Vote_f Try.f58 ⟨58, 4, 103, 1⟩ [] (fun _ _ => rfl) (fun _ _ _ => by kernel_rfl) trivial trivial (fun _ _ _ _ _ => by kernel_rfl)

/-! loop.example/g00244/spec.l11Chosen -/
noncomputable def spec_l11Chosen_L0_0 (m : Nat) : Nat → T → T → T → T → T → T → T → T → T → (T → An) → An → An
  | 0, _, _, _, _, _, _, _, _, _, _, _ => .bad
  | n + 1, x0, x1, x2, x3, x4, x5, x6, x7, x8, k0, k1 =>
    cond (decide (x2.int < (x7.rows.length : Int)))
    (cond (decide ((0 : Int) ≤ x2.int ∧ x2.int < (x7.rows.length : Int)))
    (cond (((x7.rows.getD (Int.toNat x2.int) []).getD 0 dflt).int == x0.int)
    (k0 x2)
    (spec_l11Chosen_L0_0 m n x0 (T.i (x1.int.toNat : Int)) (T.i (IntKind.i64.wrap (x2.int + 1))) x3 x4 x5 x6 x7 x8 k0 k1))
    (.bad))
    (k1 )
noncomputable def spec_l11Chosen : Nat → T → T → T → T → T → T → T → (T → An) → An
  | 0, _, _, _, _, _, _, _, _ => .bad
  | m + 1, x0, x1, x2, x3, x4, x5, x6, k0 =>
    spec_l11Chosen_L0_0 m m x6 (T.i 0) (T.i 0) x0 x1 x2 (T.l x3.rows) (T.l x4.rows) x5
    (fun y0 => k0 y0)
    (k0 (T.i (-1)))
noncomputable def spec_l11Chosen_f : Fs := ⟨73, [.agg [AI, AI, AI, .dz [.sc (.int .i64), .sl [.sc (.int .i64), .sc (.str), .sc (.str)], .sc (.int .i64), .sl [.sc (.int .i64)]] [], .dz [.sc (.int .i64), .sc (.bool)] [], AI], .one (AI)], fun m vs k => ap 7 (spec_l11Chosen m) vs (lm 1 fun z => k (fRet ⟨[.one (RI)], [[none, none, none, none, none, none], [none]], [none, none]⟩ z))⟩
noncomputable def spec_l11Chosen_l : List Ls := [⟨[0, 1, 0, 1], ⟨[(1, .one (LI)), (2, EP 0), (5, .one (LI))], [((KI 0), .box [LI, LI, LI, LD [.sc (.int .i64), .sl [.sc (.int .i64), .sc (.str), .sc (.str)], .sc (.int .i64), .sl [.sc (.int .i64)]], LD [.sc (.int .i64), .sc (.bool)], LI]), ([4000000], .gone)]⟩, fun m n vs k => ap 9 (spec_l11Chosen_L0_0 m n) vs (lm 1 fun z => k .ret (fPack ⟨[(4, .one (LI))], []⟩ z)) (lm 0 fun z => k (.exit 0) (fPack ⟨[], []⟩ z))⟩]
noncomputable def spec_l11Chosen_t : List Fs := spec_l11Chosen_f :: spec_l11Vote_t
theorem spec_l11Chosen_g : FGood CX prims spec_l11Chosen_t ∧ FEqn CX prims spec_l11Chosen_f := fnG spec_l11Vote_g.1 spec_l11Chosen_f Try.f73 ⟨73, 2, 22, 16⟩ spec_l11Chosen_l (fun _ _ => rfl) (fun _ _ _ => by kernel_rfl) ⟨fun _ _ _ => rfl, trivial⟩ ⟨fun _ _ _ _ _ _ => by kernel_rfl, trivial⟩ (fun _ _ _ _ _ => by kernel_rfl)

/-! loop.example/g00244/spec.l11Answer -/
noncomputable def spec_l11Answer : Nat → T → T → T → T → T → T → T → (T → T → An) → An
  | 0, _, _, _, _, _, _, _, _ => .bad
  | m + 1, x0, x1, x2, x3, x4, x5, x6, k0 =>
    spec_l11Chosen m x0 x1 x2 (T.l x3.rows) (T.l x4.rows) x5 x6
    (fun y0 => cond (decide (x6.int < 1000))
    (k0 (T.b false) (T.b false))
    (cond (decide (y0.int ≥ 0))
    (cond (decide ((0 : Int) ≤ y0.int ∧ y0.int < (x4.rows.length : Int)))
    (cond ((((x4.rows.getD (Int.toNat y0.int) []).drop 1).getD 0 dflt).bool == true)
    (k0 (T.b (decide (y0.int < x5.int))) (T.b (decide (y0.int < x5.int))))
    (k0 (T.b false) (T.b (decide (y0.int < x5.int)))))
    (.bad))
    (k0 (T.b false) (T.b (decide (x6.int < (IntKind.i64.wrap (x1.int * 1000))))))))
noncomputable def spec_l11Answer_f : Fs := ⟨59, [.agg [AI, AI, AI, .dz [.sc (.int .i64), .sl [.sc (.int .i64), .sc (.str), .sc (.str)], .sc (.int .i64), .sl [.sc (.int .i64)]] [], .dz [.sc (.int .i64), .sc (.bool)] [], AI], .one (AI)], fun m vs k => ap 7 (spec_l11Answer m) vs (lm 2 fun z => k (fRet ⟨[.one (RB), .one (RB)], [[none, none, none, none, none, none], [none]], [none, none]⟩ z))⟩
noncomputable def spec_l11Answer_t : List Fs := spec_l11Answer_f :: spec_l11Chosen_t
theorem spec_l11Answer_g : FGood CX prims spec_l11Answer_t ∧ FEqn CX prims spec_l11Answer_f := fnG spec_l11Chosen_g.1 spec_l11Answer_f Try.f59 ⟨59, 2, 37, 48⟩ [] (fun _ _ => rfl) (fun _ _ _ => by kernel_rfl) trivial trivial (fun _ _ _ _ _ => by kernel_rfl)

/-! loop.example/g00244/spec.l12Hear -/
noncomputable def spec_l12Hear : Nat → T → T → T → T → T → T → T → T → T → T → T → T → T → T → T → (T → T → T → T → T → T → T → T → T → T → An) → An
  | 0, _, _, _, _, _, _, _, _, _, _, _, _, _, _, _, _ => .bad
  | m + 1, x0, x1, x2, x3, x4, x5, x6, x7, x8, x9, x10, x11, x12, x13, x14, k0 =>
    cond (x10.int == 1)
    (spec_l12Hold m x0 x1 x2 (T.l x3.rows) (T.l x4.rows) x5 (T.l x6.rows) (T.l x7.rows) (T.l x8.rows) (T.l x9.rows) x10 x11 x12 (T.l x13.rows) x14
    (fun y0 y1 y2 y3 y4 y5 y6 y7 y8 y9 => k0 y0 y1 y2 (T.l y3.rows) (T.l y4.rows) y5 (T.l y6.rows) (T.l y7.rows) (T.l y8.rows) (T.l y9.rows)))
    (cond (x10.int == 3)
    (cond (decide ((0 : Int) ≤ x11.int ∧ x11.int < (x6.rows.length : Int)))
    (cond (decide ((Int.toNat x11.int) < x6.rows.length))
    (spec_l9Decide m ((x6.rows.getD (Int.toNat x11.int) []).headD dflt) (T.l ((x6.rows.getD (Int.toNat x11.int) []).tail.headD dflt).rows) ((x6.rows.getD (Int.toNat x11.int) []).tail.tail.headD dflt) (T.l ((x6.rows.getD (Int.toNat x11.int) []).tail.tail.tail.headD dflt).rows) (T.l ((x6.rows.getD (Int.toNat x11.int) []).tail.tail.tail.tail.headD dflt).rows) x12 x14
    (fun y10 y11 y12 y13 y14 y15 => k0 x0 x1 x2 (T.l x3.rows) (T.l x4.rows) x5 (T.l (x6.rows.set (Int.toNat x11.int) [y11, (T.l y12.rows), y13, (T.l y14.rows), (T.l y15.rows)])) (T.l x7.rows) (T.l x8.rows) (T.l x9.rows))
    (fun y16 y17 y18 y19 y20 y21 y22 => k0 x0 x1 x2 (T.l x3.rows) (T.l x4.rows) x5 (T.l (x6.rows.set (Int.toNat x11.int) [y18, (T.l y19.rows), y20, (T.l y21.rows), (T.l y22.rows)])) (T.l x7.rows) (T.l x8.rows) (T.l x9.rows)))
    (.bad))
    (.bad))
    (cond (x10.int == 2)
    (spec_l11Vote m x0 x1 x2 (T.l x3.rows) (T.l x4.rows) x5 x11 x12 x14
    (fun y23 y24 y25 y26 y27 y28 => k0 y23 y24 y25 (T.l y26.rows) (T.l y27.rows) y28 (T.l x6.rows) (T.l x7.rows) (T.l x8.rows) (T.l x9.rows)))
    (cond (x10.int == 4)
    (spec_l11Answer m x0 x1 x2 (T.l x3.rows) (T.l x4.rows) x5 x12
    (fun y29 y30 => cond y30.bool
    (spec_l12Says m x0 x1 x2 (T.l x3.rows) (T.l x4.rows) x5 (T.l x6.rows) (T.l x7.rows) (T.l x8.rows) (T.l x9.rows) (T.l [[(T.i 3), x11, x12, (T.l []), y29]])
    (fun y31 y32 y33 y34 y35 y36 y37 y38 y39 y40 => k0 y36 y37 y38 (T.l y31.rows) (T.l y32.rows) y39 (T.l y33.rows) (T.l y40.rows) (T.l y34.rows) (T.l y35.rows)))
    (k0 x0 x1 x2 (T.l x3.rows) (T.l x4.rows) x5 (T.l x6.rows) (T.l x7.rows) (T.l x8.rows) (T.l x9.rows))))
    (k0 x0 x1 x2 (T.l x3.rows) (T.l x4.rows) x5 (T.l x6.rows) (T.l x7.rows) (T.l x8.rows) (T.l x9.rows)))))
noncomputable def spec_l12Hear_f : Fs := ⟨45, [.bx [AI, AI, AI, .own [.sc (.int .i64), .sl [.sc (.int .i64), .sc (.str), .sc (.str)], .sc (.int .i64), .sl [.sc (.int .i64)]] [.F, .F, .F, .F] [], .own [.sc (.int .i64), .sc (.bool)] [.F, .F] [], AI, .own [.sc (.int .i64), .sl [.sc (.int .i64), .sc (.int .i64), .sl [.sc (.int .i64), .sc (.str), .sc (.str)]], .sc (.int .i64), .sl [.sc (.str), .sc (.str)], .sl [.sc (.int .i64), .sc (.int .i64), .sl [.sc (.int .i64), .sc (.str), .sc (.str)]]] [.F, .O [.F, .F, .F], .F, .O [.F, .F], .O [.F, .F, .F]] [], .own [.sc (.int .i64), .sc (.int .i64), .sc (.int .i64), .sl [.sc (.int .i64), .sc (.str), .sc (.str)], .sc (.bool)] [.F, .F, .F, .F, .F] [], .own [.sc (.int .i64), .sc (.int .i64), .sc (.int .i64), .sl [.sc (.int .i64), .sc (.str), .sc (.str)], .sc (.bool)] [.F, .F, .F, .F, .F] [], .own [.sc (.int .i64), .sl [.sc (.int .i64), .sc (.str), .sc (.str)]] [.F, .F] []], .agg [AI, AI, AI, .dz [.sc (.int .i64), .sc (.str), .sc (.str)] [], AB]], fun m vs k => ap 15 (spec_l12Hear m) vs (lm 10 fun z => k (fRet ⟨[], [[none, none, none, none, none, none, none, none, none, none], [none, none, none, none, none]], [some [RI, RI, RI, .own (KR 1000 3) [.sc (.int .i64), .sl [.sc (.int .i64), .sc (.str), .sc (.str)], .sc (.int .i64), .sl [.sc (.int .i64)]] [.F, .F, .F, .F] [], .own (KR 1000 4) [.sc (.int .i64), .sc (.bool)] [.F, .F] [], RI, .own (KR 1000 6) [.sc (.int .i64), .sl [.sc (.int .i64), .sc (.int .i64), .sl [.sc (.int .i64), .sc (.str), .sc (.str)]], .sc (.int .i64), .sl [.sc (.str), .sc (.str)], .sl [.sc (.int .i64), .sc (.int .i64), .sl [.sc (.int .i64), .sc (.str), .sc (.str)]]] [.F, .O [.F, .F, .F], .F, .O [.F, .F], .O [.F, .F, .F]] [], .own (KR 1000 7) [.sc (.int .i64), .sc (.int .i64), .sc (.int .i64), .sl [.sc (.int .i64), .sc (.str), .sc (.str)], .sc (.bool)] [.F, .F, .F, .F, .F] [], .own (KR 1000 8) [.sc (.int .i64), .sc (.int .i64), .sc (.int .i64), .sl [.sc (.int .i64), .sc (.str), .sc (.str)], .sc (.bool)] [.F, .F, .F, .F, .F] [], .own (KR 1000 9) [.sc (.int .i64), .sl [.sc (.int .i64), .sc (.str), .sc (.str)]] [.F, .F] []], none]⟩ z))⟩
noncomputable def spec_l12Hear_t : List Fs := spec_l12Hear_f :: spec_l11Answer_t
theorem spec_l12Hear_g : FGood CX prims spec_l12Hear_t ∧ FEqn CX prims spec_l12Hear_f := fnG spec_l11Answer_g.1 spec_l12Hear_f Try.f45 ⟨45, 2, 61, 1⟩ [] (fun _ _ => rfl) (fun _ _ _ => by kernel_rfl) trivial trivial (fun _ _ _ _ _ => by kernel_rfl)

/-! loop.example/g00244/spec.l12Net -/
noncomputable def spec_l12Net : Nat → T → T → T → T → T → T → T → T → T → T → T → T → T → T → (T → T → T → T → T → T → T → T → T → T → T → An) → An
  | 0, _, _, _, _, _, _, _, _, _, _, _, _, _, _, _ => .bad
  | m + 1, x0, x1, x2, x3, x4, x5, x6, x7, x8, x9, x10, x11, x12, x13, k0 =>
    spec_l1In m x11 (T.i 0) (T.i (IntKind.i64.wrap ((x7.rows.length : Int) - 1)))
    (fun y0 => cond (!y0.bool)
    (k0 (T.b false) x0 x1 x2 (T.l x3.rows) (T.l x4.rows) x5 (T.l x6.rows) (T.l x7.rows) (T.l x8.rows) (T.l x9.rows))
    (cond (decide ((0 : Int) ≤ x11.int ∧ x11.int < (x7.rows.length : Int)))
    (cond (decide ((Int.toNat x11.int) < x7.rows.length))
    (cond (x10.int == 4)
    (spec_l12Says m x0 x1 x2 (T.l x3.rows) (T.l x4.rows) x5 (T.l x6.rows) (T.l x7.rows) (T.l x8.rows) (T.l x9.rows) (T.l [[((x7.rows.getD (Int.toNat x11.int) []).getD 0 dflt), ((x7.rows.getD (Int.toNat x11.int) []).getD 1 dflt), ((x7.rows.getD (Int.toNat x11.int) []).getD 2 dflt), ((x7.rows.getD (Int.toNat x11.int) []).getD 3 dflt), ((x7.rows.getD (Int.toNat x11.int) []).getD 4 dflt)]])
    (fun y1 y2 y3 y4 y5 y6 y7 y8 y9 y10 => k0 (T.b true) y6 y7 y8 (T.l y1.rows) (T.l y2.rows) y9 (T.l y3.rows) (T.l y10.rows) (T.l y4.rows) (T.l y5.rows)))
    (cond (decide ((0 : Int) ≤ x11.int ∧ x11.int ≤ (x7.rows.length : Int)))
    (cond (decide ((0 : Int) ≤ 0 ∧ 0 ≤ x11.int))
    (cond (decide ((0 + (x7.rows.take (Int.toNat x11.int)).length) * 5 ≤ maxRow))
    (cond (decide ((0 : Int) ≤ (x7.rows.length : Int) ∧ (x7.rows.length : Int) ≤ (x7.rows.length : Int)))
    (cond (decide ((0 : Int) ≤ (IntKind.i64.wrap (x11.int + 1)) ∧ (IntKind.i64.wrap (x11.int + 1)) ≤ (x7.rows.length : Int)))
    (cond (decide (((x7.rows.take (Int.toNat x11.int)).length + ((x7.rows.take (Int.toNat (x7.rows.length : Int))).drop (Int.toNat (IntKind.i64.wrap (x11.int + 1)))).length) * 5 ≤ maxRow))
    (cond (x10.int == 2)
    (spec_l12Hear m x0 x1 x2 (T.l x3.rows) (T.l x4.rows) x5 (T.l x6.rows) (T.l ((x7.rows.take (Int.toNat x11.int)) ++ ((x7.rows.take (Int.toNat (x7.rows.length : Int))).drop (Int.toNat (IntKind.i64.wrap (x11.int + 1)))))) (T.l x8.rows) (T.l x9.rows) ((x7.rows.getD (Int.toNat x11.int) []).getD 0 dflt) ((x7.rows.getD (Int.toNat x11.int) []).getD 1 dflt) ((x7.rows.getD (Int.toNat x11.int) []).getD 2 dflt) (T.l ((x7.rows.getD (Int.toNat x11.int) []).getD 3 dflt).rows) ((x7.rows.getD (Int.toNat x11.int) []).getD 4 dflt)
    (fun y11 y12 y13 y14 y15 y16 y17 y18 y19 y20 => k0 (T.b true) y11 y12 y13 (T.l y14.rows) (T.l y15.rows) y16 (T.l y17.rows) (T.l y18.rows) (T.l y19.rows) (T.l y20.rows)))
    (k0 (T.b true) x0 x1 x2 (T.l x3.rows) (T.l x4.rows) x5 (T.l x6.rows) (T.l ((x7.rows.take (Int.toNat x11.int)) ++ ((x7.rows.take (Int.toNat (x7.rows.length : Int))).drop (Int.toNat (IntKind.i64.wrap (x11.int + 1)))))) (T.l x8.rows) (T.l x9.rows)))
    (.bad))
    (.bad))
    (.bad))
    (.bad))
    (.bad))
    (.bad)))
    (.bad))
    (.bad)))
noncomputable def spec_l12Net_f : Fs := ⟨33, [.bx [AI, AI, AI, .own [.sc (.int .i64), .sl [.sc (.int .i64), .sc (.str), .sc (.str)], .sc (.int .i64), .sl [.sc (.int .i64)]] [.F, .F, .F, .F] [], .own [.sc (.int .i64), .sc (.bool)] [.F, .F] [], AI, .own [.sc (.int .i64), .sl [.sc (.int .i64), .sc (.int .i64), .sl [.sc (.int .i64), .sc (.str), .sc (.str)]], .sc (.int .i64), .sl [.sc (.str), .sc (.str)], .sl [.sc (.int .i64), .sc (.int .i64), .sl [.sc (.int .i64), .sc (.str), .sc (.str)]]] [.F, .O [.F, .F, .F], .F, .O [.F, .F], .O [.F, .F, .F]] [], .own [.sc (.int .i64), .sc (.int .i64), .sc (.int .i64), .sl [.sc (.int .i64), .sc (.str), .sc (.str)], .sc (.bool)] [.F, .F, .F, .F, .F] [], .own [.sc (.int .i64), .sc (.int .i64), .sc (.int .i64), .sl [.sc (.int .i64), .sc (.str), .sc (.str)], .sc (.bool)] [.F, .F, .F, .F, .F] [], .own [.sc (.int .i64), .sl [.sc (.int .i64), .sc (.str), .sc (.str)]] [.F, .F] []], .agg [AI, AI, AI, .dz [.sc (.int .i64), .sc (.str), .sc (.str)] []]], fun m vs k => ap 14 (spec_l12Net m) vs (lm 11 fun z => k (fRet ⟨[.one (RB)], [[none, none, none, none, none, none, none, none, none, none], [none, none, none, none]], [some [RI, RI, RI, .own (KR 1000 3) [.sc (.int .i64), .sl [.sc (.int .i64), .sc (.str), .sc (.str)], .sc (.int .i64), .sl [.sc (.int .i64)]] [.F, .F, .F, .F] [], .own (KR 1000 4) [.sc (.int .i64), .sc (.bool)] [.F, .F] [], RI, .own (KR 1000 6) [.sc (.int .i64), .sl [.sc (.int .i64), .sc (.int .i64), .sl [.sc (.int .i64), .sc (.str), .sc (.str)]], .sc (.int .i64), .sl [.sc (.str), .sc (.str)], .sl [.sc (.int .i64), .sc (.int .i64), .sl [.sc (.int .i64), .sc (.str), .sc (.str)]]] [.F, .O [.F, .F, .F], .F, .O [.F, .F], .O [.F, .F, .F]] [], .own (KR 1000 7) [.sc (.int .i64), .sc (.int .i64), .sc (.int .i64), .sl [.sc (.int .i64), .sc (.str), .sc (.str)], .sc (.bool)] [.F, .F, .F, .F, .F] [], .own (KR 1000 8) [.sc (.int .i64), .sc (.int .i64), .sc (.int .i64), .sl [.sc (.int .i64), .sc (.str), .sc (.str)], .sc (.bool)] [.F, .F, .F, .F, .F] [], .own (KR 1000 9) [.sc (.int .i64), .sl [.sc (.int .i64), .sc (.str), .sc (.str)]] [.F, .F] []], none]⟩ z))⟩
noncomputable def spec_l12Net_t : List Fs := spec_l12Net_f :: spec_l12Hear_t
theorem spec_l12Net_g : FGood CX prims spec_l12Net_t ∧ FEqn CX prims spec_l12Net_f := fnG spec_l12Hear_g.1 spec_l12Net_f Try.f33 ⟨33, 2, 58, 17⟩ [] (fun _ _ => rfl) (fun _ _ _ => by kernel_rfl) trivial trivial (fun _ _ _ _ _ => by kernel_rfl)

/-! loop.example/g00244/spec.l12Outs -/
noncomputable def spec_l12Outs_L0_0 (m : Nat) : Nat → T → T → T → T → T → T → T → T → T → T → T → T → T → T → T → T → T → T → T → (T → T → T → T → T → T → T → T → T → T → T → T → An) → An
  | 0, _, _, _, _, _, _, _, _, _, _, _, _, _, _, _, _, _, _, _, _ => .bad
  | n + 1, x0, x1, x2, x3, x4, x5, x6, x7, x8, x9, x10, x11, x12, x13, x14, x15, x16, x17, x18, k0 =>
    cond (decide (x6.int < (x11.rows.length : Int)))
    (jn (fun (j4 : T → T → An) =>
    cond (decide ((0 : Int) ≤ x6.int ∧ x6.int < (x11.rows.length : Int)))
    (cond (decide ((Int.toNat x6.int) < x11.rows.length))
    (cond (((x11.rows.getD (Int.toNat x6.int) []).getD 1 dflt).int == x4.int)
    (cond (decide ((0 : Int) ≤ x6.int ∧ x6.int < (x11.rows.length : Int)))
    (cond (decide ((Int.toNat x6.int) < x11.rows.length))
    (cond (decide ((x17.rows.length + 1) * 5 ≤ maxRow))
    (j4 (T.l (x17.rows ++ [[((x11.rows.getD (Int.toNat x6.int) []).getD 0 dflt), ((x11.rows.getD (Int.toNat x6.int) []).getD 1 dflt), ((x11.rows.getD (Int.toNat x6.int) []).getD 2 dflt), ((x11.rows.getD (Int.toNat x6.int) []).getD 3 dflt), ((x11.rows.getD (Int.toNat x6.int) []).getD 4 dflt)]])) (T.l x18.rows))
    (.bad))
    (.bad))
    (.bad))
    (cond (decide ((0 : Int) ≤ x6.int ∧ x6.int < (x11.rows.length : Int)))
    (cond (decide ((Int.toNat x6.int) < x11.rows.length))
    (cond (decide ((x18.rows.length + 1) * 5 ≤ maxRow))
    (j4 (T.l x17.rows) (T.l (x18.rows ++ [[((x11.rows.getD (Int.toNat x6.int) []).getD 0 dflt), ((x11.rows.getD (Int.toNat x6.int) []).getD 1 dflt), ((x11.rows.getD (Int.toNat x6.int) []).getD 2 dflt), ((x11.rows.getD (Int.toNat x6.int) []).getD 3 dflt), ((x11.rows.getD (Int.toNat x6.int) []).getD 4 dflt)]])))
    (.bad))
    (.bad))
    (.bad)))
    (.bad))
    (.bad))
    (fun y2 y3 => spec_l12Outs_L0_0 m n x0 x1 x2 x3 x4 (T.i (x5.int.toNat : Int)) (T.i (IntKind.i64.wrap (x6.int + 1))) (T.l x7.rows) (T.l x8.rows) (T.l x9.rows) (T.l x10.rows) (T.l x11.rows) (T.l x12.rows) x13 x14 x15 x16 (T.l y2.rows) (T.l y3.rows) k0))
    (k0 x0 x1 x2 x3 (T.l x7.rows) (T.l x8.rows) (T.l x9.rows) (T.l x10.rows) (T.l x11.rows) (T.l x12.rows) (T.l x17.rows) (T.l x18.rows))
noncomputable def spec_l12Outs : Nat → T → T → T → T → T → T → T → T → T → T → T → (T → T → T → T → T → T → T → T → An) → An
  | 0, _, _, _, _, _, _, _, _, _, _, _, _ => .bad
  | m + 1, x0, x1, x2, x3, x4, x5, x6, x7, x8, x9, x10, k0 =>
    spec_l12Outs_L0_0 m m x0 x1 x2 x5 x10 (T.i 0) (T.i 0) (T.l x3.rows) (T.l x4.rows) (T.l x6.rows) (T.l x7.rows) (T.l x8.rows) (T.l x9.rows) x0 x1 x2 x5 (T.l []) (T.l [])
    (fun y5 y6 y7 y8 y9 y10 y11 y12 y13 y14 y15 y16 => k0 (T.l y15.rows) (T.l y16.rows) (T.l y9.rows) (T.l y10.rows) (T.l y11.rows) (T.l y12.rows) (T.l y13.rows) (T.l y14.rows))
noncomputable def spec_l12Outs_f : Fs := ⟨46, [.agg [AI, AI, AI, .own [.sc (.int .i64), .sl [.sc (.int .i64), .sc (.str), .sc (.str)], .sc (.int .i64), .sl [.sc (.int .i64)]] [.F, .F, .F, .F] [], .own [.sc (.int .i64), .sc (.bool)] [.F, .F] [], AI, .own [.sc (.int .i64), .sl [.sc (.int .i64), .sc (.int .i64), .sl [.sc (.int .i64), .sc (.str), .sc (.str)]], .sc (.int .i64), .sl [.sc (.str), .sc (.str)], .sl [.sc (.int .i64), .sc (.int .i64), .sl [.sc (.int .i64), .sc (.str), .sc (.str)]]] [.F, .O [.F, .F, .F], .F, .O [.F, .F], .O [.F, .F, .F]] [], .own [.sc (.int .i64), .sc (.int .i64), .sc (.int .i64), .sl [.sc (.int .i64), .sc (.str), .sc (.str)], .sc (.bool)] [.F, .F, .F, .F, .F] [], .own [.sc (.int .i64), .sc (.int .i64), .sc (.int .i64), .sl [.sc (.int .i64), .sc (.str), .sc (.str)], .sc (.bool)] [.F, .F, .F, .F, .F] [], .own [.sc (.int .i64), .sl [.sc (.int .i64), .sc (.str), .sc (.str)]] [.F, .F] []], .one (AI)], fun m vs k => ap 11 (spec_l12Outs m) vs (lm 8 fun z => k (fRet ⟨[.one (.own (KR 0 0) [.sc (.int .i64), .sc (.int .i64), .sc (.int .i64), .sl [.sc (.int .i64), .sc (.str), .sc (.str)], .sc (.bool)] [.F, .F, .F, .F, .F] []), .one (.own (KR 1 0) [.sc (.int .i64), .sc (.int .i64), .sc (.int .i64), .sl [.sc (.int .i64), .sc (.str), .sc (.str)], .sc (.bool)] [.F, .F, .F, .F, .F] [])], [[none, none, none, some ([.sc (.int .i64), .sl [.sc (.int .i64), .sc (.str), .sc (.str)], .sc (.int .i64), .sl [.sc (.int .i64)]], [.F, .F, .F, .F], []), some ([.sc (.int .i64), .sc (.bool)], [.F, .F], []), none, some ([.sc (.int .i64), .sl [.sc (.int .i64), .sc (.int .i64), .sl [.sc (.int .i64), .sc (.str), .sc (.str)]], .sc (.int .i64), .sl [.sc (.str), .sc (.str)], .sl [.sc (.int .i64), .sc (.int .i64), .sl [.sc (.int .i64), .sc (.str), .sc (.str)]]], [.F, .O [.F, .F, .F], .F, .O [.F, .F], .O [.F, .F, .F]], []), some ([.sc (.int .i64), .sc (.int .i64), .sc (.int .i64), .sl [.sc (.int .i64), .sc (.str), .sc (.str)], .sc (.bool)], [.F, .F, .F, .F, .F], []), some ([.sc (.int .i64), .sc (.int .i64), .sc (.int .i64), .sl [.sc (.int .i64), .sc (.str), .sc (.str)], .sc (.bool)], [.F, .F, .F, .F, .F], []), some ([.sc (.int .i64), .sl [.sc (.int .i64), .sc (.str), .sc (.str)]], [.F, .F], [])], [none]], [none, none]⟩ z))⟩
noncomputable def spec_l12Outs_l : List Ls := [⟨[0, 1, 0, 1, 1, 1], ⟨[(0, .agg [LI, LI, LI, LA [0, 3] [.sc (.int .i64), .sl [.sc (.int .i64), .sc (.str), .sc (.str)], .sc (.int .i64), .sl [.sc (.int .i64)]], LA [0, 4] [.sc (.int .i64), .sc (.bool)], LI, LA [0, 6] [.sc (.int .i64), .sl [.sc (.int .i64), .sc (.int .i64), .sl [.sc (.int .i64), .sc (.str), .sc (.str)]], .sc (.int .i64), .sl [.sc (.str), .sc (.str)], .sl [.sc (.int .i64), .sc (.int .i64), .sl [.sc (.int .i64), .sc (.str), .sc (.str)]]], LA [0, 7] [.sc (.int .i64), .sc (.int .i64), .sc (.int .i64), .sl [.sc (.int .i64), .sc (.str), .sc (.str)], .sc (.bool)], LA [0, 8] [.sc (.int .i64), .sc (.int .i64), .sc (.int .i64), .sl [.sc (.int .i64), .sc (.str), .sc (.str)], .sc (.bool)], LA [0, 9] [.sc (.int .i64), .sl [.sc (.int .i64), .sc (.str), .sc (.str)]]]), (1, .one (LI)), (2, EP 6), (6, .one (LA (KI 7) [.sc (.int .i64), .sc (.int .i64), .sc (.int .i64), .sl [.sc (.int .i64), .sc (.str), .sc (.str)], .sc (.bool)])), (7, .one (LA (KI 8) [.sc (.int .i64), .sc (.int .i64), .sc (.int .i64), .sl [.sc (.int .i64), .sc (.str), .sc (.str)], .sc (.bool)])), (8, .one (LI))], [([0, 3], .row [.sc (.int .i64), .sl [.sc (.int .i64), .sc (.str), .sc (.str)], .sc (.int .i64), .sl [.sc (.int .i64)]] [.F, .F, .F, .F] []), ([0, 4], .row [.sc (.int .i64), .sc (.bool)] [.F, .F] []), ([0, 6], .row [.sc (.int .i64), .sl [.sc (.int .i64), .sc (.int .i64), .sl [.sc (.int .i64), .sc (.str), .sc (.str)]], .sc (.int .i64), .sl [.sc (.str), .sc (.str)], .sl [.sc (.int .i64), .sc (.int .i64), .sl [.sc (.int .i64), .sc (.str), .sc (.str)]]] [.F, .O [.F, .F, .F], .F, .O [.F, .F], .O [.F, .F, .F]] []), ([0, 7], .row [.sc (.int .i64), .sc (.int .i64), .sc (.int .i64), .sl [.sc (.int .i64), .sc (.str), .sc (.str)], .sc (.bool)] [.F, .F, .F, .F, .F] []), ([0, 8], .row [.sc (.int .i64), .sc (.int .i64), .sc (.int .i64), .sl [.sc (.int .i64), .sc (.str), .sc (.str)], .sc (.bool)] [.F, .F, .F, .F, .F] []), ([0, 9], .row [.sc (.int .i64), .sl [.sc (.int .i64), .sc (.str), .sc (.str)]] [.F, .F] []), ((KI 6), .box [LI, LI, LI, LA [0, 3] [.sc (.int .i64), .sl [.sc (.int .i64), .sc (.str), .sc (.str)], .sc (.int .i64), .sl [.sc (.int .i64)]], LA [0, 4] [.sc (.int .i64), .sc (.bool)], LI, LA [0, 6] [.sc (.int .i64), .sl [.sc (.int .i64), .sc (.int .i64), .sl [.sc (.int .i64), .sc (.str), .sc (.str)]], .sc (.int .i64), .sl [.sc (.str), .sc (.str)], .sl [.sc (.int .i64), .sc (.int .i64), .sl [.sc (.int .i64), .sc (.str), .sc (.str)]]], LA [0, 7] [.sc (.int .i64), .sc (.int .i64), .sc (.int .i64), .sl [.sc (.int .i64), .sc (.str), .sc (.str)], .sc (.bool)], LA [0, 8] [.sc (.int .i64), .sc (.int .i64), .sc (.int .i64), .sl [.sc (.int .i64), .sc (.str), .sc (.str)], .sc (.bool)], LA [0, 9] [.sc (.int .i64), .sl [.sc (.int .i64), .sc (.str), .sc (.str)]]]), ((KI 7), .row [.sc (.int .i64), .sc (.int .i64), .sc (.int .i64), .sl [.sc (.int .i64), .sc (.str), .sc (.str)], .sc (.bool)] [.F, .F, .F, .F, .F] []), ((KI 8), .row [.sc (.int .i64), .sc (.int .i64), .sc (.int .i64), .sl [.sc (.int .i64), .sc (.str), .sc (.str)], .sc (.bool)] [.F, .F, .F, .F, .F] [])]⟩, fun m n vs k => ap 19 (spec_l12Outs_L0_0 m n) vs (lm 12 fun z => k (.exit 0) (fPack ⟨[(0, .agg [LI, LI, LI, LA [0, 3] [.sc (.int .i64), .sl [.sc (.int .i64), .sc (.str), .sc (.str)], .sc (.int .i64), .sl [.sc (.int .i64)]], LA [0, 4] [.sc (.int .i64), .sc (.bool)], LI, LA [0, 6] [.sc (.int .i64), .sl [.sc (.int .i64), .sc (.int .i64), .sl [.sc (.int .i64), .sc (.str), .sc (.str)]], .sc (.int .i64), .sl [.sc (.str), .sc (.str)], .sl [.sc (.int .i64), .sc (.int .i64), .sl [.sc (.int .i64), .sc (.str), .sc (.str)]]], LA [0, 7] [.sc (.int .i64), .sc (.int .i64), .sc (.int .i64), .sl [.sc (.int .i64), .sc (.str), .sc (.str)], .sc (.bool)], LA [0, 8] [.sc (.int .i64), .sc (.int .i64), .sc (.int .i64), .sl [.sc (.int .i64), .sc (.str), .sc (.str)], .sc (.bool)], LA [0, 9] [.sc (.int .i64), .sl [.sc (.int .i64), .sc (.str), .sc (.str)]]]), (6, .one (LA (KI 6) [.sc (.int .i64), .sc (.int .i64), .sc (.int .i64), .sl [.sc (.int .i64), .sc (.str), .sc (.str)], .sc (.bool)])), (7, .one (LA (KI 7) [.sc (.int .i64), .sc (.int .i64), .sc (.int .i64), .sl [.sc (.int .i64), .sc (.str), .sc (.str)], .sc (.bool)]))], [([0, 3], .row [.sc (.int .i64), .sl [.sc (.int .i64), .sc (.str), .sc (.str)], .sc (.int .i64), .sl [.sc (.int .i64)]] [.F, .F, .F, .F] []), ([0, 4], .row [.sc (.int .i64), .sc (.bool)] [.F, .F] []), ([0, 6], .row [.sc (.int .i64), .sl [.sc (.int .i64), .sc (.int .i64), .sl [.sc (.int .i64), .sc (.str), .sc (.str)]], .sc (.int .i64), .sl [.sc (.str), .sc (.str)], .sl [.sc (.int .i64), .sc (.int .i64), .sl [.sc (.int .i64), .sc (.str), .sc (.str)]]] [.F, .O [.F, .F, .F], .F, .O [.F, .F], .O [.F, .F, .F]] []), ([0, 7], .row [.sc (.int .i64), .sc (.int .i64), .sc (.int .i64), .sl [.sc (.int .i64), .sc (.str), .sc (.str)], .sc (.bool)] [.F, .F, .F, .F, .F] []), ([0, 8], .row [.sc (.int .i64), .sc (.int .i64), .sc (.int .i64), .sl [.sc (.int .i64), .sc (.str), .sc (.str)], .sc (.bool)] [.F, .F, .F, .F, .F] []), ([0, 9], .row [.sc (.int .i64), .sl [.sc (.int .i64), .sc (.str), .sc (.str)]] [.F, .F] []), ((KI 6), .row [.sc (.int .i64), .sc (.int .i64), .sc (.int .i64), .sl [.sc (.int .i64), .sc (.str), .sc (.str)], .sc (.bool)] [.F, .F, .F, .F, .F] []), ((KI 7), .row [.sc (.int .i64), .sc (.int .i64), .sc (.int .i64), .sl [.sc (.int .i64), .sc (.str), .sc (.str)], .sc (.bool)] [.F, .F, .F, .F, .F] [])]⟩ z))⟩]
noncomputable def spec_l12Outs_t : List Fs := spec_l12Outs_f :: spec_l12Net_t
theorem spec_l12Outs_g : FGood CX prims spec_l12Outs_t ∧ FEqn CX prims spec_l12Outs_f := fnG spec_l12Net_g.1 spec_l12Outs_f Try.f46 ⟨46, 2, 44, 49⟩ spec_l12Outs_l (fun _ _ => rfl) (fun _ _ _ => by kernel_rfl) ⟨fun _ _ _ => rfl, trivial⟩ ⟨fun _ _ _ _ _ _ => by kernel_rfl, trivial⟩ (fun _ _ _ _ _ => by kernel_rfl)

/-! loop.example/g00244/spec.ReplayRecs -/
noncomputable def spec_ReplayRecs_L0_0 (m : Nat) : Nat → T → T → T → T → T → T → (T → T → T → An) → (T → T → T → T → An) → An
  | 0, _, _, _, _, _, _, _, _ => .bad
  | n + 1, x0, x1, x2, x3, x4, x5, k0, k1 =>
    cond (decide (x2.int < (x0.rows.length : Int)))
    ((fun (j19 : T → T → T → An) =>
    cond (decide ((0 : Int) ≤ x2.int ∧ x2.int < (x0.rows.length : Int)))
    (spec_l8One m (T.l x3.rows) (T.l x4.rows) (T.l x5.rows) ((x0.rows.getD (Int.toNat x2.int) []).getD 0 dflt) ((x0.rows.getD (Int.toNat x2.int) []).getD 1 dflt) (T.l ((x0.rows.getD (Int.toNat x2.int) []).getD 2 dflt).rows)
    (fun y0 y1 y2 y3 => cond (!y0.bool)
    (k0 (T.b false) (T.l []) (T.l []))
    (j19 (T.l y1.rows) (T.l y2.rows) (T.l y3.rows)))
    (fun y4 y5 y6 y7 y8 => cond (!y4.bool)
    (k0 (T.b false) (T.l []) (T.l []))
    (j19 (T.l y6.rows) (T.l y7.rows) (T.l y8.rows))))
    (.bad))
    (fun y16 y17 y18 => spec_ReplayRecs_L0_0 m n x0 (T.i (x1.int.toNat : Int)) (T.i (IntKind.i64.wrap (x2.int + 1))) (T.l y16.rows) (T.l y17.rows) (T.l y18.rows) k0 k1))
    (k1 (T.i (x1.int.toNat : Int)) (T.l x3.rows) (T.l x4.rows) (T.l x5.rows))
noncomputable def spec_ReplayRecs : Nat → T → (T → T → T → An) → An
  | 0, _, _ => .bad
  | m + 1, x0, k0 =>
    spec_ReplayRecs_L0_0 m m (T.l x0.rows) (T.i 0) (T.i 0) (T.l []) (T.l []) (T.l [])
    (fun y20 y21 y22 => k0 (T.l y21.rows) (T.l y22.rows) y20)
    (fun y23 y24 y25 y26 => k0 (T.l y24.rows) (T.l y25.rows) (T.b true))
noncomputable def spec_ReplayRecs_f : Fs := ⟨60, [.one (.dz [.sc (.int .i64), .sc (.int .i64), .sl [.sc (.int .i64), .sc (.str), .sc (.str)]] [])], fun m vs k => ap 1 (spec_ReplayRecs m) vs (lm 3 fun z => k (fRet ⟨[.one (.own (KR 0 0) [.sc (.str), .sc (.str)] [.F, .F] []), .one (.own (KR 1 0) [.sc (.int .i64), .sc (.int .i64), .sl [.sc (.int .i64), .sc (.str), .sc (.str)]] [.F, .F, .F] []), .one (RB)], [[none]], [none]⟩ z))⟩
noncomputable def spec_ReplayRecs_l : List Ls := [⟨[0, 1, 0, 1, 1], ⟨[(0, .one (LD [.sc (.int .i64), .sc (.int .i64), .sl [.sc (.int .i64), .sc (.str), .sc (.str)]])), (5, EP 1), (6, .one (LI))], [([4000000], .gone), ((KI 1), .box [LA (KI 2) [.sc (.str), .sc (.str)], LA (KI 3) [.sc (.int .i64), .sc (.int .i64), .sl [.sc (.int .i64), .sc (.str), .sc (.str)]], LA (KI 4) [.sc (.int .i64)]]), ((KI 2), .row [.sc (.str), .sc (.str)] [.F, .F] []), ((KI 3), .row [.sc (.int .i64), .sc (.int .i64), .sl [.sc (.int .i64), .sc (.str), .sc (.str)]] [.F, .F, .F] []), ((KI 4), .row [.sc (.int .i64)] [.F] [])]⟩, fun m n vs k => ap 6 (spec_ReplayRecs_L0_0 m n) vs (lm 3 fun z => k .ret (fPack ⟨[(2, .one (LA (KI 0) [.sc (.str), .sc (.str)])), (3, .one (LA (KI 1) [.sc (.int .i64), .sc (.int .i64), .sl [.sc (.int .i64), .sc (.str), .sc (.str)]])), (4, .one (LB))], [((KI 0), .row [.sc (.str), .sc (.str)] [.F, .F] []), ((KI 1), .row [.sc (.int .i64), .sc (.int .i64), .sl [.sc (.int .i64), .sc (.str), .sc (.str)]] [.F, .F, .F] [])]⟩ z)) (lm 4 fun z => k (.exit 0) (fPack ⟨[(5, EP 0)], [((KI 0), .box [LA (KI 1) [.sc (.str), .sc (.str)], LA (KI 2) [.sc (.int .i64), .sc (.int .i64), .sl [.sc (.int .i64), .sc (.str), .sc (.str)]], LA (KI 3) [.sc (.int .i64)]]), ((KI 1), .row [.sc (.str), .sc (.str)] [.F, .F] []), ((KI 2), .row [.sc (.int .i64), .sc (.int .i64), .sl [.sc (.int .i64), .sc (.str), .sc (.str)]] [.F, .F, .F] []), ((KI 3), .row [.sc (.int .i64)] [.F] [])]⟩ z))⟩]
noncomputable def spec_ReplayRecs_t : List Fs := spec_ReplayRecs_f :: spec_l12Outs_t
theorem spec_ReplayRecs_g : FGood CX prims spec_ReplayRecs_t ∧ FEqn CX prims spec_ReplayRecs_f := fnG spec_l12Outs_g.1 spec_ReplayRecs_f Try.f60 ⟨60, 1, 34, 28⟩ spec_ReplayRecs_l (fun _ _ => rfl) (fun _ _ _ => by kernel_rfl) ⟨fun _ _ _ => rfl, trivial⟩ ⟨fun _ _ _ _ _ _ => by kernel_rfl, trivial⟩ (fun _ _ _ _ _ => by kernel_rfl)

/-! loop.example/g00244/spec.l9Crash -/
noncomputable def spec_l9Crash : Nat → T → T → T → T → T → T → (T → T → T → T → T → T → T → An) → An
  | 0, _, _, _, _, _, _, _ => .bad
  | m + 1, x0, x1, x2, x3, x4, x5, k0 =>
    jn (fun (j6 : T → An) =>
    cond (decide (x5.int < 0))
    (j6 (T.i 0))
    (j6 x5))
    (fun y0 => jn (fun (j5 : T → An) =>
    cond (decide (y0.int > (IntKind.i64.wrap ((x1.rows.length : Int) - x2.int))))
    (j5 (T.i (IntKind.i64.wrap ((x1.rows.length : Int) - x2.int))))
    (j5 y0))
    (fun y1 => cond (decide ((0 : Int) ≤ (IntKind.i64.wrap (x2.int + y1.int)) ∧ (IntKind.i64.wrap (x2.int + y1.int)) ≤ (x1.rows.length : Int)))
    (cond (decide ((0 : Int) ≤ 0 ∧ 0 ≤ (IntKind.i64.wrap (x2.int + y1.int))))
    (spec_ReplayRecs m (T.l (x1.rows.take (Int.toNat (IntKind.i64.wrap (x2.int + y1.int)))))
    (fun y2 y3 y4 => k0 (T.l x3.rows) (T.l x4.rows) x0 (T.l (x1.rows.take (Int.toNat (IntKind.i64.wrap (x2.int + y1.int))))) (T.i ((x1.rows.take (Int.toNat (IntKind.i64.wrap (x2.int + y1.int)))).length : Int)) (T.l y2.rows) (T.l y3.rows)))
    (.bad))
    (.bad)))
noncomputable def spec_l9Crash_f : Fs := ⟨47, [.bx [AI, .own [.sc (.int .i64), .sc (.int .i64), .sl [.sc (.int .i64), .sc (.str), .sc (.str)]] [.F, .F, .F] [], AI, .own [.sc (.str), .sc (.str)] [.F, .F] [], .own [.sc (.int .i64), .sc (.int .i64), .sl [.sc (.int .i64), .sc (.str), .sc (.str)]] [.F, .F, .F] []], .one (AI)], fun m vs k => ap 6 (spec_l9Crash m) vs (lm 7 fun z => k (fRet ⟨[], [[none, none, none, some ([.sc (.str), .sc (.str)], [.F, .F], []), some ([.sc (.int .i64), .sc (.int .i64), .sl [.sc (.int .i64), .sc (.str), .sc (.str)]], [.F, .F, .F], [])], [none]], [some [RI, .own (KR 1000 1) [.sc (.int .i64), .sc (.int .i64), .sl [.sc (.int .i64), .sc (.str), .sc (.str)]] [.F, .F, .F] [], RI, .own (KR 1000 3) [.sc (.str), .sc (.str)] [.F, .F] [], .own (KR 1000 4) [.sc (.int .i64), .sc (.int .i64), .sl [.sc (.int .i64), .sc (.str), .sc (.str)]] [.F, .F, .F] []], none]⟩ z))⟩
noncomputable def spec_l9Crash_t : List Fs := spec_l9Crash_f :: spec_ReplayRecs_t
theorem spec_l9Crash_g : FGood CX prims spec_l9Crash_t ∧ FEqn CX prims spec_l9Crash_f := fnG spec_ReplayRecs_g.1 spec_l9Crash_f Try.f47 ⟨47, 2, 65, 1⟩ [] (fun _ _ => rfl) (fun _ _ _ => by kernel_rfl) trivial trivial (fun _ _ _ _ _ => by kernel_rfl)

/-! loop.example/g00244/spec.l12Shard -/
noncomputable def spec_l12Shard_L0_1 (m : Nat) : Nat → T → T → T → T → T → T → T → T → T → T → T → T → T → T → T → T → T → T → (T → T → T → T → T → T → T → T → T → T → T → An) → (T → T → T → T → T → T → T → T → T → T → T → An) → An
  | 0, _, _, _, _, _, _, _, _, _, _, _, _, _, _, _, _, _, _, _, _ => .bad
  | n + 1, x0, x1, x2, x3, x4, x5, x6, x7, x8, x9, x10, x11, x12, x13, x14, x15, x16, x17, k0, k1 =>
    cond (decide (x2.int.toNat < x12.rows.length))
    (cond (decide (x3.int < (((x12.rows.getD x2.int.toNat []).getD 4 dflt).rows.length : Int)))
    (cond (decide (x2.int.toNat < x12.rows.length))
    (cond (decide ((0 : Int) ≤ x3.int ∧ x3.int < (((x12.rows.getD x2.int.toNat []).getD 4 dflt).rows.length : Int)))
    (spec_l12Says m x4 x5 x6 (T.l x13.rows) (T.l x14.rows) x7 (T.l x12.rows) (T.l x15.rows) (T.l x16.rows) (T.l x17.rows) (T.l [[(T.i 4), x9, (((((x12.rows.getD x2.int.toNat []).getD 4 dflt).rows.getD (Int.toNat x3.int) []).drop 1).getD 0 dflt), (T.l []), (T.b false)]])
    (fun y35 y36 y37 y38 y39 y40 y41 y42 y43 y44 => spec_l12Shard_L0_1 m n (T.i (x0.int.toNat : Int)) (T.i (x1.int.toNat : Int)) (T.i (x2.int.toNat : Int)) (T.i (IntKind.i64.wrap (x3.int + 1))) y40 y41 y42 y43 x8 x9 x10 x11 (T.l y37.rows) (T.l y35.rows) (T.l y36.rows) (T.l y44.rows) (T.l y38.rows) (T.l y39.rows) k0 k1))
    (.bad))
    (.bad))
    (k0 (T.i (x0.int.toNat : Int)) x4 x5 x6 x7 (T.l x13.rows) (T.l x14.rows) (T.l x12.rows) (T.l x15.rows) (T.l x16.rows) (T.l x17.rows)))
    (.bad)
noncomputable def spec_l12Shard_L0_0 (m : Nat) : Nat → T → T → T → T → T → T → T → T → T → T → T → T → T → T → T → T → T → T → (T → T → T → T → T → T → T → T → T → T → T → An) → (T → T → T → T → T → T → T → T → T → T → T → An) → An
  | 0, _, _, _, _, _, _, _, _, _, _, _, _, _, _, _, _, _, _, _, _ => .bad
  | n + 1, x0, x1, x2, x3, x4, x5, x6, x7, x8, x9, x10, x11, x12, x13, x14, x15, x16, x17, k0, k1 =>
    cond (decide (x2.int.toNat < x12.rows.length))
    (cond (decide (x3.int < (((x12.rows.getD x2.int.toNat []).getD 4 dflt).rows.length : Int)))
    (cond (decide (x2.int.toNat < x12.rows.length))
    (cond (decide ((0 : Int) ≤ x3.int ∧ x3.int < (((x12.rows.getD x2.int.toNat []).getD 4 dflt).rows.length : Int)))
    (spec_l12Says m x4 x5 x6 (T.l x13.rows) (T.l x14.rows) x7 (T.l x12.rows) (T.l x15.rows) (T.l x16.rows) (T.l x17.rows) (T.l [[(T.i 4), x9, (((((x12.rows.getD x2.int.toNat []).getD 4 dflt).rows.getD (Int.toNat x3.int) []).drop 1).getD 0 dflt), (T.l []), (T.b false)]])
    (fun y25 y26 y27 y28 y29 y30 y31 y32 y33 y34 => spec_l12Shard_L0_1 m n (T.i (x0.int.toNat : Int)) (T.i (x1.int.toNat : Int)) (T.i (x2.int.toNat : Int)) (T.i (IntKind.i64.wrap (x3.int + 1))) y30 y31 y32 y33 x8 x9 x10 x11 (T.l y27.rows) (T.l y25.rows) (T.l y26.rows) (T.l y34.rows) (T.l y28.rows) (T.l y29.rows) k0 k1))
    (.bad))
    (.bad))
    (k1 (T.i (x0.int.toNat : Int)) x4 x5 x6 x7 (T.l x13.rows) (T.l x14.rows) (T.l x12.rows) (T.l x15.rows) (T.l x16.rows) (T.l x17.rows)))
    (.bad)
def spec_l12Shard_e0_0 : Pack := ⟨[(0, .ptr [0, 999999] 0 0 0)], [([0, 999999], .box [LI, LI, LI, LA [0, 3] [.sc (.int .i64), .sl [.sc (.int .i64), .sc (.str), .sc (.str)], .sc (.int .i64), .sl [.sc (.int .i64)]], LA [0, 4] [.sc (.int .i64), .sc (.bool)], LI, LA [0, 6] [.sc (.int .i64), .sl [.sc (.int .i64), .sc (.int .i64), .sl [.sc (.int .i64), .sc (.str), .sc (.str)]], .sc (.int .i64), .sl [.sc (.str), .sc (.str)], .sl [.sc (.int .i64), .sc (.int .i64), .sl [.sc (.int .i64), .sc (.str), .sc (.str)]]], LA (KI 4) [.sc (.int .i64), .sc (.int .i64), .sc (.int .i64), .sl [.sc (.int .i64), .sc (.str), .sc (.str)], .sc (.bool)], LA [0, 8] [.sc (.int .i64), .sc (.int .i64), .sc (.int .i64), .sl [.sc (.int .i64), .sc (.str), .sc (.str)], .sc (.bool)], LA [0, 9] [.sc (.int .i64), .sl [.sc (.int .i64), .sc (.str), .sc (.str)]]]), ([0, 3], .row [.sc (.int .i64), .sl [.sc (.int .i64), .sc (.str), .sc (.str)], .sc (.int .i64), .sl [.sc (.int .i64)]] [.F, .F, .F, .F] []), ([0, 4], .row [.sc (.int .i64), .sc (.bool)] [.F, .F] []), ([0, 6], .row [.sc (.int .i64), .sl [.sc (.int .i64), .sc (.int .i64), .sl [.sc (.int .i64), .sc (.str), .sc (.str)]], .sc (.int .i64), .sl [.sc (.str), .sc (.str)], .sl [.sc (.int .i64), .sc (.int .i64), .sl [.sc (.int .i64), .sc (.str), .sc (.str)]]] [.F, .O [.F, .F, .F], .F, .O [.F, .F], .O [.F, .F, .F]] []), ((KI 4), .row [.sc (.int .i64), .sc (.int .i64), .sc (.int .i64), .sl [.sc (.int .i64), .sc (.str), .sc (.str)], .sc (.bool)] [.F, .F, .F, .F, .F] []), ([0, 8], .row [.sc (.int .i64), .sc (.int .i64), .sc (.int .i64), .sl [.sc (.int .i64), .sc (.str), .sc (.str)], .sc (.bool)] [.F, .F, .F, .F, .F] []), ([0, 9], .row [.sc (.int .i64), .sl [.sc (.int .i64), .sc (.str), .sc (.str)]] [.F, .F] [])]⟩
def spec_l12Shard_e0_1 : Pack := ⟨[(0, .ptr [0, 999999] 0 0 0)], [([0, 999999], .box [LI, LI, LI, LA [0, 3] [.sc (.int .i64), .sl [.sc (.int .i64), .sc (.str), .sc (.str)], .sc (.int .i64), .sl [.sc (.int .i64)]], LA [0, 4] [.sc (.int .i64), .sc (.bool)], LI, LA [0, 6] [.sc (.int .i64), .sl [.sc (.int .i64), .sc (.int .i64), .sl [.sc (.int .i64), .sc (.str), .sc (.str)]], .sc (.int .i64), .sl [.sc (.str), .sc (.str)], .sl [.sc (.int .i64), .sc (.int .i64), .sl [.sc (.int .i64), .sc (.str), .sc (.str)]]], LA [0, 7] [.sc (.int .i64), .sc (.int .i64), .sc (.int .i64), .sl [.sc (.int .i64), .sc (.str), .sc (.str)], .sc (.bool)], LA [0, 8] [.sc (.int .i64), .sc (.int .i64), .sc (.int .i64), .sl [.sc (.int .i64), .sc (.str), .sc (.str)], .sc (.bool)], LA [0, 9] [.sc (.int .i64), .sl [.sc (.int .i64), .sc (.str), .sc (.str)]]]), ([0, 3], .row [.sc (.int .i64), .sl [.sc (.int .i64), .sc (.str), .sc (.str)], .sc (.int .i64), .sl [.sc (.int .i64)]] [.F, .F, .F, .F] []), ([0, 4], .row [.sc (.int .i64), .sc (.bool)] [.F, .F] []), ([0, 6], .row [.sc (.int .i64), .sl [.sc (.int .i64), .sc (.int .i64), .sl [.sc (.int .i64), .sc (.str), .sc (.str)]], .sc (.int .i64), .sl [.sc (.str), .sc (.str)], .sl [.sc (.int .i64), .sc (.int .i64), .sl [.sc (.int .i64), .sc (.str), .sc (.str)]]] [.F, .O [.F, .F, .F], .F, .O [.F, .F], .O [.F, .F, .F]] []), ([0, 7], .row [.sc (.int .i64), .sc (.int .i64), .sc (.int .i64), .sl [.sc (.int .i64), .sc (.str), .sc (.str)], .sc (.bool)] [.F, .F, .F, .F, .F] []), ([0, 8], .row [.sc (.int .i64), .sc (.int .i64), .sc (.int .i64), .sl [.sc (.int .i64), .sc (.str), .sc (.str)], .sc (.bool)] [.F, .F, .F, .F, .F] []), ([0, 9], .row [.sc (.int .i64), .sl [.sc (.int .i64), .sc (.str), .sc (.str)]] [.F, .F] [])]⟩
noncomputable def spec_l12Shard : Nat → T → T → T → T → T → T → T → T → T → T → T → T → T → T → (T → T → T → T → T → T → T → T → T → T → T → An) → (T → T → T → T → T → T → T → T → T → T → An) → An
  | 0, _, _, _, _, _, _, _, _, _, _, _, _, _, _, _, _ => .bad
  | m + 1, x0, x1, x2, x3, x4, x5, x6, x7, x8, x9, x10, x11, x12, x13, k0, k1 =>
    cond (decide ((0 : Int) ≤ x11.int ∧ x11.int < (x6.rows.length : Int)))
    (spec_l12Outs m x0 x1 x2 (T.l x3.rows) (T.l x4.rows) x5 (T.l x6.rows) (T.l x7.rows) (T.l x8.rows) (T.l x9.rows) x11
    (fun y0 y1 y2 y3 y4 y5 y6 y7 => cond (x10.int == 5)
    (cond (decide ((Int.toNat x11.int) < y4.rows.length))
    (cond (decide ((Int.toNat x11.int) < y4.rows.length))
    (spec_l12Says m x0 x1 x2 (T.l y2.rows) (T.l y3.rows) x5 (T.l (y4.rows.set (Int.toNat x11.int) ((y4.rows.getD (Int.toNat x11.int) []).set 2 (T.i (((y4.rows.getD (Int.toNat x11.int) []).getD 1 dflt).rows.length : Int))))) (T.l y5.rows) (T.l y1.rows) (T.l y7.rows) (T.l y0.rows)
    (fun y8 y9 y10 y11 y12 y13 y14 y15 y16 y17 => k0 (T.l y6.rows) y13 y14 y15 (T.l y8.rows) (T.l y9.rows) y16 (T.l y10.rows) (T.l y17.rows) (T.l y11.rows) (T.l y12.rows)))
    (.bad))
    (.bad))
    (cond (x10.int == 9)
    (cond (decide ((Int.toNat x11.int) < y4.rows.length))
    (spec_l9Crash m ((y4.rows.getD (Int.toNat x11.int) []).headD dflt) (T.l ((y4.rows.getD (Int.toNat x11.int) []).tail.headD dflt).rows) ((y4.rows.getD (Int.toNat x11.int) []).tail.tail.headD dflt) (T.l ((y4.rows.getD (Int.toNat x11.int) []).tail.tail.tail.headD dflt).rows) (T.l ((y4.rows.getD (Int.toNat x11.int) []).tail.tail.tail.tail.headD dflt).rows) x12
    (fun y18 y19 y20 y21 y22 y23 y24 => k0 (T.l y6.rows) x0 x1 x2 (T.l y2.rows) (T.l y3.rows) x5 (T.l (y4.rows.set (Int.toNat x11.int) [y20, (T.l y21.rows), y22, (T.l y23.rows), (T.l y24.rows)])) (T.l y5.rows) (T.l y1.rows) (T.l y7.rows)))
    (.bad))
    (cond (x10.int == 8)
    (spec_l12Shard_L0_0 m m (T.i 0) (T.i 0) (T.i ((Int.toNat x11.int) : Int)) (T.i 0) x0 x1 x2 x5 x10 x11 x12 (T.l x13.rows) (T.l y4.rows) (T.l y2.rows) (T.l y3.rows) (T.l y5.rows) (T.l y6.rows) (T.l y7.rows)
    (fun y45 y46 y47 y48 y49 y50 y51 y52 y53 y54 y55 => k1 y46 y47 y48 (T.l y50.rows) (T.l y51.rows) y49 (T.l y52.rows) (T.l y53.rows) (T.l y54.rows) (T.l y55.rows))
    (fun y56 y57 y58 y59 y60 y61 y62 y63 y64 y65 y66 => k1 y57 y58 y59 (T.l y61.rows) (T.l y62.rows) y60 (T.l y63.rows) (T.l y64.rows) (T.l y65.rows) (T.l y66.rows)))
    (k1 x0 x1 x2 (T.l y2.rows) (T.l y3.rows) x5 (T.l y4.rows) (T.l y5.rows) (T.l y6.rows) (T.l y7.rows))))))
    (.bad)
noncomputable def spec_l12Shard_f : Fs := ⟨34, [.bx [AI, AI, AI, .own [.sc (.int .i64), .sl [.sc (.int .i64), .sc (.str), .sc (.str)], .sc (.int .i64), .sl [.sc (.int .i64)]] [.F, .F, .F, .F] [], .own [.sc (.int .i64), .sc (.bool)] [.F, .F] [], AI, .own [.sc (.int .i64), .sl [.sc (.int .i64), .sc (.int .i64), .sl [.sc (.int .i64), .sc (.str), .sc (.str)]], .sc (.int .i64), .sl [.sc (.str), .sc (.str)], .sl [.sc (.int .i64), .sc (.int .i64), .sl [.sc (.int .i64), .sc (.str), .sc (.str)]]] [.F, .O [.F, .F, .F], .F, .O [.F, .F], .O [.F, .F, .F]] [], .own [.sc (.int .i64), .sc (.int .i64), .sc (.int .i64), .sl [.sc (.int .i64), .sc (.str), .sc (.str)], .sc (.bool)] [.F, .F, .F, .F, .F] [], .own [.sc (.int .i64), .sc (.int .i64), .sc (.int .i64), .sl [.sc (.int .i64), .sc (.str), .sc (.str)], .sc (.bool)] [.F, .F, .F, .F, .F] [], .own [.sc (.int .i64), .sl [.sc (.int .i64), .sc (.str), .sc (.str)]] [.F, .F] []], .agg [AI, AI, AI, .dz [.sc (.int .i64), .sc (.str), .sc (.str)] []]], fun m vs k => ap 14 (spec_l12Shard m) vs (lm 11 fun z => k (fRet ⟨[], [[none, none, none, none, none, none, none, none, some ([.sc (.int .i64), .sc (.int .i64), .sc (.int .i64), .sl [.sc (.int .i64), .sc (.str), .sc (.str)], .sc (.bool)], [.F, .F, .F, .F, .F], []), none], [none, none, none, none]], [some [RI, RI, RI, .own (KR 1000 3) [.sc (.int .i64), .sl [.sc (.int .i64), .sc (.str), .sc (.str)], .sc (.int .i64), .sl [.sc (.int .i64)]] [.F, .F, .F, .F] [], .own (KR 1000 4) [.sc (.int .i64), .sc (.bool)] [.F, .F] [], RI, .own (KR 1000 6) [.sc (.int .i64), .sl [.sc (.int .i64), .sc (.int .i64), .sl [.sc (.int .i64), .sc (.str), .sc (.str)]], .sc (.int .i64), .sl [.sc (.str), .sc (.str)], .sl [.sc (.int .i64), .sc (.int .i64), .sl [.sc (.int .i64), .sc (.str), .sc (.str)]]] [.F, .O [.F, .F, .F], .F, .O [.F, .F], .O [.F, .F, .F]] [], .own (KR 1000 7) [.sc (.int .i64), .sc (.int .i64), .sc (.int .i64), .sl [.sc (.int .i64), .sc (.str), .sc (.str)], .sc (.bool)] [.F, .F, .F, .F, .F] [], .own (KR 1000 8) [.sc (.int .i64), .sc (.int .i64), .sc (.int .i64), .sl [.sc (.int .i64), .sc (.str), .sc (.str)], .sc (.bool)] [.F, .F, .F, .F, .F] [], .own (KR 1000 9) [.sc (.int .i64), .sl [.sc (.int .i64), .sc (.str), .sc (.str)]] [.F, .F] []], none]⟩ z)) (lm 10 fun z => k (fRet ⟨[], [[none, none, none, none, none, none, none, none, none, none], [none, none, none, none]], [some [RI, RI, RI, .own (KR 1000 3) [.sc (.int .i64), .sl [.sc (.int .i64), .sc (.str), .sc (.str)], .sc (.int .i64), .sl [.sc (.int .i64)]] [.F, .F, .F, .F] [], .own (KR 1000 4) [.sc (.int .i64), .sc (.bool)] [.F, .F] [], RI, .own (KR 1000 6) [.sc (.int .i64), .sl [.sc (.int .i64), .sc (.int .i64), .sl [.sc (.int .i64), .sc (.str), .sc (.str)]], .sc (.int .i64), .sl [.sc (.str), .sc (.str)], .sl [.sc (.int .i64), .sc (.int .i64), .sl [.sc (.int .i64), .sc (.str), .sc (.str)]]] [.F, .O [.F, .F, .F], .F, .O [.F, .F], .O [.F, .F, .F]] [], .own (KR 1000 7) [.sc (.int .i64), .sc (.int .i64), .sc (.int .i64), .sl [.sc (.int .i64), .sc (.str), .sc (.str)], .sc (.bool)] [.F, .F, .F, .F, .F] [], .own (KR 1000 8) [.sc (.int .i64), .sc (.int .i64), .sc (.int .i64), .sl [.sc (.int .i64), .sc (.str), .sc (.str)], .sc (.bool)] [.F, .F, .F, .F, .F] [], .own (KR 1000 9) [.sc (.int .i64), .sl [.sc (.int .i64), .sc (.str), .sc (.str)]] [.F, .F] []], none]⟩ z))⟩
noncomputable def spec_l12Shard_l : List Ls := [⟨[0, 1, 0, 1, 1, 1, 1, 1, 0, 1, 1, 1, 1], ⟨[(0, .ptr [0, 999999] 0 0 0), (3, EP 1), (4, .ptr [0, 6] 0 0 0), (7, .one (LI))], [([0, 999999], .box [LI, LI, LI, LA [0, 3] [.sc (.int .i64), .sl [.sc (.int .i64), .sc (.str), .sc (.str)], .sc (.int .i64), .sl [.sc (.int .i64)]], LA [0, 4] [.sc (.int .i64), .sc (.bool)], LI, LA [0, 6] [.sc (.int .i64), .sl [.sc (.int .i64), .sc (.int .i64), .sl [.sc (.int .i64), .sc (.str), .sc (.str)]], .sc (.int .i64), .sl [.sc (.str), .sc (.str)], .sl [.sc (.int .i64), .sc (.int .i64), .sl [.sc (.int .i64), .sc (.str), .sc (.str)]]], LA (KI 5) [.sc (.int .i64), .sc (.int .i64), .sc (.int .i64), .sl [.sc (.int .i64), .sc (.str), .sc (.str)], .sc (.bool)], LA [0, 8] [.sc (.int .i64), .sc (.int .i64), .sc (.int .i64), .sl [.sc (.int .i64), .sc (.str), .sc (.str)], .sc (.bool)], LA [0, 9] [.sc (.int .i64), .sl [.sc (.int .i64), .sc (.str), .sc (.str)]]]), ((KI 1), .box [LI, LI, LI, LD [.sc (.int .i64), .sc (.str), .sc (.str)]]), ([0, 6], .row [.sc (.int .i64), .sl [.sc (.int .i64), .sc (.int .i64), .sl [.sc (.int .i64), .sc (.str), .sc (.str)]], .sc (.int .i64), .sl [.sc (.str), .sc (.str)], .sl [.sc (.int .i64), .sc (.int .i64), .sl [.sc (.int .i64), .sc (.str), .sc (.str)]]] [.F, .O [.F, .F, .F], .F, .O [.F, .F], .O [.F, .F, .F]] []), ([0, 3], .row [.sc (.int .i64), .sl [.sc (.int .i64), .sc (.str), .sc (.str)], .sc (.int .i64), .sl [.sc (.int .i64)]] [.F, .F, .F, .F] []), ([0, 4], .row [.sc (.int .i64), .sc (.bool)] [.F, .F] []), ((KI 5), .row [.sc (.int .i64), .sc (.int .i64), .sc (.int .i64), .sl [.sc (.int .i64), .sc (.str), .sc (.str)], .sc (.bool)] [.F, .F, .F, .F, .F] []), ([0, 8], .row [.sc (.int .i64), .sc (.int .i64), .sc (.int .i64), .sl [.sc (.int .i64), .sc (.str), .sc (.str)], .sc (.bool)] [.F, .F, .F, .F, .F] []), ([0, 9], .row [.sc (.int .i64), .sl [.sc (.int .i64), .sc (.str), .sc (.str)]] [.F, .F] []), ([4000000], .gone)]⟩, fun m n vs k => ap 18 (spec_l12Shard_L0_1 m n) vs (lm 11 fun z => k (.exit 1) (fPack spec_l12Shard_e0_0 z)) (lm 11 fun z => k (.exit 1) (fPack spec_l12Shard_e0_1 z))⟩, ⟨[0, 1, 0, 1, 1, 1, 1, 1, 0, 1, 1, 1, 1], ⟨[(0, .ptr [0, 999999] 0 0 0), (3, EP 1), (4, .ptr [0, 6] 0 0 0), (7, .one (LI))], [([0, 999999], .box [LI, LI, LI, LA [0, 3] [.sc (.int .i64), .sl [.sc (.int .i64), .sc (.str), .sc (.str)], .sc (.int .i64), .sl [.sc (.int .i64)]], LA [0, 4] [.sc (.int .i64), .sc (.bool)], LI, LA [0, 6] [.sc (.int .i64), .sl [.sc (.int .i64), .sc (.int .i64), .sl [.sc (.int .i64), .sc (.str), .sc (.str)]], .sc (.int .i64), .sl [.sc (.str), .sc (.str)], .sl [.sc (.int .i64), .sc (.int .i64), .sl [.sc (.int .i64), .sc (.str), .sc (.str)]]], LA [0, 7] [.sc (.int .i64), .sc (.int .i64), .sc (.int .i64), .sl [.sc (.int .i64), .sc (.str), .sc (.str)], .sc (.bool)], LA [0, 8] [.sc (.int .i64), .sc (.int .i64), .sc (.int .i64), .sl [.sc (.int .i64), .sc (.str), .sc (.str)], .sc (.bool)], LA [0, 9] [.sc (.int .i64), .sl [.sc (.int .i64), .sc (.str), .sc (.str)]]]), ((KI 1), .box [LI, LI, LI, LD [.sc (.int .i64), .sc (.str), .sc (.str)]]), ([0, 6], .row [.sc (.int .i64), .sl [.sc (.int .i64), .sc (.int .i64), .sl [.sc (.int .i64), .sc (.str), .sc (.str)]], .sc (.int .i64), .sl [.sc (.str), .sc (.str)], .sl [.sc (.int .i64), .sc (.int .i64), .sl [.sc (.int .i64), .sc (.str), .sc (.str)]]] [.F, .O [.F, .F, .F], .F, .O [.F, .F], .O [.F, .F, .F]] []), ([0, 3], .row [.sc (.int .i64), .sl [.sc (.int .i64), .sc (.str), .sc (.str)], .sc (.int .i64), .sl [.sc (.int .i64)]] [.F, .F, .F, .F] []), ([0, 4], .row [.sc (.int .i64), .sc (.bool)] [.F, .F] []), ([0, 7], .row [.sc (.int .i64), .sc (.int .i64), .sc (.int .i64), .sl [.sc (.int .i64), .sc (.str), .sc (.str)], .sc (.bool)] [.F, .F, .F, .F, .F] []), ([0, 8], .row [.sc (.int .i64), .sc (.int .i64), .sc (.int .i64), .sl [.sc (.int .i64), .sc (.str), .sc (.str)], .sc (.bool)] [.F, .F, .F, .F, .F] []), ([0, 9], .row [.sc (.int .i64), .sl [.sc (.int .i64), .sc (.str), .sc (.str)]] [.F, .F] []), ([4000000], .gone)]⟩, fun m n vs k => ap 18 (spec_l12Shard_L0_0 m n) vs (lm 11 fun z => k (.exit 1) (fPack spec_l12Shard_e0_0 z)) (lm 11 fun z => k (.exit 1) (fPack spec_l12Shard_e0_1 z))⟩]
noncomputable def spec_l12Shard_t : List Fs := spec_l12Shard_f :: spec_l9Crash_t
theorem spec_l12Shard_g : FGood CX prims spec_l12Shard_t ∧ FEqn CX prims spec_l12Shard_f := fnG spec_l9Crash_g.1 spec_l12Shard_f Try.f34 ⟨34, 2, 78, 1⟩ spec_l12Shard_l (fun _ _ => rfl) (fun _ _ _ => by kernel_rfl) ⟨fun _ _ _ => rfl, fun _ _ _ => rfl, trivial⟩ ⟨fun _ _ _ _ _ _ => by kernel_rfl, fun _ _ _ _ _ _ => by kernel_rfl, trivial⟩ (fun _ _ _ _ _ => by kernel_rfl)

/-! loop.example/g00244/spec.l11Tells -/
noncomputable def spec_l11Tells_L0_0 (m : Nat) : Nat → T → T → T → T → T → T → T → T → T → T → (T → An) → An
  | 0, _, _, _, _, _, _, _, _, _, _, _ => .bad
  | n + 1, x0, x1, x2, x3, x4, x5, x6, x7, x8, x9, k0 =>
    jn (fun (j5 : An) =>
    cond ((decide (x4.int < (x3.rows.length : Int))) == true)
    (cond x2.bool
    (j5)
    (k0 (T.l x9.rows)))
    (k0 (T.l x9.rows)))
    (cond (decide ((0 : Int) ≤ x4.int ∧ x4.int < (x3.rows.length : Int)))
    (cond (decide ((x9.rows.length + 1) * 5 ≤ maxRow))
    (spec_l11Tells_L0_0 m n (T.i (x0.int.toNat : Int)) x1 x2 x3 (T.i (IntKind.i64.wrap (x4.int + 1))) x5 x6 x7 x8 (T.l (x9.rows ++ [[(T.i 3), ((x3.rows.getD (Int.toNat x4.int) []).getD 0 dflt), x5, (T.l []), x1]])) k0)
    (.bad))
    (.bad))
noncomputable def spec_l11Tells : Nat → T → T → T → T → T → T → T → T → T → T → (T → An) → An
  | 0, _, _, _, _, _, _, _, _, _, _, _ => .bad
  | m + 1, x0, x1, x2, x3, x4, x5, x6, x7, x8, x9, k0 =>
    spec_l11Answer m x0 x1 x2 (T.l x3.rows) (T.l x4.rows) x5 x6
    (fun y0 y1 => cond (x8.int == 1)
    (spec_l11Holds m x0 x1 x2 (T.l x3.rows) (T.l x4.rows) x5 x6 (T.l x7.rows) x8 (T.l x9.rows)
    (fun y2 => k0 (T.l y2.rows)))
    (spec_ShardsOf m (T.l x7.rows) x0
    (fun y3 => spec_l11Tells_L0_0 m m (T.i 0) y0 y1 (T.l y3.rows) (T.i 0) x6 (T.l x7.rows) x8 (T.l x9.rows) (T.l [])
    (fun y6 => k0 (T.l y6.rows)))))
noncomputable def spec_l11Tells_f : Fs := ⟨49, [.agg [AI, AI, AI, .dz [.sc (.int .i64), .sl [.sc (.int .i64), .sc (.str), .sc (.str)], .sc (.int .i64), .sl [.sc (.int .i64)]] [], .dz [.sc (.int .i64), .sc (.bool)] [], AI], .agg [AI, .dz [.sc (.int .i64), .sc (.str), .sc (.str)] [], AI, .dz [.sc (.int .i64)] []]], fun m vs k => ap 10 (spec_l11Tells m) vs (lm 1 fun z => k (fRet ⟨[.one (.own (KR 0 0) [.sc (.int .i64), .sc (.int .i64), .sc (.int .i64), .sl [.sc (.int .i64), .sc (.str), .sc (.str)], .sc (.bool)] [.F, .F, .F, .F, .F] [])], [[none, none, none, none, none, none], [none, none, none, none]], [none, none]⟩ z))⟩
noncomputable def spec_l11Tells_l : List Ls := [⟨[0, 1, 0, 1, 1, 1, 1, 1], ⟨[(3, EP 0), (5, .one (LA (KI 1) [.sc (.int .i64), .sc (.int .i64), .sc (.int .i64), .sl [.sc (.int .i64), .sc (.str), .sc (.str)], .sc (.bool)])), (6, .one (LB)), (7, .one (LB)), (8, .one (LZ [.sc (.int .i64)])), (9, .one (LI))], [((KI 0), .box [LI, LD [.sc (.int .i64), .sc (.str), .sc (.str)], LI, LD [.sc (.int .i64)]]), ((KI 1), .row [.sc (.int .i64), .sc (.int .i64), .sc (.int .i64), .sl [.sc (.int .i64), .sc (.str), .sc (.str)], .sc (.bool)] [.F, .F, .F, .F, .F] []), ([4000000], .gone)]⟩, fun m n vs k => ap 10 (spec_l11Tells_L0_0 m n) vs (lm 1 fun z => k (.exit 0) (fPack ⟨[(5, .one (LA (KI 0) [.sc (.int .i64), .sc (.int .i64), .sc (.int .i64), .sl [.sc (.int .i64), .sc (.str), .sc (.str)], .sc (.bool)]))], [((KI 0), .row [.sc (.int .i64), .sc (.int .i64), .sc (.int .i64), .sl [.sc (.int .i64), .sc (.str), .sc (.str)], .sc (.bool)] [.F, .F, .F, .F, .F] [])]⟩ z))⟩]
noncomputable def spec_l11Tells_t : List Fs := spec_l11Tells_f :: spec_l12Shard_t
theorem spec_l11Tells_g : FGood CX prims spec_l11Tells_t ∧ FEqn CX prims spec_l11Tells_f := fnG spec_l12Shard_g.1 spec_l11Tells_f Try.f49 ⟨49, 2, 50, 16⟩ spec_l11Tells_l (fun _ _ => rfl) (fun _ _ _ => by kernel_rfl) ⟨fun _ _ _ => rfl, trivial⟩ ⟨fun _ _ _ _ _ _ => by kernel_rfl, trivial⟩ (fun _ _ _ _ _ => by kernel_rfl)

/-! loop.example/g00244/spec.l11TellAll -/
noncomputable def spec_l11TellAll_L0_0 (m : Nat) : Nat → T → T → T → T → T → T → T → T → T → (T → An) → An
  | 0, _, _, _, _, _, _, _, _, _, _ => .bad
  | n + 1, x0, x1, x2, x3, x4, x5, x6, x7, x8, k0 =>
    cond (decide (x1.int < (x5.rows.length : Int)))
    (cond (decide ((0 : Int) ≤ x1.int ∧ x1.int < (x5.rows.length : Int)))
    (spec_l11Tells m x2 x3 x4 (T.l x5.rows) (T.l x6.rows) x7 ((x5.rows.getD (Int.toNat x1.int) []).getD 0 dflt) (T.l ((x5.rows.getD (Int.toNat x1.int) []).getD 1 dflt).rows) ((x5.rows.getD (Int.toNat x1.int) []).getD 2 dflt) (T.l ((x5.rows.getD (Int.toNat x1.int) []).getD 3 dflt).rows)
    (fun y0 => cond (decide ((x8.rows.length + y0.rows.length) * 5 ≤ maxRow))
    (spec_l11TellAll_L0_0 m n (T.i (x0.int.toNat : Int)) (T.i (IntKind.i64.wrap (x1.int + 1))) x2 x3 x4 x5 x6 x7 (T.l (x8.rows ++ y0.rows)) k0)
    (.bad)))
    (.bad))
    (k0 (T.l x8.rows))
noncomputable def spec_l11TellAll : Nat → T → T → T → T → T → T → (T → An) → An
  | 0, _, _, _, _, _, _, _ => .bad
  | m + 1, x0, x1, x2, x3, x4, x5, k0 =>
    spec_l11TellAll_L0_0 m m (T.i 0) (T.i 0) x0 x1 x2 (T.l x3.rows) (T.l x4.rows) x5 (T.l [])
    (fun y1 => k0 (T.l y1.rows))
noncomputable def spec_l11TellAll_f : Fs := ⟨36, [.agg [AI, AI, AI, .dz [.sc (.int .i64), .sl [.sc (.int .i64), .sc (.str), .sc (.str)], .sc (.int .i64), .sl [.sc (.int .i64)]] [], .dz [.sc (.int .i64), .sc (.bool)] [], AI]], fun m vs k => ap 6 (spec_l11TellAll m) vs (lm 1 fun z => k (fRet ⟨[.one (.own (KR 0 0) [.sc (.int .i64), .sc (.int .i64), .sc (.int .i64), .sl [.sc (.int .i64), .sc (.str), .sc (.str)], .sc (.bool)] [.F, .F, .F, .F, .F] [])], [[none, none, none, none, none, none]], [none]⟩ z))⟩
noncomputable def spec_l11TellAll_l : List Ls := [⟨[0, 1, 0, 1, 1], ⟨[(1, EP 0), (3, .one (LA (KI 1) [.sc (.int .i64), .sc (.int .i64), .sc (.int .i64), .sl [.sc (.int .i64), .sc (.str), .sc (.str)], .sc (.bool)])), (4, .one (LI))], [((KI 0), .box [LI, LI, LI, LD [.sc (.int .i64), .sl [.sc (.int .i64), .sc (.str), .sc (.str)], .sc (.int .i64), .sl [.sc (.int .i64)]], LD [.sc (.int .i64), .sc (.bool)], LI]), ((KI 1), .row [.sc (.int .i64), .sc (.int .i64), .sc (.int .i64), .sl [.sc (.int .i64), .sc (.str), .sc (.str)], .sc (.bool)] [.F, .F, .F, .F, .F] []), ([4000000], .gone)]⟩, fun m n vs k => ap 9 (spec_l11TellAll_L0_0 m n) vs (lm 1 fun z => k (.exit 0) (fPack ⟨[(3, .one (LA (KI 0) [.sc (.int .i64), .sc (.int .i64), .sc (.int .i64), .sl [.sc (.int .i64), .sc (.str), .sc (.str)], .sc (.bool)]))], [((KI 0), .row [.sc (.int .i64), .sc (.int .i64), .sc (.int .i64), .sl [.sc (.int .i64), .sc (.str), .sc (.str)], .sc (.bool)] [.F, .F, .F, .F, .F] [])]⟩ z))⟩]
noncomputable def spec_l11TellAll_t : List Fs := spec_l11TellAll_f :: spec_l11Tells_t
theorem spec_l11TellAll_g : FGood CX prims spec_l11TellAll_t ∧ FEqn CX prims spec_l11TellAll_f := fnG spec_l11Tells_g.1 spec_l11TellAll_f Try.f36 ⟨36, 1, 23, 4⟩ spec_l11TellAll_l (fun _ _ => rfl) (fun _ _ _ => by kernel_rfl) ⟨fun _ _ _ => rfl, trivial⟩ ⟨fun _ _ _ _ _ _ => by kernel_rfl, trivial⟩ (fun _ _ _ _ _ => by kernel_rfl)

/-! loop.example/g00244/spec.l11Crash -/
noncomputable def spec_l11Crash : Nat → T → T → T → T → T → T → T → (T → T → T → T → T → T → T → An) → (T → T → T → T → T → T → T → T → An) → An
  | 0, _, _, _, _, _, _, _, _, _ => .bad
  | m + 1, x0, x1, x2, x3, x4, x5, x6, k0, k1 =>
    cond (x1.int == 900)
    (k0 (T.b false) x0 x1 x2 (T.l x3.rows) (T.l x4.rows) x5)
    (jn (fun (j3 : T → An) =>
    cond (decide (x6.int < 0))
    (j3 (T.i 0))
    (j3 x6))
    (fun y0 => jn (fun (j2 : T → An) =>
    cond (decide (y0.int > (IntKind.i64.wrap ((x4.rows.length : Int) - x5.int))))
    (j2 (T.i (IntKind.i64.wrap ((x4.rows.length : Int) - x5.int))))
    (j2 y0))
    (fun y1 => cond (decide ((0 : Int) ≤ (IntKind.i64.wrap (x5.int + y1.int)) ∧ (IntKind.i64.wrap (x5.int + y1.int)) ≤ (x4.rows.length : Int)))
    (cond (decide ((0 : Int) ≤ 0 ∧ 0 ≤ (IntKind.i64.wrap (x5.int + y1.int))))
    (k1 (T.b true) (T.l x3.rows) x0 (T.i (IntKind.i64.wrap (x1.int + 1))) (T.i 0) (T.l []) (T.l (x4.rows.take (Int.toNat (IntKind.i64.wrap (x5.int + y1.int))))) (T.i ((x4.rows.take (Int.toNat (IntKind.i64.wrap (x5.int + y1.int)))).length : Int)))
    (.bad))
    (.bad))))
noncomputable def spec_l11Crash_f : Fs := ⟨37, [.bx [AI, AI, AI, .own [.sc (.int .i64), .sl [.sc (.int .i64), .sc (.str), .sc (.str)], .sc (.int .i64), .sl [.sc (.int .i64)]] [.F, .F, .F, .F] [], .own [.sc (.int .i64), .sc (.bool)] [.F, .F] [], AI], .one (AI)], fun m vs k => ap 7 (spec_l11Crash m) vs (lm 7 fun z => k (fRet ⟨[.one (RB)], [[none, none, none, none, none, none], [none]], [some [RI, RI, RI, .own (KR 1000 3) [.sc (.int .i64), .sl [.sc (.int .i64), .sc (.str), .sc (.str)], .sc (.int .i64), .sl [.sc (.int .i64)]] [.F, .F, .F, .F] [], .own (KR 1000 4) [.sc (.int .i64), .sc (.bool)] [.F, .F] [], RI], none]⟩ z)) (lm 8 fun z => k (fRet ⟨[.one (RB)], [[none, none, none, some ([.sc (.int .i64), .sl [.sc (.int .i64), .sc (.str), .sc (.str)], .sc (.int .i64), .sl [.sc (.int .i64)]], [.F, .F, .F, .F], []), none, none], [none]], [some [RI, RI, RI, .own (KR 1000 3) [.sc (.int .i64), .sl [.sc (.int .i64), .sc (.str), .sc (.str)], .sc (.int .i64), .sl [.sc (.int .i64)]] [.F, .F, .F, .F] [], .own (KR 1000 4) [.sc (.int .i64), .sc (.bool)] [.F, .F] [], RI], none]⟩ z))⟩
noncomputable def spec_l11Crash_t : List Fs := spec_l11Crash_f :: spec_l11TellAll_t
theorem spec_l11Crash_g : FGood CX prims spec_l11Crash_t ∧ FEqn CX prims spec_l11Crash_f := fnG spec_l11TellAll_g.1 spec_l11Crash_f Try.f37 ⟨37, 2, 71, 17⟩ [] (fun _ _ => rfl) (fun _ _ _ => by kernel_rfl) trivial trivial (fun _ _ _ _ _ => by kernel_rfl)

/-! loop.example/g00244/spec.l12Do -/
noncomputable def spec_l12Do : Nat → T → T → T → T → T → T → T → T → T → T → T → T → T → T → (T → T → T → T → T → T → T → T → T → T → T → An) → (T → T → T → T → T → T → T → T → T → T → T → T → An) → (T → T → T → T → T → T → T → T → T → T → T → T → An) → An
  | 0, _, _, _, _, _, _, _, _, _, _, _, _, _, _, _, _, _ => .bad
  | m + 1, x0, x1, x2, x3, x4, x5, x6, x7, x8, x9, x10, x11, x12, x13, k0, k1, k2 =>
    cond (x10.int == 1)
    (spec_l12Begin m x0 x1 x2 (T.l x3.rows) (T.l x4.rows) x5 (T.l x6.rows) (T.l x7.rows) (T.l x8.rows) (T.l x9.rows) (T.l x13.rows)
    (fun y0 y1 y2 y3 y4 y5 y6 y7 y8 y9 y10 => k0 y0 y1 y2 y3 (T.l y4.rows) (T.l y5.rows) y6 (T.l y7.rows) (T.l y8.rows) (T.l y9.rows) (T.l y10.rows)))
    (jn (fun (j90 : T → An) =>
    cond (x10.int == 2)
    (j90 (T.b true))
    (cond (x10.int == 3)
    (j90 (T.b true))
    (j90 (T.b (x10.int == 4)))))
    (fun y11 => cond y11.bool
    (spec_l12Net m x0 x1 x2 (T.l x3.rows) (T.l x4.rows) x5 (T.l x6.rows) (T.l x7.rows) (T.l x8.rows) (T.l x9.rows) x10 x11 x12 (T.l x13.rows)
    (fun y12 y13 y14 y15 y16 y17 y18 y19 y20 y21 y22 => k0 y12 y13 y14 y15 (T.l y16.rows) (T.l y17.rows) y18 (T.l y19.rows) (T.l y20.rows) (T.l y21.rows) (T.l y22.rows)))
    (jn (fun (j89 : T → An) =>
    cond (x10.int == 5)
    (j89 (T.b true))
    (cond (x10.int == 8)
    (j89 (T.b true))
    (j89 (T.b (x10.int == 9)))))
    (fun y23 => cond y23.bool
    (spec_l1In m x11 (T.i 0) (T.i (IntKind.i64.wrap ((x6.rows.length : Int) - 1)))
    (fun y24 => cond (!y24.bool)
    (k0 (T.b false) x0 x1 x2 (T.l x3.rows) (T.l x4.rows) x5 (T.l x6.rows) (T.l x7.rows) (T.l x8.rows) (T.l x9.rows))
    (spec_l12Shard m x0 x1 x2 (T.l x3.rows) (T.l x4.rows) x5 (T.l x6.rows) (T.l x7.rows) (T.l x8.rows) (T.l x9.rows) x10 x11 x12 (T.l x13.rows)
    (fun y25 y26 y27 y28 y29 y30 y31 y32 y33 y34 y35 => k1 (T.b true) (T.l y25.rows) y26 y27 y28 (T.l y29.rows) (T.l y30.rows) y31 (T.l y32.rows) (T.l y33.rows) (T.l y34.rows) (T.l y35.rows))
    (fun y36 y37 y38 y39 y40 y41 y42 y43 y44 y45 => k0 (T.b true) y36 y37 y38 (T.l y39.rows) (T.l y40.rows) y41 (T.l y42.rows) (T.l y43.rows) (T.l y44.rows) (T.l y45.rows)))))
    (cond (x10.int == 6)
    (k0 (T.b true) x0 x1 x2 (T.l x3.rows) (T.l x4.rows) (T.i (x4.rows.length : Int)) (T.l x6.rows) (T.l x7.rows) (T.l x8.rows) (T.l x9.rows))
    (cond (x10.int == 7)
    (spec_l11TellAll m x0 x1 x2 (T.l x3.rows) (T.l x4.rows) x5
    (fun y56 => spec_l12Says m x0 x1 x2 (T.l x3.rows) (T.l x4.rows) x5 (T.l x6.rows) (T.l x7.rows) (T.l x8.rows) (T.l x9.rows) (T.l y56.rows)
    (fun y57 y58 y59 y60 y61 y62 y63 y64 y65 y66 => k0 (T.b true) y62 y63 y64 (T.l y57.rows) (T.l y58.rows) y65 (T.l y59.rows) (T.l y66.rows) (T.l y60.rows) (T.l y61.rows))))
    (cond (x10.int == 10)
    (spec_l11Crash m x0 x1 x2 (T.l x3.rows) (T.l x4.rows) x5 x12
    (fun y67 y68 y69 y70 y71 y72 y73 => k0 y67 y68 y69 y70 (T.l y71.rows) (T.l y72.rows) y73 (T.l x6.rows) (T.l x7.rows) (T.l x8.rows) (T.l x9.rows))
    (fun y74 y75 y76 y77 y78 y79 y80 y81 => k2 y74 (T.l y75.rows) y76 y77 y78 (T.l y79.rows) (T.l y80.rows) y81 (T.l x6.rows) (T.l x7.rows) (T.l x8.rows) (T.l x9.rows)))
    (k0 (T.b false) x0 x1 x2 (T.l x3.rows) (T.l x4.rows) x5 (T.l x6.rows) (T.l x7.rows) (T.l x8.rows) (T.l x9.rows)))))))))
noncomputable def spec_l12Do_f : Fs := ⟨22, [.bx [AI, AI, AI, .own [.sc (.int .i64), .sl [.sc (.int .i64), .sc (.str), .sc (.str)], .sc (.int .i64), .sl [.sc (.int .i64)]] [.F, .F, .F, .F] [], .own [.sc (.int .i64), .sc (.bool)] [.F, .F] [], AI, .own [.sc (.int .i64), .sl [.sc (.int .i64), .sc (.int .i64), .sl [.sc (.int .i64), .sc (.str), .sc (.str)]], .sc (.int .i64), .sl [.sc (.str), .sc (.str)], .sl [.sc (.int .i64), .sc (.int .i64), .sl [.sc (.int .i64), .sc (.str), .sc (.str)]]] [.F, .O [.F, .F, .F], .F, .O [.F, .F], .O [.F, .F, .F]] [], .own [.sc (.int .i64), .sc (.int .i64), .sc (.int .i64), .sl [.sc (.int .i64), .sc (.str), .sc (.str)], .sc (.bool)] [.F, .F, .F, .F, .F] [], .own [.sc (.int .i64), .sc (.int .i64), .sc (.int .i64), .sl [.sc (.int .i64), .sc (.str), .sc (.str)], .sc (.bool)] [.F, .F, .F, .F, .F] [], .own [.sc (.int .i64), .sl [.sc (.int .i64), .sc (.str), .sc (.str)]] [.F, .F] []], .agg [AI, AI, AI, .dz [.sc (.int .i64), .sc (.str), .sc (.str)] []]], fun m vs k => ap 14 (spec_l12Do m) vs (lm 11 fun z => k (fRet ⟨[.one (RB)], [[none, none, none, none, none, none, none, none, none, none], [none, none, none, none]], [some [RI, RI, RI, .own (KR 1000 3) [.sc (.int .i64), .sl [.sc (.int .i64), .sc (.str), .sc (.str)], .sc (.int .i64), .sl [.sc (.int .i64)]] [.F, .F, .F, .F] [], .own (KR 1000 4) [.sc (.int .i64), .sc (.bool)] [.F, .F] [], RI, .own (KR 1000 6) [.sc (.int .i64), .sl [.sc (.int .i64), .sc (.int .i64), .sl [.sc (.int .i64), .sc (.str), .sc (.str)]], .sc (.int .i64), .sl [.sc (.str), .sc (.str)], .sl [.sc (.int .i64), .sc (.int .i64), .sl [.sc (.int .i64), .sc (.str), .sc (.str)]]] [.F, .O [.F, .F, .F], .F, .O [.F, .F], .O [.F, .F, .F]] [], .own (KR 1000 7) [.sc (.int .i64), .sc (.int .i64), .sc (.int .i64), .sl [.sc (.int .i64), .sc (.str), .sc (.str)], .sc (.bool)] [.F, .F, .F, .F, .F] [], .own (KR 1000 8) [.sc (.int .i64), .sc (.int .i64), .sc (.int .i64), .sl [.sc (.int .i64), .sc (.str), .sc (.str)], .sc (.bool)] [.F, .F, .F, .F, .F] [], .own (KR 1000 9) [.sc (.int .i64), .sl [.sc (.int .i64), .sc (.str), .sc (.str)]] [.F, .F] []], none]⟩ z)) (lm 12 fun z => k (fRet ⟨[.one (RB)], [[none, none, none, none, none, none, none, none, some ([.sc (.int .i64), .sc (.int .i64), .sc (.int .i64), .sl [.sc (.int .i64), .sc (.str), .sc (.str)], .sc (.bool)], [.F, .F, .F, .F, .F], []), none], [none, none, none, none]], [some [RI, RI, RI, .own (KR 1000 3) [.sc (.int .i64), .sl [.sc (.int .i64), .sc (.str), .sc (.str)], .sc (.int .i64), .sl [.sc (.int .i64)]] [.F, .F, .F, .F] [], .own (KR 1000 4) [.sc (.int .i64), .sc (.bool)] [.F, .F] [], RI, .own (KR 1000 6) [.sc (.int .i64), .sl [.sc (.int .i64), .sc (.int .i64), .sl [.sc (.int .i64), .sc (.str), .sc (.str)]], .sc (.int .i64), .sl [.sc (.str), .sc (.str)], .sl [.sc (.int .i64), .sc (.int .i64), .sl [.sc (.int .i64), .sc (.str), .sc (.str)]]] [.F, .O [.F, .F, .F], .F, .O [.F, .F], .O [.F, .F, .F]] [], .own (KR 1000 7) [.sc (.int .i64), .sc (.int .i64), .sc (.int .i64), .sl [.sc (.int .i64), .sc (.str), .sc (.str)], .sc (.bool)] [.F, .F, .F, .F, .F] [], .own (KR 1000 8) [.sc (.int .i64), .sc (.int .i64), .sc (.int .i64), .sl [.sc (.int .i64), .sc (.str), .sc (.str)], .sc (.bool)] [.F, .F, .F, .F, .F] [], .own (KR 1000 9) [.sc (.int .i64), .sl [.sc (.int .i64), .sc (.str), .sc (.str)]] [.F, .F] []], none]⟩ z)) (lm 12 fun z => k (fRet ⟨[.one (RB)], [[none, none, none, some ([.sc (.int .i64), .sl [.sc (.int .i64), .sc (.str), .sc (.str)], .sc (.int .i64), .sl [.sc (.int .i64)]], [.F, .F, .F, .F], []), none, none, none, none, none, none], [none, none, none, none]], [some [RI, RI, RI, .own (KR 1000 3) [.sc (.int .i64), .sl [.sc (.int .i64), .sc (.str), .sc (.str)], .sc (.int .i64), .sl [.sc (.int .i64)]] [.F, .F, .F, .F] [], .own (KR 1000 4) [.sc (.int .i64), .sc (.bool)] [.F, .F] [], RI, .own (KR 1000 6) [.sc (.int .i64), .sl [.sc (.int .i64), .sc (.int .i64), .sl [.sc (.int .i64), .sc (.str), .sc (.str)]], .sc (.int .i64), .sl [.sc (.str), .sc (.str)], .sl [.sc (.int .i64), .sc (.int .i64), .sl [.sc (.int .i64), .sc (.str), .sc (.str)]]] [.F, .O [.F, .F, .F], .F, .O [.F, .F], .O [.F, .F, .F]] [], .own (KR 1000 7) [.sc (.int .i64), .sc (.int .i64), .sc (.int .i64), .sl [.sc (.int .i64), .sc (.str), .sc (.str)], .sc (.bool)] [.F, .F, .F, .F, .F] [], .own (KR 1000 8) [.sc (.int .i64), .sc (.int .i64), .sc (.int .i64), .sl [.sc (.int .i64), .sc (.str), .sc (.str)], .sc (.bool)] [.F, .F, .F, .F, .F] [], .own (KR 1000 9) [.sc (.int .i64), .sl [.sc (.int .i64), .sc (.str), .sc (.str)]] [.F, .F] []], none]⟩ z))⟩
noncomputable def spec_l12Do_t : List Fs := spec_l12Do_f :: spec_l11Crash_t
theorem spec_l12Do_g : FGood CX prims spec_l12Do_t ∧ FEqn CX prims spec_l12Do_f := fnG spec_l11Crash_g.1 spec_l12Do_f Try.f22 ⟨22, 2, 66, 17⟩ [] (fun _ _ => rfl) (fun _ _ _ => by kernel_rfl) trivial trivial (fun _ _ _ _ _ => by kernel_rfl)

/-! loop.example/g00244/spec.l12Draw -/
noncomputable def spec_l12Draw_L0_0 (m : Nat) : Nat → T → T → T → T → T → T → T → T → T → T → T → T → T → T → T → T → T → T → T → T → T → T → T → T → T → T → T → (T → T → T → T → T → T → T → T → T → T → T → T → T → T → T → T → T → T → T → T → T → T → T → T → T → T → An) → An
  | 0, _, _, _, _, _, _, _, _, _, _, _, _, _, _, _, _, _, _, _, _, _, _, _, _, _, _, _, _ => .bad
  | n + 1, x0, x1, x2, x3, x4, x5, x6, x7, x8, x9, x10, x11, x12, x13, x14, x15, x16, x17, x18, x19, x20, x21, x22, x23, x24, x25, x26, k0 =>
    cond (decide (x3.int > 0))
    (jn (fun (j86 : T → T → T → T → T → T → T → T → T → T → T → T → T → An) =>
    spec_l12Event m (T.l x4.rows) x5 x6 x11 x12 x13 (T.l x21.rows) (T.l x22.rows) x14 (T.l x23.rows) (T.l x24.rows) (T.l x25.rows) (T.l x26.rows)
    (fun y18 y19 y20 y21 y22 y23 y24 => spec_l12Do m x11 x12 x13 (T.l x21.rows) (T.l x22.rows) x14 (T.l x23.rows) (T.l x24.rows) (T.l x25.rows) (T.l x26.rows) y18 y19 y20 (T.l y21.rows)
    (fun y25 y26 y27 y28 y29 y30 y31 y32 y33 y34 y35 => j86 (T.l y22.rows) y23 y24 y26 y27 y28 y31 (T.l y29.rows) (T.l y30.rows) (T.l y32.rows) (T.l y33.rows) (T.l y34.rows) (T.l y35.rows))
    (fun y36 y37 y38 y39 y40 y41 y42 y43 y44 y45 y46 y47 => j86 (T.l y22.rows) y23 y24 y38 y39 y40 y43 (T.l y41.rows) (T.l y42.rows) (T.l y44.rows) (T.l y45.rows) (T.l y46.rows) (T.l y47.rows))
    (fun y48 y49 y50 y51 y52 y53 y54 y55 y56 y57 y58 y59 => j86 (T.l y22.rows) y23 y24 y50 y51 y52 y55 (T.l y53.rows) (T.l y54.rows) (T.l y56.rows) (T.l y57.rows) (T.l y58.rows) (T.l y59.rows))))
    (fun y73 y74 y75 y76 y77 y78 y79 y80 y81 y82 y83 y84 y85 => spec_l12Draw_L0_0 m n (T.i (x0.int.toNat : Int)) (T.i (x1.int.toNat : Int)) (T.i (x2.int.toNat : Int)) (T.i (IntKind.i64.wrap (x3.int - 1))) y73 y74 y75 x7 x8 x9 x10 y76 y77 y78 y79 (T.l x15.rows) (T.l x16.rows) (T.l x17.rows) (T.l x18.rows) (T.l x19.rows) (T.l x20.rows) (T.l y80.rows) (T.l y81.rows) (T.l y82.rows) (T.l y83.rows) (T.l y84.rows) (T.l y85.rows) k0))
    (k0 (T.i (x0.int.toNat : Int)) (T.i (x1.int.toNat : Int)) (T.i (x2.int.toNat : Int)) x4 x5 x6 x7 x8 x9 x10 x11 x12 x13 x14 (T.l x15.rows) (T.l x16.rows) (T.l x17.rows) (T.l x18.rows) (T.l x19.rows) (T.l x20.rows) (T.l x21.rows) (T.l x22.rows) (T.l x23.rows) (T.l x24.rows) (T.l x25.rows) (T.l x26.rows))
noncomputable def spec_l12Draw : Nat → T → T → T → T → (T → T → T → T → T → T → T → T → T → T → T → T → T → An) → An
  | 0, _, _, _, _, _ => .bad
  | m + 1, x0, x1, x2, x3, k0 =>
    spec_l1Int m (T.l x0.rows) x1 x2 (T.l [[(T.i 3)], [(T.i 2)], [(T.i 3)], [(T.i 1)]])
    (fun y0 y1 y2 y3 => spec_WorldNew m y0
    (fun y4 y5 y6 y7 y8 y9 y10 y11 y12 y13 => spec_l1Below m (T.l y1.rows) y2 y3 x3
    (fun y14 y15 y16 y17 => spec_l12Draw_L0_0 m m (T.i 0) (T.i 0) (T.i 0) y14 (T.l y15.rows) y16 y17 (T.i 0) (T.i 0) (T.i 0) (T.i 0) y4 y5 y6 y9 (T.l []) (T.l []) (T.l []) (T.l []) (T.l []) (T.l []) (T.l y7.rows) (T.l y8.rows) (T.l y10.rows) (T.l y11.rows) (T.l y12.rows) (T.l y13.rows)
    (fun y87 y88 y89 y90 y91 y92 y93 y94 y95 y96 y97 y98 y99 y100 y101 y102 y103 y104 y105 y106 y107 y108 y109 y110 y111 y112 => k0 y97 y98 y99 (T.l y107.rows) (T.l y108.rows) y100 (T.l y109.rows) (T.l y110.rows) (T.l y111.rows) (T.l y112.rows) (T.l y90.rows) y91 y92))))
noncomputable def spec_l12Draw_f : Fs := ⟨12, [.bx [.fz [.sc (.int .u8)] [], AI, AI], .one (AI)], fun m vs k => ap 4 (spec_l12Draw m) vs (lm 13 fun z => k (fRet ⟨[.agg [RI, RI, RI, .own (KR 0 3) [.sc (.int .i64), .sl [.sc (.int .i64), .sc (.str), .sc (.str)], .sc (.int .i64), .sl [.sc (.int .i64)]] [.F, .F, .F, .F] [], .own (KR 0 4) [.sc (.int .i64), .sc (.bool)] [.F, .F] [], RI, .own (KR 0 6) [.sc (.int .i64), .sl [.sc (.int .i64), .sc (.int .i64), .sl [.sc (.int .i64), .sc (.str), .sc (.str)]], .sc (.int .i64), .sl [.sc (.str), .sc (.str)], .sl [.sc (.int .i64), .sc (.int .i64), .sl [.sc (.int .i64), .sc (.str), .sc (.str)]]] [.F, .O [.F, .F, .F], .F, .O [.F, .F], .O [.F, .F, .F]] [], .own (KR 0 7) [.sc (.int .i64), .sc (.int .i64), .sc (.int .i64), .sl [.sc (.int .i64), .sc (.str), .sc (.str)], .sc (.bool)] [.F, .F, .F, .F, .F] [], .own (KR 0 8) [.sc (.int .i64), .sc (.int .i64), .sc (.int .i64), .sl [.sc (.int .i64), .sc (.str), .sc (.str)], .sc (.bool)] [.F, .F, .F, .F, .F] [], .own (KR 0 9) [.sc (.int .i64), .sl [.sc (.int .i64), .sc (.str), .sc (.str)]] [.F, .F] []]], [[none, none, none], [none]], [some [.fz [.sc (.int .u8)] [], RI, RI], none]⟩ z))⟩
noncomputable def spec_l12Draw_l : List Ls := [⟨[0, 1, 0, 1, 1], ⟨[(0, .ptr [0, 999999] 0 0 0), (4, EP 1), (5, EP 2), (6, .one (LI))], [([0, 999999], .box [LZ [.sc (.int .u8)], LI, LI]), ((KI 1), .box [LI, LI, LI, LA (KI 3) [.sc (.int .i64), .sl [.sc (.int .i64), .sc (.str), .sc (.str)], .sc (.int .i64), .sl [.sc (.int .i64)]], LA (KI 4) [.sc (.int .i64), .sc (.bool)], LI, LA (KI 5) [.sc (.int .i64), .sl [.sc (.int .i64), .sc (.int .i64), .sl [.sc (.int .i64), .sc (.str), .sc (.str)]], .sc (.int .i64), .sl [.sc (.str), .sc (.str)], .sl [.sc (.int .i64), .sc (.int .i64), .sl [.sc (.int .i64), .sc (.str), .sc (.str)]]], LA (KI 6) [.sc (.int .i64), .sc (.int .i64), .sc (.int .i64), .sl [.sc (.int .i64), .sc (.str), .sc (.str)], .sc (.bool)], LA (KI 7) [.sc (.int .i64), .sc (.int .i64), .sc (.int .i64), .sl [.sc (.int .i64), .sc (.str), .sc (.str)], .sc (.bool)], LA (KI 8) [.sc (.int .i64), .sl [.sc (.int .i64), .sc (.str), .sc (.str)]]]), ((KI 2), .box [LI, LI, LI, LA (KI 9) [.sc (.int .i64), .sl [.sc (.int .i64), .sc (.str), .sc (.str)], .sc (.int .i64), .sl [.sc (.int .i64)]], LA (KI 10) [.sc (.int .i64), .sc (.bool)], LI, LA (KI 11) [.sc (.int .i64), .sl [.sc (.int .i64), .sc (.int .i64), .sl [.sc (.int .i64), .sc (.str), .sc (.str)]], .sc (.int .i64), .sl [.sc (.str), .sc (.str)], .sl [.sc (.int .i64), .sc (.int .i64), .sl [.sc (.int .i64), .sc (.str), .sc (.str)]]], LA (KI 12) [.sc (.int .i64), .sc (.int .i64), .sc (.int .i64), .sl [.sc (.int .i64), .sc (.str), .sc (.str)], .sc (.bool)], LA (KI 13) [.sc (.int .i64), .sc (.int .i64), .sc (.int .i64), .sl [.sc (.int .i64), .sc (.str), .sc (.str)], .sc (.bool)], LA (KI 14) [.sc (.int .i64), .sl [.sc (.int .i64), .sc (.str), .sc (.str)]]]), ((KI 3), .row [.sc (.int .i64), .sl [.sc (.int .i64), .sc (.str), .sc (.str)], .sc (.int .i64), .sl [.sc (.int .i64)]] [.F, .F, .F, .F] []), ((KI 4), .row [.sc (.int .i64), .sc (.bool)] [.F, .F] []), ((KI 5), .row [.sc (.int .i64), .sl [.sc (.int .i64), .sc (.int .i64), .sl [.sc (.int .i64), .sc (.str), .sc (.str)]], .sc (.int .i64), .sl [.sc (.str), .sc (.str)], .sl [.sc (.int .i64), .sc (.int .i64), .sl [.sc (.int .i64), .sc (.str), .sc (.str)]]] [.F, .O [.F, .F, .F], .F, .O [.F, .F], .O [.F, .F, .F]] []), ((KI 6), .row [.sc (.int .i64), .sc (.int .i64), .sc (.int .i64), .sl [.sc (.int .i64), .sc (.str), .sc (.str)], .sc (.bool)] [.F, .F, .F, .F, .F] []), ((KI 7), .row [.sc (.int .i64), .sc (.int .i64), .sc (.int .i64), .sl [.sc (.int .i64), .sc (.str), .sc (.str)], .sc (.bool)] [.F, .F, .F, .F, .F] []), ((KI 8), .row [.sc (.int .i64), .sl [.sc (.int .i64), .sc (.str), .sc (.str)]] [.F, .F] []), ((KI 9), .row [.sc (.int .i64), .sl [.sc (.int .i64), .sc (.str), .sc (.str)], .sc (.int .i64), .sl [.sc (.int .i64)]] [.F, .F, .F, .F] []), ((KI 10), .row [.sc (.int .i64), .sc (.bool)] [.F, .F] []), ((KI 11), .row [.sc (.int .i64), .sl [.sc (.int .i64), .sc (.int .i64), .sl [.sc (.int .i64), .sc (.str), .sc (.str)]], .sc (.int .i64), .sl [.sc (.str), .sc (.str)], .sl [.sc (.int .i64), .sc (.int .i64), .sl [.sc (.int .i64), .sc (.str), .sc (.str)]]] [.F, .O [.F, .F, .F], .F, .O [.F, .F], .O [.F, .F, .F]] []), ((KI 12), .row [.sc (.int .i64), .sc (.int .i64), .sc (.int .i64), .sl [.sc (.int .i64), .sc (.str), .sc (.str)], .sc (.bool)] [.F, .F, .F, .F, .F] []), ((KI 13), .row [.sc (.int .i64), .sc (.int .i64), .sc (.int .i64), .sl [.sc (.int .i64), .sc (.str), .sc (.str)], .sc (.bool)] [.F, .F, .F, .F, .F] []), ((KI 14), .row [.sc (.int .i64), .sl [.sc (.int .i64), .sc (.str), .sc (.str)]] [.F, .F] [])]⟩, fun m n vs k => ap 27 (spec_l12Draw_L0_0 m n) vs (lm 26 fun z => k (.exit 0) (fPack ⟨[(0, .ptr [0, 999999] 0 0 0), (4, EP 1), (5, EP 2)], [([0, 999999], .box [LZ [.sc (.int .u8)], LI, LI]), ((KI 1), .box [LI, LI, LI, LA (KI 3) [.sc (.int .i64), .sl [.sc (.int .i64), .sc (.str), .sc (.str)], .sc (.int .i64), .sl [.sc (.int .i64)]], LA (KI 4) [.sc (.int .i64), .sc (.bool)], LI, LA (KI 5) [.sc (.int .i64), .sl [.sc (.int .i64), .sc (.int .i64), .sl [.sc (.int .i64), .sc (.str), .sc (.str)]], .sc (.int .i64), .sl [.sc (.str), .sc (.str)], .sl [.sc (.int .i64), .sc (.int .i64), .sl [.sc (.int .i64), .sc (.str), .sc (.str)]]], LA (KI 6) [.sc (.int .i64), .sc (.int .i64), .sc (.int .i64), .sl [.sc (.int .i64), .sc (.str), .sc (.str)], .sc (.bool)], LA (KI 7) [.sc (.int .i64), .sc (.int .i64), .sc (.int .i64), .sl [.sc (.int .i64), .sc (.str), .sc (.str)], .sc (.bool)], LA (KI 8) [.sc (.int .i64), .sl [.sc (.int .i64), .sc (.str), .sc (.str)]]]), ((KI 2), .box [LI, LI, LI, LA (KI 9) [.sc (.int .i64), .sl [.sc (.int .i64), .sc (.str), .sc (.str)], .sc (.int .i64), .sl [.sc (.int .i64)]], LA (KI 10) [.sc (.int .i64), .sc (.bool)], LI, LA (KI 11) [.sc (.int .i64), .sl [.sc (.int .i64), .sc (.int .i64), .sl [.sc (.int .i64), .sc (.str), .sc (.str)]], .sc (.int .i64), .sl [.sc (.str), .sc (.str)], .sl [.sc (.int .i64), .sc (.int .i64), .sl [.sc (.int .i64), .sc (.str), .sc (.str)]]], LA (KI 12) [.sc (.int .i64), .sc (.int .i64), .sc (.int .i64), .sl [.sc (.int .i64), .sc (.str), .sc (.str)], .sc (.bool)], LA (KI 13) [.sc (.int .i64), .sc (.int .i64), .sc (.int .i64), .sl [.sc (.int .i64), .sc (.str), .sc (.str)], .sc (.bool)], LA (KI 14) [.sc (.int .i64), .sl [.sc (.int .i64), .sc (.str), .sc (.str)]]]), ((KI 3), .row [.sc (.int .i64), .sl [.sc (.int .i64), .sc (.str), .sc (.str)], .sc (.int .i64), .sl [.sc (.int .i64)]] [.F, .F, .F, .F] []), ((KI 4), .row [.sc (.int .i64), .sc (.bool)] [.F, .F] []), ((KI 5), .row [.sc (.int .i64), .sl [.sc (.int .i64), .sc (.int .i64), .sl [.sc (.int .i64), .sc (.str), .sc (.str)]], .sc (.int .i64), .sl [.sc (.str), .sc (.str)], .sl [.sc (.int .i64), .sc (.int .i64), .sl [.sc (.int .i64), .sc (.str), .sc (.str)]]] [.F, .O [.F, .F, .F], .F, .O [.F, .F], .O [.F, .F, .F]] []), ((KI 6), .row [.sc (.int .i64), .sc (.int .i64), .sc (.int .i64), .sl [.sc (.int .i64), .sc (.str), .sc (.str)], .sc (.bool)] [.F, .F, .F, .F, .F] []), ((KI 7), .row [.sc (.int .i64), .sc (.int .i64), .sc (.int .i64), .sl [.sc (.int .i64), .sc (.str), .sc (.str)], .sc (.bool)] [.F, .F, .F, .F, .F] []), ((KI 8), .row [.sc (.int .i64), .sl [.sc (.int .i64), .sc (.str), .sc (.str)]] [.F, .F] []), ((KI 9), .row [.sc (.int .i64), .sl [.sc (.int .i64), .sc (.str), .sc (.str)], .sc (.int .i64), .sl [.sc (.int .i64)]] [.F, .F, .F, .F] []), ((KI 10), .row [.sc (.int .i64), .sc (.bool)] [.F, .F] []), ((KI 11), .row [.sc (.int .i64), .sl [.sc (.int .i64), .sc (.int .i64), .sl [.sc (.int .i64), .sc (.str), .sc (.str)]], .sc (.int .i64), .sl [.sc (.str), .sc (.str)], .sl [.sc (.int .i64), .sc (.int .i64), .sl [.sc (.int .i64), .sc (.str), .sc (.str)]]] [.F, .O [.F, .F, .F], .F, .O [.F, .F], .O [.F, .F, .F]] []), ((KI 12), .row [.sc (.int .i64), .sc (.int .i64), .sc (.int .i64), .sl [.sc (.int .i64), .sc (.str), .sc (.str)], .sc (.bool)] [.F, .F, .F, .F, .F] []), ((KI 13), .row [.sc (.int .i64), .sc (.int .i64), .sc (.int .i64), .sl [.sc (.int .i64), .sc (.str), .sc (.str)], .sc (.bool)] [.F, .F, .F, .F, .F] []), ((KI 14), .row [.sc (.int .i64), .sl [.sc (.int .i64), .sc (.str), .sc (.str)]] [.F, .F] [])]⟩ z))⟩]
noncomputable def spec_l12Draw_t : List Fs := spec_l12Draw_f :: spec_l12Do_t
theorem spec_l12Draw_g : FGood CX prims spec_l12Draw_t ∧ FEqn CX prims spec_l12Draw_f := fnG spec_l12Do_g.1 spec_l12Draw_f Try.f12 ⟨12, 2, 23, 17⟩ spec_l12Draw_l (fun _ _ => rfl) (fun _ _ _ => by kernel_rfl) ⟨fun _ _ _ => rfl, trivial⟩ ⟨fun _ _ _ _ _ _ => by kernel_rfl, trivial⟩ (fun _ _ _ _ _ => by kernel_rfl)

/-! loop.example/g00244/spec.DrawWorld -/
noncomputable def spec_DrawWorld : Nat → T → (T → T → T → T → T → T → T → T → T → T → An) → An
  | 0, _, _ => .bad
  | m + 1, x0, k0 =>
    spec_l1New m (T.l x0.rows)
    (fun y0 y1 y2 => spec_l1Size m (T.l x0.rows) (T.i 90)
    (fun y3 => spec_l12Draw m (T.l y0.rows) y1 y2 (T.i (IntKind.i64.wrap (20 + y3.int)))
    (fun y4 y5 y6 y7 y8 y9 y10 y11 y12 y13 y14 y15 y16 => k0 y4 y5 y6 (T.l y7.rows) (T.l y8.rows) y9 (T.l y10.rows) (T.l y11.rows) (T.l y12.rows) (T.l y13.rows))))
noncomputable def spec_DrawWorld_f : Fs := ⟨5, [.one (.fz [.sc (.int .u8)] [])], fun m vs k => ap 1 (spec_DrawWorld m) vs (lm 10 fun z => k (fRet ⟨[.agg [RI, RI, RI, .own (KR 0 3) [.sc (.int .i64), .sl [.sc (.int .i64), .sc (.str), .sc (.str)], .sc (.int .i64), .sl [.sc (.int .i64)]] [.F, .F, .F, .F] [], .own (KR 0 4) [.sc (.int .i64), .sc (.bool)] [.F, .F] [], RI, .own (KR 0 6) [.sc (.int .i64), .sl [.sc (.int .i64), .sc (.int .i64), .sl [.sc (.int .i64), .sc (.str), .sc (.str)]], .sc (.int .i64), .sl [.sc (.str), .sc (.str)], .sl [.sc (.int .i64), .sc (.int .i64), .sl [.sc (.int .i64), .sc (.str), .sc (.str)]]] [.F, .O [.F, .F, .F], .F, .O [.F, .F], .O [.F, .F, .F]] [], .own (KR 0 7) [.sc (.int .i64), .sc (.int .i64), .sc (.int .i64), .sl [.sc (.int .i64), .sc (.str), .sc (.str)], .sc (.bool)] [.F, .F, .F, .F, .F] [], .own (KR 0 8) [.sc (.int .i64), .sc (.int .i64), .sc (.int .i64), .sl [.sc (.int .i64), .sc (.str), .sc (.str)], .sc (.bool)] [.F, .F, .F, .F, .F] [], .own (KR 0 9) [.sc (.int .i64), .sl [.sc (.int .i64), .sc (.str), .sc (.str)]] [.F, .F] []]], [[none]], [none]⟩ z))⟩
noncomputable def spec_DrawWorld_t : List Fs := spec_DrawWorld_f :: spec_l12Draw_t
theorem spec_DrawWorld_g : FGood CX prims spec_DrawWorld_t ∧ FEqn CX prims spec_DrawWorld_f := fnG spec_l12Draw_g.1 spec_DrawWorld_f Try.f5 ⟨5, 1, 11, 4⟩ [] (fun _ _ => rfl) (fun _ _ _ => by kernel_rfl) trivial trivial (fun _ _ _ _ _ => by kernel_rfl)

/-! loop.example/g00244/impl.pairAt$1 -/
noncomputable def impl_pairAt_1 : Nat → T → T → T → (T → An) → An
  | 0, _, _, _, _ => .bad
  | m + 1, x0, x1, x2, k0 =>
    k0 (T.b (x0.str.toList == ((row1 x2).getD 0 dflt).str.toList))
noncomputable def impl_pairAt_1_f : Fs := ⟨42, [.agg [AS, AS], .rpt [.sc (.str)] []], fun m vs k => ap 3 (impl_pairAt_1 m) vs (lm 1 fun z => k (fRet ⟨[.one (RB)], [[none, none], []], [none, none]⟩ z))⟩
noncomputable def impl_pairAt_1_t : List Fs := impl_pairAt_1_f :: spec_DrawWorld_t
theorem impl_pairAt_1_g : FGood CX prims impl_pairAt_1_t ∧ FEqn CX prims impl_pairAt_1_f := fnG spec_DrawWorld_g.1 impl_pairAt_1_f Try.f42 ⟨42, 2, 8, 8⟩ [] (fun _ _ => rfl) (fun _ _ _ => by kernel_rfl) trivial trivial (fun _ _ _ _ _ => by kernel_rfl)

/-! slices.IndexFunc[[]loop.example/g00244/impl.Pair,loop.example/g00244/impl.Pair] -/
noncomputable def slices_IndexFunc___impl_Pair_impl_Pair__L0_0 (m : Nat) : Nat → T → T → T → T → (T → An) → An → An
  | 0, _, _, _, _, _, _ => .bad
  | n + 1, x0, x1, x2, x3, k0, k1 =>
    cond (decide (x3.int < x2.int))
    (cond (decide ((0 : Int) ≤ x3.int ∧ x3.int < (x0.rows.length : Int)))
    (impl_pairAt_1 m ((x0.rows.getD (Int.toNat x3.int) []).getD 0 dflt) ((x0.rows.getD (Int.toNat x3.int) []).getD 1 dflt) (T.l [(row1 x1)])
    (fun y0 => cond y0.bool
    (k0 x3)
    (slices_IndexFunc___impl_Pair_impl_Pair__L0_0 m n x0 (T.l [(row1 x1)]) x2 (T.i (IntKind.i64.wrap (x3.int + 1))) k0 k1)))
    (.bad))
    (k1 )
noncomputable def slices_IndexFunc___impl_Pair_impl_Pair_ : Nat → T → T → (T → An) → An
  | 0, _, _, _ => .bad
  | m + 1, x0, x1, k0 =>
    slices_IndexFunc___impl_Pair_impl_Pair__L0_0 m m (T.l x0.rows) (T.l [(row1 x1)]) (T.i (x0.rows.length : Int)) (T.i 0)
    (fun y1 => k0 y1)
    (k0 (T.i (-1)))
noncomputable def slices_IndexFunc___impl_Pair_impl_Pair__f : Fs := ⟨41, [.one (.dz [.sc (.str), .sc (.str)] []), .fn 42 [.rpt [.sc (.str)] []]], fun m vs k => ap 2 (slices_IndexFunc___impl_Pair_impl_Pair_ m) vs (lm 1 fun z => k (fRet ⟨[.one (RI)], [[none], []], [none, none]⟩ z))⟩
noncomputable def slices_IndexFunc___impl_Pair_impl_Pair__l : List Ls := [⟨[0, 1, 0, 1], ⟨[(0, .one (LD [.sc (.str), .sc (.str)])), (1, .fn 42 [.rp [([4000000], 0)] [.sc (.str)] []]), (7, .one (LI)), (8, .one (LI))], [([4000000], .gone)]⟩, fun m n vs k => ap 4 (slices_IndexFunc___impl_Pair_impl_Pair__L0_0 m n) vs (lm 1 fun z => k .ret (fPack ⟨[(4, .one (LI))], []⟩ z)) (lm 0 fun z => k (.exit 0) (fPack ⟨[], []⟩ z))⟩]
noncomputable def slices_IndexFunc___impl_Pair_impl_Pair__t : List Fs := slices_IndexFunc___impl_Pair_impl_Pair__f :: impl_pairAt_1_t
theorem slices_IndexFunc___impl_Pair_impl_Pair__g : FGood CX prims slices_IndexFunc___impl_Pair_impl_Pair__t ∧ FEqn CX prims slices_IndexFunc___impl_Pair_impl_Pair__f := fnG impl_pairAt_1_g.1 slices_IndexFunc___impl_Pair_impl_Pair__f Try.f41 ⟨41, 2, 19, 16⟩ slices_IndexFunc___impl_Pair_impl_Pair__l (fun _ _ => rfl) (fun _ _ _ => by kernel_rfl) ⟨fun _ _ _ => rfl, trivial⟩ ⟨fun _ _ _ _ _ _ => by kernel_rfl, trivial⟩ (fun _ _ _ _ _ => by kernel_rfl)

/-! loop.example/g00244/impl.pairAt -/
noncomputable def impl_pairAt : Nat → T → T → (T → An) → An
  | 0, _, _, _ => .bad
  | m + 1, x0, x1, k0 =>
    slices_IndexFunc___impl_Pair_impl_Pair_ m (T.l x0.rows) (T.l [[x1]])
    (fun y0 => k0 y0)
noncomputable def impl_pairAt_f : Fs := ⟨25, [.one (.dz [.sc (.str), .sc (.str)] []), .one (AS)], fun m vs k => ap 2 (impl_pairAt m) vs (lm 1 fun z => k (fRet ⟨[.one (RI)], [[none], [none]], [none, none]⟩ z))⟩
noncomputable def impl_pairAt_t : List Fs := impl_pairAt_f :: slices_IndexFunc___impl_Pair_impl_Pair__t
theorem impl_pairAt_g : FGood CX prims impl_pairAt_t ∧ FEqn CX prims impl_pairAt_f := fnG slices_IndexFunc___impl_Pair_impl_Pair__g.1 impl_pairAt_f Try.f25 ⟨25, 2, 8, 16⟩ [] (fun _ _ => rfl) (fun _ _ _ => by kernel_rfl) trivial trivial (fun _ _ _ _ _ => by kernel_rfl)

/-! loop.example/g00244/impl.putKey -/
noncomputable def impl_putKey_L0_0 (m : Nat) : Nat → T → T → T → T → (T → T → T → T → An) → An
  | 0, _, _, _, _, _ => .bad
  | n + 1, x0, x1, x2, x3, k0 =>
    cond ((decide (x2.int < (x3.rows.length : Int))) == true)
    (cond (decide ((0 : Int) ≤ x2.int ∧ x2.int < (x3.rows.length : Int)))
    (cond (decide ((Int.toNat x2.int) < x3.rows.length))
    (cond ((Op.bytesLess ((x3.rows.getD (Int.toNat x2.int) []).getD 0 dflt).str.toList x0.str.toList) || (((x3.rows.getD (Int.toNat x2.int) []).getD 0 dflt).str.toList == x0.str.toList))
    (impl_putKey_L0_0 m n x0 x1 (T.i (IntKind.i64.wrap (x2.int + 1))) (T.l x3.rows) k0)
    (k0 x0 x1 x2 (T.l x3.rows)))
    (.bad))
    (.bad))
    (k0 x0 x1 x2 (T.l x3.rows))
noncomputable def impl_putKey : Nat → T → T → T → (T → An) → An
  | 0, _, _, _, _ => .bad
  | m + 1, x0, x1, x2, k0 =>
    impl_pairAt m (T.l x0.rows) x1
    (fun y0 => cond (decide (y0.int ≥ 0))
    (cond (decide ((0 : Int) ≤ y0.int ∧ y0.int < (x0.rows.length : Int)))
    (cond (decide ((Int.toNat y0.int) < x0.rows.length))
    (k0 (T.l (x0.rows.set (Int.toNat y0.int) ((x0.rows.getD (Int.toNat y0.int) []).set 1 x2))))
    (.bad))
    (.bad))
    (impl_putKey_L0_0 m m x1 x2 (T.i 0) (T.l x0.rows)
    (fun y2 y3 y4 y5 => slices_Insert___impl_Pair_impl_Pair_ m (T.l y5.rows) y4 (T.l [[y2, y3]])
    (fun y6 => k0 (T.l y6.rows)))))
noncomputable def impl_putKey_f : Fs := ⟨24, [.one (.own [.sc (.str), .sc (.str)] [.F, .F] []), .one (AS), .one (AS)], fun m vs k => ap 3 (impl_putKey m) vs (lm 1 fun z => k (fRet ⟨[.one (.own (KR 0 0) [.sc (.str), .sc (.str)] [.F, .F] [])], [[none], [none], [none]], [none, none, none]⟩ z))⟩
noncomputable def impl_putKey_l : List Ls := [⟨[0, 0, 1, 1, 1], ⟨[(0, .one (LA [0, 0] [.sc (.str), .sc (.str)])), (1, .one (LS)), (2, .one (LS)), (8, .one (LI))], [([0, 0], .row [.sc (.str), .sc (.str)] [.F, .F] [])]⟩, fun m n vs k => ap 4 (impl_putKey_L0_0 m n) vs (lm 4 fun z => k (.exit 0) (fPack ⟨[(0, .one (LA [0, 0] [.sc (.str), .sc (.str)])), (1, .one (LS)), (2, .one (LS)), (8, .one (LI))], [([0, 0], .row [.sc (.str), .sc (.str)] [.F, .F] [])]⟩ z))⟩]
noncomputable def impl_putKey_t : List Fs := impl_putKey_f :: impl_pairAt_t
theorem impl_putKey_g : FGood CX prims impl_putKey_t ∧ FEqn CX prims impl_putKey_f := fnG impl_pairAt_g.1 impl_putKey_f Try.f24 ⟨24, 3, 42, 65⟩ impl_putKey_l (fun _ _ => rfl) (fun _ _ _ => by kernel_rfl) ⟨fun _ _ _ => rfl, trivial⟩ ⟨fun _ _ _ _ _ _ => by kernel_rfl, trivial⟩ (fun _ _ _ _ _ => by kernel_rfl)

/-! loop.example/g00244/impl.UnionOf -/
noncomputable def impl_UnionOf_L0_0 (m : Nat) : Nat → T → T → T → T → (T → An) → An
  | 0, _, _, _, _, _ => .bad
  | n + 1, x0, x1, x2, x3, k0 =>
    cond (decide (x2.int < x1.int))
    (cond (decide ((0 : Int) ≤ x2.int ∧ x2.int < (x0.rows.length : Int)))
    (impl_putKey m (T.l x3.rows) ((x0.rows.getD (Int.toNat x2.int) []).getD 0 dflt) ((x0.rows.getD (Int.toNat x2.int) []).getD 1 dflt)
    (fun y1 => impl_UnionOf_L0_0 m n x0 x1 (T.i (IntKind.i64.wrap (x2.int + 1))) (T.l y1.rows) k0))
    (.bad))
    (k0 (T.l x3.rows))
noncomputable def impl_UnionOf : Nat → T → T → (T → An) → An
  | 0, _, _, _ => .bad
  | m + 1, x0, x1, k0 =>
    slices_Clone___impl_Pair_impl_Pair_ m (T.l x0.rows)
    (fun y0 => impl_UnionOf_L0_0 m m (T.l x1.rows) (T.i (x1.rows.length : Int)) (T.i 0) (T.l y0.rows)
    (fun y2 => k0 (T.l y2.rows)))
noncomputable def impl_UnionOf_f : Fs := ⟨14, [.one (.dz [.sc (.str), .sc (.str)] []), .one (.dz [.sc (.str), .sc (.str)] [])], fun m vs k => ap 2 (impl_UnionOf m) vs (lm 1 fun z => k (fRet ⟨[.one (.own (KR 0 0) [.sc (.str), .sc (.str)] [.F, .F] [])], [[none], [none]], [none, none]⟩ z))⟩
noncomputable def impl_UnionOf_l : List Ls := [⟨[0, 1, 0, 1, 1], ⟨[(5, .one (LA (KI 0) [.sc (.str), .sc (.str)])), (10, .one (LD [.sc (.str), .sc (.str)])), (11, .one (LI)), (12, .one (LI))], [((KI 0), .row [.sc (.str), .sc (.str)] [.F, .F] []), ([4000000], .gone)]⟩, fun m n vs k => ap 4 (impl_UnionOf_L0_0 m n) vs (lm 1 fun z => k (.exit 0) (fPack ⟨[(5, .one (LA (KI 0) [.sc (.str), .sc (.str)]))], [((KI 0), .row [.sc (.str), .sc (.str)] [.F, .F] [])]⟩ z))⟩]
noncomputable def impl_UnionOf_t : List Fs := impl_UnionOf_f :: impl_putKey_t
theorem impl_UnionOf_g : FGood CX prims impl_UnionOf_t ∧ FEqn CX prims impl_UnionOf_f := fnG impl_putKey_g.1 impl_UnionOf_f Try.f14 ⟨14, 2, 24, 16⟩ impl_UnionOf_l (fun _ _ => rfl) (fun _ _ _ => by kernel_rfl) ⟨fun _ _ _ => rfl, trivial⟩ ⟨fun _ _ _ _ _ _ => by kernel_rfl, trivial⟩ (fun _ _ _ _ _ => by kernel_rfl)

/-! loop.example/g00244/impl.Tables -/
noncomputable def impl_Tables_L0_0 (m : Nat) : Nat → T → T → T → T → (T → An) → An
  | 0, _, _, _, _, _ => .bad
  | n + 1, x0, x1, x2, x3, k0 =>
    cond (decide (x2.int < x1.int))
    (cond (decide ((0 : Int) ≤ x2.int ∧ x2.int < (x0.rows.length : Int)))
    (impl_UnionOf m (T.l x3.rows) (T.l ((x0.rows.getD (Int.toNat x2.int) []).getD 3 dflt).rows)
    (fun y0 => impl_Tables_L0_0 m n x0 x1 (T.i (IntKind.i64.wrap (x2.int + 1))) (T.l y0.rows) k0))
    (.bad))
    (k0 (T.l x3.rows))
noncomputable def impl_Tables : Nat → T → T → T → T → T → T → T → T → T → T → (T → An) → An
  | 0, _, _, _, _, _, _, _, _, _, _, _ => .bad
  | m + 1, x0, x1, x2, x3, x4, x5, x6, x7, x8, x9, k0 =>
    impl_Tables_L0_0 m m (T.l x6.rows) (T.i (x6.rows.length : Int)) (T.i 0) (T.l [])
    (fun y1 => k0 (T.l y1.rows))
noncomputable def impl_Tables_f : Fs := ⟨6, [.agg [AI, AI, AI, .dz [.sc (.int .i64), .sl [.sc (.int .i64), .sc (.str), .sc (.str)], .sc (.int .i64), .sl [.sc (.int .i64)]] [], .dz [.sc (.int .i64), .sc (.bool)] [], AI, .dz [.sc (.int .i64), .sl [.sc (.int .i64), .sc (.int .i64), .sl [.sc (.int .i64), .sc (.str), .sc (.str)]], .sc (.int .i64), .sl [.sc (.str), .sc (.str)], .sl [.sc (.int .i64), .sc (.int .i64), .sl [.sc (.int .i64), .sc (.str), .sc (.str)]]] [], .dz [.sc (.int .i64), .sc (.int .i64), .sc (.int .i64), .sl [.sc (.int .i64), .sc (.str), .sc (.str)], .sc (.bool)] [], .dz [.sc (.int .i64), .sc (.int .i64), .sc (.int .i64), .sl [.sc (.int .i64), .sc (.str), .sc (.str)], .sc (.bool)] [], .dz [.sc (.int .i64), .sl [.sc (.int .i64), .sc (.str), .sc (.str)]] []]], fun m vs k => ap 10 (impl_Tables m) vs (lm 1 fun z => k (fRet ⟨[.one (.own (KR 0 0) [.sc (.str), .sc (.str)] [.F, .F] [])], [[none, none, none, none, none, none, none, none, none, none]], [none]⟩ z))⟩
noncomputable def impl_Tables_l : List Ls := [⟨[0, 1, 0, 1, 1], ⟨[(3, .one (LA (KI 0) [.sc (.str), .sc (.str)])), (7, .one (LD [.sc (.int .i64), .sl [.sc (.int .i64), .sc (.int .i64), .sl [.sc (.int .i64), .sc (.str), .sc (.str)]], .sc (.int .i64), .sl [.sc (.str), .sc (.str)], .sl [.sc (.int .i64), .sc (.int .i64), .sl [.sc (.int .i64), .sc (.str), .sc (.str)]]])), (8, .one (LI)), (9, .one (LI))], [((KI 0), .row [.sc (.str), .sc (.str)] [.F, .F] []), ([4000000], .gone)]⟩, fun m n vs k => ap 4 (impl_Tables_L0_0 m n) vs (lm 1 fun z => k (.exit 0) (fPack ⟨[(3, .one (LA (KI 0) [.sc (.str), .sc (.str)]))], [((KI 0), .row [.sc (.str), .sc (.str)] [.F, .F] [])]⟩ z))⟩]
noncomputable def impl_Tables_t : List Fs := impl_Tables_f :: impl_UnionOf_t
theorem impl_Tables_g : FGood CX prims impl_Tables_t ∧ FEqn CX prims impl_Tables_f := fnG impl_UnionOf_g.1 impl_Tables_f Try.f6 ⟨6, 1, 19, 4⟩ impl_Tables_l (fun _ _ => rfl) (fun _ _ _ => by kernel_rfl) ⟨fun _ _ _ => rfl, trivial⟩ ⟨fun _ _ _ _ _ _ => by kernel_rfl, trivial⟩ (fun _ _ _ _ _ => by kernel_rfl)

/-! loop.example/g00244/impl.Hash -/
noncomputable def impl_Hash_L0_0 (m : Nat) : Nat → T → T → T → (T → An) → An
  | 0, _, _, _, _ => .bad
  | n + 1, x0, x1, x2, k0 =>
    cond (decide (x2.int < (x0.str.size : Int)))
    (cond (decide ((0 : Int) ≤ x2.int ∧ x2.int < (x0.str.size : Int)))
    (impl_Hash_L0_0 m n x0 (T.i (IntKind.u32.wrap ((bvBack .u32 (BitVec.ofInt IntKind.u32.bits x1.int ^^^ BitVec.ofInt IntKind.u32.bits (IntKind.u32.wrap ((x0.str.data.toList.getD (Int.toNat x2.int) 0).toNat : Int)))).int * 16777619))) (T.i (IntKind.i64.wrap (x2.int + 1))) k0)
    (.bad))
    (k0 x1)
noncomputable def impl_Hash : Nat → T → (T → An) → An
  | 0, _, _ => .bad
  | m + 1, x0, k0 =>
    impl_Hash_L0_0 m m x0 (T.i 2166136261) (T.i 0)
    (fun y0 => k0 (T.i (IntKind.i64.wrap y0.int)))
noncomputable def impl_Hash_f : Fs := ⟨26, [.one (AS)], fun m vs k => ap 1 (impl_Hash m) vs (lm 1 fun z => k (fRet ⟨[.one (RI)], [[none]], [none]⟩ z))⟩
noncomputable def impl_Hash_l : List Ls := [⟨[0, 1, 0, 1, 1], ⟨[(0, .one (LS)), (3, .one (⟨.sc, .sc (.int .u32), .l []⟩)), (4, .one (LI))], []⟩, fun m n vs k => ap 3 (impl_Hash_L0_0 m n) vs (lm 1 fun z => k (.exit 0) (fPack ⟨[(3, .one (⟨.sc, .sc (.int .u32), .l []⟩))], []⟩ z))⟩]
noncomputable def impl_Hash_t : List Fs := impl_Hash_f :: impl_Tables_t
theorem impl_Hash_g : FGood CX prims impl_Hash_t ∧ FEqn CX prims impl_Hash_f := fnG impl_Tables_g.1 impl_Hash_f Try.f26 ⟨26, 1, 21, 4⟩ impl_Hash_l (fun _ _ => rfl) (fun _ _ _ => by kernel_rfl) ⟨fun _ _ _ => rfl, trivial⟩ ⟨fun _ _ _ _ _ _ => by kernel_rfl, trivial⟩ (fun _ _ _ _ _ => by kernel_rfl)

/-! loop.example/g00244/impl.ShardOf -/
noncomputable def impl_ShardOf : Nat → T → T → (T → An) → An
  | 0, _, _, _ => .bad
  | m + 1, x0, x1, k0 =>
    cond (decide (x1.int < 1))
    (k0 (T.i 0))
    (impl_Hash m x0
    (fun y0 => cond (!decide (x1.int = 0))
    (k0 (T.i (Int.tmod y0.int x1.int)))
    (.bad)))
noncomputable def impl_ShardOf_f : Fs := ⟨16, [.one (AS), .one (AI)], fun m vs k => ap 2 (impl_ShardOf m) vs (lm 1 fun z => k (fRet ⟨[.one (RI)], [[none], [none]], [none, none]⟩ z))⟩
noncomputable def impl_ShardOf_t : List Fs := impl_ShardOf_f :: impl_Hash_t
theorem impl_ShardOf_g : FGood CX prims impl_ShardOf_t ∧ FEqn CX prims impl_ShardOf_f := fnG impl_Hash_g.1 impl_ShardOf_f Try.f16 ⟨16, 2, 11, 16⟩ [] (fun _ _ => rfl) (fun _ _ _ => by kernel_rfl) trivial trivial (fun _ _ _ _ _ => by kernel_rfl)

/-! loop.example/g00244/impl.GetKey -/
noncomputable def impl_GetKey : Nat → T → T → (T → T → An) → An
  | 0, _, _, _ => .bad
  | m + 1, x0, x1, k0 =>
    impl_pairAt m (T.l x0.rows) x1
    (fun y0 => cond (decide (y0.int < 0))
    (k0 (T.s (⟨#[]⟩ : ByteArray)) (T.b false))
    (cond (decide ((0 : Int) ≤ y0.int ∧ y0.int < (x0.rows.length : Int)))
    (k0 (((x0.rows.getD (Int.toNat y0.int) []).drop 1).getD 0 dflt) (T.b true))
    (.bad)))
noncomputable def impl_GetKey_f : Fs := ⟨15, [.one (.dz [.sc (.str), .sc (.str)] []), .one (AS)], fun m vs k => ap 2 (impl_GetKey m) vs (lm 2 fun z => k (fRet ⟨[.one (RS), .one (RB)], [[none], [none]], [none, none]⟩ z))⟩
noncomputable def impl_GetKey_t : List Fs := impl_GetKey_f :: impl_ShardOf_t
theorem impl_GetKey_g : FGood CX prims impl_GetKey_t ∧ FEqn CX prims impl_GetKey_f := fnG impl_ShardOf_g.1 impl_GetKey_f Try.f15 ⟨15, 2, 17, 48⟩ [] (fun _ _ => rfl) (fun _ _ _ => by kernel_rfl) trivial trivial (fun _ _ _ _ _ => by kernel_rfl)

/-! loop.example/g00244/impl.ReadAt -/
noncomputable def impl_ReadAt : Nat → T → T → T → T → T → T → T → T → T → T → T → (T → T → An) → An
  | 0, _, _, _, _, _, _, _, _, _, _, _, _ => .bad
  | m + 1, x0, x1, x2, x3, x4, x5, x6, x7, x8, x9, x10, k0 =>
    cond ((x6.rows.length : Int) == 0)
    (k0 (T.s (⟨#[]⟩ : ByteArray)) (T.b false))
    (impl_ShardOf m x10 (T.i (x6.rows.length : Int))
    (fun y0 => cond (decide ((0 : Int) ≤ y0.int ∧ y0.int < (x6.rows.length : Int)))
    (impl_GetKey m (T.l (((x6.rows.getD (Int.toNat y0.int) []).drop 3).getD 0 dflt).rows) x10
    (fun y1 y2 => k0 y1 y2))
    (.bad)))
noncomputable def impl_ReadAt_f : Fs := ⟨7, [.agg [AI, AI, AI, .dz [.sc (.int .i64), .sl [.sc (.int .i64), .sc (.str), .sc (.str)], .sc (.int .i64), .sl [.sc (.int .i64)]] [], .dz [.sc (.int .i64), .sc (.bool)] [], AI, .dz [.sc (.int .i64), .sl [.sc (.int .i64), .sc (.int .i64), .sl [.sc (.int .i64), .sc (.str), .sc (.str)]], .sc (.int .i64), .sl [.sc (.str), .sc (.str)], .sl [.sc (.int .i64), .sc (.int .i64), .sl [.sc (.int .i64), .sc (.str), .sc (.str)]]] [], .dz [.sc (.int .i64), .sc (.int .i64), .sc (.int .i64), .sl [.sc (.int .i64), .sc (.str), .sc (.str)], .sc (.bool)] [], .dz [.sc (.int .i64), .sc (.int .i64), .sc (.int .i64), .sl [.sc (.int .i64), .sc (.str), .sc (.str)], .sc (.bool)] [], .dz [.sc (.int .i64), .sl [.sc (.int .i64), .sc (.str), .sc (.str)]] []], .one (AS)], fun m vs k => ap 11 (impl_ReadAt m) vs (lm 2 fun z => k (fRet ⟨[.one (RS), .one (RB)], [[none, none, none, none, none, none, none, none, none, none], [none]], [none, none]⟩ z))⟩
noncomputable def impl_ReadAt_t : List Fs := impl_ReadAt_f :: impl_GetKey_t
theorem impl_ReadAt_g : FGood CX prims impl_ReadAt_t ∧ FEqn CX prims impl_ReadAt_f := fnG impl_GetKey_g.1 impl_ReadAt_f Try.f7 ⟨7, 2, 24, 48⟩ [] (fun _ _ => rfl) (fun _ _ _ => by kernel_rfl) trivial trivial (fun _ _ _ _ _ => by kernel_rfl)

/-! loop.example/g00244/spec.UnionOf -/
noncomputable def spec_UnionOf_L0_0 (m : Nat) : Nat → T → T → T → (T → An) → An
  | 0, _, _, _, _ => .bad
  | n + 1, x0, x1, x2, k0 =>
    cond (decide (x1.int < (x0.rows.length : Int)))
    (cond (decide ((0 : Int) ≤ x1.int ∧ x1.int < (x0.rows.length : Int)))
    (cond (decide ((0 : Int) ≤ x1.int ∧ x1.int < (x0.rows.length : Int)))
    (spec_PutKey m (T.l x2.rows) ((x0.rows.getD (Int.toNat x1.int) []).getD 0 dflt) (((x0.rows.getD (Int.toNat x1.int) []).drop 1).getD 0 dflt)
    (fun y0 => spec_UnionOf_L0_0 m n x0 (T.i (IntKind.i64.wrap (x1.int + 1))) (T.l y0.rows) k0))
    (.bad))
    (.bad))
    (k0 (T.l x2.rows))
noncomputable def spec_UnionOf : Nat → T → T → (T → An) → An
  | 0, _, _, _ => .bad
  | m + 1, x0, x1, k0 =>
    cond (decide ((0 + x0.rows.length) * 2 ≤ maxRow))
    (spec_UnionOf_L0_0 m m (T.l x1.rows) (T.i 0) (T.l x0.rows)
    (fun y1 => k0 (T.l y1.rows)))
    (.bad)
noncomputable def spec_UnionOf_f : Fs := ⟨17, [.one (.dz [.sc (.str), .sc (.str)] []), .one (.dz [.sc (.str), .sc (.str)] [])], fun m vs k => ap 2 (spec_UnionOf m) vs (lm 1 fun z => k (fRet ⟨[.one (.own (KR 0 0) [.sc (.str), .sc (.str)] [.F, .F] [])], [[none], [none]], [none, none]⟩ z))⟩
noncomputable def spec_UnionOf_l : List Ls := [⟨[0, 1, 0, 1, 1], ⟨[(1, .one (LD [.sc (.str), .sc (.str)])), (5, .one (LA (KI 1) [.sc (.str), .sc (.str)])), (6, .one (LI))], [([4000000], .gone), ((KI 1), .row [.sc (.str), .sc (.str)] [.F, .F] [])]⟩, fun m n vs k => ap 3 (spec_UnionOf_L0_0 m n) vs (lm 1 fun z => k (.exit 0) (fPack ⟨[(5, .one (LA (KI 0) [.sc (.str), .sc (.str)]))], [((KI 0), .row [.sc (.str), .sc (.str)] [.F, .F] [])]⟩ z))⟩]
noncomputable def spec_UnionOf_t : List Fs := spec_UnionOf_f :: impl_ReadAt_t
theorem spec_UnionOf_g : FGood CX prims spec_UnionOf_t ∧ FEqn CX prims spec_UnionOf_f := fnG impl_ReadAt_g.1 spec_UnionOf_f Try.f17 ⟨17, 2, 29, 16⟩ spec_UnionOf_l (fun _ _ => rfl) (fun _ _ _ => by kernel_rfl) ⟨fun _ _ _ => rfl, trivial⟩ ⟨fun _ _ _ _ _ _ => by kernel_rfl, trivial⟩ (fun _ _ _ _ _ => by kernel_rfl)

/-! loop.example/g00244/spec.Tables -/
noncomputable def spec_Tables_L0_0 (m : Nat) : Nat → T → T → T → T → T → T → T → T → T → T → T → T → T → (T → An) → An
  | 0, _, _, _, _, _, _, _, _, _, _, _, _, _, _ => .bad
  | n + 1, x0, x1, x2, x3, x4, x5, x6, x7, x8, x9, x10, x11, x12, k0 =>
    cond (decide (x1.int < (x8.rows.length : Int)))
    (cond (decide ((0 : Int) ≤ x1.int ∧ x1.int < (x8.rows.length : Int)))
    (spec_UnionOf m (T.l x12.rows) (T.l (((x8.rows.getD (Int.toNat x1.int) []).drop 3).getD 0 dflt).rows)
    (fun y0 => spec_Tables_L0_0 m n (T.i (x0.int.toNat : Int)) (T.i (IntKind.i64.wrap (x1.int + 1))) x2 x3 x4 x5 x6 x7 x8 x9 x10 x11 (T.l y0.rows) k0))
    (.bad))
    (k0 (T.l x12.rows))
noncomputable def spec_Tables : Nat → T → T → T → T → T → T → T → T → T → T → (T → An) → An
  | 0, _, _, _, _, _, _, _, _, _, _, _ => .bad
  | m + 1, x0, x1, x2, x3, x4, x5, x6, x7, x8, x9, k0 =>
    spec_Tables_L0_0 m m (T.i 0) (T.i 0) x0 x1 x2 (T.l x3.rows) (T.l x4.rows) x5 (T.l x6.rows) (T.l x7.rows) (T.l x8.rows) (T.l x9.rows) (T.l [])
    (fun y1 => k0 (T.l y1.rows))
noncomputable def spec_Tables_f : Fs := ⟨9, [.agg [AI, AI, AI, .dz [.sc (.int .i64), .sl [.sc (.int .i64), .sc (.str), .sc (.str)], .sc (.int .i64), .sl [.sc (.int .i64)]] [], .dz [.sc (.int .i64), .sc (.bool)] [], AI, .dz [.sc (.int .i64), .sl [.sc (.int .i64), .sc (.int .i64), .sl [.sc (.int .i64), .sc (.str), .sc (.str)]], .sc (.int .i64), .sl [.sc (.str), .sc (.str)], .sl [.sc (.int .i64), .sc (.int .i64), .sl [.sc (.int .i64), .sc (.str), .sc (.str)]]] [], .dz [.sc (.int .i64), .sc (.int .i64), .sc (.int .i64), .sl [.sc (.int .i64), .sc (.str), .sc (.str)], .sc (.bool)] [], .dz [.sc (.int .i64), .sc (.int .i64), .sc (.int .i64), .sl [.sc (.int .i64), .sc (.str), .sc (.str)], .sc (.bool)] [], .dz [.sc (.int .i64), .sl [.sc (.int .i64), .sc (.str), .sc (.str)]] []]], fun m vs k => ap 10 (spec_Tables m) vs (lm 1 fun z => k (fRet ⟨[.one (.own (KR 0 0) [.sc (.str), .sc (.str)] [.F, .F] [])], [[none, none, none, none, none, none, none, none, none, none]], [none]⟩ z))⟩
noncomputable def spec_Tables_l : List Ls := [⟨[0, 1, 0, 1, 1], ⟨[(1, EP 0), (3, .one (LA (KI 1) [.sc (.str), .sc (.str)])), (4, .one (LI))], [((KI 0), .box [LI, LI, LI, LD [.sc (.int .i64), .sl [.sc (.int .i64), .sc (.str), .sc (.str)], .sc (.int .i64), .sl [.sc (.int .i64)]], LD [.sc (.int .i64), .sc (.bool)], LI, LD [.sc (.int .i64), .sl [.sc (.int .i64), .sc (.int .i64), .sl [.sc (.int .i64), .sc (.str), .sc (.str)]], .sc (.int .i64), .sl [.sc (.str), .sc (.str)], .sl [.sc (.int .i64), .sc (.int .i64), .sl [.sc (.int .i64), .sc (.str), .sc (.str)]]], LD [.sc (.int .i64), .sc (.int .i64), .sc (.int .i64), .sl [.sc (.int .i64), .sc (.str), .sc (.str)], .sc (.bool)], LD [.sc (.int .i64), .sc (.int .i64), .sc (.int .i64), .sl [.sc (.int .i64), .sc (.str), .sc (.str)], .sc (.bool)], LD [.sc (.int .i64), .sl [.sc (.int .i64), .sc (.str), .sc (.str)]]]), ((KI 1), .row [.sc (.str), .sc (.str)] [.F, .F] []), ([4000000], .gone)]⟩, fun m n vs k => ap 13 (spec_Tables_L0_0 m n) vs (lm 1 fun z => k (.exit 0) (fPack ⟨[(3, .one (LA (KI 0) [.sc (.str), .sc (.str)]))], [((KI 0), .row [.sc (.str), .sc (.str)] [.F, .F] [])]⟩ z))⟩]
noncomputable def spec_Tables_t : List Fs := spec_Tables_f :: spec_UnionOf_t
theorem spec_Tables_g : FGood CX prims spec_Tables_t ∧ FEqn CX prims spec_Tables_f := fnG spec_UnionOf_g.1 spec_Tables_f Try.f9 ⟨9, 1, 22, 4⟩ spec_Tables_l (fun _ _ => rfl) (fun _ _ _ => by kernel_rfl) ⟨fun _ _ _ => rfl, trivial⟩ ⟨fun _ _ _ _ _ _ => by kernel_rfl, trivial⟩ (fun _ _ _ _ _ => by kernel_rfl)

/-! loop.example/g00244/laws.samePairs -/
noncomputable def laws_samePairs_L0_0 (m : Nat) : Nat → T → T → T → (T → An) → An → An
  | 0, _, _, _, _, _ => .bad
  | n + 1, x0, x1, x2, k0, k1 =>
    cond (decide (x2.int < (x0.rows.length : Int)))
    (cond (decide ((0 : Int) ≤ x2.int ∧ x2.int < (x0.rows.length : Int)))
    (cond (decide ((0 : Int) ≤ x2.int ∧ x2.int < (x1.rows.length : Int)))
    (cond (!((((x0.rows.getD (Int.toNat x2.int) []).getD 0 dflt).str.toList == ((x1.rows.getD (Int.toNat x2.int) []).getD 0 dflt).str.toList) && ((((x0.rows.getD (Int.toNat x2.int) []).getD 1 dflt).str.toList == ((x1.rows.getD (Int.toNat x2.int) []).getD 1 dflt).str.toList) && true)))
    (k0 (T.b false))
    (laws_samePairs_L0_0 m n x0 x1 (T.i (IntKind.i64.wrap (x2.int + 1))) k0 k1))
    (.bad))
    (.bad))
    (k1 )
noncomputable def laws_samePairs : Nat → T → T → (T → An) → An
  | 0, _, _, _ => .bad
  | m + 1, x0, x1, k0 =>
    cond ((x0.rows.length : Int) != (x1.rows.length : Int))
    (k0 (T.b false))
    (laws_samePairs_L0_0 m m (T.l x0.rows) (T.l x1.rows) (T.i 0)
    (fun y0 => k0 y0)
    (k0 (T.b true)))
noncomputable def laws_samePairs_f : Fs := ⟨8, [.one (.dz [.sc (.str), .sc (.str)] []), .one (.dz [.sc (.str), .sc (.str)] [])], fun m vs k => ap 2 (laws_samePairs m) vs (lm 1 fun z => k (fRet ⟨[.one (RB)], [[none], [none]], [none, none]⟩ z))⟩
noncomputable def laws_samePairs_l : List Ls := [⟨[0, 1, 0, 1, 1], ⟨[(0, .one (LD [.sc (.str), .sc (.str)])), (1, .one (LD [.sc (.str), .sc (.str)])), (5, .one (LI))], [([4000000], .gone)]⟩, fun m n vs k => ap 3 (laws_samePairs_L0_0 m n) vs (lm 1 fun z => k .ret (fPack ⟨[(4, .one (LB))], []⟩ z)) (lm 0 fun z => k (.exit 0) (fPack ⟨[], []⟩ z))⟩]
noncomputable def laws_samePairs_t : List Fs := laws_samePairs_f :: spec_Tables_t
theorem laws_samePairs_g : FGood CX prims laws_samePairs_t ∧ FEqn CX prims laws_samePairs_f := fnG spec_Tables_g.1 laws_samePairs_f Try.f8 ⟨8, 2, 26, 16⟩ laws_samePairs_l (fun _ _ => rfl) (fun _ _ _ => by kernel_rfl) ⟨fun _ _ _ => rfl, trivial⟩ ⟨fun _ _ _ _ _ _ => by kernel_rfl, trivial⟩ (fun _ _ _ _ _ => by kernel_rfl)

/-! loop.example/g00244/impl.TablesOf -/
noncomputable def impl_TablesOf_L0_0 (m : Nat) : Nat → T → T → T → T → (T → An) → An
  | 0, _, _, _, _, _ => .bad
  | n + 1, x0, x1, x2, x3, k0 =>
    cond (decide (x2.int < x1.int))
    (cond (decide ((0 : Int) ≤ x2.int ∧ x2.int < (x0.rows.length : Int)))
    (slices_Clone___impl_Pair_impl_Pair_ m (T.l ((x0.rows.getD (Int.toNat x2.int) []).getD 3 dflt).rows)
    (fun y0 => cond (decide ((x3.rows.length + 1) * 1 ≤ maxRow))
    (impl_TablesOf_L0_0 m n x0 x1 (T.i (IntKind.i64.wrap (x2.int + 1))) (T.l (x3.rows ++ [[(T.l y0.rows)]])) k0)
    (.bad)))
    (.bad))
    (k0 (T.l x3.rows))
noncomputable def impl_TablesOf : Nat → T → T → T → T → T → T → T → T → T → T → (T → An) → An
  | 0, _, _, _, _, _, _, _, _, _, _, _ => .bad
  | m + 1, x0, x1, x2, x3, x4, x5, x6, x7, x8, x9, k0 =>
    impl_TablesOf_L0_0 m m (T.l x6.rows) (T.i (x6.rows.length : Int)) (T.i 0) (T.l [])
    (fun y1 => k0 (T.l y1.rows))
noncomputable def impl_TablesOf_f : Fs := ⟨10, [.agg [AI, AI, AI, .dz [.sc (.int .i64), .sl [.sc (.int .i64), .sc (.str), .sc (.str)], .sc (.int .i64), .sl [.sc (.int .i64)]] [], .dz [.sc (.int .i64), .sc (.bool)] [], AI, .dz [.sc (.int .i64), .sl [.sc (.int .i64), .sc (.int .i64), .sl [.sc (.int .i64), .sc (.str), .sc (.str)]], .sc (.int .i64), .sl [.sc (.str), .sc (.str)], .sl [.sc (.int .i64), .sc (.int .i64), .sl [.sc (.int .i64), .sc (.str), .sc (.str)]]] [], .dz [.sc (.int .i64), .sc (.int .i64), .sc (.int .i64), .sl [.sc (.int .i64), .sc (.str), .sc (.str)], .sc (.bool)] [], .dz [.sc (.int .i64), .sc (.int .i64), .sc (.int .i64), .sl [.sc (.int .i64), .sc (.str), .sc (.str)], .sc (.bool)] [], .dz [.sc (.int .i64), .sl [.sc (.int .i64), .sc (.str), .sc (.str)]] []]], fun m vs k => ap 10 (impl_TablesOf m) vs (lm 1 fun z => k (fRet ⟨[.one (.own (KR 0 0) [.sl [.sc (.str), .sc (.str)]] [.O [.F, .F]] [])], [[none, none, none, none, none, none, none, none, none, none]], [none]⟩ z))⟩
noncomputable def impl_TablesOf_l : List Ls := [⟨[0, 1, 0, 1, 1], ⟨[(3, .one (LA (KI 0) [.sl [.sc (.str), .sc (.str)]])), (7, .one (LD [.sc (.int .i64), .sl [.sc (.int .i64), .sc (.int .i64), .sl [.sc (.int .i64), .sc (.str), .sc (.str)]], .sc (.int .i64), .sl [.sc (.str), .sc (.str)], .sl [.sc (.int .i64), .sc (.int .i64), .sl [.sc (.int .i64), .sc (.str), .sc (.str)]]])), (8, .one (LI)), (9, .one (LI))], [((KI 0), .row [.sl [.sc (.str), .sc (.str)]] [.O [.F, .F]] []), ([4000000], .gone)]⟩, fun m n vs k => ap 4 (impl_TablesOf_L0_0 m n) vs (lm 1 fun z => k (.exit 0) (fPack ⟨[(3, .one (LA (KI 0) [.sl [.sc (.str), .sc (.str)]]))], [((KI 0), .row [.sl [.sc (.str), .sc (.str)]] [.O [.F, .F]] [])]⟩ z))⟩]
noncomputable def impl_TablesOf_t : List Fs := impl_TablesOf_f :: laws_samePairs_t
theorem impl_TablesOf_g : FGood CX prims impl_TablesOf_t ∧ FEqn CX prims impl_TablesOf_f := fnG laws_samePairs_g.1 impl_TablesOf_f Try.f10 ⟨10, 1, 22, 4⟩ impl_TablesOf_l (fun _ _ => rfl) (fun _ _ _ => by kernel_rfl) ⟨fun _ _ _ => rfl, trivial⟩ ⟨fun _ _ _ _ _ _ => by kernel_rfl, trivial⟩ (fun _ _ _ _ _ => by kernel_rfl)

/-! loop.example/g00244/laws.FnReads -/
noncomputable def laws_FnReads_L0_0 (m : Nat) : Nat → T → T → T → T → T → T → T → T → T → T → T → T → T → (T → An) → (T → T → T → T → T → T → T → T → T → T → T → T → An) → An
  | 0, _, _, _, _, _, _, _, _, _, _, _, _, _, _, _ => .bad
  | n + 1, x0, x1, x2, x3, x4, x5, x6, x7, x8, x9, x10, x11, x12, k0, k1 =>
    cond (decide (x1.int < (x6.rows.length : Int)))
    (jn (fun (j15 : An) =>
    cond (decide ((0 : Int) ≤ x1.int ∧ x1.int < (x6.rows.length : Int)))
    (cond (decide ((Int.toNat x1.int) < x6.rows.length))
    (impl_ReadAt m x2 x3 x4 (T.l x7.rows) (T.l x8.rows) x5 (T.l x9.rows) (T.l x10.rows) (T.l x11.rows) (T.l x12.rows) ((x6.rows.getD (Int.toNat x1.int) []).getD 0 dflt)
    (fun y12 y13 => cond ((!y13.bool) == false)
    (cond (decide ((0 : Int) ≤ x1.int ∧ x1.int < (x6.rows.length : Int)))
    (cond (decide ((Int.toNat x1.int) < x6.rows.length))
    (cond (!(y12.str.toList == ((x6.rows.getD (Int.toNat x1.int) []).getD 1 dflt).str.toList))
    (k0 (T.b false))
    (j15))
    (.bad))
    (.bad))
    (k0 (T.b false))))
    (.bad))
    (.bad))
    (laws_FnReads_L0_0 m n (T.i (x0.int.toNat : Int)) (T.i (IntKind.i64.wrap (x1.int + 1))) x2 x3 x4 x5 (T.l x6.rows) (T.l x7.rows) (T.l x8.rows) (T.l x9.rows) (T.l x10.rows) (T.l x11.rows) (T.l x12.rows) k0 k1))
    (k1 (T.i (x0.int.toNat : Int)) x2 x3 x4 x5 (T.l x6.rows) (T.l x7.rows) (T.l x8.rows) (T.l x9.rows) (T.l x10.rows) (T.l x11.rows) (T.l x12.rows))
noncomputable def laws_FnReads : Nat → T → (T → An) → An
  | 0, _, _ => .bad
  | m + 1, x0, k0 =>
    laws_big m (T.l x0.rows)
    (fun y0 => cond y0.bool
    (k0 (T.b true))
    (spec_DrawWorld m (T.l x0.rows)
    (fun y1 y2 y3 y4 y5 y6 y7 y8 y9 y10 => impl_Tables m y1 y2 y3 (T.l y4.rows) (T.l y5.rows) y6 (T.l y7.rows) (T.l y8.rows) (T.l y9.rows) (T.l y10.rows)
    (fun y11 => laws_FnReads_L0_0 m m (T.i 0) (T.i 0) y1 y2 y3 y6 (T.l y11.rows) (T.l y4.rows) (T.l y5.rows) (T.l y7.rows) (T.l y8.rows) (T.l y9.rows) (T.l y10.rows)
    (fun y16 => k0 y16)
    (fun y17 y18 y19 y20 y21 y22 y23 y24 y25 y26 y27 y28 => impl_ReadAt m y18 y19 y20 (T.l y23.rows) (T.l y24.rows) y21 (T.l y25.rows) (T.l y26.rows) (T.l y27.rows) (T.l y28.rows) (T.s (⟨#[110, 111, 98, 111, 100, 121]⟩ : ByteArray))
    (fun y29 y30 => cond ((!y30.bool) == true)
    (spec_Tables m y18 y19 y20 (T.l y23.rows) (T.l y24.rows) y21 (T.l y25.rows) (T.l y26.rows) (T.l y27.rows) (T.l y28.rows)
    (fun y31 => laws_samePairs m (T.l y22.rows) (T.l y31.rows)
    (fun y32 => cond (y32.bool == true)
    (impl_TablesOf m y18 y19 y20 (T.l y23.rows) (T.l y24.rows) y21 (T.l y25.rows) (T.l y26.rows) (T.l y27.rows) (T.l y28.rows)
    (fun y33 => k0 (T.b ((y33.rows.length : Int) == (y25.rows.length : Int)))))
    (k0 (T.b false)))))
    (k0 (T.b false))))))))
noncomputable def laws_FnReads_f : Fs := ⟨3, [.one (.fz [.sc (.int .u8)] [])], fun m vs k => ap 1 (laws_FnReads m) vs (lm 1 fun z => k (fRet ⟨[.one (RB)], [[none]], [none]⟩ z))⟩
noncomputable def laws_FnReads_l : List Ls := [⟨[0, 1, 0, 1, 1, 1, 1], ⟨[(3, EP 0), (4, .one (LA (KI 1) [.sc (.str), .sc (.str)])), (5, .one (LI))], [((KI 0), .box [LI, LI, LI, LA (KI 2) [.sc (.int .i64), .sl [.sc (.int .i64), .sc (.str), .sc (.str)], .sc (.int .i64), .sl [.sc (.int .i64)]], LA (KI 3) [.sc (.int .i64), .sc (.bool)], LI, LA (KI 4) [.sc (.int .i64), .sl [.sc (.int .i64), .sc (.int .i64), .sl [.sc (.int .i64), .sc (.str), .sc (.str)]], .sc (.int .i64), .sl [.sc (.str), .sc (.str)], .sl [.sc (.int .i64), .sc (.int .i64), .sl [.sc (.int .i64), .sc (.str), .sc (.str)]]], LA (KI 5) [.sc (.int .i64), .sc (.int .i64), .sc (.int .i64), .sl [.sc (.int .i64), .sc (.str), .sc (.str)], .sc (.bool)], LA (KI 6) [.sc (.int .i64), .sc (.int .i64), .sc (.int .i64), .sl [.sc (.int .i64), .sc (.str), .sc (.str)], .sc (.bool)], LA (KI 7) [.sc (.int .i64), .sl [.sc (.int .i64), .sc (.str), .sc (.str)]]]), ((KI 1), .row [.sc (.str), .sc (.str)] [.F, .F] []), ((KI 2), .row [.sc (.int .i64), .sl [.sc (.int .i64), .sc (.str), .sc (.str)], .sc (.int .i64), .sl [.sc (.int .i64)]] [.F, .F, .F, .F] []), ((KI 3), .row [.sc (.int .i64), .sc (.bool)] [.F, .F] []), ((KI 4), .row [.sc (.int .i64), .sl [.sc (.int .i64), .sc (.int .i64), .sl [.sc (.int .i64), .sc (.str), .sc (.str)]], .sc (.int .i64), .sl [.sc (.str), .sc (.str)], .sl [.sc (.int .i64), .sc (.int .i64), .sl [.sc (.int .i64), .sc (.str), .sc (.str)]]] [.F, .O [.F, .F, .F], .F, .O [.F, .F], .O [.F, .F, .F]] []), ((KI 5), .row [.sc (.int .i64), .sc (.int .i64), .sc (.int .i64), .sl [.sc (.int .i64), .sc (.str), .sc (.str)], .sc (.bool)] [.F, .F, .F, .F, .F] []), ((KI 6), .row [.sc (.int .i64), .sc (.int .i64), .sc (.int .i64), .sl [.sc (.int .i64), .sc (.str), .sc (.str)], .sc (.bool)] [.F, .F, .F, .F, .F] []), ((KI 7), .row [.sc (.int .i64), .sl [.sc (.int .i64), .sc (.str), .sc (.str)]] [.F, .F] [])]⟩, fun m n vs k => ap 13 (laws_FnReads_L0_0 m n) vs (lm 1 fun z => k .ret (fPack ⟨[(2, .one (LB))], []⟩ z)) (lm 12 fun z => k (.exit 0) (fPack ⟨[(3, EP 0), (4, .one (LA (KI 1) [.sc (.str), .sc (.str)]))], [((KI 0), .box [LI, LI, LI, LA (KI 2) [.sc (.int .i64), .sl [.sc (.int .i64), .sc (.str), .sc (.str)], .sc (.int .i64), .sl [.sc (.int .i64)]], LA (KI 3) [.sc (.int .i64), .sc (.bool)], LI, LA (KI 4) [.sc (.int .i64), .sl [.sc (.int .i64), .sc (.int .i64), .sl [.sc (.int .i64), .sc (.str), .sc (.str)]], .sc (.int .i64), .sl [.sc (.str), .sc (.str)], .sl [.sc (.int .i64), .sc (.int .i64), .sl [.sc (.int .i64), .sc (.str), .sc (.str)]]], LA (KI 5) [.sc (.int .i64), .sc (.int .i64), .sc (.int .i64), .sl [.sc (.int .i64), .sc (.str), .sc (.str)], .sc (.bool)], LA (KI 6) [.sc (.int .i64), .sc (.int .i64), .sc (.int .i64), .sl [.sc (.int .i64), .sc (.str), .sc (.str)], .sc (.bool)], LA (KI 7) [.sc (.int .i64), .sl [.sc (.int .i64), .sc (.str), .sc (.str)]]]), ((KI 1), .row [.sc (.str), .sc (.str)] [.F, .F] []), ((KI 2), .row [.sc (.int .i64), .sl [.sc (.int .i64), .sc (.str), .sc (.str)], .sc (.int .i64), .sl [.sc (.int .i64)]] [.F, .F, .F, .F] []), ((KI 3), .row [.sc (.int .i64), .sc (.bool)] [.F, .F] []), ((KI 4), .row [.sc (.int .i64), .sl [.sc (.int .i64), .sc (.int .i64), .sl [.sc (.int .i64), .sc (.str), .sc (.str)]], .sc (.int .i64), .sl [.sc (.str), .sc (.str)], .sl [.sc (.int .i64), .sc (.int .i64), .sl [.sc (.int .i64), .sc (.str), .sc (.str)]]] [.F, .O [.F, .F, .F], .F, .O [.F, .F], .O [.F, .F, .F]] []), ((KI 5), .row [.sc (.int .i64), .sc (.int .i64), .sc (.int .i64), .sl [.sc (.int .i64), .sc (.str), .sc (.str)], .sc (.bool)] [.F, .F, .F, .F, .F] []), ((KI 6), .row [.sc (.int .i64), .sc (.int .i64), .sc (.int .i64), .sl [.sc (.int .i64), .sc (.str), .sc (.str)], .sc (.bool)] [.F, .F, .F, .F, .F] []), ((KI 7), .row [.sc (.int .i64), .sl [.sc (.int .i64), .sc (.str), .sc (.str)]] [.F, .F] [])]⟩ z))⟩]
noncomputable def laws_FnReads_t : List Fs := laws_FnReads_f :: impl_TablesOf_t
theorem laws_FnReads_g : FGood CX prims laws_FnReads_t ∧ FEqn CX prims laws_FnReads_f := fnG impl_TablesOf_g.1 laws_FnReads_f Try.f3 ⟨3, 1, 65, 4⟩ laws_FnReads_l (fun _ _ => rfl) (fun _ _ _ => by kernel_rfl) ⟨fun _ _ _ => rfl, trivial⟩ ⟨fun _ _ _ _ _ _ => by kernel_rfl, trivial⟩ (fun _ _ _ _ _ => by kernel_rfl)

end Go.Proofs.Ytjjonejgbdbnjaa

