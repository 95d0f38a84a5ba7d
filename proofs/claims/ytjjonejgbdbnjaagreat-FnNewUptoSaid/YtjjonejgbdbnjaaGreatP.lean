/- A part of the proof: texts WP: see the last part's opening words. -/
import Derived.Test.YtjjonejgbdbnjaaGreatH
set_option linter.unusedVariables false
set_option linter.unusedSimpArgs false
set_option linter.unnecessarySimpa false
namespace Go.Proofs.YtjjonejgbdbnjaaGreat
open Go Go.E Go.Proofs
def slices_Sort___int_int_ : Nat → T → An
  | _, _ => .bad
noncomputable def slices_Sort___int_int__a : List Arg := [.one (.own [.sc (.int .i64)] [.F] [])]
def slices_Sort___int_int__w (m : Nat) (vs : List T) (k : Ret → An) : An := .bad
theorem slices_Sort___int_int__eq (m : Nat) : ∀ vs k, callK CX prims m 70 (fArgs slices_Sort___int_int__a vs) k = slices_Sort___int_int__w m vs k := by
  intro vs k
  cases m with
  | zero => rfl
  | succ m =>
    refine Eq.trans (b := (primBad (fArgs slices_Sort___int_int__a vs)).bind k) (by kernel_rfl) ?_
    rfl

noncomputable def slices_Sort___int_int__f : Fs := ⟨70, slices_Sort___int_int__a, slices_Sort___int_int__w⟩
noncomputable def slices_Sort___int_int__t : List Fs := slices_Sort___int_int__f :: []
theorem slices_Sort___int_int__g : FGood CX prims slices_Sort___int_int__t ∧ FEqn CX prims slices_Sort___int_int__f := ⟨good_cons good_nil (x := slices_Sort___int_int__f) slices_Sort___int_int__eq, slices_Sort___int_int__eq⟩
def slices_Clone___impl_Op_impl_Op_ : Nat → T → An
  | _, _ => .bad
noncomputable def slices_Clone___impl_Op_impl_Op__a : List Arg := [.one (.dz [.sc (.int .i64), .sc (.str), .sc (.str)] [])]
def slices_Clone___impl_Op_impl_Op__w (m : Nat) (vs : List T) (k : Ret → An) : An := .bad
theorem slices_Clone___impl_Op_impl_Op__eq (m : Nat) : ∀ vs k, callK CX prims m 144 (fArgs slices_Clone___impl_Op_impl_Op__a vs) k = slices_Clone___impl_Op_impl_Op__w m vs k := by
  intro vs k
  cases m with
  | zero => rfl
  | succ m =>
    refine Eq.trans (b := (primBad (fArgs slices_Clone___impl_Op_impl_Op__a vs)).bind k) (by kernel_rfl) ?_
    rfl

noncomputable def slices_Clone___impl_Op_impl_Op__f : Fs := ⟨144, slices_Clone___impl_Op_impl_Op__a, slices_Clone___impl_Op_impl_Op__w⟩
noncomputable def slices_Clone___impl_Op_impl_Op__t : List Fs := slices_Clone___impl_Op_impl_Op__f :: slices_Sort___int_int__t
theorem slices_Clone___impl_Op_impl_Op__g : FGood CX prims slices_Clone___impl_Op_impl_Op__t ∧ FEqn CX prims slices_Clone___impl_Op_impl_Op__f := ⟨good_cons slices_Sort___int_int__g.1 (x := slices_Clone___impl_Op_impl_Op__f) slices_Clone___impl_Op_impl_Op__eq, slices_Clone___impl_Op_impl_Op__eq⟩
def slices_Clone___impl_Pair_impl_Pair_ : Nat → T → (T → An) → An
  | 0, _, _ => .bad
  | m + 1, x0, k0 => cond (decide (x0.rows.length * 2 ≤ maxRow)) (k0 (T.l x0.rows)) .bad
noncomputable def slices_Clone___impl_Pair_impl_Pair__a : List Arg := [.one (.dz [.sc (.str), .sc (.str)] [])]
def slices_Clone___impl_Pair_impl_Pair__w (m : Nat) (vs : List T) (k : Ret → An) : An := slices_Clone___impl_Pair_impl_Pair_ m (vs.headD dflt) (fun z0 => k ⟨[.one (.own [7000000] [.sc (.str), .sc (.str)] [.F, .F] z0.rows)], [[none]], []⟩)
theorem slices_Clone___impl_Pair_impl_Pair__eq (m : Nat) : ∀ vs k, callK CX prims m 80 (fArgs slices_Clone___impl_Pair_impl_Pair__a vs) k = slices_Clone___impl_Pair_impl_Pair__w m vs k := by
  intro vs k
  cases m with
  | zero => rfl
  | succ m =>
    refine Eq.trans (b := ((primClone [.sc (.str), .sc (.str)]) (fArgs slices_Clone___impl_Pair_impl_Pair__a vs)).bind k) (by kernel_rfl) ?_
    refine Eq.trans (b := (cond (decide ((vs.headD dflt).rows.length * 2 ≤ maxRow)) (R3.ok ⟨[.one (.own [7000000] [.sc (.str), .sc (.str)] [.F, .F] (vs.headD dflt).rows)], [[none]], []⟩) .bad).bind k) (by kernel_rfl) ?_
    rw [cond_bind]; rfl

noncomputable def slices_Clone___impl_Pair_impl_Pair__f : Fs := ⟨80, slices_Clone___impl_Pair_impl_Pair__a, slices_Clone___impl_Pair_impl_Pair__w⟩
noncomputable def slices_Clone___impl_Pair_impl_Pair__t : List Fs := slices_Clone___impl_Pair_impl_Pair__f :: slices_Clone___impl_Op_impl_Op__t
theorem slices_Clone___impl_Pair_impl_Pair__g : FGood CX prims slices_Clone___impl_Pair_impl_Pair__t ∧ FEqn CX prims slices_Clone___impl_Pair_impl_Pair__f := ⟨good_cons slices_Clone___impl_Op_impl_Op__g.1 (x := slices_Clone___impl_Pair_impl_Pair__f) slices_Clone___impl_Pair_impl_Pair__eq, slices_Clone___impl_Pair_impl_Pair__eq⟩
def slices_Insert___impl_Pair_impl_Pair_ : Nat → T → T → T → An
  | _, _, _, _ => .bad
noncomputable def slices_Insert___impl_Pair_impl_Pair__a : List Arg := [.one (.own [.sc (.str), .sc (.str)] [.F, .F] []), .one (AI), .one (.own [.sc (.str), .sc (.str)] [.F, .F] [])]
def slices_Insert___impl_Pair_impl_Pair__w (m : Nat) (vs : List T) (k : Ret → An) : An := .bad
theorem slices_Insert___impl_Pair_impl_Pair__eq (m : Nat) : ∀ vs k, callK CX prims m 112 (fArgs slices_Insert___impl_Pair_impl_Pair__a vs) k = slices_Insert___impl_Pair_impl_Pair__w m vs k := by
  intro vs k
  cases m with
  | zero => rfl
  | succ m =>
    refine Eq.trans (b := (primBad (fArgs slices_Insert___impl_Pair_impl_Pair__a vs)).bind k) (by kernel_rfl) ?_
    rfl

noncomputable def slices_Insert___impl_Pair_impl_Pair__f : Fs := ⟨112, slices_Insert___impl_Pair_impl_Pair__a, slices_Insert___impl_Pair_impl_Pair__w⟩
noncomputable def slices_Insert___impl_Pair_impl_Pair__t : List Fs := slices_Insert___impl_Pair_impl_Pair__f :: slices_Clone___impl_Pair_impl_Pair__t
theorem slices_Insert___impl_Pair_impl_Pair__g : FGood CX prims slices_Insert___impl_Pair_impl_Pair__t ∧ FEqn CX prims slices_Insert___impl_Pair_impl_Pair__f := ⟨good_cons slices_Clone___impl_Pair_impl_Pair__g.1 (x := slices_Insert___impl_Pair_impl_Pair__f) slices_Insert___impl_Pair_impl_Pair__eq, slices_Insert___impl_Pair_impl_Pair__eq⟩
def slices_DeleteFunc___impl_Pair_impl_Pair_ : Nat → T → T → An
  | _, _, _ => .bad
noncomputable def slices_DeleteFunc___impl_Pair_impl_Pair__a : List Arg := [.one (.own [.sc (.str), .sc (.str)] [.F, .F] []), .fn 114 [.rpt [.sc (.str)] []]]
def slices_DeleteFunc___impl_Pair_impl_Pair__w (m : Nat) (vs : List T) (k : Ret → An) : An := .bad
theorem slices_DeleteFunc___impl_Pair_impl_Pair__eq (m : Nat) : ∀ vs k, callK CX prims m 113 (fArgs slices_DeleteFunc___impl_Pair_impl_Pair__a vs) k = slices_DeleteFunc___impl_Pair_impl_Pair__w m vs k := by
  intro vs k
  cases m with
  | zero => rfl
  | succ m =>
    refine Eq.trans (b := (primBad (fArgs slices_DeleteFunc___impl_Pair_impl_Pair__a vs)).bind k) (by kernel_rfl) ?_
    rfl

noncomputable def slices_DeleteFunc___impl_Pair_impl_Pair__f : Fs := ⟨113, slices_DeleteFunc___impl_Pair_impl_Pair__a, slices_DeleteFunc___impl_Pair_impl_Pair__w⟩
noncomputable def slices_DeleteFunc___impl_Pair_impl_Pair__t : List Fs := slices_DeleteFunc___impl_Pair_impl_Pair__f :: slices_Insert___impl_Pair_impl_Pair__t
theorem slices_DeleteFunc___impl_Pair_impl_Pair__g : FGood CX prims slices_DeleteFunc___impl_Pair_impl_Pair__t ∧ FEqn CX prims slices_DeleteFunc___impl_Pair_impl_Pair__f := ⟨good_cons slices_Insert___impl_Pair_impl_Pair__g.1 (x := slices_DeleteFunc___impl_Pair_impl_Pair__f) slices_DeleteFunc___impl_Pair_impl_Pair__eq, slices_DeleteFunc___impl_Pair_impl_Pair__eq⟩
def slices_Delete___impl_Rec_impl_Rec_ : Nat → T → T → T → An
  | _, _, _, _ => .bad
noncomputable def slices_Delete___impl_Rec_impl_Rec__a : List Arg := [.one (.own [.sc (.int .i64), .sc (.int .i64), .sl [.sc (.int .i64), .sc (.str), .sc (.str)]] [.F, .F, .F] []), .one (AI), .one (AI)]
def slices_Delete___impl_Rec_impl_Rec__w (m : Nat) (vs : List T) (k : Ret → An) : An := .bad
theorem slices_Delete___impl_Rec_impl_Rec__eq (m : Nat) : ∀ vs k, callK CX prims m 145 (fArgs slices_Delete___impl_Rec_impl_Rec__a vs) k = slices_Delete___impl_Rec_impl_Rec__w m vs k := by
  intro vs k
  cases m with
  | zero => rfl
  | succ m =>
    refine Eq.trans (b := (primBad (fArgs slices_Delete___impl_Rec_impl_Rec__a vs)).bind k) (by kernel_rfl) ?_
    rfl

noncomputable def slices_Delete___impl_Rec_impl_Rec__f : Fs := ⟨145, slices_Delete___impl_Rec_impl_Rec__a, slices_Delete___impl_Rec_impl_Rec__w⟩
noncomputable def slices_Delete___impl_Rec_impl_Rec__t : List Fs := slices_Delete___impl_Rec_impl_Rec__f :: slices_DeleteFunc___impl_Pair_impl_Pair__t
theorem slices_Delete___impl_Rec_impl_Rec__g : FGood CX prims slices_Delete___impl_Rec_impl_Rec__t ∧ FEqn CX prims slices_Delete___impl_Rec_impl_Rec__f := ⟨good_cons slices_DeleteFunc___impl_Pair_impl_Pair__g.1 (x := slices_Delete___impl_Rec_impl_Rec__f) slices_Delete___impl_Rec_impl_Rec__eq, slices_Delete___impl_Rec_impl_Rec__eq⟩
def impl_NoSplit : Nat → T → T → T → T → T → T → T → T → T → T → (T → An) → An
  | 0, _, _, _, _, _, _, _, _, _, _, _ => .bad
  | m + 1, x0, x1, x2, x3, x4, x5, x6, x7, x8, x9, k0 => cond (decide ((nsRows x6.rows).length ≤ maxRow)) (k0 (T.b (nsB (nsRows x6.rows)))) .bad
noncomputable def impl_NoSplit_a : List Arg := [.agg [AI, AI, AI, .dz [.sc (.int .i64), .sl [.sc (.int .i64), .sc (.str), .sc (.str)], .sc (.int .i64), .sl [.sc (.int .i64)]] [], .dz [.sc (.int .i64), .sc (.bool)] [], AI, .dz [.sc (.int .i64), .sl [.sc (.int .i64), .sc (.int .i64), .sl [.sc (.int .i64), .sc (.str), .sc (.str)]], .sc (.int .i64), .sl [.sc (.str), .sc (.str)], .sl [.sc (.int .i64), .sc (.int .i64), .sl [.sc (.int .i64), .sc (.str), .sc (.str)]]] [], .dz [.sc (.int .i64), .sc (.int .i64), .sc (.int .i64), .sl [.sc (.int .i64), .sc (.str), .sc (.str)], .sc (.bool)] [], .dz [.sc (.int .i64), .sc (.int .i64), .sc (.int .i64), .sl [.sc (.int .i64), .sc (.str), .sc (.str)], .sc (.bool)] [], .dz [.sc (.int .i64), .sl [.sc (.int .i64), .sc (.str), .sc (.str)]] []]]
def impl_NoSplit_w (m : Nat) (vs : List T) (k : Ret → An) : An := impl_NoSplit m (vs.headD dflt) (vs.tail.headD dflt) (vs.tail.tail.headD dflt) (vs.tail.tail.tail.headD dflt) (vs.tail.tail.tail.tail.headD dflt) (vs.tail.tail.tail.tail.tail.headD dflt) (vs.tail.tail.tail.tail.tail.tail.headD dflt) (vs.tail.tail.tail.tail.tail.tail.tail.headD dflt) (vs.tail.tail.tail.tail.tail.tail.tail.tail.headD dflt) (vs.tail.tail.tail.tail.tail.tail.tail.tail.tail.headD dflt) (fun z0 => k ⟨[.one (.sc .bool z0)], [List.replicate 10 none], []⟩)
theorem impl_NoSplit_eq (m : Nat) : ∀ vs k, callK CX prims m 9 (fArgs impl_NoSplit_a vs) k = impl_NoSplit_w m vs k := by
  intro vs k
  cases m with
  | zero => rfl
  | succ m =>
    refine Eq.trans (b := (primNoSplit (fArgs impl_NoSplit_a vs)).bind k) (by kernel_rfl) ?_
    refine Eq.trans (b := (cond (decide ((nsRows (vs.tail.tail.tail.tail.tail.tail.headD dflt).rows).length ≤ maxRow)) (R3.ok ⟨[.one (.sc .bool (.b (nsB (nsRows (vs.tail.tail.tail.tail.tail.tail.headD dflt).rows))))], [List.replicate 10 none], []⟩) .bad).bind k) (by kernel_rfl) ?_
    rw [cond_bind]; rfl

noncomputable def impl_NoSplit_f : Fs := ⟨9, impl_NoSplit_a, impl_NoSplit_w⟩
noncomputable def impl_NoSplit_t : List Fs := impl_NoSplit_f :: slices_Delete___impl_Rec_impl_Rec__t
theorem impl_NoSplit_g : FGood CX prims impl_NoSplit_t ∧ FEqn CX prims impl_NoSplit_f := ⟨good_cons slices_Delete___impl_Rec_impl_Rec__g.1 (x := impl_NoSplit_f) impl_NoSplit_eq, impl_NoSplit_eq⟩
/-! loop.example/g00244/laws.big -/
noncomputable def laws_big : Nat → T → (T → An) → An
  | 0, _, _ => .bad
  | m + 1, x0, k0 =>
    k0 (T.b (decide ((x0.rows.length : Int) > 1048576)))
noncomputable def laws_big_f : Fs := ⟨5, [.one (.dz [.sc (.int .u8)] [])], fun m vs k => ap 1 (laws_big m) vs (lm 1 fun z => k (fRet ⟨[.one (RB)], [[none]], [none]⟩ z))⟩
noncomputable def laws_big_t : List Fs := laws_big_f :: impl_NoSplit_t
theorem laws_big_g : FGood CX prims laws_big_t ∧ FEqn CX prims laws_big_f := fnG impl_NoSplit_g.1 laws_big_f Tryz.f5 ⟨5, 1, 6, 4⟩ [] (fun _ _ => rfl) (fun _ _ _ => by kernel_rfl) trivial trivial (fun _ _ _ _ _ => by kernel_rfl)

/-! loop.example/g00244/spec.l1New -/
noncomputable def spec_l1New_L0_0 (m : Nat) : Nat → T → T → T → (T → T → An) → An
  | 0, _, _, _, _ => .bad
  | n + 1, x0, x1, x2, k0 =>
    jn (fun (j1 : An) =>
    cond ((decide (x2.int < (x0.rows.length : Int))) == true)
    (cond (decide (x2.int < 4000))
    (j1)
    (k0 x0 x1))
    (k0 x0 x1))
    (cond (decide ((0 : Int) ≤ x2.int ∧ x2.int < (x0.rows.length : Int)))
    (spec_l1New_L0_0 m n x0 (bvBack .i64 (BitVec.ofInt IntKind.i64.bits (IntKind.i64.wrap ((IntKind.i64.wrap ((IntKind.i64.wrap (x1.int * 137)) + (IntKind.i64.wrap ((x0.rows.getD (Int.toNat x2.int) []).getD 0 dflt).int))) + 11)) &&& BitVec.ofInt IntKind.i64.bits 1073741823)) (T.i (IntKind.i64.wrap (x2.int + 1))) k0)
    (.bad))
noncomputable def spec_l1New : Nat → T → (T → T → T → An) → An
  | 0, _, _ => .bad
  | m + 1, x0, k0 =>
    spec_l1New_L0_0 m m (T.l x0.rows) (T.i (IntKind.i64.wrap (381381 + (x0.rows.length : Int)))) (T.i 0)
    (fun y2 y3 => k0 (T.l y2.rows) (T.i 0) y3)
noncomputable def spec_l1New_f : Fs := ⟨23, [.one (.fz [.sc (.int .u8)] [])], fun m vs k => ap 1 (spec_l1New m) vs (lm 3 fun z => k (fRet ⟨[.bx [2000031] [.fz [.sc (.int .u8)] [], RI, RI]], [[none]], [none]⟩ z))⟩
noncomputable def spec_l1New_l : List Ls := [⟨[0, 1, 0, 1, 1], ⟨[(0, .one (LZ [.sc (.int .u8)])), (3, .one (LI)), (4, .one (LI))], []⟩, fun m n vs k => ap 3 (spec_l1New_L0_0 m n) vs (lm 2 fun z => k (.exit 0) (fPack ⟨[(0, .one (LZ [.sc (.int .u8)])), (3, .one (LI))], []⟩ z))⟩]
noncomputable def spec_l1New_t : List Fs := spec_l1New_f :: laws_big_t
theorem spec_l1New_g : FGood CX prims spec_l1New_t ∧ FEqn CX prims spec_l1New_f := fnG laws_big_g.1 spec_l1New_f Tryz.f23 ⟨23, 1, 32, 4⟩ spec_l1New_l (fun _ _ => rfl) (fun _ _ _ => by kernel_rfl) ⟨fun _ _ _ => rfl, trivial⟩ ⟨fun _ _ _ _ _ _ => by kernel_rfl, trivial⟩ (fun _ _ _ _ _ => by kernel_rfl)

/-! loop.example/g00244/spec.l1Byte -/
noncomputable def spec_l1Byte : Nat → T → T → T → (T → T → T → T → An) → An
  | 0, _, _, _, _ => .bad
  | m + 1, x0, x1, x2, k0 =>
    cond (decide (x1.int < (x0.rows.length : Int)))
    (cond (decide ((0 : Int) ≤ x1.int ∧ x1.int < (x0.rows.length : Int)))
    (k0 (bvBack .i64 (BitVec.ofInt IntKind.i64.bits (IntKind.i64.wrap ((bvBack .i64 (BitVec.ofInt IntKind.i64.bits (bvBack .i64 (BitVec.ofInt IntKind.i64.bits (Int.fdiv (IntKind.i64.wrap ((IntKind.i64.wrap (x2.int * 6364136223846793005)) + 1442695040888963407)) (2 ^ (min (Int.toNat 33) IntKind.i64.bits))) ^^^ BitVec.ofInt IntKind.i64.bits (Int.fdiv (IntKind.i64.wrap ((IntKind.i64.wrap (x2.int * 6364136223846793005)) + 1442695040888963407)) (2 ^ (min (Int.toNat 47) IntKind.i64.bits))))).int &&& BitVec.ofInt IntKind.i64.bits 255)).int + (IntKind.i64.wrap ((x0.rows.getD (Int.toNat x1.int) []).getD 0 dflt).int))) &&& BitVec.ofInt IntKind.i64.bits 255)) (T.l x0.rows) (T.i (IntKind.i64.wrap (x1.int + 1))) (T.i (IntKind.i64.wrap ((IntKind.i64.wrap (x2.int * 6364136223846793005)) + 1442695040888963407))))
    (.bad))
    (k0 (bvBack .i64 (BitVec.ofInt IntKind.i64.bits (bvBack .i64 (BitVec.ofInt IntKind.i64.bits (Int.fdiv (IntKind.i64.wrap ((IntKind.i64.wrap (x2.int * 6364136223846793005)) + 1442695040888963407)) (2 ^ (min (Int.toNat 33) IntKind.i64.bits))) ^^^ BitVec.ofInt IntKind.i64.bits (Int.fdiv (IntKind.i64.wrap ((IntKind.i64.wrap (x2.int * 6364136223846793005)) + 1442695040888963407)) (2 ^ (min (Int.toNat 47) IntKind.i64.bits))))).int &&& BitVec.ofInt IntKind.i64.bits 255)) (T.l x0.rows) x1 (T.i (IntKind.i64.wrap ((IntKind.i64.wrap (x2.int * 6364136223846793005)) + 1442695040888963407))))
noncomputable def spec_l1Byte_f : Fs := ⟨86, [.bx [.fz [.sc (.int .u8)] [], AI, AI]], fun m vs k => ap 3 (spec_l1Byte m) vs (lm 4 fun z => k (fRet ⟨[.one (RI)], [[none, none, none]], [some [.fz [.sc (.int .u8)] [], RI, RI]]⟩ z))⟩
noncomputable def spec_l1Byte_t : List Fs := spec_l1Byte_f :: spec_l1New_t
theorem spec_l1Byte_g : FGood CX prims spec_l1Byte_t ∧ FEqn CX prims spec_l1Byte_f := fnG spec_l1New_g.1 spec_l1Byte_f Tryz.f86 ⟨86, 1, 58, 5⟩ [] (fun _ _ => rfl) (fun _ _ _ => by kernel_rfl) trivial trivial (fun _ _ _ _ _ => by kernel_rfl)

/-! loop.example/g00244/spec.l1Below -/
noncomputable def spec_l1Below : Nat → T → T → T → T → (T → T → T → T → An) → An
  | 0, _, _, _, _, _ => .bad
  | m + 1, x0, x1, x2, x3, k0 =>
    cond (decide (x3.int ≤ 0))
    (k0 (T.i 0) (T.l x0.rows) x1 x2)
    (cond (decide (x3.int ≤ 256))
    (spec_l1Byte m (T.l x0.rows) x1 x2
    (fun y0 y1 y2 y3 => cond (!decide (x3.int = 0))
    (k0 (T.i (Int.tmod y0.int x3.int)) (T.l y1.rows) y2 y3)
    (.bad)))
    (spec_l1Byte m (T.l x0.rows) x1 x2
    (fun y4 y5 y6 y7 => spec_l1Byte m (T.l y5.rows) y6 y7
    (fun y8 y9 y10 y11 => spec_l1Byte m (T.l y9.rows) y10 y11
    (fun y12 y13 y14 y15 => cond (!decide (x3.int = 0))
    (k0 (T.i (Int.tmod (IntKind.i64.wrap ((IntKind.i64.wrap ((IntKind.i64.wrap (y4.int * 65536)) + (IntKind.i64.wrap (y8.int * 256)))) + y12.int)) x3.int)) (T.l y13.rows) y14 y15)
    (.bad))))))
noncomputable def spec_l1Below_f : Fs := ⟨54, [.bx [.fz [.sc (.int .u8)] [], AI, AI], .one (AI)], fun m vs k => ap 4 (spec_l1Below m) vs (lm 4 fun z => k (fRet ⟨[.one (RI)], [[none, none, none], [none]], [some [.fz [.sc (.int .u8)] [], RI, RI], none]⟩ z))⟩
noncomputable def spec_l1Below_t : List Fs := spec_l1Below_f :: spec_l1Byte_t
theorem spec_l1Below_g : FGood CX prims spec_l1Below_t ∧ FEqn CX prims spec_l1Below_f := fnG spec_l1Byte_g.1 spec_l1Below_f Tryz.f54 ⟨54, 2, 31, 17⟩ [] (fun _ _ => rfl) (fun _ _ _ => by kernel_rfl) trivial trivial (fun _ _ _ _ _ => by kernel_rfl)

/-! loop.example/g00244/spec.l1Int -/
noncomputable def spec_l1Int : Nat → T → T → T → T → (T → T → T → T → An) → An
  | 0, _, _, _, _, _ => .bad
  | m + 1, x0, x1, x2, x3, k0 =>
    spec_l1Below m (T.l x0.rows) x1 x2 (T.i (x3.rows.length : Int))
    (fun y0 y1 y2 y3 => cond (decide ((0 : Int) ≤ y0.int ∧ y0.int < (x3.rows.length : Int)))
    (k0 ((x3.rows.getD (Int.toNat y0.int) []).getD 0 dflt) (T.l y1.rows) y2 y3)
    (.bad))
noncomputable def spec_l1Int_f : Fs := ⟨41, [.bx [.fz [.sc (.int .u8)] [], AI, AI], .one (.dz [.sc (.int .i64)] [])], fun m vs k => ap 4 (spec_l1Int m) vs (lm 4 fun z => k (fRet ⟨[.one (RI)], [[none, none, none], [none]], [some [.fz [.sc (.int .u8)] [], RI, RI], none]⟩ z))⟩
noncomputable def spec_l1Int_t : List Fs := spec_l1Int_f :: spec_l1Below_t
theorem spec_l1Int_g : FGood CX prims spec_l1Int_t ∧ FEqn CX prims spec_l1Int_f := fnG spec_l1Below_g.1 spec_l1Int_f Tryz.f41 ⟨41, 2, 12, 17⟩ [] (fun _ _ => rfl) (fun _ _ _ => by kernel_rfl) trivial trivial (fun _ _ _ _ _ => by kernel_rfl)

/-! loop.example/g00244/spec.DrawWorldNew -/
noncomputable def spec_DrawWorldNew : Nat → T → (T → An) → An
  | 0, _, _ => .bad
  | m + 1, x0, k0 =>
    spec_l1New m (T.l x0.rows)
    (fun y0 y1 y2 => spec_l1Int m (T.l y0.rows) y1 y2 (T.l [[(T.i 1)], [(T.i 3)], [(T.i 8)], [(T.i 9)], [(T.i 0)]])
    (fun y3 y4 y5 y6 => k0 y3))
noncomputable def spec_DrawWorldNew_f : Fs := ⟨14, [.one (.fz [.sc (.int .u8)] [])], fun m vs k => ap 1 (spec_DrawWorldNew m) vs (lm 1 fun z => k (fRet ⟨[.one (RI)], [[none]], [none]⟩ z))⟩
noncomputable def spec_DrawWorldNew_t : List Fs := spec_DrawWorldNew_f :: spec_l1Int_t
theorem spec_DrawWorldNew_g : FGood CX prims spec_DrawWorldNew_t ∧ FEqn CX prims spec_DrawWorldNew_f := fnG spec_l1Int_g.1 spec_DrawWorldNew_f Tryz.f14 ⟨14, 1, 9, 4⟩ [] (fun _ _ => rfl) (fun _ _ _ => by kernel_rfl) trivial trivial (fun _ _ _ _ _ => by kernel_rfl)

/-! loop.example/g00244/impl.inRange -/
noncomputable def impl_inRange : Nat → T → T → T → (T → An) → An
  | 0, _, _, _, _ => .bad
  | m + 1, x0, x1, x2, k0 =>
    cond ((decide (x0.int ≥ x1.int)) == true)
    (k0 (T.b (decide (x0.int ≤ x2.int))))
    (k0 (T.b false))
noncomputable def impl_inRange_f : Fs := ⟨42, [.one (AI), .one (AI), .one (AI)], fun m vs k => ap 3 (impl_inRange m) vs (lm 1 fun z => k (fRet ⟨[.one (RB)], [[none], [none], [none]], [none, none, none]⟩ z))⟩
noncomputable def impl_inRange_t : List Fs := impl_inRange_f :: spec_DrawWorldNew_t
theorem impl_inRange_g : FGood CX prims impl_inRange_t ∧ FEqn CX prims impl_inRange_f := fnG spec_DrawWorldNew_g.1 impl_inRange_f Tryz.f42 ⟨42, 3, 15, 64⟩ [] (fun _ _ => rfl) (fun _ _ _ => by kernel_rfl) trivial trivial (fun _ _ _ _ _ => by kernel_rfl)

/-! loop.example/g00244/impl.CoordNew -/
noncomputable def impl_CoordNew : Nat → T → (T → T → T → T → T → T → An) → An
  | 0, _, _ => .bad
  | m + 1, x0, k0 =>
    impl_inRange m x0 (T.i 1) (T.i 8)
    (fun y0 => cond (!y0.bool)
    (k0 (T.i 0) (T.i 0) (T.i 0) (T.l []) (T.l []) (T.i 0))
    (k0 x0 (T.i 1) (T.i 0) (T.l []) (T.l []) (T.i 0)))
noncomputable def impl_CoordNew_f : Fs := ⟨22, [.one (AI)], fun m vs k => ap 1 (impl_CoordNew m) vs (lm 6 fun z => k (fRet ⟨[.agg [RI, RI, RI, .own (KR 0 3) [.sc (.int .i64), .sl [.sc (.int .i64), .sc (.str), .sc (.str)], .sc (.int .i64), .sl [.sc (.int .i64)]] [.F, .F, .F, .O [.F]] [], .own (KR 0 4) [.sc (.int .i64), .sc (.bool)] [.F, .F] [], RI]], [[none]], [none]⟩ z))⟩
noncomputable def impl_CoordNew_t : List Fs := impl_CoordNew_f :: impl_inRange_t
theorem impl_CoordNew_g : FGood CX prims impl_CoordNew_t ∧ FEqn CX prims impl_CoordNew_f := fnG impl_inRange_g.1 impl_CoordNew_f Tryz.f22 ⟨22, 1, 9, 4⟩ [] (fun _ _ => rfl) (fun _ _ _ => by kernel_rfl) trivial trivial (fun _ _ _ _ _ => by kernel_rfl)

/-! loop.example/g00244/impl.isId -/
noncomputable def impl_isId : Nat → T → (T → An) → An
  | 0, _, _ => .bad
  | m + 1, x0, k0 =>
    impl_inRange m x0 (T.i 0) (T.i 7)
    (fun y0 => k0 y0)
noncomputable def impl_isId_f : Fs := ⟨73, [.one (AI)], fun m vs k => ap 1 (impl_isId m) vs (lm 1 fun z => k (fRet ⟨[.one (RB)], [[none]], [none]⟩ z))⟩
noncomputable def impl_isId_t : List Fs := impl_isId_f :: impl_CoordNew_t
theorem impl_isId_g : FGood CX prims impl_isId_t ∧ FEqn CX prims impl_isId_f := fnG impl_CoordNew_g.1 impl_isId_f Tryz.f73 ⟨73, 1, 5, 4⟩ [] (fun _ _ => rfl) (fun _ _ _ => by kernel_rfl) trivial trivial (fun _ _ _ _ _ => by kernel_rfl)

/-! loop.example/g00244/impl.ShardNew -/
noncomputable def impl_ShardNew : Nat → T → (T → T → T → T → T → An) → An
  | 0, _, _ => .bad
  | m + 1, x0, k0 =>
    impl_isId m x0
    (fun y0 => cond (!y0.bool)
    (k0 (T.i 0) (T.l []) (T.i 0) (T.l []) (T.l []))
    (k0 x0 (T.l []) (T.i 0) (T.l []) (T.l [])))
noncomputable def impl_ShardNew_f : Fs := ⟨43, [.one (AI)], fun m vs k => ap 1 (impl_ShardNew m) vs (lm 5 fun z => k (fRet ⟨[.agg [RI, .own (KR 0 1) [.sc (.int .i64), .sc (.int .i64), .sl [.sc (.int .i64), .sc (.str), .sc (.str)]] [.F, .F, .F] [], RI, .own (KR 0 3) [.sc (.str), .sc (.str)] [.F, .F] [], .own (KR 0 4) [.sc (.int .i64), .sc (.int .i64), .sl [.sc (.int .i64), .sc (.str), .sc (.str)]] [.F, .F, .F] []]], [[none]], [none]⟩ z))⟩
noncomputable def impl_ShardNew_t : List Fs := impl_ShardNew_f :: impl_isId_t
theorem impl_ShardNew_g : FGood CX prims impl_ShardNew_t ∧ FEqn CX prims impl_ShardNew_f := fnG impl_isId_g.1 impl_ShardNew_f Tryz.f43 ⟨43, 1, 9, 4⟩ [] (fun _ _ => rfl) (fun _ _ _ => by kernel_rfl) trivial trivial (fun _ _ _ _ _ => by kernel_rfl)

/-! loop.example/g00244/impl.WorldNew -/
noncomputable def impl_WorldNew_L0_0 (m : Nat) : Nat → T → T → T → T → T → T → T → T → T → T → T → T → T → T → T → T → T → T → T → T → T → T → T → T → (T → T → T → T → T → T → T → T → T → T → T → T → T → T → T → T → T → T → T → T → T → T → An) → An
  | 0, _, _, _, _, _, _, _, _, _, _, _, _, _, _, _, _, _, _, _, _, _, _, _, _, _ => .bad
  | n + 1, x0, x1, x2, x3, x4, x5, x6, x7, x8, x9, x10, x11, x12, x13, x14, x15, x16, x17, x18, x19, x20, x21, x22, x23, k0 =>
    cond (decide (x3.int < x2.int))
    (impl_ShardNew m x3
    (fun y7 y8 y9 y10 y11 => cond (decide ((x20.rows.length + 1) * 5 ≤ maxRow))
    (impl_WorldNew_L0_0 m n (T.i (x0.int.toNat : Int)) (T.i (x1.int.toNat : Int)) x2 (T.i (IntKind.i64.wrap (x3.int + 1))) x4 x5 x6 x7 x8 x9 x10 x11 (T.l x12.rows) (T.l x13.rows) (T.l x14.rows) (T.l x15.rows) (T.l x16.rows) (T.l x17.rows) (T.l x18.rows) (T.l x19.rows) (T.l (x20.rows ++ [[y7, (T.l y8.rows), y9, (T.l y10.rows), (T.l y11.rows)]])) (T.l x21.rows) (T.l x22.rows) (T.l x23.rows) k0)
    (.bad)))
    (k0 (T.i (x0.int.toNat : Int)) (T.i (x1.int.toNat : Int)) x4 x5 x6 x7 x8 x9 x10 x11 (T.l x12.rows) (T.l x13.rows) (T.l x14.rows) (T.l x15.rows) (T.l x16.rows) (T.l x17.rows) (T.l x18.rows) (T.l x19.rows) (T.l x20.rows) (T.l x21.rows) (T.l x22.rows) (T.l x23.rows))
noncomputable def impl_WorldNew : Nat → T → (T → T → T → T → T → T → T → T → T → T → An) → An
  | 0, _, _ => .bad
  | m + 1, x0, k0 =>
    impl_inRange m x0 (T.i 1) (T.i 8)
    (fun y0 => cond (!y0.bool)
    (k0 (T.i 0) (T.i 0) (T.i 0) (T.l []) (T.l []) (T.i 0) (T.l []) (T.l []) (T.l []) (T.l []))
    (impl_CoordNew m x0
    (fun y1 y2 y3 y4 y5 y6 => impl_WorldNew_L0_0 m m (T.i 0) (T.i 0) x0 (T.i 0) (T.i 0) (T.i 0) (T.i 0) (T.i 0) y1 y2 y3 y6 (T.l []) (T.l []) (T.l []) (T.l []) (T.l []) (T.l []) (T.l y4.rows) (T.l y5.rows) (T.l []) (T.l []) (T.l []) (T.l [])
    (fun y12 y13 y14 y15 y16 y17 y18 y19 y20 y21 y22 y23 y24 y25 y26 y27 y28 y29 y30 y31 y32 y33 => k0 y18 y19 y20 (T.l y28.rows) (T.l y29.rows) y21 (T.l y30.rows) (T.l y31.rows) (T.l y32.rows) (T.l y33.rows)))))
noncomputable def impl_WorldNew_f : Fs := ⟨15, [.one (AI)], fun m vs k => ap 1 (impl_WorldNew m) vs (lm 10 fun z => k (fRet ⟨[.agg [RI, RI, RI, .own (KR 0 3) [.sc (.int .i64), .sl [.sc (.int .i64), .sc (.str), .sc (.str)], .sc (.int .i64), .sl [.sc (.int .i64)]] [.F, .F, .F, .O [.F]] [], .own (KR 0 4) [.sc (.int .i64), .sc (.bool)] [.F, .F] [], RI, .own (KR 0 6) [.sc (.int .i64), .sl [.sc (.int .i64), .sc (.int .i64), .sl [.sc (.int .i64), .sc (.str), .sc (.str)]], .sc (.int .i64), .sl [.sc (.str), .sc (.str)], .sl [.sc (.int .i64), .sc (.int .i64), .sl [.sc (.int .i64), .sc (.str), .sc (.str)]]] [.F, .O [.F, .F, .F], .F, .O [.F, .F], .O [.F, .F, .F]] [], .own (KR 0 7) [.sc (.int .i64), .sc (.int .i64), .sc (.int .i64), .sl [.sc (.int .i64), .sc (.str), .sc (.str)], .sc (.bool)] [.F, .F, .F, .F, .F] [], .own (KR 0 8) [.sc (.int .i64), .sc (.int .i64), .sc (.int .i64), .sl [.sc (.int .i64), .sc (.str), .sc (.str)], .sc (.bool)] [.F, .F, .F, .F, .F] [], .own (KR 0 9) [.sc (.int .i64), .sl [.sc (.int .i64), .sc (.str), .sc (.str)]] [.F, .F] []]], [[none]], [none]⟩ z))⟩
noncomputable def impl_WorldNew_l : List Ls := [⟨[0, 1, 0, 1, 1, 1], ⟨[(2, EP 0), (3, EP 1), (12, .one (LI)), (13, .one (LI))], [((KI 0), .box [LI, LI, LI, LA (KI 2) [.sc (.int .i64), .sl [.sc (.int .i64), .sc (.str), .sc (.str)], .sc (.int .i64), .sl [.sc (.int .i64)]], LA (KI 3) [.sc (.int .i64), .sc (.bool)], LI, LA (KI 4) [.sc (.int .i64), .sl [.sc (.int .i64), .sc (.int .i64), .sl [.sc (.int .i64), .sc (.str), .sc (.str)]], .sc (.int .i64), .sl [.sc (.str), .sc (.str)], .sl [.sc (.int .i64), .sc (.int .i64), .sl [.sc (.int .i64), .sc (.str), .sc (.str)]]], LA (KI 5) [.sc (.int .i64), .sc (.int .i64), .sc (.int .i64), .sl [.sc (.int .i64), .sc (.str), .sc (.str)], .sc (.bool)], LA (KI 6) [.sc (.int .i64), .sc (.int .i64), .sc (.int .i64), .sl [.sc (.int .i64), .sc (.str), .sc (.str)], .sc (.bool)], LA (KI 7) [.sc (.int .i64), .sl [.sc (.int .i64), .sc (.str), .sc (.str)]]]), ((KI 1), .box [LI, LI, LI, LA (KI 8) [.sc (.int .i64), .sl [.sc (.int .i64), .sc (.str), .sc (.str)], .sc (.int .i64), .sl [.sc (.int .i64)]], LA (KI 9) [.sc (.int .i64), .sc (.bool)], LI, LA (KI 10) [.sc (.int .i64), .sl [.sc (.int .i64), .sc (.int .i64), .sl [.sc (.int .i64), .sc (.str), .sc (.str)]], .sc (.int .i64), .sl [.sc (.str), .sc (.str)], .sl [.sc (.int .i64), .sc (.int .i64), .sl [.sc (.int .i64), .sc (.str), .sc (.str)]]], LA (KI 11) [.sc (.int .i64), .sc (.int .i64), .sc (.int .i64), .sl [.sc (.int .i64), .sc (.str), .sc (.str)], .sc (.bool)], LA (KI 12) [.sc (.int .i64), .sc (.int .i64), .sc (.int .i64), .sl [.sc (.int .i64), .sc (.str), .sc (.str)], .sc (.bool)], LA (KI 13) [.sc (.int .i64), .sl [.sc (.int .i64), .sc (.str), .sc (.str)]]]), ((KI 2), .row [.sc (.int .i64), .sl [.sc (.int .i64), .sc (.str), .sc (.str)], .sc (.int .i64), .sl [.sc (.int .i64)]] [.F, .F, .F, .O [.F]] []), ((KI 3), .row [.sc (.int .i64), .sc (.bool)] [.F, .F] []), ((KI 4), .row [.sc (.int .i64), .sl [.sc (.int .i64), .sc (.int .i64), .sl [.sc (.int .i64), .sc (.str), .sc (.str)]], .sc (.int .i64), .sl [.sc (.str), .sc (.str)], .sl [.sc (.int .i64), .sc (.int .i64), .sl [.sc (.int .i64), .sc (.str), .sc (.str)]]] [.F, .O [.F, .F, .F], .F, .O [.F, .F], .O [.F, .F, .F]] []), ((KI 5), .row [.sc (.int .i64), .sc (.int .i64), .sc (.int .i64), .sl [.sc (.int .i64), .sc (.str), .sc (.str)], .sc (.bool)] [.F, .F, .F, .F, .F] []), ((KI 6), .row [.sc (.int .i64), .sc (.int .i64), .sc (.int .i64), .sl [.sc (.int .i64), .sc (.str), .sc (.str)], .sc (.bool)] [.F, .F, .F, .F, .F] []), ((KI 7), .row [.sc (.int .i64), .sl [.sc (.int .i64), .sc (.str), .sc (.str)]] [.F, .F] []), ((KI 8), .row [.sc (.int .i64), .sl [.sc (.int .i64), .sc (.str), .sc (.str)], .sc (.int .i64), .sl [.sc (.int .i64)]] [.F, .F, .F, .O [.F]] []), ((KI 9), .row [.sc (.int .i64), .sc (.bool)] [.F, .F] []), ((KI 10), .row [.sc (.int .i64), .sl [.sc (.int .i64), .sc (.int .i64), .sl [.sc (.int .i64), .sc (.str), .sc (.str)]], .sc (.int .i64), .sl [.sc (.str), .sc (.str)], .sl [.sc (.int .i64), .sc (.int .i64), .sl [.sc (.int .i64), .sc (.str), .sc (.str)]]] [.F, .O [.F, .F, .F], .F, .O [.F, .F], .O [.F, .F, .F]] []), ((KI 11), .row [.sc (.int .i64), .sc (.int .i64), .sc (.int .i64), .sl [.sc (.int .i64), .sc (.str), .sc (.str)], .sc (.bool)] [.F, .F, .F, .F, .F] []), ((KI 12), .row [.sc (.int .i64), .sc (.int .i64), .sc (.int .i64), .sl [.sc (.int .i64), .sc (.str), .sc (.str)], .sc (.bool)] [.F, .F, .F, .F, .F] []), ((KI 13), .row [.sc (.int .i64), .sl [.sc (.int .i64), .sc (.str), .sc (.str)]] [.F, .F] [])]⟩, fun m n vs k => ap 24 (impl_WorldNew_L0_0 m n) vs (lm 22 fun z => k (.exit 0) (fPack ⟨[(2, EP 0), (3, EP 1)], [((KI 0), .box [LI, LI, LI, LA (KI 2) [.sc (.int .i64), .sl [.sc (.int .i64), .sc (.str), .sc (.str)], .sc (.int .i64), .sl [.sc (.int .i64)]], LA (KI 3) [.sc (.int .i64), .sc (.bool)], LI, LA (KI 4) [.sc (.int .i64), .sl [.sc (.int .i64), .sc (.int .i64), .sl [.sc (.int .i64), .sc (.str), .sc (.str)]], .sc (.int .i64), .sl [.sc (.str), .sc (.str)], .sl [.sc (.int .i64), .sc (.int .i64), .sl [.sc (.int .i64), .sc (.str), .sc (.str)]]], LA (KI 5) [.sc (.int .i64), .sc (.int .i64), .sc (.int .i64), .sl [.sc (.int .i64), .sc (.str), .sc (.str)], .sc (.bool)], LA (KI 6) [.sc (.int .i64), .sc (.int .i64), .sc (.int .i64), .sl [.sc (.int .i64), .sc (.str), .sc (.str)], .sc (.bool)], LA (KI 7) [.sc (.int .i64), .sl [.sc (.int .i64), .sc (.str), .sc (.str)]]]), ((KI 1), .box [LI, LI, LI, LA (KI 8) [.sc (.int .i64), .sl [.sc (.int .i64), .sc (.str), .sc (.str)], .sc (.int .i64), .sl [.sc (.int .i64)]], LA (KI 9) [.sc (.int .i64), .sc (.bool)], LI, LA (KI 10) [.sc (.int .i64), .sl [.sc (.int .i64), .sc (.int .i64), .sl [.sc (.int .i64), .sc (.str), .sc (.str)]], .sc (.int .i64), .sl [.sc (.str), .sc (.str)], .sl [.sc (.int .i64), .sc (.int .i64), .sl [.sc (.int .i64), .sc (.str), .sc (.str)]]], LA (KI 11) [.sc (.int .i64), .sc (.int .i64), .sc (.int .i64), .sl [.sc (.int .i64), .sc (.str), .sc (.str)], .sc (.bool)], LA (KI 12) [.sc (.int .i64), .sc (.int .i64), .sc (.int .i64), .sl [.sc (.int .i64), .sc (.str), .sc (.str)], .sc (.bool)], LA (KI 13) [.sc (.int .i64), .sl [.sc (.int .i64), .sc (.str), .sc (.str)]]]), ((KI 2), .row [.sc (.int .i64), .sl [.sc (.int .i64), .sc (.str), .sc (.str)], .sc (.int .i64), .sl [.sc (.int .i64)]] [.F, .F, .F, .O [.F]] []), ((KI 3), .row [.sc (.int .i64), .sc (.bool)] [.F, .F] []), ((KI 4), .row [.sc (.int .i64), .sl [.sc (.int .i64), .sc (.int .i64), .sl [.sc (.int .i64), .sc (.str), .sc (.str)]], .sc (.int .i64), .sl [.sc (.str), .sc (.str)], .sl [.sc (.int .i64), .sc (.int .i64), .sl [.sc (.int .i64), .sc (.str), .sc (.str)]]] [.F, .O [.F, .F, .F], .F, .O [.F, .F], .O [.F, .F, .F]] []), ((KI 5), .row [.sc (.int .i64), .sc (.int .i64), .sc (.int .i64), .sl [.sc (.int .i64), .sc (.str), .sc (.str)], .sc (.bool)] [.F, .F, .F, .F, .F] []), ((KI 6), .row [.sc (.int .i64), .sc (.int .i64), .sc (.int .i64), .sl [.sc (.int .i64), .sc (.str), .sc (.str)], .sc (.bool)] [.F, .F, .F, .F, .F] []), ((KI 7), .row [.sc (.int .i64), .sl [.sc (.int .i64), .sc (.str), .sc (.str)]] [.F, .F] []), ((KI 8), .row [.sc (.int .i64), .sl [.sc (.int .i64), .sc (.str), .sc (.str)], .sc (.int .i64), .sl [.sc (.int .i64)]] [.F, .F, .F, .O [.F]] []), ((KI 9), .row [.sc (.int .i64), .sc (.bool)] [.F, .F] []), ((KI 10), .row [.sc (.int .i64), .sl [.sc (.int .i64), .sc (.int .i64), .sl [.sc (.int .i64), .sc (.str), .sc (.str)]], .sc (.int .i64), .sl [.sc (.str), .sc (.str)], .sl [.sc (.int .i64), .sc (.int .i64), .sl [.sc (.int .i64), .sc (.str), .sc (.str)]]] [.F, .O [.F, .F, .F], .F, .O [.F, .F], .O [.F, .F, .F]] []), ((KI 11), .row [.sc (.int .i64), .sc (.int .i64), .sc (.int .i64), .sl [.sc (.int .i64), .sc (.str), .sc (.str)], .sc (.bool)] [.F, .F, .F, .F, .F] []), ((KI 12), .row [.sc (.int .i64), .sc (.int .i64), .sc (.int .i64), .sl [.sc (.int .i64), .sc (.str), .sc (.str)], .sc (.bool)] [.F, .F, .F, .F, .F] []), ((KI 13), .row [.sc (.int .i64), .sl [.sc (.int .i64), .sc (.str), .sc (.str)]] [.F, .F] [])]⟩ z))⟩]
noncomputable def impl_WorldNew_t : List Fs := impl_WorldNew_f :: impl_ShardNew_t
theorem impl_WorldNew_g : FGood CX prims impl_WorldNew_t ∧ FEqn CX prims impl_WorldNew_f := fnG impl_ShardNew_g.1 impl_WorldNew_f Tryz.f15 ⟨15, 1, 25, 4⟩ impl_WorldNew_l (fun _ _ => rfl) (fun _ _ _ => by kernel_rfl) ⟨fun _ _ _ => rfl, trivial⟩ ⟨fun _ _ _ _ _ _ => by kernel_rfl, trivial⟩ (fun _ _ _ _ _ => by kernel_rfl)

/-! loop.example/g00244/spec.l1In -/
noncomputable def spec_l1In : Nat → T → T → T → (T → An) → An
  | 0, _, _, _, _ => .bad
  | m + 1, x0, x1, x2, k0 =>
    cond ((decide (x0.int ≥ x1.int)) == true)
    (k0 (T.b (decide (x0.int ≤ x2.int))))
    (k0 (T.b false))
noncomputable def spec_l1In_f : Fs := ⟨44, [.one (AI), .one (AI), .one (AI)], fun m vs k => ap 3 (spec_l1In m) vs (lm 1 fun z => k (fRet ⟨[.one (RB)], [[none], [none], [none]], [none, none, none]⟩ z))⟩
noncomputable def spec_l1In_t : List Fs := spec_l1In_f :: impl_WorldNew_t
theorem spec_l1In_g : FGood CX prims spec_l1In_t ∧ FEqn CX prims spec_l1In_f := fnG impl_WorldNew_g.1 spec_l1In_f Tryz.f44 ⟨44, 3, 15, 64⟩ [] (fun _ _ => rfl) (fun _ _ _ => by kernel_rfl) trivial trivial (fun _ _ _ _ _ => by kernel_rfl)

/-! loop.example/g00244/spec.CoordNew -/
noncomputable def spec_CoordNew : Nat → T → (T → T → T → T → T → T → An) → An
  | 0, _, _ => .bad
  | m + 1, x0, k0 =>
    spec_l1In m x0 (T.i 1) (T.i 8)
    (fun y0 => cond (!y0.bool)
    (k0 (T.i 0) (T.i 0) (T.i 0) (T.l []) (T.l []) (T.i 0))
    (k0 x0 (T.i 1) (T.i 0) (T.l []) (T.l []) (T.i 0)))
noncomputable def spec_CoordNew_f : Fs := ⟨45, [.one (AI)], fun m vs k => ap 1 (spec_CoordNew m) vs (lm 6 fun z => k (fRet ⟨[.agg [RI, RI, RI, .own (KR 0 3) [.sc (.int .i64), .sl [.sc (.int .i64), .sc (.str), .sc (.str)], .sc (.int .i64), .sl [.sc (.int .i64)]] [.F, .F, .F, .F] [], .own (KR 0 4) [.sc (.int .i64), .sc (.bool)] [.F, .F] [], RI]], [[none]], [none]⟩ z))⟩
noncomputable def spec_CoordNew_t : List Fs := spec_CoordNew_f :: spec_l1In_t
theorem spec_CoordNew_g : FGood CX prims spec_CoordNew_t ∧ FEqn CX prims spec_CoordNew_f := fnG spec_l1In_g.1 spec_CoordNew_f Tryz.f45 ⟨45, 1, 9, 4⟩ [] (fun _ _ => rfl) (fun _ _ _ => by kernel_rfl) trivial trivial (fun _ _ _ _ _ => by kernel_rfl)

/-! loop.example/g00244/spec.ShardNew -/
noncomputable def spec_ShardNew : Nat → T → (T → T → T → T → T → An) → An
  | 0, _, _ => .bad
  | m + 1, x0, k0 =>
    spec_l1In m x0 (T.i 0) (T.i 7)
    (fun y0 => cond (!y0.bool)
    (k0 (T.i 0) (T.l []) (T.i 0) (T.l []) (T.l []))
    (k0 x0 (T.l []) (T.i 0) (T.l []) (T.l [])))
noncomputable def spec_ShardNew_f : Fs := ⟨46, [.one (AI)], fun m vs k => ap 1 (spec_ShardNew m) vs (lm 5 fun z => k (fRet ⟨[.agg [RI, .own (KR 0 1) [.sc (.int .i64), .sc (.int .i64), .sl [.sc (.int .i64), .sc (.str), .sc (.str)]] [.F, .F, .F] [], RI, .own (KR 0 3) [.sc (.str), .sc (.str)] [.F, .F] [], .own (KR 0 4) [.sc (.int .i64), .sc (.int .i64), .sl [.sc (.int .i64), .sc (.str), .sc (.str)]] [.F, .F, .F] []]], [[none]], [none]⟩ z))⟩
noncomputable def spec_ShardNew_t : List Fs := spec_ShardNew_f :: spec_CoordNew_t
theorem spec_ShardNew_g : FGood CX prims spec_ShardNew_t ∧ FEqn CX prims spec_ShardNew_f := fnG spec_CoordNew_g.1 spec_ShardNew_f Tryz.f46 ⟨46, 1, 9, 4⟩ [] (fun _ _ => rfl) (fun _ _ _ => by kernel_rfl) trivial trivial (fun _ _ _ _ _ => by kernel_rfl)

/-! loop.example/g00244/spec.WorldNew -/
noncomputable def spec_WorldNew_L0_0 (m : Nat) : Nat → T → T → T → T → T → T → T → T → T → T → T → T → T → T → T → T → T → T → T → T → T → T → T → T → (T → T → T → T → T → T → T → T → T → T → T → T → T → T → T → T → T → T → T → T → T → T → An) → An
  | 0, _, _, _, _, _, _, _, _, _, _, _, _, _, _, _, _, _, _, _, _, _, _, _, _, _ => .bad
  | n + 1, x0, x1, x2, x3, x4, x5, x6, x7, x8, x9, x10, x11, x12, x13, x14, x15, x16, x17, x18, x19, x20, x21, x22, x23, k0 =>
    cond (decide (x3.int < x0.int))
    (spec_ShardNew m x3
    (fun y7 y8 y9 y10 y11 => cond (decide ((x20.rows.length + 1) * 5 ≤ maxRow))
    (spec_WorldNew_L0_0 m n x0 (T.i (x1.int.toNat : Int)) (T.i (x2.int.toNat : Int)) (T.i (IntKind.i64.wrap (x3.int + 1))) x4 x5 x6 x7 x8 x9 x10 x11 (T.l x12.rows) (T.l x13.rows) (T.l x14.rows) (T.l x15.rows) (T.l x16.rows) (T.l x17.rows) (T.l x18.rows) (T.l x19.rows) (T.l (x20.rows ++ [[y7, (T.l y8.rows), y9, (T.l y10.rows), (T.l y11.rows)]])) (T.l x21.rows) (T.l x22.rows) (T.l x23.rows) k0)
    (.bad)))
    (k0 (T.i (x1.int.toNat : Int)) (T.i (x2.int.toNat : Int)) x4 x5 x6 x7 x8 x9 x10 x11 (T.l x12.rows) (T.l x13.rows) (T.l x14.rows) (T.l x15.rows) (T.l x16.rows) (T.l x17.rows) (T.l x18.rows) (T.l x19.rows) (T.l x20.rows) (T.l x21.rows) (T.l x22.rows) (T.l x23.rows))
noncomputable def spec_WorldNew : Nat → T → (T → T → T → T → T → T → T → T → T → T → An) → An
  | 0, _, _ => .bad
  | m + 1, x0, k0 =>
    spec_l1In m x0 (T.i 1) (T.i 8)
    (fun y0 => cond (!y0.bool)
    (k0 (T.i 0) (T.i 0) (T.i 0) (T.l []) (T.l []) (T.i 0) (T.l []) (T.l []) (T.l []) (T.l []))
    (spec_CoordNew m x0
    (fun y1 y2 y3 y4 y5 y6 => spec_WorldNew_L0_0 m m x0 (T.i 0) (T.i 0) (T.i 0) (T.i 0) (T.i 0) (T.i 0) (T.i 0) y1 y2 y3 y6 (T.l []) (T.l []) (T.l []) (T.l []) (T.l []) (T.l []) (T.l y4.rows) (T.l y5.rows) (T.l []) (T.l []) (T.l []) (T.l [])
    (fun y12 y13 y14 y15 y16 y17 y18 y19 y20 y21 y22 y23 y24 y25 y26 y27 y28 y29 y30 y31 y32 y33 => k0 y18 y19 y20 (T.l y28.rows) (T.l y29.rows) y21 (T.l y30.rows) (T.l y31.rows) (T.l y32.rows) (T.l y33.rows)))))
noncomputable def spec_WorldNew_f : Fs := ⟨16, [.one (AI)], fun m vs k => ap 1 (spec_WorldNew m) vs (lm 10 fun z => k (fRet ⟨[.agg [RI, RI, RI, .own (KR 0 3) [.sc (.int .i64), .sl [.sc (.int .i64), .sc (.str), .sc (.str)], .sc (.int .i64), .sl [.sc (.int .i64)]] [.F, .F, .F, .F] [], .own (KR 0 4) [.sc (.int .i64), .sc (.bool)] [.F, .F] [], RI, .own (KR 0 6) [.sc (.int .i64), .sl [.sc (.int .i64), .sc (.int .i64), .sl [.sc (.int .i64), .sc (.str), .sc (.str)]], .sc (.int .i64), .sl [.sc (.str), .sc (.str)], .sl [.sc (.int .i64), .sc (.int .i64), .sl [.sc (.int .i64), .sc (.str), .sc (.str)]]] [.F, .O [.F, .F, .F], .F, .O [.F, .F], .O [.F, .F, .F]] [], .own (KR 0 7) [.sc (.int .i64), .sc (.int .i64), .sc (.int .i64), .sl [.sc (.int .i64), .sc (.str), .sc (.str)], .sc (.bool)] [.F, .F, .F, .F, .F] [], .own (KR 0 8) [.sc (.int .i64), .sc (.int .i64), .sc (.int .i64), .sl [.sc (.int .i64), .sc (.str), .sc (.str)], .sc (.bool)] [.F, .F, .F, .F, .F] [], .own (KR 0 9) [.sc (.int .i64), .sl [.sc (.int .i64), .sc (.str), .sc (.str)]] [.F, .F] []]], [[none]], [none]⟩ z))⟩
noncomputable def spec_WorldNew_l : List Ls := [⟨[0, 1, 0, 1, 1, 1], ⟨[(0, .one (LI)), (2, EP 0), (3, EP 1), (4, .one (LI))], [((KI 0), .box [LI, LI, LI, LA (KI 2) [.sc (.int .i64), .sl [.sc (.int .i64), .sc (.str), .sc (.str)], .sc (.int .i64), .sl [.sc (.int .i64)]], LA (KI 3) [.sc (.int .i64), .sc (.bool)], LI, LA (KI 4) [.sc (.int .i64), .sl [.sc (.int .i64), .sc (.int .i64), .sl [.sc (.int .i64), .sc (.str), .sc (.str)]], .sc (.int .i64), .sl [.sc (.str), .sc (.str)], .sl [.sc (.int .i64), .sc (.int .i64), .sl [.sc (.int .i64), .sc (.str), .sc (.str)]]], LA (KI 5) [.sc (.int .i64), .sc (.int .i64), .sc (.int .i64), .sl [.sc (.int .i64), .sc (.str), .sc (.str)], .sc (.bool)], LA (KI 6) [.sc (.int .i64), .sc (.int .i64), .sc (.int .i64), .sl [.sc (.int .i64), .sc (.str), .sc (.str)], .sc (.bool)], LA (KI 7) [.sc (.int .i64), .sl [.sc (.int .i64), .sc (.str), .sc (.str)]]]), ((KI 1), .box [LI, LI, LI, LA (KI 8) [.sc (.int .i64), .sl [.sc (.int .i64), .sc (.str), .sc (.str)], .sc (.int .i64), .sl [.sc (.int .i64)]], LA (KI 9) [.sc (.int .i64), .sc (.bool)], LI, LA (KI 10) [.sc (.int .i64), .sl [.sc (.int .i64), .sc (.int .i64), .sl [.sc (.int .i64), .sc (.str), .sc (.str)]], .sc (.int .i64), .sl [.sc (.str), .sc (.str)], .sl [.sc (.int .i64), .sc (.int .i64), .sl [.sc (.int .i64), .sc (.str), .sc (.str)]]], LA (KI 11) [.sc (.int .i64), .sc (.int .i64), .sc (.int .i64), .sl [.sc (.int .i64), .sc (.str), .sc (.str)], .sc (.bool)], LA (KI 12) [.sc (.int .i64), .sc (.int .i64), .sc (.int .i64), .sl [.sc (.int .i64), .sc (.str), .sc (.str)], .sc (.bool)], LA (KI 13) [.sc (.int .i64), .sl [.sc (.int .i64), .sc (.str), .sc (.str)]]]), ((KI 2), .row [.sc (.int .i64), .sl [.sc (.int .i64), .sc (.str), .sc (.str)], .sc (.int .i64), .sl [.sc (.int .i64)]] [.F, .F, .F, .F] []), ((KI 3), .row [.sc (.int .i64), .sc (.bool)] [.F, .F] []), ((KI 4), .row [.sc (.int .i64), .sl [.sc (.int .i64), .sc (.int .i64), .sl [.sc (.int .i64), .sc (.str), .sc (.str)]], .sc (.int .i64), .sl [.sc (.str), .sc (.str)], .sl [.sc (.int .i64), .sc (.int .i64), .sl [.sc (.int .i64), .sc (.str), .sc (.str)]]] [.F, .O [.F, .F, .F], .F, .O [.F, .F], .O [.F, .F, .F]] []), ((KI 5), .row [.sc (.int .i64), .sc (.int .i64), .sc (.int .i64), .sl [.sc (.int .i64), .sc (.str), .sc (.str)], .sc (.bool)] [.F, .F, .F, .F, .F] []), ((KI 6), .row [.sc (.int .i64), .sc (.int .i64), .sc (.int .i64), .sl [.sc (.int .i64), .sc (.str), .sc (.str)], .sc (.bool)] [.F, .F, .F, .F, .F] []), ((KI 7), .row [.sc (.int .i64), .sl [.sc (.int .i64), .sc (.str), .sc (.str)]] [.F, .F] []), ((KI 8), .row [.sc (.int .i64), .sl [.sc (.int .i64), .sc (.str), .sc (.str)], .sc (.int .i64), .sl [.sc (.int .i64)]] [.F, .F, .F, .F] []), ((KI 9), .row [.sc (.int .i64), .sc (.bool)] [.F, .F] []), ((KI 10), .row [.sc (.int .i64), .sl [.sc (.int .i64), .sc (.int .i64), .sl [.sc (.int .i64), .sc (.str), .sc (.str)]], .sc (.int .i64), .sl [.sc (.str), .sc (.str)], .sl [.sc (.int .i64), .sc (.int .i64), .sl [.sc (.int .i64), .sc (.str), .sc (.str)]]] [.F, .O [.F, .F, .F], .F, .O [.F, .F], .O [.F, .F, .F]] []), ((KI 11), .row [.sc (.int .i64), .sc (.int .i64), .sc (.int .i64), .sl [.sc (.int .i64), .sc (.str), .sc (.str)], .sc (.bool)] [.F, .F, .F, .F, .F] []), ((KI 12), .row [.sc (.int .i64), .sc (.int .i64), .sc (.int .i64), .sl [.sc (.int .i64), .sc (.str), .sc (.str)], .sc (.bool)] [.F, .F, .F, .F, .F] []), ((KI 13), .row [.sc (.int .i64), .sl [.sc (.int .i64), .sc (.str), .sc (.str)]] [.F, .F] [])]⟩, fun m n vs k => ap 24 (spec_WorldNew_L0_0 m n) vs (lm 22 fun z => k (.exit 0) (fPack ⟨[(2, EP 0), (3, EP 1)], [((KI 0), .box [LI, LI, LI, LA (KI 2) [.sc (.int .i64), .sl [.sc (.int .i64), .sc (.str), .sc (.str)], .sc (.int .i64), .sl [.sc (.int .i64)]], LA (KI 3) [.sc (.int .i64), .sc (.bool)], LI, LA (KI 4) [.sc (.int .i64), .sl [.sc (.int .i64), .sc (.int .i64), .sl [.sc (.int .i64), .sc (.str), .sc (.str)]], .sc (.int .i64), .sl [.sc (.str), .sc (.str)], .sl [.sc (.int .i64), .sc (.int .i64), .sl [.sc (.int .i64), .sc (.str), .sc (.str)]]], LA (KI 5) [.sc (.int .i64), .sc (.int .i64), .sc (.int .i64), .sl [.sc (.int .i64), .sc (.str), .sc (.str)], .sc (.bool)], LA (KI 6) [.sc (.int .i64), .sc (.int .i64), .sc (.int .i64), .sl [.sc (.int .i64), .sc (.str), .sc (.str)], .sc (.bool)], LA (KI 7) [.sc (.int .i64), .sl [.sc (.int .i64), .sc (.str), .sc (.str)]]]), ((KI 1), .box [LI, LI, LI, LA (KI 8) [.sc (.int .i64), .sl [.sc (.int .i64), .sc (.str), .sc (.str)], .sc (.int .i64), .sl [.sc (.int .i64)]], LA (KI 9) [.sc (.int .i64), .sc (.bool)], LI, LA (KI 10) [.sc (.int .i64), .sl [.sc (.int .i64), .sc (.int .i64), .sl [.sc (.int .i64), .sc (.str), .sc (.str)]], .sc (.int .i64), .sl [.sc (.str), .sc (.str)], .sl [.sc (.int .i64), .sc (.int .i64), .sl [.sc (.int .i64), .sc (.str), .sc (.str)]]], LA (KI 11) [.sc (.int .i64), .sc (.int .i64), .sc (.int .i64), .sl [.sc (.int .i64), .sc (.str), .sc (.str)], .sc (.bool)], LA (KI 12) [.sc (.int .i64), .sc (.int .i64), .sc (.int .i64), .sl [.sc (.int .i64), .sc (.str), .sc (.str)], .sc (.bool)], LA (KI 13) [.sc (.int .i64), .sl [.sc (.int .i64), .sc (.str), .sc (.str)]]]), ((KI 2), .row [.sc (.int .i64), .sl [.sc (.int .i64), .sc (.str), .sc (.str)], .sc (.int .i64), .sl [.sc (.int .i64)]] [.F, .F, .F, .F] []), ((KI 3), .row [.sc (.int .i64), .sc (.bool)] [.F, .F] []), ((KI 4), .row [.sc (.int .i64), .sl [.sc (.int .i64), .sc (.int .i64), .sl [.sc (.int .i64), .sc (.str), .sc (.str)]], .sc (.int .i64), .sl [.sc (.str), .sc (.str)], .sl [.sc (.int .i64), .sc (.int .i64), .sl [.sc (.int .i64), .sc (.str), .sc (.str)]]] [.F, .O [.F, .F, .F], .F, .O [.F, .F], .O [.F, .F, .F]] []), ((KI 5), .row [.sc (.int .i64), .sc (.int .i64), .sc (.int .i64), .sl [.sc (.int .i64), .sc (.str), .sc (.str)], .sc (.bool)] [.F, .F, .F, .F, .F] []), ((KI 6), .row [.sc (.int .i64), .sc (.int .i64), .sc (.int .i64), .sl [.sc (.int .i64), .sc (.str), .sc (.str)], .sc (.bool)] [.F, .F, .F, .F, .F] []), ((KI 7), .row [.sc (.int .i64), .sl [.sc (.int .i64), .sc (.str), .sc (.str)]] [.F, .F] []), ((KI 8), .row [.sc (.int .i64), .sl [.sc (.int .i64), .sc (.str), .sc (.str)], .sc (.int .i64), .sl [.sc (.int .i64)]] [.F, .F, .F, .F] []), ((KI 9), .row [.sc (.int .i64), .sc (.bool)] [.F, .F] []), ((KI 10), .row [.sc (.int .i64), .sl [.sc (.int .i64), .sc (.int .i64), .sl [.sc (.int .i64), .sc (.str), .sc (.str)]], .sc (.int .i64), .sl [.sc (.str), .sc (.str)], .sl [.sc (.int .i64), .sc (.int .i64), .sl [.sc (.int .i64), .sc (.str), .sc (.str)]]] [.F, .O [.F, .F, .F], .F, .O [.F, .F], .O [.F, .F, .F]] []), ((KI 11), .row [.sc (.int .i64), .sc (.int .i64), .sc (.int .i64), .sl [.sc (.int .i64), .sc (.str), .sc (.str)], .sc (.bool)] [.F, .F, .F, .F, .F] []), ((KI 12), .row [.sc (.int .i64), .sc (.int .i64), .sc (.int .i64), .sl [.sc (.int .i64), .sc (.str), .sc (.str)], .sc (.bool)] [.F, .F, .F, .F, .F] []), ((KI 13), .row [.sc (.int .i64), .sl [.sc (.int .i64), .sc (.str), .sc (.str)]] [.F, .F] [])]⟩ z))⟩]
noncomputable def spec_WorldNew_t : List Fs := spec_WorldNew_f :: spec_ShardNew_t
theorem spec_WorldNew_g : FGood CX prims spec_WorldNew_t ∧ FEqn CX prims spec_WorldNew_f := fnG spec_ShardNew_g.1 spec_WorldNew_f Tryz.f16 ⟨16, 1, 25, 4⟩ spec_WorldNew_l (fun _ _ => rfl) (fun _ _ _ => by kernel_rfl) ⟨fun _ _ _ => rfl, trivial⟩ ⟨fun _ _ _ _ _ _ => by kernel_rfl, trivial⟩ (fun _ _ _ _ _ => by kernel_rfl)

/-! (*loop.example/g00244/impl.Coord).nextTx -/
noncomputable def impl_Coord_nextTx : Nat → T → (T → An) → An
  | 0, _, _ => .bad
  | m + 1, x0, k0 =>
    k0 (T.i (IntKind.i64.wrap ((IntKind.i64.wrap ((((row1 x0).drop 1).getD 0 dflt).int * 1000)) + (((row1 x0).drop 2).getD 0 dflt).int)))
noncomputable def impl_Coord_nextTx_f : Fs := ⟨51, [.rpt [.sc (.int .i64), .sc (.int .i64), .sc (.int .i64), .sl [.sc (.int .i64), .sl [.sc (.int .i64), .sc (.str), .sc (.str)], .sc (.int .i64), .sl [.sc (.int .i64)]], .sl [.sc (.int .i64), .sc (.bool)], .sc (.int .i64)] []], fun m vs k => ap 1 (impl_Coord_nextTx m) vs (lm 1 fun z => k (fRet ⟨[.one (RI)], [[]], [none]⟩ z))⟩
noncomputable def impl_Coord_nextTx_t : List Fs := impl_Coord_nextTx_f :: spec_WorldNew_t
theorem impl_Coord_nextTx_g : FGood CX prims impl_Coord_nextTx_t ∧ FEqn CX prims impl_Coord_nextTx_f := fnG spec_WorldNew_g.1 impl_Coord_nextTx_f Tryz.f51 ⟨51, 1, 13, 4⟩ [] (fun _ _ => rfl) (fun _ _ _ => by kernel_rfl) trivial trivial (fun _ _ _ _ _ => by kernel_rfl)

/-! (*loop.example/g00244/impl.Coord).choiceAt$1 -/
noncomputable def impl_Coord_choiceAt_1 : Nat → T → T → T → (T → An) → An
  | 0, _, _, _, _ => .bad
  | m + 1, x0, x1, x2, k0 =>
    k0 (T.b (x0.int == ((row1 x2).getD 0 dflt).int))
noncomputable def impl_Coord_choiceAt_1_f : Fs := ⟨84, [.agg [AI, AB], .rpt [.sc (.int .i64)] []], fun m vs k => ap 3 (impl_Coord_choiceAt_1 m) vs (lm 1 fun z => k (fRet ⟨[.one (RB)], [[none, none], []], [none, none]⟩ z))⟩
noncomputable def impl_Coord_choiceAt_1_t : List Fs := impl_Coord_choiceAt_1_f :: impl_Coord_nextTx_t
theorem impl_Coord_choiceAt_1_g : FGood CX prims impl_Coord_choiceAt_1_t ∧ FEqn CX prims impl_Coord_choiceAt_1_f := fnG impl_Coord_nextTx_g.1 impl_Coord_choiceAt_1_f Tryz.f84 ⟨84, 2, 8, 8⟩ [] (fun _ _ => rfl) (fun _ _ _ => by kernel_rfl) trivial trivial (fun _ _ _ _ _ => by kernel_rfl)

/-! slices.IndexFunc[[]loop.example/g00244/impl.Choice,loop.example/g00244/impl.Choice] -/
noncomputable def slices_IndexFunc___impl_Choice_impl_Choice__L0_0 (m : Nat) : Nat → T → T → T → T → (T → An) → An → An
  | 0, _, _, _, _, _, _ => .bad
  | n + 1, x0, x1, x2, x3, k0, k1 =>
    cond (decide (x3.int < x2.int))
    (cond (decide ((0 : Int) ≤ x3.int ∧ x3.int < (x0.rows.length : Int)))
    (impl_Coord_choiceAt_1 m ((x0.rows.getD (Int.toNat x3.int) []).getD 0 dflt) ((x0.rows.getD (Int.toNat x3.int) []).getD 1 dflt) (T.l [(row1 x1)])
    (fun y0 => cond y0.bool
    (k0 x3)
    (slices_IndexFunc___impl_Choice_impl_Choice__L0_0 m n x0 (T.l [(row1 x1)]) x2 (T.i (IntKind.i64.wrap (x3.int + 1))) k0 k1)))
    (.bad))
    (k1 )
noncomputable def slices_IndexFunc___impl_Choice_impl_Choice_ : Nat → T → T → (T → An) → An
  | 0, _, _, _ => .bad
  | m + 1, x0, x1, k0 =>
    slices_IndexFunc___impl_Choice_impl_Choice__L0_0 m m (T.l x0.rows) (T.l [(row1 x1)]) (T.i (x0.rows.length : Int)) (T.i 0)
    (fun y1 => k0 y1)
    (k0 (T.i (-1)))
noncomputable def slices_IndexFunc___impl_Choice_impl_Choice__f : Fs := ⟨83, [.one (.dz [.sc (.int .i64), .sc (.bool)] []), .fn 84 [.rpt [.sc (.int .i64)] []]], fun m vs k => ap 2 (slices_IndexFunc___impl_Choice_impl_Choice_ m) vs (lm 1 fun z => k (fRet ⟨[.one (RI)], [[none], []], [none, none]⟩ z))⟩
noncomputable def slices_IndexFunc___impl_Choice_impl_Choice__l : List Ls := [⟨[0, 1, 0, 1], ⟨[(0, .one (LD [.sc (.int .i64), .sc (.bool)])), (1, .fn 84 [.rp [([4000000], 0)] [.sc (.int .i64)] []]), (7, .one (LI)), (8, .one (LI))], [([4000000], .gone)]⟩, fun m n vs k => ap 4 (slices_IndexFunc___impl_Choice_impl_Choice__L0_0 m n) vs (lm 1 fun z => k .ret (fPack ⟨[(4, .one (LI))], []⟩ z)) (lm 0 fun z => k (.exit 0) (fPack ⟨[], []⟩ z))⟩]
noncomputable def slices_IndexFunc___impl_Choice_impl_Choice__t : List Fs := slices_IndexFunc___impl_Choice_impl_Choice__f :: impl_Coord_choiceAt_1_t
theorem slices_IndexFunc___impl_Choice_impl_Choice__g : FGood CX prims slices_IndexFunc___impl_Choice_impl_Choice__t ∧ FEqn CX prims slices_IndexFunc___impl_Choice_impl_Choice__f := fnG impl_Coord_choiceAt_1_g.1 slices_IndexFunc___impl_Choice_impl_Choice__f Tryz.f83 ⟨83, 2, 19, 16⟩ slices_IndexFunc___impl_Choice_impl_Choice__l (fun _ _ => rfl) (fun _ _ _ => by kernel_rfl) ⟨fun _ _ _ => rfl, trivial⟩ ⟨fun _ _ _ _ _ _ => by kernel_rfl, trivial⟩ (fun _ _ _ _ _ => by kernel_rfl)

/-! (*loop.example/g00244/impl.Coord).choiceAt -/
noncomputable def impl_Coord_choiceAt : Nat → T → T → (T → An) → An
  | 0, _, _, _ => .bad
  | m + 1, x0, x1, k0 =>
    slices_IndexFunc___impl_Choice_impl_Choice_ m (T.l (((row1 x0).drop 4).getD 0 dflt).rows) (T.l [[x1]])
    (fun y0 => k0 y0)
noncomputable def impl_Coord_choiceAt_f : Fs := ⟨52, [.rpt [.sc (.int .i64), .sc (.int .i64), .sc (.int .i64), .sl [.sc (.int .i64), .sl [.sc (.int .i64), .sc (.str), .sc (.str)], .sc (.int .i64), .sl [.sc (.int .i64)]], .sl [.sc (.int .i64), .sc (.bool)], .sc (.int .i64)] [], .one (AI)], fun m vs k => ap 2 (impl_Coord_choiceAt m) vs (lm 1 fun z => k (fRet ⟨[.one (RI)], [[], [none]], [none, none]⟩ z))⟩
noncomputable def impl_Coord_choiceAt_t : List Fs := impl_Coord_choiceAt_f :: slices_IndexFunc___impl_Choice_impl_Choice__t
theorem impl_Coord_choiceAt_g : FGood CX prims impl_Coord_choiceAt_t ∧ FEqn CX prims impl_Coord_choiceAt_f := fnG slices_IndexFunc___impl_Choice_impl_Choice__g.1 impl_Coord_choiceAt_f Tryz.f52 ⟨52, 2, 11, 16⟩ [] (fun _ _ => rfl) (fun _ _ _ => by kernel_rfl) trivial trivial (fun _ _ _ _ _ => by kernel_rfl)

/-! loop.example/g00244/impl.isKeyByte -/
noncomputable def impl_isKeyByte : Nat → T → (T → An) → An
  | 0, _, _ => .bad
  | m + 1, x0, k0 =>
    cond ((decide (x0.int ≥ 97)) == true)
    (cond ((decide (x0.int ≤ 122)) == false)
    (cond ((decide (x0.int ≥ 48)) == true)
    (k0 (T.b (decide (x0.int ≤ 57))))
    (k0 (T.b false)))
    (k0 (T.b true)))
    (cond ((decide (x0.int ≥ 48)) == true)
    (k0 (T.b (decide (x0.int ≤ 57))))
    (k0 (T.b false)))
noncomputable def impl_isKeyByte_f : Fs := ⟨182, [.one (.sc (.int .u8) (.l []))], fun m vs k => ap 1 (impl_isKeyByte m) vs (lm 1 fun z => k (fRet ⟨[.one (RB)], [[none]], [none]⟩ z))⟩
noncomputable def impl_isKeyByte_t : List Fs := impl_isKeyByte_f :: impl_Coord_choiceAt_t
theorem impl_isKeyByte_g : FGood CX prims impl_isKeyByte_t ∧ FEqn CX prims impl_isKeyByte_f := fnG impl_Coord_choiceAt_g.1 impl_isKeyByte_f Tryz.f182 ⟨182, 1, 17, 4⟩ [] (fun _ _ => rfl) (fun _ _ _ => by kernel_rfl) trivial trivial (fun _ _ _ _ _ => by kernel_rfl)

/-! loop.example/g00244/impl.isWord -/
noncomputable def impl_isWord_L0_0 (m : Nat) : Nat → T → T → (T → An) → An → An
  | 0, _, _, _, _ => .bad
  | n + 1, x0, x1, k0, k1 =>
    cond (decide (x1.int < (x0.str.size : Int)))
    (cond (decide ((0 : Int) ≤ x1.int ∧ x1.int < (x0.str.size : Int)))
    (impl_isKeyByte m (T.i ((x0.str.data.toList.getD (Int.toNat x1.int) 0).toNat : Int))
    (fun y0 => cond (!y0.bool)
    (k0 (T.b false))
    (impl_isWord_L0_0 m n x0 (T.i (IntKind.i64.wrap (x1.int + 1))) k0 k1)))
    (.bad))
    (k1 )
noncomputable def impl_isWord : Nat → T → (T → An) → An
  | 0, _, _ => .bad
  | m + 1, x0, k0 =>
    impl_isWord_L0_0 m m x0 (T.i 0)
    (fun y1 => k0 y1)
    (k0 (T.b true))
noncomputable def impl_isWord_f : Fs := ⟨172, [.one (AS)], fun m vs k => ap 1 (impl_isWord m) vs (lm 1 fun z => k (fRet ⟨[.one (RB)], [[none]], [none]⟩ z))⟩
noncomputable def impl_isWord_l : List Ls := [⟨[0, 1, 0, 1], ⟨[(0, .one (LS)), (3, .one (LI))], []⟩, fun m n vs k => ap 2 (impl_isWord_L0_0 m n) vs (lm 1 fun z => k .ret (fPack ⟨[(2, .one (LB))], []⟩ z)) (lm 0 fun z => k (.exit 0) (fPack ⟨[], []⟩ z))⟩]
noncomputable def impl_isWord_t : List Fs := impl_isWord_f :: impl_isKeyByte_t
theorem impl_isWord_g : FGood CX prims impl_isWord_t ∧ FEqn CX prims impl_isWord_f := fnG impl_isKeyByte_g.1 impl_isWord_f Tryz.f172 ⟨172, 1, 15, 4⟩ impl_isWord_l (fun _ _ => rfl) (fun _ _ _ => by kernel_rfl) ⟨fun _ _ _ => rfl, trivial⟩ ⟨fun _ _ _ _ _ _ => by kernel_rfl, trivial⟩ (fun _ _ _ _ _ => by kernel_rfl)

/-! loop.example/g00244/impl.KeyOk -/
noncomputable def impl_KeyOk : Nat → T → (T → An) → An
  | 0, _, _ => .bad
  | m + 1, x0, k0 =>
    impl_inRange m (T.i (x0.str.size : Int)) (T.i 1) (T.i 12)
    (fun y0 => cond (y0.bool == true)
    (impl_isWord m x0
    (fun y1 => k0 (T.b y1.bool)))
    (k0 (T.b false)))
noncomputable def impl_KeyOk_f : Fs := ⟨146, [.one (AS)], fun m vs k => ap 1 (impl_KeyOk m) vs (lm 1 fun z => k (fRet ⟨[.one (RB)], [[none]], [none]⟩ z))⟩
noncomputable def impl_KeyOk_t : List Fs := impl_KeyOk_f :: impl_isWord_t
theorem impl_KeyOk_g : FGood CX prims impl_KeyOk_t ∧ FEqn CX prims impl_KeyOk_f := fnG impl_isWord_g.1 impl_KeyOk_f Tryz.f146 ⟨146, 1, 10, 4⟩ [] (fun _ _ => rfl) (fun _ _ _ => by kernel_rfl) trivial trivial (fun _ _ _ _ _ => by kernel_rfl)

/-! loop.example/g00244/impl.opOk -/
noncomputable def impl_opOk : Nat → T → T → T → (T → An) → An
  | 0, _, _, _, _ => .bad
  | m + 1, x0, x1, x2, k0 =>
    jn (fun (j5 : T → An) =>
    cond (x0.int == 1)
    (j5 (T.b true))
    (j5 (T.b (x0.int == 3))))
    (fun y0 => cond y0.bool
    (impl_KeyOk m x1
    (fun y1 => cond (y1.bool == true)
    (k0 (T.b (decide ((x2.str.size : Int) ≤ 20))))
    (k0 (T.b false))))
    (cond (x0.int == 2)
    (impl_KeyOk m x1
    (fun y3 => cond (y3.bool == true)
    (k0 (T.b (x2.str.toList == (⟨#[]⟩ : ByteArray).toList)))
    (k0 (T.b false))))
    (k0 (T.b false))))
noncomputable def impl_opOk_f : Fs := ⟨110, [.agg [AI, AS, AS]], fun m vs k => ap 3 (impl_opOk m) vs (lm 1 fun z => k (fRet ⟨[.one (RB)], [[none, none, none]], [none]⟩ z))⟩
noncomputable def impl_opOk_t : List Fs := impl_opOk_f :: impl_KeyOk_t
theorem impl_opOk_g : FGood CX prims impl_opOk_t ∧ FEqn CX prims impl_opOk_f := fnG impl_KeyOk_g.1 impl_opOk_f Tryz.f110 ⟨110, 1, 27, 4⟩ [] (fun _ _ => rfl) (fun _ _ _ => by kernel_rfl) trivial trivial (fun _ _ _ _ _ => by kernel_rfl)

/-! loop.example/g00244/impl.OpsOk -/
noncomputable def impl_OpsOk_L0_0 (m : Nat) : Nat → T → T → T → T → (T → An) → (T → An) → An
  | 0, _, _, _, _, _, _ => .bad
  | n + 1, x0, x1, x2, x3, k0, k1 =>
    cond (decide (x3.int < x2.int))
    (cond (decide ((0 : Int) ≤ x3.int ∧ x3.int < (x1.rows.length : Int)))
    (impl_opOk m ((x1.rows.getD (Int.toNat x3.int) []).getD 0 dflt) ((x1.rows.getD (Int.toNat x3.int) []).getD 1 dflt) ((x1.rows.getD (Int.toNat x3.int) []).getD 2 dflt)
    (fun y0 => cond ((!y0.bool) == false)
    (cond ((decide (x3.int > 0)) == true)
    (cond (decide ((0 : Int) ≤ (IntKind.i64.wrap (x3.int - 1)) ∧ (IntKind.i64.wrap (x3.int - 1)) < (x0.rows.length : Int)))
    (cond ((Op.bytesLess ((x1.rows.getD (Int.toNat x3.int) []).getD 1 dflt).str.toList (((x0.rows.getD (Int.toNat (IntKind.i64.wrap (x3.int - 1))) []).drop 1).getD 0 dflt).str.toList) || (((x1.rows.getD (Int.toNat x3.int) []).getD 1 dflt).str.toList == (((x0.rows.getD (Int.toNat (IntKind.i64.wrap (x3.int - 1))) []).drop 1).getD 0 dflt).str.toList))
    (k0 (T.b false))
    (impl_OpsOk_L0_0 m n x0 x1 x2 (T.i (IntKind.i64.wrap (x3.int + 1))) k0 k1))
    (.bad))
    (impl_OpsOk_L0_0 m n x0 x1 x2 (T.i (IntKind.i64.wrap (x3.int + 1))) k0 k1))
    (k0 (T.b false))))
    (.bad))
    (k1 x0)
noncomputable def impl_OpsOk : Nat → T → (T → An) → An
  | 0, _, _ => .bad
  | m + 1, x0, k0 =>
    impl_OpsOk_L0_0 m m (T.l x0.rows) (T.l x0.rows) (T.i (x0.rows.length : Int)) (T.i 0)
    (fun y2 => k0 y2)
    (fun y3 => impl_inRange m (T.i (y3.rows.length : Int)) (T.i 1) (T.i 8)
    (fun y4 => k0 y4))
noncomputable def impl_OpsOk_f : Fs := ⟨79, [.one (.dz [.sc (.int .i64), .sc (.str), .sc (.str)] [])], fun m vs k => ap 1 (impl_OpsOk m) vs (lm 1 fun z => k (fRet ⟨[.one (RB)], [[none]], [none]⟩ z))⟩
noncomputable def impl_OpsOk_l : List Ls := [⟨[0, 1, 0, 1], ⟨[(0, .one (LD [.sc (.int .i64), .sc (.str), .sc (.str)])), (5, .one (LD [.sc (.int .i64), .sc (.str), .sc (.str)])), (6, .one (LI)), (7, .one (LI))], [([4000000], .gone)]⟩, fun m n vs k => ap 4 (impl_OpsOk_L0_0 m n) vs (lm 1 fun z => k .ret (fPack ⟨[(2, .one (LB))], []⟩ z)) (lm 1 fun z => k (.exit 0) (fPack ⟨[(0, .one (LD [.sc (.int .i64), .sc (.str), .sc (.str)]))], [([4000000], .gone)]⟩ z))⟩]
noncomputable def impl_OpsOk_t : List Fs := impl_OpsOk_f :: impl_opOk_t
theorem impl_OpsOk_g : FGood CX prims impl_OpsOk_t ∧ FEqn CX prims impl_OpsOk_f := fnG impl_opOk_g.1 impl_OpsOk_f Tryz.f79 ⟨79, 1, 34, 4⟩ impl_OpsOk_l (fun _ _ => rfl) (fun _ _ _ => by kernel_rfl) ⟨fun _ _ _ => rfl, trivial⟩ ⟨fun _ _ _ _ _ _ => by kernel_rfl, trivial⟩ (fun _ _ _ _ _ => by kernel_rfl)

/-! loop.example/g00244/impl.Hash -/
noncomputable def impl_Hash_L0_0 (m : Nat) : Nat → T → T → T → (T → An) → An
  | 0, _, _, _, _ => .bad
  | n + 1, x0, x1, x2, k0 =>
    cond (decide (x2.int < (x0.str.size : Int)))
    (cond (decide ((0 : Int) ≤ x2.int ∧ x2.int < (x0.str.size : Int)))
    (impl_Hash_L0_0 m n x0 (T.i (IntKind.u32.wrap ((bvBack .u32 (BitVec.ofInt IntKind.u32.bits x1.int ^^^ BitVec.ofInt IntKind.u32.bits (IntKind.u32.wrap ((x0.str.data.toList.getD (Int.toNat x2.int) 0).toNat : Int)))).int * 16777619))) (T.i (IntKind.i64.wrap (x2.int + 1))) k0)
    (.bad))
    (k0 x1)
noncomputable def impl_Hash : Nat → T → (T → An) → An
  | 0, _, _ => .bad
  | m + 1, x0, k0 =>
    impl_Hash_L0_0 m m x0 (T.i 2166136261) (T.i 0)
    (fun y0 => k0 (T.i (IntKind.i64.wrap y0.int)))
noncomputable def impl_Hash_f : Fs := ⟨104, [.one (AS)], fun m vs k => ap 1 (impl_Hash m) vs (lm 1 fun z => k (fRet ⟨[.one (RI)], [[none]], [none]⟩ z))⟩
noncomputable def impl_Hash_l : List Ls := [⟨[0, 1, 0, 1, 1], ⟨[(0, .one (LS)), (3, .one (⟨.sc, .sc (.int .u32), .l []⟩)), (4, .one (LI))], []⟩, fun m n vs k => ap 3 (impl_Hash_L0_0 m n) vs (lm 1 fun z => k (.exit 0) (fPack ⟨[(3, .one (⟨.sc, .sc (.int .u32), .l []⟩))], []⟩ z))⟩]
noncomputable def impl_Hash_t : List Fs := impl_Hash_f :: impl_OpsOk_t
theorem impl_Hash_g : FGood CX prims impl_Hash_t ∧ FEqn CX prims impl_Hash_f := fnG impl_OpsOk_g.1 impl_Hash_f Tryz.f104 ⟨104, 1, 21, 4⟩ impl_Hash_l (fun _ _ => rfl) (fun _ _ _ => by kernel_rfl) ⟨fun _ _ _ => rfl, trivial⟩ ⟨fun _ _ _ _ _ _ => by kernel_rfl, trivial⟩ (fun _ _ _ _ _ => by kernel_rfl)

/-! loop.example/g00244/impl.ShardOf -/
noncomputable def impl_ShardOf : Nat → T → T → (T → An) → An
  | 0, _, _, _ => .bad
  | m + 1, x0, x1, k0 =>
    cond (decide (x1.int < 1))
    (k0 (T.i 0))
    (impl_Hash m x0
    (fun y0 => cond (!decide (x1.int = 0))
    (k0 (T.i (Int.tmod y0.int x1.int)))
    (.bad)))
noncomputable def impl_ShardOf_f : Fs := ⟨69, [.one (AS), .one (AI)], fun m vs k => ap 2 (impl_ShardOf m) vs (lm 1 fun z => k (fRet ⟨[.one (RI)], [[none], [none]], [none, none]⟩ z))⟩
noncomputable def impl_ShardOf_t : List Fs := impl_ShardOf_f :: impl_Hash_t
theorem impl_ShardOf_g : FGood CX prims impl_ShardOf_t ∧ FEqn CX prims impl_ShardOf_f := fnG impl_Hash_g.1 impl_ShardOf_f Tryz.f69 ⟨69, 2, 11, 16⟩ [] (fun _ _ => rfl) (fun _ _ _ => by kernel_rfl) trivial trivial (fun _ _ _ _ _ => by kernel_rfl)

/-! loop.example/g00244/impl.ShardsOf -/
noncomputable def impl_ShardsOf_L0_0 (m : Nat) : Nat → T → T → T → T → T → (T → An) → An
  | 0, _, _, _, _, _, _ => .bad
  | n + 1, x0, x1, x2, x3, x4, k0 =>
    cond (decide (x3.int < x2.int))
    (cond (decide ((0 : Int) ≤ x3.int ∧ x3.int < (x1.rows.length : Int)))
    (impl_ShardOf m ((x1.rows.getD (Int.toNat x3.int) []).getD 1 dflt) x0
    (fun y0 => cond (decide ((x4.rows.length + 1) * 1 ≤ maxRow))
    (impl_ShardsOf_L0_0 m n x0 x1 x2 (T.i (IntKind.i64.wrap (x3.int + 1))) (T.l (x4.rows ++ [[y0]])) k0)
    (.bad)))
    (.bad))
    (k0 (T.l x4.rows))
noncomputable def impl_ShardsOf : Nat → T → T → An
  | 0, _, _ => .bad
  | m + 1, x0, x1 =>
    impl_ShardsOf_L0_0 m m x1 (T.l x0.rows) (T.i (x0.rows.length : Int)) (T.i 0) (T.l [])
    (fun y1 => slices_Sort___int_int_ m (T.l y1.rows))
noncomputable def impl_ShardsOf_f : Fs := ⟨36, [.one (.dz [.sc (.int .i64), .sc (.str), .sc (.str)] []), .one (AI)], fun m vs k => ap 2 (impl_ShardsOf m) vs⟩
noncomputable def impl_ShardsOf_l : List Ls := [⟨[0, 1, 0, 1, 1], ⟨[(1, .one (LI)), (5, .one (LA (KI 0) [.sc (.int .i64)])), (8, .one (LD [.sc (.int .i64), .sc (.str), .sc (.str)])), (9, .one (LI)), (10, .one (LI))], [((KI 0), .row [.sc (.int .i64)] [.F] []), ([4000000], .gone)]⟩, fun m n vs k => ap 5 (impl_ShardsOf_L0_0 m n) vs (lm 1 fun z => k (.exit 0) (fPack ⟨[(5, .one (LA (KI 0) [.sc (.int .i64)]))], [((KI 0), .row [.sc (.int .i64)] [.F] [])]⟩ z))⟩]
noncomputable def impl_ShardsOf_t : List Fs := impl_ShardsOf_f :: impl_ShardOf_t
theorem impl_ShardsOf_g : FGood CX prims impl_ShardsOf_t ∧ FEqn CX prims impl_ShardsOf_f := fnG impl_ShardOf_g.1 impl_ShardsOf_f Tryz.f36 ⟨36, 2, 27, 16⟩ impl_ShardsOf_l (fun _ _ => rfl) (fun _ _ _ => by kernel_rfl) ⟨fun _ _ _ => rfl, trivial⟩ ⟨fun _ _ _ _ _ _ => by kernel_rfl, trivial⟩ (fun _ _ _ _ _ => by kernel_rfl)

/-! (*loop.example/g00244/impl.Coord).jobOk -/
noncomputable def impl_Coord_jobOk : Nat → T → T → T → T → T → (T → An) → An
  | 0, _, _, _, _, _, _ => .bad
  | m + 1, x0, x1, x2, x3, x4, k0 =>
    impl_Coord_nextTx m (T.l [((row1 x0).take 6)])
    (fun y0 => impl_inRange m x1 (T.i (IntKind.i64.wrap ((((row1 x0).drop 1).getD 0 dflt).int * 1000))) (T.i (IntKind.i64.wrap (y0.int - 1)))
    (fun y1 => cond ((!y1.bool) == false)
    (impl_OpsOk m (T.l x2.rows)
    (fun y2 => cond (!y2.bool)
    (k0 (T.b false))
    (impl_ShardsOf m (T.l x2.rows) ((row1 x0).getD 0 dflt))))
    (k0 (T.b false))))
noncomputable def impl_Coord_jobOk_f : Fs := ⟨53, [.rpt [.sc (.int .i64), .sc (.int .i64), .sc (.int .i64), .sl [.sc (.int .i64), .sl [.sc (.int .i64), .sc (.str), .sc (.str)], .sc (.int .i64), .sl [.sc (.int .i64)]], .sl [.sc (.int .i64), .sc (.bool)], .sc (.int .i64)] [], .agg [AI, .dz [.sc (.int .i64), .sc (.str), .sc (.str)] [], AI, .dz [.sc (.int .i64)] []]], fun m vs k => ap 5 (impl_Coord_jobOk m) vs (lm 1 fun z => k (fRet ⟨[.one (RB)], [[], [none, none, none, none]], [none, none]⟩ z))⟩
noncomputable def impl_Coord_jobOk_t : List Fs := impl_Coord_jobOk_f :: impl_ShardsOf_t
theorem impl_Coord_jobOk_g : FGood CX prims impl_Coord_jobOk_t ∧ FEqn CX prims impl_Coord_jobOk_f := fnG impl_ShardsOf_g.1 impl_Coord_jobOk_f Tryz.f53 ⟨53, 2, 100, 16⟩ [] (fun _ _ => rfl) (fun _ _ _ => by kernel_rfl) trivial trivial (fun _ _ _ _ _ => by kernel_rfl)

/-! loop.example/g00244/impl.CoordOk -/
noncomputable def impl_CoordOk_L1_0 (m : Nat) : Nat → T → T → T → T → T → T → T → T → T → T → (T → An) → An → An
  | 0, _, _, _, _, _, _, _, _, _, _, _, _ => .bad
  | n + 1, x0, x1, x2, x3, x4, x5, x6, x7, x8, x9, k0, k1 =>
    cond (decide (x3.int < x2.int))
    (cond (decide ((0 : Int) ≤ x3.int ∧ x3.int < (x1.rows.length : Int)))
    (impl_Coord_jobOk m (T.l [[x4, x5, x6, (T.l x7.rows), (T.l x8.rows), x9]]) ((x1.rows.getD (Int.toNat x3.int) []).getD 0 dflt) (T.l ((x1.rows.getD (Int.toNat x3.int) []).getD 1 dflt).rows) ((x1.rows.getD (Int.toNat x3.int) []).getD 2 dflt) (T.l ((x1.rows.getD (Int.toNat x3.int) []).getD 3 dflt).rows)
    (fun y17 => cond ((!y17.bool) == false)
    (cond ((decide (x3.int > 0)) == true)
    (cond (decide ((0 : Int) ≤ (IntKind.i64.wrap (x3.int - 1)) ∧ (IntKind.i64.wrap (x3.int - 1)) < (x7.rows.length : Int)))
    (cond (decide (((x1.rows.getD (Int.toNat x3.int) []).getD 0 dflt).int ≤ ((x7.rows.getD (Int.toNat (IntKind.i64.wrap (x3.int - 1))) []).getD 0 dflt).int))
    (k0 (T.b false))
    (impl_CoordOk_L1_0 m n (T.i (x0.int.toNat : Int)) x1 x2 (T.i (IntKind.i64.wrap (x3.int + 1))) x4 x5 x6 x7 x8 x9 k0 k1))
    (.bad))
    (impl_CoordOk_L1_0 m n (T.i (x0.int.toNat : Int)) x1 x2 (T.i (IntKind.i64.wrap (x3.int + 1))) x4 x5 x6 x7 x8 x9 k0 k1))
    (k0 (T.b false))))
    (.bad))
    (k1 )
noncomputable def impl_CoordOk_L0_0 (m : Nat) : Nat → T → T → T → T → T → T → T → T → T → T → (T → An) → (T → T → T → T → T → T → T → An) → An
  | 0, _, _, _, _, _, _, _, _, _, _, _, _ => .bad
  | n + 1, x0, x1, x2, x3, x4, x5, x6, x7, x8, x9, k0, k1 =>
    cond (decide (x3.int < x2.int))
    (cond (decide ((0 : Int) ≤ x3.int ∧ x3.int < (x1.rows.length : Int)))
    (impl_Coord_nextTx m (T.l [[x4, x5, x6, (T.l x7.rows), (T.l x8.rows), x9]])
    (fun y5 => impl_inRange m ((x1.rows.getD (Int.toNat x3.int) []).getD 0 dflt) (T.i 1000) (T.i (IntKind.i64.wrap (y5.int - 1)))
    (fun y6 => cond ((!y6.bool) == false)
    (impl_Coord_choiceAt m (T.l [[x4, x5, x6, (T.l x7.rows), (T.l x8.rows), x9]]) ((x1.rows.getD (Int.toNat x3.int) []).getD 0 dflt)
    (fun y7 => cond (y7.int != x3.int)
    (k0 (T.b false))
    (impl_CoordOk_L0_0 m n (T.i (x0.int.toNat : Int)) x1 x2 (T.i (IntKind.i64.wrap (x3.int + 1))) x4 x5 x6 x7 x8 x9 k0 k1)))
    (k0 (T.b false)))))
    (.bad))
    (k1 (T.i (x0.int.toNat : Int)) x4 x5 x6 x7 x8 x9)
noncomputable def impl_CoordOk : Nat → T → T → T → T → T → T → (T → An) → An
  | 0, _, _, _, _, _, _, _ => .bad
  | m + 1, x0, x1, x2, x3, x4, x5, k0 =>
    jn (fun (j20 : An) =>
    impl_inRange m x0 (T.i 1) (T.i 8)
    (fun y0 => cond ((!y0.bool) == false)
    (impl_inRange m x1 (T.i 1) (T.i 900)
    (fun y1 => cond ((!y1.bool) == false)
    (impl_inRange m x2 (T.i 0) (T.i 999)
    (fun y2 => cond ((!y2.bool) == false)
    (cond ((decide ((x4.rows.length : Int) > 1000)) == false)
    (impl_inRange m x5 (T.i 0) (T.i (x4.rows.length : Int))
    (fun y3 => cond (!y3.bool)
    (k0 (T.b false))
    (j20)))
    (k0 (T.b false)))
    (k0 (T.b false))))
    (k0 (T.b false))))
    (k0 (T.b false))))
    (impl_CoordOk_L0_0 m m (T.i 0) (T.l x4.rows) (T.i (x4.rows.length : Int)) (T.i 0) x0 x1 x2 (T.l x3.rows) (T.l x4.rows) x5
    (fun y9 => k0 y9)
    (fun y10 y11 y12 y13 y14 y15 y16 => impl_CoordOk_L1_0 m m (T.i (y10.int.toNat : Int)) y14 (T.i (y14.rows.length : Int)) (T.i 0) y11 y12 y13 y14 y15 y16
    (fun y19 => k0 y19)
    (k0 (T.b true))))
noncomputable def impl_CoordOk_f : Fs := ⟨21, [.agg [AI, AI, AI, .dz [.sc (.int .i64), .sl [.sc (.int .i64), .sc (.str), .sc (.str)], .sc (.int .i64), .sl [.sc (.int .i64)]] [], .dz [.sc (.int .i64), .sc (.bool)] [], AI]], fun m vs k => ap 6 (impl_CoordOk m) vs (lm 1 fun z => k (fRet ⟨[.one (RB)], [[none, none, none, none, none, none]], [none]⟩ z))⟩
noncomputable def impl_CoordOk_l : List Ls := [⟨[0, 1, 0, 1, 1, 1], ⟨[(1, EP 0), (61, .one (LD [.sc (.int .i64), .sl [.sc (.int .i64), .sc (.str), .sc (.str)], .sc (.int .i64), .sl [.sc (.int .i64)]])), (62, .one (LI)), (63, .one (LI))], [((KI 0), .box [LI, LI, LI, LD [.sc (.int .i64), .sl [.sc (.int .i64), .sc (.str), .sc (.str)], .sc (.int .i64), .sl [.sc (.int .i64)]], LD [.sc (.int .i64), .sc (.bool)], LI]), ([4000000], .gone)]⟩, fun m n vs k => ap 10 (impl_CoordOk_L1_0 m n) vs (lm 1 fun z => k .ret (fPack ⟨[(2, .one (LB))], []⟩ z)) (lm 0 fun z => k (.exit 2) (fPack ⟨[], []⟩ z))⟩, ⟨[0, 1, 0, 1, 1], ⟨[(1, EP 0), (39, .one (LD [.sc (.int .i64), .sc (.bool)])), (40, .one (LI)), (41, .one (LI))], [((KI 0), .box [LI, LI, LI, LD [.sc (.int .i64), .sl [.sc (.int .i64), .sc (.str), .sc (.str)], .sc (.int .i64), .sl [.sc (.int .i64)]], LD [.sc (.int .i64), .sc (.bool)], LI]), ([4000000], .gone)]⟩, fun m n vs k => ap 10 (impl_CoordOk_L0_0 m n) vs (lm 1 fun z => k .ret (fPack ⟨[(2, .one (LB))], []⟩ z)) (lm 7 fun z => k (.exit 0) (fPack ⟨[(1, EP 0)], [((KI 0), .box [LI, LI, LI, LD [.sc (.int .i64), .sl [.sc (.int .i64), .sc (.str), .sc (.str)], .sc (.int .i64), .sl [.sc (.int .i64)]], LD [.sc (.int .i64), .sc (.bool)], LI]), ([4000000], .gone)]⟩ z))⟩]
noncomputable def impl_CoordOk_t : List Fs := impl_CoordOk_f :: impl_Coord_jobOk_t
theorem impl_CoordOk_g : FGood CX prims impl_CoordOk_t ∧ FEqn CX prims impl_CoordOk_f := fnG impl_Coord_jobOk_g.1 impl_CoordOk_f Tryz.f21 ⟨21, 1, 88, 4⟩ impl_CoordOk_l (fun _ _ => rfl) (fun _ _ _ => by kernel_rfl) ⟨fun _ _ _ => rfl, fun _ _ _ => rfl, trivial⟩ ⟨fun _ _ _ _ _ _ => by kernel_rfl, fun _ _ _ _ _ _ => by kernel_rfl, trivial⟩ (fun _ _ _ _ _ => by kernel_rfl)

/-! loop.example/g00244/impl.isTx -/
noncomputable def impl_isTx : Nat → T → (T → An) → An
  | 0, _, _ => .bad
  | m + 1, x0, k0 =>
    impl_inRange m x0 (T.i 1) (T.i 1000000)
    (fun y0 => k0 y0)
noncomputable def impl_isTx_f : Fs := ⟨109, [.one (AI)], fun m vs k => ap 1 (impl_isTx m) vs (lm 1 fun z => k (fRet ⟨[.one (RB)], [[none]], [none]⟩ z))⟩
noncomputable def impl_isTx_t : List Fs := impl_isTx_f :: impl_CoordOk_t
theorem impl_isTx_g : FGood CX prims impl_isTx_t ∧ FEqn CX prims impl_isTx_f := fnG impl_CoordOk_g.1 impl_isTx_f Tryz.f109 ⟨109, 1, 5, 4⟩ [] (fun _ _ => rfl) (fun _ _ _ => by kernel_rfl) trivial trivial (fun _ _ _ _ _ => by kernel_rfl)

/-! loop.example/g00244/impl.RecOk -/
noncomputable def impl_RecOk : Nat → T → T → T → (T → An) → An
  | 0, _, _, _, _ => .bad
  | m + 1, x0, x1, x2, k0 =>
    cond (x0.int == 1)
    (impl_isTx m x1
    (fun y0 => cond (y0.bool == true)
    (impl_OpsOk m (T.l x2.rows)
    (fun y1 => k0 (T.b y1.bool)))
    (k0 (T.b false))))
    (cond (x0.int == 2)
    (impl_isTx m x1
    (fun y6 => cond (y6.bool == true)
    (k0 (T.b ((x2.rows.length : Int) == 0)))
    (k0 (T.b false))))
    (cond (x0.int == 3)
    (impl_isTx m x1
    (fun y8 => cond (y8.bool == true)
    (k0 (T.b ((x2.rows.length : Int) == 0)))
    (k0 (T.b false))))
    (k0 (T.b false))))
noncomputable def impl_RecOk_f : Fs := ⟨107, [.agg [AI, AI, .dz [.sc (.int .i64), .sc (.str), .sc (.str)] []]], fun m vs k => ap 3 (impl_RecOk m) vs (lm 1 fun z => k (fRet ⟨[.one (RB)], [[none, none, none]], [none]⟩ z))⟩
noncomputable def impl_RecOk_t : List Fs := impl_RecOk_f :: impl_isTx_t
theorem impl_RecOk_g : FGood CX prims impl_RecOk_t ∧ FEqn CX prims impl_RecOk_f := fnG impl_isTx_g.1 impl_RecOk_f Tryz.f107 ⟨107, 1, 27, 4⟩ [] (fun _ _ => rfl) (fun _ _ _ => by kernel_rfl) trivial trivial (fun _ _ _ _ _ => by kernel_rfl)

/-! loop.example/g00244/impl.recAt -/
noncomputable def impl_recAt_L0_0 (m : Nat) : Nat → T → T → T → (T → An) → An → An
  | 0, _, _, _, _, _ => .bad
  | n + 1, x0, x1, x2, k0, k1 =>
    cond (decide (x2.int ≥ 0))
    (cond (decide ((0 : Int) ≤ x2.int ∧ x2.int < (x0.rows.length : Int)))
    (cond ((((x0.rows.getD (Int.toNat x2.int) []).drop 1).getD 0 dflt).int == x1.int)
    (k0 x2)
    (impl_recAt_L0_0 m n x0 x1 (T.i (IntKind.i64.wrap (x2.int - 1))) k0 k1))
    (.bad))
    (k1 )
noncomputable def impl_recAt : Nat → T → T → (T → An) → An
  | 0, _, _, _ => .bad
  | m + 1, x0, x1, k0 =>
    impl_recAt_L0_0 m m (T.l x0.rows) x1 (T.i (IntKind.i64.wrap ((x0.rows.length : Int) - 1)))
    (fun y0 => k0 y0)
    (k0 (T.i (-1)))
noncomputable def impl_recAt_f : Fs := ⟨141, [.one (.dz [.sc (.int .i64), .sc (.int .i64), .sl [.sc (.int .i64), .sc (.str), .sc (.str)]] []), .one (AI)], fun m vs k => ap 2 (impl_recAt m) vs (lm 1 fun z => k (fRet ⟨[.one (RI)], [[none], [none]], [none, none]⟩ z))⟩
noncomputable def impl_recAt_l : List Ls := [⟨[0, 1, 0, 1], ⟨[(0, .one (LD [.sc (.int .i64), .sc (.int .i64), .sl [.sc (.int .i64), .sc (.str), .sc (.str)]])), (1, .one (LI)), (5, .one (LI))], [([4000000], .gone)]⟩, fun m n vs k => ap 3 (impl_recAt_L0_0 m n) vs (lm 1 fun z => k .ret (fPack ⟨[(4, .one (LI))], []⟩ z)) (lm 0 fun z => k (.exit 0) (fPack ⟨[], []⟩ z))⟩]
noncomputable def impl_recAt_t : List Fs := impl_recAt_f :: impl_RecOk_t
theorem impl_recAt_g : FGood CX prims impl_recAt_t ∧ FEqn CX prims impl_recAt_f := fnG impl_RecOk_g.1 impl_recAt_f Tryz.f141 ⟨141, 2, 21, 16⟩ impl_recAt_l (fun _ _ => rfl) (fun _ _ _ => by kernel_rfl) ⟨fun _ _ _ => rfl, trivial⟩ ⟨fun _ _ _ _ _ _ => by kernel_rfl, trivial⟩ (fun _ _ _ _ _ => by kernel_rfl)

/-! loop.example/g00244/impl.isHeldKey -/
noncomputable def impl_isHeldKey_L2_0 (m : Nat) : Nat → T → T → T → T → T → T → T → T → T → T → T → T → T → T → (T → An) → (T → T → T → T → T → T → T → An) → An
  | 0, _, _, _, _, _, _, _, _, _, _, _, _, _, _, _, _ => .bad
  | n + 1, x0, x1, x2, x3, x4, x5, x6, x7, x8, x9, x10, x11, x12, x13, k0, k1 =>
    cond (decide (x10.int < x9.int))
    (cond (decide ((0 : Int) ≤ x10.int ∧ x10.int < (x8.rows.length : Int)))
    (cond (((x8.rows.getD (Int.toNat x10.int) []).getD 1 dflt).str.toList == x12.str.toList)
    (k0 (T.b true))
    (impl_isHeldKey_L2_0 m n x0 (T.i (x1.int.toNat : Int)) x2 x3 x4 x5 x6 x7 x8 x9 (T.i (IntKind.i64.wrap (x10.int + 1))) x11 x12 x13 k0 k1))
    (.bad))
    (k1 x0 x2 x3 x4 x5 x6 x7)
noncomputable def impl_isHeldKey_L1_0 (m : Nat) : Nat → T → T → T → T → T → T → T → (T → An) → (T → T → T → T → An) → An
  | 0, _, _, _, _, _, _, _, _, _ => .bad
  | n + 1, x0, x1, x2, x3, x4, x5, x6, k0, k1 =>
    cond (decide (x6.int < x5.int))
    (cond (decide ((0 : Int) ≤ x6.int ∧ x6.int < (x4.rows.length : Int)))
    (impl_isHeldKey_L2_0 m n x0 (T.i 0) x1 x2 x3 x4 x5 x6 x0 (T.i (x0.rows.length : Int)) (T.i 0) ((x4.rows.getD (Int.toNat x6.int) []).getD 0 dflt) ((x4.rows.getD (Int.toNat x6.int) []).getD 1 dflt) ((x4.rows.getD (Int.toNat x6.int) []).getD 2 dflt)
    (fun y0 => k0 y0)
    (fun y1 y2 y3 y4 y5 y6 y7 => impl_isHeldKey_L1_0 m n y1 y2 y3 y4 y5 y6 (T.i (IntKind.i64.wrap (y7.int + 1))) k0 k1))
    (.bad))
    (k1 x0 x1 x2 x3)
noncomputable def impl_isHeldKey_L0_0 (m : Nat) : Nat → T → T → T → T → (T → An) → An → An
  | 0, _, _, _, _, _, _ => .bad
  | n + 1, x0, x1, x2, x3, k0, k1 =>
    cond (decide (x3.int < x2.int))
    (cond (decide ((0 : Int) ≤ x3.int ∧ x3.int < (x1.rows.length : Int)))
    (impl_isHeldKey_L1_0 m n x0 x1 x2 x3 ((x1.rows.getD (Int.toNat x3.int) []).getD 2 dflt) (T.i (((x1.rows.getD (Int.toNat x3.int) []).getD 2 dflt).rows.length : Int)) (T.i 0)
    (fun y8 => k0 y8)
    (fun y9 y10 y11 y12 => impl_isHeldKey_L0_0 m n y9 y10 y11 (T.i (IntKind.i64.wrap (y12.int + 1))) k0 k1))
    (.bad))
    (k1 )
noncomputable def impl_isHeldKey : Nat → T → T → (T → An) → An
  | 0, _, _, _ => .bad
  | m + 1, x0, x1, k0 =>
    impl_isHeldKey_L0_0 m m (T.l x1.rows) (T.l x0.rows) (T.i (x0.rows.length : Int)) (T.i 0)
    (fun y13 => k0 y13)
    (k0 (T.b false))
noncomputable def impl_isHeldKey_f : Fs := ⟨142, [.one (.dz [.sc (.int .i64), .sc (.int .i64), .sl [.sc (.int .i64), .sc (.str), .sc (.str)]] []), .one (.dz [.sc (.int .i64), .sc (.str), .sc (.str)] [])], fun m vs k => ap 2 (impl_isHeldKey m) vs (lm 1 fun z => k (fRet ⟨[.one (RB)], [[none], [none]], [none, none]⟩ z))⟩
noncomputable def impl_isHeldKey_l : List Ls := [⟨[0, 1, 1, 0, 0, 1, 1, 0, 0, 1, 1, 0, 0, 1, 1, 0, 0, 1, 0, 1], ⟨[(1, .one (LD [.sc (.int .i64), .sc (.str), .sc (.str)])), (8, EP 1), (11, .one (LD [.sc (.int .i64), .sc (.int .i64), .sl [.sc (.int .i64), .sc (.str), .sc (.str)]])), (12, .one (LI)), (13, .one (LI)), (18, .one (LD [.sc (.int .i64), .sc (.str), .sc (.str)])), (19, .one (LI)), (20, .one (LI)), (24, .one (LD [.sc (.int .i64), .sc (.str), .sc (.str)])), (25, .one (LI)), (26, .one (LI))], [([4000000], .gone), ((KI 1), .box [LI, LS, LS])]⟩, fun m n vs k => ap 14 (impl_isHeldKey_L2_0 m n) vs (lm 1 fun z => k .ret (fPack ⟨[(4, .one (LB))], []⟩ z)) (lm 7 fun z => k (.exit 4) (fPack ⟨[(1, .one (LD [.sc (.int .i64), .sc (.str), .sc (.str)])), (11, .one (LD [.sc (.int .i64), .sc (.int .i64), .sl [.sc (.int .i64), .sc (.str), .sc (.str)]])), (12, .one (LI)), (13, .one (LI)), (18, .one (LD [.sc (.int .i64), .sc (.str), .sc (.str)])), (19, .one (LI)), (20, .one (LI))], [([4000000], .gone)]⟩ z))⟩, ⟨[0, 1, 1, 0, 0, 1, 1, 0, 0, 1, 0, 1], ⟨[(1, .one (LD [.sc (.int .i64), .sc (.str), .sc (.str)])), (11, .one (LD [.sc (.int .i64), .sc (.int .i64), .sl [.sc (.int .i64), .sc (.str), .sc (.str)]])), (12, .one (LI)), (13, .one (LI)), (18, .one (LD [.sc (.int .i64), .sc (.str), .sc (.str)])), (19, .one (LI)), (20, .one (LI))], [([4000000], .gone)]⟩, fun m n vs k => ap 7 (impl_isHeldKey_L1_0 m n) vs (lm 1 fun z => k .ret (fPack ⟨[(4, .one (LB))], []⟩ z)) (lm 4 fun z => k (.exit 2) (fPack ⟨[(1, .one (LD [.sc (.int .i64), .sc (.str), .sc (.str)])), (11, .one (LD [.sc (.int .i64), .sc (.int .i64), .sl [.sc (.int .i64), .sc (.str), .sc (.str)]])), (12, .one (LI)), (13, .one (LI))], [([4000000], .gone)]⟩ z))⟩, ⟨[0, 1, 0, 1], ⟨[(1, .one (LD [.sc (.int .i64), .sc (.str), .sc (.str)])), (11, .one (LD [.sc (.int .i64), .sc (.int .i64), .sl [.sc (.int .i64), .sc (.str), .sc (.str)]])), (12, .one (LI)), (13, .one (LI))], [([4000000], .gone)]⟩, fun m n vs k => ap 4 (impl_isHeldKey_L0_0 m n) vs (lm 1 fun z => k .ret (fPack ⟨[(4, .one (LB))], []⟩ z)) (lm 0 fun z => k (.exit 0) (fPack ⟨[], []⟩ z))⟩]
noncomputable def impl_isHeldKey_t : List Fs := impl_isHeldKey_f :: impl_recAt_t
theorem impl_isHeldKey_g : FGood CX prims impl_isHeldKey_t ∧ FEqn CX prims impl_isHeldKey_f := fnG impl_recAt_g.1 impl_isHeldKey_f Tryz.f142 ⟨142, 2, 38, 16⟩ impl_isHeldKey_l (fun _ _ => rfl) (fun _ _ _ => by kernel_rfl) ⟨fun _ _ _ => rfl, fun _ _ _ => rfl, fun _ _ _ => rfl, trivial⟩ ⟨fun _ _ _ _ _ _ => by kernel_rfl, fun _ _ _ _ _ _ => by kernel_rfl, fun _ _ _ _ _ _ => by kernel_rfl, trivial⟩ (fun _ _ _ _ _ => by kernel_rfl)

/-! loop.example/g00244/impl.pairAt$1 -/
noncomputable def impl_pairAt_1 : Nat → T → T → T → (T → An) → An
  | 0, _, _, _, _ => .bad
  | m + 1, x0, x1, x2, k0 =>
    k0 (T.b (x0.str.toList == ((row1 x2).getD 0 dflt).str.toList))
noncomputable def impl_pairAt_1_f : Fs := ⟨148, [.agg [AS, AS], .rpt [.sc (.str)] []], fun m vs k => ap 3 (impl_pairAt_1 m) vs (lm 1 fun z => k (fRet ⟨[.one (RB)], [[none, none], []], [none, none]⟩ z))⟩
noncomputable def impl_pairAt_1_t : List Fs := impl_pairAt_1_f :: impl_isHeldKey_t
theorem impl_pairAt_1_g : FGood CX prims impl_pairAt_1_t ∧ FEqn CX prims impl_pairAt_1_f := fnG impl_isHeldKey_g.1 impl_pairAt_1_f Tryz.f148 ⟨148, 2, 8, 8⟩ [] (fun _ _ => rfl) (fun _ _ _ => by kernel_rfl) trivial trivial (fun _ _ _ _ _ => by kernel_rfl)

/-! slices.IndexFunc[[]loop.example/g00244/impl.Pair,loop.example/g00244/impl.Pair] -/
noncomputable def slices_IndexFunc___impl_Pair_impl_Pair__L0_0 (m : Nat) : Nat → T → T → T → T → (T → An) → An → An
  | 0, _, _, _, _, _, _ => .bad
  | n + 1, x0, x1, x2, x3, k0, k1 =>
    cond (decide (x3.int < x2.int))
    (cond (decide ((0 : Int) ≤ x3.int ∧ x3.int < (x0.rows.length : Int)))
    (impl_pairAt_1 m ((x0.rows.getD (Int.toNat x3.int) []).getD 0 dflt) ((x0.rows.getD (Int.toNat x3.int) []).getD 1 dflt) (T.l [(row1 x1)])
    (fun y0 => cond y0.bool
    (k0 x3)
    (slices_IndexFunc___impl_Pair_impl_Pair__L0_0 m n x0 (T.l [(row1 x1)]) x2 (T.i (IntKind.i64.wrap (x3.int + 1))) k0 k1)))
    (.bad))
    (k1 )
noncomputable def slices_IndexFunc___impl_Pair_impl_Pair_ : Nat → T → T → (T → An) → An
  | 0, _, _, _ => .bad
  | m + 1, x0, x1, k0 =>
    slices_IndexFunc___impl_Pair_impl_Pair__L0_0 m m (T.l x0.rows) (T.l [(row1 x1)]) (T.i (x0.rows.length : Int)) (T.i 0)
    (fun y1 => k0 y1)
    (k0 (T.i (-1)))
noncomputable def slices_IndexFunc___impl_Pair_impl_Pair__f : Fs := ⟨147, [.one (.dz [.sc (.str), .sc (.str)] []), .fn 148 [.rpt [.sc (.str)] []]], fun m vs k => ap 2 (slices_IndexFunc___impl_Pair_impl_Pair_ m) vs (lm 1 fun z => k (fRet ⟨[.one (RI)], [[none], []], [none, none]⟩ z))⟩
noncomputable def slices_IndexFunc___impl_Pair_impl_Pair__l : List Ls := [⟨[0, 1, 0, 1], ⟨[(0, .one (LD [.sc (.str), .sc (.str)])), (1, .fn 148 [.rp [([4000000], 0)] [.sc (.str)] []]), (7, .one (LI)), (8, .one (LI))], [([4000000], .gone)]⟩, fun m n vs k => ap 4 (slices_IndexFunc___impl_Pair_impl_Pair__L0_0 m n) vs (lm 1 fun z => k .ret (fPack ⟨[(4, .one (LI))], []⟩ z)) (lm 0 fun z => k (.exit 0) (fPack ⟨[], []⟩ z))⟩]
noncomputable def slices_IndexFunc___impl_Pair_impl_Pair__t : List Fs := slices_IndexFunc___impl_Pair_impl_Pair__f :: impl_pairAt_1_t
theorem slices_IndexFunc___impl_Pair_impl_Pair__g : FGood CX prims slices_IndexFunc___impl_Pair_impl_Pair__t ∧ FEqn CX prims slices_IndexFunc___impl_Pair_impl_Pair__f := fnG impl_pairAt_1_g.1 slices_IndexFunc___impl_Pair_impl_Pair__f Tryz.f147 ⟨147, 2, 19, 16⟩ slices_IndexFunc___impl_Pair_impl_Pair__l (fun _ _ => rfl) (fun _ _ _ => by kernel_rfl) ⟨fun _ _ _ => rfl, trivial⟩ ⟨fun _ _ _ _ _ _ => by kernel_rfl, trivial⟩ (fun _ _ _ _ _ => by kernel_rfl)

/-! loop.example/g00244/impl.pairAt -/
noncomputable def impl_pairAt : Nat → T → T → (T → An) → An
  | 0, _, _, _ => .bad
  | m + 1, x0, x1, k0 =>
    slices_IndexFunc___impl_Pair_impl_Pair_ m (T.l x0.rows) (T.l [[x1]])
    (fun y0 => k0 y0)
noncomputable def impl_pairAt_f : Fs := ⟨111, [.one (.dz [.sc (.str), .sc (.str)] []), .one (AS)], fun m vs k => ap 2 (impl_pairAt m) vs (lm 1 fun z => k (fRet ⟨[.one (RI)], [[none], [none]], [none, none]⟩ z))⟩
noncomputable def impl_pairAt_t : List Fs := impl_pairAt_f :: slices_IndexFunc___impl_Pair_impl_Pair__t
theorem impl_pairAt_g : FGood CX prims impl_pairAt_t ∧ FEqn CX prims impl_pairAt_f := fnG slices_IndexFunc___impl_Pair_impl_Pair__g.1 impl_pairAt_f Tryz.f111 ⟨111, 2, 8, 16⟩ [] (fun _ _ => rfl) (fun _ _ _ => by kernel_rfl) trivial trivial (fun _ _ _ _ _ => by kernel_rfl)

/-! loop.example/g00244/impl.GetKey -/
noncomputable def impl_GetKey : Nat → T → T → (T → T → An) → An
  | 0, _, _, _ => .bad
  | m + 1, x0, x1, k0 =>
    impl_pairAt m (T.l x0.rows) x1
    (fun y0 => cond (decide (y0.int < 0))
    (k0 (T.s (⟨#[]⟩ : ByteArray)) (T.b false))
    (cond (decide ((0 : Int) ≤ y0.int ∧ y0.int < (x0.rows.length : Int)))
    (k0 (((x0.rows.getD (Int.toNat y0.int) []).drop 1).getD 0 dflt) (T.b true))
    (.bad)))
noncomputable def impl_GetKey_f : Fs := ⟨171, [.one (.dz [.sc (.str), .sc (.str)] []), .one (AS)], fun m vs k => ap 2 (impl_GetKey m) vs (lm 2 fun z => k (fRet ⟨[.one (RS), .one (RB)], [[none], [none]], [none, none]⟩ z))⟩
noncomputable def impl_GetKey_t : List Fs := impl_GetKey_f :: impl_pairAt_t
theorem impl_GetKey_g : FGood CX prims impl_GetKey_t ∧ FEqn CX prims impl_GetKey_f := fnG impl_pairAt_g.1 impl_GetKey_f Tryz.f171 ⟨171, 2, 17, 48⟩ [] (fun _ _ => rfl) (fun _ _ _ => by kernel_rfl) trivial trivial (fun _ _ _ _ _ => by kernel_rfl)

/-! loop.example/g00244/impl.Meets -/
noncomputable def impl_Meets_L0_0 (m : Nat) : Nat → T → T → T → T → (T → An) → An → An
  | 0, _, _, _, _, _, _ => .bad
  | n + 1, x0, x1, x2, x3, k0, k1 =>
    cond (decide (x3.int < x2.int))
    (cond (decide ((0 : Int) ≤ x3.int ∧ x3.int < (x1.rows.length : Int)))
    (cond (((x1.rows.getD (Int.toNat x3.int) []).getD 0 dflt).int != 3)
    (impl_Meets_L0_0 m n x0 x1 x2 (T.i (IntKind.i64.wrap (x3.int + 1))) k0 k1)
    (impl_GetKey m (T.l x0.rows) ((x1.rows.getD (Int.toNat x3.int) []).getD 1 dflt)
    (fun y0 y1 => cond ((!(y1.bool == (!(((x1.rows.getD (Int.toNat x3.int) []).getD 2 dflt).str.toList == (⟨#[]⟩ : ByteArray).toList)))) == false)
    (cond (!(y0.str.toList == ((x1.rows.getD (Int.toNat x3.int) []).getD 2 dflt).str.toList))
    (k0 (T.b false))
    (impl_Meets_L0_0 m n x0 x1 x2 (T.i (IntKind.i64.wrap (x3.int + 1))) k0 k1))
    (k0 (T.b false)))))
    (.bad))
    (k1 )
noncomputable def impl_Meets : Nat → T → T → (T → An) → An
  | 0, _, _, _ => .bad
  | m + 1, x0, x1, k0 =>
    impl_Meets_L0_0 m m (T.l x0.rows) (T.l x1.rows) (T.i (x1.rows.length : Int)) (T.i 0)
    (fun y3 => k0 y3)
    (k0 (T.b true))
noncomputable def impl_Meets_f : Fs := ⟨143, [.one (.dz [.sc (.str), .sc (.str)] []), .one (.dz [.sc (.int .i64), .sc (.str), .sc (.str)] [])], fun m vs k => ap 2 (impl_Meets m) vs (lm 1 fun z => k (fRet ⟨[.one (RB)], [[none], [none]], [none, none]⟩ z))⟩
noncomputable def impl_Meets_l : List Ls := [⟨[0, 1, 0, 1], ⟨[(0, .one (LD [.sc (.str), .sc (.str)])), (9, .one (LD [.sc (.int .i64), .sc (.str), .sc (.str)])), (10, .one (LI)), (11, .one (LI))], [([4000000], .gone)]⟩, fun m n vs k => ap 4 (impl_Meets_L0_0 m n) vs (lm 1 fun z => k .ret (fPack ⟨[(4, .one (LB))], []⟩ z)) (lm 0 fun z => k (.exit 0) (fPack ⟨[], []⟩ z))⟩]
noncomputable def impl_Meets_t : List Fs := impl_Meets_f :: impl_GetKey_t
theorem impl_Meets_g : FGood CX prims impl_Meets_t ∧ FEqn CX prims impl_Meets_f := fnG impl_GetKey_g.1 impl_Meets_f Tryz.f143 ⟨143, 2, 37, 16⟩ impl_Meets_l (fun _ _ => rfl) (fun _ _ _ => by kernel_rfl) ⟨fun _ _ _ => rfl, trivial⟩ ⟨fun _ _ _ _ _ _ => by kernel_rfl, trivial⟩ (fun _ _ _ _ _ => by kernel_rfl)

/-! loop.example/g00244/impl.putKey -/
noncomputable def impl_putKey_L0_0 (m : Nat) : Nat → T → T → T → T → (T → T → T → T → An) → An
  | 0, _, _, _, _, _ => .bad
  | n + 1, x0, x1, x2, x3, k0 =>
    cond ((decide (x2.int < (x3.rows.length : Int))) == true)
    (cond (decide ((0 : Int) ≤ x2.int ∧ x2.int < (x3.rows.length : Int)))
    (cond (decide ((Int.toNat x2.int) < x3.rows.length))
    (cond ((Op.bytesLess ((x3.rows.getD (Int.toNat x2.int) []).getD 0 dflt).str.toList x0.str.toList) || (((x3.rows.getD (Int.toNat x2.int) []).getD 0 dflt).str.toList == x0.str.toList))
    (impl_putKey_L0_0 m n x0 x1 (T.i (IntKind.i64.wrap (x2.int + 1))) (T.l x3.rows) k0)
    (k0 x0 x1 x2 (T.l x3.rows)))
    (.bad))
    (.bad))
    (k0 x0 x1 x2 (T.l x3.rows))
noncomputable def impl_putKey : Nat → T → T → T → (T → An) → An
  | 0, _, _, _, _ => .bad
  | m + 1, x0, x1, x2, k0 =>
    impl_pairAt m (T.l x0.rows) x1
    (fun y0 => cond (decide (y0.int ≥ 0))
    (cond (decide ((0 : Int) ≤ y0.int ∧ y0.int < (x0.rows.length : Int)))
    (cond (decide ((Int.toNat y0.int) < x0.rows.length))
    (k0 (T.l (x0.rows.set (Int.toNat y0.int) ((x0.rows.getD (Int.toNat y0.int) []).set 1 x2))))
    (.bad))
    (.bad))
    (impl_putKey_L0_0 m m x1 x2 (T.i 0) (T.l x0.rows)
    (fun y2 y3 y4 y5 => slices_Insert___impl_Pair_impl_Pair_ m (T.l y5.rows) y4 (T.l [[y2, y3]]))))
noncomputable def impl_putKey_f : Fs := ⟨81, [.one (.own [.sc (.str), .sc (.str)] [.F, .F] []), .one (AS), .one (AS)], fun m vs k => ap 3 (impl_putKey m) vs (lm 1 fun z => k (fRet ⟨[.one (.own (KR 0 0) [.sc (.str), .sc (.str)] [.F, .F] [])], [[none], [none], [none]], [none, none, none]⟩ z))⟩
noncomputable def impl_putKey_l : List Ls := [⟨[0, 0, 1, 1, 1], ⟨[(0, .one (LA [0, 0] [.sc (.str), .sc (.str)])), (1, .one (LS)), (2, .one (LS)), (8, .one (LI))], [([0, 0], .row [.sc (.str), .sc (.str)] [.F, .F] [])]⟩, fun m n vs k => ap 4 (impl_putKey_L0_0 m n) vs (lm 4 fun z => k (.exit 0) (fPack ⟨[(0, .one (LA [0, 0] [.sc (.str), .sc (.str)])), (1, .one (LS)), (2, .one (LS)), (8, .one (LI))], [([0, 0], .row [.sc (.str), .sc (.str)] [.F, .F] [])]⟩ z))⟩]
noncomputable def impl_putKey_t : List Fs := impl_putKey_f :: impl_Meets_t
theorem impl_putKey_g : FGood CX prims impl_putKey_t ∧ FEqn CX prims impl_putKey_f := fnG impl_Meets_g.1 impl_putKey_f Tryz.f81 ⟨81, 3, 42, 65⟩ impl_putKey_l (fun _ _ => rfl) (fun _ _ _ => by kernel_rfl) ⟨fun _ _ _ => rfl, trivial⟩ ⟨fun _ _ _ _ _ _ => by kernel_rfl, trivial⟩ (fun _ _ _ _ _ => by kernel_rfl)

/-! loop.example/g00244/impl.DelKey -/
noncomputable def impl_DelKey : Nat → T → T → An
  | 0, _, _ => .bad
  | m + 1, x0, x1 =>
    slices_Clone___impl_Pair_impl_Pair_ m (T.l x0.rows)
    (fun y0 => slices_DeleteFunc___impl_Pair_impl_Pair_ m (T.l y0.rows) (T.l [[x1]]))
noncomputable def impl_DelKey_f : Fs := ⟨82, [.one (.own [.sc (.str), .sc (.str)] [.F, .F] []), .one (AS)], fun m vs k => ap 2 (impl_DelKey m) vs⟩
noncomputable def impl_DelKey_t : List Fs := impl_DelKey_f :: impl_putKey_t
theorem impl_DelKey_g : FGood CX prims impl_DelKey_t ∧ FEqn CX prims impl_DelKey_f := fnG impl_putKey_g.1 impl_DelKey_f Tryz.f82 ⟨82, 2, 9, 17⟩ [] (fun _ _ => rfl) (fun _ _ _ => by kernel_rfl) trivial trivial (fun _ _ _ _ _ => by kernel_rfl)

/-! loop.example/g00244/impl.Apply -/
noncomputable def impl_Apply_L0_0 (m : Nat) : Nat → T → T → T → T → (T → An) → An
  | 0, _, _, _, _, _ => .bad
  | n + 1, x0, x1, x2, x3, k0 =>
    cond (decide (x2.int < x1.int))
    (cond (decide ((0 : Int) ≤ x2.int ∧ x2.int < (x0.rows.length : Int)))
    (cond (((x0.rows.getD (Int.toNat x2.int) []).getD 0 dflt).int == 1)
    (impl_putKey m (T.l x3.rows) ((x0.rows.getD (Int.toNat x2.int) []).getD 1 dflt) ((x0.rows.getD (Int.toNat x2.int) []).getD 2 dflt)
    (fun y1 => impl_Apply_L0_0 m n x0 x1 (T.i (IntKind.i64.wrap (x2.int + 1))) (T.l y1.rows) k0))
    (cond (((x0.rows.getD (Int.toNat x2.int) []).getD 0 dflt).int == 2)
    (impl_DelKey m (T.l x3.rows) ((x0.rows.getD (Int.toNat x2.int) []).getD 1 dflt))
    (impl_Apply_L0_0 m n x0 x1 (T.i (IntKind.i64.wrap (x2.int + 1))) (T.l x3.rows) k0)))
    (.bad))
    (k0 (T.l x3.rows))
noncomputable def impl_Apply : Nat → T → T → (T → An) → An
  | 0, _, _, _ => .bad
  | m + 1, x0, x1, k0 =>
    slices_Clone___impl_Pair_impl_Pair_ m (T.l x0.rows)
    (fun y0 => impl_Apply_L0_0 m m (T.l x1.rows) (T.i (x1.rows.length : Int)) (T.i 0) (T.l y0.rows)
    (fun y5 => k0 (T.l y5.rows)))
noncomputable def impl_Apply_f : Fs := ⟨50, [.one (.dz [.sc (.str), .sc (.str)] []), .one (.dz [.sc (.int .i64), .sc (.str), .sc (.str)] [])], fun m vs k => ap 2 (impl_Apply m) vs (lm 1 fun z => k (fRet ⟨[.one (.own (KR 0 0) [.sc (.str), .sc (.str)] [.F, .F] [])], [[none], [none]], [none, none]⟩ z))⟩
noncomputable def impl_Apply_l : List Ls := [⟨[0, 1, 0, 1, 1], ⟨[(5, .one (LA (KI 0) [.sc (.str), .sc (.str)])), (10, .one (LD [.sc (.int .i64), .sc (.str), .sc (.str)])), (11, .one (LI)), (12, .one (LI))], [((KI 0), .row [.sc (.str), .sc (.str)] [.F, .F] []), ([4000000], .gone)]⟩, fun m n vs k => ap 4 (impl_Apply_L0_0 m n) vs (lm 1 fun z => k (.exit 0) (fPack ⟨[(5, .one (LA (KI 0) [.sc (.str), .sc (.str)]))], [((KI 0), .row [.sc (.str), .sc (.str)] [.F, .F] [])]⟩ z))⟩]
noncomputable def impl_Apply_t : List Fs := impl_Apply_f :: impl_DelKey_t
theorem impl_Apply_g : FGood CX prims impl_Apply_t ∧ FEqn CX prims impl_Apply_f := fnG impl_DelKey_g.1 impl_Apply_f Tryz.f50 ⟨50, 2, 34, 16⟩ impl_Apply_l (fun _ _ => rfl) (fun _ _ _ => by kernel_rfl) ⟨fun _ _ _ => rfl, trivial⟩ ⟨fun _ _ _ _ _ _ => by kernel_rfl, trivial⟩ (fun _ _ _ _ _ => by kernel_rfl)

/-! (*loop.example/g00244/impl.replay).add -/
noncomputable def impl_replay_add : Nat → T → T → T → T → T → T → (T → T → T → An) → An
  | 0, _, _, _, _, _, _, _ => .bad
  | m + 1, x0, x1, x2, x3, x4, x5, k0 =>
    impl_recAt m (T.l x5.rows) x3
    (fun y0 => cond (x2.int == 1)
    (cond ((decide (y0.int ≥ 0)) == false)
    (impl_isHeldKey m (T.l x1.rows) (T.l x4.rows)
    (fun y1 => cond (y1.bool == false)
    (impl_Meets m (T.l x0.rows) (T.l x4.rows)
    (fun y2 => cond (!y2.bool)
    (k0 (T.b false) (T.l x0.rows) (T.l x1.rows))
    (slices_Clone___impl_Op_impl_Op_ m (T.l x4.rows))))
    (k0 (T.b false) (T.l x0.rows) (T.l x1.rows))))
    (k0 (T.b false) (T.l x0.rows) (T.l x1.rows)))
    (impl_recAt m (T.l x1.rows) x3
    (fun y4 => cond (decide (y4.int < 0))
    (cond ((x2.int == 3) == true)
    (k0 (T.b (!(decide (y0.int ≥ 0)))) (T.l x0.rows) (T.l x1.rows))
    (k0 (T.b false) (T.l x0.rows) (T.l x1.rows)))
    (cond (x2.int == 2)
    (cond (decide ((0 : Int) ≤ y4.int ∧ y4.int < (x1.rows.length : Int)))
    (cond (decide ((Int.toNat y4.int) < x1.rows.length))
    (impl_Apply m (T.l x0.rows) (T.l ((x1.rows.getD (Int.toNat y4.int) []).getD 2 dflt).rows)
    (fun y6 => slices_Delete___impl_Rec_impl_Rec_ m (T.l x1.rows) y4 (T.i (IntKind.i64.wrap (y4.int + 1)))))
    (.bad))
    (.bad))
    (slices_Delete___impl_Rec_impl_Rec_ m (T.l x1.rows) y4 (T.i (IntKind.i64.wrap (y4.int + 1))))))))
noncomputable def impl_replay_add_f : Fs := ⟨108, [.bx [.own [.sc (.str), .sc (.str)] [.F, .F] [], .own [.sc (.int .i64), .sc (.int .i64), .sl [.sc (.int .i64), .sc (.str), .sc (.str)]] [.F, .F, .F] []], .agg [AI, AI, .dz [.sc (.int .i64), .sc (.str), .sc (.str)] []], .one (.dz [.sc (.int .i64), .sc (.int .i64), .sl [.sc (.int .i64), .sc (.str), .sc (.str)]] [])], fun m vs k => ap 6 (impl_replay_add m) vs (lm 3 fun z => k (fRet ⟨[.one (RB)], [[none, none], [none, none, none], [none]], [some [.own (KR 1000 0) [.sc (.str), .sc (.str)] [.F, .F] [], .own (KR 1000 1) [.sc (.int .i64), .sc (.int .i64), .sl [.sc (.int .i64), .sc (.str), .sc (.str)]] [.F, .F, .F] []], none, none]⟩ z))⟩
noncomputable def impl_replay_add_t : List Fs := impl_replay_add_f :: impl_Apply_t
theorem impl_replay_add_g : FGood CX prims impl_replay_add_t ∧ FEqn CX prims impl_replay_add_f := fnG impl_Apply_g.1 impl_replay_add_f Tryz.f108 ⟨108, 3, 104, 65⟩ [] (fun _ _ => rfl) (fun _ _ _ => by kernel_rfl) trivial trivial (fun _ _ _ _ _ => by kernel_rfl)

/-! loop.example/g00244/impl.ReplayRecs -/
noncomputable def impl_ReplayRecs_L0_0 (m : Nat) : Nat → T → T → T → T → T → T → T → (T → T → T → An) → (T → T → T → An) → An
  | 0, _, _, _, _, _, _, _, _, _ => .bad
  | n + 1, x0, x1, x2, x3, x4, x5, x6, k0, k1 =>
    cond (decide (x4.int < x3.int))
    ((fun (j11 : T → T → An) =>
    cond (decide ((0 : Int) ≤ x4.int ∧ x4.int < (x2.rows.length : Int)))
    (impl_RecOk m ((x2.rows.getD (Int.toNat x4.int) []).getD 0 dflt) ((x2.rows.getD (Int.toNat x4.int) []).getD 1 dflt) (T.l ((x2.rows.getD (Int.toNat x4.int) []).getD 2 dflt).rows)
    (fun y0 => cond ((!y0.bool) == false)
    (cond (decide ((0 : Int) ≤ x4.int ∧ x4.int ≤ (x0.rows.length : Int)))
    (cond (decide ((0 : Int) ≤ 0 ∧ 0 ≤ x4.int))
    (impl_replay_add m (T.l x5.rows) (T.l x6.rows) ((x2.rows.getD (Int.toNat x4.int) []).getD 0 dflt) ((x2.rows.getD (Int.toNat x4.int) []).getD 1 dflt) (T.l ((x2.rows.getD (Int.toNat x4.int) []).getD 2 dflt).rows) (T.l (x0.rows.take (Int.toNat x4.int)))
    (fun y1 y2 y3 => cond (!y1.bool)
    (k0 (T.b false) (T.l []) (T.l []))
    (j11 (T.l y2.rows) (T.l y3.rows))))
    (.bad))
    (.bad))
    (k0 (T.b false) (T.l []) (T.l []))))
    (.bad))
    (fun y9 y10 => impl_ReplayRecs_L0_0 m n x0 (T.i (x1.int.toNat : Int)) x2 x3 (T.i (IntKind.i64.wrap (x4.int + 1))) (T.l y9.rows) (T.l y10.rows) k0 k1))
    (k1 (T.i (x1.int.toNat : Int)) (T.l x5.rows) (T.l x6.rows))
noncomputable def impl_ReplayRecs : Nat → T → (T → T → T → An) → An
  | 0, _, _ => .bad
  | m + 1, x0, k0 =>
    impl_ReplayRecs_L0_0 m m (T.l x0.rows) (T.i 0) (T.l x0.rows) (T.i (x0.rows.length : Int)) (T.i 0) (T.l []) (T.l [])
    (fun y12 y13 y14 => k0 (T.l y13.rows) (T.l y14.rows) y12)
    (fun y15 y16 y17 => k0 (T.l y16.rows) (T.l y17.rows) (T.b true))
noncomputable def impl_ReplayRecs_f : Fs := ⟨74, [.one (.dz [.sc (.int .i64), .sc (.int .i64), .sl [.sc (.int .i64), .sc (.str), .sc (.str)]] [])], fun m vs k => ap 1 (impl_ReplayRecs m) vs (lm 3 fun z => k (fRet ⟨[.one (.own (KR 0 0) [.sc (.str), .sc (.str)] [.F, .F] []), .one (.own (KR 1 0) [.sc (.int .i64), .sc (.int .i64), .sl [.sc (.int .i64), .sc (.str), .sc (.str)]] [.F, .F, .F] []), .one (RB)], [[none]], [none]⟩ z))⟩
noncomputable def impl_ReplayRecs_l : List Ls := [⟨[0, 1, 0, 1, 1], ⟨[(0, .one (LD [.sc (.int .i64), .sc (.int .i64), .sl [.sc (.int .i64), .sc (.str), .sc (.str)]])), (5, EP 1), (8, .one (LD [.sc (.int .i64), .sc (.int .i64), .sl [.sc (.int .i64), .sc (.str), .sc (.str)]])), (9, .one (LI)), (10, .one (LI))], [([4000000], .gone), ((KI 1), .box [LA (KI 2) [.sc (.str), .sc (.str)], LA (KI 3) [.sc (.int .i64), .sc (.int .i64), .sl [.sc (.int .i64), .sc (.str), .sc (.str)]]]), ((KI 2), .row [.sc (.str), .sc (.str)] [.F, .F] []), ((KI 3), .row [.sc (.int .i64), .sc (.int .i64), .sl [.sc (.int .i64), .sc (.str), .sc (.str)]] [.F, .F, .F] [])]⟩, fun m n vs k => ap 7 (impl_ReplayRecs_L0_0 m n) vs (lm 3 fun z => k .ret (fPack ⟨[(2, .one (LA (KI 0) [.sc (.str), .sc (.str)])), (3, .one (LA (KI 1) [.sc (.int .i64), .sc (.int .i64), .sl [.sc (.int .i64), .sc (.str), .sc (.str)]])), (4, .one (LB))], [((KI 0), .row [.sc (.str), .sc (.str)] [.F, .F] []), ((KI 1), .row [.sc (.int .i64), .sc (.int .i64), .sl [.sc (.int .i64), .sc (.str), .sc (.str)]] [.F, .F, .F] [])]⟩ z)) (lm 3 fun z => k (.exit 0) (fPack ⟨[(5, EP 0)], [((KI 0), .box [LA (KI 1) [.sc (.str), .sc (.str)], LA (KI 2) [.sc (.int .i64), .sc (.int .i64), .sl [.sc (.int .i64), .sc (.str), .sc (.str)]]]), ((KI 1), .row [.sc (.str), .sc (.str)] [.F, .F] []), ((KI 2), .row [.sc (.int .i64), .sc (.int .i64), .sl [.sc (.int .i64), .sc (.str), .sc (.str)]] [.F, .F, .F] [])]⟩ z))⟩]
noncomputable def impl_ReplayRecs_t : List Fs := impl_ReplayRecs_f :: impl_replay_add_t
theorem impl_ReplayRecs_g : FGood CX prims impl_ReplayRecs_t ∧ FEqn CX prims impl_ReplayRecs_f := fnG impl_replay_add_g.1 impl_ReplayRecs_f Tryz.f74 ⟨74, 1, 31, 28⟩ impl_ReplayRecs_l (fun _ _ => rfl) (fun _ _ _ => by kernel_rfl) ⟨fun _ _ _ => rfl, trivial⟩ ⟨fun _ _ _ _ _ _ => by kernel_rfl, trivial⟩ (fun _ _ _ _ _ => by kernel_rfl)

/-! slices.Equal[[]loop.example/g00244/impl.Pair,loop.example/g00244/impl.Pair] -/
noncomputable def slices_Equal___impl_Pair_impl_Pair__L0_0 (m : Nat) : Nat → T → T → T → T → (T → An) → An → An
  | 0, _, _, _, _, _, _ => .bad
  | n + 1, x0, x1, x2, x3, k0, k1 =>
    cond (decide (x3.int < x2.int))
    (cond (decide ((0 : Int) ≤ x3.int ∧ x3.int < (x0.rows.length : Int)))
    (cond (decide ((0 : Int) ≤ x3.int ∧ x3.int < (x1.rows.length : Int)))
    (cond (!((((x0.rows.getD (Int.toNat x3.int) []).getD 0 dflt).str.toList == ((x1.rows.getD (Int.toNat x3.int) []).getD 0 dflt).str.toList) && ((((x0.rows.getD (Int.toNat x3.int) []).getD 1 dflt).str.toList == ((x1.rows.getD (Int.toNat x3.int) []).getD 1 dflt).str.toList) && true)))
    (k0 (T.b false))
    (slices_Equal___impl_Pair_impl_Pair__L0_0 m n x0 x1 x2 (T.i (IntKind.i64.wrap (x3.int + 1))) k0 k1))
    (.bad))
    (.bad))
    (k1 )
noncomputable def slices_Equal___impl_Pair_impl_Pair_ : Nat → T → T → (T → An) → An
  | 0, _, _, _ => .bad
  | m + 1, x0, x1, k0 =>
    cond ((x0.rows.length : Int) != (x1.rows.length : Int))
    (k0 (T.b false))
    (slices_Equal___impl_Pair_impl_Pair__L0_0 m m (T.l x0.rows) (T.l x1.rows) (T.i (x0.rows.length : Int)) (T.i 0)
    (fun y0 => k0 y0)
    (k0 (T.b true)))
noncomputable def slices_Equal___impl_Pair_impl_Pair__f : Fs := ⟨75, [.one (.dz [.sc (.str), .sc (.str)] []), .one (.dz [.sc (.str), .sc (.str)] [])], fun m vs k => ap 2 (slices_Equal___impl_Pair_impl_Pair_ m) vs (lm 1 fun z => k (fRet ⟨[.one (RB)], [[none], [none]], [none, none]⟩ z))⟩
noncomputable def slices_Equal___impl_Pair_impl_Pair__l : List Ls := [⟨[0, 1, 0, 1, 1], ⟨[(0, .one (LD [.sc (.str), .sc (.str)])), (1, .one (LD [.sc (.str), .sc (.str)])), (12, .one (LI)), (13, .one (LI))], [([4000000], .gone)]⟩, fun m n vs k => ap 4 (slices_Equal___impl_Pair_impl_Pair__L0_0 m n) vs (lm 1 fun z => k .ret (fPack ⟨[(4, .one (LB))], []⟩ z)) (lm 0 fun z => k (.exit 0) (fPack ⟨[], []⟩ z))⟩]
noncomputable def slices_Equal___impl_Pair_impl_Pair__t : List Fs := slices_Equal___impl_Pair_impl_Pair__f :: impl_ReplayRecs_t
theorem slices_Equal___impl_Pair_impl_Pair__g : FGood CX prims slices_Equal___impl_Pair_impl_Pair__t ∧ FEqn CX prims slices_Equal___impl_Pair_impl_Pair__f := fnG impl_ReplayRecs_g.1 slices_Equal___impl_Pair_impl_Pair__f Tryz.f75 ⟨75, 2, 26, 16⟩ slices_Equal___impl_Pair_impl_Pair__l (fun _ _ => rfl) (fun _ _ _ => by kernel_rfl) ⟨fun _ _ _ => rfl, trivial⟩ ⟨fun _ _ _ _ _ _ => by kernel_rfl, trivial⟩ (fun _ _ _ _ _ => by kernel_rfl)

/-! slices.Equal[[]loop.example/g00244/impl.Op,loop.example/g00244/impl.Op] -/
noncomputable def slices_Equal___impl_Op_impl_Op__L0_0 (m : Nat) : Nat → T → T → T → T → (T → An) → An → An
  | 0, _, _, _, _, _, _ => .bad
  | n + 1, x0, x1, x2, x3, k0, k1 =>
    cond (decide (x3.int < x2.int))
    (cond (decide ((0 : Int) ≤ x3.int ∧ x3.int < (x0.rows.length : Int)))
    (cond (decide ((0 : Int) ≤ x3.int ∧ x3.int < (x1.rows.length : Int)))
    (cond (!((((x0.rows.getD (Int.toNat x3.int) []).getD 0 dflt).int == ((x1.rows.getD (Int.toNat x3.int) []).getD 0 dflt).int) && ((((x0.rows.getD (Int.toNat x3.int) []).getD 1 dflt).str.toList == ((x1.rows.getD (Int.toNat x3.int) []).getD 1 dflt).str.toList) && ((((x0.rows.getD (Int.toNat x3.int) []).getD 2 dflt).str.toList == ((x1.rows.getD (Int.toNat x3.int) []).getD 2 dflt).str.toList) && true))))
    (k0 (T.b false))
    (slices_Equal___impl_Op_impl_Op__L0_0 m n x0 x1 x2 (T.i (IntKind.i64.wrap (x3.int + 1))) k0 k1))
    (.bad))
    (.bad))
    (k1 )
noncomputable def slices_Equal___impl_Op_impl_Op_ : Nat → T → T → (T → An) → An
  | 0, _, _, _ => .bad
  | m + 1, x0, x1, k0 =>
    cond ((x0.rows.length : Int) != (x1.rows.length : Int))
    (k0 (T.b false))
    (slices_Equal___impl_Op_impl_Op__L0_0 m m (T.l x0.rows) (T.l x1.rows) (T.i (x0.rows.length : Int)) (T.i 0)
    (fun y0 => k0 y0)
    (k0 (T.b true)))
noncomputable def slices_Equal___impl_Op_impl_Op__f : Fs := ⟨34, [.one (.dz [.sc (.int .i64), .sc (.str), .sc (.str)] []), .one (.dz [.sc (.int .i64), .sc (.str), .sc (.str)] [])], fun m vs k => ap 2 (slices_Equal___impl_Op_impl_Op_ m) vs (lm 1 fun z => k (fRet ⟨[.one (RB)], [[none], [none]], [none, none]⟩ z))⟩
noncomputable def slices_Equal___impl_Op_impl_Op__l : List Ls := [⟨[0, 1, 0, 1, 1], ⟨[(0, .one (LD [.sc (.int .i64), .sc (.str), .sc (.str)])), (1, .one (LD [.sc (.int .i64), .sc (.str), .sc (.str)])), (12, .one (LI)), (13, .one (LI))], [([4000000], .gone)]⟩, fun m n vs k => ap 4 (slices_Equal___impl_Op_impl_Op__L0_0 m n) vs (lm 1 fun z => k .ret (fPack ⟨[(4, .one (LB))], []⟩ z)) (lm 0 fun z => k (.exit 0) (fPack ⟨[], []⟩ z))⟩]
noncomputable def slices_Equal___impl_Op_impl_Op__t : List Fs := slices_Equal___impl_Op_impl_Op__f :: slices_Equal___impl_Pair_impl_Pair__t
theorem slices_Equal___impl_Op_impl_Op__g : FGood CX prims slices_Equal___impl_Op_impl_Op__t ∧ FEqn CX prims slices_Equal___impl_Op_impl_Op__f := fnG slices_Equal___impl_Pair_impl_Pair__g.1 slices_Equal___impl_Op_impl_Op__f Tryz.f34 ⟨34, 2, 26, 16⟩ slices_Equal___impl_Op_impl_Op__l (fun _ _ => rfl) (fun _ _ _ => by kernel_rfl) ⟨fun _ _ _ => rfl, trivial⟩ ⟨fun _ _ _ _ _ _ => by kernel_rfl, trivial⟩ (fun _ _ _ _ _ => by kernel_rfl)

/-! loop.example/g00244/impl.sameRec -/
noncomputable def impl_sameRec : Nat → T → T → T → T → T → T → (T → An) → An
  | 0, _, _, _, _, _, _, _ => .bad
  | m + 1, x0, x1, x2, x3, x4, x5, k0 =>
    cond ((x0.int == x3.int) == true)
    (cond ((x1.int == x4.int) == true)
    (slices_Equal___impl_Op_impl_Op_ m (T.l x2.rows) (T.l x5.rows)
    (fun y0 => k0 (T.b y0.bool)))
    (k0 (T.b false)))
    (k0 (T.b false))
noncomputable def impl_sameRec_f : Fs := ⟨77, [.agg [AI, AI, .dz [.sc (.int .i64), .sc (.str), .sc (.str)] []], .agg [AI, AI, .dz [.sc (.int .i64), .sc (.str), .sc (.str)] []]], fun m vs k => ap 6 (impl_sameRec m) vs (lm 1 fun z => k (fRet ⟨[.one (RB)], [[none, none, none], [none, none, none]], [none, none]⟩ z))⟩
noncomputable def impl_sameRec_t : List Fs := impl_sameRec_f :: slices_Equal___impl_Op_impl_Op__t
theorem impl_sameRec_g : FGood CX prims impl_sameRec_t ∧ FEqn CX prims impl_sameRec_f := fnG slices_Equal___impl_Op_impl_Op__g.1 impl_sameRec_f Tryz.f77 ⟨77, 2, 24, 16⟩ [] (fun _ _ => rfl) (fun _ _ _ => by kernel_rfl) trivial trivial (fun _ _ _ _ _ => by kernel_rfl)

/-! slices.EqualFunc[[]loop.example/g00244/impl.Rec,[]loop.example/g00244/impl.Rec,loop.example/g00244/impl.Rec,loop.example/g00244/impl.Rec] -/
noncomputable def slices_EqualFunc___impl_Rec___impl_Rec_impl_Rec_impl_Rec__L0_0 (m : Nat) : Nat → T → T → T → T → (T → An) → An → An
  | 0, _, _, _, _, _, _ => .bad
  | n + 1, x0, x1, x2, x3, k0, k1 =>
    cond (decide (x3.int < x2.int))
    (cond (decide ((0 : Int) ≤ x3.int ∧ x3.int < (x1.rows.length : Int)))
    (cond (decide ((0 : Int) ≤ x3.int ∧ x3.int < (x0.rows.length : Int)))
    (impl_sameRec m ((x1.rows.getD (Int.toNat x3.int) []).getD 0 dflt) ((x1.rows.getD (Int.toNat x3.int) []).getD 1 dflt) (T.l ((x1.rows.getD (Int.toNat x3.int) []).getD 2 dflt).rows) ((x0.rows.getD (Int.toNat x3.int) []).getD 0 dflt) ((x0.rows.getD (Int.toNat x3.int) []).getD 1 dflt) (T.l ((x0.rows.getD (Int.toNat x3.int) []).getD 2 dflt).rows)
    (fun y0 => cond (!y0.bool)
    (k0 (T.b false))
    (slices_EqualFunc___impl_Rec___impl_Rec_impl_Rec_impl_Rec__L0_0 m n x0 x1 x2 (T.i (IntKind.i64.wrap (x3.int + 1))) k0 k1)))
    (.bad))
    (.bad))
    (k1 )
noncomputable def slices_EqualFunc___impl_Rec___impl_Rec_impl_Rec_impl_Rec_ : Nat → T → T → (T → An) → An
  | 0, _, _, _ => .bad
  | m + 1, x0, x1, k0 =>
    cond ((x0.rows.length : Int) != (x1.rows.length : Int))
    (k0 (T.b false))
    (slices_EqualFunc___impl_Rec___impl_Rec_impl_Rec_impl_Rec__L0_0 m m (T.l x1.rows) (T.l x0.rows) (T.i (x0.rows.length : Int)) (T.i 0)
    (fun y1 => k0 y1)
    (k0 (T.b true)))
noncomputable def slices_EqualFunc___impl_Rec___impl_Rec_impl_Rec_impl_Rec__f : Fs := ⟨76, [.one (.dz [.sc (.int .i64), .sc (.int .i64), .sl [.sc (.int .i64), .sc (.str), .sc (.str)]] []), .one (.dz [.sc (.int .i64), .sc (.int .i64), .sl [.sc (.int .i64), .sc (.str), .sc (.str)]] []), .fn 77 []], fun m vs k => ap 2 (slices_EqualFunc___impl_Rec___impl_Rec_impl_Rec_impl_Rec_ m) vs (lm 1 fun z => k (fRet ⟨[.one (RB)], [[none], [none], []], [none, none, none]⟩ z))⟩
noncomputable def slices_EqualFunc___impl_Rec___impl_Rec_impl_Rec_impl_Rec__l : List Ls := [⟨[0, 1, 0, 1, 1], ⟨[(1, .one (LD [.sc (.int .i64), .sc (.int .i64), .sl [.sc (.int .i64), .sc (.str), .sc (.str)]])), (2, .fn 77 []), (15, .one (LD [.sc (.int .i64), .sc (.int .i64), .sl [.sc (.int .i64), .sc (.str), .sc (.str)]])), (16, .one (LI)), (17, .one (LI))], [([4000000], .gone)]⟩, fun m n vs k => ap 4 (slices_EqualFunc___impl_Rec___impl_Rec_impl_Rec_impl_Rec__L0_0 m n) vs (lm 1 fun z => k .ret (fPack ⟨[(6, .one (LB))], []⟩ z)) (lm 0 fun z => k (.exit 0) (fPack ⟨[], []⟩ z))⟩]
noncomputable def slices_EqualFunc___impl_Rec___impl_Rec_impl_Rec_impl_Rec__t : List Fs := slices_EqualFunc___impl_Rec___impl_Rec_impl_Rec_impl_Rec__f :: impl_sameRec_t
theorem slices_EqualFunc___impl_Rec___impl_Rec_impl_Rec_impl_Rec__g : FGood CX prims slices_EqualFunc___impl_Rec___impl_Rec_impl_Rec_impl_Rec__t ∧ FEqn CX prims slices_EqualFunc___impl_Rec___impl_Rec_impl_Rec_impl_Rec__f := fnG impl_sameRec_g.1 slices_EqualFunc___impl_Rec___impl_Rec_impl_Rec_impl_Rec__f Tryz.f76 ⟨76, 3, 32, 64⟩ slices_EqualFunc___impl_Rec___impl_Rec_impl_Rec_impl_Rec__l (fun _ _ => rfl) (fun _ _ _ => by kernel_rfl) ⟨fun _ _ _ => rfl, trivial⟩ ⟨fun _ _ _ _ _ _ => by kernel_rfl, trivial⟩ (fun _ _ _ _ _ => by kernel_rfl)

/-! loop.example/g00244/impl.ShardOk -/
noncomputable def impl_ShardOk : Nat → T → T → T → T → T → (T → An) → An
  | 0, _, _, _, _, _, _ => .bad
  | m + 1, x0, x1, x2, x3, x4, k0 =>
    jn (fun (j9 : An) =>
    impl_isId m x0
    (fun y0 => cond ((!y0.bool) == false)
    (impl_inRange m x2 (T.i 0) (T.i (x1.rows.length : Int))
    (fun y1 => cond ((!y1.bool) == false)
    (cond (decide ((IntKind.i64.wrap ((x1.rows.length : Int) + (x4.rows.length : Int))) > 300))
    (k0 (T.b false))
    (j9))
    (k0 (T.b false))))
    (k0 (T.b false))))
    (impl_ReplayRecs m (T.l x1.rows)
    (fun y3 y4 y5 => cond (y5.bool == true)
    (slices_Equal___impl_Pair_impl_Pair_ m (T.l y3.rows) (T.l x3.rows)
    (fun y6 => cond (y6.bool == true)
    (slices_EqualFunc___impl_Rec___impl_Rec_impl_Rec_impl_Rec_ m (T.l y4.rows) (T.l x4.rows)
    (fun y7 => k0 (T.b y7.bool)))
    (k0 (T.b false))))
    (k0 (T.b false))))
noncomputable def impl_ShardOk_f : Fs := ⟨38, [.agg [AI, .dz [.sc (.int .i64), .sc (.int .i64), .sl [.sc (.int .i64), .sc (.str), .sc (.str)]] [], AI, .dz [.sc (.str), .sc (.str)] [], .dz [.sc (.int .i64), .sc (.int .i64), .sl [.sc (.int .i64), .sc (.str), .sc (.str)]] []]], fun m vs k => ap 5 (impl_ShardOk m) vs (lm 1 fun z => k (fRet ⟨[.one (RB)], [[none, none, none, none, none]], [none]⟩ z))⟩
noncomputable def impl_ShardOk_t : List Fs := impl_ShardOk_f :: slices_EqualFunc___impl_Rec___impl_Rec_impl_Rec_impl_Rec__t
theorem impl_ShardOk_g : FGood CX prims impl_ShardOk_t ∧ FEqn CX prims impl_ShardOk_f := fnG slices_EqualFunc___impl_Rec___impl_Rec_impl_Rec_impl_Rec__g.1 impl_ShardOk_f Tryz.f38 ⟨38, 1, 49, 4⟩ [] (fun _ _ => rfl) (fun _ _ _ => by kernel_rfl) trivial trivial (fun _ _ _ _ _ => by kernel_rfl)

/-! loop.example/g00244/impl.WordOk -/
noncomputable def impl_WordOk : Nat → T → T → T → T → T → (T → An) → An
  | 0, _, _, _, _, _, _ => .bad
  | m + 1, x0, x1, x2, x3, x4, k0 =>
    jn (fun (j8 : An) =>
    impl_isId m x1
    (fun y0 => cond ((!y0.bool) == false)
    (impl_isTx m x2
    (fun y1 => cond (!y1.bool)
    (k0 (T.b false))
    (j8)))
    (k0 (T.b false))))
    (cond (x0.int == 1)
    (impl_OpsOk m (T.l x3.rows)
    (fun y3 => cond (y3.bool == true)
    (k0 (T.b (!x4.bool)))
    (k0 (T.b false))))
    ((fun (j7 : T → An) =>
    cond (x0.int == 2)
    (j7 (T.b true))
    (j7 (T.b (x0.int == 3))))
    (fun y5 => cond y5.bool
    (k0 (T.b ((x3.rows.length : Int) == 0)))
    (cond (x0.int == 4)
    (cond (((x3.rows.length : Int) == 0) == true)
    (k0 (T.b (!x4.bool)))
    (k0 (T.b false)))
    (k0 (T.b false))))))
noncomputable def impl_WordOk_f : Fs := ⟨78, [.agg [AI, AI, AI, .dz [.sc (.int .i64), .sc (.str), .sc (.str)] [], AB]], fun m vs k => ap 5 (impl_WordOk m) vs (lm 1 fun z => k (fRet ⟨[.one (RB)], [[none, none, none, none, none]], [none]⟩ z))⟩
noncomputable def impl_WordOk_t : List Fs := impl_WordOk_f :: impl_ShardOk_t
theorem impl_WordOk_g : FGood CX prims impl_WordOk_t ∧ FEqn CX prims impl_WordOk_f := fnG impl_ShardOk_g.1 impl_WordOk_f Tryz.f78 ⟨78, 1, 43, 4⟩ [] (fun _ _ => rfl) (fun _ _ _ => by kernel_rfl) trivial trivial (fun _ _ _ _ _ => by kernel_rfl)

/-! (*loop.example/g00244/impl.World).wordsOk -/
noncomputable def impl_World_wordsOk_L0_0 (m : Nat) : Nat → T → T → T → T → T → (T → An) → (T → An) → An
  | 0, _, _, _, _, _, _, _ => .bad
  | n + 1, x0, x1, x2, x3, x4, k0, k1 =>
    cond (decide (x4.int < x3.int))
    (cond (decide ((0 : Int) ≤ x4.int ∧ x4.int < (x2.rows.length : Int)))
    (impl_WordOk m ((x2.rows.getD (Int.toNat x4.int) []).getD 0 dflt) ((x2.rows.getD (Int.toNat x4.int) []).getD 1 dflt) ((x2.rows.getD (Int.toNat x4.int) []).getD 2 dflt) (T.l ((x2.rows.getD (Int.toNat x4.int) []).getD 3 dflt).rows) ((x2.rows.getD (Int.toNat x4.int) []).getD 4 dflt)
    (fun y0 => cond ((!y0.bool) == false)
    (cond (decide (((x2.rows.getD (Int.toNat x4.int) []).getD 1 dflt).int ≥ ((((row1 x0).drop 6).getD 0 dflt).rows.length : Int)))
    (k0 (T.b false))
    (impl_World_wordsOk_L0_0 m n (T.l [(row1 x0)]) x1 x2 x3 (T.i (IntKind.i64.wrap (x4.int + 1))) k0 k1))
    (k0 (T.b false))))
    (.bad))
    (k1 x1)
noncomputable def impl_World_wordsOk : Nat → T → T → (T → An) → An
  | 0, _, _, _ => .bad
  | m + 1, x0, x1, k0 =>
    impl_World_wordsOk_L0_0 m m (T.l [(row1 x0)]) (T.l x1.rows) (T.l x1.rows) (T.i (x1.rows.length : Int)) (T.i 0)
    (fun y4 => k0 y4)
    (fun y5 => k0 (T.b (decide ((y5.rows.length : Int) ≤ 400))))
noncomputable def impl_World_wordsOk_f : Fs := ⟨39, [.rpt [.sc (.int .i64), .sc (.int .i64), .sc (.int .i64), .sl [.sc (.int .i64), .sl [.sc (.int .i64), .sc (.str), .sc (.str)], .sc (.int .i64), .sl [.sc (.int .i64)]], .sl [.sc (.int .i64), .sc (.bool)], .sc (.int .i64), .sl [.sc (.int .i64), .sl [.sc (.int .i64), .sc (.int .i64), .sl [.sc (.int .i64), .sc (.str), .sc (.str)]], .sc (.int .i64), .sl [.sc (.str), .sc (.str)], .sl [.sc (.int .i64), .sc (.int .i64), .sl [.sc (.int .i64), .sc (.str), .sc (.str)]]], .sl [.sc (.int .i64), .sc (.int .i64), .sc (.int .i64), .sl [.sc (.int .i64), .sc (.str), .sc (.str)], .sc (.bool)], .sl [.sc (.int .i64), .sc (.int .i64), .sc (.int .i64), .sl [.sc (.int .i64), .sc (.str), .sc (.str)], .sc (.bool)], .sl [.sc (.int .i64), .sl [.sc (.int .i64), .sc (.str), .sc (.str)]]] [], .one (.dz [.sc (.int .i64), .sc (.int .i64), .sc (.int .i64), .sl [.sc (.int .i64), .sc (.str), .sc (.str)], .sc (.bool)] [])], fun m vs k => ap 2 (impl_World_wordsOk m) vs (lm 1 fun z => k (fRet ⟨[.one (RB)], [[], [none]], [none, none]⟩ z))⟩
noncomputable def impl_World_wordsOk_l : List Ls := [⟨[0, 1, 0, 1], ⟨[(0, .rp [([4000000], 0)] [.sc (.int .i64), .sc (.int .i64), .sc (.int .i64), .sl [.sc (.int .i64), .sl [.sc (.int .i64), .sc (.str), .sc (.str)], .sc (.int .i64), .sl [.sc (.int .i64)]], .sl [.sc (.int .i64), .sc (.bool)], .sc (.int .i64), .sl [.sc (.int .i64), .sl [.sc (.int .i64), .sc (.int .i64), .sl [.sc (.int .i64), .sc (.str), .sc (.str)]], .sc (.int .i64), .sl [.sc (.str), .sc (.str)], .sl [.sc (.int .i64), .sc (.int .i64), .sl [.sc (.int .i64), .sc (.str), .sc (.str)]]], .sl [.sc (.int .i64), .sc (.int .i64), .sc (.int .i64), .sl [.sc (.int .i64), .sc (.str), .sc (.str)], .sc (.bool)], .sl [.sc (.int .i64), .sc (.int .i64), .sc (.int .i64), .sl [.sc (.int .i64), .sc (.str), .sc (.str)], .sc (.bool)], .sl [.sc (.int .i64), .sl [.sc (.int .i64), .sc (.str), .sc (.str)]]] []), (1, .one (LD [.sc (.int .i64), .sc (.int .i64), .sc (.int .i64), .sl [.sc (.int .i64), .sc (.str), .sc (.str)], .sc (.bool)])), (7, .one (LD [.sc (.int .i64), .sc (.int .i64), .sc (.int .i64), .sl [.sc (.int .i64), .sc (.str), .sc (.str)], .sc (.bool)])), (8, .one (LI)), (9, .one (LI))], [([4000000], .gone)]⟩, fun m n vs k => ap 5 (impl_World_wordsOk_L0_0 m n) vs (lm 1 fun z => k .ret (fPack ⟨[(4, .one (LB))], []⟩ z)) (lm 1 fun z => k (.exit 0) (fPack ⟨[(1, .one (LD [.sc (.int .i64), .sc (.int .i64), .sc (.int .i64), .sl [.sc (.int .i64), .sc (.str), .sc (.str)], .sc (.bool)]))], [([4000000], .gone)]⟩ z))⟩]
noncomputable def impl_World_wordsOk_t : List Fs := impl_World_wordsOk_f :: impl_WordOk_t
theorem impl_World_wordsOk_g : FGood CX prims impl_World_wordsOk_t ∧ FEqn CX prims impl_World_wordsOk_f := fnG impl_WordOk_g.1 impl_World_wordsOk_f Tryz.f39 ⟨39, 2, 30, 16⟩ impl_World_wordsOk_l (fun _ _ => rfl) (fun _ _ _ => by kernel_rfl) ⟨fun _ _ _ => rfl, trivial⟩ ⟨fun _ _ _ _ _ _ => by kernel_rfl, trivial⟩ (fun _ _ _ _ _ => by kernel_rfl)

/-! (*loop.example/g00244/impl.World).orderAt$1 -/
noncomputable def impl_World_orderAt_1 : Nat → T → T → T → (T → An) → An
  | 0, _, _, _, _ => .bad
  | m + 1, x0, x1, x2, k0 =>
    k0 (T.b (x0.int == ((row1 x2).getD 0 dflt).int))
noncomputable def impl_World_orderAt_1_f : Fs := ⟨68, [.agg [AI, .dz [.sc (.int .i64), .sc (.str), .sc (.str)] []], .rpt [.sc (.int .i64)] []], fun m vs k => ap 3 (impl_World_orderAt_1 m) vs (lm 1 fun z => k (fRet ⟨[.one (RB)], [[none, none], []], [none, none]⟩ z))⟩
noncomputable def impl_World_orderAt_1_t : List Fs := impl_World_orderAt_1_f :: impl_World_wordsOk_t
theorem impl_World_orderAt_1_g : FGood CX prims impl_World_orderAt_1_t ∧ FEqn CX prims impl_World_orderAt_1_f := fnG impl_World_wordsOk_g.1 impl_World_orderAt_1_f Tryz.f68 ⟨68, 2, 8, 8⟩ [] (fun _ _ => rfl) (fun _ _ _ => by kernel_rfl) trivial trivial (fun _ _ _ _ _ => by kernel_rfl)

/-! slices.IndexFunc[[]loop.example/g00244/impl.Order,loop.example/g00244/impl.Order] -/
noncomputable def slices_IndexFunc___impl_Order_impl_Order__L0_0 (m : Nat) : Nat → T → T → T → T → (T → An) → An → An
  | 0, _, _, _, _, _, _ => .bad
  | n + 1, x0, x1, x2, x3, k0, k1 =>
    cond (decide (x3.int < x2.int))
    (cond (decide ((0 : Int) ≤ x3.int ∧ x3.int < (x0.rows.length : Int)))
    (impl_World_orderAt_1 m ((x0.rows.getD (Int.toNat x3.int) []).getD 0 dflt) (T.l ((x0.rows.getD (Int.toNat x3.int) []).getD 1 dflt).rows) (T.l [(row1 x1)])
    (fun y0 => cond y0.bool
    (k0 x3)
    (slices_IndexFunc___impl_Order_impl_Order__L0_0 m n x0 (T.l [(row1 x1)]) x2 (T.i (IntKind.i64.wrap (x3.int + 1))) k0 k1)))
    (.bad))
    (k1 )
noncomputable def slices_IndexFunc___impl_Order_impl_Order_ : Nat → T → T → (T → An) → An
  | 0, _, _, _ => .bad
  | m + 1, x0, x1, k0 =>
    slices_IndexFunc___impl_Order_impl_Order__L0_0 m m (T.l x0.rows) (T.l [(row1 x1)]) (T.i (x0.rows.length : Int)) (T.i 0)
    (fun y1 => k0 y1)
    (k0 (T.i (-1)))
noncomputable def slices_IndexFunc___impl_Order_impl_Order__f : Fs := ⟨67, [.one (.dz [.sc (.int .i64), .sl [.sc (.int .i64), .sc (.str), .sc (.str)]] []), .fn 68 [.rpt [.sc (.int .i64)] []]], fun m vs k => ap 2 (slices_IndexFunc___impl_Order_impl_Order_ m) vs (lm 1 fun z => k (fRet ⟨[.one (RI)], [[none], []], [none, none]⟩ z))⟩
noncomputable def slices_IndexFunc___impl_Order_impl_Order__l : List Ls := [⟨[0, 1, 0, 1], ⟨[(0, .one (LD [.sc (.int .i64), .sl [.sc (.int .i64), .sc (.str), .sc (.str)]])), (1, .fn 68 [.rp [([4000000], 0)] [.sc (.int .i64)] []]), (7, .one (LI)), (8, .one (LI))], [([4000000], .gone)]⟩, fun m n vs k => ap 4 (slices_IndexFunc___impl_Order_impl_Order__L0_0 m n) vs (lm 1 fun z => k .ret (fPack ⟨[(4, .one (LI))], []⟩ z)) (lm 0 fun z => k (.exit 0) (fPack ⟨[], []⟩ z))⟩]
noncomputable def slices_IndexFunc___impl_Order_impl_Order__t : List Fs := slices_IndexFunc___impl_Order_impl_Order__f :: impl_World_orderAt_1_t
theorem slices_IndexFunc___impl_Order_impl_Order__g : FGood CX prims slices_IndexFunc___impl_Order_impl_Order__t ∧ FEqn CX prims slices_IndexFunc___impl_Order_impl_Order__f := fnG impl_World_orderAt_1_g.1 slices_IndexFunc___impl_Order_impl_Order__f Tryz.f67 ⟨67, 2, 19, 16⟩ slices_IndexFunc___impl_Order_impl_Order__l (fun _ _ => rfl) (fun _ _ _ => by kernel_rfl) ⟨fun _ _ _ => rfl, trivial⟩ ⟨fun _ _ _ _ _ _ => by kernel_rfl, trivial⟩ (fun _ _ _ _ _ => by kernel_rfl)

/-! (*loop.example/g00244/impl.World).orderAt -/
noncomputable def impl_World_orderAt : Nat → T → T → (T → An) → An
  | 0, _, _, _ => .bad
  | m + 1, x0, x1, k0 =>
    slices_IndexFunc___impl_Order_impl_Order_ m (T.l (((row1 x0).drop 9).getD 0 dflt).rows) (T.l [[x1]])
    (fun y0 => k0 y0)
noncomputable def impl_World_orderAt_f : Fs := ⟨33, [.rpt [.sc (.int .i64), .sc (.int .i64), .sc (.int .i64), .sl [.sc (.int .i64), .sl [.sc (.int .i64), .sc (.str), .sc (.str)], .sc (.int .i64), .sl [.sc (.int .i64)]], .sl [.sc (.int .i64), .sc (.bool)], .sc (.int .i64), .sl [.sc (.int .i64), .sl [.sc (.int .i64), .sc (.int .i64), .sl [.sc (.int .i64), .sc (.str), .sc (.str)]], .sc (.int .i64), .sl [.sc (.str), .sc (.str)], .sl [.sc (.int .i64), .sc (.int .i64), .sl [.sc (.int .i64), .sc (.str), .sc (.str)]]], .sl [.sc (.int .i64), .sc (.int .i64), .sc (.int .i64), .sl [.sc (.int .i64), .sc (.str), .sc (.str)], .sc (.bool)], .sl [.sc (.int .i64), .sc (.int .i64), .sc (.int .i64), .sl [.sc (.int .i64), .sc (.str), .sc (.str)], .sc (.bool)], .sl [.sc (.int .i64), .sl [.sc (.int .i64), .sc (.str), .sc (.str)]]] [], .one (AI)], fun m vs k => ap 2 (impl_World_orderAt m) vs (lm 1 fun z => k (fRet ⟨[.one (RI)], [[], [none]], [none, none]⟩ z))⟩
noncomputable def impl_World_orderAt_t : List Fs := impl_World_orderAt_f :: slices_IndexFunc___impl_Order_impl_Order__t
theorem impl_World_orderAt_g : FGood CX prims impl_World_orderAt_t ∧ FEqn CX prims impl_World_orderAt_f := fnG slices_IndexFunc___impl_Order_impl_Order__g.1 impl_World_orderAt_f Tryz.f33 ⟨33, 2, 11, 16⟩ [] (fun _ _ => rfl) (fun _ _ _ => by kernel_rfl) trivial trivial (fun _ _ _ _ _ => by kernel_rfl)

/-! (*loop.example/g00244/impl.World).begunOk -/
noncomputable def impl_World_begunOk_L2_0 (m : Nat) : Nat → T → T → T → T → (T → An) → (T → An) → An
  | 0, _, _, _, _, _, _ => .bad
  | n + 1, x0, x1, x2, x3, k0, k1 =>
    cond (decide (x3.int < x2.int))
    (cond (decide ((0 : Int) ≤ x3.int ∧ x3.int < (x1.rows.length : Int)))
    (impl_World_orderAt m (T.l [((row1 x0).take 10)]) ((x1.rows.getD (Int.toNat x3.int) []).getD 0 dflt)
    (fun y12 => cond ((decide (y12.int < 0)) == false)
    (cond (decide ((0 : Int) ≤ y12.int ∧ y12.int < ((((row1 x0).drop 9).getD 0 dflt).rows.length : Int)))
    (slices_Equal___impl_Op_impl_Op_ m (T.l ((((((row1 x0).drop 9).getD 0 dflt).rows.getD (Int.toNat y12.int) []).drop 1).getD 0 dflt).rows) (T.l ((x1.rows.getD (Int.toNat x3.int) []).getD 1 dflt).rows)
    (fun y13 => cond (!y13.bool)
    (k0 (T.b false))
    (impl_World_begunOk_L2_0 m n (T.l [(row1 x0)]) x1 x2 (T.i (IntKind.i64.wrap (x3.int + 1))) k0 k1)))
    (.bad))
    (k0 (T.b false))))
    (.bad))
    (k1 (T.l [(row1 x0)]))
noncomputable def impl_World_begunOk_L1_0 (m : Nat) : Nat → T → T → T → T → (T → An) → (T → An) → An
  | 0, _, _, _, _, _, _ => .bad
  | n + 1, x0, x1, x2, x3, k0, k1 =>
    cond (decide (x3.int < x2.int))
    (cond (decide ((0 : Int) ≤ x3.int ∧ x3.int < (x1.rows.length : Int)))
    (impl_World_orderAt m (T.l [((row1 x0).take 10)]) ((x1.rows.getD (Int.toNat x3.int) []).getD 0 dflt)
    (fun y9 => cond (decide (y9.int < 0))
    (k0 (T.b false))
    (impl_World_begunOk_L1_0 m n (T.l [(row1 x0)]) x1 x2 (T.i (IntKind.i64.wrap (x3.int + 1))) k0 k1)))
    (.bad))
    (k1 (T.l [(row1 x0)]))
noncomputable def impl_World_begunOk_L0_0 (m : Nat) : Nat → T → T → T → T → (T → An) → (T → An) → An
  | 0, _, _, _, _, _, _ => .bad
  | n + 1, x0, x1, x2, x3, k0, k1 =>
    cond (decide (x3.int < x2.int))
    (cond (decide ((0 : Int) ≤ x3.int ∧ x3.int < (x1.rows.length : Int)))
    (impl_OpsOk m (T.l ((x1.rows.getD (Int.toNat x3.int) []).getD 1 dflt).rows)
    (fun y0 => cond ((!y0.bool) == false)
    (impl_Coord_nextTx m (T.l [((row1 x0).take 6)])
    (fun y1 => impl_inRange m ((x1.rows.getD (Int.toNat x3.int) []).getD 0 dflt) (T.i 1000) (T.i (IntKind.i64.wrap (y1.int - 1)))
    (fun y2 => cond ((!y2.bool) == false)
    (impl_World_orderAt m (T.l [((row1 x0).take 10)]) ((x1.rows.getD (Int.toNat x3.int) []).getD 0 dflt)
    (fun y3 => cond (y3.int != x3.int)
    (k0 (T.b false))
    (impl_World_begunOk_L0_0 m n (T.l [(row1 x0)]) x1 x2 (T.i (IntKind.i64.wrap (x3.int + 1))) k0 k1)))
    (k0 (T.b false)))))
    (k0 (T.b false))))
    (.bad))
    (k1 (T.l [(row1 x0)]))
noncomputable def impl_World_begunOk : Nat → T → (T → An) → An
  | 0, _, _ => .bad
  | m + 1, x0, k0 =>
    impl_World_begunOk_L0_0 m m (T.l [(row1 x0)]) (((row1 x0).drop 9).getD 0 dflt) (T.i ((((row1 x0).drop 9).getD 0 dflt).rows.length : Int)) (T.i 0)
    (fun y7 => k0 y7)
    (fun y8 => impl_World_begunOk_L1_0 m m (T.l [(row1 y8)]) (((row1 y8).drop 4).getD 0 dflt) (T.i ((((row1 y8).drop 4).getD 0 dflt).rows.length : Int)) (T.i 0)
    (fun y10 => k0 y10)
    (fun y11 => impl_World_begunOk_L2_0 m m (T.l [(row1 y11)]) (((row1 y11).drop 3).getD 0 dflt) (T.i ((((row1 y11).drop 3).getD 0 dflt).rows.length : Int)) (T.i 0)
    (fun y17 => k0 y17)
    (fun y18 => k0 (T.b (decide (((((row1 y18).drop 9).getD 0 dflt).rows.length : Int) ≤ 1000))))))
noncomputable def impl_World_begunOk_f : Fs := ⟨40, [.rpt [.sc (.int .i64), .sc (.int .i64), .sc (.int .i64), .sl [.sc (.int .i64), .sl [.sc (.int .i64), .sc (.str), .sc (.str)], .sc (.int .i64), .sl [.sc (.int .i64)]], .sl [.sc (.int .i64), .sc (.bool)], .sc (.int .i64), .sl [.sc (.int .i64), .sl [.sc (.int .i64), .sc (.int .i64), .sl [.sc (.int .i64), .sc (.str), .sc (.str)]], .sc (.int .i64), .sl [.sc (.str), .sc (.str)], .sl [.sc (.int .i64), .sc (.int .i64), .sl [.sc (.int .i64), .sc (.str), .sc (.str)]]], .sl [.sc (.int .i64), .sc (.int .i64), .sc (.int .i64), .sl [.sc (.int .i64), .sc (.str), .sc (.str)], .sc (.bool)], .sl [.sc (.int .i64), .sc (.int .i64), .sc (.int .i64), .sl [.sc (.int .i64), .sc (.str), .sc (.str)], .sc (.bool)], .sl [.sc (.int .i64), .sl [.sc (.int .i64), .sc (.str), .sc (.str)]]] []], fun m vs k => ap 1 (impl_World_begunOk m) vs (lm 1 fun z => k (fRet ⟨[.one (RB)], [[]], [none]⟩ z))⟩
noncomputable def impl_World_begunOk_l : List Ls := [⟨[0, 1, 0, 1, 1, 1], ⟨[(0, .rp [([4000000], 0)] [.sc (.int .i64), .sc (.int .i64), .sc (.int .i64), .sl [.sc (.int .i64), .sl [.sc (.int .i64), .sc (.str), .sc (.str)], .sc (.int .i64), .sl [.sc (.int .i64)]], .sl [.sc (.int .i64), .sc (.bool)], .sc (.int .i64), .sl [.sc (.int .i64), .sl [.sc (.int .i64), .sc (.int .i64), .sl [.sc (.int .i64), .sc (.str), .sc (.str)]], .sc (.int .i64), .sl [.sc (.str), .sc (.str)], .sl [.sc (.int .i64), .sc (.int .i64), .sl [.sc (.int .i64), .sc (.str), .sc (.str)]]], .sl [.sc (.int .i64), .sc (.int .i64), .sc (.int .i64), .sl [.sc (.int .i64), .sc (.str), .sc (.str)], .sc (.bool)], .sl [.sc (.int .i64), .sc (.int .i64), .sc (.int .i64), .sl [.sc (.int .i64), .sc (.str), .sc (.str)], .sc (.bool)], .sl [.sc (.int .i64), .sl [.sc (.int .i64), .sc (.str), .sc (.str)]]] []), (64, .one (LD [.sc (.int .i64), .sl [.sc (.int .i64), .sc (.str), .sc (.str)], .sc (.int .i64), .sl [.sc (.int .i64)]])), (65, .one (LI)), (66, .one (LI))], [([4000000], .gone)]⟩, fun m n vs k => ap 4 (impl_World_begunOk_L2_0 m n) vs (lm 1 fun z => k .ret (fPack ⟨[(2, .one (LB))], []⟩ z)) (lm 1 fun z => k (.exit 4) (fPack ⟨[(0, .rp [([4000000], 0)] [.sc (.int .i64), .sc (.int .i64), .sc (.int .i64), .sl [.sc (.int .i64), .sl [.sc (.int .i64), .sc (.str), .sc (.str)], .sc (.int .i64), .sl [.sc (.int .i64)]], .sl [.sc (.int .i64), .sc (.bool)], .sc (.int .i64), .sl [.sc (.int .i64), .sl [.sc (.int .i64), .sc (.int .i64), .sl [.sc (.int .i64), .sc (.str), .sc (.str)]], .sc (.int .i64), .sl [.sc (.str), .sc (.str)], .sl [.sc (.int .i64), .sc (.int .i64), .sl [.sc (.int .i64), .sc (.str), .sc (.str)]]], .sl [.sc (.int .i64), .sc (.int .i64), .sc (.int .i64), .sl [.sc (.int .i64), .sc (.str), .sc (.str)], .sc (.bool)], .sl [.sc (.int .i64), .sc (.int .i64), .sc (.int .i64), .sl [.sc (.int .i64), .sc (.str), .sc (.str)], .sc (.bool)], .sl [.sc (.int .i64), .sl [.sc (.int .i64), .sc (.str), .sc (.str)]]] [])], [([4000000], .gone)]⟩ z))⟩, ⟨[0, 1, 0, 1, 1], ⟨[(0, .rp [([4000000], 0)] [.sc (.int .i64), .sc (.int .i64), .sc (.int .i64), .sl [.sc (.int .i64), .sl [.sc (.int .i64), .sc (.str), .sc (.str)], .sc (.int .i64), .sl [.sc (.int .i64)]], .sl [.sc (.int .i64), .sc (.bool)], .sc (.int .i64), .sl [.sc (.int .i64), .sl [.sc (.int .i64), .sc (.int .i64), .sl [.sc (.int .i64), .sc (.str), .sc (.str)]], .sc (.int .i64), .sl [.sc (.str), .sc (.str)], .sl [.sc (.int .i64), .sc (.int .i64), .sl [.sc (.int .i64), .sc (.str), .sc (.str)]]], .sl [.sc (.int .i64), .sc (.int .i64), .sc (.int .i64), .sl [.sc (.int .i64), .sc (.str), .sc (.str)], .sc (.bool)], .sl [.sc (.int .i64), .sc (.int .i64), .sc (.int .i64), .sl [.sc (.int .i64), .sc (.str), .sc (.str)], .sc (.bool)], .sl [.sc (.int .i64), .sl [.sc (.int .i64), .sc (.str), .sc (.str)]]] []), (48, .one (LD [.sc (.int .i64), .sc (.bool)])), (49, .one (LI)), (50, .one (LI))], [([4000000], .gone)]⟩, fun m n vs k => ap 4 (impl_World_begunOk_L1_0 m n) vs (lm 1 fun z => k .ret (fPack ⟨[(2, .one (LB))], []⟩ z)) (lm 1 fun z => k (.exit 2) (fPack ⟨[(0, .rp [([4000000], 0)] [.sc (.int .i64), .sc (.int .i64), .sc (.int .i64), .sl [.sc (.int .i64), .sl [.sc (.int .i64), .sc (.str), .sc (.str)], .sc (.int .i64), .sl [.sc (.int .i64)]], .sl [.sc (.int .i64), .sc (.bool)], .sc (.int .i64), .sl [.sc (.int .i64), .sl [.sc (.int .i64), .sc (.int .i64), .sl [.sc (.int .i64), .sc (.str), .sc (.str)]], .sc (.int .i64), .sl [.sc (.str), .sc (.str)], .sl [.sc (.int .i64), .sc (.int .i64), .sl [.sc (.int .i64), .sc (.str), .sc (.str)]]], .sl [.sc (.int .i64), .sc (.int .i64), .sc (.int .i64), .sl [.sc (.int .i64), .sc (.str), .sc (.str)], .sc (.bool)], .sl [.sc (.int .i64), .sc (.int .i64), .sc (.int .i64), .sl [.sc (.int .i64), .sc (.str), .sc (.str)], .sc (.bool)], .sl [.sc (.int .i64), .sl [.sc (.int .i64), .sc (.str), .sc (.str)]]] [])], [([4000000], .gone)]⟩ z))⟩, ⟨[0, 1, 0, 1], ⟨[(0, .rp [([4000000], 0)] [.sc (.int .i64), .sc (.int .i64), .sc (.int .i64), .sl [.sc (.int .i64), .sl [.sc (.int .i64), .sc (.str), .sc (.str)], .sc (.int .i64), .sl [.sc (.int .i64)]], .sl [.sc (.int .i64), .sc (.bool)], .sc (.int .i64), .sl [.sc (.int .i64), .sl [.sc (.int .i64), .sc (.int .i64), .sl [.sc (.int .i64), .sc (.str), .sc (.str)]], .sc (.int .i64), .sl [.sc (.str), .sc (.str)], .sl [.sc (.int .i64), .sc (.int .i64), .sl [.sc (.int .i64), .sc (.str), .sc (.str)]]], .sl [.sc (.int .i64), .sc (.int .i64), .sc (.int .i64), .sl [.sc (.int .i64), .sc (.str), .sc (.str)], .sc (.bool)], .sl [.sc (.int .i64), .sc (.int .i64), .sc (.int .i64), .sl [.sc (.int .i64), .sc (.str), .sc (.str)], .sc (.bool)], .sl [.sc (.int .i64), .sl [.sc (.int .i64), .sc (.str), .sc (.str)]]] []), (13, .one (LD [.sc (.int .i64), .sl [.sc (.int .i64), .sc (.str), .sc (.str)]])), (14, .one (LI)), (15, .one (LI))], [([4000000], .gone)]⟩, fun m n vs k => ap 4 (impl_World_begunOk_L0_0 m n) vs (lm 1 fun z => k .ret (fPack ⟨[(2, .one (LB))], []⟩ z)) (lm 1 fun z => k (.exit 0) (fPack ⟨[(0, .rp [([4000000], 0)] [.sc (.int .i64), .sc (.int .i64), .sc (.int .i64), .sl [.sc (.int .i64), .sl [.sc (.int .i64), .sc (.str), .sc (.str)], .sc (.int .i64), .sl [.sc (.int .i64)]], .sl [.sc (.int .i64), .sc (.bool)], .sc (.int .i64), .sl [.sc (.int .i64), .sl [.sc (.int .i64), .sc (.int .i64), .sl [.sc (.int .i64), .sc (.str), .sc (.str)]], .sc (.int .i64), .sl [.sc (.str), .sc (.str)], .sl [.sc (.int .i64), .sc (.int .i64), .sl [.sc (.int .i64), .sc (.str), .sc (.str)]]], .sl [.sc (.int .i64), .sc (.int .i64), .sc (.int .i64), .sl [.sc (.int .i64), .sc (.str), .sc (.str)], .sc (.bool)], .sl [.sc (.int .i64), .sc (.int .i64), .sc (.int .i64), .sl [.sc (.int .i64), .sc (.str), .sc (.str)], .sc (.bool)], .sl [.sc (.int .i64), .sl [.sc (.int .i64), .sc (.str), .sc (.str)]]] [])], [([4000000], .gone)]⟩ z))⟩]
noncomputable def impl_World_begunOk_t : List Fs := impl_World_begunOk_f :: impl_World_orderAt_t
theorem impl_World_begunOk_g : FGood CX prims impl_World_begunOk_t ∧ FEqn CX prims impl_World_begunOk_f := fnG impl_World_orderAt_g.1 impl_World_begunOk_f Tryz.f40 ⟨40, 1, 97, 4⟩ impl_World_begunOk_l (fun _ _ => rfl) (fun _ _ _ => by kernel_rfl) ⟨fun _ _ _ => rfl, fun _ _ _ => rfl, fun _ _ _ => rfl, trivial⟩ ⟨fun _ _ _ _ _ _ => by kernel_rfl, fun _ _ _ _ _ _ => by kernel_rfl, fun _ _ _ _ _ _ => by kernel_rfl, trivial⟩ (fun _ _ _ _ _ => by kernel_rfl)

/-! loop.example/g00244/impl.WorldOk -/
noncomputable def impl_WorldOk_L0_0 (m : Nat) : Nat → T → T → T → T → T → T → T → T → T → T → T → T → T → T → (T → An) → (T → T → T → T → T → T → T → T → T → T → T → An) → An
  | 0, _, _, _, _, _, _, _, _, _, _, _, _, _, _, _, _ => .bad
  | n + 1, x0, x1, x2, x3, x4, x5, x6, x7, x8, x9, x10, x11, x12, x13, k0, k1 =>
    cond (decide (x3.int < x2.int))
    ((fun (j4 : An) =>
    cond (decide ((0 : Int) ≤ x3.int ∧ x3.int < (x1.rows.length : Int)))
    (cond ((((x1.rows.getD (Int.toNat x3.int) []).getD 0 dflt).int != x3.int) == false)
    (impl_ShardOk m ((x1.rows.getD (Int.toNat x3.int) []).getD 0 dflt) (T.l ((x1.rows.getD (Int.toNat x3.int) []).getD 1 dflt).rows) ((x1.rows.getD (Int.toNat x3.int) []).getD 2 dflt) (T.l ((x1.rows.getD (Int.toNat x3.int) []).getD 3 dflt).rows) (T.l ((x1.rows.getD (Int.toNat x3.int) []).getD 4 dflt).rows)
    (fun y2 => cond (!y2.bool)
    (k0 (T.b false))
    (j4)))
    (k0 (T.b false)))
    (.bad))
    (impl_WorldOk_L0_0 m n (T.i (x0.int.toNat : Int)) x1 x2 (T.i (IntKind.i64.wrap (x3.int + 1))) x4 x5 x6 x7 x8 x9 x10 x11 x12 x13 k0 k1))
    (k1 (T.i (x0.int.toNat : Int)) x4 x5 x6 x7 x8 x9 x10 x11 x12 x13)
noncomputable def impl_WorldOk : Nat → T → T → T → T → T → T → T → T → T → T → (T → An) → An
  | 0, _, _, _, _, _, _, _, _, _, _, _ => .bad
  | m + 1, x0, x1, x2, x3, x4, x5, x6, x7, x8, x9, k0 =>
    jn (fun (j21 : An) =>
    impl_CoordOk m x0 x1 x2 (T.l x3.rows) (T.l x4.rows) x5
    (fun y0 => cond ((!y0.bool) == false)
    (cond ((x6.rows.length : Int) != x0.int)
    (k0 (T.b false))
    (j21))
    (k0 (T.b false))))
    (impl_WorldOk_L0_0 m m (T.i 0) (T.l x6.rows) (T.i (x6.rows.length : Int)) (T.i 0) x0 x1 x2 (T.l x3.rows) (T.l x4.rows) x5 (T.l x6.rows) (T.l x7.rows) (T.l x8.rows) (T.l x9.rows)
    (fun y5 => k0 y5)
    (fun y6 y7 y8 y9 y10 y11 y12 y13 y14 y15 y16 => impl_World_wordsOk m (T.l [[y7, y8, y9, (T.l y10.rows), (T.l y11.rows), y12, (T.l y13.rows), (T.l y14.rows), (T.l y15.rows), (T.l y16.rows)]]) (T.l y14.rows)
    (fun y17 => cond (y17.bool == true)
    (impl_World_wordsOk m (T.l [[y7, y8, y9, (T.l y10.rows), (T.l y11.rows), y12, (T.l y13.rows), (T.l y14.rows), (T.l y15.rows), (T.l y16.rows)]]) (T.l y15.rows)
    (fun y18 => cond (y18.bool == true)
    (impl_World_begunOk m (T.l [[y7, y8, y9, (T.l y10.rows), (T.l y11.rows), y12, (T.l y13.rows), (T.l y14.rows), (T.l y15.rows), (T.l y16.rows)]])
    (fun y19 => k0 (T.b y19.bool)))
    (k0 (T.b false))))
    (k0 (T.b false)))))
noncomputable def impl_WorldOk_f : Fs := ⟨13, [.agg [AI, AI, AI, .dz [.sc (.int .i64), .sl [.sc (.int .i64), .sc (.str), .sc (.str)], .sc (.int .i64), .sl [.sc (.int .i64)]] [], .dz [.sc (.int .i64), .sc (.bool)] [], AI, .dz [.sc (.int .i64), .sl [.sc (.int .i64), .sc (.int .i64), .sl [.sc (.int .i64), .sc (.str), .sc (.str)]], .sc (.int .i64), .sl [.sc (.str), .sc (.str)], .sl [.sc (.int .i64), .sc (.int .i64), .sl [.sc (.int .i64), .sc (.str), .sc (.str)]]] [], .dz [.sc (.int .i64), .sc (.int .i64), .sc (.int .i64), .sl [.sc (.int .i64), .sc (.str), .sc (.str)], .sc (.bool)] [], .dz [.sc (.int .i64), .sc (.int .i64), .sc (.int .i64), .sl [.sc (.int .i64), .sc (.str), .sc (.str)], .sc (.bool)] [], .dz [.sc (.int .i64), .sl [.sc (.int .i64), .sc (.str), .sc (.str)]] []]], fun m vs k => ap 10 (impl_WorldOk m) vs (lm 1 fun z => k (fRet ⟨[.one (RB)], [[none, none, none, none, none, none, none, none, none, none]], [none]⟩ z))⟩
noncomputable def impl_WorldOk_l : List Ls := [⟨[0, 1, 0, 1, 1], ⟨[(1, EP 0), (19, .one (LD [.sc (.int .i64), .sl [.sc (.int .i64), .sc (.int .i64), .sl [.sc (.int .i64), .sc (.str), .sc (.str)]], .sc (.int .i64), .sl [.sc (.str), .sc (.str)], .sl [.sc (.int .i64), .sc (.int .i64), .sl [.sc (.int .i64), .sc (.str), .sc (.str)]]])), (20, .one (LI)), (21, .one (LI))], [((KI 0), .box [LI, LI, LI, LD [.sc (.int .i64), .sl [.sc (.int .i64), .sc (.str), .sc (.str)], .sc (.int .i64), .sl [.sc (.int .i64)]], LD [.sc (.int .i64), .sc (.bool)], LI, LD [.sc (.int .i64), .sl [.sc (.int .i64), .sc (.int .i64), .sl [.sc (.int .i64), .sc (.str), .sc (.str)]], .sc (.int .i64), .sl [.sc (.str), .sc (.str)], .sl [.sc (.int .i64), .sc (.int .i64), .sl [.sc (.int .i64), .sc (.str), .sc (.str)]]], LD [.sc (.int .i64), .sc (.int .i64), .sc (.int .i64), .sl [.sc (.int .i64), .sc (.str), .sc (.str)], .sc (.bool)], LD [.sc (.int .i64), .sc (.int .i64), .sc (.int .i64), .sl [.sc (.int .i64), .sc (.str), .sc (.str)], .sc (.bool)], LD [.sc (.int .i64), .sl [.sc (.int .i64), .sc (.str), .sc (.str)]]]), ([4000000], .gone)]⟩, fun m n vs k => ap 14 (impl_WorldOk_L0_0 m n) vs (lm 1 fun z => k .ret (fPack ⟨[(2, .one (LB))], []⟩ z)) (lm 11 fun z => k (.exit 0) (fPack ⟨[(1, EP 0)], [((KI 0), .box [LI, LI, LI, LD [.sc (.int .i64), .sl [.sc (.int .i64), .sc (.str), .sc (.str)], .sc (.int .i64), .sl [.sc (.int .i64)]], LD [.sc (.int .i64), .sc (.bool)], LI, LD [.sc (.int .i64), .sl [.sc (.int .i64), .sc (.int .i64), .sl [.sc (.int .i64), .sc (.str), .sc (.str)]], .sc (.int .i64), .sl [.sc (.str), .sc (.str)], .sl [.sc (.int .i64), .sc (.int .i64), .sl [.sc (.int .i64), .sc (.str), .sc (.str)]]], LD [.sc (.int .i64), .sc (.int .i64), .sc (.int .i64), .sl [.sc (.int .i64), .sc (.str), .sc (.str)], .sc (.bool)], LD [.sc (.int .i64), .sc (.int .i64), .sc (.int .i64), .sl [.sc (.int .i64), .sc (.str), .sc (.str)], .sc (.bool)], LD [.sc (.int .i64), .sl [.sc (.int .i64), .sc (.str), .sc (.str)]]]), ([4000000], .gone)]⟩ z))⟩]
noncomputable def impl_WorldOk_t : List Fs := impl_WorldOk_f :: impl_World_begunOk_t
theorem impl_WorldOk_g : FGood CX prims impl_WorldOk_t ∧ FEqn CX prims impl_WorldOk_f := fnG impl_World_begunOk_g.1 impl_WorldOk_f Tryz.f13 ⟨13, 1, 47, 4⟩ impl_WorldOk_l (fun _ _ => rfl) (fun _ _ _ => by kernel_rfl) ⟨fun _ _ _ => rfl, trivial⟩ ⟨fun _ _ _ _ _ _ => by kernel_rfl, trivial⟩ (fun _ _ _ _ _ => by kernel_rfl)

/-! (*loop.example/g00244/impl.World).isChosen -/
noncomputable def impl_World_isChosen_L0_0 (m : Nat) : Nat → T → T → T → T → T → (T → An) → An → An
  | 0, _, _, _, _, _, _, _ => .bad
  | n + 1, x0, x1, x2, x3, x4, k0, k1 =>
    cond (decide (x4.int < x3.int))
    (cond (decide ((0 : Int) ≤ x4.int ∧ x4.int < (x2.rows.length : Int)))
    (cond ((((x2.rows.getD (Int.toNat x4.int) []).getD 0 dflt).int == x1.int) == true)
    (cond (((x2.rows.getD (Int.toNat x4.int) []).getD 1 dflt).bool == true)
    (cond (decide (x4.int < (((row1 x0).drop 5).getD 0 dflt).int))
    (k0 (T.b true))
    (impl_World_isChosen_L0_0 m n (T.l [(row1 x0)]) x1 x2 x3 (T.i (IntKind.i64.wrap (x4.int + 1))) k0 k1))
    (impl_World_isChosen_L0_0 m n (T.l [(row1 x0)]) x1 x2 x3 (T.i (IntKind.i64.wrap (x4.int + 1))) k0 k1))
    (impl_World_isChosen_L0_0 m n (T.l [(row1 x0)]) x1 x2 x3 (T.i (IntKind.i64.wrap (x4.int + 1))) k0 k1))
    (.bad))
    (k1 )
noncomputable def impl_World_isChosen : Nat → T → T → (T → An) → An
  | 0, _, _, _ => .bad
  | m + 1, x0, x1, k0 =>
    impl_World_isChosen_L0_0 m m (T.l [(row1 x0)]) x1 (((row1 x0).drop 4).getD 0 dflt) (T.i ((((row1 x0).drop 4).getD 0 dflt).rows.length : Int)) (T.i 0)
    (fun y3 => k0 y3)
    (k0 (T.b false))
noncomputable def impl_World_isChosen_f : Fs := ⟨32, [.rpt [.sc (.int .i64), .sc (.int .i64), .sc (.int .i64), .sl [.sc (.int .i64), .sl [.sc (.int .i64), .sc (.str), .sc (.str)], .sc (.int .i64), .sl [.sc (.int .i64)]], .sl [.sc (.int .i64), .sc (.bool)], .sc (.int .i64), .sl [.sc (.int .i64), .sl [.sc (.int .i64), .sc (.int .i64), .sl [.sc (.int .i64), .sc (.str), .sc (.str)]], .sc (.int .i64), .sl [.sc (.str), .sc (.str)], .sl [.sc (.int .i64), .sc (.int .i64), .sl [.sc (.int .i64), .sc (.str), .sc (.str)]]], .sl [.sc (.int .i64), .sc (.int .i64), .sc (.int .i64), .sl [.sc (.int .i64), .sc (.str), .sc (.str)], .sc (.bool)], .sl [.sc (.int .i64), .sc (.int .i64), .sc (.int .i64), .sl [.sc (.int .i64), .sc (.str), .sc (.str)], .sc (.bool)], .sl [.sc (.int .i64), .sl [.sc (.int .i64), .sc (.str), .sc (.str)]]] [], .one (AI)], fun m vs k => ap 2 (impl_World_isChosen m) vs (lm 1 fun z => k (fRet ⟨[.one (RB)], [[], [none]], [none, none]⟩ z))⟩
noncomputable def impl_World_isChosen_l : List Ls := [⟨[0, 1, 0, 1], ⟨[(0, .rp [([4000000], 0)] [.sc (.int .i64), .sc (.int .i64), .sc (.int .i64), .sl [.sc (.int .i64), .sl [.sc (.int .i64), .sc (.str), .sc (.str)], .sc (.int .i64), .sl [.sc (.int .i64)]], .sl [.sc (.int .i64), .sc (.bool)], .sc (.int .i64), .sl [.sc (.int .i64), .sl [.sc (.int .i64), .sc (.int .i64), .sl [.sc (.int .i64), .sc (.str), .sc (.str)]], .sc (.int .i64), .sl [.sc (.str), .sc (.str)], .sl [.sc (.int .i64), .sc (.int .i64), .sl [.sc (.int .i64), .sc (.str), .sc (.str)]]], .sl [.sc (.int .i64), .sc (.int .i64), .sc (.int .i64), .sl [.sc (.int .i64), .sc (.str), .sc (.str)], .sc (.bool)], .sl [.sc (.int .i64), .sc (.int .i64), .sc (.int .i64), .sl [.sc (.int .i64), .sc (.str), .sc (.str)], .sc (.bool)], .sl [.sc (.int .i64), .sl [.sc (.int .i64), .sc (.str), .sc (.str)]]] []), (1, .one (LI)), (11, .one (LD [.sc (.int .i64), .sc (.bool)])), (12, .one (LI)), (13, .one (LI))], [([4000000], .gone)]⟩, fun m n vs k => ap 5 (impl_World_isChosen_L0_0 m n) vs (lm 1 fun z => k .ret (fPack ⟨[(4, .one (LB))], []⟩ z)) (lm 0 fun z => k (.exit 0) (fPack ⟨[], []⟩ z))⟩]
noncomputable def impl_World_isChosen_t : List Fs := impl_World_isChosen_f :: impl_WorldOk_t
theorem impl_World_isChosen_g : FGood CX prims impl_World_isChosen_t ∧ FEqn CX prims impl_World_isChosen_f := fnG impl_WorldOk_g.1 impl_World_isChosen_f Tryz.f32 ⟨32, 2, 36, 16⟩ impl_World_isChosen_l (fun _ _ => rfl) (fun _ _ _ => by kernel_rfl) ⟨fun _ _ _ => rfl, trivial⟩ ⟨fun _ _ _ _ _ _ => by kernel_rfl, trivial⟩ (fun _ _ _ _ _ => by kernel_rfl)

/-! loop.example/g00244/impl.Backed -/
noncomputable def impl_Backed_L1_0 (m : Nat) : Nat → T → T → T → T → T → T → T → T → T → T → T → T → T → T → T → T → T → (T → An) → (T → T → T → T → T → T → T → T → T → T → T → T → T → T → An) → An
  | 0, _, _, _, _, _, _, _, _, _, _, _, _, _, _, _, _, _, _, _ => .bad
  | n + 1, x0, x1, x2, x3, x4, x5, x6, x7, x8, x9, x10, x11, x12, x13, x14, x15, x16, k0, k1 =>
    cond (decide (x6.int < x5.int))
    ((fun (j2 : An) =>
    cond (decide ((0 : Int) ≤ x6.int ∧ x6.int < (x4.rows.length : Int)))
    (cond ((((x4.rows.getD (Int.toNat x6.int) []).getD 0 dflt).int == 2) == true)
    (impl_World_isChosen m (T.l [[x7, x8, x9, (T.l x10.rows), (T.l x11.rows), x12, (T.l x13.rows), (T.l x14.rows), (T.l x15.rows), (T.l x16.rows)]]) ((x4.rows.getD (Int.toNat x6.int) []).getD 1 dflt)
    (fun y0 => cond (!y0.bool)
    (k0 (T.b false))
    (j2)))
    (j2))
    (.bad))
    (impl_Backed_L1_0 m n (T.i (x0.int.toNat : Int)) x1 x2 x3 x4 x5 (T.i (IntKind.i64.wrap (x6.int + 1))) x7 x8 x9 x10 x11 x12 x13 x14 x15 x16 k0 k1))
    (k1 (T.i (x0.int.toNat : Int)) x1 x2 x3 x7 x8 x9 x10 x11 x12 x13 x14 x15 x16)
noncomputable def impl_Backed_L0_0 (m : Nat) : Nat → T → T → T → T → T → T → T → T → T → T → T → T → T → T → (T → An) → An → An
  | 0, _, _, _, _, _, _, _, _, _, _, _, _, _, _, _, _ => .bad
  | n + 1, x0, x1, x2, x3, x4, x5, x6, x7, x8, x9, x10, x11, x12, x13, k0, k1 =>
    cond (decide (x3.int < x2.int))
    (cond (decide ((0 : Int) ≤ x3.int ∧ x3.int < (x1.rows.length : Int)))
    (impl_Backed_L1_0 m n (T.i (x0.int.toNat : Int)) x1 x2 x3 ((x1.rows.getD (Int.toNat x3.int) []).getD 1 dflt) (T.i (((x1.rows.getD (Int.toNat x3.int) []).getD 1 dflt).rows.length : Int)) (T.i 0) x4 x5 x6 x7 x8 x9 x10 x11 x12 x13
    (fun y3 => k0 y3)
    (fun y4 y5 y6 y7 y8 y9 y10 y11 y12 y13 y14 y15 y16 y17 => impl_Backed_L0_0 m n (T.i (y4.int.toNat : Int)) y5 y6 (T.i (IntKind.i64.wrap (y7.int + 1))) y8 y9 y10 y11 y12 y13 y14 y15 y16 y17 k0 k1))
    (.bad))
    (k1 )
noncomputable def impl_Backed : Nat → T → T → T → T → T → T → T → T → T → T → (T → An) → An
  | 0, _, _, _, _, _, _, _, _, _, _, _ => .bad
  | m + 1, x0, x1, x2, x3, x4, x5, x6, x7, x8, x9, k0 =>
    impl_Backed_L0_0 m m (T.i 0) (T.l x6.rows) (T.i (x6.rows.length : Int)) (T.i 0) x0 x1 x2 (T.l x3.rows) (T.l x4.rows) x5 (T.l x6.rows) (T.l x7.rows) (T.l x8.rows) (T.l x9.rows)
    (fun y18 => k0 y18)
    (k0 (T.b true))
noncomputable def impl_Backed_f : Fs := ⟨10, [.agg [AI, AI, AI, .dz [.sc (.int .i64), .sl [.sc (.int .i64), .sc (.str), .sc (.str)], .sc (.int .i64), .sl [.sc (.int .i64)]] [], .dz [.sc (.int .i64), .sc (.bool)] [], AI, .dz [.sc (.int .i64), .sl [.sc (.int .i64), .sc (.int .i64), .sl [.sc (.int .i64), .sc (.str), .sc (.str)]], .sc (.int .i64), .sl [.sc (.str), .sc (.str)], .sl [.sc (.int .i64), .sc (.int .i64), .sl [.sc (.int .i64), .sc (.str), .sc (.str)]]] [], .dz [.sc (.int .i64), .sc (.int .i64), .sc (.int .i64), .sl [.sc (.int .i64), .sc (.str), .sc (.str)], .sc (.bool)] [], .dz [.sc (.int .i64), .sc (.int .i64), .sc (.int .i64), .sl [.sc (.int .i64), .sc (.str), .sc (.str)], .sc (.bool)] [], .dz [.sc (.int .i64), .sl [.sc (.int .i64), .sc (.str), .sc (.str)]] []]], fun m vs k => ap 10 (impl_Backed m) vs (lm 1 fun z => k (fRet ⟨[.one (RB)], [[none, none, none, none, none, none, none, none, none, none]], [none]⟩ z))⟩
noncomputable def impl_Backed_l : List Ls := [⟨[0, 1, 1, 0, 0, 1, 1, 0, 0, 1, 0, 1], ⟨[(1, EP 0), (8, .one (LD [.sc (.int .i64), .sl [.sc (.int .i64), .sc (.int .i64), .sl [.sc (.int .i64), .sc (.str), .sc (.str)]], .sc (.int .i64), .sl [.sc (.str), .sc (.str)], .sl [.sc (.int .i64), .sc (.int .i64), .sl [.sc (.int .i64), .sc (.str), .sc (.str)]]])), (9, .one (LI)), (10, .one (LI)), (15, .one (LD [.sc (.int .i64), .sc (.int .i64), .sl [.sc (.int .i64), .sc (.str), .sc (.str)]])), (16, .one (LI)), (17, .one (LI))], [((KI 0), .box [LI, LI, LI, LD [.sc (.int .i64), .sl [.sc (.int .i64), .sc (.str), .sc (.str)], .sc (.int .i64), .sl [.sc (.int .i64)]], LD [.sc (.int .i64), .sc (.bool)], LI, LD [.sc (.int .i64), .sl [.sc (.int .i64), .sc (.int .i64), .sl [.sc (.int .i64), .sc (.str), .sc (.str)]], .sc (.int .i64), .sl [.sc (.str), .sc (.str)], .sl [.sc (.int .i64), .sc (.int .i64), .sl [.sc (.int .i64), .sc (.str), .sc (.str)]]], LD [.sc (.int .i64), .sc (.int .i64), .sc (.int .i64), .sl [.sc (.int .i64), .sc (.str), .sc (.str)], .sc (.bool)], LD [.sc (.int .i64), .sc (.int .i64), .sc (.int .i64), .sl [.sc (.int .i64), .sc (.str), .sc (.str)], .sc (.bool)], LD [.sc (.int .i64), .sl [.sc (.int .i64), .sc (.str), .sc (.str)]]]), ([4000000], .gone)]⟩, fun m n vs k => ap 17 (impl_Backed_L1_0 m n) vs (lm 1 fun z => k .ret (fPack ⟨[(2, .one (LB))], []⟩ z)) (lm 14 fun z => k (.exit 2) (fPack ⟨[(1, EP 0), (8, .one (LD [.sc (.int .i64), .sl [.sc (.int .i64), .sc (.int .i64), .sl [.sc (.int .i64), .sc (.str), .sc (.str)]], .sc (.int .i64), .sl [.sc (.str), .sc (.str)], .sl [.sc (.int .i64), .sc (.int .i64), .sl [.sc (.int .i64), .sc (.str), .sc (.str)]]])), (9, .one (LI)), (10, .one (LI))], [((KI 0), .box [LI, LI, LI, LD [.sc (.int .i64), .sl [.sc (.int .i64), .sc (.str), .sc (.str)], .sc (.int .i64), .sl [.sc (.int .i64)]], LD [.sc (.int .i64), .sc (.bool)], LI, LD [.sc (.int .i64), .sl [.sc (.int .i64), .sc (.int .i64), .sl [.sc (.int .i64), .sc (.str), .sc (.str)]], .sc (.int .i64), .sl [.sc (.str), .sc (.str)], .sl [.sc (.int .i64), .sc (.int .i64), .sl [.sc (.int .i64), .sc (.str), .sc (.str)]]], LD [.sc (.int .i64), .sc (.int .i64), .sc (.int .i64), .sl [.sc (.int .i64), .sc (.str), .sc (.str)], .sc (.bool)], LD [.sc (.int .i64), .sc (.int .i64), .sc (.int .i64), .sl [.sc (.int .i64), .sc (.str), .sc (.str)], .sc (.bool)], LD [.sc (.int .i64), .sl [.sc (.int .i64), .sc (.str), .sc (.str)]]]), ([4000000], .gone)]⟩ z))⟩, ⟨[0, 1, 0, 1], ⟨[(1, EP 0), (8, .one (LD [.sc (.int .i64), .sl [.sc (.int .i64), .sc (.int .i64), .sl [.sc (.int .i64), .sc (.str), .sc (.str)]], .sc (.int .i64), .sl [.sc (.str), .sc (.str)], .sl [.sc (.int .i64), .sc (.int .i64), .sl [.sc (.int .i64), .sc (.str), .sc (.str)]]])), (9, .one (LI)), (10, .one (LI))], [((KI 0), .box [LI, LI, LI, LD [.sc (.int .i64), .sl [.sc (.int .i64), .sc (.str), .sc (.str)], .sc (.int .i64), .sl [.sc (.int .i64)]], LD [.sc (.int .i64), .sc (.bool)], LI, LD [.sc (.int .i64), .sl [.sc (.int .i64), .sc (.int .i64), .sl [.sc (.int .i64), .sc (.str), .sc (.str)]], .sc (.int .i64), .sl [.sc (.str), .sc (.str)], .sl [.sc (.int .i64), .sc (.int .i64), .sl [.sc (.int .i64), .sc (.str), .sc (.str)]]], LD [.sc (.int .i64), .sc (.int .i64), .sc (.int .i64), .sl [.sc (.int .i64), .sc (.str), .sc (.str)], .sc (.bool)], LD [.sc (.int .i64), .sc (.int .i64), .sc (.int .i64), .sl [.sc (.int .i64), .sc (.str), .sc (.str)], .sc (.bool)], LD [.sc (.int .i64), .sl [.sc (.int .i64), .sc (.str), .sc (.str)]]]), ([4000000], .gone)]⟩, fun m n vs k => ap 14 (impl_Backed_L0_0 m n) vs (lm 1 fun z => k .ret (fPack ⟨[(2, .one (LB))], []⟩ z)) (lm 0 fun z => k (.exit 0) (fPack ⟨[], []⟩ z))⟩]
noncomputable def impl_Backed_t : List Fs := impl_Backed_f :: impl_World_isChosen_t
theorem impl_Backed_g : FGood CX prims impl_Backed_t ∧ FEqn CX prims impl_Backed_f := fnG impl_World_isChosen_g.1 impl_Backed_f Tryz.f10 ⟨10, 1, 32, 4⟩ impl_Backed_l (fun _ _ => rfl) (fun _ _ _ => by kernel_rfl) ⟨fun _ _ _ => rfl, fun _ _ _ => rfl, trivial⟩ ⟨fun _ _ _ _ _ _ => by kernel_rfl, fun _ _ _ _ _ _ => by kernel_rfl, trivial⟩ (fun _ _ _ _ _ => by kernel_rfl)

/-! loop.example/g00244/impl.OpsFor -/
noncomputable def impl_OpsFor_L0_0 (m : Nat) : Nat → T → T → T → T → T → T → (T → An) → An
  | 0, _, _, _, _, _, _, _ => .bad
  | n + 1, x0, x1, x2, x3, x4, x5, k0 =>
    cond (decide (x4.int < x3.int))
    (cond (decide ((0 : Int) ≤ x4.int ∧ x4.int < (x2.rows.length : Int)))
    (impl_ShardOf m ((x2.rows.getD (Int.toNat x4.int) []).getD 1 dflt) x1
    (fun y0 => cond (y0.int == x0.int)
    (cond (decide ((x5.rows.length + 1) * 3 ≤ maxRow))
    (impl_OpsFor_L0_0 m n x0 x1 x2 x3 (T.i (IntKind.i64.wrap (x4.int + 1))) (T.l (x5.rows ++ [[((x2.rows.getD (Int.toNat x4.int) []).getD 0 dflt), ((x2.rows.getD (Int.toNat x4.int) []).getD 1 dflt), ((x2.rows.getD (Int.toNat x4.int) []).getD 2 dflt)]])) k0)
    (.bad))
    (impl_OpsFor_L0_0 m n x0 x1 x2 x3 (T.i (IntKind.i64.wrap (x4.int + 1))) (T.l x5.rows) k0)))
    (.bad))
    (k0 (T.l x5.rows))
noncomputable def impl_OpsFor : Nat → T → T → T → (T → An) → An
  | 0, _, _, _, _ => .bad
  | m + 1, x0, x1, x2, k0 =>
    impl_OpsFor_L0_0 m m x1 x2 (T.l x0.rows) (T.i (x0.rows.length : Int)) (T.i 0) (T.l [])
    (fun y3 => k0 (T.l y3.rows))
noncomputable def impl_OpsFor_f : Fs := ⟨35, [.one (.dz [.sc (.int .i64), .sc (.str), .sc (.str)] []), .one (AI), .one (AI)], fun m vs k => ap 3 (impl_OpsFor m) vs (lm 1 fun z => k (fRet ⟨[.one (.own (KR 0 0) [.sc (.int .i64), .sc (.str), .sc (.str)] [.F, .F, .F] [])], [[none], [none], [none]], [none, none, none]⟩ z))⟩
noncomputable def impl_OpsFor_l : List Ls := [⟨[0, 1, 0, 1, 1], ⟨[(1, .one (LI)), (2, .one (LI)), (7, .one (LA (KI 0) [.sc (.int .i64), .sc (.str), .sc (.str)])), (10, .one (LD [.sc (.int .i64), .sc (.str), .sc (.str)])), (11, .one (LI)), (12, .one (LI))], [((KI 0), .row [.sc (.int .i64), .sc (.str), .sc (.str)] [.F, .F, .F] []), ([4000000], .gone)]⟩, fun m n vs k => ap 6 (impl_OpsFor_L0_0 m n) vs (lm 1 fun z => k (.exit 0) (fPack ⟨[(7, .one (LA (KI 0) [.sc (.int .i64), .sc (.str), .sc (.str)]))], [((KI 0), .row [.sc (.int .i64), .sc (.str), .sc (.str)] [.F, .F, .F] [])]⟩ z))⟩]
noncomputable def impl_OpsFor_t : List Fs := impl_OpsFor_f :: impl_Backed_t
theorem impl_OpsFor_g : FGood CX prims impl_OpsFor_t ∧ FEqn CX prims impl_OpsFor_f := fnG impl_Backed_g.1 impl_OpsFor_f Tryz.f35 ⟨35, 3, 28, 64⟩ impl_OpsFor_l (fun _ _ => rfl) (fun _ _ _ => by kernel_rfl) ⟨fun _ _ _ => rfl, trivial⟩ ⟨fun _ _ _ _ _ _ => by kernel_rfl, trivial⟩ (fun _ _ _ _ _ => by kernel_rfl)

/-! loop.example/g00244/impl.Whole -/
noncomputable def impl_Whole_L1_0 (m : Nat) : Nat → T → T → T → T → T → T → T → T → T → T → T → T → T → T → T → T → T → T → T → T → T → T → T → (T → An) → (T → T → T → T → T → T → T → T → T → T → T → T → T → T → An) → An
  | 0, _, _, _, _, _, _, _, _, _, _, _, _, _, _, _, _, _, _, _, _, _, _, _, _, _ => .bad
  | n + 1, x0, x1, x2, x3, x4, x5, x6, x7, x8, x9, x10, x11, x12, x13, x14, x15, x16, x17, x18, x19, x20, x21, x22, k0, k1 =>
    cond (decide (x7.int < x6.int))
    ((fun (j4 : An) =>
    cond (decide ((0 : Int) ≤ x7.int ∧ x7.int < (x5.rows.length : Int)))
    (cond (((x5.rows.getD (Int.toNat x7.int) []).getD 0 dflt).int != 1)
    (j4)
    (impl_World_orderAt m (T.l [[x8, x9, x10, (T.l x11.rows), (T.l x12.rows), x13, (T.l x14.rows), (T.l x15.rows), (T.l x16.rows), (T.l x17.rows)]]) ((x5.rows.getD (Int.toNat x7.int) []).getD 1 dflt)
    (fun y0 => cond ((decide (y0.int < 0)) == false)
    (cond (decide ((0 : Int) ≤ y0.int ∧ y0.int < (x17.rows.length : Int)))
    (impl_OpsFor m (T.l (((x17.rows.getD (Int.toNat y0.int) []).drop 1).getD 0 dflt).rows) x18 x8
    (fun y1 => slices_Equal___impl_Op_impl_Op_ m (T.l y1.rows) (T.l ((x5.rows.getD (Int.toNat x7.int) []).getD 2 dflt).rows)
    (fun y2 => cond (!y2.bool)
    (k0 (T.b false))
    (j4))))
    (.bad))
    (k0 (T.b false)))))
    (.bad))
    (impl_Whole_L1_0 m n (T.i (x0.int.toNat : Int)) (T.i (x1.int.toNat : Int)) x2 x3 x4 x5 x6 (T.i (IntKind.i64.wrap (x7.int + 1))) x8 x9 x10 x11 x12 x13 x14 x15 x16 x17 x18 x19 x20 x21 x22 k0 k1))
    (k1 (T.i (x0.int.toNat : Int)) x2 x3 x4 x8 x9 x10 x11 x12 x13 x14 x15 x16 x17)
noncomputable def impl_Whole_L0_0 (m : Nat) : Nat → T → T → T → T → T → T → T → T → T → T → T → T → T → T → (T → An) → An → An
  | 0, _, _, _, _, _, _, _, _, _, _, _, _, _, _, _, _ => .bad
  | n + 1, x0, x1, x2, x3, x4, x5, x6, x7, x8, x9, x10, x11, x12, x13, k0, k1 =>
    cond (decide (x3.int < x2.int))
    (cond (decide ((0 : Int) ≤ x3.int ∧ x3.int < (x1.rows.length : Int)))
    (impl_Whole_L1_0 m n (T.i (x0.int.toNat : Int)) (T.i 0) x1 x2 x3 ((x1.rows.getD (Int.toNat x3.int) []).getD 1 dflt) (T.i (((x1.rows.getD (Int.toNat x3.int) []).getD 1 dflt).rows.length : Int)) (T.i 0) x4 x5 x6 x7 x8 x9 x10 x11 x12 x13 ((x1.rows.getD (Int.toNat x3.int) []).getD 0 dflt) ((x1.rows.getD (Int.toNat x3.int) []).getD 1 dflt) ((x1.rows.getD (Int.toNat x3.int) []).getD 2 dflt) ((x1.rows.getD (Int.toNat x3.int) []).getD 3 dflt) ((x1.rows.getD (Int.toNat x3.int) []).getD 4 dflt)
    (fun y5 => k0 y5)
    (fun y6 y7 y8 y9 y10 y11 y12 y13 y14 y15 y16 y17 y18 y19 => impl_Whole_L0_0 m n (T.i (y6.int.toNat : Int)) y7 y8 (T.i (IntKind.i64.wrap (y9.int + 1))) y10 y11 y12 y13 y14 y15 y16 y17 y18 y19 k0 k1))
    (.bad))
    (k1 )
noncomputable def impl_Whole : Nat → T → T → T → T → T → T → T → T → T → T → (T → An) → An
  | 0, _, _, _, _, _, _, _, _, _, _, _ => .bad
  | m + 1, x0, x1, x2, x3, x4, x5, x6, x7, x8, x9, k0 =>
    impl_Whole_L0_0 m m (T.i 0) (T.l x6.rows) (T.i (x6.rows.length : Int)) (T.i 0) x0 x1 x2 (T.l x3.rows) (T.l x4.rows) x5 (T.l x6.rows) (T.l x7.rows) (T.l x8.rows) (T.l x9.rows)
    (fun y20 => k0 y20)
    (k0 (T.b true))
noncomputable def impl_Whole_f : Fs := ⟨11, [.agg [AI, AI, AI, .dz [.sc (.int .i64), .sl [.sc (.int .i64), .sc (.str), .sc (.str)], .sc (.int .i64), .sl [.sc (.int .i64)]] [], .dz [.sc (.int .i64), .sc (.bool)] [], AI, .dz [.sc (.int .i64), .sl [.sc (.int .i64), .sc (.int .i64), .sl [.sc (.int .i64), .sc (.str), .sc (.str)]], .sc (.int .i64), .sl [.sc (.str), .sc (.str)], .sl [.sc (.int .i64), .sc (.int .i64), .sl [.sc (.int .i64), .sc (.str), .sc (.str)]]] [], .dz [.sc (.int .i64), .sc (.int .i64), .sc (.int .i64), .sl [.sc (.int .i64), .sc (.str), .sc (.str)], .sc (.bool)] [], .dz [.sc (.int .i64), .sc (.int .i64), .sc (.int .i64), .sl [.sc (.int .i64), .sc (.str), .sc (.str)], .sc (.bool)] [], .dz [.sc (.int .i64), .sl [.sc (.int .i64), .sc (.str), .sc (.str)]] []]], fun m vs k => ap 10 (impl_Whole m) vs (lm 1 fun z => k (fRet ⟨[.one (RB)], [[none, none, none, none, none, none, none, none, none, none]], [none]⟩ z))⟩
noncomputable def impl_Whole_l : List Ls := [⟨[0, 1, 1, 0, 0, 1, 1, 0, 0, 1, 0, 1], ⟨[(1, EP 0), (4, EP 1), (9, .one (LD [.sc (.int .i64), .sl [.sc (.int .i64), .sc (.int .i64), .sl [.sc (.int .i64), .sc (.str), .sc (.str)]], .sc (.int .i64), .sl [.sc (.str), .sc (.str)], .sl [.sc (.int .i64), .sc (.int .i64), .sl [.sc (.int .i64), .sc (.str), .sc (.str)]]])), (10, .one (LI)), (11, .one (LI)), (16, .one (LD [.sc (.int .i64), .sc (.int .i64), .sl [.sc (.int .i64), .sc (.str), .sc (.str)]])), (17, .one (LI)), (18, .one (LI))], [((KI 0), .box [LI, LI, LI, LD [.sc (.int .i64), .sl [.sc (.int .i64), .sc (.str), .sc (.str)], .sc (.int .i64), .sl [.sc (.int .i64)]], LD [.sc (.int .i64), .sc (.bool)], LI, LD [.sc (.int .i64), .sl [.sc (.int .i64), .sc (.int .i64), .sl [.sc (.int .i64), .sc (.str), .sc (.str)]], .sc (.int .i64), .sl [.sc (.str), .sc (.str)], .sl [.sc (.int .i64), .sc (.int .i64), .sl [.sc (.int .i64), .sc (.str), .sc (.str)]]], LD [.sc (.int .i64), .sc (.int .i64), .sc (.int .i64), .sl [.sc (.int .i64), .sc (.str), .sc (.str)], .sc (.bool)], LD [.sc (.int .i64), .sc (.int .i64), .sc (.int .i64), .sl [.sc (.int .i64), .sc (.str), .sc (.str)], .sc (.bool)], LD [.sc (.int .i64), .sl [.sc (.int .i64), .sc (.str), .sc (.str)]]]), ((KI 1), .box [LI, LD [.sc (.int .i64), .sc (.int .i64), .sl [.sc (.int .i64), .sc (.str), .sc (.str)]], LI, LD [.sc (.str), .sc (.str)], LD [.sc (.int .i64), .sc (.int .i64), .sl [.sc (.int .i64), .sc (.str), .sc (.str)]]]), ([4000000], .gone)]⟩, fun m n vs k => ap 23 (impl_Whole_L1_0 m n) vs (lm 1 fun z => k .ret (fPack ⟨[(2, .one (LB))], []⟩ z)) (lm 14 fun z => k (.exit 2) (fPack ⟨[(1, EP 0), (9, .one (LD [.sc (.int .i64), .sl [.sc (.int .i64), .sc (.int .i64), .sl [.sc (.int .i64), .sc (.str), .sc (.str)]], .sc (.int .i64), .sl [.sc (.str), .sc (.str)], .sl [.sc (.int .i64), .sc (.int .i64), .sl [.sc (.int .i64), .sc (.str), .sc (.str)]]])), (10, .one (LI)), (11, .one (LI))], [((KI 0), .box [LI, LI, LI, LD [.sc (.int .i64), .sl [.sc (.int .i64), .sc (.str), .sc (.str)], .sc (.int .i64), .sl [.sc (.int .i64)]], LD [.sc (.int .i64), .sc (.bool)], LI, LD [.sc (.int .i64), .sl [.sc (.int .i64), .sc (.int .i64), .sl [.sc (.int .i64), .sc (.str), .sc (.str)]], .sc (.int .i64), .sl [.sc (.str), .sc (.str)], .sl [.sc (.int .i64), .sc (.int .i64), .sl [.sc (.int .i64), .sc (.str), .sc (.str)]]], LD [.sc (.int .i64), .sc (.int .i64), .sc (.int .i64), .sl [.sc (.int .i64), .sc (.str), .sc (.str)], .sc (.bool)], LD [.sc (.int .i64), .sc (.int .i64), .sc (.int .i64), .sl [.sc (.int .i64), .sc (.str), .sc (.str)], .sc (.bool)], LD [.sc (.int .i64), .sl [.sc (.int .i64), .sc (.str), .sc (.str)]]]), ([4000000], .gone)]⟩ z))⟩, ⟨[0, 1, 0, 1], ⟨[(1, EP 0), (9, .one (LD [.sc (.int .i64), .sl [.sc (.int .i64), .sc (.int .i64), .sl [.sc (.int .i64), .sc (.str), .sc (.str)]], .sc (.int .i64), .sl [.sc (.str), .sc (.str)], .sl [.sc (.int .i64), .sc (.int .i64), .sl [.sc (.int .i64), .sc (.str), .sc (.str)]]])), (10, .one (LI)), (11, .one (LI))], [((KI 0), .box [LI, LI, LI, LD [.sc (.int .i64), .sl [.sc (.int .i64), .sc (.str), .sc (.str)], .sc (.int .i64), .sl [.sc (.int .i64)]], LD [.sc (.int .i64), .sc (.bool)], LI, LD [.sc (.int .i64), .sl [.sc (.int .i64), .sc (.int .i64), .sl [.sc (.int .i64), .sc (.str), .sc (.str)]], .sc (.int .i64), .sl [.sc (.str), .sc (.str)], .sl [.sc (.int .i64), .sc (.int .i64), .sl [.sc (.int .i64), .sc (.str), .sc (.str)]]], LD [.sc (.int .i64), .sc (.int .i64), .sc (.int .i64), .sl [.sc (.int .i64), .sc (.str), .sc (.str)], .sc (.bool)], LD [.sc (.int .i64), .sc (.int .i64), .sc (.int .i64), .sl [.sc (.int .i64), .sc (.str), .sc (.str)], .sc (.bool)], LD [.sc (.int .i64), .sl [.sc (.int .i64), .sc (.str), .sc (.str)]]]), ([4000000], .gone)]⟩, fun m n vs k => ap 14 (impl_Whole_L0_0 m n) vs (lm 1 fun z => k .ret (fPack ⟨[(2, .one (LB))], []⟩ z)) (lm 0 fun z => k (.exit 0) (fPack ⟨[], []⟩ z))⟩]
noncomputable def impl_Whole_t : List Fs := impl_Whole_f :: impl_OpsFor_t
theorem impl_Whole_g : FGood CX prims impl_Whole_t ∧ FEqn CX prims impl_Whole_f := fnG impl_OpsFor_g.1 impl_Whole_f Tryz.f11 ⟨11, 1, 50, 4⟩ impl_Whole_l (fun _ _ => rfl) (fun _ _ _ => by kernel_rfl) ⟨fun _ _ _ => rfl, fun _ _ _ => rfl, trivial⟩ ⟨fun _ _ _ _ _ _ => by kernel_rfl, fun _ _ _ _ _ _ => by kernel_rfl, trivial⟩ (fun _ _ _ _ _ => by kernel_rfl)

/-! loop.example/g00244/impl.Promised -/
noncomputable def impl_Promised_L0_0 (m : Nat) : Nat → T → T → T → T → T → T → T → T → T → T → T → T → T → T → (T → An) → An → An
  | 0, _, _, _, _, _, _, _, _, _, _, _, _, _, _, _, _ => .bad
  | n + 1, x0, x1, x2, x3, x4, x5, x6, x7, x8, x9, x10, x11, x12, x13, k0, k1 =>
    cond (decide (x3.int < x2.int))
    (cond (decide ((0 : Int) ≤ x3.int ∧ x3.int < (x1.rows.length : Int)))
    (cond (!((x1.rows.getD (Int.toNat x3.int) []).getD 1 dflt).bool)
    (impl_Promised_L0_0 m n (T.i (x0.int.toNat : Int)) x1 x2 (T.i (IntKind.i64.wrap (x3.int + 1))) x4 x5 x6 x7 x8 x9 x10 x11 x12 x13 k0 k1)
    (impl_World_orderAt m (T.l [[x4, x5, x6, (T.l x7.rows), (T.l x8.rows), x9, (T.l x10.rows), (T.l x11.rows), (T.l x12.rows), (T.l x13.rows)]]) ((x1.rows.getD (Int.toNat x3.int) []).getD 0 dflt)
    (fun y0 => cond (decide (y0.int < 0))
    (k0 (T.b false))
    (cond (decide ((0 : Int) ≤ y0.int ∧ y0.int < (x13.rows.length : Int)))
    (impl_ShardsOf m (T.l (((x13.rows.getD (Int.toNat y0.int) []).drop 1).getD 0 dflt).rows) x4)
    (.bad)))))
    (.bad))
    (k1 )
noncomputable def impl_Promised : Nat → T → T → T → T → T → T → T → T → T → T → (T → An) → An
  | 0, _, _, _, _, _, _, _, _, _, _, _ => .bad
  | m + 1, x0, x1, x2, x3, x4, x5, x6, x7, x8, x9, k0 =>
    impl_Promised_L0_0 m m (T.i 0) (T.l x4.rows) (T.i (x4.rows.length : Int)) (T.i 0) x0 x1 x2 (T.l x3.rows) (T.l x4.rows) x5 (T.l x6.rows) (T.l x7.rows) (T.l x8.rows) (T.l x9.rows)
    (fun y1 => k0 y1)
    (k0 (T.b true))
noncomputable def impl_Promised_f : Fs := ⟨12, [.agg [AI, AI, AI, .dz [.sc (.int .i64), .sl [.sc (.int .i64), .sc (.str), .sc (.str)], .sc (.int .i64), .sl [.sc (.int .i64)]] [], .dz [.sc (.int .i64), .sc (.bool)] [], AI, .dz [.sc (.int .i64), .sl [.sc (.int .i64), .sc (.int .i64), .sl [.sc (.int .i64), .sc (.str), .sc (.str)]], .sc (.int .i64), .sl [.sc (.str), .sc (.str)], .sl [.sc (.int .i64), .sc (.int .i64), .sl [.sc (.int .i64), .sc (.str), .sc (.str)]]] [], .dz [.sc (.int .i64), .sc (.int .i64), .sc (.int .i64), .sl [.sc (.int .i64), .sc (.str), .sc (.str)], .sc (.bool)] [], .dz [.sc (.int .i64), .sc (.int .i64), .sc (.int .i64), .sl [.sc (.int .i64), .sc (.str), .sc (.str)], .sc (.bool)] [], .dz [.sc (.int .i64), .sl [.sc (.int .i64), .sc (.str), .sc (.str)]] []]], fun m vs k => ap 10 (impl_Promised m) vs (lm 1 fun z => k (fRet ⟨[.one (RB)], [[none, none, none, none, none, none, none, none, none, none]], [none]⟩ z))⟩
noncomputable def impl_Promised_l : List Ls := [⟨[0, 1, 0, 1], ⟨[(1, EP 0), (10, .one (LD [.sc (.int .i64), .sc (.bool)])), (11, .one (LI)), (12, .one (LI))], [((KI 0), .box [LI, LI, LI, LD [.sc (.int .i64), .sl [.sc (.int .i64), .sc (.str), .sc (.str)], .sc (.int .i64), .sl [.sc (.int .i64)]], LD [.sc (.int .i64), .sc (.bool)], LI, LD [.sc (.int .i64), .sl [.sc (.int .i64), .sc (.int .i64), .sl [.sc (.int .i64), .sc (.str), .sc (.str)]], .sc (.int .i64), .sl [.sc (.str), .sc (.str)], .sl [.sc (.int .i64), .sc (.int .i64), .sl [.sc (.int .i64), .sc (.str), .sc (.str)]]], LD [.sc (.int .i64), .sc (.int .i64), .sc (.int .i64), .sl [.sc (.int .i64), .sc (.str), .sc (.str)], .sc (.bool)], LD [.sc (.int .i64), .sc (.int .i64), .sc (.int .i64), .sl [.sc (.int .i64), .sc (.str), .sc (.str)], .sc (.bool)], LD [.sc (.int .i64), .sl [.sc (.int .i64), .sc (.str), .sc (.str)]]]), ([4000000], .gone)]⟩, fun m n vs k => ap 14 (impl_Promised_L0_0 m n) vs (lm 1 fun z => k .ret (fPack ⟨[(2, .one (LB))], []⟩ z)) (lm 0 fun z => k (.exit 0) (fPack ⟨[], []⟩ z))⟩]
noncomputable def impl_Promised_t : List Fs := impl_Promised_f :: impl_Whole_t
theorem impl_Promised_g : FGood CX prims impl_Promised_t ∧ FEqn CX prims impl_Promised_f := fnG impl_Whole_g.1 impl_Promised_f Tryz.f12 ⟨12, 1, 56, 4⟩ impl_Promised_l (fun _ _ => rfl) (fun _ _ _ => by kernel_rfl) ⟨fun _ _ _ => rfl, trivial⟩ ⟨fun _ _ _ _ _ _ => by kernel_rfl, trivial⟩ (fun _ _ _ _ _ => by kernel_rfl)

/-! slices.Index[[]bool,bool] -/
noncomputable def slices_Index___bool_bool__L0_0 (m : Nat) : Nat → T → T → T → T → (T → An) → An → An
  | 0, _, _, _, _, _, _ => .bad
  | n + 1, x0, x1, x2, x3, k0, k1 =>
    cond (decide (x3.int < x2.int))
    (cond (decide ((0 : Int) ≤ x3.int ∧ x3.int < (x0.rows.length : Int)))
    (cond (x1.bool == ((x0.rows.getD (Int.toNat x3.int) []).getD 0 dflt).bool)
    (k0 x3)
    (slices_Index___bool_bool__L0_0 m n x0 x1 x2 (T.i (IntKind.i64.wrap (x3.int + 1))) k0 k1))
    (.bad))
    (k1 )
noncomputable def slices_Index___bool_bool_ : Nat → T → T → (T → An) → An
  | 0, _, _, _ => .bad
  | m + 1, x0, x1, k0 =>
    slices_Index___bool_bool__L0_0 m m (T.l x0.rows) x1 (T.i (x0.rows.length : Int)) (T.i 0)
    (fun y0 => k0 y0)
    (k0 (T.i (-1)))
noncomputable def slices_Index___bool_bool__f : Fs := ⟨26, [.one (.dz [.sc (.bool)] []), .one (AB)], fun m vs k => ap 2 (slices_Index___bool_bool_ m) vs (lm 1 fun z => k (fRet ⟨[.one (RI)], [[none], [none]], [none, none]⟩ z))⟩
noncomputable def slices_Index___bool_bool__l : List Ls := [⟨[0, 1, 0, 1], ⟨[(0, .one (LD [.sc (.bool)])), (1, .one (LB)), (7, .one (LI)), (8, .one (LI))], [([4000000], .gone)]⟩, fun m n vs k => ap 4 (slices_Index___bool_bool__L0_0 m n) vs (lm 1 fun z => k .ret (fPack ⟨[(4, .one (LI))], []⟩ z)) (lm 0 fun z => k (.exit 0) (fPack ⟨[], []⟩ z))⟩]
noncomputable def slices_Index___bool_bool__t : List Fs := slices_Index___bool_bool__f :: impl_Promised_t
theorem slices_Index___bool_bool__g : FGood CX prims slices_Index___bool_bool__t ∧ FEqn CX prims slices_Index___bool_bool__f := fnG impl_Promised_g.1 slices_Index___bool_bool__f Tryz.f26 ⟨26, 2, 19, 16⟩ slices_Index___bool_bool__l (fun _ _ => rfl) (fun _ _ _ => by kernel_rfl) ⟨fun _ _ _ => rfl, trivial⟩ ⟨fun _ _ _ _ _ _ => by kernel_rfl, trivial⟩ (fun _ _ _ _ _ => by kernel_rfl)

/-! loop.example/g00244/impl.Safe -/
noncomputable def impl_Safe : Nat → T → T → T → T → T → T → T → T → T → T → (T → An) → An
  | 0, _, _, _, _, _, _, _, _, _, _, _ => .bad
  | m + 1, x0, x1, x2, x3, x4, x5, x6, x7, x8, x9, k0 =>
    impl_WorldOk m x0 x1 x2 (T.l x3.rows) (T.l x4.rows) x5 (T.l x6.rows) (T.l x7.rows) (T.l x8.rows) (T.l x9.rows)
    (fun y0 => impl_NoSplit m x0 x1 x2 (T.l x3.rows) (T.l x4.rows) x5 (T.l x6.rows) (T.l x7.rows) (T.l x8.rows) (T.l x9.rows)
    (fun y1 => impl_Backed m x0 x1 x2 (T.l x3.rows) (T.l x4.rows) x5 (T.l x6.rows) (T.l x7.rows) (T.l x8.rows) (T.l x9.rows)
    (fun y2 => impl_Whole m x0 x1 x2 (T.l x3.rows) (T.l x4.rows) x5 (T.l x6.rows) (T.l x7.rows) (T.l x8.rows) (T.l x9.rows)
    (fun y3 => impl_Promised m x0 x1 x2 (T.l x3.rows) (T.l x4.rows) x5 (T.l x6.rows) (T.l x7.rows) (T.l x8.rows) (T.l x9.rows)
    (fun y4 => slices_Index___bool_bool_ m (T.l [[y0], [y1], [y2], [y3], [y4]]) (T.b false)
    (fun y5 => k0 (T.i (IntKind.i64.wrap (1 + y5.int)))))))))
noncomputable def impl_Safe_f : Fs := ⟨7, [.agg [AI, AI, AI, .dz [.sc (.int .i64), .sl [.sc (.int .i64), .sc (.str), .sc (.str)], .sc (.int .i64), .sl [.sc (.int .i64)]] [], .dz [.sc (.int .i64), .sc (.bool)] [], AI, .dz [.sc (.int .i64), .sl [.sc (.int .i64), .sc (.int .i64), .sl [.sc (.int .i64), .sc (.str), .sc (.str)]], .sc (.int .i64), .sl [.sc (.str), .sc (.str)], .sl [.sc (.int .i64), .sc (.int .i64), .sl [.sc (.int .i64), .sc (.str), .sc (.str)]]] [], .dz [.sc (.int .i64), .sc (.int .i64), .sc (.int .i64), .sl [.sc (.int .i64), .sc (.str), .sc (.str)], .sc (.bool)] [], .dz [.sc (.int .i64), .sc (.int .i64), .sc (.int .i64), .sl [.sc (.int .i64), .sc (.str), .sc (.str)], .sc (.bool)] [], .dz [.sc (.int .i64), .sl [.sc (.int .i64), .sc (.str), .sc (.str)]] []]], fun m vs k => ap 10 (impl_Safe m) vs (lm 1 fun z => k (fRet ⟨[.one (RI)], [[none, none, none, none, none, none, none, none, none, none]], [none]⟩ z))⟩
noncomputable def impl_Safe_t : List Fs := impl_Safe_f :: slices_Index___bool_bool__t
theorem impl_Safe_g : FGood CX prims impl_Safe_t ∧ FEqn CX prims impl_Safe_f := fnG slices_Index___bool_bool__g.1 impl_Safe_f Tryz.f7 ⟨7, 1, 18, 4⟩ [] (fun _ _ => rfl) (fun _ _ _ => by kernel_rfl) trivial trivial (fun _ _ _ _ _ => by kernel_rfl)

/-! (*loop.example/g00244/impl.World).holding -/
noncomputable def impl_World_holding_L0_0 (m : Nat) : Nat → T → T → T → T → (T → An) → An
  | 0, _, _, _, _, _ => .bad
  | n + 1, x0, x1, x2, x3, k0 =>
    cond (decide (x3.int < x2.int))
    (cond (decide ((0 : Int) ≤ x3.int ∧ x3.int < (x1.rows.length : Int)))
    (impl_World_holding_L0_0 m n (T.i (IntKind.i64.wrap (x0.int + (((x1.rows.getD (Int.toNat x3.int) []).getD 4 dflt).rows.length : Int)))) x1 x2 (T.i (IntKind.i64.wrap (x3.int + 1))) k0)
    (.bad))
    (k0 x0)
noncomputable def impl_World_holding : Nat → T → (T → An) → An
  | 0, _, _ => .bad
  | m + 1, x0, k0 =>
    impl_World_holding_L0_0 m m (T.i 0) (((row1 x0).drop 6).getD 0 dflt) (T.i ((((row1 x0).drop 6).getD 0 dflt).rows.length : Int)) (T.i 0)
    (fun y0 => k0 y0)
noncomputable def impl_World_holding_f : Fs := ⟨47, [.rpt [.sc (.int .i64), .sc (.int .i64), .sc (.int .i64), .sl [.sc (.int .i64), .sl [.sc (.int .i64), .sc (.str), .sc (.str)], .sc (.int .i64), .sl [.sc (.int .i64)]], .sl [.sc (.int .i64), .sc (.bool)], .sc (.int .i64), .sl [.sc (.int .i64), .sl [.sc (.int .i64), .sc (.int .i64), .sl [.sc (.int .i64), .sc (.str), .sc (.str)]], .sc (.int .i64), .sl [.sc (.str), .sc (.str)], .sl [.sc (.int .i64), .sc (.int .i64), .sl [.sc (.int .i64), .sc (.str), .sc (.str)]]], .sl [.sc (.int .i64), .sc (.int .i64), .sc (.int .i64), .sl [.sc (.int .i64), .sc (.str), .sc (.str)], .sc (.bool)], .sl [.sc (.int .i64), .sc (.int .i64), .sc (.int .i64), .sl [.sc (.int .i64), .sc (.str), .sc (.str)], .sc (.bool)], .sl [.sc (.int .i64), .sl [.sc (.int .i64), .sc (.str), .sc (.str)]]] []], fun m vs k => ap 1 (impl_World_holding m) vs (lm 1 fun z => k (fRet ⟨[.one (RI)], [[]], [none]⟩ z))⟩
noncomputable def impl_World_holding_l : List Ls := [⟨[0, 1, 0, 1, 1], ⟨[(3, .one (LI)), (9, .one (LD [.sc (.int .i64), .sl [.sc (.int .i64), .sc (.int .i64), .sl [.sc (.int .i64), .sc (.str), .sc (.str)]], .sc (.int .i64), .sl [.sc (.str), .sc (.str)], .sl [.sc (.int .i64), .sc (.int .i64), .sl [.sc (.int .i64), .sc (.str), .sc (.str)]]])), (10, .one (LI)), (11, .one (LI))], [([4000000], .gone)]⟩, fun m n vs k => ap 4 (impl_World_holding_L0_0 m n) vs (lm 1 fun z => k (.exit 0) (fPack ⟨[(3, .one (LI))], []⟩ z))⟩]
noncomputable def impl_World_holding_t : List Fs := impl_World_holding_f :: impl_Safe_t
theorem impl_World_holding_g : FGood CX prims impl_World_holding_t ∧ FEqn CX prims impl_World_holding_f := fnG impl_Safe_g.1 impl_World_holding_f Tryz.f47 ⟨47, 1, 22, 4⟩ impl_World_holding_l (fun _ _ => rfl) (fun _ _ _ => by kernel_rfl) ⟨fun _ _ _ => rfl, trivial⟩ ⟨fun _ _ _ _ _ _ => by kernel_rfl, trivial⟩ (fun _ _ _ _ _ => by kernel_rfl)

/-! (*loop.example/g00244/impl.World).asking -/
noncomputable def impl_World_asking_L0_0 (m : Nat) : Nat → T → T → T → T → (T → An) → An
  | 0, _, _, _, _, _ => .bad
  | n + 1, x0, x1, x2, x3, k0 =>
    cond (decide (x3.int < x2.int))
    (cond (decide ((0 : Int) ≤ x3.int ∧ x3.int < (x1.rows.length : Int)))
    (cond (((x1.rows.getD (Int.toNat x3.int) []).getD 2 dflt).int == 1)
    (impl_World_asking_L0_0 m n (T.i (IntKind.i64.wrap (x0.int + 1))) x1 x2 (T.i (IntKind.i64.wrap (x3.int + 1))) k0)
    (impl_World_asking_L0_0 m n x0 x1 x2 (T.i (IntKind.i64.wrap (x3.int + 1))) k0))
    (.bad))
    (k0 x0)
noncomputable def impl_World_asking : Nat → T → (T → An) → An
  | 0, _, _ => .bad
  | m + 1, x0, k0 =>
    impl_World_asking_L0_0 m m (T.i 0) (((row1 x0).drop 3).getD 0 dflt) (T.i ((((row1 x0).drop 3).getD 0 dflt).rows.length : Int)) (T.i 0)
    (fun y2 => k0 y2)
noncomputable def impl_World_asking_f : Fs := ⟨48, [.rpt [.sc (.int .i64), .sc (.int .i64), .sc (.int .i64), .sl [.sc (.int .i64), .sl [.sc (.int .i64), .sc (.str), .sc (.str)], .sc (.int .i64), .sl [.sc (.int .i64)]], .sl [.sc (.int .i64), .sc (.bool)], .sc (.int .i64), .sl [.sc (.int .i64), .sl [.sc (.int .i64), .sc (.int .i64), .sl [.sc (.int .i64), .sc (.str), .sc (.str)]], .sc (.int .i64), .sl [.sc (.str), .sc (.str)], .sl [.sc (.int .i64), .sc (.int .i64), .sl [.sc (.int .i64), .sc (.str), .sc (.str)]]], .sl [.sc (.int .i64), .sc (.int .i64), .sc (.int .i64), .sl [.sc (.int .i64), .sc (.str), .sc (.str)], .sc (.bool)], .sl [.sc (.int .i64), .sc (.int .i64), .sc (.int .i64), .sl [.sc (.int .i64), .sc (.str), .sc (.str)], .sc (.bool)], .sl [.sc (.int .i64), .sl [.sc (.int .i64), .sc (.str), .sc (.str)]]] []], fun m vs k => ap 1 (impl_World_asking m) vs (lm 1 fun z => k (fRet ⟨[.one (RI)], [[]], [none]⟩ z))⟩
noncomputable def impl_World_asking_l : List Ls := [⟨[0, 1, 0, 1, 1], ⟨[(3, .one (LI)), (10, .one (LD [.sc (.int .i64), .sl [.sc (.int .i64), .sc (.str), .sc (.str)], .sc (.int .i64), .sl [.sc (.int .i64)]])), (11, .one (LI)), (12, .one (LI))], [([4000000], .gone)]⟩, fun m n vs k => ap 4 (impl_World_asking_L0_0 m n) vs (lm 1 fun z => k (.exit 0) (fPack ⟨[(3, .one (LI))], []⟩ z))⟩]
noncomputable def impl_World_asking_t : List Fs := impl_World_asking_f :: impl_World_holding_t
theorem impl_World_asking_g : FGood CX prims impl_World_asking_t ∧ FEqn CX prims impl_World_asking_f := fnG impl_World_holding_g.1 impl_World_asking_f Tryz.f48 ⟨48, 1, 23, 4⟩ impl_World_asking_l (fun _ _ => rfl) (fun _ _ _ => by kernel_rfl) ⟨fun _ _ _ => rfl, trivial⟩ ⟨fun _ _ _ _ _ _ => by kernel_rfl, trivial⟩ (fun _ _ _ _ _ => by kernel_rfl)

/-! loop.example/g00244/impl.Resting -/
noncomputable def impl_Resting : Nat → T → T → T → T → T → T → T → T → T → T → (T → An) → An
  | 0, _, _, _, _, _, _, _, _, _, _, _ => .bad
  | m + 1, x0, x1, x2, x3, x4, x5, x6, x7, x8, x9, k0 =>
    impl_World_holding m (T.l [[x0, x1, x2, (T.l x3.rows), (T.l x4.rows), x5, (T.l x6.rows), (T.l x7.rows), (T.l x8.rows), (T.l x9.rows)]])
    (fun y0 => cond ((y0.int == 0) == true)
    (impl_World_asking m (T.l [[x0, x1, x2, (T.l x3.rows), (T.l x4.rows), x5, (T.l x6.rows), (T.l x7.rows), (T.l x8.rows), (T.l x9.rows)]])
    (fun y1 => cond ((y1.int == 0) == true)
    (k0 (T.b (x5.int == (x4.rows.length : Int))))
    (k0 (T.b false))))
    (k0 (T.b false)))
noncomputable def impl_Resting_f : Fs := ⟨17, [.agg [AI, AI, AI, .dz [.sc (.int .i64), .sl [.sc (.int .i64), .sc (.str), .sc (.str)], .sc (.int .i64), .sl [.sc (.int .i64)]] [], .dz [.sc (.int .i64), .sc (.bool)] [], AI, .dz [.sc (.int .i64), .sl [.sc (.int .i64), .sc (.int .i64), .sl [.sc (.int .i64), .sc (.str), .sc (.str)]], .sc (.int .i64), .sl [.sc (.str), .sc (.str)], .sl [.sc (.int .i64), .sc (.int .i64), .sl [.sc (.int .i64), .sc (.str), .sc (.str)]]] [], .dz [.sc (.int .i64), .sc (.int .i64), .sc (.int .i64), .sl [.sc (.int .i64), .sc (.str), .sc (.str)], .sc (.bool)] [], .dz [.sc (.int .i64), .sc (.int .i64), .sc (.int .i64), .sl [.sc (.int .i64), .sc (.str), .sc (.str)], .sc (.bool)] [], .dz [.sc (.int .i64), .sl [.sc (.int .i64), .sc (.str), .sc (.str)]] []]], fun m vs k => ap 10 (impl_Resting m) vs (lm 1 fun z => k (fRet ⟨[.one (RB)], [[none, none, none, none, none, none, none, none, none, none]], [none]⟩ z))⟩
noncomputable def impl_Resting_t : List Fs := impl_Resting_f :: impl_World_asking_t
theorem impl_Resting_g : FGood CX prims impl_Resting_t ∧ FEqn CX prims impl_Resting_f := fnG impl_World_asking_g.1 impl_Resting_f Tryz.f17 ⟨17, 1, 19, 4⟩ [] (fun _ _ => rfl) (fun _ _ _ => by kernel_rfl) trivial trivial (fun _ _ _ _ _ => by kernel_rfl)

/-! loop.example/g00244/impl.UnionOf -/
noncomputable def impl_UnionOf_L0_0 (m : Nat) : Nat → T → T → T → T → (T → An) → An
  | 0, _, _, _, _, _ => .bad
  | n + 1, x0, x1, x2, x3, k0 =>
    cond (decide (x2.int < x1.int))
    (cond (decide ((0 : Int) ≤ x2.int ∧ x2.int < (x0.rows.length : Int)))
    (impl_putKey m (T.l x3.rows) ((x0.rows.getD (Int.toNat x2.int) []).getD 0 dflt) ((x0.rows.getD (Int.toNat x2.int) []).getD 1 dflt)
    (fun y1 => impl_UnionOf_L0_0 m n x0 x1 (T.i (IntKind.i64.wrap (x2.int + 1))) (T.l y1.rows) k0))
    (.bad))
    (k0 (T.l x3.rows))
noncomputable def impl_UnionOf : Nat → T → T → (T → An) → An
  | 0, _, _, _ => .bad
  | m + 1, x0, x1, k0 =>
    slices_Clone___impl_Pair_impl_Pair_ m (T.l x0.rows)
    (fun y0 => impl_UnionOf_L0_0 m m (T.l x1.rows) (T.i (x1.rows.length : Int)) (T.i 0) (T.l y0.rows)
    (fun y2 => k0 (T.l y2.rows)))
noncomputable def impl_UnionOf_f : Fs := ⟨49, [.one (.dz [.sc (.str), .sc (.str)] []), .one (.dz [.sc (.str), .sc (.str)] [])], fun m vs k => ap 2 (impl_UnionOf m) vs (lm 1 fun z => k (fRet ⟨[.one (.own (KR 0 0) [.sc (.str), .sc (.str)] [.F, .F] [])], [[none], [none]], [none, none]⟩ z))⟩
noncomputable def impl_UnionOf_l : List Ls := [⟨[0, 1, 0, 1, 1], ⟨[(5, .one (LA (KI 0) [.sc (.str), .sc (.str)])), (10, .one (LD [.sc (.str), .sc (.str)])), (11, .one (LI)), (12, .one (LI))], [((KI 0), .row [.sc (.str), .sc (.str)] [.F, .F] []), ([4000000], .gone)]⟩, fun m n vs k => ap 4 (impl_UnionOf_L0_0 m n) vs (lm 1 fun z => k (.exit 0) (fPack ⟨[(5, .one (LA (KI 0) [.sc (.str), .sc (.str)]))], [((KI 0), .row [.sc (.str), .sc (.str)] [.F, .F] [])]⟩ z))⟩]
noncomputable def impl_UnionOf_t : List Fs := impl_UnionOf_f :: impl_Resting_t
theorem impl_UnionOf_g : FGood CX prims impl_UnionOf_t ∧ FEqn CX prims impl_UnionOf_f := fnG impl_Resting_g.1 impl_UnionOf_f Tryz.f49 ⟨49, 2, 24, 16⟩ impl_UnionOf_l (fun _ _ => rfl) (fun _ _ _ => by kernel_rfl) ⟨fun _ _ _ => rfl, trivial⟩ ⟨fun _ _ _ _ _ _ => by kernel_rfl, trivial⟩ (fun _ _ _ _ _ => by kernel_rfl)

/-! loop.example/g00244/impl.Tables -/
noncomputable def impl_Tables_L0_0 (m : Nat) : Nat → T → T → T → T → (T → An) → An
  | 0, _, _, _, _, _ => .bad
  | n + 1, x0, x1, x2, x3, k0 =>
    cond (decide (x2.int < x1.int))
    (cond (decide ((0 : Int) ≤ x2.int ∧ x2.int < (x0.rows.length : Int)))
    (impl_UnionOf m (T.l x3.rows) (T.l ((x0.rows.getD (Int.toNat x2.int) []).getD 3 dflt).rows)
    (fun y0 => impl_Tables_L0_0 m n x0 x1 (T.i (IntKind.i64.wrap (x2.int + 1))) (T.l y0.rows) k0))
    (.bad))
    (k0 (T.l x3.rows))
noncomputable def impl_Tables : Nat → T → T → T → T → T → T → T → T → T → T → (T → An) → An
  | 0, _, _, _, _, _, _, _, _, _, _, _ => .bad
  | m + 1, x0, x1, x2, x3, x4, x5, x6, x7, x8, x9, k0 =>
    impl_Tables_L0_0 m m (T.l x6.rows) (T.i (x6.rows.length : Int)) (T.i 0) (T.l [])
    (fun y1 => k0 (T.l y1.rows))
noncomputable def impl_Tables_f : Fs := ⟨18, [.agg [AI, AI, AI, .dz [.sc (.int .i64), .sl [.sc (.int .i64), .sc (.str), .sc (.str)], .sc (.int .i64), .sl [.sc (.int .i64)]] [], .dz [.sc (.int .i64), .sc (.bool)] [], AI, .dz [.sc (.int .i64), .sl [.sc (.int .i64), .sc (.int .i64), .sl [.sc (.int .i64), .sc (.str), .sc (.str)]], .sc (.int .i64), .sl [.sc (.str), .sc (.str)], .sl [.sc (.int .i64), .sc (.int .i64), .sl [.sc (.int .i64), .sc (.str), .sc (.str)]]] [], .dz [.sc (.int .i64), .sc (.int .i64), .sc (.int .i64), .sl [.sc (.int .i64), .sc (.str), .sc (.str)], .sc (.bool)] [], .dz [.sc (.int .i64), .sc (.int .i64), .sc (.int .i64), .sl [.sc (.int .i64), .sc (.str), .sc (.str)], .sc (.bool)] [], .dz [.sc (.int .i64), .sl [.sc (.int .i64), .sc (.str), .sc (.str)]] []]], fun m vs k => ap 10 (impl_Tables m) vs (lm 1 fun z => k (fRet ⟨[.one (.own (KR 0 0) [.sc (.str), .sc (.str)] [.F, .F] [])], [[none, none, none, none, none, none, none, none, none, none]], [none]⟩ z))⟩
noncomputable def impl_Tables_l : List Ls := [⟨[0, 1, 0, 1, 1], ⟨[(3, .one (LA (KI 0) [.sc (.str), .sc (.str)])), (7, .one (LD [.sc (.int .i64), .sl [.sc (.int .i64), .sc (.int .i64), .sl [.sc (.int .i64), .sc (.str), .sc (.str)]], .sc (.int .i64), .sl [.sc (.str), .sc (.str)], .sl [.sc (.int .i64), .sc (.int .i64), .sl [.sc (.int .i64), .sc (.str), .sc (.str)]]])), (8, .one (LI)), (9, .one (LI))], [((KI 0), .row [.sc (.str), .sc (.str)] [.F, .F] []), ([4000000], .gone)]⟩, fun m n vs k => ap 4 (impl_Tables_L0_0 m n) vs (lm 1 fun z => k (.exit 0) (fPack ⟨[(3, .one (LA (KI 0) [.sc (.str), .sc (.str)]))], [((KI 0), .row [.sc (.str), .sc (.str)] [.F, .F] [])]⟩ z))⟩]
noncomputable def impl_Tables_t : List Fs := impl_Tables_f :: impl_UnionOf_t
theorem impl_Tables_g : FGood CX prims impl_Tables_t ∧ FEqn CX prims impl_Tables_f := fnG impl_UnionOf_g.1 impl_Tables_f Tryz.f18 ⟨18, 1, 19, 4⟩ impl_Tables_l (fun _ _ => rfl) (fun _ _ _ => by kernel_rfl) ⟨fun _ _ _ => rfl, trivial⟩ ⟨fun _ _ _ _ _ _ => by kernel_rfl, trivial⟩ (fun _ _ _ _ _ => by kernel_rfl)

/-! loop.example/g00244/impl.Model -/
noncomputable def impl_Model_L1_0 (m : Nat) : Nat → T → T → T → T → T → T → T → T → T → T → T → T → T → T → T → T → T → T → T → T → T → (T → T → T → T → T → T → T → T → T → T → T → T → T → T → T → An) → An
  | 0, _, _, _, _, _, _, _, _, _, _, _, _, _, _, _, _, _, _, _, _, _, _ => .bad
  | n + 1, x0, x1, x2, x3, x4, x5, x6, x7, x8, x9, x10, x11, x12, x13, x14, x15, x16, x17, x18, x19, x20, k0 =>
    cond (decide (x7.int < x6.int))
    ((fun (j8 : T → An) =>
    cond (decide ((0 : Int) ≤ x7.int ∧ x7.int < (x5.rows.length : Int)))
    (cond (((x5.rows.getD (Int.toNat x7.int) []).getD 0 dflt).int == x19.int)
    (impl_Apply m (T.l x18.rows) (T.l ((x5.rows.getD (Int.toNat x7.int) []).getD 1 dflt).rows)
    (fun y5 => j8 (T.l y5.rows)))
    (j8 (T.l x18.rows)))
    (.bad))
    (fun y7 => impl_Model_L1_0 m n (T.i (x0.int.toNat : Int)) (T.i (x1.int.toNat : Int)) x2 x3 x4 x5 x6 (T.i (IntKind.i64.wrap (x7.int + 1))) x8 x9 x10 x11 x12 x13 x14 x15 x16 x17 (T.l y7.rows) x19 x20 k0))
    (k0 (T.i (x0.int.toNat : Int)) x2 x3 x4 x8 x9 x10 x11 x12 x13 x14 x15 x16 x17 (T.l x18.rows))
noncomputable def impl_Model_L0_0 (m : Nat) : Nat → T → T → T → T → T → T → T → T → T → T → T → T → T → T → T → (T → An) → An
  | 0, _, _, _, _, _, _, _, _, _, _, _, _, _, _, _, _ => .bad
  | n + 1, x0, x1, x2, x3, x4, x5, x6, x7, x8, x9, x10, x11, x12, x13, x14, k0 =>
    cond (decide (x3.int < x2.int))
    ((fun (j55 : T → T → T → T → T → T → T → T → T → T → T → T → T → T → T → An) =>
    cond (decide ((0 : Int) ≤ x3.int ∧ x3.int < (x1.rows.length : Int)))
    (jn (fun (j24 : T → T → An) =>
    cond ((!((x1.rows.getD (Int.toNat x3.int) []).getD 1 dflt).bool) == false)
    (cond (decide (x3.int ≥ x9.int))
    (j55 (T.i (x0.int.toNat : Int)) x1 x2 x3 x4 x5 x6 x7 x8 x9 x10 x11 x12 x13 (T.l x14.rows))
    (j24 ((x1.rows.getD (Int.toNat x3.int) []).getD 0 dflt) ((x1.rows.getD (Int.toNat x3.int) []).getD 1 dflt)))
    (j55 (T.i (x0.int.toNat : Int)) x1 x2 x3 x4 x5 x6 x7 x8 x9 x10 x11 x12 x13 (T.l x14.rows)))
    (fun y3 y4 => impl_Model_L1_0 m n (T.i (x0.int.toNat : Int)) (T.i 0) x1 x2 x3 x13 (T.i (x13.rows.length : Int)) (T.i 0) x4 x5 x6 x7 x8 x9 x10 x11 x12 x13 (T.l x14.rows) y3 y4
    (fun y9 y10 y11 y12 y13 y14 y15 y16 y17 y18 y19 y20 y21 y22 y23 => j55 (T.i (y9.int.toNat : Int)) y10 y11 y12 y13 y14 y15 y16 y17 y18 y19 y20 y21 y22 (T.l y23.rows))))
    (.bad))
    (fun y40 y41 y42 y43 y44 y45 y46 y47 y48 y49 y50 y51 y52 y53 y54 => impl_Model_L0_0 m n (T.i (y40.int.toNat : Int)) y41 y42 (T.i (IntKind.i64.wrap (y43.int + 1))) y44 y45 y46 y47 y48 y49 y50 y51 y52 y53 (T.l y54.rows) k0))
    (k0 (T.l x14.rows))
noncomputable def impl_Model : Nat → T → T → T → T → T → T → T → T → T → T → (T → An) → An
  | 0, _, _, _, _, _, _, _, _, _, _, _ => .bad
  | m + 1, x0, x1, x2, x3, x4, x5, x6, x7, x8, x9, k0 =>
    impl_Model_L0_0 m m (T.i 0) (T.l x4.rows) (T.i (x4.rows.length : Int)) (T.i 0) x0 x1 x2 (T.l x3.rows) (T.l x4.rows) x5 (T.l x6.rows) (T.l x7.rows) (T.l x8.rows) (T.l x9.rows) (T.l [])
    (fun y56 => k0 (T.l y56.rows))
noncomputable def impl_Model_f : Fs := ⟨19, [.agg [AI, AI, AI, .dz [.sc (.int .i64), .sl [.sc (.int .i64), .sc (.str), .sc (.str)], .sc (.int .i64), .sl [.sc (.int .i64)]] [], .dz [.sc (.int .i64), .sc (.bool)] [], AI, .dz [.sc (.int .i64), .sl [.sc (.int .i64), .sc (.int .i64), .sl [.sc (.int .i64), .sc (.str), .sc (.str)]], .sc (.int .i64), .sl [.sc (.str), .sc (.str)], .sl [.sc (.int .i64), .sc (.int .i64), .sl [.sc (.int .i64), .sc (.str), .sc (.str)]]] [], .dz [.sc (.int .i64), .sc (.int .i64), .sc (.int .i64), .sl [.sc (.int .i64), .sc (.str), .sc (.str)], .sc (.bool)] [], .dz [.sc (.int .i64), .sc (.int .i64), .sc (.int .i64), .sl [.sc (.int .i64), .sc (.str), .sc (.str)], .sc (.bool)] [], .dz [.sc (.int .i64), .sl [.sc (.int .i64), .sc (.str), .sc (.str)]] []]], fun m vs k => ap 10 (impl_Model m) vs (lm 1 fun z => k (fRet ⟨[.one (.own (KR 0 0) [.sc (.str), .sc (.str)] [.F, .F] [])], [[none, none, none, none, none, none, none, none, none, none]], [none]⟩ z))⟩
noncomputable def impl_Model_l : List Ls := [⟨[0, 1, 1, 1, 0, 0, 1, 1, 0, 0, 1, 0, 1, 1], ⟨[(1, EP 0), (3, .one (LA (KI 1) [.sc (.str), .sc (.str)])), (5, EP 2), (10, .one (LD [.sc (.int .i64), .sc (.bool)])), (11, .one (LI)), (12, .one (LI)), (28, .one (LD [.sc (.int .i64), .sl [.sc (.int .i64), .sc (.str), .sc (.str)]])), (29, .one (LI)), (30, .one (LI))], [((KI 0), .box [LI, LI, LI, LD [.sc (.int .i64), .sl [.sc (.int .i64), .sc (.str), .sc (.str)], .sc (.int .i64), .sl [.sc (.int .i64)]], LD [.sc (.int .i64), .sc (.bool)], LI, LD [.sc (.int .i64), .sl [.sc (.int .i64), .sc (.int .i64), .sl [.sc (.int .i64), .sc (.str), .sc (.str)]], .sc (.int .i64), .sl [.sc (.str), .sc (.str)], .sl [.sc (.int .i64), .sc (.int .i64), .sl [.sc (.int .i64), .sc (.str), .sc (.str)]]], LD [.sc (.int .i64), .sc (.int .i64), .sc (.int .i64), .sl [.sc (.int .i64), .sc (.str), .sc (.str)], .sc (.bool)], LD [.sc (.int .i64), .sc (.int .i64), .sc (.int .i64), .sl [.sc (.int .i64), .sc (.str), .sc (.str)], .sc (.bool)], LD [.sc (.int .i64), .sl [.sc (.int .i64), .sc (.str), .sc (.str)]]]), ((KI 1), .row [.sc (.str), .sc (.str)] [.F, .F] []), ((KI 2), .box [LI, LB]), ([4000000], .gone)]⟩, fun m n vs k => ap 21 (impl_Model_L1_0 m n) vs (lm 15 fun z => k (.exit 2) (fPack ⟨[(1, EP 0), (3, .one (LA (KI 1) [.sc (.str), .sc (.str)])), (10, .one (LD [.sc (.int .i64), .sc (.bool)])), (11, .one (LI)), (12, .one (LI))], [((KI 0), .box [LI, LI, LI, LD [.sc (.int .i64), .sl [.sc (.int .i64), .sc (.str), .sc (.str)], .sc (.int .i64), .sl [.sc (.int .i64)]], LD [.sc (.int .i64), .sc (.bool)], LI, LD [.sc (.int .i64), .sl [.sc (.int .i64), .sc (.int .i64), .sl [.sc (.int .i64), .sc (.str), .sc (.str)]], .sc (.int .i64), .sl [.sc (.str), .sc (.str)], .sl [.sc (.int .i64), .sc (.int .i64), .sl [.sc (.int .i64), .sc (.str), .sc (.str)]]], LD [.sc (.int .i64), .sc (.int .i64), .sc (.int .i64), .sl [.sc (.int .i64), .sc (.str), .sc (.str)], .sc (.bool)], LD [.sc (.int .i64), .sc (.int .i64), .sc (.int .i64), .sl [.sc (.int .i64), .sc (.str), .sc (.str)], .sc (.bool)], LD [.sc (.int .i64), .sl [.sc (.int .i64), .sc (.str), .sc (.str)]]]), ((KI 1), .row [.sc (.str), .sc (.str)] [.F, .F] []), ([4000000], .gone)]⟩ z))⟩, ⟨[0, 1, 0, 1, 1], ⟨[(1, EP 0), (3, .one (LA (KI 1) [.sc (.str), .sc (.str)])), (10, .one (LD [.sc (.int .i64), .sc (.bool)])), (11, .one (LI)), (12, .one (LI))], [((KI 0), .box [LI, LI, LI, LD [.sc (.int .i64), .sl [.sc (.int .i64), .sc (.str), .sc (.str)], .sc (.int .i64), .sl [.sc (.int .i64)]], LD [.sc (.int .i64), .sc (.bool)], LI, LD [.sc (.int .i64), .sl [.sc (.int .i64), .sc (.int .i64), .sl [.sc (.int .i64), .sc (.str), .sc (.str)]], .sc (.int .i64), .sl [.sc (.str), .sc (.str)], .sl [.sc (.int .i64), .sc (.int .i64), .sl [.sc (.int .i64), .sc (.str), .sc (.str)]]], LD [.sc (.int .i64), .sc (.int .i64), .sc (.int .i64), .sl [.sc (.int .i64), .sc (.str), .sc (.str)], .sc (.bool)], LD [.sc (.int .i64), .sc (.int .i64), .sc (.int .i64), .sl [.sc (.int .i64), .sc (.str), .sc (.str)], .sc (.bool)], LD [.sc (.int .i64), .sl [.sc (.int .i64), .sc (.str), .sc (.str)]]]), ((KI 1), .row [.sc (.str), .sc (.str)] [.F, .F] []), ([4000000], .gone)]⟩, fun m n vs k => ap 15 (impl_Model_L0_0 m n) vs (lm 1 fun z => k (.exit 0) (fPack ⟨[(3, .one (LA (KI 0) [.sc (.str), .sc (.str)]))], [((KI 0), .row [.sc (.str), .sc (.str)] [.F, .F] [])]⟩ z))⟩]
noncomputable def impl_Model_t : List Fs := impl_Model_f :: impl_Tables_t
theorem impl_Model_g : FGood CX prims impl_Model_t ∧ FEqn CX prims impl_Model_f := fnG impl_Tables_g.1 impl_Model_f Tryz.f19 ⟨19, 1, 46, 4⟩ impl_Model_l (fun _ _ => rfl) (fun _ _ _ => by kernel_rfl) ⟨fun _ _ _ => rfl, fun _ _ _ => rfl, trivial⟩ ⟨fun _ _ _ _ _ _ => by kernel_rfl, fun _ _ _ _ _ _ => by kernel_rfl, trivial⟩ (fun _ _ _ _ _ => by kernel_rfl)

/-! loop.example/g00244/impl.Open -/
noncomputable def impl_Open : Nat → T → T → T → T → T → T → T → T → T → T → (T → An) → An
  | 0, _, _, _, _, _, _, _, _, _, _, _ => .bad
  | m + 1, x0, x1, x2, x3, x4, x5, x6, x7, x8, x9, k0 =>
    impl_World_holding m (T.l [[x0, x1, x2, (T.l x3.rows), (T.l x4.rows), x5, (T.l x6.rows), (T.l x7.rows), (T.l x8.rows), (T.l x9.rows)]])
    (fun y0 => impl_World_asking m (T.l [[x0, x1, x2, (T.l x3.rows), (T.l x4.rows), x5, (T.l x6.rows), (T.l x7.rows), (T.l x8.rows), (T.l x9.rows)]])
    (fun y1 => k0 (T.i (IntKind.i64.wrap (y0.int + y1.int)))))
noncomputable def impl_Open_f : Fs := ⟨20, [.agg [AI, AI, AI, .dz [.sc (.int .i64), .sl [.sc (.int .i64), .sc (.str), .sc (.str)], .sc (.int .i64), .sl [.sc (.int .i64)]] [], .dz [.sc (.int .i64), .sc (.bool)] [], AI, .dz [.sc (.int .i64), .sl [.sc (.int .i64), .sc (.int .i64), .sl [.sc (.int .i64), .sc (.str), .sc (.str)]], .sc (.int .i64), .sl [.sc (.str), .sc (.str)], .sl [.sc (.int .i64), .sc (.int .i64), .sl [.sc (.int .i64), .sc (.str), .sc (.str)]]] [], .dz [.sc (.int .i64), .sc (.int .i64), .sc (.int .i64), .sl [.sc (.int .i64), .sc (.str), .sc (.str)], .sc (.bool)] [], .dz [.sc (.int .i64), .sc (.int .i64), .sc (.int .i64), .sl [.sc (.int .i64), .sc (.str), .sc (.str)], .sc (.bool)] [], .dz [.sc (.int .i64), .sl [.sc (.int .i64), .sc (.str), .sc (.str)]] []]], fun m vs k => ap 10 (impl_Open m) vs (lm 1 fun z => k (fRet ⟨[.one (RI)], [[none, none, none, none, none, none, none, none, none, none]], [none]⟩ z))⟩
noncomputable def impl_Open_t : List Fs := impl_Open_f :: impl_Model_t
theorem impl_Open_g : FGood CX prims impl_Open_t ∧ FEqn CX prims impl_Open_f := fnG impl_Model_g.1 impl_Open_f Tryz.f20 ⟨20, 1, 6, 4⟩ [] (fun _ _ => rfl) (fun _ _ _ => by kernel_rfl) trivial trivial (fun _ _ _ _ _ => by kernel_rfl)

/-! loop.example/g00244/laws.FnNew -/
noncomputable def laws_FnNew : Nat → T → (T → An) → An
  | 0, _, _ => .bad
  | m + 1, x0, k0 =>
    laws_big m (T.l x0.rows)
    (fun y0 => cond y0.bool
    (k0 (T.b true))
    (spec_DrawWorldNew m (T.l x0.rows)
    (fun y1 => impl_WorldNew m y1
    (fun y2 y3 y4 y5 y6 y7 y8 y9 y10 y11 => spec_WorldNew m y1
    (fun y12 y13 y14 y15 y16 y17 y18 y19 y20 y21 => cond ((y8.rows.length : Int) != (y18.rows.length : Int))
    (k0 (T.b false))
    (cond ((y8.rows.length : Int) == 0)
    (impl_WorldOk m y2 y3 y4 (T.l y5.rows) (T.l y6.rows) y7 (T.l y8.rows) (T.l y9.rows) (T.l y10.rows) (T.l y11.rows)
    (fun y22 => k0 (T.b (!y22.bool))))
    (impl_WorldOk m y2 y3 y4 (T.l y5.rows) (T.l y6.rows) y7 (T.l y8.rows) (T.l y9.rows) (T.l y10.rows) (T.l y11.rows)
    (fun y23 => cond (y23.bool == true)
    (impl_Safe m y2 y3 y4 (T.l y5.rows) (T.l y6.rows) y7 (T.l y8.rows) (T.l y9.rows) (T.l y10.rows) (T.l y11.rows)
    (fun y24 => cond ((y24.int == 0) == true)
    (impl_Resting m y2 y3 y4 (T.l y5.rows) (T.l y6.rows) y7 (T.l y8.rows) (T.l y9.rows) (T.l y10.rows) (T.l y11.rows)
    (fun y25 => cond (y25.bool == true)
    (impl_Tables m y2 y3 y4 (T.l y5.rows) (T.l y6.rows) y7 (T.l y8.rows) (T.l y9.rows) (T.l y10.rows) (T.l y11.rows)
    (fun y26 => cond (((y26.rows.length : Int) == 0) == true)
    (impl_Model m y2 y3 y4 (T.l y5.rows) (T.l y6.rows) y7 (T.l y8.rows) (T.l y9.rows) (T.l y10.rows) (T.l y11.rows)
    (fun y27 => cond (((y27.rows.length : Int) == 0) == true)
    (impl_Open m y2 y3 y4 (T.l y5.rows) (T.l y6.rows) y7 (T.l y8.rows) (T.l y9.rows) (T.l y10.rows) (T.l y11.rows)
    (fun y28 => cond ((y28.int == 0) == true)
    (cond (((y8.rows.length : Int) == y1.int) == true)
    (impl_CoordNew m y1
    (fun y29 y30 y31 y32 y33 y34 => impl_CoordOk m y29 y30 y31 (T.l y32.rows) (T.l y33.rows) y34
    (fun y35 => k0 (T.b y35.bool))))
    (k0 (T.b false)))
    (k0 (T.b false))))
    (k0 (T.b false))))
    (k0 (T.b false))))
    (k0 (T.b false))))
    (k0 (T.b false))))
    (k0 (T.b false))))))))))
noncomputable def laws_FnNew_f : Fs := ⟨4, [.one (.fz [.sc (.int .u8)] [])], fun m vs k => ap 1 (laws_FnNew m) vs (lm 1 fun z => k (fRet ⟨[.one (RB)], [[none]], [none]⟩ z))⟩
noncomputable def laws_FnNew_t : List Fs := laws_FnNew_f :: impl_Open_t
theorem laws_FnNew_g : FGood CX prims laws_FnNew_t ∧ FEqn CX prims laws_FnNew_f := fnG impl_Open_g.1 laws_FnNew_f Tryz.f4 ⟨4, 1, 66, 4⟩ [] (fun _ _ => rfl) (fun _ _ _ => by kernel_rfl) trivial trivial (fun _ _ _ _ _ => by kernel_rfl)

end Go.Proofs.YtjjonejgbdbnjaaGreat

