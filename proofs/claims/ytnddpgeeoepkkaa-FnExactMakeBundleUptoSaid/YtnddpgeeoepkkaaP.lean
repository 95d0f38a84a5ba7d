/- A part of the proof: texts S8P: see the last part's opening words. -/
import Derived.Test.YtnddpgeeoepkkaaH
set_option linter.unusedVariables false
set_option linter.unusedSimpArgs false
set_option linter.unnecessarySimpa false
namespace Go.Proofs.Ytnddpgeeoepkkaa
open Go Go.E Go.Proofs
def slices_Clone___string_string_ : Nat → T → (T → An) → An
  | 0, _, _ => .bad
  | m + 1, x0, k0 => cond (decide (x0.rows.length * 1 ≤ maxRow)) (k0 (T.l x0.rows)) .bad
noncomputable def slices_Clone___string_string__a : List Arg := [.one (.dz [.sc (.str)] [])]
def slices_Clone___string_string__w (m : Nat) (vs : List T) (k : Ret → An) : An := slices_Clone___string_string_ m (vs.headD dflt) (fun z0 => k ⟨[.one (.own [7000000] [.sc (.str)] [.F] z0.rows)], [[none]], []⟩)
theorem slices_Clone___string_string__eq (m : Nat) : ∀ vs k, callK CX prims m 22 (fArgs slices_Clone___string_string__a vs) k = slices_Clone___string_string__w m vs k := by
  intro vs k
  cases m with
  | zero => rfl
  | succ m =>
    refine Eq.trans (b := ((primClone [.sc (.str)]) (fArgs slices_Clone___string_string__a vs)).bind k) (by kernel_rfl) ?_
    refine Eq.trans (b := (cond (decide ((vs.headD dflt).rows.length * 1 ≤ maxRow)) (R3.ok ⟨[.one (.own [7000000] [.sc (.str)] [.F] (vs.headD dflt).rows)], [[none]], []⟩) .bad).bind k) (by kernel_rfl) ?_
    rw [cond_bind]; rfl

noncomputable def slices_Clone___string_string__f : Fs := ⟨22, slices_Clone___string_string__a, slices_Clone___string_string__w⟩
noncomputable def slices_Clone___string_string__t : List Fs := slices_Clone___string_string__f :: []
theorem slices_Clone___string_string__g : FGood CX prims slices_Clone___string_string__t ∧ FEqn CX prims slices_Clone___string_string__f := ⟨good_cons good_nil (x := slices_Clone___string_string__f) slices_Clone___string_string__eq, slices_Clone___string_string__eq⟩
def impl_Digest_nil : Nat → T → (T → An) → An
  | 0, _, _ => .bad
  | m + 1, x0, k0 => cond x0.rows.isEmpty (k0 (.s (digestB []))) .bad
noncomputable def impl_Digest_nil_a : List Arg := [.one (.dz [] [])]
def impl_Digest_nil_w (m : Nat) (vs : List T) (k : Ret → An) : An := impl_Digest_nil m (vs.headD dflt) (fun z0 => k ⟨[.one (.sc .str z0)], [[none]], []⟩)
theorem impl_Digest_nil_eq (m : Nat) : ∀ vs k, callK CX prims m 60 (fArgs impl_Digest_nil_a vs) k = impl_Digest_nil_w m vs k := by
  intro vs k
  cases m with
  | zero => rfl
  | succ m =>
    refine Eq.trans (b := (primDigest (fArgs impl_Digest_nil_a vs)).bind k) (by kernel_rfl) ?_
    refine Eq.trans (b := (cond (vs.headD dflt).rows.isEmpty (R3.ok ⟨[.one (.sc .str (.s (digestB [])))], [[none]], []⟩) .bad).bind k) (by kernel_rfl) ?_
    rw [cond_bind]; rfl

noncomputable def impl_Digest_nil_f : Fs := ⟨60, impl_Digest_nil_a, impl_Digest_nil_w⟩
noncomputable def impl_Digest_nil_t : List Fs := impl_Digest_nil_f :: slices_Clone___string_string__t
theorem impl_Digest_nil_g : FGood CX prims impl_Digest_nil_t ∧ FEqn CX prims impl_Digest_nil_f := ⟨good_cons slices_Clone___string_string__g.1 (x := impl_Digest_nil_f) impl_Digest_nil_eq, impl_Digest_nil_eq⟩
def impl_Digest : Nat → T → (T → An) → An
  | 0, _, _ => .bad
  | m + 1, x0, k0 => cond (decide (x0.rows.length ≤ 1073741824)) (k0 (.s (digestB x0.rows))) .bad
noncomputable def impl_Digest_a : List Arg := [.one (.dz [.sc (.int .u8)] [])]
def impl_Digest_w (m : Nat) (vs : List T) (k : Ret → An) : An := impl_Digest m (vs.headD dflt) (fun z0 => k ⟨[.one (.sc .str z0)], [[none]], []⟩)
theorem impl_Digest_eq (m : Nat) : ∀ vs k, callK CX prims m 60 (fArgs impl_Digest_a vs) k = impl_Digest_w m vs k := by
  intro vs k
  cases m with
  | zero => rfl
  | succ m =>
    refine Eq.trans (b := (primDigest (fArgs impl_Digest_a vs)).bind k) (by kernel_rfl) ?_
    refine Eq.trans (b := (cond (decide ((vs.headD dflt).rows.length ≤ 1073741824)) (R3.ok ⟨[.one (.sc .str (.s (digestB (vs.headD dflt).rows)))], [[none]], []⟩) .bad).bind k) (by kernel_rfl) ?_
    rw [cond_bind]; rfl

noncomputable def impl_Digest_f : Fs := ⟨60, impl_Digest_a, impl_Digest_w⟩
noncomputable def impl_Digest_t : List Fs := impl_Digest_f :: impl_Digest_nil_t
theorem impl_Digest_g : FGood CX prims impl_Digest_t ∧ FEqn CX prims impl_Digest_f := ⟨good_cons impl_Digest_nil_g.1 (x := impl_Digest_f) impl_Digest_eq, impl_Digest_eq⟩
/-! loop.example/g00244/laws.szStringS -/
noncomputable def laws_szStringS_L0_0 (m : Nat) : Nat → T → T → T → (T → An) → (T → An) → An
  | 0, _, _, _, _, _ => .bad
  | n + 1, x0, x1, x2, k0, k1 =>
    cond (decide (x2.int < (x0.rows.length : Int)))
    (cond (decide ((0 : Int) ≤ x2.int ∧ x2.int < (x0.rows.length : Int)))
    (cond (decide ((IntKind.i64.wrap (x1.int - (((x0.rows.getD (Int.toNat x2.int) []).getD 0 dflt).str.size : Int))) < 0))
    (k0 (T.i (-1)))
    (laws_szStringS_L0_0 m n x0 (T.i (IntKind.i64.wrap (x1.int - (((x0.rows.getD (Int.toNat x2.int) []).getD 0 dflt).str.size : Int)))) (T.i (IntKind.i64.wrap (x2.int + 1))) k0 k1))
    (.bad))
    (k1 x1)
noncomputable def laws_szStringS : Nat → T → T → (T → An) → An
  | 0, _, _, _ => .bad
  | m + 1, x0, x1, k0 =>
    cond (decide ((IntKind.i64.wrap (x1.int - (x0.rows.length : Int))) < 0))
    (k0 (T.i (-1)))
    (laws_szStringS_L0_0 m m (T.l x0.rows) (T.i (IntKind.i64.wrap (x1.int - (x0.rows.length : Int)))) (T.i 0)
    (fun y0 => k0 y0)
    (fun y1 => k0 y1))
noncomputable def laws_szStringS_f : Fs := ⟨17, [.one (.dz [.sc (.str)] []), .one (AI)], fun m vs k => ap 2 (laws_szStringS m) vs (lm 1 fun z => k (fRet ⟨[.one (RI)], [[none], [none]], [none, none]⟩ z))⟩
noncomputable def laws_szStringS_l : List Ls := [⟨[0, 1, 0, 1, 1, 1], ⟨[(0, .one (LD [.sc (.str)])), (1, .one (LI)), (5, .one (LI))], [([4000000], .gone)]⟩, fun m n vs k => ap 3 (laws_szStringS_L0_0 m n) vs (lm 1 fun z => k .ret (fPack ⟨[(4, .one (LI))], []⟩ z)) (lm 1 fun z => k (.exit 0) (fPack ⟨[(1, .one (LI))], []⟩ z))⟩]
noncomputable def laws_szStringS_t : List Fs := laws_szStringS_f :: impl_Digest_t
theorem laws_szStringS_g : FGood CX prims laws_szStringS_t ∧ FEqn CX prims laws_szStringS_f := fnG impl_Digest_g.1 laws_szStringS_f Try.f17 ⟨17, 2, 28, 16⟩ laws_szStringS_l (fun _ _ => rfl) (fun _ _ _ => by kernel_rfl) ⟨fun _ _ _ => rfl, trivial⟩ ⟨fun _ _ _ _ _ _ => by kernel_rfl, trivial⟩ (fun _ _ _ _ _ => by kernel_rfl)

/-! loop.example/g00244/laws.szSeal -/
noncomputable def laws_szSeal : Nat → T → T → T → T → T → (T → An) → An
  | 0, _, _, _, _, _, _ => .bad
  | m + 1, x0, x1, x2, x3, x4, k0 =>
    cond (decide ((IntKind.i64.wrap (x4.int - (x1.str.size : Int))) < 0))
    (k0 (T.i (-1)))
    (cond (decide ((IntKind.i64.wrap ((IntKind.i64.wrap (x4.int - (x1.str.size : Int))) - (x2.str.size : Int))) < 0))
    (k0 (T.i (-1)))
    (laws_szStringS m (T.l x3.rows) (T.i (IntKind.i64.wrap ((IntKind.i64.wrap (x4.int - (x1.str.size : Int))) - (x2.str.size : Int))))
    (fun y0 => cond (decide (y0.int < 0))
    (k0 (T.i (-1)))
    (k0 y0))))
noncomputable def laws_szSeal_f : Fs := ⟨4, [.agg [AI, AS, AS, .dz [.sc (.str)] []], .one (AI)], fun m vs k => ap 5 (laws_szSeal m) vs (lm 1 fun z => k (fRet ⟨[.one (RI)], [[none, none, none, none], [none]], [none, none]⟩ z))⟩
noncomputable def laws_szSeal_t : List Fs := laws_szSeal_f :: laws_szStringS_t
theorem laws_szSeal_g : FGood CX prims laws_szSeal_t ∧ FEqn CX prims laws_szSeal_f := fnG laws_szStringS_g.1 laws_szSeal_f Try.f4 ⟨4, 2, 26, 16⟩ [] (fun _ _ => rfl) (fun _ _ _ => by kernel_rfl) trivial trivial (fun _ _ _ _ _ => by kernel_rfl)

/-! loop.example/g00244/laws.szPair -/
noncomputable def laws_szPair : Nat → T → T → T → (T → An) → An
  | 0, _, _, _, _ => .bad
  | m + 1, x0, x1, x2, k0 =>
    cond (decide ((IntKind.i64.wrap (x2.int - (x0.str.size : Int))) < 0))
    (k0 (T.i (-1)))
    (cond (decide ((IntKind.i64.wrap ((IntKind.i64.wrap (x2.int - (x0.str.size : Int))) - (x1.str.size : Int))) < 0))
    (k0 (T.i (-1)))
    (k0 (T.i (IntKind.i64.wrap ((IntKind.i64.wrap (x2.int - (x0.str.size : Int))) - (x1.str.size : Int))))))
noncomputable def laws_szPair_f : Fs := ⟨45, [.agg [AS, AS], .one (AI)], fun m vs k => ap 3 (laws_szPair m) vs (lm 1 fun z => k (fRet ⟨[.one (RI)], [[none, none], [none]], [none, none]⟩ z))⟩
noncomputable def laws_szPair_t : List Fs := laws_szPair_f :: laws_szSeal_t
theorem laws_szPair_g : FGood CX prims laws_szPair_t ∧ FEqn CX prims laws_szPair_f := fnG laws_szSeal_g.1 laws_szPair_f Try.f45 ⟨45, 2, 20, 16⟩ [] (fun _ _ => rfl) (fun _ _ _ => by kernel_rfl) trivial trivial (fun _ _ _ _ _ => by kernel_rfl)

/-! loop.example/g00244/laws.szPairS -/
noncomputable def laws_szPairS_L0_0 (m : Nat) : Nat → T → T → T → (T → An) → (T → An) → An
  | 0, _, _, _, _, _ => .bad
  | n + 1, x0, x1, x2, k0, k1 =>
    cond (decide (x2.int < (x0.rows.length : Int)))
    (cond (decide ((0 : Int) ≤ x2.int ∧ x2.int < (x0.rows.length : Int)))
    (laws_szPair m ((x0.rows.getD (Int.toNat x2.int) []).getD 0 dflt) ((x0.rows.getD (Int.toNat x2.int) []).getD 1 dflt) x1
    (fun y0 => cond (decide (y0.int < 0))
    (k0 (T.i (-1)))
    (laws_szPairS_L0_0 m n x0 y0 (T.i (IntKind.i64.wrap (x2.int + 1))) k0 k1)))
    (.bad))
    (k1 x1)
noncomputable def laws_szPairS : Nat → T → T → (T → An) → An
  | 0, _, _, _ => .bad
  | m + 1, x0, x1, k0 =>
    cond (decide ((IntKind.i64.wrap (x1.int - (x0.rows.length : Int))) < 0))
    (k0 (T.i (-1)))
    (laws_szPairS_L0_0 m m (T.l x0.rows) (T.i (IntKind.i64.wrap (x1.int - (x0.rows.length : Int)))) (T.i 0)
    (fun y1 => k0 y1)
    (fun y2 => k0 y2))
noncomputable def laws_szPairS_f : Fs := ⟨32, [.one (.dz [.sc (.str), .sc (.str)] []), .one (AI)], fun m vs k => ap 2 (laws_szPairS m) vs (lm 1 fun z => k (fRet ⟨[.one (RI)], [[none], [none]], [none, none]⟩ z))⟩
noncomputable def laws_szPairS_l : List Ls := [⟨[0, 1, 0, 1, 1, 1], ⟨[(0, .one (LD [.sc (.str), .sc (.str)])), (1, .one (LI)), (5, .one (LI))], [([4000000], .gone)]⟩, fun m n vs k => ap 3 (laws_szPairS_L0_0 m n) vs (lm 1 fun z => k .ret (fPack ⟨[(4, .one (LI))], []⟩ z)) (lm 1 fun z => k (.exit 0) (fPack ⟨[(1, .one (LI))], []⟩ z))⟩]
noncomputable def laws_szPairS_t : List Fs := laws_szPairS_f :: laws_szPair_t
theorem laws_szPairS_g : FGood CX prims laws_szPairS_t ∧ FEqn CX prims laws_szPairS_f := fnG laws_szPair_g.1 laws_szPairS_f Try.f32 ⟨32, 2, 27, 16⟩ laws_szPairS_l (fun _ _ => rfl) (fun _ _ _ => by kernel_rfl) ⟨fun _ _ _ => rfl, trivial⟩ ⟨fun _ _ _ _ _ _ => by kernel_rfl, trivial⟩ (fun _ _ _ _ _ => by kernel_rfl)

/-! loop.example/g00244/laws.szTable -/
noncomputable def laws_szTable : Nat → T → T → (T → An) → An
  | 0, _, _, _ => .bad
  | m + 1, x0, x1, k0 =>
    laws_szPairS m (T.l x0.rows) x1
    (fun y0 => cond (decide (y0.int < 0))
    (k0 (T.i (-1)))
    (k0 y0))
noncomputable def laws_szTable_f : Fs := ⟨18, [.agg [.dz [.sc (.str), .sc (.str)] []], .one (AI)], fun m vs k => ap 2 (laws_szTable m) vs (lm 1 fun z => k (fRet ⟨[.one (RI)], [[none], [none]], [none, none]⟩ z))⟩
noncomputable def laws_szTable_t : List Fs := laws_szTable_f :: laws_szPairS_t
theorem laws_szTable_g : FGood CX prims laws_szTable_t ∧ FEqn CX prims laws_szTable_f := fnG laws_szPairS_g.1 laws_szTable_f Try.f18 ⟨18, 2, 12, 16⟩ [] (fun _ _ => rfl) (fun _ _ _ => by kernel_rfl) trivial trivial (fun _ _ _ _ _ => by kernel_rfl)

/-! loop.example/g00244/laws.szTableS -/
noncomputable def laws_szTableS_L0_0 (m : Nat) : Nat → T → T → T → (T → An) → (T → An) → An
  | 0, _, _, _, _, _ => .bad
  | n + 1, x0, x1, x2, k0, k1 =>
    cond (decide (x2.int < (x0.rows.length : Int)))
    (cond (decide ((0 : Int) ≤ x2.int ∧ x2.int < (x0.rows.length : Int)))
    (laws_szTable m (T.l ((x0.rows.getD (Int.toNat x2.int) []).getD 0 dflt).rows) x1
    (fun y0 => cond (decide (y0.int < 0))
    (k0 (T.i (-1)))
    (laws_szTableS_L0_0 m n x0 y0 (T.i (IntKind.i64.wrap (x2.int + 1))) k0 k1)))
    (.bad))
    (k1 x1)
noncomputable def laws_szTableS : Nat → T → T → (T → An) → An
  | 0, _, _, _ => .bad
  | m + 1, x0, x1, k0 =>
    cond (decide ((IntKind.i64.wrap (x1.int - (x0.rows.length : Int))) < 0))
    (k0 (T.i (-1)))
    (laws_szTableS_L0_0 m m (T.l x0.rows) (T.i (IntKind.i64.wrap (x1.int - (x0.rows.length : Int)))) (T.i 0)
    (fun y1 => k0 y1)
    (fun y2 => k0 y2))
noncomputable def laws_szTableS_f : Fs := ⟨5, [.one (.dz [.sl [.sc (.str), .sc (.str)]] []), .one (AI)], fun m vs k => ap 2 (laws_szTableS m) vs (lm 1 fun z => k (fRet ⟨[.one (RI)], [[none], [none]], [none, none]⟩ z))⟩
noncomputable def laws_szTableS_l : List Ls := [⟨[0, 1, 0, 1, 1, 1], ⟨[(0, .one (LD [.sl [.sc (.str), .sc (.str)]])), (1, .one (LI)), (5, .one (LI))], [([4000000], .gone)]⟩, fun m n vs k => ap 3 (laws_szTableS_L0_0 m n) vs (lm 1 fun z => k .ret (fPack ⟨[(4, .one (LI))], []⟩ z)) (lm 1 fun z => k (.exit 0) (fPack ⟨[(1, .one (LI))], []⟩ z))⟩]
noncomputable def laws_szTableS_t : List Fs := laws_szTableS_f :: laws_szTable_t
theorem laws_szTableS_g : FGood CX prims laws_szTableS_t ∧ FEqn CX prims laws_szTableS_f := fnG laws_szTable_g.1 laws_szTableS_f Try.f5 ⟨5, 2, 27, 16⟩ laws_szTableS_l (fun _ _ => rfl) (fun _ _ _ => by kernel_rfl) ⟨fun _ _ _ => rfl, trivial⟩ ⟨fun _ _ _ _ _ _ => by kernel_rfl, trivial⟩ (fun _ _ _ _ _ => by kernel_rfl)

/-! loop.example/g00244/laws.toStringS -/
noncomputable def laws_toStringS_L0_0 (m : Nat) : Nat → T → T → T → (T → An) → An
  | 0, _, _, _, _ => .bad
  | n + 1, x0, x1, x2, k0 =>
    cond (decide (x1.int < (x0.rows.length : Int)))
    (cond (decide ((0 : Int) ≤ x1.int ∧ x1.int < (x0.rows.length : Int)))
    (cond (decide ((0 : Int) ≤ x1.int ∧ x1.int < (x2.rows.length : Int)))
    (cond (decide ((Int.toNat x1.int) < x2.rows.length))
    (laws_toStringS_L0_0 m n x0 (T.i (IntKind.i64.wrap (x1.int + 1))) (T.l (x2.rows.set (Int.toNat x1.int) ((x2.rows.getD (Int.toNat x1.int) []).set 0 ((x0.rows.getD (Int.toNat x1.int) []).getD 0 dflt)))) k0)
    (.bad))
    (.bad))
    (.bad))
    (k0 (T.l x2.rows))
noncomputable def laws_toStringS : Nat → T → (T → An) → An
  | 0, _, _ => .bad
  | m + 1, x0, k0 =>
    cond (decide (0 ≤ (x0.rows.length : Int) ∧ (x0.rows.length : Int) ≤ (x0.rows.length : Int)))
    (cond (decide ((x0.rows.length : Int) * ((16 : Nat) : Int) ≤ (maxCells : Int)))
    (laws_toStringS_L0_0 m m (T.l x0.rows) (T.i 0) (T.l (List.replicate (Int.toNat (x0.rows.length : Int)) [(T.s (⟨#[]⟩ : ByteArray))]))
    (fun y0 => k0 (T.l y0.rows)))
    (.bad))
    (.bad)
noncomputable def laws_toStringS_f : Fs := ⟨20, [.one (.dz [.sc (.str)] [])], fun m vs k => ap 1 (laws_toStringS m) vs (lm 1 fun z => k (fRet ⟨[.one (.own (KR 0 0) [.sc (.str)] [.F] [])], [[none]], [none]⟩ z))⟩
noncomputable def laws_toStringS_l : List Ls := [⟨[0, 1, 0, 1, 1], ⟨[(0, .one (LD [.sc (.str)])), (3, .one (LA (KI 1) [.sc (.str)])), (4, .one (LI))], [([4000000], .gone), ((KI 1), .row [.sc (.str)] [.F] [])]⟩, fun m n vs k => ap 3 (laws_toStringS_L0_0 m n) vs (lm 1 fun z => k (.exit 0) (fPack ⟨[(3, .one (LA (KI 0) [.sc (.str)]))], [((KI 0), .row [.sc (.str)] [.F] [])]⟩ z))⟩]
noncomputable def laws_toStringS_t : List Fs := laws_toStringS_f :: laws_szTableS_t
theorem laws_toStringS_g : FGood CX prims laws_toStringS_t ∧ FEqn CX prims laws_toStringS_f := fnG laws_szTableS_g.1 laws_toStringS_f Try.f20 ⟨20, 1, 22, 4⟩ laws_toStringS_l (fun _ _ => rfl) (fun _ _ _ => by kernel_rfl) ⟨fun _ _ _ => rfl, trivial⟩ ⟨fun _ _ _ _ _ _ => by kernel_rfl, trivial⟩ (fun _ _ _ _ _ => by kernel_rfl)

/-! loop.example/g00244/laws.toSeal -/
noncomputable def laws_toSeal : Nat → T → T → T → T → (T → T → T → T → An) → An
  | 0, _, _, _, _, _ => .bad
  | m + 1, x0, x1, x2, x3, k0 =>
    laws_toStringS m (T.l x3.rows)
    (fun y0 => k0 x0 x1 x2 (T.l y0.rows))
noncomputable def laws_toSeal_f : Fs := ⟨7, [.agg [AI, AS, AS, .dz [.sc (.str)] []]], fun m vs k => ap 4 (laws_toSeal m) vs (lm 4 fun z => k (fRet ⟨[.agg [RI, RS, RS, .own (KR 0 3) [.sc (.str)] [.F] []]], [[none, none, none, none]], [none]⟩ z))⟩
noncomputable def laws_toSeal_t : List Fs := laws_toSeal_f :: laws_toStringS_t
theorem laws_toSeal_g : FGood CX prims laws_toSeal_t ∧ FEqn CX prims laws_toSeal_f := fnG laws_toStringS_g.1 laws_toSeal_f Try.f7 ⟨7, 1, 18, 4⟩ [] (fun _ _ => rfl) (fun _ _ _ => by kernel_rfl) trivial trivial (fun _ _ _ _ _ => by kernel_rfl)

/-! loop.example/g00244/laws.toPair -/
noncomputable def laws_toPair : Nat → T → T → (T → T → An) → An
  | 0, _, _, _ => .bad
  | m + 1, x0, x1, k0 =>
    k0 x0 x1
noncomputable def laws_toPair_f : Fs := ⟨49, [.agg [AS, AS]], fun m vs k => ap 2 (laws_toPair m) vs (lm 2 fun z => k (fRet ⟨[.agg [RS, RS]], [[none, none]], [none]⟩ z))⟩
noncomputable def laws_toPair_t : List Fs := laws_toPair_f :: laws_toSeal_t
theorem laws_toPair_g : FGood CX prims laws_toPair_t ∧ FEqn CX prims laws_toPair_f := fnG laws_toSeal_g.1 laws_toPair_f Try.f49 ⟨49, 1, 11, 4⟩ [] (fun _ _ => rfl) (fun _ _ _ => by kernel_rfl) trivial trivial (fun _ _ _ _ _ => by kernel_rfl)

/-! loop.example/g00244/laws.toPairS -/
noncomputable def laws_toPairS_L0_0 (m : Nat) : Nat → T → T → T → (T → An) → An
  | 0, _, _, _, _ => .bad
  | n + 1, x0, x1, x2, k0 =>
    cond (decide (x1.int < (x0.rows.length : Int)))
    (cond (decide ((0 : Int) ≤ x1.int ∧ x1.int < (x0.rows.length : Int)))
    (laws_toPair m ((x0.rows.getD (Int.toNat x1.int) []).getD 0 dflt) ((x0.rows.getD (Int.toNat x1.int) []).getD 1 dflt)
    (fun y0 y1 => cond (decide ((0 : Int) ≤ x1.int ∧ x1.int < (x2.rows.length : Int)))
    (cond (decide ((Int.toNat x1.int) < x2.rows.length))
    (laws_toPairS_L0_0 m n x0 (T.i (IntKind.i64.wrap (x1.int + 1))) (T.l (x2.rows.set (Int.toNat x1.int) (((x2.rows.getD (Int.toNat x1.int) []).set 0 y0).set 1 y1))) k0)
    (.bad))
    (.bad)))
    (.bad))
    (k0 (T.l x2.rows))
noncomputable def laws_toPairS : Nat → T → (T → An) → An
  | 0, _, _ => .bad
  | m + 1, x0, k0 =>
    cond (decide (0 ≤ (x0.rows.length : Int) ∧ (x0.rows.length : Int) ≤ (x0.rows.length : Int)))
    (cond (decide ((x0.rows.length : Int) * ((32 : Nat) : Int) ≤ (maxCells : Int)))
    (laws_toPairS_L0_0 m m (T.l x0.rows) (T.i 0) (T.l (List.replicate (Int.toNat (x0.rows.length : Int)) [(T.s (⟨#[]⟩ : ByteArray)), (T.s (⟨#[]⟩ : ByteArray))]))
    (fun y2 => k0 (T.l y2.rows)))
    (.bad))
    (.bad)
noncomputable def laws_toPairS_f : Fs := ⟨36, [.one (.dz [.sc (.str), .sc (.str)] [])], fun m vs k => ap 1 (laws_toPairS m) vs (lm 1 fun z => k (fRet ⟨[.one (.own (KR 0 0) [.sc (.str), .sc (.str)] [.F, .F] [])], [[none]], [none]⟩ z))⟩
noncomputable def laws_toPairS_l : List Ls := [⟨[0, 1, 0, 1, 1], ⟨[(0, .one (LD [.sc (.str), .sc (.str)])), (3, .one (LA (KI 1) [.sc (.str), .sc (.str)])), (4, .one (LI))], [([4000000], .gone), ((KI 1), .row [.sc (.str), .sc (.str)] [.F, .F] [])]⟩, fun m n vs k => ap 3 (laws_toPairS_L0_0 m n) vs (lm 1 fun z => k (.exit 0) (fPack ⟨[(3, .one (LA (KI 0) [.sc (.str), .sc (.str)]))], [((KI 0), .row [.sc (.str), .sc (.str)] [.F, .F] [])]⟩ z))⟩]
noncomputable def laws_toPairS_t : List Fs := laws_toPairS_f :: laws_toPair_t
theorem laws_toPairS_g : FGood CX prims laws_toPairS_t ∧ FEqn CX prims laws_toPairS_f := fnG laws_toPair_g.1 laws_toPairS_f Try.f36 ⟨36, 1, 23, 4⟩ laws_toPairS_l (fun _ _ => rfl) (fun _ _ _ => by kernel_rfl) ⟨fun _ _ _ => rfl, trivial⟩ ⟨fun _ _ _ _ _ _ => by kernel_rfl, trivial⟩ (fun _ _ _ _ _ => by kernel_rfl)

/-! loop.example/g00244/laws.toTable -/
noncomputable def laws_toTable : Nat → T → (T → An) → An
  | 0, _, _ => .bad
  | m + 1, x0, k0 =>
    laws_toPairS m (T.l x0.rows)
    (fun y0 => k0 (T.l y0.rows))
noncomputable def laws_toTable_f : Fs := ⟨21, [.agg [.dz [.sc (.str), .sc (.str)] []]], fun m vs k => ap 1 (laws_toTable m) vs (lm 1 fun z => k (fRet ⟨[.agg [.own (KR 0 0) [.sc (.str), .sc (.str)] [.F, .F] []]], [[none]], [none]⟩ z))⟩
noncomputable def laws_toTable_t : List Fs := laws_toTable_f :: laws_toPairS_t
theorem laws_toTable_g : FGood CX prims laws_toTable_t ∧ FEqn CX prims laws_toTable_f := fnG laws_toPairS_g.1 laws_toTable_f Try.f21 ⟨21, 1, 9, 4⟩ [] (fun _ _ => rfl) (fun _ _ _ => by kernel_rfl) trivial trivial (fun _ _ _ _ _ => by kernel_rfl)

/-! loop.example/g00244/laws.toTableS -/
noncomputable def laws_toTableS_L0_0 (m : Nat) : Nat → T → T → T → (T → An) → An
  | 0, _, _, _, _ => .bad
  | n + 1, x0, x1, x2, k0 =>
    cond (decide (x1.int < (x0.rows.length : Int)))
    (cond (decide ((0 : Int) ≤ x1.int ∧ x1.int < (x0.rows.length : Int)))
    (laws_toTable m (T.l ((x0.rows.getD (Int.toNat x1.int) []).getD 0 dflt).rows)
    (fun y0 => cond (decide ((0 : Int) ≤ x1.int ∧ x1.int < (x2.rows.length : Int)))
    (cond (decide ((Int.toNat x1.int) < x2.rows.length))
    (laws_toTableS_L0_0 m n x0 (T.i (IntKind.i64.wrap (x1.int + 1))) (T.l (x2.rows.set (Int.toNat x1.int) ((x2.rows.getD (Int.toNat x1.int) []).set 0 (T.l y0.rows)))) k0)
    (.bad))
    (.bad)))
    (.bad))
    (k0 (T.l x2.rows))
noncomputable def laws_toTableS : Nat → T → (T → An) → An
  | 0, _, _ => .bad
  | m + 1, x0, k0 =>
    cond (decide (0 ≤ (x0.rows.length : Int) ∧ (x0.rows.length : Int) ≤ (x0.rows.length : Int)))
    (cond (decide ((x0.rows.length : Int) * ((24 : Nat) : Int) ≤ (maxCells : Int)))
    (laws_toTableS_L0_0 m m (T.l x0.rows) (T.i 0) (T.l (List.replicate (Int.toNat (x0.rows.length : Int)) [(T.l [])]))
    (fun y1 => k0 (T.l y1.rows)))
    (.bad))
    (.bad)
noncomputable def laws_toTableS_f : Fs := ⟨8, [.one (.dz [.sl [.sc (.str), .sc (.str)]] [])], fun m vs k => ap 1 (laws_toTableS m) vs (lm 1 fun z => k (fRet ⟨[.one (.own (KR 0 0) [.sl [.sc (.str), .sc (.str)]] [.O [.F, .F]] [])], [[none]], [none]⟩ z))⟩
noncomputable def laws_toTableS_l : List Ls := [⟨[0, 1, 0, 1, 1], ⟨[(0, .one (LD [.sl [.sc (.str), .sc (.str)]])), (3, .one (LA (KI 1) [.sl [.sc (.str), .sc (.str)]])), (4, .one (LI))], [([4000000], .gone), ((KI 1), .row [.sl [.sc (.str), .sc (.str)]] [.O [.F, .F]] [])]⟩, fun m n vs k => ap 3 (laws_toTableS_L0_0 m n) vs (lm 1 fun z => k (.exit 0) (fPack ⟨[(3, .one (LA (KI 0) [.sl [.sc (.str), .sc (.str)]]))], [((KI 0), .row [.sl [.sc (.str), .sc (.str)]] [.O [.F, .F]] [])]⟩ z))⟩]
noncomputable def laws_toTableS_t : List Fs := laws_toTableS_f :: laws_toTable_t
theorem laws_toTableS_g : FGood CX prims laws_toTableS_t ∧ FEqn CX prims laws_toTableS_f := fnG laws_toTable_g.1 laws_toTableS_f Try.f8 ⟨8, 1, 23, 4⟩ laws_toTableS_l (fun _ _ => rfl) (fun _ _ _ => by kernel_rfl) ⟨fun _ _ _ => rfl, trivial⟩ ⟨fun _ _ _ _ _ _ => by kernel_rfl, trivial⟩ (fun _ _ _ _ _ => by kernel_rfl)

/-! loop.example/g00244/spec.l1In -/
noncomputable def spec_l1In : Nat → T → T → T → (T → An) → An
  | 0, _, _, _, _ => .bad
  | m + 1, x0, x1, x2, k0 =>
    cond ((decide (x0.int ≥ x1.int)) == true)
    (k0 (T.b (decide (x0.int ≤ x2.int))))
    (k0 (T.b false))
noncomputable def spec_l1In_f : Fs := ⟨64, [.one (AI), .one (AI), .one (AI)], fun m vs k => ap 3 (spec_l1In m) vs (lm 1 fun z => k (fRet ⟨[.one (RB)], [[none], [none], [none]], [none, none, none]⟩ z))⟩
noncomputable def spec_l1In_t : List Fs := spec_l1In_f :: laws_toTableS_t
theorem spec_l1In_g : FGood CX prims spec_l1In_t ∧ FEqn CX prims spec_l1In_f := fnG laws_toTableS_g.1 spec_l1In_f Try.f64 ⟨64, 3, 15, 64⟩ [] (fun _ _ => rfl) (fun _ _ _ => by kernel_rfl) trivial trivial (fun _ _ _ _ _ => by kernel_rfl)

/-! loop.example/g00244/spec.KeyOk -/
noncomputable def spec_KeyOk_L0_0 (m : Nat) : Nat → T → T → (T → An) → (T → An) → An
  | 0, _, _, _, _ => .bad
  | n + 1, x0, x1, k0, k1 =>
    cond (decide (x1.int < (x0.str.size : Int)))
    (cond (decide ((0 : Int) ≤ x1.int ∧ x1.int < (x0.str.size : Int)))
    (spec_l1In m (T.i (IntKind.i64.wrap ((x0.str.data.toList.getD (Int.toNat x1.int) 0).toNat : Int))) (T.i 97) (T.i 122)
    (fun y0 => cond ((!y0.bool) == true)
    (cond (decide ((0 : Int) ≤ x1.int ∧ x1.int < (x0.str.size : Int)))
    (spec_l1In m (T.i (IntKind.i64.wrap ((x0.str.data.toList.getD (Int.toNat x1.int) 0).toNat : Int))) (T.i 48) (T.i 57)
    (fun y1 => cond (!y1.bool)
    (k0 (T.b false))
    (spec_KeyOk_L0_0 m n x0 (T.i (IntKind.i64.wrap (x1.int + 1))) k0 k1)))
    (.bad))
    (spec_KeyOk_L0_0 m n x0 (T.i (IntKind.i64.wrap (x1.int + 1))) k0 k1)))
    (.bad))
    (k1 x0)
noncomputable def spec_KeyOk : Nat → T → (T → An) → An
  | 0, _, _ => .bad
  | m + 1, x0, k0 =>
    spec_KeyOk_L0_0 m m x0 (T.i 0)
    (fun y3 => k0 y3)
    (fun y4 => spec_l1In m (T.i (y4.str.size : Int)) (T.i 1) (T.i 12)
    (fun y5 => k0 y5))
noncomputable def spec_KeyOk_f : Fs := ⟨55, [.one (AS)], fun m vs k => ap 1 (spec_KeyOk m) vs (lm 1 fun z => k (fRet ⟨[.one (RB)], [[none]], [none]⟩ z))⟩
noncomputable def spec_KeyOk_l : List Ls := [⟨[0, 1, 0, 1], ⟨[(0, .one (LS)), (3, .one (LI))], []⟩, fun m n vs k => ap 2 (spec_KeyOk_L0_0 m n) vs (lm 1 fun z => k .ret (fPack ⟨[(2, .one (LB))], []⟩ z)) (lm 1 fun z => k (.exit 0) (fPack ⟨[(0, .one (LS))], []⟩ z))⟩]
noncomputable def spec_KeyOk_t : List Fs := spec_KeyOk_f :: spec_l1In_t
theorem spec_KeyOk_g : FGood CX prims spec_KeyOk_t ∧ FEqn CX prims spec_KeyOk_f := fnG spec_l1In_g.1 spec_KeyOk_f Try.f55 ⟨55, 1, 27, 4⟩ spec_KeyOk_l (fun _ _ => rfl) (fun _ _ _ => by kernel_rfl) ⟨fun _ _ _ => rfl, trivial⟩ ⟨fun _ _ _ _ _ _ => by kernel_rfl, trivial⟩ (fun _ _ _ _ _ => by kernel_rfl)

/-! loop.example/g00244/spec.PairOk -/
noncomputable def spec_PairOk : Nat → T → T → (T → An) → An
  | 0, _, _, _ => .bad
  | m + 1, x0, x1, k0 =>
    spec_KeyOk m x0
    (fun y0 => cond (y0.bool == true)
    (k0 (T.b (decide ((x1.str.size : Int) ≤ 20))))
    (k0 (T.b false)))
noncomputable def spec_PairOk_f : Fs := ⟨46, [.agg [AS, AS]], fun m vs k => ap 2 (spec_PairOk m) vs (lm 1 fun z => k (fRet ⟨[.one (RB)], [[none, none]], [none]⟩ z))⟩
noncomputable def spec_PairOk_t : List Fs := spec_PairOk_f :: spec_KeyOk_t
theorem spec_PairOk_g : FGood CX prims spec_PairOk_t ∧ FEqn CX prims spec_PairOk_f := fnG spec_KeyOk_g.1 spec_PairOk_f Try.f46 ⟨46, 1, 12, 4⟩ [] (fun _ _ => rfl) (fun _ _ _ => by kernel_rfl) trivial trivial (fun _ _ _ _ _ => by kernel_rfl)

/-! loop.example/g00244/spec.PairsOk -/
noncomputable def spec_PairsOk_L0_0 (m : Nat) : Nat → T → T → (T → An) → (T → An) → An
  | 0, _, _, _, _ => .bad
  | n + 1, x0, x1, k0, k1 =>
    cond (decide (x1.int < (x0.rows.length : Int)))
    (cond (decide ((0 : Int) ≤ x1.int ∧ x1.int < (x0.rows.length : Int)))
    (spec_PairOk m ((x0.rows.getD (Int.toNat x1.int) []).getD 0 dflt) ((x0.rows.getD (Int.toNat x1.int) []).getD 1 dflt)
    (fun y0 => cond ((!y0.bool) == false)
    (cond ((decide (x1.int > 0)) == true)
    (cond (decide ((0 : Int) ≤ (IntKind.i64.wrap (x1.int - 1)) ∧ (IntKind.i64.wrap (x1.int - 1)) < (x0.rows.length : Int)))
    (cond (decide ((0 : Int) ≤ x1.int ∧ x1.int < (x0.rows.length : Int)))
    (cond (!(Op.bytesLess ((x0.rows.getD (Int.toNat (IntKind.i64.wrap (x1.int - 1))) []).getD 0 dflt).str.toList ((x0.rows.getD (Int.toNat x1.int) []).getD 0 dflt).str.toList))
    (k0 (T.b false))
    (spec_PairsOk_L0_0 m n x0 (T.i (IntKind.i64.wrap (x1.int + 1))) k0 k1))
    (.bad))
    (.bad))
    (spec_PairsOk_L0_0 m n x0 (T.i (IntKind.i64.wrap (x1.int + 1))) k0 k1))
    (k0 (T.b false))))
    (.bad))
    (k1 x0)
noncomputable def spec_PairsOk : Nat → T → (T → An) → An
  | 0, _, _ => .bad
  | m + 1, x0, k0 =>
    spec_PairsOk_L0_0 m m (T.l x0.rows) (T.i 0)
    (fun y2 => k0 y2)
    (fun y3 => k0 (T.b (decide ((y3.rows.length : Int) ≤ 60))))
noncomputable def spec_PairsOk_f : Fs := ⟨33, [.one (.dz [.sc (.str), .sc (.str)] [])], fun m vs k => ap 1 (spec_PairsOk m) vs (lm 1 fun z => k (fRet ⟨[.one (RB)], [[none]], [none]⟩ z))⟩
noncomputable def spec_PairsOk_l : List Ls := [⟨[0, 1, 0, 1], ⟨[(0, .one (LD [.sc (.str), .sc (.str)])), (3, .one (LI))], [([4000000], .gone)]⟩, fun m n vs k => ap 2 (spec_PairsOk_L0_0 m n) vs (lm 1 fun z => k .ret (fPack ⟨[(2, .one (LB))], []⟩ z)) (lm 1 fun z => k (.exit 0) (fPack ⟨[(0, .one (LD [.sc (.str), .sc (.str)]))], [([4000000], .gone)]⟩ z))⟩]
noncomputable def spec_PairsOk_t : List Fs := spec_PairsOk_f :: spec_PairOk_t
theorem spec_PairsOk_g : FGood CX prims spec_PairsOk_t ∧ FEqn CX prims spec_PairsOk_f := fnG spec_PairOk_g.1 spec_PairsOk_f Try.f33 ⟨33, 1, 37, 4⟩ spec_PairsOk_l (fun _ _ => rfl) (fun _ _ _ => by kernel_rfl) ⟨fun _ _ _ => rfl, trivial⟩ ⟨fun _ _ _ _ _ _ => by kernel_rfl, trivial⟩ (fun _ _ _ _ _ => by kernel_rfl)

/-! loop.example/g00244/spec.l3In -/
noncomputable def spec_l3In : Nat → T → T → T → (T → An) → An
  | 0, _, _, _, _ => .bad
  | m + 1, x0, x1, x2, k0 =>
    cond ((!(Op.bytesLess x0.str.toList x1.str.toList)) == true)
    (cond ((x2.str.toList == (⟨#[]⟩ : ByteArray).toList) == false)
    (k0 (T.b (Op.bytesLess x0.str.toList x2.str.toList)))
    (k0 (T.b true)))
    (k0 (T.b false))
noncomputable def spec_l3In_f : Fs := ⟨34, [.one (AS), .one (AS), .one (AS)], fun m vs k => ap 3 (spec_l3In m) vs (lm 1 fun z => k (fRet ⟨[.one (RB)], [[none], [none], [none]], [none, none, none]⟩ z))⟩
noncomputable def spec_l3In_t : List Fs := spec_l3In_f :: spec_PairsOk_t
theorem spec_l3In_g : FGood CX prims spec_l3In_t ∧ FEqn CX prims spec_l3In_f := fnG spec_PairsOk_g.1 spec_l3In_f Try.f34 ⟨34, 3, 19, 64⟩ [] (fun _ _ => rfl) (fun _ _ _ => by kernel_rfl) trivial trivial (fun _ _ _ _ _ => by kernel_rfl)

/-! loop.example/g00244/spec.l4Half -/
noncomputable def spec_l4Half_L0_0 (m : Nat) : Nat → T → T → (T → An) → An
  | 0, _, _, _ => .bad
  | n + 1, x0, x1, k0 =>
    cond (decide ((IntKind.i64.wrap (2 * x1.int)) < x0.int))
    (spec_l4Half_L0_0 m n x0 (T.i (IntKind.i64.wrap (2 * x1.int))) k0)
    (k0 x1)
noncomputable def spec_l4Half : Nat → T → (T → An) → An
  | 0, _, _ => .bad
  | m + 1, x0, k0 =>
    spec_l4Half_L0_0 m m x0 (T.i 1)
    (fun y0 => k0 y0)
noncomputable def spec_l4Half_f : Fs := ⟨47, [.one (AI)], fun m vs k => ap 1 (spec_l4Half m) vs (lm 1 fun z => k (fRet ⟨[.one (RI)], [[none]], [none]⟩ z))⟩
noncomputable def spec_l4Half_l : List Ls := [⟨[0, 0, 1, 1], ⟨[(0, .one (LI)), (3, .one (LI))], []⟩, fun m n vs k => ap 2 (spec_l4Half_L0_0 m n) vs (lm 1 fun z => k (.exit 0) (fPack ⟨[(3, .one (LI))], []⟩ z))⟩]
noncomputable def spec_l4Half_t : List Fs := spec_l4Half_f :: spec_l3In_t
theorem spec_l4Half_g : FGood CX prims spec_l4Half_t ∧ FEqn CX prims spec_l4Half_f := fnG spec_l3In_g.1 spec_l4Half_f Try.f47 ⟨47, 1, 11, 4⟩ spec_l4Half_l (fun _ _ => rfl) (fun _ _ _ => by kernel_rfl) ⟨fun _ _ _ => rfl, trivial⟩ ⟨fun _ _ _ _ _ _ => by kernel_rfl, trivial⟩ (fun _ _ _ _ _ => by kernel_rfl)

/-! loop.example/g00244/spec.Padded -/
noncomputable def spec_Padded_L1_0 (m : Nat) : Nat → T → T → T → (T → An) → An
  | 0, _, _, _, _ => .bad
  | n + 1, x0, x1, x2, k0 =>
    cond (decide (x1.int ≥ 0))
    (cond (decide (0 ≤ (IntKind.u64.wrap x1.int)))
    (cond (decide ((x2.rows.length + 1) * 1 ≤ maxRow))
    (spec_Padded_L1_0 m n x0 (T.i (IntKind.i64.wrap (x1.int - 8))) (T.l (x2.rows ++ [[(T.i (IntKind.u8.wrap (Int.fdiv x0.int (2 ^ (min (Int.toNat (IntKind.u64.wrap x1.int)) IntKind.i64.bits)))))]])) k0)
    (.bad))
    (.bad))
    (k0 (T.l x2.rows))
noncomputable def spec_Padded_L0_0 (m : Nat) : Nat → T → T → (T → T → An) → An
  | 0, _, _, _ => .bad
  | n + 1, x0, x1, k0 =>
    cond ((Int.tmod (x1.rows.length : Int) 64) != 56)
    (cond (decide ((x1.rows.length + 1) * 1 ≤ maxRow))
    (spec_Padded_L0_0 m n x0 (T.l (x1.rows ++ [[(T.i 0)]])) k0)
    (.bad))
    (k0 x0 (T.l x1.rows))
noncomputable def spec_Padded : Nat → T → (T → An) → An
  | 0, _, _ => .bad
  | m + 1, x0, k0 =>
    cond (decide ((0 + x0.rows.length) * 1 ≤ maxRow))
    (cond (decide ((x0.rows.length + 1) * 1 ≤ maxRow))
    (spec_Padded_L0_0 m m (T.l x0.rows) (T.l (x0.rows ++ [[(T.i 128)]]))
    (fun y0 y1 => spec_Padded_L1_0 m m (T.i (IntKind.i64.wrap ((y0.rows.length : Int) * 8))) (T.i 56) (T.l y1.rows)
    (fun y2 => k0 (T.l y2.rows))))
    (.bad))
    (.bad)
noncomputable def spec_Padded_f : Fs := ⟨65, [.one (.dz [.sc (.int .u8)] [])], fun m vs k => ap 1 (spec_Padded m) vs (lm 1 fun z => k (fRet ⟨[.one (.own (KR 0 0) [.sc (.int .u8)] [.F] [])], [[none]], [none]⟩ z))⟩
noncomputable def spec_Padded_l : List Ls := [⟨[0, 1, 0, 1, 1, 1, 1], ⟨[(3, .one (LA (KI 0) [.sc (.int .u8)])), (4, .one (LI)), (5, .one (LI))], [((KI 0), .row [.sc (.int .u8)] [.F] [])]⟩, fun m n vs k => ap 3 (spec_Padded_L1_0 m n) vs (lm 1 fun z => k (.exit 2) (fPack ⟨[(3, .one (LA (KI 0) [.sc (.int .u8)]))], [((KI 0), .row [.sc (.int .u8)] [.F] [])]⟩ z))⟩, ⟨[0, 0, 1, 1], ⟨[(0, .one (LD [.sc (.int .u8)])), (3, .one (LA (KI 1) [.sc (.int .u8)]))], [([4000000], .gone), ((KI 1), .row [.sc (.int .u8)] [.F] [])]⟩, fun m n vs k => ap 2 (spec_Padded_L0_0 m n) vs (lm 2 fun z => k (.exit 0) (fPack ⟨[(0, .one (LD [.sc (.int .u8)])), (3, .one (LA (KI 1) [.sc (.int .u8)]))], [([4000000], .gone), ((KI 1), .row [.sc (.int .u8)] [.F] [])]⟩ z))⟩]
noncomputable def spec_Padded_t : List Fs := spec_Padded_f :: spec_l4Half_t
theorem spec_Padded_g : FGood CX prims spec_Padded_t ∧ FEqn CX prims spec_Padded_f := fnG spec_l4Half_g.1 spec_Padded_f Try.f65 ⟨65, 1, 34, 4⟩ spec_Padded_l (fun _ _ => rfl) (fun _ _ _ => by kernel_rfl) ⟨fun _ _ _ => rfl, fun _ _ _ => rfl, trivial⟩ ⟨fun _ _ _ _ _ _ => by kernel_rfl, fun _ _ _ _ _ _ => by kernel_rfl, trivial⟩ (fun _ _ _ _ _ => by kernel_rfl)

/-! loop.example/g00244/spec.l2K -/
noncomputable def spec_l2K : Nat → (T → An) → An
  | 0, _ => .bad
  | m + 1, k0 =>
    k0 (T.l [[(T.i 1116352408)], [(T.i 1899447441)], [(T.i 3049323471)], [(T.i 3921009573)], [(T.i 961987163)], [(T.i 1508970993)], [(T.i 2453635748)], [(T.i 2870763221)], [(T.i 3624381080)], [(T.i 310598401)], [(T.i 607225278)], [(T.i 1426881987)], [(T.i 1925078388)], [(T.i 2162078206)], [(T.i 2614888103)], [(T.i 3248222580)], [(T.i 3835390401)], [(T.i 4022224774)], [(T.i 264347078)], [(T.i 604807628)], [(T.i 770255983)], [(T.i 1249150122)], [(T.i 1555081692)], [(T.i 1996064986)], [(T.i 2554220882)], [(T.i 2821834349)], [(T.i 2952996808)], [(T.i 3210313671)], [(T.i 3336571891)], [(T.i 3584528711)], [(T.i 113926993)], [(T.i 338241895)], [(T.i 666307205)], [(T.i 773529912)], [(T.i 1294757372)], [(T.i 1396182291)], [(T.i 1695183700)], [(T.i 1986661051)], [(T.i 2177026350)], [(T.i 2456956037)], [(T.i 2730485921)], [(T.i 2820302411)], [(T.i 3259730800)], [(T.i 3345764771)], [(T.i 3516065817)], [(T.i 3600352804)], [(T.i 4094571909)], [(T.i 275423344)], [(T.i 430227734)], [(T.i 506948616)], [(T.i 659060556)], [(T.i 883997877)], [(T.i 958139571)], [(T.i 1322822218)], [(T.i 1537002063)], [(T.i 1747873779)], [(T.i 1955562222)], [(T.i 2024104815)], [(T.i 2227730452)], [(T.i 2361852424)], [(T.i 2428436474)], [(T.i 2756734187)], [(T.i 3204031479)], [(T.i 3329325298)]])
noncomputable def spec_l2K_f : Fs := ⟨66, [], fun m vs k => ap 0 (spec_l2K m) vs (lm 1 fun z => k (fRet ⟨[.one (.own (KR 0 0) [.sc (.int .i64)] [.F] [])], [], []⟩ z))⟩
noncomputable def spec_l2K_t : List Fs := spec_l2K_f :: spec_Padded_t
theorem spec_l2K_g : FGood CX prims spec_l2K_t ∧ FEqn CX prims spec_l2K_f := fnG spec_Padded_g.1 spec_l2K_f Try.f66 ⟨66, 0, 2, 1⟩ [] (fun _ _ => rfl) (fun _ _ _ => by kernel_rfl) trivial trivial (fun _ _ _ _ _ => by kernel_rfl)

/-! loop.example/g00244/spec.l2Turn -/
noncomputable def spec_l2Turn : Nat → T → T → (T → An) → An
  | 0, _, _, _ => .bad
  | m + 1, x0, x1, k0 =>
    cond (decide (0 ≤ (IntKind.u64.wrap x1.int)))
    (cond (decide (0 ≤ (IntKind.u64.wrap (IntKind.i64.wrap (32 - x1.int)))))
    (k0 (bvBack .i64 (BitVec.ofInt IntKind.i64.bits (bvBack .i64 (BitVec.ofInt IntKind.i64.bits (Int.fdiv x0.int (2 ^ (min (Int.toNat (IntKind.u64.wrap x1.int)) IntKind.i64.bits))) ||| BitVec.ofInt IntKind.i64.bits (IntKind.i64.wrap (x0.int * 2 ^ (min (Int.toNat (IntKind.u64.wrap (IntKind.i64.wrap (32 - x1.int)))) IntKind.i64.bits))))).int &&& BitVec.ofInt IntKind.i64.bits 4294967295)))
    (.bad))
    (.bad)
noncomputable def spec_l2Turn_f : Fs := ⟨79, [.one (AI), .one (AI)], fun m vs k => ap 2 (spec_l2Turn m) vs (lm 1 fun z => k (fRet ⟨[.one (RI)], [[none], [none]], [none, none]⟩ z))⟩
noncomputable def spec_l2Turn_t : List Fs := spec_l2Turn_f :: spec_l2K_t
theorem spec_l2Turn_g : FGood CX prims spec_l2Turn_t ∧ FEqn CX prims spec_l2Turn_f := fnG spec_l2K_g.1 spec_l2Turn_f Try.f79 ⟨79, 2, 16, 16⟩ [] (fun _ _ => rfl) (fun _ _ _ => by kernel_rfl) trivial trivial (fun _ _ _ _ _ => by kernel_rfl)

/-! loop.example/g00244/spec.l2Words -/
noncomputable def spec_l2Words_L1_0 (m : Nat) : Nat → T → T → (T → An) → An
  | 0, _, _, _ => .bad
  | n + 1, x0, x1, k0 =>
    cond (decide (x0.int < 64))
    (cond (decide ((0 : Int) ≤ (IntKind.i64.wrap (x0.int - 15)) ∧ (IntKind.i64.wrap (x0.int - 15)) < (x1.rows.length : Int)))
    (cond (decide ((Int.toNat (IntKind.i64.wrap (x0.int - 15))) < x1.rows.length))
    (cond (decide ((0 : Int) ≤ (IntKind.i64.wrap (x0.int - 2)) ∧ (IntKind.i64.wrap (x0.int - 2)) < (x1.rows.length : Int)))
    (cond (decide ((Int.toNat (IntKind.i64.wrap (x0.int - 2))) < x1.rows.length))
    (spec_l2Turn m ((x1.rows.getD (Int.toNat (IntKind.i64.wrap (x0.int - 15))) []).getD 0 dflt) (T.i 7)
    (fun y1 => spec_l2Turn m ((x1.rows.getD (Int.toNat (IntKind.i64.wrap (x0.int - 15))) []).getD 0 dflt) (T.i 18)
    (fun y2 => spec_l2Turn m ((x1.rows.getD (Int.toNat (IntKind.i64.wrap (x0.int - 2))) []).getD 0 dflt) (T.i 17)
    (fun y3 => spec_l2Turn m ((x1.rows.getD (Int.toNat (IntKind.i64.wrap (x0.int - 2))) []).getD 0 dflt) (T.i 19)
    (fun y4 => cond (decide ((0 : Int) ≤ (IntKind.i64.wrap (x0.int - 16)) ∧ (IntKind.i64.wrap (x0.int - 16)) < (x1.rows.length : Int)))
    (cond (decide ((Int.toNat (IntKind.i64.wrap (x0.int - 16))) < x1.rows.length))
    (cond (decide ((0 : Int) ≤ (IntKind.i64.wrap (x0.int - 7)) ∧ (IntKind.i64.wrap (x0.int - 7)) < (x1.rows.length : Int)))
    (cond (decide ((Int.toNat (IntKind.i64.wrap (x0.int - 7))) < x1.rows.length))
    (cond (decide ((x1.rows.length + 1) * 1 ≤ maxRow))
    (spec_l2Words_L1_0 m n (T.i (IntKind.i64.wrap (x0.int + 1))) (T.l (x1.rows ++ [[(bvBack .i64 (BitVec.ofInt IntKind.i64.bits (IntKind.i64.wrap ((IntKind.i64.wrap ((IntKind.i64.wrap (((x1.rows.getD (Int.toNat (IntKind.i64.wrap (x0.int - 16))) []).getD 0 dflt).int + (bvBack .i64 (BitVec.ofInt IntKind.i64.bits (bvBack .i64 (BitVec.ofInt IntKind.i64.bits y1.int ^^^ BitVec.ofInt IntKind.i64.bits y2.int)).int ^^^ BitVec.ofInt IntKind.i64.bits (Int.fdiv ((x1.rows.getD (Int.toNat (IntKind.i64.wrap (x0.int - 15))) []).getD 0 dflt).int (2 ^ (min (Int.toNat 3) IntKind.i64.bits))))).int)) + ((x1.rows.getD (Int.toNat (IntKind.i64.wrap (x0.int - 7))) []).getD 0 dflt).int)) + (bvBack .i64 (BitVec.ofInt IntKind.i64.bits (bvBack .i64 (BitVec.ofInt IntKind.i64.bits y3.int ^^^ BitVec.ofInt IntKind.i64.bits y4.int)).int ^^^ BitVec.ofInt IntKind.i64.bits (Int.fdiv ((x1.rows.getD (Int.toNat (IntKind.i64.wrap (x0.int - 2))) []).getD 0 dflt).int (2 ^ (min (Int.toNat 10) IntKind.i64.bits))))).int)) &&& BitVec.ofInt IntKind.i64.bits 4294967295))]])) k0)
    (.bad))
    (.bad))
    (.bad))
    (.bad))
    (.bad))))))
    (.bad))
    (.bad))
    (.bad))
    (.bad))
    (k0 (T.l x1.rows))
noncomputable def spec_l2Words_L0_0 (m : Nat) : Nat → T → T → T → (T → An) → An
  | 0, _, _, _, _ => .bad
  | n + 1, x0, x1, x2, k0 =>
    cond (decide (x1.int < 16))
    (cond (decide ((0 : Int) ≤ (IntKind.i64.wrap (4 * x1.int)) ∧ (IntKind.i64.wrap (4 * x1.int)) < (x0.rows.length : Int)))
    (cond (decide ((0 : Int) ≤ (IntKind.i64.wrap ((IntKind.i64.wrap (4 * x1.int)) + 1)) ∧ (IntKind.i64.wrap ((IntKind.i64.wrap (4 * x1.int)) + 1)) < (x0.rows.length : Int)))
    (cond (decide ((0 : Int) ≤ (IntKind.i64.wrap ((IntKind.i64.wrap (4 * x1.int)) + 2)) ∧ (IntKind.i64.wrap ((IntKind.i64.wrap (4 * x1.int)) + 2)) < (x0.rows.length : Int)))
    (cond (decide ((0 : Int) ≤ (IntKind.i64.wrap ((IntKind.i64.wrap (4 * x1.int)) + 3)) ∧ (IntKind.i64.wrap ((IntKind.i64.wrap (4 * x1.int)) + 3)) < (x0.rows.length : Int)))
    (cond (decide ((x2.rows.length + 1) * 1 ≤ maxRow))
    (spec_l2Words_L0_0 m n x0 (T.i (IntKind.i64.wrap (x1.int + 1))) (T.l (x2.rows ++ [[(bvBack .i64 (BitVec.ofInt IntKind.i64.bits (bvBack .i64 (BitVec.ofInt IntKind.i64.bits (bvBack .i64 (BitVec.ofInt IntKind.i64.bits (IntKind.i64.wrap ((IntKind.i64.wrap ((x0.rows.getD (Int.toNat (IntKind.i64.wrap (4 * x1.int))) []).getD 0 dflt).int) * 2 ^ (min (Int.toNat 24) IntKind.i64.bits))) ||| BitVec.ofInt IntKind.i64.bits (IntKind.i64.wrap ((IntKind.i64.wrap ((x0.rows.getD (Int.toNat (IntKind.i64.wrap ((IntKind.i64.wrap (4 * x1.int)) + 1))) []).getD 0 dflt).int) * 2 ^ (min (Int.toNat 16) IntKind.i64.bits))))).int ||| BitVec.ofInt IntKind.i64.bits (IntKind.i64.wrap ((IntKind.i64.wrap ((x0.rows.getD (Int.toNat (IntKind.i64.wrap ((IntKind.i64.wrap (4 * x1.int)) + 2))) []).getD 0 dflt).int) * 2 ^ (min (Int.toNat 8) IntKind.i64.bits))))).int ||| BitVec.ofInt IntKind.i64.bits (IntKind.i64.wrap ((x0.rows.getD (Int.toNat (IntKind.i64.wrap ((IntKind.i64.wrap (4 * x1.int)) + 3))) []).getD 0 dflt).int)))]])) k0)
    (.bad))
    (.bad))
    (.bad))
    (.bad))
    (.bad))
    (k0 (T.l x2.rows))
noncomputable def spec_l2Words : Nat → T → (T → An) → An
  | 0, _, _ => .bad
  | m + 1, x0, k0 =>
    spec_l2Words_L0_0 m m (T.l x0.rows) (T.i 0) (T.l [])
    (fun y0 => spec_l2Words_L1_0 m m (T.i 16) (T.l y0.rows)
    (fun y5 => k0 (T.l y5.rows)))
noncomputable def spec_l2Words_f : Fs := ⟨78, [.one (.dz [.sc (.int .u8)] [])], fun m vs k => ap 1 (spec_l2Words m) vs (lm 1 fun z => k (fRet ⟨[.one (.own (KR 0 0) [.sc (.int .i64)] [.F] [])], [[none]], [none]⟩ z))⟩
noncomputable def spec_l2Words_l : List Ls := [⟨[0, 1, 0, 1, 1, 1], ⟨[(3, .one (LA (KI 0) [.sc (.int .i64)])), (5, .one (LI))], [((KI 0), .row [.sc (.int .i64)] [.F] [])]⟩, fun m n vs k => ap 2 (spec_l2Words_L1_0 m n) vs (lm 1 fun z => k (.exit 2) (fPack ⟨[(3, .one (LA (KI 0) [.sc (.int .i64)]))], [((KI 0), .row [.sc (.int .i64)] [.F] [])]⟩ z))⟩, ⟨[0, 1, 0, 1, 1], ⟨[(0, .one (LD [.sc (.int .u8)])), (3, .one (LA (KI 1) [.sc (.int .i64)])), (4, .one (LI))], [([4000000], .gone), ((KI 1), .row [.sc (.int .i64)] [.F] [])]⟩, fun m n vs k => ap 3 (spec_l2Words_L0_0 m n) vs (lm 1 fun z => k (.exit 0) (fPack ⟨[(3, .one (LA (KI 0) [.sc (.int .i64)]))], [((KI 0), .row [.sc (.int .i64)] [.F] [])]⟩ z))⟩]
noncomputable def spec_l2Words_t : List Fs := spec_l2Words_f :: spec_l2Turn_t
theorem spec_l2Words_g : FGood CX prims spec_l2Words_t ∧ FEqn CX prims spec_l2Words_f := fnG spec_l2Turn_g.1 spec_l2Words_f Try.f78 ⟨78, 1, 101, 4⟩ spec_l2Words_l (fun _ _ => rfl) (fun _ _ _ => by kernel_rfl) ⟨fun _ _ _ => rfl, fun _ _ _ => rfl, trivial⟩ ⟨fun _ _ _ _ _ _ => by kernel_rfl, fun _ _ _ _ _ _ => by kernel_rfl, trivial⟩ (fun _ _ _ _ _ => by kernel_rfl)

/-! loop.example/g00244/spec.l2Block -/
noncomputable def spec_l2Block_L1_0 (m : Nat) : Nat → T → T → T → (T → An) → An
  | 0, _, _, _, _ => .bad
  | n + 1, x0, x1, x2, k0 =>
    cond (decide (x1.int < 8))
    (cond (decide ((0 : Int) ≤ x1.int ∧ x1.int < (x2.rows.length : Int)))
    (cond (decide ((Int.toNat x1.int) < x2.rows.length))
    (cond (decide ((0 : Int) ≤ x1.int ∧ x1.int < (x0.rows.length : Int)))
    (cond (decide ((0 : Int) ≤ x1.int ∧ x1.int < (x2.rows.length : Int)))
    (cond (decide ((Int.toNat x1.int) < x2.rows.length))
    (spec_l2Block_L1_0 m n x0 (T.i (IntKind.i64.wrap (x1.int + 1))) (T.l (x2.rows.set (Int.toNat x1.int) ((x2.rows.getD (Int.toNat x1.int) []).set 0 (bvBack .i64 (BitVec.ofInt IntKind.i64.bits (IntKind.i64.wrap (((x2.rows.getD (Int.toNat x1.int) []).getD 0 dflt).int + ((x0.rows.getD (Int.toNat x1.int) []).getD 0 dflt).int)) &&& BitVec.ofInt IntKind.i64.bits 4294967295))))) k0)
    (.bad))
    (.bad))
    (.bad))
    (.bad))
    (.bad))
    (k0 (T.l x2.rows))
noncomputable def spec_l2Block_L0_0 (m : Nat) : Nat → T → T → T → T → T → (T → T → An) → An
  | 0, _, _, _, _, _, _ => .bad
  | n + 1, x0, x1, x2, x3, x4, k0 =>
    cond (decide (x2.int < 64))
    (cond (decide ((0 : Int) ≤ 4 ∧ 4 < (x4.rows.length : Int)))
    (cond (decide (4 < x4.rows.length))
    (spec_l2Turn m ((x4.rows.getD 4 []).getD 0 dflt) (T.i 6)
    (fun y1 => spec_l2Turn m ((x4.rows.getD 4 []).getD 0 dflt) (T.i 11)
    (fun y2 => spec_l2Turn m ((x4.rows.getD 4 []).getD 0 dflt) (T.i 25)
    (fun y3 => cond (decide ((0 : Int) ≤ 5 ∧ 5 < (x4.rows.length : Int)))
    (cond (decide (5 < x4.rows.length))
    (cond (decide ((0 : Int) ≤ 6 ∧ 6 < (x4.rows.length : Int)))
    (cond (decide (6 < x4.rows.length))
    (cond (decide ((0 : Int) ≤ 7 ∧ 7 < (x4.rows.length : Int)))
    (cond (decide (7 < x4.rows.length))
    (cond (decide ((0 : Int) ≤ x2.int ∧ x2.int < (x1.rows.length : Int)))
    (cond (decide ((0 : Int) ≤ x2.int ∧ x2.int < (x3.rows.length : Int)))
    (cond (decide ((Int.toNat x2.int) < x3.rows.length))
    (cond (decide ((0 : Int) ≤ 0 ∧ 0 < (x4.rows.length : Int)))
    (cond (decide (0 < x4.rows.length))
    (spec_l2Turn m ((x4.rows.getD 0 []).getD 0 dflt) (T.i 2)
    (fun y4 => spec_l2Turn m ((x4.rows.getD 0 []).getD 0 dflt) (T.i 13)
    (fun y5 => spec_l2Turn m ((x4.rows.getD 0 []).getD 0 dflt) (T.i 22)
    (fun y6 => cond (decide ((0 : Int) ≤ 1 ∧ 1 < (x4.rows.length : Int)))
    (cond (decide (1 < x4.rows.length))
    (cond (decide ((0 : Int) ≤ 2 ∧ 2 < (x4.rows.length : Int)))
    (cond (decide (2 < x4.rows.length))
    (cond (decide ((0 : Int) ≤ 1 ∧ 1 < (x4.rows.length : Int)))
    (cond (decide (1 < x4.rows.length))
    (cond (decide ((0 : Int) ≤ 2 ∧ 2 < (x4.rows.length : Int)))
    (cond (decide (2 < x4.rows.length))
    (cond (decide ((0 : Int) ≤ 1 ∧ 1 < (x4.rows.length : Int)))
    (cond (decide (1 < x4.rows.length))
    (cond (decide ((0 : Int) ≤ 2 ∧ 2 < (x4.rows.length : Int)))
    (cond (decide (2 < x4.rows.length))
    (cond (decide ((0 : Int) ≤ 3 ∧ 3 < (x4.rows.length : Int)))
    (cond (decide (3 < x4.rows.length))
    (cond (decide ((0 : Int) ≤ 5 ∧ 5 < (x4.rows.length : Int)))
    (cond (decide (5 < x4.rows.length))
    (cond (decide ((0 : Int) ≤ 6 ∧ 6 < (x4.rows.length : Int)))
    (cond (decide (6 < x4.rows.length))
    (spec_l2Block_L0_0 m n x0 x1 (T.i (IntKind.i64.wrap (x2.int + 1))) (T.l x3.rows) (T.l [[(bvBack .i64 (BitVec.ofInt IntKind.i64.bits (IntKind.i64.wrap ((IntKind.i64.wrap ((IntKind.i64.wrap ((IntKind.i64.wrap ((IntKind.i64.wrap (((x4.rows.getD 7 []).getD 0 dflt).int + (bvBack .i64 (BitVec.ofInt IntKind.i64.bits (bvBack .i64 (BitVec.ofInt IntKind.i64.bits y1.int ^^^ BitVec.ofInt IntKind.i64.bits y2.int)).int ^^^ BitVec.ofInt IntKind.i64.bits y3.int)).int)) + (bvBack .i64 (BitVec.ofInt IntKind.i64.bits (bvBack .i64 (BitVec.ofInt IntKind.i64.bits ((x4.rows.getD 4 []).getD 0 dflt).int &&& BitVec.ofInt IntKind.i64.bits ((x4.rows.getD 5 []).getD 0 dflt).int)).int ^^^ BitVec.ofInt IntKind.i64.bits (bvBack .i64 (BitVec.ofInt IntKind.i64.bits (bvBack .i64 (BitVec.ofInt IntKind.i64.bits 4294967295 ^^^ BitVec.ofInt IntKind.i64.bits ((x4.rows.getD 4 []).getD 0 dflt).int)).int &&& BitVec.ofInt IntKind.i64.bits ((x4.rows.getD 6 []).getD 0 dflt).int)).int)).int)) + ((x1.rows.getD (Int.toNat x2.int) []).getD 0 dflt).int)) + ((x3.rows.getD (Int.toNat x2.int) []).getD 0 dflt).int)) + (IntKind.i64.wrap ((bvBack .i64 (BitVec.ofInt IntKind.i64.bits (bvBack .i64 (BitVec.ofInt IntKind.i64.bits y4.int ^^^ BitVec.ofInt IntKind.i64.bits y5.int)).int ^^^ BitVec.ofInt IntKind.i64.bits y6.int)).int + (bvBack .i64 (BitVec.ofInt IntKind.i64.bits (bvBack .i64 (BitVec.ofInt IntKind.i64.bits (bvBack .i64 (BitVec.ofInt IntKind.i64.bits ((x4.rows.getD 0 []).getD 0 dflt).int &&& BitVec.ofInt IntKind.i64.bits ((x4.rows.getD 1 []).getD 0 dflt).int)).int ^^^ BitVec.ofInt IntKind.i64.bits (bvBack .i64 (BitVec.ofInt IntKind.i64.bits ((x4.rows.getD 0 []).getD 0 dflt).int &&& BitVec.ofInt IntKind.i64.bits ((x4.rows.getD 2 []).getD 0 dflt).int)).int)).int ^^^ BitVec.ofInt IntKind.i64.bits (bvBack .i64 (BitVec.ofInt IntKind.i64.bits ((x4.rows.getD 1 []).getD 0 dflt).int &&& BitVec.ofInt IntKind.i64.bits ((x4.rows.getD 2 []).getD 0 dflt).int)).int)).int)))) &&& BitVec.ofInt IntKind.i64.bits 4294967295))], [((x4.rows.getD 0 []).getD 0 dflt)], [((x4.rows.getD 1 []).getD 0 dflt)], [((x4.rows.getD 2 []).getD 0 dflt)], [(bvBack .i64 (BitVec.ofInt IntKind.i64.bits (IntKind.i64.wrap (((x4.rows.getD 3 []).getD 0 dflt).int + (IntKind.i64.wrap ((IntKind.i64.wrap ((IntKind.i64.wrap ((IntKind.i64.wrap (((x4.rows.getD 7 []).getD 0 dflt).int + (bvBack .i64 (BitVec.ofInt IntKind.i64.bits (bvBack .i64 (BitVec.ofInt IntKind.i64.bits y1.int ^^^ BitVec.ofInt IntKind.i64.bits y2.int)).int ^^^ BitVec.ofInt IntKind.i64.bits y3.int)).int)) + (bvBack .i64 (BitVec.ofInt IntKind.i64.bits (bvBack .i64 (BitVec.ofInt IntKind.i64.bits ((x4.rows.getD 4 []).getD 0 dflt).int &&& BitVec.ofInt IntKind.i64.bits ((x4.rows.getD 5 []).getD 0 dflt).int)).int ^^^ BitVec.ofInt IntKind.i64.bits (bvBack .i64 (BitVec.ofInt IntKind.i64.bits (bvBack .i64 (BitVec.ofInt IntKind.i64.bits 4294967295 ^^^ BitVec.ofInt IntKind.i64.bits ((x4.rows.getD 4 []).getD 0 dflt).int)).int &&& BitVec.ofInt IntKind.i64.bits ((x4.rows.getD 6 []).getD 0 dflt).int)).int)).int)) + ((x1.rows.getD (Int.toNat x2.int) []).getD 0 dflt).int)) + ((x3.rows.getD (Int.toNat x2.int) []).getD 0 dflt).int)))) &&& BitVec.ofInt IntKind.i64.bits 4294967295))], [((x4.rows.getD 4 []).getD 0 dflt)], [((x4.rows.getD 5 []).getD 0 dflt)], [((x4.rows.getD 6 []).getD 0 dflt)]]) k0)
    (.bad))
    (.bad))
    (.bad))
    (.bad))
    (.bad))
    (.bad))
    (.bad))
    (.bad))
    (.bad))
    (.bad))
    (.bad))
    (.bad))
    (.bad))
    (.bad))
    (.bad))
    (.bad))
    (.bad))
    (.bad)))))
    (.bad))
    (.bad))
    (.bad))
    (.bad))
    (.bad))
    (.bad))
    (.bad))
    (.bad))
    (.bad))
    (.bad))
    (.bad)))))
    (.bad))
    (.bad))
    (k0 x0 (T.l x4.rows))
noncomputable def spec_l2Block : Nat → T → T → T → (T → An) → An
  | 0, _, _, _, _ => .bad
  | m + 1, x0, x1, x2, k0 =>
    spec_l2Words m (T.l x1.rows)
    (fun y0 => cond (decide ((0 + x0.rows.length) * 1 ≤ maxRow))
    (spec_l2Block_L0_0 m m (T.l x0.rows) (T.l x2.rows) (T.i 0) (T.l y0.rows) (T.l x0.rows)
    (fun y7 y8 => spec_l2Block_L1_0 m m y7 (T.i 0) (T.l y8.rows)
    (fun y9 => k0 (T.l y9.rows))))
    (.bad))
noncomputable def spec_l2Block_f : Fs := ⟨67, [.one (.dz [.sc (.int .i64)] []), .one (.dz [.sc (.int .u8)] []), .one (.dz [.sc (.int .i64)] [])], fun m vs k => ap 3 (spec_l2Block m) vs (lm 1 fun z => k (fRet ⟨[.one (.own (KR 0 0) [.sc (.int .i64)] [.F] [])], [[none], [none], [none]], [none, none, none]⟩ z))⟩
noncomputable def spec_l2Block_l : List Ls := [⟨[0, 1, 0, 1, 1, 1, 1], ⟨[(0, .one (LD [.sc (.int .i64)])), (8, .one (LA (KI 1) [.sc (.int .i64)])), (18, .one (LI))], [([4000000], .gone), ((KI 1), .row [.sc (.int .i64)] [.F] [])]⟩, fun m n vs k => ap 3 (spec_l2Block_L1_0 m n) vs (lm 1 fun z => k (.exit 2) (fPack ⟨[(8, .one (LA (KI 0) [.sc (.int .i64)]))], [((KI 0), .row [.sc (.int .i64)] [.F] [])]⟩ z))⟩, ⟨[0, 1, 0, 1, 1, 1], ⟨[(0, .one (LD [.sc (.int .i64)])), (2, .one (LD [.sc (.int .i64)])), (7, .one (LA (KI 1) [.sc (.int .i64)])), (8, .one (LA (KI 2) [.sc (.int .i64)])), (9, .one (LI))], [([4000000], .gone), ((KI 1), .row [.sc (.int .i64)] [.F] []), ((KI 2), .row [.sc (.int .i64)] [.F] [])]⟩, fun m n vs k => ap 5 (spec_l2Block_L0_0 m n) vs (lm 2 fun z => k (.exit 0) (fPack ⟨[(0, .one (LD [.sc (.int .i64)])), (8, .one (LA (KI 1) [.sc (.int .i64)]))], [([4000000], .gone), ((KI 1), .row [.sc (.int .i64)] [.F] [])]⟩ z))⟩]
noncomputable def spec_l2Block_t : List Fs := spec_l2Block_f :: spec_l2Words_t
theorem spec_l2Block_g : FGood CX prims spec_l2Block_t ∧ FEqn CX prims spec_l2Block_f := fnG spec_l2Words_g.1 spec_l2Block_f Try.f67 ⟨67, 3, 144, 64⟩ spec_l2Block_l (fun _ _ => rfl) (fun _ _ _ => by kernel_rfl) ⟨fun _ _ _ => rfl, fun _ _ _ => rfl, trivial⟩ ⟨fun _ _ _ _ _ _ => by kernel_rfl, fun _ _ _ _ _ _ => by kernel_rfl, trivial⟩ (fun _ _ _ _ _ => by kernel_rfl)

/-! loop.example/g00244/spec.Digest -/
noncomputable def spec_Digest_L1_0 (m : Nat) : Nat → T → T → T → (T → An) → An
  | 0, _, _, _, _ => .bad
  | n + 1, x0, x1, x2, k0 =>
    cond (decide (x0.int < 8))
    (cond (decide ((0 : Int) ≤ x0.int ∧ x0.int < (x1.rows.length : Int)))
    (cond (decide ((Int.toNat x0.int) < x1.rows.length))
    (cond (decide ((0 : Int) ≤ x0.int ∧ x0.int < (x1.rows.length : Int)))
    (cond (decide ((Int.toNat x0.int) < x1.rows.length))
    (cond (decide ((0 : Int) ≤ x0.int ∧ x0.int < (x1.rows.length : Int)))
    (cond (decide ((Int.toNat x0.int) < x1.rows.length))
    (cond (decide ((0 : Int) ≤ x0.int ∧ x0.int < (x1.rows.length : Int)))
    (cond (decide ((Int.toNat x0.int) < x1.rows.length))
    (cond (decide ((x2.rows.length + 4) * 1 ≤ maxRow))
    (spec_Digest_L1_0 m n (T.i (IntKind.i64.wrap (x0.int + 1))) (T.l x1.rows) (T.l (x2.rows ++ [[(T.i (IntKind.u8.wrap (Int.fdiv ((x1.rows.getD (Int.toNat x0.int) []).getD 0 dflt).int (2 ^ (min (Int.toNat 24) IntKind.i64.bits)))))], [(T.i (IntKind.u8.wrap (Int.fdiv ((x1.rows.getD (Int.toNat x0.int) []).getD 0 dflt).int (2 ^ (min (Int.toNat 16) IntKind.i64.bits)))))], [(T.i (IntKind.u8.wrap (Int.fdiv ((x1.rows.getD (Int.toNat x0.int) []).getD 0 dflt).int (2 ^ (min (Int.toNat 8) IntKind.i64.bits)))))], [(T.i (IntKind.u8.wrap ((x1.rows.getD (Int.toNat x0.int) []).getD 0 dflt).int))]])) k0)
    (.bad))
    (.bad))
    (.bad))
    (.bad))
    (.bad))
    (.bad))
    (.bad))
    (.bad))
    (.bad))
    (k0 (T.l x2.rows))
noncomputable def spec_Digest_L0_0 (m : Nat) : Nat → T → T → T → T → (T → An) → An
  | 0, _, _, _, _, _ => .bad
  | n + 1, x0, x1, x2, x3, k0 =>
    cond (decide (x0.int < (x1.rows.length : Int)))
    (cond (decide ((0 : Int) ≤ (IntKind.i64.wrap (x0.int + 64)) ∧ (IntKind.i64.wrap (x0.int + 64)) ≤ (x1.rows.length : Int)))
    (cond (decide ((0 : Int) ≤ x0.int ∧ x0.int ≤ (IntKind.i64.wrap (x0.int + 64))))
    (spec_l2Block m (T.l x2.rows) (T.l ((x1.rows.take (Int.toNat (IntKind.i64.wrap (x0.int + 64)))).drop (Int.toNat x0.int))) (T.l x3.rows)
    (fun y2 => spec_Digest_L0_0 m n (T.i (IntKind.i64.wrap (x0.int + 64))) (T.l x1.rows) (T.l y2.rows) (T.l x3.rows) k0))
    (.bad))
    (.bad))
    (k0 (T.l x2.rows))
noncomputable def spec_Digest : Nat → T → (T → An) → An
  | 0, _, _ => .bad
  | m + 1, x0, k0 =>
    spec_Padded m (T.l x0.rows)
    (fun y0 => spec_l2K m 
    (fun y1 => spec_Digest_L0_0 m m (T.i 0) (T.l y0.rows) (T.l [[(T.i 1779033703)], [(T.i 3144134277)], [(T.i 1013904242)], [(T.i 2773480762)], [(T.i 1359893119)], [(T.i 2600822924)], [(T.i 528734635)], [(T.i 1541459225)]]) (T.l y1.rows)
    (fun y3 => spec_Digest_L1_0 m m (T.i 0) (T.l y3.rows) (T.l [])
    (fun y4 => k0 (T.s (rowsBytes y4.rows))))))
noncomputable def spec_Digest_f : Fs := ⟨56, [.one (.dz [.sc (.int .u8)] [])], fun m vs k => ap 1 (spec_Digest m) vs (lm 1 fun z => k (fRet ⟨[.one (RS)], [[none]], [none]⟩ z))⟩
noncomputable def spec_Digest_l : List Ls := [⟨[0, 1, 0, 1, 1, 1, 1, 1, 1], ⟨[(4, .one (LA (KI 0) [.sc (.int .i64)])), (7, .one (LA (KI 1) [.sc (.int .u8)])), (8, .one (LI))], [((KI 0), .row [.sc (.int .i64)] [.F] []), ((KI 1), .row [.sc (.int .u8)] [.F] [])]⟩, fun m n vs k => ap 3 (spec_Digest_L1_0 m n) vs (lm 1 fun z => k (.exit 2) (fPack ⟨[(7, .one (LA (KI 0) [.sc (.int .u8)]))], [((KI 0), .row [.sc (.int .u8)] [.F] [])]⟩ z))⟩, ⟨[0, 1, 0, 1, 1, 1, 1], ⟨[(3, .one (LA (KI 0) [.sc (.int .u8)])), (4, .one (LA (KI 1) [.sc (.int .i64)])), (5, .one (LA (KI 2) [.sc (.int .i64)])), (6, .one (LI))], [((KI 0), .row [.sc (.int .u8)] [.F] []), ((KI 1), .row [.sc (.int .i64)] [.F] []), ((KI 2), .row [.sc (.int .i64)] [.F] [])]⟩, fun m n vs k => ap 4 (spec_Digest_L0_0 m n) vs (lm 1 fun z => k (.exit 0) (fPack ⟨[(4, .one (LA (KI 0) [.sc (.int .i64)]))], [((KI 0), .row [.sc (.int .i64)] [.F] [])]⟩ z))⟩]
noncomputable def spec_Digest_t : List Fs := spec_Digest_f :: spec_l2Block_t
theorem spec_Digest_g : FGood CX prims spec_Digest_t ∧ FEqn CX prims spec_Digest_f := fnG spec_l2Block_g.1 spec_Digest_f Try.f56 ⟨56, 1, 60, 4⟩ spec_Digest_l (fun _ _ => rfl) (fun _ _ _ => by kernel_rfl) ⟨fun _ _ _ => rfl, fun _ _ _ => rfl, trivial⟩ ⟨fun _ _ _ _ _ _ => by kernel_rfl, fun _ _ _ _ _ _ => by kernel_rfl, trivial⟩ (fun _ _ _ _ _ => by kernel_rfl)

/-! loop.example/g00244/spec.PutNum -/
noncomputable def spec_PutNum_L0_0 (m : Nat) : Nat → T → T → (T → T → An) → An
  | 0, _, _, _ => .bad
  | n + 1, x0, x1, k0 =>
    cond (decide (x0.int > 127))
    (cond (decide ((x1.rows.length + 1) * 1 ≤ maxRow))
    (spec_PutNum_L0_0 m n (T.i (Int.fdiv x0.int (2 ^ (min (Int.toNat 7) IntKind.i64.bits)))) (T.l (x1.rows ++ [[(T.i (IntKind.u8.wrap (bvBack .i64 (BitVec.ofInt IntKind.i64.bits (bvBack .i64 (BitVec.ofInt IntKind.i64.bits x0.int &&& BitVec.ofInt IntKind.i64.bits 127)).int ||| BitVec.ofInt IntKind.i64.bits 128)).int))]])) k0)
    (.bad))
    (k0 x0 (T.l x1.rows))
noncomputable def spec_PutNum : Nat → T → T → (T → An) → An
  | 0, _, _, _ => .bad
  | m + 1, x0, x1, k0 =>
    cond (decide ((0 + x0.rows.length) * 1 ≤ maxRow))
    (jn (fun (j5 : T → An) =>
    cond (decide (x1.int > 1000000000))
    (j5 (T.i 1000000000))
    (j5 x1))
    (fun y0 => (fun (j4 : T → An) =>
    cond (decide (y0.int < 0))
    (j4 (T.i 0))
    (j4 y0))
    (fun y1 => spec_PutNum_L0_0 m m y1 (T.l x0.rows)
    (fun y2 y3 => cond (decide ((y3.rows.length + 1) * 1 ≤ maxRow))
    (k0 (T.l (y3.rows ++ [[(T.i (IntKind.u8.wrap y2.int))]])))
    (.bad)))))
    (.bad)
noncomputable def spec_PutNum_f : Fs := ⟨87, [.one (.dz [.sc (.int .u8)] []), .one (AI)], fun m vs k => ap 2 (spec_PutNum m) vs (lm 1 fun z => k (fRet ⟨[.one (.own (KR 0 0) [.sc (.int .u8)] [.F] [])], [[none], [none]], [none, none]⟩ z))⟩
noncomputable def spec_PutNum_l : List Ls := [⟨[0, 0, 1, 1, 1, 1], ⟨[(1, .one (LI)), (5, .one (LA (KI 0) [.sc (.int .u8)]))], [((KI 0), .row [.sc (.int .u8)] [.F] [])]⟩, fun m n vs k => ap 2 (spec_PutNum_L0_0 m n) vs (lm 2 fun z => k (.exit 0) (fPack ⟨[(1, .one (LI)), (5, .one (LA (KI 0) [.sc (.int .u8)]))], [((KI 0), .row [.sc (.int .u8)] [.F] [])]⟩ z))⟩]
noncomputable def spec_PutNum_t : List Fs := spec_PutNum_f :: spec_Digest_t
theorem spec_PutNum_g : FGood CX prims spec_PutNum_t ∧ FEqn CX prims spec_PutNum_f := fnG spec_Digest_g.1 spec_PutNum_f Try.f87 ⟨87, 2, 29, 16⟩ spec_PutNum_l (fun _ _ => rfl) (fun _ _ _ => by kernel_rfl) ⟨fun _ _ _ => rfl, trivial⟩ ⟨fun _ _ _ _ _ _ => by kernel_rfl, trivial⟩ (fun _ _ _ _ _ => by kernel_rfl)

/-! loop.example/g00244/spec.PutText -/
noncomputable def spec_PutText : Nat → T → T → (T → An) → An
  | 0, _, _, _ => .bad
  | m + 1, x0, x1, k0 =>
    spec_PutNum m (T.l x0.rows) (T.i (x1.str.size : Int))
    (fun y0 => cond (decide ((y0.rows.length + (bytesRows x1.str).length) * 1 ≤ maxRow))
    (k0 (T.l (y0.rows ++ (bytesRows x1.str))))
    (.bad))
noncomputable def spec_PutText_f : Fs := ⟨80, [.one (.dz [.sc (.int .u8)] []), .one (AS)], fun m vs k => ap 2 (spec_PutText m) vs (lm 1 fun z => k (fRet ⟨[.one (.own (KR 0 0) [.sc (.int .u8)] [.F] [])], [[none], [none]], [none, none]⟩ z))⟩
noncomputable def spec_PutText_t : List Fs := spec_PutText_f :: spec_PutNum_t
theorem spec_PutText_g : FGood CX prims spec_PutText_t ∧ FEqn CX prims spec_PutText_f := fnG spec_PutNum_g.1 spec_PutText_f Try.f80 ⟨80, 2, 11, 16⟩ [] (fun _ _ => rfl) (fun _ _ _ => by kernel_rfl) trivial trivial (fun _ _ _ _ _ => by kernel_rfl)

/-! loop.example/g00244/spec.l4Leaf -/
noncomputable def spec_l4Leaf : Nat → T → T → (T → An) → An
  | 0, _, _, _ => .bad
  | m + 1, x0, x1, k0 =>
    spec_PutText m (T.l [[(T.i 0)]]) x0
    (fun y0 => spec_PutText m (T.l y0.rows) x1
    (fun y1 => k0 (T.l y1.rows)))
noncomputable def spec_l4Leaf_f : Fs := ⟨68, [.agg [AS, AS]], fun m vs k => ap 2 (spec_l4Leaf m) vs (lm 1 fun z => k (fRet ⟨[.one (.own (KR 0 0) [.sc (.int .u8)] [.F] [])], [[none, none]], [none]⟩ z))⟩
noncomputable def spec_l4Leaf_t : List Fs := spec_l4Leaf_f :: spec_PutText_t
theorem spec_l4Leaf_g : FGood CX prims spec_l4Leaf_t ∧ FEqn CX prims spec_l4Leaf_f := fnG spec_PutText_g.1 spec_l4Leaf_f Try.f68 ⟨68, 1, 10, 4⟩ [] (fun _ _ => rfl) (fun _ _ _ => by kernel_rfl) trivial trivial (fun _ _ _ _ _ => by kernel_rfl)

/-! loop.example/g00244/spec.LeafOf -/
noncomputable def spec_LeafOf : Nat → T → T → (T → An) → An
  | 0, _, _, _ => .bad
  | m + 1, x0, x1, k0 =>
    spec_l4Leaf m x0 x1
    (fun y0 => spec_Digest m (T.l y0.rows)
    (fun y1 => k0 y1))
noncomputable def spec_LeafOf_f : Fs := ⟨57, [.agg [AS, AS]], fun m vs k => ap 2 (spec_LeafOf m) vs (lm 1 fun z => k (fRet ⟨[.one (RS)], [[none, none]], [none]⟩ z))⟩
noncomputable def spec_LeafOf_t : List Fs := spec_LeafOf_f :: spec_l4Leaf_t
theorem spec_LeafOf_g : FGood CX prims spec_LeafOf_t ∧ FEqn CX prims spec_LeafOf_f := fnG spec_l4Leaf_g.1 spec_LeafOf_f Try.f57 ⟨57, 1, 6, 4⟩ [] (fun _ _ => rfl) (fun _ _ _ => by kernel_rfl) trivial trivial (fun _ _ _ _ _ => by kernel_rfl)

/-! loop.example/g00244/spec.l4Node -/
noncomputable def spec_l4Node : Nat → T → T → (T → An) → An
  | 0, _, _, _ => .bad
  | m + 1, x0, x1, k0 =>
    cond (decide ((1 + (bytesRows x0.str).length) * 1 ≤ maxRow))
    (cond (decide ((([[(T.i 1)]] ++ (bytesRows x0.str)).length + (bytesRows x1.str).length) * 1 ≤ maxRow))
    (k0 (T.l (([[(T.i 1)]] ++ (bytesRows x0.str)) ++ (bytesRows x1.str))))
    (.bad))
    (.bad)
noncomputable def spec_l4Node_f : Fs := ⟨69, [.one (AS), .one (AS)], fun m vs k => ap 2 (spec_l4Node m) vs (lm 1 fun z => k (fRet ⟨[.one (.own (KR 0 0) [.sc (.int .u8)] [.F] [])], [[none], [none]], [none, none]⟩ z))⟩
noncomputable def spec_l4Node_t : List Fs := spec_l4Node_f :: spec_LeafOf_t
theorem spec_l4Node_g : FGood CX prims spec_l4Node_t ∧ FEqn CX prims spec_l4Node_f := fnG spec_LeafOf_g.1 spec_l4Node_f Try.f69 ⟨69, 2, 10, 16⟩ [] (fun _ _ => rfl) (fun _ _ _ => by kernel_rfl) trivial trivial (fun _ _ _ _ _ => by kernel_rfl)

/-! loop.example/g00244/spec.NodeOf -/
noncomputable def spec_NodeOf : Nat → T → T → (T → An) → An
  | 0, _, _, _ => .bad
  | m + 1, x0, x1, k0 =>
    spec_l4Node m x0 x1
    (fun y0 => spec_Digest m (T.l y0.rows)
    (fun y1 => k0 y1))
noncomputable def spec_NodeOf_f : Fs := ⟨58, [.one (AS), .one (AS)], fun m vs k => ap 2 (spec_NodeOf m) vs (lm 1 fun z => k (fRet ⟨[.one (RS)], [[none], [none]], [none, none]⟩ z))⟩
noncomputable def spec_NodeOf_t : List Fs := spec_NodeOf_f :: spec_l4Node_t
theorem spec_NodeOf_g : FGood CX prims spec_NodeOf_t ∧ FEqn CX prims spec_NodeOf_f := fnG spec_l4Node_g.1 spec_NodeOf_f Try.f58 ⟨58, 2, 9, 16⟩ [] (fun _ _ => rfl) (fun _ _ _ => by kernel_rfl) trivial trivial (fun _ _ _ _ _ => by kernel_rfl)

/-! loop.example/g00244/spec.l4Inner -/
noncomputable def spec_l4Inner : Nat → T → (T → An) → An
  | 0, _, _ => .bad
  | m + 1, x0, k0 =>
    cond ((x0.rows.length : Int) == 0)
    (spec_Digest m (T.l [])
    (fun y0 => k0 y0))
    (cond ((x0.rows.length : Int) == 1)
    (cond (decide ((0 : Int) ≤ 0 ∧ 0 < (x0.rows.length : Int)))
    (spec_LeafOf m ((x0.rows.getD 0 []).getD 0 dflt) ((x0.rows.getD 0 []).getD 1 dflt)
    (fun y1 => k0 y1))
    (.bad))
    (spec_l4Half m (T.i (x0.rows.length : Int))
    (fun y2 => cond (decide ((0 : Int) ≤ y2.int ∧ y2.int ≤ (x0.rows.length : Int)))
    (cond (decide ((0 : Int) ≤ 0 ∧ 0 ≤ y2.int))
    (spec_l4Inner m (T.l (x0.rows.take (Int.toNat y2.int)))
    (fun y3 => cond (decide ((0 : Int) ≤ (x0.rows.length : Int) ∧ (x0.rows.length : Int) ≤ (x0.rows.length : Int)))
    (cond (decide ((0 : Int) ≤ y2.int ∧ y2.int ≤ (x0.rows.length : Int)))
    (spec_l4Inner m (T.l ((x0.rows.take (Int.toNat (x0.rows.length : Int))).drop (Int.toNat y2.int)))
    (fun y4 => spec_NodeOf m y3 y4
    (fun y5 => k0 y5)))
    (.bad))
    (.bad)))
    (.bad))
    (.bad))))
noncomputable def spec_l4Inner_f : Fs := ⟨48, [.one (.dz [.sc (.str), .sc (.str)] [])], fun m vs k => ap 1 (spec_l4Inner m) vs (lm 1 fun z => k (fRet ⟨[.one (RS)], [[none]], [none]⟩ z))⟩
noncomputable def spec_l4Inner_t : List Fs := spec_l4Inner_f :: spec_NodeOf_t
theorem spec_l4Inner_g : FGood CX prims spec_l4Inner_t ∧ FEqn CX prims spec_l4Inner_f := fnG spec_NodeOf_g.1 spec_l4Inner_f Try.f48 ⟨48, 1, 28, 4⟩ [] (fun _ _ => rfl) (fun _ _ _ => by kernel_rfl) trivial trivial (fun _ _ _ _ _ => by kernel_rfl)

/-! loop.example/g00244/spec.l4Path -/
noncomputable def spec_l4Path : Nat → T → T → (T → An) → An
  | 0, _, _, _ => .bad
  | m + 1, x0, x1, k0 =>
    cond (decide ((x0.rows.length : Int) < 2))
    (k0 (T.l []))
    (spec_l4Half m (T.i (x0.rows.length : Int))
    (fun y0 => cond (decide (x1.int < y0.int))
    (cond (decide ((0 : Int) ≤ y0.int ∧ y0.int ≤ (x0.rows.length : Int)))
    (cond (decide ((0 : Int) ≤ 0 ∧ 0 ≤ y0.int))
    (spec_l4Path m (T.l (x0.rows.take (Int.toNat y0.int))) x1
    (fun y1 => cond (decide ((0 : Int) ≤ (x0.rows.length : Int) ∧ (x0.rows.length : Int) ≤ (x0.rows.length : Int)))
    (cond (decide ((0 : Int) ≤ y0.int ∧ y0.int ≤ (x0.rows.length : Int)))
    (spec_l4Inner m (T.l ((x0.rows.take (Int.toNat (x0.rows.length : Int))).drop (Int.toNat y0.int)))
    (fun y2 => cond (decide ((y1.rows.length + 1) * 1 ≤ maxRow))
    (k0 (T.l (y1.rows ++ [[y2]])))
    (.bad)))
    (.bad))
    (.bad)))
    (.bad))
    (.bad))
    (cond (decide ((0 : Int) ≤ (x0.rows.length : Int) ∧ (x0.rows.length : Int) ≤ (x0.rows.length : Int)))
    (cond (decide ((0 : Int) ≤ y0.int ∧ y0.int ≤ (x0.rows.length : Int)))
    (spec_l4Path m (T.l ((x0.rows.take (Int.toNat (x0.rows.length : Int))).drop (Int.toNat y0.int))) (T.i (IntKind.i64.wrap (x1.int - y0.int)))
    (fun y3 => cond (decide ((0 : Int) ≤ y0.int ∧ y0.int ≤ (x0.rows.length : Int)))
    (cond (decide ((0 : Int) ≤ 0 ∧ 0 ≤ y0.int))
    (spec_l4Inner m (T.l (x0.rows.take (Int.toNat y0.int)))
    (fun y4 => cond (decide ((y3.rows.length + 1) * 1 ≤ maxRow))
    (k0 (T.l (y3.rows ++ [[y4]])))
    (.bad)))
    (.bad))
    (.bad)))
    (.bad))
    (.bad))))
noncomputable def spec_l4Path_f : Fs := ⟨35, [.one (.dz [.sc (.str), .sc (.str)] []), .one (AI)], fun m vs k => ap 2 (spec_l4Path m) vs (lm 1 fun z => k (fRet ⟨[.one (.own (KR 0 0) [.sc (.str)] [.F] [])], [[none], [none]], [none, none]⟩ z))⟩
noncomputable def spec_l4Path_t : List Fs := spec_l4Path_f :: spec_l4Inner_t
theorem spec_l4Path_g : FGood CX prims spec_l4Path_t ∧ FEqn CX prims spec_l4Path_f := fnG spec_l4Inner_g.1 spec_l4Path_f Try.f35 ⟨35, 2, 40, 16⟩ [] (fun _ _ => rfl) (fun _ _ _ => by kernel_rfl) trivial trivial (fun _ _ _ _ _ => by kernel_rfl)

/-! loop.example/g00244/spec.ProveBetween -/
noncomputable def spec_ProveBetween_L2_0 (m : Nat) : Nat → T → T → T → T → T → T → T → T → T → T → T → (T → T → T → T → T → T → T → T → An) → An
  | 0, _, _, _, _, _, _, _, _, _, _, _, _ => .bad
  | n + 1, x0, x1, x2, x3, x4, x5, x6, x7, x8, x9, x10, k0 =>
    cond (decide (x4.int < x3.int))
    (cond (decide ((0 : Int) ≤ x4.int ∧ x4.int < (x0.rows.length : Int)))
    (spec_l4Path m (T.l x0.rows) x4
    (fun y32 => cond (decide ((x10.rows.length + 1) * 3 ≤ maxRow))
    (spec_ProveBetween_L2_0 m n x0 (T.i (x1.int.toNat : Int)) (T.i (x2.int.toNat : Int)) x3 (T.i (IntKind.i64.wrap (x4.int + 1))) x5 x6 x7 x8 (T.l x9.rows) (T.l (x10.rows ++ [[((x0.rows.getD (Int.toNat x4.int) []).getD 0 dflt), ((x0.rows.getD (Int.toNat x4.int) []).getD 1 dflt), (T.l y32.rows)]])) k0)
    (.bad)))
    (.bad))
    (k0 (T.i (x1.int.toNat : Int)) (T.i (x2.int.toNat : Int)) x5 x6 x7 x8 (T.l x9.rows) (T.l x10.rows))
noncomputable def spec_ProveBetween_L1_0 (m : Nat) : Nat → T → T → T → T → T → T → T → T → T → T → T → T → T → (T → T → T → T → T → T → T → T → T → T → T → An) → An
  | 0, _, _, _, _, _, _, _, _, _, _, _, _, _, _ => .bad
  | n + 1, x0, x1, x2, x3, x4, x5, x6, x7, x8, x9, x10, x11, x12, k0 =>
    (fun (j17 : An) =>
    cond ((decide (x6.int < (x0.rows.length : Int))) == true)
    (cond (decide ((0 : Int) ≤ x6.int ∧ x6.int < (x0.rows.length : Int)))
    (spec_l3In m ((x0.rows.getD (Int.toNat x6.int) []).getD 0 dflt) x1 x2
    (fun y15 => cond y15.bool
    (j17)
    (k0 x0 (T.i (x3.int.toNat : Int)) (T.i (x4.int.toNat : Int)) x5 x6 x7 x8 x9 x10 (T.l x11.rows) (T.l x12.rows))))
    (.bad))
    (k0 x0 (T.i (x3.int.toNat : Int)) (T.i (x4.int.toNat : Int)) x5 x6 x7 x8 x9 x10 (T.l x11.rows) (T.l x12.rows)))
    (spec_ProveBetween_L1_0 m n x0 x1 x2 (T.i (x3.int.toNat : Int)) (T.i (x4.int.toNat : Int)) x5 (T.i (IntKind.i64.wrap (x6.int + 1))) x7 x8 x9 x10 (T.l x11.rows) (T.l x12.rows) k0)
noncomputable def spec_ProveBetween_L0_0 (m : Nat) : Nat → T → T → T → T → T → T → T → T → T → T → T → T → (T → T → T → T → T → T → T → T → T → T → T → T → An) → An
  | 0, _, _, _, _, _, _, _, _, _, _, _, _, _ => .bad
  | n + 1, x0, x1, x2, x3, x4, x5, x6, x7, x8, x9, x10, x11, k0 =>
    (fun (j2 : An) =>
    cond ((decide (x5.int < (x0.rows.length : Int))) == true)
    (cond (decide ((0 : Int) ≤ x5.int ∧ x5.int < (x0.rows.length : Int)))
    (cond (Op.bytesLess ((x0.rows.getD (Int.toNat x5.int) []).getD 0 dflt).str.toList x1.str.toList)
    (j2)
    (k0 x0 x1 x2 (T.i (x3.int.toNat : Int)) (T.i (x4.int.toNat : Int)) x5 x6 x7 x8 x9 (T.l x10.rows) (T.l x11.rows)))
    (.bad))
    (k0 x0 x1 x2 (T.i (x3.int.toNat : Int)) (T.i (x4.int.toNat : Int)) x5 x6 x7 x8 x9 (T.l x10.rows) (T.l x11.rows)))
    (spec_ProveBetween_L0_0 m n x0 x1 x2 (T.i (x3.int.toNat : Int)) (T.i (x4.int.toNat : Int)) (T.i (IntKind.i64.wrap (x5.int + 1))) x6 x7 x8 x9 (T.l x10.rows) (T.l x11.rows) k0)
noncomputable def spec_ProveBetween : Nat → T → T → T → (T → T → T → An) → An
  | 0, _, _, _, _ => .bad
  | m + 1, x0, x1, x2, k0 =>
    spec_PairsOk m (T.l x0.rows)
    (fun y0 => cond (!y0.bool)
    (k0 (T.i 0) (T.i 0) (T.l []))
    (spec_ProveBetween_L0_0 m m (T.l x0.rows) x1 x2 (T.i 0) (T.i 0) (T.i 0) (T.i 0) (T.i 0) (T.i (x0.rows.length : Int)) (T.i 0) (T.l []) (T.l [])
    (fun y3 y4 y5 y6 y7 y8 y9 y10 y11 y12 y13 y14 => spec_ProveBetween_L1_0 m m y3 y4 y5 (T.i (y6.int.toNat : Int)) (T.i (y7.int.toNat : Int)) y8 y8 y9 y10 y11 y12 (T.l y13.rows) (T.l y14.rows)
    (fun y18 y19 y20 y21 y22 y23 y24 y25 y26 y27 y28 => jn (fun (j43 : T → An) =>
    cond (decide (y21.int > 0))
    (j43 (T.i (IntKind.i64.wrap (y21.int - 1))))
    (j43 y21))
    (fun y29 => jn (fun (j42 : T → An) =>
    cond (decide (y22.int < (y18.rows.length : Int)))
    (j42 (T.i (IntKind.i64.wrap (y22.int + 1))))
    (j42 y22))
    (fun y30 => jn (fun (j41 : T → An) =>
    cond (decide (y29.int < y30.int))
    (j41 y29)
    (j41 y26))
    (fun y31 => spec_ProveBetween_L2_0 m m y18 (T.i (y19.int.toNat : Int)) (T.i (y20.int.toNat : Int)) y30 y29 y23 y24 y25 y31 (T.l y27.rows) (T.l y28.rows)
    (fun y33 y34 y35 y36 y37 y38 y39 y40 => k0 y37 y38 (T.l y40.rows)))))))))
noncomputable def spec_ProveBetween_f : Fs := ⟨19, [.one (.dz [.sc (.str), .sc (.str)] []), .one (AS), .one (AS)], fun m vs k => ap 3 (spec_ProveBetween m) vs (lm 3 fun z => k (fRet ⟨[.agg [RI, RI, .own (KR 0 2) [.sc (.str), .sc (.str), .sl [.sc (.str)]] [.F, .F, .F] []]], [[none], [none], [none]], [none, none, none]⟩ z))⟩
noncomputable def spec_ProveBetween_l : List Ls := [⟨[0, 1, 0, 1, 1, 1, 1, 1, 1, 1, 1, 1, 1], ⟨[(0, .one (LD [.sc (.str), .sc (.str)])), (6, EP 1), (7, EP 2), (9, .one (LI)), (10, .one (LI))], [([4000000], .gone), ((KI 1), .box [LI, LI, LA (KI 3) [.sc (.str), .sc (.str), .sl [.sc (.str)]]]), ((KI 2), .box [LI, LI, LA (KI 4) [.sc (.str), .sc (.str), .sl [.sc (.str)]]]), ((KI 3), .row [.sc (.str), .sc (.str), .sl [.sc (.str)]] [.F, .F, .F] []), ((KI 4), .row [.sc (.str), .sc (.str), .sl [.sc (.str)]] [.F, .F, .F] [])]⟩, fun m n vs k => ap 11 (spec_ProveBetween_L2_0 m n) vs (lm 8 fun z => k (.exit 4) (fPack ⟨[(6, EP 0), (7, EP 1)], [((KI 0), .box [LI, LI, LA (KI 2) [.sc (.str), .sc (.str), .sl [.sc (.str)]]]), ((KI 1), .box [LI, LI, LA (KI 3) [.sc (.str), .sc (.str), .sl [.sc (.str)]]]), ((KI 2), .row [.sc (.str), .sc (.str), .sl [.sc (.str)]] [.F, .F, .F] []), ((KI 3), .row [.sc (.str), .sc (.str), .sl [.sc (.str)]] [.F, .F, .F] [])]⟩ z))⟩, ⟨[0, 0, 1, 1, 1, 1, 1, 1], ⟨[(0, .one (LD [.sc (.str), .sc (.str)])), (1, .one (LS)), (2, .one (LS)), (6, EP 1), (7, EP 2), (8, .one (LI)), (9, .one (LI))], [([4000000], .gone), ((KI 1), .box [LI, LI, LA (KI 3) [.sc (.str), .sc (.str), .sl [.sc (.str)]]]), ((KI 2), .box [LI, LI, LA (KI 4) [.sc (.str), .sc (.str), .sl [.sc (.str)]]]), ((KI 3), .row [.sc (.str), .sc (.str), .sl [.sc (.str)]] [.F, .F, .F] []), ((KI 4), .row [.sc (.str), .sc (.str), .sl [.sc (.str)]] [.F, .F, .F] [])]⟩, fun m n vs k => ap 13 (spec_ProveBetween_L1_0 m n) vs (lm 11 fun z => k (.exit 2) (fPack ⟨[(0, .one (LD [.sc (.str), .sc (.str)])), (6, EP 1), (7, EP 2), (8, .one (LI)), (9, .one (LI))], [([4000000], .gone), ((KI 1), .box [LI, LI, LA (KI 3) [.sc (.str), .sc (.str), .sl [.sc (.str)]]]), ((KI 2), .box [LI, LI, LA (KI 4) [.sc (.str), .sc (.str), .sl [.sc (.str)]]]), ((KI 3), .row [.sc (.str), .sc (.str), .sl [.sc (.str)]] [.F, .F, .F] []), ((KI 4), .row [.sc (.str), .sc (.str), .sl [.sc (.str)]] [.F, .F, .F] [])]⟩ z))⟩, ⟨[0, 0, 1, 1, 1, 1], ⟨[(0, .one (LD [.sc (.str), .sc (.str)])), (1, .one (LS)), (2, .one (LS)), (6, EP 1), (7, EP 2), (8, .one (LI))], [([4000000], .gone), ((KI 1), .box [LI, LI, LA (KI 3) [.sc (.str), .sc (.str), .sl [.sc (.str)]]]), ((KI 2), .box [LI, LI, LA (KI 4) [.sc (.str), .sc (.str), .sl [.sc (.str)]]]), ((KI 3), .row [.sc (.str), .sc (.str), .sl [.sc (.str)]] [.F, .F, .F] []), ((KI 4), .row [.sc (.str), .sc (.str), .sl [.sc (.str)]] [.F, .F, .F] [])]⟩, fun m n vs k => ap 12 (spec_ProveBetween_L0_0 m n) vs (lm 12 fun z => k (.exit 0) (fPack ⟨[(0, .one (LD [.sc (.str), .sc (.str)])), (1, .one (LS)), (2, .one (LS)), (6, EP 1), (7, EP 2), (8, .one (LI))], [([4000000], .gone), ((KI 1), .box [LI, LI, LA (KI 3) [.sc (.str), .sc (.str), .sl [.sc (.str)]]]), ((KI 2), .box [LI, LI, LA (KI 4) [.sc (.str), .sc (.str), .sl [.sc (.str)]]]), ((KI 3), .row [.sc (.str), .sc (.str), .sl [.sc (.str)]] [.F, .F, .F] []), ((KI 4), .row [.sc (.str), .sc (.str), .sl [.sc (.str)]] [.F, .F, .F] [])]⟩ z))⟩]
noncomputable def spec_ProveBetween_t : List Fs := spec_ProveBetween_f :: spec_l4Path_t
theorem spec_ProveBetween_g : FGood CX prims spec_ProveBetween_t ∧ FEqn CX prims spec_ProveBetween_f := fnG spec_l4Path_g.1 spec_ProveBetween_f Try.f19 ⟨19, 3, 85, 64⟩ spec_ProveBetween_l (fun _ _ => rfl) (fun _ _ _ => by kernel_rfl) ⟨fun _ _ _ => rfl, fun _ _ _ => rfl, fun _ _ _ => rfl, trivial⟩ ⟨fun _ _ _ _ _ _ => by kernel_rfl, fun _ _ _ _ _ _ => by kernel_rfl, fun _ _ _ _ _ _ => by kernel_rfl, trivial⟩ (fun _ _ _ _ _ => by kernel_rfl)

/-! loop.example/g00244/spec.MakeBundle -/
noncomputable def spec_MakeBundle_L0_0 (m : Nat) : Nat → T → T → T → T → T → T → T → T → T → T → T → T → T → T → (T → T → T → T → T → T → T → T → T → T → An) → An
  | 0, _, _, _, _, _, _, _, _, _, _, _, _, _, _, _ => .bad
  | n + 1, x0, x1, x2, x3, x4, x5, x6, x7, x8, x9, x10, x11, x12, x13, k0 =>
    cond (decide (x5.int < (x0.rows.length : Int)))
    (cond (decide ((0 : Int) ≤ x5.int ∧ x5.int < (x0.rows.length : Int)))
    (spec_ProveBetween m (T.l ((x0.rows.getD (Int.toNat x5.int) []).getD 0 dflt).rows) x1 x2
    (fun y0 y1 y2 => cond (decide ((x13.rows.length + 1) * 3 ≤ maxRow))
    (spec_MakeBundle_L0_0 m n x0 x1 x2 (T.i (x3.int.toNat : Int)) (T.i (x4.int.toNat : Int)) (T.i (IntKind.i64.wrap (x5.int + 1))) x6 x7 x8 x9 (T.l x10.rows) (T.l x11.rows) (T.l x12.rows) (T.l (x13.rows ++ [[y0, y1, (T.l y2.rows)]])) k0)
    (.bad)))
    (.bad))
    (k0 (T.i (x3.int.toNat : Int)) (T.i (x4.int.toNat : Int)) x6 x7 x8 x9 (T.l x10.rows) (T.l x11.rows) (T.l x12.rows) (T.l x13.rows))
noncomputable def spec_MakeBundle : Nat → T → T → T → T → T → T → T → (T → T → T → T → An) → An
  | 0, _, _, _, _, _, _, _, _ => .bad
  | m + 1, x0, x1, x2, x3, x4, x5, x6, k0 =>
    cond ((x4.rows.length : Int) != (x3.rows.length : Int))
    (k0 (T.i 0) (T.s (⟨#[]⟩ : ByteArray)) (T.l []) (T.l []))
    (cond (decide ((0 + x3.rows.length) * 1 ≤ maxRow))
    (spec_MakeBundle_L0_0 m m (T.l x4.rows) x5 x6 (T.i 0) (T.i 0) (T.i 0) (T.i 0) (T.s (⟨#[]⟩ : ByteArray)) x0 x1 (T.l []) (T.l []) (T.l x3.rows) (T.l [])
    (fun y3 y4 y5 y6 y7 y8 y9 y10 y11 y12 => k0 y7 y8 (T.l y11.rows) (T.l y12.rows)))
    (.bad))
noncomputable def spec_MakeBundle_f : Fs := ⟨6, [.agg [AI, AS, AS, .dz [.sc (.str)] []], .one (.dz [.sl [.sc (.str), .sc (.str)]] []), .one (AS), .one (AS)], fun m vs k => ap 7 (spec_MakeBundle m) vs (lm 4 fun z => k (fRet ⟨[.agg [RI, RS, .own (KR 0 2) [.sc (.str)] [.F] [], .own (KR 0 3) [.sc (.int .i64), .sc (.int .i64), .sl [.sc (.str), .sc (.str), .sl [.sc (.str)]]] [.F, .F, .F] []]], [[none, none, none, none], [none], [none], [none]], [none, none, none, none]⟩ z))⟩
noncomputable def spec_MakeBundle_l : List Ls := [⟨[0, 1, 0, 1, 1, 1], ⟨[(1, .one (LD [.sl [.sc (.str), .sc (.str)]])), (2, .one (LS)), (3, .one (LS)), (8, EP 1), (9, EP 2), (10, .one (LI))], [([4000000], .gone), ((KI 1), .box [LI, LS, LA (KI 3) [.sc (.str)], LA (KI 4) [.sc (.int .i64), .sc (.int .i64), .sl [.sc (.str), .sc (.str), .sl [.sc (.str)]]]]), ((KI 2), .box [LI, LS, LA (KI 5) [.sc (.str)], LA (KI 6) [.sc (.int .i64), .sc (.int .i64), .sl [.sc (.str), .sc (.str), .sl [.sc (.str)]]]]), ((KI 3), .row [.sc (.str)] [.F] []), ((KI 4), .row [.sc (.int .i64), .sc (.int .i64), .sl [.sc (.str), .sc (.str), .sl [.sc (.str)]]] [.F, .F, .F] []), ((KI 5), .row [.sc (.str)] [.F] []), ((KI 6), .row [.sc (.int .i64), .sc (.int .i64), .sl [.sc (.str), .sc (.str), .sl [.sc (.str)]]] [.F, .F, .F] [])]⟩, fun m n vs k => ap 14 (spec_MakeBundle_L0_0 m n) vs (lm 10 fun z => k (.exit 0) (fPack ⟨[(8, EP 0), (9, EP 1)], [((KI 0), .box [LI, LS, LA (KI 2) [.sc (.str)], LA (KI 3) [.sc (.int .i64), .sc (.int .i64), .sl [.sc (.str), .sc (.str), .sl [.sc (.str)]]]]), ((KI 1), .box [LI, LS, LA (KI 4) [.sc (.str)], LA (KI 5) [.sc (.int .i64), .sc (.int .i64), .sl [.sc (.str), .sc (.str), .sl [.sc (.str)]]]]), ((KI 2), .row [.sc (.str)] [.F] []), ((KI 3), .row [.sc (.int .i64), .sc (.int .i64), .sl [.sc (.str), .sc (.str), .sl [.sc (.str)]]] [.F, .F, .F] []), ((KI 4), .row [.sc (.str)] [.F] []), ((KI 5), .row [.sc (.int .i64), .sc (.int .i64), .sl [.sc (.str), .sc (.str), .sl [.sc (.str)]]] [.F, .F, .F] [])]⟩ z))⟩]
noncomputable def spec_MakeBundle_t : List Fs := spec_MakeBundle_f :: spec_ProveBetween_t
theorem spec_MakeBundle_g : FGood CX prims spec_MakeBundle_t ∧ FEqn CX prims spec_MakeBundle_f := fnG spec_ProveBetween_g.1 spec_MakeBundle_f Try.f6 ⟨6, 4, 47, 256⟩ spec_MakeBundle_l (fun _ _ => rfl) (fun _ _ _ => by kernel_rfl) ⟨fun _ _ _ => rfl, trivial⟩ ⟨fun _ _ _ _ _ _ => by kernel_rfl, trivial⟩ (fun _ _ _ _ _ => by kernel_rfl)

/-! loop.example/g00244/impl.inRange -/
noncomputable def impl_inRange : Nat → T → T → T → (T → An) → An
  | 0, _, _, _, _ => .bad
  | m + 1, x0, x1, x2, k0 =>
    cond ((decide (x0.int ≥ x1.int)) == true)
    (k0 (T.b (decide (x0.int ≤ x2.int))))
    (k0 (T.b false))
noncomputable def impl_inRange_f : Fs := ⟨70, [.one (AI), .one (AI), .one (AI)], fun m vs k => ap 3 (impl_inRange m) vs (lm 1 fun z => k (fRet ⟨[.one (RB)], [[none], [none], [none]], [none, none, none]⟩ z))⟩
noncomputable def impl_inRange_t : List Fs := impl_inRange_f :: spec_MakeBundle_t
theorem impl_inRange_g : FGood CX prims impl_inRange_t ∧ FEqn CX prims impl_inRange_f := fnG spec_MakeBundle_g.1 impl_inRange_f Try.f70 ⟨70, 3, 15, 64⟩ [] (fun _ _ => rfl) (fun _ _ _ => by kernel_rfl) trivial trivial (fun _ _ _ _ _ => by kernel_rfl)

/-! loop.example/g00244/impl.isKeyByte -/
noncomputable def impl_isKeyByte : Nat → T → (T → An) → An
  | 0, _, _ => .bad
  | m + 1, x0, k0 =>
    cond ((decide (x0.int ≥ 97)) == true)
    (cond ((decide (x0.int ≤ 122)) == false)
    (cond ((decide (x0.int ≥ 48)) == true)
    (k0 (T.b (decide (x0.int ≤ 57))))
    (k0 (T.b false)))
    (k0 (T.b true)))
    (cond ((decide (x0.int ≥ 48)) == true)
    (k0 (T.b (decide (x0.int ≤ 57))))
    (k0 (T.b false)))
noncomputable def impl_isKeyByte_f : Fs := ⟨81, [.one (.sc (.int .u8) (.l []))], fun m vs k => ap 1 (impl_isKeyByte m) vs (lm 1 fun z => k (fRet ⟨[.one (RB)], [[none]], [none]⟩ z))⟩
noncomputable def impl_isKeyByte_t : List Fs := impl_isKeyByte_f :: impl_inRange_t
theorem impl_isKeyByte_g : FGood CX prims impl_isKeyByte_t ∧ FEqn CX prims impl_isKeyByte_f := fnG impl_inRange_g.1 impl_isKeyByte_f Try.f81 ⟨81, 1, 17, 4⟩ [] (fun _ _ => rfl) (fun _ _ _ => by kernel_rfl) trivial trivial (fun _ _ _ _ _ => by kernel_rfl)

/-! loop.example/g00244/impl.isWord -/
noncomputable def impl_isWord_L0_0 (m : Nat) : Nat → T → T → (T → An) → An → An
  | 0, _, _, _, _ => .bad
  | n + 1, x0, x1, k0, k1 =>
    cond (decide (x1.int < (x0.str.size : Int)))
    (cond (decide ((0 : Int) ≤ x1.int ∧ x1.int < (x0.str.size : Int)))
    (impl_isKeyByte m (T.i ((x0.str.data.toList.getD (Int.toNat x1.int) 0).toNat : Int))
    (fun y0 => cond (!y0.bool)
    (k0 (T.b false))
    (impl_isWord_L0_0 m n x0 (T.i (IntKind.i64.wrap (x1.int + 1))) k0 k1)))
    (.bad))
    (k1 )
noncomputable def impl_isWord : Nat → T → (T → An) → An
  | 0, _, _ => .bad
  | m + 1, x0, k0 =>
    impl_isWord_L0_0 m m x0 (T.i 0)
    (fun y1 => k0 y1)
    (k0 (T.b true))
noncomputable def impl_isWord_f : Fs := ⟨71, [.one (AS)], fun m vs k => ap 1 (impl_isWord m) vs (lm 1 fun z => k (fRet ⟨[.one (RB)], [[none]], [none]⟩ z))⟩
noncomputable def impl_isWord_l : List Ls := [⟨[0, 1, 0, 1], ⟨[(0, .one (LS)), (3, .one (LI))], []⟩, fun m n vs k => ap 2 (impl_isWord_L0_0 m n) vs (lm 1 fun z => k .ret (fPack ⟨[(2, .one (LB))], []⟩ z)) (lm 0 fun z => k (.exit 0) (fPack ⟨[], []⟩ z))⟩]
noncomputable def impl_isWord_t : List Fs := impl_isWord_f :: impl_isKeyByte_t
theorem impl_isWord_g : FGood CX prims impl_isWord_t ∧ FEqn CX prims impl_isWord_f := fnG impl_isKeyByte_g.1 impl_isWord_f Try.f71 ⟨71, 1, 15, 4⟩ impl_isWord_l (fun _ _ => rfl) (fun _ _ _ => by kernel_rfl) ⟨fun _ _ _ => rfl, trivial⟩ ⟨fun _ _ _ _ _ _ => by kernel_rfl, trivial⟩ (fun _ _ _ _ _ => by kernel_rfl)

/-! loop.example/g00244/impl.KeyOk -/
noncomputable def impl_KeyOk : Nat → T → (T → An) → An
  | 0, _, _ => .bad
  | m + 1, x0, k0 =>
    impl_inRange m (T.i (x0.str.size : Int)) (T.i 1) (T.i 12)
    (fun y0 => cond (y0.bool == true)
    (impl_isWord m x0
    (fun y1 => k0 y1))
    (k0 (T.b false)))
noncomputable def impl_KeyOk_f : Fs := ⟨59, [.one (AS)], fun m vs k => ap 1 (impl_KeyOk m) vs (lm 1 fun z => k (fRet ⟨[.one (RB)], [[none]], [none]⟩ z))⟩
noncomputable def impl_KeyOk_t : List Fs := impl_KeyOk_f :: impl_isWord_t
theorem impl_KeyOk_g : FGood CX prims impl_KeyOk_t ∧ FEqn CX prims impl_KeyOk_f := fnG impl_isWord_g.1 impl_KeyOk_f Try.f59 ⟨59, 1, 10, 4⟩ [] (fun _ _ => rfl) (fun _ _ _ => by kernel_rfl) trivial trivial (fun _ _ _ _ _ => by kernel_rfl)

/-! loop.example/g00244/impl.PairOk -/
noncomputable def impl_PairOk : Nat → T → T → (T → An) → An
  | 0, _, _, _ => .bad
  | m + 1, x0, x1, k0 =>
    impl_KeyOk m x0
    (fun y0 => cond (y0.bool == true)
    (k0 (T.b (decide ((x1.str.size : Int) ≤ 20))))
    (k0 (T.b false)))
noncomputable def impl_PairOk_f : Fs := ⟨50, [.agg [AS, AS]], fun m vs k => ap 2 (impl_PairOk m) vs (lm 1 fun z => k (fRet ⟨[.one (RB)], [[none, none]], [none]⟩ z))⟩
noncomputable def impl_PairOk_t : List Fs := impl_PairOk_f :: impl_KeyOk_t
theorem impl_PairOk_g : FGood CX prims impl_PairOk_t ∧ FEqn CX prims impl_PairOk_f := fnG impl_KeyOk_g.1 impl_PairOk_f Try.f50 ⟨50, 1, 12, 4⟩ [] (fun _ _ => rfl) (fun _ _ _ => by kernel_rfl) trivial trivial (fun _ _ _ _ _ => by kernel_rfl)

/-! loop.example/g00244/impl.PairsOk -/
noncomputable def impl_PairsOk_L0_0 (m : Nat) : Nat → T → T → T → T → (T → An) → (T → An) → An
  | 0, _, _, _, _, _, _ => .bad
  | n + 1, x0, x1, x2, x3, k0, k1 =>
    cond (decide (x3.int < x2.int))
    (cond (decide ((0 : Int) ≤ x3.int ∧ x3.int < (x1.rows.length : Int)))
    (impl_PairOk m ((x1.rows.getD (Int.toNat x3.int) []).getD 0 dflt) ((x1.rows.getD (Int.toNat x3.int) []).getD 1 dflt)
    (fun y0 => cond ((!y0.bool) == false)
    (cond ((decide (x3.int > 0)) == true)
    (cond (decide ((0 : Int) ≤ (IntKind.i64.wrap (x3.int - 1)) ∧ (IntKind.i64.wrap (x3.int - 1)) < (x0.rows.length : Int)))
    (cond ((Op.bytesLess ((x1.rows.getD (Int.toNat x3.int) []).getD 0 dflt).str.toList ((x0.rows.getD (Int.toNat (IntKind.i64.wrap (x3.int - 1))) []).getD 0 dflt).str.toList) || (((x1.rows.getD (Int.toNat x3.int) []).getD 0 dflt).str.toList == ((x0.rows.getD (Int.toNat (IntKind.i64.wrap (x3.int - 1))) []).getD 0 dflt).str.toList))
    (k0 (T.b false))
    (impl_PairsOk_L0_0 m n x0 x1 x2 (T.i (IntKind.i64.wrap (x3.int + 1))) k0 k1))
    (.bad))
    (impl_PairsOk_L0_0 m n x0 x1 x2 (T.i (IntKind.i64.wrap (x3.int + 1))) k0 k1))
    (k0 (T.b false))))
    (.bad))
    (k1 x0)
noncomputable def impl_PairsOk : Nat → T → (T → An) → An
  | 0, _, _ => .bad
  | m + 1, x0, k0 =>
    impl_PairsOk_L0_0 m m (T.l x0.rows) (T.l x0.rows) (T.i (x0.rows.length : Int)) (T.i 0)
    (fun y2 => k0 y2)
    (fun y3 => k0 (T.b (decide ((y3.rows.length : Int) ≤ 60))))
noncomputable def impl_PairsOk_f : Fs := ⟨37, [.one (.dz [.sc (.str), .sc (.str)] [])], fun m vs k => ap 1 (impl_PairsOk m) vs (lm 1 fun z => k (fRet ⟨[.one (RB)], [[none]], [none]⟩ z))⟩
noncomputable def impl_PairsOk_l : List Ls := [⟨[0, 1, 0, 1], ⟨[(0, .one (LD [.sc (.str), .sc (.str)])), (5, .one (LD [.sc (.str), .sc (.str)])), (6, .one (LI)), (7, .one (LI))], [([4000000], .gone)]⟩, fun m n vs k => ap 4 (impl_PairsOk_L0_0 m n) vs (lm 1 fun z => k .ret (fPack ⟨[(2, .one (LB))], []⟩ z)) (lm 1 fun z => k (.exit 0) (fPack ⟨[(0, .one (LD [.sc (.str), .sc (.str)]))], [([4000000], .gone)]⟩ z))⟩]
noncomputable def impl_PairsOk_t : List Fs := impl_PairsOk_f :: impl_PairOk_t
theorem impl_PairsOk_g : FGood CX prims impl_PairsOk_t ∧ FEqn CX prims impl_PairsOk_f := fnG impl_PairOk_g.1 impl_PairsOk_f Try.f37 ⟨37, 1, 34, 4⟩ impl_PairsOk_l (fun _ _ => rfl) (fun _ _ _ => by kernel_rfl) ⟨fun _ _ _ => rfl, trivial⟩ ⟨fun _ _ _ _ _ _ => by kernel_rfl, trivial⟩ (fun _ _ _ _ _ => by kernel_rfl)

/-! loop.example/g00244/impl.isBetween -/
noncomputable def impl_isBetween : Nat → T → T → T → (T → An) → An
  | 0, _, _, _, _ => .bad
  | m + 1, x0, x1, x2, k0 =>
    cond ((!(Op.bytesLess x0.str.toList x1.str.toList)) == true)
    (cond ((x2.str.toList == (⟨#[]⟩ : ByteArray).toList) == false)
    (k0 (T.b (Op.bytesLess x0.str.toList x2.str.toList)))
    (k0 (T.b true)))
    (k0 (T.b false))
noncomputable def impl_isBetween_f : Fs := ⟨38, [.one (AS), .one (AS), .one (AS)], fun m vs k => ap 3 (impl_isBetween m) vs (lm 1 fun z => k (fRet ⟨[.one (RB)], [[none], [none], [none]], [none, none, none]⟩ z))⟩
noncomputable def impl_isBetween_t : List Fs := impl_isBetween_f :: impl_PairsOk_t
theorem impl_isBetween_g : FGood CX prims impl_isBetween_t ∧ FEqn CX prims impl_isBetween_f := fnG impl_PairsOk_g.1 impl_isBetween_f Try.f38 ⟨38, 3, 19, 64⟩ [] (fun _ _ => rfl) (fun _ _ _ => by kernel_rfl) trivial trivial (fun _ _ _ _ _ => by kernel_rfl)

/-! loop.example/g00244/impl.half -/
noncomputable def impl_half_L0_0 (m : Nat) : Nat → T → T → (T → An) → An
  | 0, _, _, _ => .bad
  | n + 1, x0, x1, k0 =>
    cond (decide ((IntKind.i64.wrap (2 * x1.int)) < x0.int))
    (impl_half_L0_0 m n x0 (T.i (IntKind.i64.wrap (x1.int * 2))) k0)
    (k0 x1)
noncomputable def impl_half : Nat → T → (T → An) → An
  | 0, _, _ => .bad
  | m + 1, x0, k0 =>
    impl_half_L0_0 m m x0 (T.i 1)
    (fun y0 => k0 y0)
noncomputable def impl_half_f : Fs := ⟨51, [.one (AI)], fun m vs k => ap 1 (impl_half m) vs (lm 1 fun z => k (fRet ⟨[.one (RI)], [[none]], [none]⟩ z))⟩
noncomputable def impl_half_l : List Ls := [⟨[0, 0, 1, 1], ⟨[(0, .one (LI)), (3, .one (LI))], []⟩, fun m n vs k => ap 2 (impl_half_L0_0 m n) vs (lm 1 fun z => k (.exit 0) (fPack ⟨[(3, .one (LI))], []⟩ z))⟩]
noncomputable def impl_half_t : List Fs := impl_half_f :: impl_isBetween_t
theorem impl_half_g : FGood CX prims impl_half_t ∧ FEqn CX prims impl_half_f := fnG impl_isBetween_g.1 impl_half_f Try.f51 ⟨51, 1, 11, 4⟩ impl_half_l (fun _ _ => rfl) (fun _ _ _ => by kernel_rfl) ⟨fun _ _ _ => rfl, trivial⟩ ⟨fun _ _ _ _ _ _ => by kernel_rfl, trivial⟩ (fun _ _ _ _ _ => by kernel_rfl)

/-! loop.example/g00244/impl.putNum -/
noncomputable def impl_putNum_L0_1 (m : Nat) : Nat → T → T → (T → T → An) → (T → T → An) → An
  | 0, _, _, _, _ => .bad
  | n + 1, x0, x1, k0, k1 =>
    cond (decide (x0.int > 127))
    (cond (decide ((x1.rows.length + 1) * 1 ≤ maxRow))
    (impl_putNum_L0_1 m n (T.i (Int.fdiv x0.int (2 ^ (min (Int.toNat 7) IntKind.i64.bits)))) (T.l (x1.rows ++ [[(T.i (IntKind.u8.wrap (bvBack .i64 (BitVec.ofInt IntKind.i64.bits 128 ||| BitVec.ofInt IntKind.i64.bits (bvBack .i64 (BitVec.ofInt IntKind.i64.bits x0.int &&& BitVec.ofInt IntKind.i64.bits 127)).int)).int))]])) k0 k1)
    (.bad))
    (k0 x0 (T.l x1.rows))
noncomputable def impl_putNum_L0_0 (m : Nat) : Nat → T → T → (T → T → An) → (T → T → An) → An
  | 0, _, _, _, _ => .bad
  | n + 1, x0, x1, k0, k1 =>
    cond (decide (x0.int > 127))
    (cond (decide ((x1.rows.length + 1) * 1 ≤ maxRow))
    (impl_putNum_L0_1 m n (T.i (Int.fdiv x0.int (2 ^ (min (Int.toNat 7) IntKind.i64.bits)))) (T.l (x1.rows ++ [[(T.i (IntKind.u8.wrap (bvBack .i64 (BitVec.ofInt IntKind.i64.bits 128 ||| BitVec.ofInt IntKind.i64.bits (bvBack .i64 (BitVec.ofInt IntKind.i64.bits x0.int &&& BitVec.ofInt IntKind.i64.bits 127)).int)).int))]])) k0 k1)
    (.bad))
    (k1 x0 (T.l x1.rows))
def impl_putNum_e0_0 : Pack := ⟨[(0, .one (LA (KI 0) [.sc (.int .u8)])), (1, .one (LI))], [((KI 0), .row [.sc (.int .u8)] [.F] [])]⟩
def impl_putNum_e0_1 : Pack := ⟨[(0, .one (LA [0, 0] [.sc (.int .u8)])), (1, .one (LI))], [([0, 0], .row [.sc (.int .u8)] [.F] [])]⟩
noncomputable def impl_putNum : Nat → T → T → (T → An) → An
  | 0, _, _, _ => .bad
  | m + 1, x0, x1, k0 =>
    impl_putNum_L0_0 m m (T.i (maxI 0 (minI x1.int 1000000000))) (T.l x0.rows)
    (fun y0 y1 => cond (decide ((y1.rows.length + 1) * 1 ≤ maxRow))
    (k0 (T.l (y1.rows ++ [[(T.i (IntKind.u8.wrap y0.int))]])))
    (.bad))
    (fun y2 y3 => cond (decide ((y3.rows.length + 1) * 1 ≤ maxRow))
    (k0 (T.l (y3.rows ++ [[(T.i (IntKind.u8.wrap y2.int))]])))
    (.bad))
noncomputable def impl_putNum_f : Fs := ⟨88, [.one (.own [.sc (.int .u8)] [.F] []), .one (AI)], fun m vs k => ap 2 (impl_putNum m) vs (lm 1 fun z => k (fRet ⟨[.one (.own (KR 0 0) [.sc (.int .u8)] [.F] [])], [[none], [none]], [none, none]⟩ z))⟩
noncomputable def impl_putNum_l : List Ls := [⟨[0, 0, 1, 1], ⟨[(0, .one (LA (KI 0) [.sc (.int .u8)])), (1, .one (LI))], [((KI 0), .row [.sc (.int .u8)] [.F] [])]⟩, fun m n vs k => ap 2 (impl_putNum_L0_1 m n) vs (lm 2 fun z => k (.exit 0) (fPack impl_putNum_e0_0 z)) (lm 2 fun z => k (.exit 0) (fPack impl_putNum_e0_1 z))⟩, ⟨[0, 0, 1, 1], ⟨[(0, .one (LA [0, 0] [.sc (.int .u8)])), (1, .one (LI))], [([0, 0], .row [.sc (.int .u8)] [.F] [])]⟩, fun m n vs k => ap 2 (impl_putNum_L0_0 m n) vs (lm 2 fun z => k (.exit 0) (fPack impl_putNum_e0_0 z)) (lm 2 fun z => k (.exit 0) (fPack impl_putNum_e0_1 z))⟩]
noncomputable def impl_putNum_t : List Fs := impl_putNum_f :: impl_half_t
theorem impl_putNum_g : FGood CX prims impl_putNum_t ∧ FEqn CX prims impl_putNum_f := fnG impl_half_g.1 impl_putNum_f Try.f88 ⟨88, 2, 24, 17⟩ impl_putNum_l (fun _ _ => rfl) (fun _ _ _ => by kernel_rfl) ⟨fun _ _ _ => rfl, fun _ _ _ => rfl, trivial⟩ ⟨fun _ _ _ _ _ _ => by kernel_rfl, fun _ _ _ _ _ _ => by kernel_rfl, trivial⟩ (fun _ _ _ _ _ => by kernel_rfl)

/-! loop.example/g00244/impl.putText -/
noncomputable def impl_putText : Nat → T → T → (T → An) → An
  | 0, _, _, _ => .bad
  | m + 1, x0, x1, k0 =>
    impl_putNum m (T.l x0.rows) (T.i (x1.str.size : Int))
    (fun y0 => cond (decide ((y0.rows.length + (bytesRows x1.str).length) * 1 ≤ maxRow))
    (k0 (T.l (y0.rows ++ (bytesRows x1.str))))
    (.bad))
noncomputable def impl_putText_f : Fs := ⟨86, [.one (.own [.sc (.int .u8)] [.F] []), .one (AS)], fun m vs k => ap 2 (impl_putText m) vs (lm 1 fun z => k (fRet ⟨[.one (.own (KR 0 0) [.sc (.int .u8)] [.F] [])], [[none], [none]], [none, none]⟩ z))⟩
noncomputable def impl_putText_t : List Fs := impl_putText_f :: impl_putNum_t
theorem impl_putText_g : FGood CX prims impl_putText_t ∧ FEqn CX prims impl_putText_f := fnG impl_putNum_g.1 impl_putText_f Try.f86 ⟨86, 2, 11, 17⟩ [] (fun _ _ => rfl) (fun _ _ _ => by kernel_rfl) trivial trivial (fun _ _ _ _ _ => by kernel_rfl)

/-! loop.example/g00244/impl.leafBytes -/
noncomputable def impl_leafBytes : Nat → T → T → (T → An) → An
  | 0, _, _, _ => .bad
  | m + 1, x0, x1, k0 =>
    impl_putText m (T.l [[(T.i 0)]]) x0
    (fun y0 => impl_putText m (T.l y0.rows) x1
    (fun y1 => k0 (T.l y1.rows)))
noncomputable def impl_leafBytes_f : Fs := ⟨76, [.agg [AS, AS]], fun m vs k => ap 2 (impl_leafBytes m) vs (lm 1 fun z => k (fRet ⟨[.one (.own (KR 0 0) [.sc (.int .u8)] [.F] [])], [[none, none]], [none]⟩ z))⟩
noncomputable def impl_leafBytes_t : List Fs := impl_leafBytes_f :: impl_putText_t
theorem impl_leafBytes_g : FGood CX prims impl_leafBytes_t ∧ FEqn CX prims impl_leafBytes_f := fnG impl_putText_g.1 impl_leafBytes_f Try.f76 ⟨76, 1, 10, 4⟩ [] (fun _ _ => rfl) (fun _ _ _ => by kernel_rfl) trivial trivial (fun _ _ _ _ _ => by kernel_rfl)

/-! loop.example/g00244/impl.LeafOf -/
noncomputable def impl_LeafOf : Nat → T → T → (T → An) → An
  | 0, _, _, _ => .bad
  | m + 1, x0, x1, k0 =>
    impl_leafBytes m x0 x1
    (fun y0 => impl_Digest m (T.l y0.rows)
    (fun y1 => k0 y1))
noncomputable def impl_LeafOf_f : Fs := ⟨61, [.agg [AS, AS]], fun m vs k => ap 2 (impl_LeafOf m) vs (lm 1 fun z => k (fRet ⟨[.one (RS)], [[none, none]], [none]⟩ z))⟩
noncomputable def impl_LeafOf_t : List Fs := impl_LeafOf_f :: impl_leafBytes_t
theorem impl_LeafOf_g : FGood CX prims impl_LeafOf_t ∧ FEqn CX prims impl_LeafOf_f := fnG impl_leafBytes_g.1 impl_LeafOf_f Try.f61 ⟨61, 1, 6, 4⟩ [] (fun _ _ => rfl) (fun _ _ _ => by kernel_rfl) trivial trivial (fun _ _ _ _ _ => by kernel_rfl)

/-! loop.example/g00244/impl.nodeBytes -/
noncomputable def impl_nodeBytes : Nat → T → T → (T → An) → An
  | 0, _, _, _ => .bad
  | m + 1, x0, x1, k0 =>
    cond (decide ((1 + (bytesRows x0.str).length) * 1 ≤ maxRow))
    (cond (decide ((([[(T.i 1)]] ++ (bytesRows x0.str)).length + (bytesRows x1.str).length) * 1 ≤ maxRow))
    (k0 (T.l (([[(T.i 1)]] ++ (bytesRows x0.str)) ++ (bytesRows x1.str))))
    (.bad))
    (.bad)
noncomputable def impl_nodeBytes_f : Fs := ⟨77, [.one (AS), .one (AS)], fun m vs k => ap 2 (impl_nodeBytes m) vs (lm 1 fun z => k (fRet ⟨[.one (.own (KR 0 0) [.sc (.int .u8)] [.F] [])], [[none], [none]], [none, none]⟩ z))⟩
noncomputable def impl_nodeBytes_t : List Fs := impl_nodeBytes_f :: impl_LeafOf_t
theorem impl_nodeBytes_g : FGood CX prims impl_nodeBytes_t ∧ FEqn CX prims impl_nodeBytes_f := fnG impl_LeafOf_g.1 impl_nodeBytes_f Try.f77 ⟨77, 2, 10, 16⟩ [] (fun _ _ => rfl) (fun _ _ _ => by kernel_rfl) trivial trivial (fun _ _ _ _ _ => by kernel_rfl)

/-! loop.example/g00244/impl.NodeOf -/
noncomputable def impl_NodeOf : Nat → T → T → (T → An) → An
  | 0, _, _, _ => .bad
  | m + 1, x0, x1, k0 =>
    impl_nodeBytes m x0 x1
    (fun y0 => impl_Digest m (T.l y0.rows)
    (fun y1 => k0 y1))
noncomputable def impl_NodeOf_f : Fs := ⟨62, [.one (AS), .one (AS)], fun m vs k => ap 2 (impl_NodeOf m) vs (lm 1 fun z => k (fRet ⟨[.one (RS)], [[none], [none]], [none, none]⟩ z))⟩
noncomputable def impl_NodeOf_t : List Fs := impl_NodeOf_f :: impl_nodeBytes_t
theorem impl_NodeOf_g : FGood CX prims impl_NodeOf_t ∧ FEqn CX prims impl_NodeOf_f := fnG impl_nodeBytes_g.1 impl_NodeOf_f Try.f62 ⟨62, 2, 9, 16⟩ [] (fun _ _ => rfl) (fun _ _ _ => by kernel_rfl) trivial trivial (fun _ _ _ _ _ => by kernel_rfl)

/-! loop.example/g00244/impl.innerOf -/
noncomputable def impl_innerOf : Nat → T → (T → An) → An
  | 0, _, _ => .bad
  | m + 1, x0, k0 =>
    cond ((x0.rows.length : Int) == 0)
    (impl_Digest_nil m (T.l [])
    (fun y0 => k0 y0))
    (cond ((x0.rows.length : Int) == 1)
    (cond (decide ((0 : Int) ≤ 0 ∧ 0 < (x0.rows.length : Int)))
    (impl_LeafOf m ((x0.rows.getD 0 []).getD 0 dflt) ((x0.rows.getD 0 []).getD 1 dflt)
    (fun y1 => k0 y1))
    (.bad))
    (impl_half m (T.i (x0.rows.length : Int))
    (fun y2 => cond (decide ((0 : Int) ≤ y2.int ∧ y2.int ≤ (x0.rows.length : Int)))
    (cond (decide ((0 : Int) ≤ 0 ∧ 0 ≤ y2.int))
    (impl_innerOf m (T.l (x0.rows.take (Int.toNat y2.int)))
    (fun y3 => cond (decide ((0 : Int) ≤ (x0.rows.length : Int) ∧ (x0.rows.length : Int) ≤ (x0.rows.length : Int)))
    (cond (decide ((0 : Int) ≤ y2.int ∧ y2.int ≤ (x0.rows.length : Int)))
    (impl_innerOf m (T.l ((x0.rows.take (Int.toNat (x0.rows.length : Int))).drop (Int.toNat y2.int)))
    (fun y4 => impl_NodeOf m y3 y4
    (fun y5 => k0 y5)))
    (.bad))
    (.bad)))
    (.bad))
    (.bad))))
noncomputable def impl_innerOf_f : Fs := ⟨52, [.one (.dz [.sc (.str), .sc (.str)] [])], fun m vs k => ap 1 (impl_innerOf m) vs (lm 1 fun z => k (fRet ⟨[.one (RS)], [[none]], [none]⟩ z))⟩
noncomputable def impl_innerOf_t : List Fs := impl_innerOf_f :: impl_NodeOf_t
theorem impl_innerOf_g : FGood CX prims impl_innerOf_t ∧ FEqn CX prims impl_innerOf_f := fnG impl_NodeOf_g.1 impl_innerOf_f Try.f52 ⟨52, 1, 27, 4⟩ [] (fun _ _ => rfl) (fun _ _ _ => by kernel_rfl) trivial trivial (fun _ _ _ _ _ => by kernel_rfl)

/-! loop.example/g00244/impl.pathOf -/
noncomputable def impl_pathOf : Nat → T → T → (T → An) → An
  | 0, _, _, _ => .bad
  | m + 1, x0, x1, k0 =>
    cond ((x0.rows.length : Int) == 1)
    (k0 (T.l []))
    (impl_half m (T.i (x0.rows.length : Int))
    (fun y0 => cond (decide (x1.int < y0.int))
    (cond (decide ((0 : Int) ≤ y0.int ∧ y0.int ≤ (x0.rows.length : Int)))
    (cond (decide ((0 : Int) ≤ 0 ∧ 0 ≤ y0.int))
    (impl_pathOf m (T.l (x0.rows.take (Int.toNat y0.int))) x1
    (fun y1 => cond (decide ((0 : Int) ≤ (x0.rows.length : Int) ∧ (x0.rows.length : Int) ≤ (x0.rows.length : Int)))
    (cond (decide ((0 : Int) ≤ y0.int ∧ y0.int ≤ (x0.rows.length : Int)))
    (impl_innerOf m (T.l ((x0.rows.take (Int.toNat (x0.rows.length : Int))).drop (Int.toNat y0.int)))
    (fun y2 => cond (decide ((y1.rows.length + 1) * 1 ≤ maxRow))
    (k0 (T.l (y1.rows ++ [[y2]])))
    (.bad)))
    (.bad))
    (.bad)))
    (.bad))
    (.bad))
    (cond (decide ((0 : Int) ≤ (x0.rows.length : Int) ∧ (x0.rows.length : Int) ≤ (x0.rows.length : Int)))
    (cond (decide ((0 : Int) ≤ y0.int ∧ y0.int ≤ (x0.rows.length : Int)))
    (impl_pathOf m (T.l ((x0.rows.take (Int.toNat (x0.rows.length : Int))).drop (Int.toNat y0.int))) (T.i (IntKind.i64.wrap (x1.int - y0.int)))
    (fun y3 => cond (decide ((0 : Int) ≤ y0.int ∧ y0.int ≤ (x0.rows.length : Int)))
    (cond (decide ((0 : Int) ≤ 0 ∧ 0 ≤ y0.int))
    (impl_innerOf m (T.l (x0.rows.take (Int.toNat y0.int)))
    (fun y4 => cond (decide ((y3.rows.length + 1) * 1 ≤ maxRow))
    (k0 (T.l (y3.rows ++ [[y4]])))
    (.bad)))
    (.bad))
    (.bad)))
    (.bad))
    (.bad))))
noncomputable def impl_pathOf_f : Fs := ⟨39, [.one (.dz [.sc (.str), .sc (.str)] []), .one (AI)], fun m vs k => ap 2 (impl_pathOf m) vs (lm 1 fun z => k (fRet ⟨[.one (.own (KR 0 0) [.sc (.str)] [.F] [])], [[none], [none]], [none, none]⟩ z))⟩
noncomputable def impl_pathOf_t : List Fs := impl_pathOf_f :: impl_innerOf_t
theorem impl_pathOf_g : FGood CX prims impl_pathOf_t ∧ FEqn CX prims impl_pathOf_f := fnG impl_innerOf_g.1 impl_pathOf_f Try.f39 ⟨39, 2, 39, 16⟩ [] (fun _ _ => rfl) (fun _ _ _ => by kernel_rfl) trivial trivial (fun _ _ _ _ _ => by kernel_rfl)

/-! loop.example/g00244/impl.ProveBetween -/
noncomputable def impl_ProveBetween_L2_0 (m : Nat) : Nat → T → T → T → T → T → T → T → T → T → T → T → T → (T → T → T → T → T → T → T → T → T → An) → An
  | 0, _, _, _, _, _, _, _, _, _, _, _, _, _ => .bad
  | n + 1, x0, x1, x2, x3, x4, x5, x6, x7, x8, x9, x10, x11, k0 =>
    cond (decide (x5.int < x3.int))
    (cond (decide ((0 : Int) ≤ x5.int ∧ x5.int < (x0.rows.length : Int)))
    (impl_pathOf m (T.l x0.rows) x5
    (fun y21 => cond (decide ((x11.rows.length + 1) * 3 ≤ maxRow))
    (impl_ProveBetween_L2_0 m n x0 (T.i (x1.int.toNat : Int)) x2 x3 (T.i (x4.int.toNat : Int)) (T.i (IntKind.i64.wrap (x5.int + 1))) x6 x7 x8 x9 (T.l x10.rows) (T.l (x11.rows ++ [[((x0.rows.getD (Int.toNat x5.int) []).getD 0 dflt), ((x0.rows.getD (Int.toNat x5.int) []).getD 1 dflt), (T.l y21.rows)]])) k0)
    (.bad)))
    (.bad))
    (k0 (T.i (x1.int.toNat : Int)) x2 (T.i (x4.int.toNat : Int)) x6 x7 x8 x9 (T.l x10.rows) (T.l x11.rows))
noncomputable def impl_ProveBetween_L1_0 (m : Nat) : Nat → T → T → T → T → T → T → T → T → T → (T → T → T → T → T → T → T → An) → An
  | 0, _, _, _, _, _, _, _, _, _, _ => .bad
  | n + 1, x0, x1, x2, x3, x4, x5, x6, x7, x8, k0 =>
    (fun (j13 : An) =>
    cond ((decide (x5.int < (x0.rows.length : Int))) == true)
    (cond (decide ((0 : Int) ≤ x5.int ∧ x5.int < (x0.rows.length : Int)))
    (impl_isBetween m ((x0.rows.getD (Int.toNat x5.int) []).getD 0 dflt) x1 x2
    (fun y11 => cond y11.bool
    (j13)
    (k0 x0 (T.i (x3.int.toNat : Int)) x4 x5 x6 x7 (T.l x8.rows))))
    (.bad))
    (k0 x0 (T.i (x3.int.toNat : Int)) x4 x5 x6 x7 (T.l x8.rows)))
    (impl_ProveBetween_L1_0 m n x0 x1 x2 (T.i (x3.int.toNat : Int)) x4 (T.i (IntKind.i64.wrap (x5.int + 1))) x6 x7 (T.l x8.rows) k0)
noncomputable def impl_ProveBetween_L0_0 (m : Nat) : Nat → T → T → T → T → T → T → T → T → (T → T → T → T → T → T → T → T → An) → An
  | 0, _, _, _, _, _, _, _, _, _ => .bad
  | n + 1, x0, x1, x2, x3, x4, x5, x6, x7, k0 =>
    (fun (j2 : An) =>
    cond ((decide (x4.int < (x0.rows.length : Int))) == true)
    (cond (decide ((0 : Int) ≤ x4.int ∧ x4.int < (x0.rows.length : Int)))
    (cond (Op.bytesLess ((x0.rows.getD (Int.toNat x4.int) []).getD 0 dflt).str.toList x1.str.toList)
    (j2)
    (k0 x0 x1 x2 (T.i (x3.int.toNat : Int)) x4 x5 x6 (T.l x7.rows)))
    (.bad))
    (k0 x0 x1 x2 (T.i (x3.int.toNat : Int)) x4 x5 x6 (T.l x7.rows)))
    (impl_ProveBetween_L0_0 m n x0 x1 x2 (T.i (x3.int.toNat : Int)) (T.i (IntKind.i64.wrap (x4.int + 1))) x5 x6 (T.l x7.rows) k0)
noncomputable def impl_ProveBetween : Nat → T → T → T → (T → T → T → An) → An
  | 0, _, _, _, _ => .bad
  | m + 1, x0, x1, x2, k0 =>
    impl_PairsOk m (T.l x0.rows)
    (fun y0 => cond (!y0.bool)
    (k0 (T.i 0) (T.i 0) (T.l []))
    (impl_ProveBetween_L0_0 m m (T.l x0.rows) x1 x2 (T.i 0) (T.i 0) (T.i 0) (T.i 0) (T.l [])
    (fun y3 y4 y5 y6 y7 y8 y9 y10 => impl_ProveBetween_L1_0 m m y3 y4 y5 (T.i (y6.int.toNat : Int)) y7 y7 y8 y9 (T.l y10.rows)
    (fun y14 y15 y16 y17 y18 y19 y20 => impl_ProveBetween_L2_0 m m y14 (T.i (y15.int.toNat : Int)) (T.i (maxI (IntKind.i64.wrap (y16.int - 1)) 0)) (T.i (minI (IntKind.i64.wrap (y17.int + 1)) (y14.rows.length : Int))) (T.i 0) (T.i (maxI (IntKind.i64.wrap (y16.int - 1)) 0)) y18 y19 (T.i (y14.rows.length : Int)) (T.i 0) (T.l y20.rows) (T.l [])
    (fun y22 y23 y24 y25 y26 y27 y28 y29 y30 => cond (decide ((y30.rows.length : Int) > 0))
    (k0 y27 y23 (T.l y30.rows))
    (k0 y27 y28 (T.l y30.rows)))))))
noncomputable def impl_ProveBetween_f : Fs := ⟨23, [.one (.dz [.sc (.str), .sc (.str)] []), .one (AS), .one (AS)], fun m vs k => ap 3 (impl_ProveBetween m) vs (lm 3 fun z => k (fRet ⟨[.agg [RI, RI, .own (KR 0 2) [.sc (.str), .sc (.str), .sl [.sc (.str)]] [.F, .F, .O [.F]] []]], [[none], [none], [none]], [none, none, none]⟩ z))⟩
noncomputable def impl_ProveBetween_l : List Ls := [⟨[0, 1, 0, 1, 1, 1, 1, 1, 1, 1, 1, 1], ⟨[(0, .one (LD [.sc (.str), .sc (.str)])), (6, EP 1), (7, .one (LI)), (8, .one (LI)), (9, EP 2), (10, .one (LI))], [([4000000], .gone), ((KI 1), .box [LI, LI, LA (KI 3) [.sc (.str), .sc (.str), .sl [.sc (.str)]]]), ((KI 2), .box [LI, LI, LA (KI 4) [.sc (.str), .sc (.str), .sl [.sc (.str)]]]), ((KI 3), .row [.sc (.str), .sc (.str), .sl [.sc (.str)]] [.F, .F, .O [.F]] []), ((KI 4), .row [.sc (.str), .sc (.str), .sl [.sc (.str)]] [.F, .F, .O [.F]] [])]⟩, fun m n vs k => ap 12 (impl_ProveBetween_L2_0 m n) vs (lm 9 fun z => k (.exit 4) (fPack ⟨[(6, EP 0), (7, .one (LI)), (9, EP 1)], [((KI 0), .box [LI, LI, LA (KI 2) [.sc (.str), .sc (.str), .sl [.sc (.str)]]]), ((KI 1), .box [LI, LI, LA (KI 3) [.sc (.str), .sc (.str), .sl [.sc (.str)]]]), ((KI 2), .row [.sc (.str), .sc (.str), .sl [.sc (.str)]] [.F, .F, .O [.F]] []), ((KI 3), .row [.sc (.str), .sc (.str), .sl [.sc (.str)]] [.F, .F, .O [.F]] [])]⟩ z))⟩, ⟨[0, 0, 1, 1, 1, 1, 1], ⟨[(0, .one (LD [.sc (.str), .sc (.str)])), (1, .one (LS)), (2, .one (LS)), (6, EP 1), (7, .one (LI)), (8, .one (LI))], [([4000000], .gone), ((KI 1), .box [LI, LI, LA (KI 2) [.sc (.str), .sc (.str), .sl [.sc (.str)]]]), ((KI 2), .row [.sc (.str), .sc (.str), .sl [.sc (.str)]] [.F, .F, .O [.F]] [])]⟩, fun m n vs k => ap 9 (impl_ProveBetween_L1_0 m n) vs (lm 7 fun z => k (.exit 2) (fPack ⟨[(0, .one (LD [.sc (.str), .sc (.str)])), (6, EP 1), (7, .one (LI)), (8, .one (LI))], [([4000000], .gone), ((KI 1), .box [LI, LI, LA (KI 2) [.sc (.str), .sc (.str), .sl [.sc (.str)]]]), ((KI 2), .row [.sc (.str), .sc (.str), .sl [.sc (.str)]] [.F, .F, .O [.F]] [])]⟩ z))⟩, ⟨[0, 0, 1, 1, 1], ⟨[(0, .one (LD [.sc (.str), .sc (.str)])), (1, .one (LS)), (2, .one (LS)), (6, EP 1), (7, .one (LI))], [([4000000], .gone), ((KI 1), .box [LI, LI, LA (KI 2) [.sc (.str), .sc (.str), .sl [.sc (.str)]]]), ((KI 2), .row [.sc (.str), .sc (.str), .sl [.sc (.str)]] [.F, .F, .O [.F]] [])]⟩, fun m n vs k => ap 8 (impl_ProveBetween_L0_0 m n) vs (lm 8 fun z => k (.exit 0) (fPack ⟨[(0, .one (LD [.sc (.str), .sc (.str)])), (1, .one (LS)), (2, .one (LS)), (6, EP 1), (7, .one (LI))], [([4000000], .gone), ((KI 1), .box [LI, LI, LA (KI 2) [.sc (.str), .sc (.str), .sl [.sc (.str)]]]), ((KI 2), .row [.sc (.str), .sc (.str), .sl [.sc (.str)]] [.F, .F, .O [.F]] [])]⟩ z))⟩]
noncomputable def impl_ProveBetween_t : List Fs := impl_ProveBetween_f :: impl_pathOf_t
theorem impl_ProveBetween_g : FGood CX prims impl_ProveBetween_t ∧ FEqn CX prims impl_ProveBetween_f := fnG impl_pathOf_g.1 impl_ProveBetween_f Try.f23 ⟨23, 3, 84, 64⟩ impl_ProveBetween_l (fun _ _ => rfl) (fun _ _ _ => by kernel_rfl) ⟨fun _ _ _ => rfl, fun _ _ _ => rfl, fun _ _ _ => rfl, trivial⟩ ⟨fun _ _ _ _ _ _ => by kernel_rfl, fun _ _ _ _ _ _ => by kernel_rfl, fun _ _ _ _ _ _ => by kernel_rfl, trivial⟩ (fun _ _ _ _ _ => by kernel_rfl)

/-! loop.example/g00244/impl.MakeBundle -/
noncomputable def impl_MakeBundle_L0_0 (m : Nat) : Nat → T → T → T → T → T → T → T → T → T → T → T → T → T → T → T → (T → T → T → T → T → T → T → T → T → T → An) → An
  | 0, _, _, _, _, _, _, _, _, _, _, _, _, _, _, _, _ => .bad
  | n + 1, x0, x1, x2, x3, x4, x5, x6, x7, x8, x9, x10, x11, x12, x13, x14, k0 =>
    cond (decide (x6.int < x5.int))
    (cond (decide ((0 : Int) ≤ x6.int ∧ x6.int < (x4.rows.length : Int)))
    (impl_ProveBetween m (T.l ((x4.rows.getD (Int.toNat x6.int) []).getD 0 dflt).rows) x0 x1
    (fun y1 y2 y3 => cond (decide ((x14.rows.length + 1) * 3 ≤ maxRow))
    (impl_MakeBundle_L0_0 m n x0 x1 (T.i (x2.int.toNat : Int)) (T.i (x3.int.toNat : Int)) x4 x5 (T.i (IntKind.i64.wrap (x6.int + 1))) x7 x8 x9 x10 (T.l x11.rows) (T.l x12.rows) (T.l x13.rows) (T.l (x14.rows ++ [[y1, y2, (T.l y3.rows)]])) k0)
    (.bad)))
    (.bad))
    (k0 (T.i (x2.int.toNat : Int)) (T.i (x3.int.toNat : Int)) x7 x8 x9 x10 (T.l x11.rows) (T.l x12.rows) (T.l x13.rows) (T.l x14.rows))
noncomputable def impl_MakeBundle : Nat → T → T → T → T → T → T → T → (T → T → T → T → An) → An
  | 0, _, _, _, _, _, _, _, _ => .bad
  | m + 1, x0, x1, x2, x3, x4, x5, x6, k0 =>
    cond ((x4.rows.length : Int) != (x3.rows.length : Int))
    (k0 (T.i 0) (T.s (⟨#[]⟩ : ByteArray)) (T.l []) (T.l []))
    (slices_Clone___string_string_ m (T.l x3.rows)
    (fun y0 => impl_MakeBundle_L0_0 m m x5 x6 (T.i 0) (T.i 0) (T.l x4.rows) (T.i (x4.rows.length : Int)) (T.i 0) (T.i 0) (T.s (⟨#[]⟩ : ByteArray)) x0 x1 (T.l []) (T.l []) (T.l y0.rows) (T.l [])
    (fun y4 y5 y6 y7 y8 y9 y10 y11 y12 y13 => k0 y8 y9 (T.l y12.rows) (T.l y13.rows))))
noncomputable def impl_MakeBundle_f : Fs := ⟨9, [.agg [AI, AS, AS, .dz [.sc (.str)] []], .one (.dz [.sl [.sc (.str), .sc (.str)]] []), .one (AS), .one (AS)], fun m vs k => ap 7 (impl_MakeBundle m) vs (lm 4 fun z => k (fRet ⟨[.agg [RI, RS, .own (KR 0 2) [.sc (.str)] [.F] [], .own (KR 0 3) [.sc (.int .i64), .sc (.int .i64), .sl [.sc (.str), .sc (.str), .sl [.sc (.str)]]] [.F, .F, .O [.F, .F, .O [.F]]] []]], [[none, none, none, none], [none], [none], [none]], [none, none, none, none]⟩ z))⟩
noncomputable def impl_MakeBundle_l : List Ls := [⟨[0, 1, 0, 1, 1, 1], ⟨[(2, .one (LS)), (3, .one (LS)), (8, EP 0), (9, EP 1), (27, .one (LD [.sl [.sc (.str), .sc (.str)]])), (28, .one (LI)), (29, .one (LI))], [((KI 0), .box [LI, LS, LA (KI 3) [.sc (.str)], LA (KI 4) [.sc (.int .i64), .sc (.int .i64), .sl [.sc (.str), .sc (.str), .sl [.sc (.str)]]]]), ((KI 1), .box [LI, LS, LA (KI 5) [.sc (.str)], LA (KI 6) [.sc (.int .i64), .sc (.int .i64), .sl [.sc (.str), .sc (.str), .sl [.sc (.str)]]]]), ([4000000], .gone), ((KI 3), .row [.sc (.str)] [.F] []), ((KI 4), .row [.sc (.int .i64), .sc (.int .i64), .sl [.sc (.str), .sc (.str), .sl [.sc (.str)]]] [.F, .F, .O [.F, .F, .O [.F]]] []), ((KI 5), .row [.sc (.str)] [.F] []), ((KI 6), .row [.sc (.int .i64), .sc (.int .i64), .sl [.sc (.str), .sc (.str), .sl [.sc (.str)]]] [.F, .F, .O [.F, .F, .O [.F]]] [])]⟩, fun m n vs k => ap 15 (impl_MakeBundle_L0_0 m n) vs (lm 10 fun z => k (.exit 0) (fPack ⟨[(8, EP 0), (9, EP 1)], [((KI 0), .box [LI, LS, LA (KI 2) [.sc (.str)], LA (KI 3) [.sc (.int .i64), .sc (.int .i64), .sl [.sc (.str), .sc (.str), .sl [.sc (.str)]]]]), ((KI 1), .box [LI, LS, LA (KI 4) [.sc (.str)], LA (KI 5) [.sc (.int .i64), .sc (.int .i64), .sl [.sc (.str), .sc (.str), .sl [.sc (.str)]]]]), ((KI 2), .row [.sc (.str)] [.F] []), ((KI 3), .row [.sc (.int .i64), .sc (.int .i64), .sl [.sc (.str), .sc (.str), .sl [.sc (.str)]]] [.F, .F, .O [.F, .F, .O [.F]]] []), ((KI 4), .row [.sc (.str)] [.F] []), ((KI 5), .row [.sc (.int .i64), .sc (.int .i64), .sl [.sc (.str), .sc (.str), .sl [.sc (.str)]]] [.F, .F, .O [.F, .F, .O [.F]]] [])]⟩ z))⟩]
noncomputable def impl_MakeBundle_t : List Fs := impl_MakeBundle_f :: impl_ProveBetween_t
theorem impl_MakeBundle_g : FGood CX prims impl_MakeBundle_t ∧ FEqn CX prims impl_MakeBundle_f := fnG impl_ProveBetween_g.1 impl_MakeBundle_f Try.f9 ⟨9, 4, 45, 256⟩ impl_MakeBundle_l (fun _ _ => rfl) (fun _ _ _ => by kernel_rfl) ⟨fun _ _ _ => rfl, trivial⟩ ⟨fun _ _ _ _ _ _ => by kernel_rfl, trivial⟩ (fun _ _ _ _ _ => by kernel_rfl)

/-! loop.example/g00244/laws.eqStringS -/
noncomputable def laws_eqStringS_L0_0 (m : Nat) : Nat → T → T → T → (T → An) → An → An
  | 0, _, _, _, _, _ => .bad
  | n + 1, x0, x1, x2, k0, k1 =>
    cond (decide (x2.int < (x0.rows.length : Int)))
    (cond (decide ((0 : Int) ≤ x2.int ∧ x2.int < (x0.rows.length : Int)))
    (cond (decide ((0 : Int) ≤ x2.int ∧ x2.int < (x1.rows.length : Int)))
    (cond (!(((x0.rows.getD (Int.toNat x2.int) []).getD 0 dflt).str.toList == ((x1.rows.getD (Int.toNat x2.int) []).getD 0 dflt).str.toList))
    (k0 (T.b false))
    (laws_eqStringS_L0_0 m n x0 x1 (T.i (IntKind.i64.wrap (x2.int + 1))) k0 k1))
    (.bad))
    (.bad))
    (k1 )
noncomputable def laws_eqStringS : Nat → T → T → (T → An) → An
  | 0, _, _, _ => .bad
  | m + 1, x0, x1, k0 =>
    cond ((x0.rows.length : Int) != (x1.rows.length : Int))
    (k0 (T.b false))
    (laws_eqStringS_L0_0 m m (T.l x0.rows) (T.l x1.rows) (T.i 0)
    (fun y0 => k0 y0)
    (k0 (T.b true)))
noncomputable def laws_eqStringS_f : Fs := ⟨24, [.one (.dz [.sc (.str)] []), .one (.dz [.sc (.str)] [])], fun m vs k => ap 2 (laws_eqStringS m) vs (lm 1 fun z => k (fRet ⟨[.one (RB)], [[none], [none]], [none, none]⟩ z))⟩
noncomputable def laws_eqStringS_l : List Ls := [⟨[0, 1, 0, 1, 1], ⟨[(0, .one (LD [.sc (.str)])), (1, .one (LD [.sc (.str)])), (5, .one (LI))], [([4000000], .gone)]⟩, fun m n vs k => ap 3 (laws_eqStringS_L0_0 m n) vs (lm 1 fun z => k .ret (fPack ⟨[(4, .one (LB))], []⟩ z)) (lm 0 fun z => k (.exit 0) (fPack ⟨[], []⟩ z))⟩]
noncomputable def laws_eqStringS_t : List Fs := laws_eqStringS_f :: impl_MakeBundle_t
theorem laws_eqStringS_g : FGood CX prims laws_eqStringS_t ∧ FEqn CX prims laws_eqStringS_f := fnG impl_MakeBundle_g.1 laws_eqStringS_f Try.f24 ⟨24, 2, 26, 16⟩ laws_eqStringS_l (fun _ _ => rfl) (fun _ _ _ => by kernel_rfl) ⟨fun _ _ _ => rfl, trivial⟩ ⟨fun _ _ _ _ _ _ => by kernel_rfl, trivial⟩ (fun _ _ _ _ _ => by kernel_rfl)

/-! loop.example/g00244/laws.eqPair -/
noncomputable def laws_eqPair : Nat → T → T → T → T → (T → An) → An
  | 0, _, _, _, _, _ => .bad
  | m + 1, x0, x1, x2, x3, k0 =>
    cond (!(x0.str.toList == x2.str.toList))
    (k0 (T.b false))
    (cond (!(x1.str.toList == x3.str.toList))
    (k0 (T.b false))
    (k0 (T.b true)))
noncomputable def laws_eqPair_f : Fs := ⟨54, [.agg [AS, AS], .agg [AS, AS]], fun m vs k => ap 4 (laws_eqPair m) vs (lm 1 fun z => k (fRet ⟨[.one (RB)], [[none, none], [none, none]], [none, none]⟩ z))⟩
noncomputable def laws_eqPair_t : List Fs := laws_eqPair_f :: laws_eqStringS_t
theorem laws_eqPair_g : FGood CX prims laws_eqPair_t ∧ FEqn CX prims laws_eqPair_f := fnG laws_eqStringS_g.1 laws_eqPair_f Try.f54 ⟨54, 2, 15, 16⟩ [] (fun _ _ => rfl) (fun _ _ _ => by kernel_rfl) trivial trivial (fun _ _ _ _ _ => by kernel_rfl)

/-! loop.example/g00244/laws.eqItem -/
noncomputable def laws_eqItem : Nat → T → T → T → T → T → T → (T → An) → An
  | 0, _, _, _, _, _, _, _ => .bad
  | m + 1, x0, x1, x2, x3, x4, x5, k0 =>
    laws_eqPair m x0 x1 x3 x4
    (fun y0 => cond (!y0.bool)
    (k0 (T.b false))
    (laws_eqStringS m (T.l x2.rows) (T.l x5.rows)
    (fun y1 => cond (!y1.bool)
    (k0 (T.b false))
    (k0 (T.b true)))))
noncomputable def laws_eqItem_f : Fs := ⟨63, [.agg [AS, AS, .dz [.sc (.str)] []], .agg [AS, AS, .dz [.sc (.str)] []]], fun m vs k => ap 6 (laws_eqItem m) vs (lm 1 fun z => k (fRet ⟨[.one (RB)], [[none, none, none], [none, none, none]], [none, none]⟩ z))⟩
noncomputable def laws_eqItem_t : List Fs := laws_eqItem_f :: laws_eqPair_t
theorem laws_eqItem_g : FGood CX prims laws_eqItem_t ∧ FEqn CX prims laws_eqItem_f := fnG laws_eqPair_g.1 laws_eqItem_f Try.f63 ⟨63, 2, 17, 16⟩ [] (fun _ _ => rfl) (fun _ _ _ => by kernel_rfl) trivial trivial (fun _ _ _ _ _ => by kernel_rfl)

/-! loop.example/g00244/laws.eqItemS -/
noncomputable def laws_eqItemS_L0_0 (m : Nat) : Nat → T → T → T → (T → An) → An → An
  | 0, _, _, _, _, _ => .bad
  | n + 1, x0, x1, x2, k0, k1 =>
    cond (decide (x2.int < (x0.rows.length : Int)))
    (cond (decide ((0 : Int) ≤ x2.int ∧ x2.int < (x0.rows.length : Int)))
    (cond (decide ((0 : Int) ≤ x2.int ∧ x2.int < (x1.rows.length : Int)))
    (laws_eqItem m ((x0.rows.getD (Int.toNat x2.int) []).getD 0 dflt) ((x0.rows.getD (Int.toNat x2.int) []).getD 1 dflt) (T.l ((x0.rows.getD (Int.toNat x2.int) []).getD 2 dflt).rows) ((x1.rows.getD (Int.toNat x2.int) []).getD 0 dflt) ((x1.rows.getD (Int.toNat x2.int) []).getD 1 dflt) (T.l ((x1.rows.getD (Int.toNat x2.int) []).getD 2 dflt).rows)
    (fun y0 => cond (!y0.bool)
    (k0 (T.b false))
    (laws_eqItemS_L0_0 m n x0 x1 (T.i (IntKind.i64.wrap (x2.int + 1))) k0 k1)))
    (.bad))
    (.bad))
    (k1 )
noncomputable def laws_eqItemS : Nat → T → T → (T → An) → An
  | 0, _, _, _ => .bad
  | m + 1, x0, x1, k0 =>
    cond ((x0.rows.length : Int) != (x1.rows.length : Int))
    (k0 (T.b false))
    (laws_eqItemS_L0_0 m m (T.l x0.rows) (T.l x1.rows) (T.i 0)
    (fun y1 => k0 y1)
    (k0 (T.b true)))
noncomputable def laws_eqItemS_f : Fs := ⟨53, [.one (.dz [.sc (.str), .sc (.str), .sl [.sc (.str)]] []), .one (.dz [.sc (.str), .sc (.str), .sl [.sc (.str)]] [])], fun m vs k => ap 2 (laws_eqItemS m) vs (lm 1 fun z => k (fRet ⟨[.one (RB)], [[none], [none]], [none, none]⟩ z))⟩
noncomputable def laws_eqItemS_l : List Ls := [⟨[0, 1, 0, 1, 1], ⟨[(0, .one (LD [.sc (.str), .sc (.str), .sl [.sc (.str)]])), (1, .one (LD [.sc (.str), .sc (.str), .sl [.sc (.str)]])), (5, .one (LI))], [([4000000], .gone)]⟩, fun m n vs k => ap 3 (laws_eqItemS_L0_0 m n) vs (lm 1 fun z => k .ret (fPack ⟨[(4, .one (LB))], []⟩ z)) (lm 0 fun z => k (.exit 0) (fPack ⟨[], []⟩ z))⟩]
noncomputable def laws_eqItemS_t : List Fs := laws_eqItemS_f :: laws_eqItem_t
theorem laws_eqItemS_g : FGood CX prims laws_eqItemS_t ∧ FEqn CX prims laws_eqItemS_f := fnG laws_eqItem_g.1 laws_eqItemS_f Try.f53 ⟨53, 2, 27, 16⟩ laws_eqItemS_l (fun _ _ => rfl) (fun _ _ _ => by kernel_rfl) ⟨fun _ _ _ => rfl, trivial⟩ ⟨fun _ _ _ _ _ _ => by kernel_rfl, trivial⟩ (fun _ _ _ _ _ => by kernel_rfl)

/-! loop.example/g00244/laws.eqProof -/
noncomputable def laws_eqProof : Nat → T → T → T → T → T → T → (T → An) → An
  | 0, _, _, _, _, _, _, _ => .bad
  | m + 1, x0, x1, x2, x3, x4, x5, k0 =>
    cond (x0.int != x3.int)
    (k0 (T.b false))
    (cond (x1.int != x4.int)
    (k0 (T.b false))
    (laws_eqItemS m (T.l x2.rows) (T.l x5.rows)
    (fun y0 => cond (!y0.bool)
    (k0 (T.b false))
    (k0 (T.b true)))))
noncomputable def laws_eqProof_f : Fs := ⟨40, [.agg [AI, AI, .dz [.sc (.str), .sc (.str), .sl [.sc (.str)]] []], .agg [AI, AI, .dz [.sc (.str), .sc (.str), .sl [.sc (.str)]] []]], fun m vs k => ap 6 (laws_eqProof m) vs (lm 1 fun z => k (fRet ⟨[.one (RB)], [[none, none, none], [none, none, none]], [none, none]⟩ z))⟩
noncomputable def laws_eqProof_t : List Fs := laws_eqProof_f :: laws_eqItemS_t
theorem laws_eqProof_g : FGood CX prims laws_eqProof_t ∧ FEqn CX prims laws_eqProof_f := fnG laws_eqItemS_g.1 laws_eqProof_f Try.f40 ⟨40, 2, 21, 16⟩ [] (fun _ _ => rfl) (fun _ _ _ => by kernel_rfl) trivial trivial (fun _ _ _ _ _ => by kernel_rfl)

/-! loop.example/g00244/laws.eqProofS -/
noncomputable def laws_eqProofS_L0_0 (m : Nat) : Nat → T → T → T → (T → An) → An → An
  | 0, _, _, _, _, _ => .bad
  | n + 1, x0, x1, x2, k0, k1 =>
    cond (decide (x2.int < (x0.rows.length : Int)))
    (cond (decide ((0 : Int) ≤ x2.int ∧ x2.int < (x0.rows.length : Int)))
    (cond (decide ((0 : Int) ≤ x2.int ∧ x2.int < (x1.rows.length : Int)))
    (laws_eqProof m ((x0.rows.getD (Int.toNat x2.int) []).getD 0 dflt) ((x0.rows.getD (Int.toNat x2.int) []).getD 1 dflt) (T.l ((x0.rows.getD (Int.toNat x2.int) []).getD 2 dflt).rows) ((x1.rows.getD (Int.toNat x2.int) []).getD 0 dflt) ((x1.rows.getD (Int.toNat x2.int) []).getD 1 dflt) (T.l ((x1.rows.getD (Int.toNat x2.int) []).getD 2 dflt).rows)
    (fun y0 => cond (!y0.bool)
    (k0 (T.b false))
    (laws_eqProofS_L0_0 m n x0 x1 (T.i (IntKind.i64.wrap (x2.int + 1))) k0 k1)))
    (.bad))
    (.bad))
    (k1 )
noncomputable def laws_eqProofS : Nat → T → T → (T → An) → An
  | 0, _, _, _ => .bad
  | m + 1, x0, x1, k0 =>
    cond ((x0.rows.length : Int) != (x1.rows.length : Int))
    (k0 (T.b false))
    (laws_eqProofS_L0_0 m m (T.l x0.rows) (T.l x1.rows) (T.i 0)
    (fun y1 => k0 y1)
    (k0 (T.b true)))
noncomputable def laws_eqProofS_f : Fs := ⟨25, [.one (.dz [.sc (.int .i64), .sc (.int .i64), .sl [.sc (.str), .sc (.str), .sl [.sc (.str)]]] []), .one (.dz [.sc (.int .i64), .sc (.int .i64), .sl [.sc (.str), .sc (.str), .sl [.sc (.str)]]] [])], fun m vs k => ap 2 (laws_eqProofS m) vs (lm 1 fun z => k (fRet ⟨[.one (RB)], [[none], [none]], [none, none]⟩ z))⟩
noncomputable def laws_eqProofS_l : List Ls := [⟨[0, 1, 0, 1, 1], ⟨[(0, .one (LD [.sc (.int .i64), .sc (.int .i64), .sl [.sc (.str), .sc (.str), .sl [.sc (.str)]]])), (1, .one (LD [.sc (.int .i64), .sc (.int .i64), .sl [.sc (.str), .sc (.str), .sl [.sc (.str)]]])), (5, .one (LI))], [([4000000], .gone)]⟩, fun m n vs k => ap 3 (laws_eqProofS_L0_0 m n) vs (lm 1 fun z => k .ret (fPack ⟨[(4, .one (LB))], []⟩ z)) (lm 0 fun z => k (.exit 0) (fPack ⟨[], []⟩ z))⟩]
noncomputable def laws_eqProofS_t : List Fs := laws_eqProofS_f :: laws_eqProof_t
theorem laws_eqProofS_g : FGood CX prims laws_eqProofS_t ∧ FEqn CX prims laws_eqProofS_f := fnG laws_eqProof_g.1 laws_eqProofS_f Try.f25 ⟨25, 2, 27, 16⟩ laws_eqProofS_l (fun _ _ => rfl) (fun _ _ _ => by kernel_rfl) ⟨fun _ _ _ => rfl, trivial⟩ ⟨fun _ _ _ _ _ _ => by kernel_rfl, trivial⟩ (fun _ _ _ _ _ => by kernel_rfl)

/-! loop.example/g00244/laws.eqBundle -/
noncomputable def laws_eqBundle : Nat → T → T → T → T → T → T → T → T → (T → An) → An
  | 0, _, _, _, _, _, _, _, _, _ => .bad
  | m + 1, x0, x1, x2, x3, x4, x5, x6, x7, k0 =>
    cond (x0.int != x4.int)
    (k0 (T.b false))
    (cond (!(x1.str.toList == x5.str.toList))
    (k0 (T.b false))
    (laws_eqStringS m (T.l x2.rows) (T.l x6.rows)
    (fun y0 => cond (!y0.bool)
    (k0 (T.b false))
    (laws_eqProofS m (T.l x3.rows) (T.l x7.rows)
    (fun y1 => cond (!y1.bool)
    (k0 (T.b false))
    (k0 (T.b true)))))))
noncomputable def laws_eqBundle_f : Fs := ⟨10, [.agg [AI, AS, .dz [.sc (.str)] [], .dz [.sc (.int .i64), .sc (.int .i64), .sl [.sc (.str), .sc (.str), .sl [.sc (.str)]]] []], .agg [AI, AS, .dz [.sc (.str)] [], .dz [.sc (.int .i64), .sc (.int .i64), .sl [.sc (.str), .sc (.str), .sl [.sc (.str)]]] []]], fun m vs k => ap 8 (laws_eqBundle m) vs (lm 1 fun z => k (fRet ⟨[.one (RB)], [[none, none, none, none], [none, none, none, none]], [none, none]⟩ z))⟩
noncomputable def laws_eqBundle_t : List Fs := laws_eqBundle_f :: laws_eqProofS_t
theorem laws_eqBundle_g : FGood CX prims laws_eqBundle_t ∧ FEqn CX prims laws_eqBundle_f := fnG laws_eqProofS_g.1 laws_eqBundle_f Try.f10 ⟨10, 2, 27, 16⟩ [] (fun _ _ => rfl) (fun _ _ _ => by kernel_rfl) trivial trivial (fun _ _ _ _ _ => by kernel_rfl)

/-! loop.example/g00244/laws.eqSeal -/
noncomputable def laws_eqSeal : Nat → T → T → T → T → T → T → T → T → (T → An) → An
  | 0, _, _, _, _, _, _, _, _, _ => .bad
  | m + 1, x0, x1, x2, x3, x4, x5, x6, x7, k0 =>
    cond (x0.int != x4.int)
    (k0 (T.b false))
    (cond (!(x1.str.toList == x5.str.toList))
    (k0 (T.b false))
    (cond (!(x2.str.toList == x6.str.toList))
    (k0 (T.b false))
    (laws_eqStringS m (T.l x3.rows) (T.l x7.rows)
    (fun y0 => cond (!y0.bool)
    (k0 (T.b false))
    (k0 (T.b true))))))
noncomputable def laws_eqSeal_f : Fs := ⟨11, [.agg [AI, AS, AS, .dz [.sc (.str)] []], .agg [AI, AS, AS, .dz [.sc (.str)] []]], fun m vs k => ap 8 (laws_eqSeal m) vs (lm 1 fun z => k (fRet ⟨[.one (RB)], [[none, none, none, none], [none, none, none, none]], [none, none]⟩ z))⟩
noncomputable def laws_eqSeal_t : List Fs := laws_eqSeal_f :: laws_eqBundle_t
theorem laws_eqSeal_g : FGood CX prims laws_eqSeal_t ∧ FEqn CX prims laws_eqSeal_f := fnG laws_eqBundle_g.1 laws_eqSeal_f Try.f11 ⟨11, 2, 26, 16⟩ [] (fun _ _ => rfl) (fun _ _ _ => by kernel_rfl) trivial trivial (fun _ _ _ _ _ => by kernel_rfl)

/-! loop.example/g00244/laws.eqPairS -/
noncomputable def laws_eqPairS_L0_0 (m : Nat) : Nat → T → T → T → (T → An) → An → An
  | 0, _, _, _, _, _ => .bad
  | n + 1, x0, x1, x2, k0, k1 =>
    cond (decide (x2.int < (x0.rows.length : Int)))
    (cond (decide ((0 : Int) ≤ x2.int ∧ x2.int < (x0.rows.length : Int)))
    (cond (decide ((0 : Int) ≤ x2.int ∧ x2.int < (x1.rows.length : Int)))
    (laws_eqPair m ((x0.rows.getD (Int.toNat x2.int) []).getD 0 dflt) ((x0.rows.getD (Int.toNat x2.int) []).getD 1 dflt) ((x1.rows.getD (Int.toNat x2.int) []).getD 0 dflt) ((x1.rows.getD (Int.toNat x2.int) []).getD 1 dflt)
    (fun y0 => cond (!y0.bool)
    (k0 (T.b false))
    (laws_eqPairS_L0_0 m n x0 x1 (T.i (IntKind.i64.wrap (x2.int + 1))) k0 k1)))
    (.bad))
    (.bad))
    (k1 )
noncomputable def laws_eqPairS : Nat → T → T → (T → An) → An
  | 0, _, _, _ => .bad
  | m + 1, x0, x1, k0 =>
    cond ((x0.rows.length : Int) != (x1.rows.length : Int))
    (k0 (T.b false))
    (laws_eqPairS_L0_0 m m (T.l x0.rows) (T.l x1.rows) (T.i 0)
    (fun y1 => k0 y1)
    (k0 (T.b true)))
noncomputable def laws_eqPairS_f : Fs := ⟨41, [.one (.dz [.sc (.str), .sc (.str)] []), .one (.dz [.sc (.str), .sc (.str)] [])], fun m vs k => ap 2 (laws_eqPairS m) vs (lm 1 fun z => k (fRet ⟨[.one (RB)], [[none], [none]], [none, none]⟩ z))⟩
noncomputable def laws_eqPairS_l : List Ls := [⟨[0, 1, 0, 1, 1], ⟨[(0, .one (LD [.sc (.str), .sc (.str)])), (1, .one (LD [.sc (.str), .sc (.str)])), (5, .one (LI))], [([4000000], .gone)]⟩, fun m n vs k => ap 3 (laws_eqPairS_L0_0 m n) vs (lm 1 fun z => k .ret (fPack ⟨[(4, .one (LB))], []⟩ z)) (lm 0 fun z => k (.exit 0) (fPack ⟨[], []⟩ z))⟩]
noncomputable def laws_eqPairS_t : List Fs := laws_eqPairS_f :: laws_eqSeal_t
theorem laws_eqPairS_g : FGood CX prims laws_eqPairS_t ∧ FEqn CX prims laws_eqPairS_f := fnG laws_eqSeal_g.1 laws_eqPairS_f Try.f41 ⟨41, 2, 27, 16⟩ laws_eqPairS_l (fun _ _ => rfl) (fun _ _ _ => by kernel_rfl) ⟨fun _ _ _ => rfl, trivial⟩ ⟨fun _ _ _ _ _ _ => by kernel_rfl, trivial⟩ (fun _ _ _ _ _ => by kernel_rfl)

/-! loop.example/g00244/laws.eqTable -/
noncomputable def laws_eqTable : Nat → T → T → (T → An) → An
  | 0, _, _, _ => .bad
  | m + 1, x0, x1, k0 =>
    laws_eqPairS m (T.l x0.rows) (T.l x1.rows)
    (fun y0 => cond (!y0.bool)
    (k0 (T.b false))
    (k0 (T.b true)))
noncomputable def laws_eqTable_f : Fs := ⟨26, [.agg [.dz [.sc (.str), .sc (.str)] []], .agg [.dz [.sc (.str), .sc (.str)] []]], fun m vs k => ap 2 (laws_eqTable m) vs (lm 1 fun z => k (fRet ⟨[.one (RB)], [[none], [none]], [none, none]⟩ z))⟩
noncomputable def laws_eqTable_t : List Fs := laws_eqTable_f :: laws_eqPairS_t
theorem laws_eqTable_g : FGood CX prims laws_eqTable_t ∧ FEqn CX prims laws_eqTable_f := fnG laws_eqPairS_g.1 laws_eqTable_f Try.f26 ⟨26, 2, 11, 16⟩ [] (fun _ _ => rfl) (fun _ _ _ => by kernel_rfl) trivial trivial (fun _ _ _ _ _ => by kernel_rfl)

/-! loop.example/g00244/laws.eqTableS -/
noncomputable def laws_eqTableS_L0_0 (m : Nat) : Nat → T → T → T → (T → An) → An → An
  | 0, _, _, _, _, _ => .bad
  | n + 1, x0, x1, x2, k0, k1 =>
    cond (decide (x2.int < (x0.rows.length : Int)))
    (cond (decide ((0 : Int) ≤ x2.int ∧ x2.int < (x0.rows.length : Int)))
    (cond (decide ((0 : Int) ≤ x2.int ∧ x2.int < (x1.rows.length : Int)))
    (laws_eqTable m (T.l ((x0.rows.getD (Int.toNat x2.int) []).getD 0 dflt).rows) (T.l ((x1.rows.getD (Int.toNat x2.int) []).getD 0 dflt).rows)
    (fun y0 => cond (!y0.bool)
    (k0 (T.b false))
    (laws_eqTableS_L0_0 m n x0 x1 (T.i (IntKind.i64.wrap (x2.int + 1))) k0 k1)))
    (.bad))
    (.bad))
    (k1 )
noncomputable def laws_eqTableS : Nat → T → T → (T → An) → An
  | 0, _, _, _ => .bad
  | m + 1, x0, x1, k0 =>
    cond ((x0.rows.length : Int) != (x1.rows.length : Int))
    (k0 (T.b false))
    (laws_eqTableS_L0_0 m m (T.l x0.rows) (T.l x1.rows) (T.i 0)
    (fun y1 => k0 y1)
    (k0 (T.b true)))
noncomputable def laws_eqTableS_f : Fs := ⟨12, [.one (.dz [.sl [.sc (.str), .sc (.str)]] []), .one (.dz [.sl [.sc (.str), .sc (.str)]] [])], fun m vs k => ap 2 (laws_eqTableS m) vs (lm 1 fun z => k (fRet ⟨[.one (RB)], [[none], [none]], [none, none]⟩ z))⟩
noncomputable def laws_eqTableS_l : List Ls := [⟨[0, 1, 0, 1, 1], ⟨[(0, .one (LD [.sl [.sc (.str), .sc (.str)]])), (1, .one (LD [.sl [.sc (.str), .sc (.str)]])), (5, .one (LI))], [([4000000], .gone)]⟩, fun m n vs k => ap 3 (laws_eqTableS_L0_0 m n) vs (lm 1 fun z => k .ret (fPack ⟨[(4, .one (LB))], []⟩ z)) (lm 0 fun z => k (.exit 0) (fPack ⟨[], []⟩ z))⟩]
noncomputable def laws_eqTableS_t : List Fs := laws_eqTableS_f :: laws_eqTable_t
theorem laws_eqTableS_g : FGood CX prims laws_eqTableS_t ∧ FEqn CX prims laws_eqTableS_f := fnG laws_eqTable_g.1 laws_eqTableS_f Try.f12 ⟨12, 2, 27, 16⟩ laws_eqTableS_l (fun _ _ => rfl) (fun _ _ _ => by kernel_rfl) ⟨fun _ _ _ => rfl, trivial⟩ ⟨fun _ _ _ _ _ _ => by kernel_rfl, trivial⟩ (fun _ _ _ _ _ => by kernel_rfl)

/-! loop.example/g00244/laws.markText -/
noncomputable def laws_markText_L0_0 (m : Nat) : Nat → T → T → (T → An) → An
  | 0, _, _, _ => .bad
  | n + 1, x0, x1, k0 =>
    cond (decide (x0.int > 0))
    (cond (decide ((rowsBytes [[(T.i (IntKind.u8.wrap (IntKind.i64.wrap (48 + (Int.tmod x0.int 10)))))]]).size + x1.str.size < 9223372036854775808))
    (laws_markText_L0_0 m n (T.i (IntKind.i64.wrap (Int.tdiv x0.int 10))) (T.s ((rowsBytes [[(T.i (IntKind.u8.wrap (IntKind.i64.wrap (48 + (Int.tmod x0.int 10)))))]]) ++ x1.str)) k0)
    (.bad))
    (k0 x1)
noncomputable def laws_markText : Nat → T → (T → An) → An
  | 0, _, _ => .bad
  | m + 1, x0, k0 =>
    cond (decide (x0.int ≤ 0))
    (k0 (T.s (⟨#[109, 48]⟩ : ByteArray)))
    (laws_markText_L0_0 m m x0 (T.s (⟨#[]⟩ : ByteArray))
    (fun y0 => cond (decide ((⟨#[109]⟩ : ByteArray).size + y0.str.size < 9223372036854775808))
    (k0 (T.s ((⟨#[109]⟩ : ByteArray) ++ y0.str)))
    (.bad)))
noncomputable def laws_markText_f : Fs := ⟨42, [.one (AI)], fun m vs k => ap 1 (laws_markText m) vs (lm 1 fun z => k (fRet ⟨[.one (RS)], [[none]], [none]⟩ z))⟩
noncomputable def laws_markText_l : List Ls := [⟨[0, 0, 1, 1, 1], ⟨[(0, .one (LI)), (3, .one (LS))], []⟩, fun m n vs k => ap 2 (laws_markText_L0_0 m n) vs (lm 1 fun z => k (.exit 0) (fPack ⟨[(3, .one (LS))], []⟩ z))⟩]
noncomputable def laws_markText_t : List Fs := laws_markText_f :: laws_eqTableS_t
theorem laws_markText_g : FGood CX prims laws_markText_t ∧ FEqn CX prims laws_markText_f := fnG laws_eqTableS_g.1 laws_markText_f Try.f42 ⟨42, 1, 20, 4⟩ laws_markText_l (fun _ _ => rfl) (fun _ _ _ => by kernel_rfl) ⟨fun _ _ _ => rfl, trivial⟩ ⟨fun _ _ _ _ _ _ => by kernel_rfl, trivial⟩ (fun _ _ _ _ _ => by kernel_rfl)

/-! loop.example/g00244/laws.markStringS -/
noncomputable def laws_markStringS_L0_0 (m : Nat) : Nat → T → T → T → (T → T → An) → An
  | 0, _, _, _, _ => .bad
  | n + 1, x0, x1, x2, k0 =>
    cond (decide (x1.int < (x2.rows.length : Int)))
    (laws_markText m x0
    (fun y0 => cond (decide ((0 : Int) ≤ x1.int ∧ x1.int < (x2.rows.length : Int)))
    (cond (decide ((Int.toNat x1.int) < x2.rows.length))
    (laws_markStringS_L0_0 m n (T.i (IntKind.i64.wrap (x0.int + 1))) (T.i (IntKind.i64.wrap (x1.int + 1))) (T.l (x2.rows.set (Int.toNat x1.int) ((x2.rows.getD (Int.toNat x1.int) []).set 0 y0))) k0)
    (.bad))
    (.bad)))
    (k0 x0 (T.l x2.rows))
noncomputable def laws_markStringS : Nat → T → T → (T → T → An) → An
  | 0, _, _, _ => .bad
  | m + 1, x0, x1, k0 =>
    laws_markStringS_L0_0 m m x1 (T.i 0) (T.l x0.rows)
    (fun y1 y2 => k0 y1 (T.l y2.rows))
noncomputable def laws_markStringS_f : Fs := ⟨27, [.one (.own [.sc (.str)] [.F] []), .one (AI)], fun m vs k => ap 2 (laws_markStringS m) vs (lm 2 fun z => k (fRet ⟨[.one (RI)], [[some ([.sc (.str)], [.F], [])], [none]], [none, none]⟩ z))⟩
noncomputable def laws_markStringS_l : List Ls := [⟨[0, 1, 0, 1], ⟨[(0, .one (LA [0, 0] [.sc (.str)])), (1, .one (LI)), (5, .one (LI))], [([0, 0], .row [.sc (.str)] [.F] [])]⟩, fun m n vs k => ap 3 (laws_markStringS_L0_0 m n) vs (lm 2 fun z => k (.exit 0) (fPack ⟨[(0, .one (LA [0, 0] [.sc (.str)])), (1, .one (LI))], [([0, 0], .row [.sc (.str)] [.F] [])]⟩ z))⟩]
noncomputable def laws_markStringS_t : List Fs := laws_markStringS_f :: laws_markText_t
theorem laws_markStringS_g : FGood CX prims laws_markStringS_t ∧ FEqn CX prims laws_markStringS_f := fnG laws_markText_g.1 laws_markStringS_f Try.f27 ⟨27, 2, 20, 17⟩ laws_markStringS_l (fun _ _ => rfl) (fun _ _ _ => by kernel_rfl) ⟨fun _ _ _ => rfl, trivial⟩ ⟨fun _ _ _ _ _ _ => by kernel_rfl, trivial⟩ (fun _ _ _ _ _ => by kernel_rfl)

/-! loop.example/g00244/laws.markSeal -/
noncomputable def laws_markSeal : Nat → T → T → T → T → T → (T → T → An) → An
  | 0, _, _, _, _, _, _ => .bad
  | m + 1, x0, x1, x2, x3, x4, k0 =>
    laws_markStringS m (T.l x3.rows) x4
    (fun y0 y1 => k0 y0 (T.l y1.rows))
noncomputable def laws_markSeal_f : Fs := ⟨13, [.agg [AI, AS, AS, .own [.sc (.str)] [.F] []], .one (AI)], fun m vs k => ap 5 (laws_markSeal m) vs (lm 2 fun z => k (fRet ⟨[.one (RI)], [[none, none, none, some ([.sc (.str)], [.F], [])], [none]], [none, none]⟩ z))⟩
noncomputable def laws_markSeal_t : List Fs := laws_markSeal_f :: laws_markStringS_t
theorem laws_markSeal_g : FGood CX prims laws_markSeal_t ∧ FEqn CX prims laws_markSeal_f := fnG laws_markStringS_g.1 laws_markSeal_f Try.f13 ⟨13, 2, 10, 17⟩ [] (fun _ _ => rfl) (fun _ _ _ => by kernel_rfl) trivial trivial (fun _ _ _ _ _ => by kernel_rfl)

/-! loop.example/g00244/laws.markPairS -/
noncomputable def laws_markPairS_L0_0 (m : Nat) : Nat → T → T → T → (T → T → An) → An
  | 0, _, _, _, _ => .bad
  | n + 1, x0, x1, x2, k0 =>
    cond (decide (x1.int < (x2.rows.length : Int)))
    (laws_markText m x0
    (fun y0 => cond (decide ((0 : Int) ≤ x1.int ∧ x1.int < (x2.rows.length : Int)))
    (cond (decide ((Int.toNat x1.int) < x2.rows.length))
    (laws_markText m (T.i (IntKind.i64.wrap (x0.int + 1)))
    (fun y1 => cond (decide ((0 : Int) ≤ x1.int ∧ x1.int < ((x2.rows.set (Int.toNat x1.int) ((x2.rows.getD (Int.toNat x1.int) []).set 0 y0)).length : Int)))
    (cond (decide ((Int.toNat x1.int) < (x2.rows.set (Int.toNat x1.int) ((x2.rows.getD (Int.toNat x1.int) []).set 0 y0)).length))
    (laws_markPairS_L0_0 m n (T.i (IntKind.i64.wrap ((IntKind.i64.wrap (x0.int + 1)) + 1))) (T.i (IntKind.i64.wrap (x1.int + 1))) (T.l ((x2.rows.set (Int.toNat x1.int) ((x2.rows.getD (Int.toNat x1.int) []).set 0 y0)).set (Int.toNat x1.int) (((x2.rows.set (Int.toNat x1.int) ((x2.rows.getD (Int.toNat x1.int) []).set 0 y0)).getD (Int.toNat x1.int) []).set 1 y1))) k0)
    (.bad))
    (.bad)))
    (.bad))
    (.bad)))
    (k0 x0 (T.l x2.rows))
noncomputable def laws_markPairS : Nat → T → T → (T → T → An) → An
  | 0, _, _, _ => .bad
  | m + 1, x0, x1, k0 =>
    laws_markPairS_L0_0 m m x1 (T.i 0) (T.l x0.rows)
    (fun y2 y3 => k0 y2 (T.l y3.rows))
noncomputable def laws_markPairS_f : Fs := ⟨28, [.one (.own [.sc (.str), .sc (.str)] [.F, .F] []), .one (AI)], fun m vs k => ap 2 (laws_markPairS m) vs (lm 2 fun z => k (fRet ⟨[.one (RI)], [[some ([.sc (.str), .sc (.str)], [.F, .F], [])], [none]], [none, none]⟩ z))⟩
noncomputable def laws_markPairS_l : List Ls := [⟨[0, 1, 0, 1], ⟨[(0, .one (LA [0, 0] [.sc (.str), .sc (.str)])), (1, .one (LI)), (5, .one (LI))], [([0, 0], .row [.sc (.str), .sc (.str)] [.F, .F] [])]⟩, fun m n vs k => ap 3 (laws_markPairS_L0_0 m n) vs (lm 2 fun z => k (.exit 0) (fPack ⟨[(0, .one (LA [0, 0] [.sc (.str), .sc (.str)])), (1, .one (LI))], [([0, 0], .row [.sc (.str), .sc (.str)] [.F, .F] [])]⟩ z))⟩]
noncomputable def laws_markPairS_t : List Fs := laws_markPairS_f :: laws_markSeal_t
theorem laws_markPairS_g : FGood CX prims laws_markPairS_t ∧ FEqn CX prims laws_markPairS_f := fnG laws_markSeal_g.1 laws_markPairS_f Try.f28 ⟨28, 2, 29, 17⟩ laws_markPairS_l (fun _ _ => rfl) (fun _ _ _ => by kernel_rfl) ⟨fun _ _ _ => rfl, trivial⟩ ⟨fun _ _ _ _ _ _ => by kernel_rfl, trivial⟩ (fun _ _ _ _ _ => by kernel_rfl)

/-! loop.example/g00244/laws.markTableS -/
noncomputable def laws_markTableS_L0_0 (m : Nat) : Nat → T → T → T → (T → T → An) → An
  | 0, _, _, _, _ => .bad
  | n + 1, x0, x1, x2, k0 =>
    cond (decide (x1.int < (x2.rows.length : Int)))
    (cond (decide ((0 : Int) ≤ x1.int ∧ x1.int < (x2.rows.length : Int)))
    (cond (decide ((Int.toNat x1.int) < x2.rows.length))
    (cond (decide ((Int.toNat x1.int) < x2.rows.length))
    (laws_markPairS m (T.l ((x2.rows.getD (Int.toNat x1.int) []).headD dflt).rows) x0
    (fun y0 y1 => laws_markTableS_L0_0 m n y0 (T.i (IntKind.i64.wrap (x1.int + 1))) (T.l (x2.rows.set (Int.toNat x1.int) [(T.l y1.rows)])) k0))
    (.bad))
    (.bad))
    (.bad))
    (k0 x0 (T.l x2.rows))
noncomputable def laws_markTableS : Nat → T → T → (T → T → An) → An
  | 0, _, _, _ => .bad
  | m + 1, x0, x1, k0 =>
    laws_markTableS_L0_0 m m x1 (T.i 0) (T.l x0.rows)
    (fun y2 y3 => k0 y2 (T.l y3.rows))
noncomputable def laws_markTableS_f : Fs := ⟨14, [.one (.own [.sl [.sc (.str), .sc (.str)]] [.O [.F, .F]] []), .one (AI)], fun m vs k => ap 2 (laws_markTableS m) vs (lm 2 fun z => k (fRet ⟨[.one (RI)], [[some ([.sl [.sc (.str), .sc (.str)]], [.O [.F, .F]], [])], [none]], [none, none]⟩ z))⟩
noncomputable def laws_markTableS_l : List Ls := [⟨[0, 1, 0, 1], ⟨[(0, .one (LA [0, 0] [.sl [.sc (.str), .sc (.str)]])), (1, .one (LI)), (5, .one (LI))], [([0, 0], .row [.sl [.sc (.str), .sc (.str)]] [.O [.F, .F]] [])]⟩, fun m n vs k => ap 3 (laws_markTableS_L0_0 m n) vs (lm 2 fun z => k (.exit 0) (fPack ⟨[(0, .one (LA [0, 0] [.sl [.sc (.str), .sc (.str)]])), (1, .one (LI))], [([0, 0], .row [.sl [.sc (.str), .sc (.str)]] [.O [.F, .F]] [])]⟩ z))⟩]
noncomputable def laws_markTableS_t : List Fs := laws_markTableS_f :: laws_markPairS_t
theorem laws_markTableS_g : FGood CX prims laws_markTableS_t ∧ FEqn CX prims laws_markTableS_f := fnG laws_markPairS_g.1 laws_markTableS_f Try.f14 ⟨14, 2, 20, 17⟩ laws_markTableS_l (fun _ _ => rfl) (fun _ _ _ => by kernel_rfl) ⟨fun _ _ _ => rfl, trivial⟩ ⟨fun _ _ _ _ _ _ => by kernel_rfl, trivial⟩ (fun _ _ _ _ _ => by kernel_rfl)

/-! loop.example/g00244/laws.markItemS -/
noncomputable def laws_markItemS_L0_0 (m : Nat) : Nat → T → T → T → (T → T → An) → An
  | 0, _, _, _, _ => .bad
  | n + 1, x0, x1, x2, k0 =>
    cond (decide (x1.int < (x2.rows.length : Int)))
    (laws_markText m x0
    (fun y0 => cond (decide ((0 : Int) ≤ x1.int ∧ x1.int < (x2.rows.length : Int)))
    (cond (decide ((Int.toNat x1.int) < x2.rows.length))
    (laws_markText m (T.i (IntKind.i64.wrap (x0.int + 1)))
    (fun y1 => cond (decide ((0 : Int) ≤ x1.int ∧ x1.int < ((x2.rows.set (Int.toNat x1.int) ((x2.rows.getD (Int.toNat x1.int) []).set 0 y0)).length : Int)))
    (cond (decide ((Int.toNat x1.int) < (x2.rows.set (Int.toNat x1.int) ((x2.rows.getD (Int.toNat x1.int) []).set 0 y0)).length))
    (cond (decide ((0 : Int) ≤ x1.int ∧ x1.int < (((x2.rows.set (Int.toNat x1.int) ((x2.rows.getD (Int.toNat x1.int) []).set 0 y0)).set (Int.toNat x1.int) (((x2.rows.set (Int.toNat x1.int) ((x2.rows.getD (Int.toNat x1.int) []).set 0 y0)).getD (Int.toNat x1.int) []).set 1 y1)).length : Int)))
    (cond (decide ((Int.toNat x1.int) < ((x2.rows.set (Int.toNat x1.int) ((x2.rows.getD (Int.toNat x1.int) []).set 0 y0)).set (Int.toNat x1.int) (((x2.rows.set (Int.toNat x1.int) ((x2.rows.getD (Int.toNat x1.int) []).set 0 y0)).getD (Int.toNat x1.int) []).set 1 y1)).length))
    (cond (decide ((Int.toNat x1.int) < ((x2.rows.set (Int.toNat x1.int) ((x2.rows.getD (Int.toNat x1.int) []).set 0 y0)).set (Int.toNat x1.int) (((x2.rows.set (Int.toNat x1.int) ((x2.rows.getD (Int.toNat x1.int) []).set 0 y0)).getD (Int.toNat x1.int) []).set 1 y1)).length))
    (laws_markStringS m (T.l ((((x2.rows.set (Int.toNat x1.int) ((x2.rows.getD (Int.toNat x1.int) []).set 0 y0)).set (Int.toNat x1.int) (((x2.rows.set (Int.toNat x1.int) ((x2.rows.getD (Int.toNat x1.int) []).set 0 y0)).getD (Int.toNat x1.int) []).set 1 y1)).getD (Int.toNat x1.int) []).tail.tail.headD dflt).rows) (T.i (IntKind.i64.wrap ((IntKind.i64.wrap (x0.int + 1)) + 1)))
    (fun y2 y3 => laws_markItemS_L0_0 m n y2 (T.i (IntKind.i64.wrap (x1.int + 1))) (T.l (((x2.rows.set (Int.toNat x1.int) ((x2.rows.getD (Int.toNat x1.int) []).set 0 y0)).set (Int.toNat x1.int) (((x2.rows.set (Int.toNat x1.int) ((x2.rows.getD (Int.toNat x1.int) []).set 0 y0)).getD (Int.toNat x1.int) []).set 1 y1)).set (Int.toNat x1.int) [((((x2.rows.set (Int.toNat x1.int) ((x2.rows.getD (Int.toNat x1.int) []).set 0 y0)).set (Int.toNat x1.int) (((x2.rows.set (Int.toNat x1.int) ((x2.rows.getD (Int.toNat x1.int) []).set 0 y0)).getD (Int.toNat x1.int) []).set 1 y1)).getD (Int.toNat x1.int) []).headD dflt), ((((x2.rows.set (Int.toNat x1.int) ((x2.rows.getD (Int.toNat x1.int) []).set 0 y0)).set (Int.toNat x1.int) (((x2.rows.set (Int.toNat x1.int) ((x2.rows.getD (Int.toNat x1.int) []).set 0 y0)).getD (Int.toNat x1.int) []).set 1 y1)).getD (Int.toNat x1.int) []).tail.headD dflt), (T.l y3.rows)])) k0))
    (.bad))
    (.bad))
    (.bad))
    (.bad))
    (.bad)))
    (.bad))
    (.bad)))
    (k0 x0 (T.l x2.rows))
noncomputable def laws_markItemS : Nat → T → T → (T → T → An) → An
  | 0, _, _, _ => .bad
  | m + 1, x0, x1, k0 =>
    laws_markItemS_L0_0 m m x1 (T.i 0) (T.l x0.rows)
    (fun y4 y5 => k0 y4 (T.l y5.rows))
noncomputable def laws_markItemS_f : Fs := ⟨43, [.one (.own [.sc (.str), .sc (.str), .sl [.sc (.str)]] [.F, .F, .O [.F]] []), .one (AI)], fun m vs k => ap 2 (laws_markItemS m) vs (lm 2 fun z => k (fRet ⟨[.one (RI)], [[some ([.sc (.str), .sc (.str), .sl [.sc (.str)]], [.F, .F, .O [.F]], [])], [none]], [none, none]⟩ z))⟩
noncomputable def laws_markItemS_l : List Ls := [⟨[0, 1, 0, 1], ⟨[(0, .one (LA [0, 0] [.sc (.str), .sc (.str), .sl [.sc (.str)]])), (1, .one (LI)), (5, .one (LI))], [([0, 0], .row [.sc (.str), .sc (.str), .sl [.sc (.str)]] [.F, .F, .O [.F]] [])]⟩, fun m n vs k => ap 3 (laws_markItemS_L0_0 m n) vs (lm 2 fun z => k (.exit 0) (fPack ⟨[(0, .one (LA [0, 0] [.sc (.str), .sc (.str), .sl [.sc (.str)]])), (1, .one (LI))], [([0, 0], .row [.sc (.str), .sc (.str), .sl [.sc (.str)]] [.F, .F, .O [.F]] [])]⟩ z))⟩]
noncomputable def laws_markItemS_t : List Fs := laws_markItemS_f :: laws_markTableS_t
theorem laws_markItemS_g : FGood CX prims laws_markItemS_t ∧ FEqn CX prims laws_markItemS_f := fnG laws_markTableS_g.1 laws_markItemS_f Try.f43 ⟨43, 2, 38, 17⟩ laws_markItemS_l (fun _ _ => rfl) (fun _ _ _ => by kernel_rfl) ⟨fun _ _ _ => rfl, trivial⟩ ⟨fun _ _ _ _ _ _ => by kernel_rfl, trivial⟩ (fun _ _ _ _ _ => by kernel_rfl)

/-! loop.example/g00244/laws.markProofS -/
noncomputable def laws_markProofS_L0_0 (m : Nat) : Nat → T → T → T → (T → T → An) → An
  | 0, _, _, _, _ => .bad
  | n + 1, x0, x1, x2, k0 =>
    cond (decide (x1.int < (x2.rows.length : Int)))
    (cond (decide ((0 : Int) ≤ x1.int ∧ x1.int < (x2.rows.length : Int)))
    (cond (decide ((Int.toNat x1.int) < x2.rows.length))
    (cond (decide ((0 : Int) ≤ x1.int ∧ x1.int < ((x2.rows.set (Int.toNat x1.int) ((x2.rows.getD (Int.toNat x1.int) []).set 0 x0)).length : Int)))
    (cond (decide ((Int.toNat x1.int) < (x2.rows.set (Int.toNat x1.int) ((x2.rows.getD (Int.toNat x1.int) []).set 0 x0)).length))
    (cond (decide ((0 : Int) ≤ x1.int ∧ x1.int < (((x2.rows.set (Int.toNat x1.int) ((x2.rows.getD (Int.toNat x1.int) []).set 0 x0)).set (Int.toNat x1.int) (((x2.rows.set (Int.toNat x1.int) ((x2.rows.getD (Int.toNat x1.int) []).set 0 x0)).getD (Int.toNat x1.int) []).set 1 (T.i (IntKind.i64.wrap (x0.int + 1))))).length : Int)))
    (cond (decide ((Int.toNat x1.int) < ((x2.rows.set (Int.toNat x1.int) ((x2.rows.getD (Int.toNat x1.int) []).set 0 x0)).set (Int.toNat x1.int) (((x2.rows.set (Int.toNat x1.int) ((x2.rows.getD (Int.toNat x1.int) []).set 0 x0)).getD (Int.toNat x1.int) []).set 1 (T.i (IntKind.i64.wrap (x0.int + 1))))).length))
    (cond (decide ((Int.toNat x1.int) < ((x2.rows.set (Int.toNat x1.int) ((x2.rows.getD (Int.toNat x1.int) []).set 0 x0)).set (Int.toNat x1.int) (((x2.rows.set (Int.toNat x1.int) ((x2.rows.getD (Int.toNat x1.int) []).set 0 x0)).getD (Int.toNat x1.int) []).set 1 (T.i (IntKind.i64.wrap (x0.int + 1))))).length))
    (laws_markItemS m (T.l ((((x2.rows.set (Int.toNat x1.int) ((x2.rows.getD (Int.toNat x1.int) []).set 0 x0)).set (Int.toNat x1.int) (((x2.rows.set (Int.toNat x1.int) ((x2.rows.getD (Int.toNat x1.int) []).set 0 x0)).getD (Int.toNat x1.int) []).set 1 (T.i (IntKind.i64.wrap (x0.int + 1))))).getD (Int.toNat x1.int) []).tail.tail.headD dflt).rows) (T.i (IntKind.i64.wrap ((IntKind.i64.wrap (x0.int + 1)) + 1)))
    (fun y0 y1 => laws_markProofS_L0_0 m n y0 (T.i (IntKind.i64.wrap (x1.int + 1))) (T.l (((x2.rows.set (Int.toNat x1.int) ((x2.rows.getD (Int.toNat x1.int) []).set 0 x0)).set (Int.toNat x1.int) (((x2.rows.set (Int.toNat x1.int) ((x2.rows.getD (Int.toNat x1.int) []).set 0 x0)).getD (Int.toNat x1.int) []).set 1 (T.i (IntKind.i64.wrap (x0.int + 1))))).set (Int.toNat x1.int) [((((x2.rows.set (Int.toNat x1.int) ((x2.rows.getD (Int.toNat x1.int) []).set 0 x0)).set (Int.toNat x1.int) (((x2.rows.set (Int.toNat x1.int) ((x2.rows.getD (Int.toNat x1.int) []).set 0 x0)).getD (Int.toNat x1.int) []).set 1 (T.i (IntKind.i64.wrap (x0.int + 1))))).getD (Int.toNat x1.int) []).headD dflt), ((((x2.rows.set (Int.toNat x1.int) ((x2.rows.getD (Int.toNat x1.int) []).set 0 x0)).set (Int.toNat x1.int) (((x2.rows.set (Int.toNat x1.int) ((x2.rows.getD (Int.toNat x1.int) []).set 0 x0)).getD (Int.toNat x1.int) []).set 1 (T.i (IntKind.i64.wrap (x0.int + 1))))).getD (Int.toNat x1.int) []).tail.headD dflt), (T.l y1.rows)])) k0))
    (.bad))
    (.bad))
    (.bad))
    (.bad))
    (.bad))
    (.bad))
    (.bad))
    (k0 x0 (T.l x2.rows))
noncomputable def laws_markProofS : Nat → T → T → (T → T → An) → An
  | 0, _, _, _ => .bad
  | m + 1, x0, x1, k0 =>
    laws_markProofS_L0_0 m m x1 (T.i 0) (T.l x0.rows)
    (fun y2 y3 => k0 y2 (T.l y3.rows))
noncomputable def laws_markProofS_f : Fs := ⟨29, [.one (.own [.sc (.int .i64), .sc (.int .i64), .sl [.sc (.str), .sc (.str), .sl [.sc (.str)]]] [.F, .F, .O [.F, .F, .O [.F]]] []), .one (AI)], fun m vs k => ap 2 (laws_markProofS m) vs (lm 2 fun z => k (fRet ⟨[.one (RI)], [[some ([.sc (.int .i64), .sc (.int .i64), .sl [.sc (.str), .sc (.str), .sl [.sc (.str)]]], [.F, .F, .O [.F, .F, .O [.F]]], [])], [none]], [none, none]⟩ z))⟩
noncomputable def laws_markProofS_l : List Ls := [⟨[0, 1, 0, 1], ⟨[(0, .one (LA [0, 0] [.sc (.int .i64), .sc (.int .i64), .sl [.sc (.str), .sc (.str), .sl [.sc (.str)]]])), (1, .one (LI)), (5, .one (LI))], [([0, 0], .row [.sc (.int .i64), .sc (.int .i64), .sl [.sc (.str), .sc (.str), .sl [.sc (.str)]]] [.F, .F, .O [.F, .F, .O [.F]]] [])]⟩, fun m n vs k => ap 3 (laws_markProofS_L0_0 m n) vs (lm 2 fun z => k (.exit 0) (fPack ⟨[(0, .one (LA [0, 0] [.sc (.int .i64), .sc (.int .i64), .sl [.sc (.str), .sc (.str), .sl [.sc (.str)]]])), (1, .one (LI))], [([0, 0], .row [.sc (.int .i64), .sc (.int .i64), .sl [.sc (.str), .sc (.str), .sl [.sc (.str)]]] [.F, .F, .O [.F, .F, .O [.F]]] [])]⟩ z))⟩]
noncomputable def laws_markProofS_t : List Fs := laws_markProofS_f :: laws_markItemS_t
theorem laws_markProofS_g : FGood CX prims laws_markProofS_t ∧ FEqn CX prims laws_markProofS_f := fnG laws_markItemS_g.1 laws_markProofS_f Try.f29 ⟨29, 2, 34, 17⟩ laws_markProofS_l (fun _ _ => rfl) (fun _ _ _ => by kernel_rfl) ⟨fun _ _ _ => rfl, trivial⟩ ⟨fun _ _ _ _ _ _ => by kernel_rfl, trivial⟩ (fun _ _ _ _ _ => by kernel_rfl)

/-! loop.example/g00244/laws.markBundle -/
noncomputable def laws_markBundle : Nat → T → T → T → T → T → (T → T → T → An) → An
  | 0, _, _, _, _, _, _ => .bad
  | m + 1, x0, x1, x2, x3, x4, k0 =>
    laws_markStringS m (T.l x2.rows) x4
    (fun y0 y1 => laws_markProofS m (T.l x3.rows) y0
    (fun y2 y3 => k0 y2 (T.l y1.rows) (T.l y3.rows)))
noncomputable def laws_markBundle_f : Fs := ⟨15, [.agg [AI, AS, .own [.sc (.str)] [.F] [], .own [.sc (.int .i64), .sc (.int .i64), .sl [.sc (.str), .sc (.str), .sl [.sc (.str)]]] [.F, .F, .O [.F, .F, .O [.F]]] []], .one (AI)], fun m vs k => ap 5 (laws_markBundle m) vs (lm 3 fun z => k (fRet ⟨[.one (RI)], [[none, none, some ([.sc (.str)], [.F], []), some ([.sc (.int .i64), .sc (.int .i64), .sl [.sc (.str), .sc (.str), .sl [.sc (.str)]]], [.F, .F, .O [.F, .F, .O [.F]]], [])], [none]], [none, none]⟩ z))⟩
noncomputable def laws_markBundle_t : List Fs := laws_markBundle_f :: laws_markProofS_t
theorem laws_markBundle_g : FGood CX prims laws_markBundle_t ∧ FEqn CX prims laws_markBundle_f := fnG laws_markProofS_g.1 laws_markBundle_f Try.f15 ⟨15, 2, 14, 17⟩ [] (fun _ _ => rfl) (fun _ _ _ => by kernel_rfl) trivial trivial (fun _ _ _ _ _ => by kernel_rfl)

/-! loop.example/g00244/laws.heldStringS -/
noncomputable def laws_heldStringS_L0_0 (m : Nat) : Nat → T → T → T → (T → An) → (T → An) → An
  | 0, _, _, _, _, _ => .bad
  | n + 1, x0, x1, x2, k0, k1 =>
    cond (decide (x2.int < (x0.rows.length : Int)))
    (cond (decide ((0 : Int) ≤ x2.int ∧ x2.int < (x0.rows.length : Int)))
    (laws_markText m x1
    (fun y0 => cond (!(((x0.rows.getD (Int.toNat x2.int) []).getD 0 dflt).str.toList == y0.str.toList))
    (k0 (T.i (-1)))
    (laws_heldStringS_L0_0 m n x0 (T.i (IntKind.i64.wrap (x1.int + 1))) (T.i (IntKind.i64.wrap (x2.int + 1))) k0 k1)))
    (.bad))
    (k1 x1)
noncomputable def laws_heldStringS : Nat → T → T → (T → An) → An
  | 0, _, _, _ => .bad
  | m + 1, x0, x1, k0 =>
    laws_heldStringS_L0_0 m m (T.l x0.rows) x1 (T.i 0)
    (fun y1 => k0 y1)
    (fun y2 => k0 y2)
noncomputable def laws_heldStringS_f : Fs := ⟨30, [.one (.dz [.sc (.str)] []), .one (AI)], fun m vs k => ap 2 (laws_heldStringS m) vs (lm 1 fun z => k (fRet ⟨[.one (RI)], [[none], [none]], [none, none]⟩ z))⟩
noncomputable def laws_heldStringS_l : List Ls := [⟨[0, 1, 0, 1], ⟨[(0, .one (LD [.sc (.str)])), (1, .one (LI)), (5, .one (LI))], [([4000000], .gone)]⟩, fun m n vs k => ap 3 (laws_heldStringS_L0_0 m n) vs (lm 1 fun z => k .ret (fPack ⟨[(4, .one (LI))], []⟩ z)) (lm 1 fun z => k (.exit 0) (fPack ⟨[(1, .one (LI))], []⟩ z))⟩]
noncomputable def laws_heldStringS_t : List Fs := laws_heldStringS_f :: laws_markBundle_t
theorem laws_heldStringS_g : FGood CX prims laws_heldStringS_t ∧ FEqn CX prims laws_heldStringS_f := fnG laws_markBundle_g.1 laws_heldStringS_f Try.f30 ⟨30, 2, 22, 16⟩ laws_heldStringS_l (fun _ _ => rfl) (fun _ _ _ => by kernel_rfl) ⟨fun _ _ _ => rfl, trivial⟩ ⟨fun _ _ _ _ _ _ => by kernel_rfl, trivial⟩ (fun _ _ _ _ _ => by kernel_rfl)

/-! loop.example/g00244/laws.heldItemS -/
noncomputable def laws_heldItemS_L0_0 (m : Nat) : Nat → T → T → T → (T → An) → (T → An) → An
  | 0, _, _, _, _, _ => .bad
  | n + 1, x0, x1, x2, k0, k1 =>
    cond (decide (x2.int < (x0.rows.length : Int)))
    (cond (decide ((0 : Int) ≤ x2.int ∧ x2.int < (x0.rows.length : Int)))
    (laws_markText m x1
    (fun y0 => cond (!(((x0.rows.getD (Int.toNat x2.int) []).getD 0 dflt).str.toList == y0.str.toList))
    (k0 (T.i (-1)))
    (cond (decide ((0 : Int) ≤ x2.int ∧ x2.int < (x0.rows.length : Int)))
    (laws_markText m (T.i (IntKind.i64.wrap (x1.int + 1)))
    (fun y1 => cond (!((((x0.rows.getD (Int.toNat x2.int) []).drop 1).getD 0 dflt).str.toList == y1.str.toList))
    (k0 (T.i (-1)))
    (cond (decide ((0 : Int) ≤ x2.int ∧ x2.int < (x0.rows.length : Int)))
    (laws_heldStringS m (T.l (((x0.rows.getD (Int.toNat x2.int) []).drop 2).getD 0 dflt).rows) (T.i (IntKind.i64.wrap ((IntKind.i64.wrap (x1.int + 1)) + 1)))
    (fun y2 => cond (decide (y2.int < 0))
    (k0 (T.i (-1)))
    (laws_heldItemS_L0_0 m n x0 y2 (T.i (IntKind.i64.wrap (x2.int + 1))) k0 k1)))
    (.bad))))
    (.bad))))
    (.bad))
    (k1 x1)
noncomputable def laws_heldItemS : Nat → T → T → (T → An) → An
  | 0, _, _, _ => .bad
  | m + 1, x0, x1, k0 =>
    laws_heldItemS_L0_0 m m (T.l x0.rows) x1 (T.i 0)
    (fun y3 => k0 y3)
    (fun y4 => k0 y4)
noncomputable def laws_heldItemS_f : Fs := ⟨44, [.one (.dz [.sc (.str), .sc (.str), .sl [.sc (.str)]] []), .one (AI)], fun m vs k => ap 2 (laws_heldItemS m) vs (lm 1 fun z => k (fRet ⟨[.one (RI)], [[none], [none]], [none, none]⟩ z))⟩
noncomputable def laws_heldItemS_l : List Ls := [⟨[0, 1, 0, 1], ⟨[(0, .one (LD [.sc (.str), .sc (.str), .sl [.sc (.str)]])), (1, .one (LI)), (5, .one (LI))], [([4000000], .gone)]⟩, fun m n vs k => ap 3 (laws_heldItemS_L0_0 m n) vs (lm 1 fun z => k .ret (fPack ⟨[(4, .one (LI))], []⟩ z)) (lm 1 fun z => k (.exit 0) (fPack ⟨[(1, .one (LI))], []⟩ z))⟩]
noncomputable def laws_heldItemS_t : List Fs := laws_heldItemS_f :: laws_heldStringS_t
theorem laws_heldItemS_g : FGood CX prims laws_heldItemS_t ∧ FEqn CX prims laws_heldItemS_f := fnG laws_heldStringS_g.1 laws_heldItemS_f Try.f44 ⟨44, 2, 44, 16⟩ laws_heldItemS_l (fun _ _ => rfl) (fun _ _ _ => by kernel_rfl) ⟨fun _ _ _ => rfl, trivial⟩ ⟨fun _ _ _ _ _ _ => by kernel_rfl, trivial⟩ (fun _ _ _ _ _ => by kernel_rfl)

/-! loop.example/g00244/laws.heldProofS -/
noncomputable def laws_heldProofS_L0_0 (m : Nat) : Nat → T → T → T → (T → An) → (T → An) → An
  | 0, _, _, _, _, _ => .bad
  | n + 1, x0, x1, x2, k0, k1 =>
    cond (decide (x2.int < (x0.rows.length : Int)))
    (cond (decide ((0 : Int) ≤ x2.int ∧ x2.int < (x0.rows.length : Int)))
    (cond (((x0.rows.getD (Int.toNat x2.int) []).getD 0 dflt).int != x1.int)
    (k0 (T.i (-1)))
    (cond (decide ((0 : Int) ≤ x2.int ∧ x2.int < (x0.rows.length : Int)))
    (cond ((((x0.rows.getD (Int.toNat x2.int) []).drop 1).getD 0 dflt).int != (IntKind.i64.wrap (x1.int + 1)))
    (k0 (T.i (-1)))
    (cond (decide ((0 : Int) ≤ x2.int ∧ x2.int < (x0.rows.length : Int)))
    (laws_heldItemS m (T.l (((x0.rows.getD (Int.toNat x2.int) []).drop 2).getD 0 dflt).rows) (T.i (IntKind.i64.wrap ((IntKind.i64.wrap (x1.int + 1)) + 1)))
    (fun y0 => cond (decide (y0.int < 0))
    (k0 (T.i (-1)))
    (laws_heldProofS_L0_0 m n x0 y0 (T.i (IntKind.i64.wrap (x2.int + 1))) k0 k1)))
    (.bad)))
    (.bad)))
    (.bad))
    (k1 x1)
noncomputable def laws_heldProofS : Nat → T → T → (T → An) → An
  | 0, _, _, _ => .bad
  | m + 1, x0, x1, k0 =>
    laws_heldProofS_L0_0 m m (T.l x0.rows) x1 (T.i 0)
    (fun y1 => k0 y1)
    (fun y2 => k0 y2)
noncomputable def laws_heldProofS_f : Fs := ⟨31, [.one (.dz [.sc (.int .i64), .sc (.int .i64), .sl [.sc (.str), .sc (.str), .sl [.sc (.str)]]] []), .one (AI)], fun m vs k => ap 2 (laws_heldProofS m) vs (lm 1 fun z => k (fRet ⟨[.one (RI)], [[none], [none]], [none, none]⟩ z))⟩
noncomputable def laws_heldProofS_l : List Ls := [⟨[0, 1, 0, 1], ⟨[(0, .one (LD [.sc (.int .i64), .sc (.int .i64), .sl [.sc (.str), .sc (.str), .sl [.sc (.str)]]])), (1, .one (LI)), (5, .one (LI))], [([4000000], .gone)]⟩, fun m n vs k => ap 3 (laws_heldProofS_L0_0 m n) vs (lm 1 fun z => k .ret (fPack ⟨[(4, .one (LI))], []⟩ z)) (lm 1 fun z => k (.exit 0) (fPack ⟨[(1, .one (LI))], []⟩ z))⟩]
noncomputable def laws_heldProofS_t : List Fs := laws_heldProofS_f :: laws_heldItemS_t
theorem laws_heldProofS_g : FGood CX prims laws_heldProofS_t ∧ FEqn CX prims laws_heldProofS_f := fnG laws_heldItemS_g.1 laws_heldProofS_f Try.f31 ⟨31, 2, 40, 16⟩ laws_heldProofS_l (fun _ _ => rfl) (fun _ _ _ => by kernel_rfl) ⟨fun _ _ _ => rfl, trivial⟩ ⟨fun _ _ _ _ _ _ => by kernel_rfl, trivial⟩ (fun _ _ _ _ _ => by kernel_rfl)

/-! loop.example/g00244/laws.heldBundle -/
noncomputable def laws_heldBundle : Nat → T → T → T → T → T → (T → An) → An
  | 0, _, _, _, _, _, _ => .bad
  | m + 1, x0, x1, x2, x3, x4, k0 =>
    laws_heldStringS m (T.l x2.rows) x4
    (fun y0 => cond (decide (y0.int < 0))
    (k0 (T.i (-1)))
    (laws_heldProofS m (T.l x3.rows) y0
    (fun y1 => cond (decide (y1.int < 0))
    (k0 (T.i (-1)))
    (k0 y1))))
noncomputable def laws_heldBundle_f : Fs := ⟨16, [.agg [AI, AS, .dz [.sc (.str)] [], .dz [.sc (.int .i64), .sc (.int .i64), .sl [.sc (.str), .sc (.str), .sl [.sc (.str)]]] []], .one (AI)], fun m vs k => ap 5 (laws_heldBundle m) vs (lm 1 fun z => k (fRet ⟨[.one (RI)], [[none, none, none, none], [none]], [none, none]⟩ z))⟩
noncomputable def laws_heldBundle_t : List Fs := laws_heldBundle_f :: laws_heldProofS_t
theorem laws_heldBundle_g : FGood CX prims laws_heldBundle_t ∧ FEqn CX prims laws_heldBundle_f := fnG laws_heldProofS_g.1 laws_heldBundle_f Try.f16 ⟨16, 2, 18, 16⟩ [] (fun _ _ => rfl) (fun _ _ _ => by kernel_rfl) trivial trivial (fun _ _ _ _ _ => by kernel_rfl)

/-! loop.example/g00244/laws.FnExactMakeBundle -/
noncomputable def laws_FnExactMakeBundle : Nat → T → T → T → T → T → T → T → (T → An) → An
  | 0, _, _, _, _, _, _, _, _ => .bad
  | m + 1, x0, x1, x2, x3, x4, x5, x6, k0 =>
    cond (decide ((x5.str.size : Int) > 1048576))
    (k0 (T.b true))
    (cond (decide ((x6.str.size : Int) > 1048576))
    (k0 (T.b true))
    (laws_szSeal m x0 x1 x2 (T.l x3.rows) (T.i 1048576)
    (fun y0 => cond (decide (y0.int < 0))
    (k0 (T.b true))
    (laws_szTableS m (T.l x4.rows) y0
    (fun y1 => cond (decide (y1.int < 0))
    (k0 (T.b true))
    (laws_toSeal m x0 x1 x2 (T.l x3.rows)
    (fun y2 y3 y4 y5 => laws_toTableS m (T.l x4.rows)
    (fun y6 => spec_MakeBundle m y2 y3 y4 (T.l y5.rows) (T.l y6.rows) x5 x6
    (fun y7 y8 y9 y10 => laws_toSeal m x0 x1 x2 (T.l x3.rows)
    (fun y11 y12 y13 y14 => laws_toTableS m (T.l x4.rows)
    (fun y15 => impl_MakeBundle m y11 y12 y13 (T.l y14.rows) (T.l y15.rows) x5 x6
    (fun y16 y17 y18 y19 => laws_eqBundle m y16 y17 (T.l y18.rows) (T.l y19.rows) y7 y8 (T.l y9.rows) (T.l y10.rows)
    (fun y20 => cond (!y20.bool)
    (k0 (T.b false))
    (laws_toSeal m x0 x1 x2 (T.l x3.rows)
    (fun y21 y22 y23 y24 => laws_eqSeal m y11 y12 y13 (T.l y14.rows) y21 y22 y23 (T.l y24.rows)
    (fun y25 => cond (!y25.bool)
    (k0 (T.b false))
    (laws_toTableS m (T.l x4.rows)
    (fun y26 => laws_eqTableS m (T.l y15.rows) (T.l y26.rows)
    (fun y27 => cond (!y27.bool)
    (k0 (T.b false))
    (laws_markSeal m y11 y12 y13 (T.l y14.rows) (T.i 1)
    (fun y28 y29 => laws_markTableS m (T.l y15.rows) y28
    (fun y30 y31 => jn (fun (j49 : An) =>
    cond ((decide (y30.int < 0)) == false)
    (laws_eqBundle m y16 y17 (T.l y18.rows) (T.l y19.rows) y7 y8 (T.l y9.rows) (T.l y10.rows)
    (fun y32 => cond (!y32.bool)
    (k0 (T.b false))
    (j49)))
    (k0 (T.b false)))
    (laws_markBundle m y16 y17 (T.l y18.rows) (T.l y19.rows) (T.i 1)
    (fun y34 y35 y36 => laws_heldBundle m y16 y17 (T.l y35.rows) (T.l y36.rows) (T.i 1)
    (fun y37 => cond (decide (y37.int < 0))
    (k0 (T.b false))
    (cond (y37.int != y34.int)
    (k0 (T.b false))
    (laws_toSeal m x0 x1 x2 (T.l x3.rows)
    (fun y38 y39 y40 y41 => laws_toTableS m (T.l x4.rows)
    (fun y42 => impl_MakeBundle m y38 y39 y40 (T.l y41.rows) (T.l y42.rows) x5 x6
    (fun y43 y44 y45 y46 => laws_eqBundle m y43 y44 (T.l y45.rows) (T.l y46.rows) y7 y8 (T.l y9.rows) (T.l y10.rows)
    (fun y47 => cond (!y47.bool)
    (k0 (T.b false))
    (laws_heldBundle m y16 y17 (T.l y35.rows) (T.l y36.rows) (T.i 1)
    (fun y48 => cond (decide (y48.int < 0))
    (k0 (T.b false))
    (cond (y48.int != y34.int)
    (k0 (T.b false))
    (k0 (T.b true))))))))))))))))))))))))))))))))))))
noncomputable def laws_FnExactMakeBundle_f : Fs := ⟨3, [.agg [AI, AS, AS, .fz [.sc (.str)] []], .one (.fz [.sl [.sc (.str), .sc (.str)]] []), .one (AS), .one (AS)], fun m vs k => ap 7 (laws_FnExactMakeBundle m) vs (lm 1 fun z => k (fRet ⟨[.one (RB)], [[none, none, none, none], [none], [none], [none]], [none, none, none, none]⟩ z))⟩
noncomputable def laws_FnExactMakeBundle_t : List Fs := laws_FnExactMakeBundle_f :: laws_heldBundle_t
theorem laws_FnExactMakeBundle_g : FGood CX prims laws_FnExactMakeBundle_t ∧ FEqn CX prims laws_FnExactMakeBundle_f := fnG laws_heldBundle_g.1 laws_FnExactMakeBundle_f Try.f3 ⟨3, 4, 108, 256⟩ [] (fun _ _ => rfl) (fun _ _ _ => by kernel_rfl) trivial trivial (fun _ _ _ _ _ => by kernel_rfl)

end Go.Proofs.Ytnddpgeeoepkkaa

