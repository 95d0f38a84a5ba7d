/- A part of the proof: texts S6P2: see the last part's opening words. -/
import Derived.Test.YtdmjaenknhhidaaP
set_option linter.unusedVariables false
set_option linter.unusedSimpArgs false
set_option linter.unnecessarySimpa false
namespace Go.Proofs.Ytdmjaenknhhidaa
open Go Go.E Go.Proofs
/-! loop.example/g00244/laws.eqPair -/
noncomputable def laws_eqPair : Nat → T → T → T → T → (T → An) → An
  | 0, _, _, _, _, _ => .bad
  | m + 1, x0, x1, x2, x3, k0 =>
    cond (!(x0.str.toList == x2.str.toList))
    (k0 (T.b false))
    (cond (!(x1.str.toList == x3.str.toList))
    (k0 (T.b false))
    (k0 (T.b true)))
noncomputable def laws_eqPair_a : List Arg := [.agg [.sc (.str) (.l []), .sc (.str) (.l [])], .agg [.sc (.str) (.l []), .sc (.str) (.l [])]]
noncomputable def laws_eqPair_w (m : Nat) (vs : List T) (k : Ret → An) : An := laws_eqPair m (vs.headD dflt) (vs.tail.headD dflt) (vs.tail.tail.headD dflt) (vs.tail.tail.tail.headD dflt) (fun z0 => k ⟨[.one (.sc (.bool) z0)], [[none, none], [none, none]], [none, none]⟩)
theorem laws_eqPair_cf (m : Nat) : callK CX prims m = (callK CX prims m) := by
  rfl
noncomputable def laws_eqPair_c : Code := (Try.f29.body).getD .skip
noncomputable def laws_eqPair_fi : Fi := ⟨29, 2, 15, 16⟩
theorem laws_eqPair_eq (m : Nat) : ∀ vs k, callK CX prims m 29 (fArgs laws_eqPair_a vs) k = laws_eqPair_w m vs k := by
  cases m with
  | zero => exact fun vs k => rfl
  | succ m => exact fun vs k => Eq.trans (b := bodyK CX (callK CX prims m) (loopK CX (callK CX prims m) laws_eqPair_fi laws_eqPair_c m) 29 Try.f29 laws_eqPair_c (fArgs laws_eqPair_a vs) k) (by kernel_rfl) ((bodyK_congr (laws_eqPair_cf m) rfl 29 Try.f29 laws_eqPair_c (fArgs laws_eqPair_a vs) k).trans (by kernel_rfl))

/-! loop.example/g00244/laws.eqPairS -/
noncomputable def laws_eqPairS_L0_0 (m : Nat) : Nat → T → T → T → (T → An) → An → An
  | 0, _, _, _, _, _ => .bad
  | n + 1, x0, x1, x2, k0, k1 =>
    cond (decide (x2.int < (x0.rows.length : Int)))
    (cond (decide ((0 : Int) ≤ x2.int ∧ x2.int < (x0.rows.length : Int)))
    (cond (decide ((0 : Int) ≤ x2.int ∧ x2.int < (x1.rows.length : Int)))
    (laws_eqPair m ((x0.rows.getD (Int.toNat x2.int) []).getD 0 dflt) ((x0.rows.getD (Int.toNat x2.int) []).getD 1 dflt) ((x1.rows.getD (Int.toNat x2.int) []).getD 0 dflt) ((x1.rows.getD (Int.toNat x2.int) []).getD 1 dflt)
    (fun y0 => cond (!y0.bool)
    (k0 (T.b false))
    (laws_eqPairS_L0_0 m n x0 x1 (T.i (IntKind.i64.wrap (x2.int + 1))) k0 k1)))
    (.bad))
    (.bad))
    (k1 )
noncomputable def laws_eqPairS_s0_0 : Pack := ⟨[(0, .one ⟨.sn [([4000000], 0)], .sl [.sc (.str), .sc (.str)], .l []⟩), (1, .one ⟨.sn [([4000000], 0)], .sl [.sc (.str), .sc (.str)], .l []⟩), (5, .one ⟨.sc, .sc (.int .i64), .l []⟩)], [([4000000], .gone)]⟩
noncomputable def laws_eqPairS_e0_0 : Pack := ⟨[(4, .one ⟨.sc, .sc (.bool), .l []⟩)], []⟩
noncomputable def laws_eqPairS_e0_1 : Pack := ⟨[], []⟩
noncomputable def laws_eqPairS_L0_0w (m n : Nat) (vs : List T) (k : Ctl → Pack → An) : An := laws_eqPairS_L0_0 m n (vs.headD dflt) (vs.tail.headD dflt) (vs.tail.tail.headD dflt) (fun z0 => k .ret (fPack laws_eqPairS_e0_0 [z0])) (k (.exit 0) (fPack laws_eqPairS_e0_1 []))
noncomputable def laws_eqPairS : Nat → T → T → (T → An) → An
  | 0, _, _, _ => .bad
  | m + 1, x0, x1, k0 =>
    cond ((x0.rows.length : Int) != (x1.rows.length : Int))
    (k0 (T.b false))
    (laws_eqPairS_L0_0 m m (T.l x0.rows) (T.l x1.rows) (T.i 0)
    (fun y1 => k0 y1)
    (k0 (T.b true)))
noncomputable def laws_eqPairS_a : List Arg := [.one (.dz [.sc (.str), .sc (.str)] []), .one (.dz [.sc (.str), .sc (.str)] [])]
noncomputable def laws_eqPairS_w (m : Nat) (vs : List T) (k : Ret → An) : An := laws_eqPairS m (vs.headD dflt) (vs.tail.headD dflt) (fun z0 => k ⟨[.one (.sc (.bool) z0)], [[none], [none]], [none, none]⟩)
theorem laws_eqPairS_cf (m : Nat) : callK CX prims m = (patC 29 laws_eqPair_a (laws_eqPair_w m) (callK CX prims m)) := by
  rw [← patC_eq (fun vs k => laws_eqPair_eq m vs k)]
noncomputable def laws_eqPairS_c : Code := (Try.f9.body).getD .skip
noncomputable def laws_eqPairS_fi : Fi := ⟨9, 2, 27, 16⟩
theorem laws_eqPairS_lf (m : Nat) : ∀ n, (∀ vs k, loopK CX (callK CX prims m) laws_eqPairS_fi laws_eqPairS_c n [0, 1, 0, 1, 1] (fPack laws_eqPairS_s0_0 vs) k = laws_eqPairS_L0_0w m n vs k) ∧ ((loopK CX (callK CX prims m) laws_eqPairS_fi laws_eqPairS_c n) = (patL [0, 1, 0, 1, 1] laws_eqPairS_s0_0 (laws_eqPairS_L0_0w m n) (loopK CX (callK CX prims m) laws_eqPairS_fi laws_eqPairS_c n))) := by
  intro n
  have hl : ∀ n, (∀ vs k, loopK CX (callK CX prims m) laws_eqPairS_fi laws_eqPairS_c n [0, 1, 0, 1, 1] (fPack laws_eqPairS_s0_0 vs) k = laws_eqPairS_L0_0w m n vs k) → ((loopK CX (callK CX prims m) laws_eqPairS_fi laws_eqPairS_c n) = (patL [0, 1, 0, 1, 1] laws_eqPairS_s0_0 (laws_eqPairS_L0_0w m n) (loopK CX (callK CX prims m) laws_eqPairS_fi laws_eqPairS_c n))) := by
    intro n h0
    rw [← patL_eq h0]
  induction n with
  | zero => exact ⟨fun vs k => rfl, hl 0 (fun vs k => rfl)⟩
  | succ n ihn =>
    have hn := ihn.2
    have h0 : ∀ vs k, loopK CX (callK CX prims m) laws_eqPairS_fi laws_eqPairS_c (n + 1) [0, 1, 0, 1, 1] (fPack laws_eqPairS_s0_0 vs) k = laws_eqPairS_L0_0w m (n + 1) vs k := fun vs k =>
      (stepL_congr (laws_eqPairS_cf m) hn [0, 1, 0, 1, 1] _ _).trans (by kernel_rfl)
    exact ⟨h0, hl (n + 1) h0⟩
theorem laws_eqPairS_eq (m : Nat) : ∀ vs k, callK CX prims m 9 (fArgs laws_eqPairS_a vs) k = laws_eqPairS_w m vs k := by
  cases m with
  | zero => exact fun vs k => rfl
  | succ m => exact fun vs k => Eq.trans (b := bodyK CX (callK CX prims m) (loopK CX (callK CX prims m) laws_eqPairS_fi laws_eqPairS_c m) 9 Try.f9 laws_eqPairS_c (fArgs laws_eqPairS_a vs) k) (by kernel_rfl) ((bodyK_congr (laws_eqPairS_cf m) ((laws_eqPairS_lf m m).2) 9 Try.f9 laws_eqPairS_c (fArgs laws_eqPairS_a vs) k).trans (by kernel_rfl))

/-! loop.example/g00244/laws.eqTable -/
noncomputable def laws_eqTable : Nat → T → T → (T → An) → An
  | 0, _, _, _ => .bad
  | m + 1, x0, x1, k0 =>
    laws_eqPairS m (T.l x0.rows) (T.l x1.rows)
    (fun y0 => cond (!y0.bool)
    (k0 (T.b false))
    (k0 (T.b true)))
noncomputable def laws_eqTable_a : List Arg := [.agg [.dz [.sc (.str), .sc (.str)] []], .agg [.dz [.sc (.str), .sc (.str)] []]]
noncomputable def laws_eqTable_w (m : Nat) (vs : List T) (k : Ret → An) : An := laws_eqTable m (vs.headD dflt) (vs.tail.headD dflt) (fun z0 => k ⟨[.one (.sc (.bool) z0)], [[none], [none]], [none, none]⟩)
theorem laws_eqTable_cf (m : Nat) : callK CX prims m = (patC 9 laws_eqPairS_a (laws_eqPairS_w m) (callK CX prims m)) := by
  rw [← patC_eq (fun vs k => laws_eqPairS_eq m vs k)]
noncomputable def laws_eqTable_c : Code := (Try.f40.body).getD .skip
noncomputable def laws_eqTable_fi : Fi := ⟨40, 2, 11, 16⟩
theorem laws_eqTable_eq (m : Nat) : ∀ vs k, callK CX prims m 40 (fArgs laws_eqTable_a vs) k = laws_eqTable_w m vs k := by
  cases m with
  | zero => exact fun vs k => rfl
  | succ m => exact fun vs k => Eq.trans (b := bodyK CX (callK CX prims m) (loopK CX (callK CX prims m) laws_eqTable_fi laws_eqTable_c m) 40 Try.f40 laws_eqTable_c (fArgs laws_eqTable_a vs) k) (by kernel_rfl) ((bodyK_congr (laws_eqTable_cf m) rfl 40 Try.f40 laws_eqTable_c (fArgs laws_eqTable_a vs) k).trans (by kernel_rfl))

/-! loop.example/g00244/laws.eqTableS -/
noncomputable def laws_eqTableS_L0_0 (m : Nat) : Nat → T → T → T → (T → An) → An → An
  | 0, _, _, _, _, _ => .bad
  | n + 1, x0, x1, x2, k0, k1 =>
    cond (decide (x2.int < (x0.rows.length : Int)))
    (cond (decide ((0 : Int) ≤ x2.int ∧ x2.int < (x0.rows.length : Int)))
    (cond (decide ((0 : Int) ≤ x2.int ∧ x2.int < (x1.rows.length : Int)))
    (laws_eqTable m (T.l ((x0.rows.getD (Int.toNat x2.int) []).getD 0 dflt).rows) (T.l ((x1.rows.getD (Int.toNat x2.int) []).getD 0 dflt).rows)
    (fun y0 => cond (!y0.bool)
    (k0 (T.b false))
    (laws_eqTableS_L0_0 m n x0 x1 (T.i (IntKind.i64.wrap (x2.int + 1))) k0 k1)))
    (.bad))
    (.bad))
    (k1 )
noncomputable def laws_eqTableS_s0_0 : Pack := ⟨[(0, .one ⟨.sn [([4000000], 0)], .sl [.sl [.sc (.str), .sc (.str)]], .l []⟩), (1, .one ⟨.sn [([4000000], 0)], .sl [.sl [.sc (.str), .sc (.str)]], .l []⟩), (5, .one ⟨.sc, .sc (.int .i64), .l []⟩)], [([4000000], .gone)]⟩
noncomputable def laws_eqTableS_e0_0 : Pack := ⟨[(4, .one ⟨.sc, .sc (.bool), .l []⟩)], []⟩
noncomputable def laws_eqTableS_e0_1 : Pack := ⟨[], []⟩
noncomputable def laws_eqTableS_L0_0w (m n : Nat) (vs : List T) (k : Ctl → Pack → An) : An := laws_eqTableS_L0_0 m n (vs.headD dflt) (vs.tail.headD dflt) (vs.tail.tail.headD dflt) (fun z0 => k .ret (fPack laws_eqTableS_e0_0 [z0])) (k (.exit 0) (fPack laws_eqTableS_e0_1 []))
noncomputable def laws_eqTableS : Nat → T → T → (T → An) → An
  | 0, _, _, _ => .bad
  | m + 1, x0, x1, k0 =>
    cond ((x0.rows.length : Int) != (x1.rows.length : Int))
    (k0 (T.b false))
    (laws_eqTableS_L0_0 m m (T.l x0.rows) (T.l x1.rows) (T.i 0)
    (fun y1 => k0 y1)
    (k0 (T.b true)))
noncomputable def laws_eqTableS_a : List Arg := [.one (.dz [.sl [.sc (.str), .sc (.str)]] []), .one (.dz [.sl [.sc (.str), .sc (.str)]] [])]
noncomputable def laws_eqTableS_w (m : Nat) (vs : List T) (k : Ret → An) : An := laws_eqTableS m (vs.headD dflt) (vs.tail.headD dflt) (fun z0 => k ⟨[.one (.sc (.bool) z0)], [[none], [none]], [none, none]⟩)
theorem laws_eqTableS_cf (m : Nat) : callK CX prims m = (patC 40 laws_eqTable_a (laws_eqTable_w m) (callK CX prims m)) := by
  rw [← patC_eq (fun vs k => laws_eqTable_eq m vs k)]
noncomputable def laws_eqTableS_c : Code := (Try.f16.body).getD .skip
noncomputable def laws_eqTableS_fi : Fi := ⟨16, 2, 27, 16⟩
theorem laws_eqTableS_lf (m : Nat) : ∀ n, (∀ vs k, loopK CX (callK CX prims m) laws_eqTableS_fi laws_eqTableS_c n [0, 1, 0, 1, 1] (fPack laws_eqTableS_s0_0 vs) k = laws_eqTableS_L0_0w m n vs k) ∧ ((loopK CX (callK CX prims m) laws_eqTableS_fi laws_eqTableS_c n) = (patL [0, 1, 0, 1, 1] laws_eqTableS_s0_0 (laws_eqTableS_L0_0w m n) (loopK CX (callK CX prims m) laws_eqTableS_fi laws_eqTableS_c n))) := by
  intro n
  have hl : ∀ n, (∀ vs k, loopK CX (callK CX prims m) laws_eqTableS_fi laws_eqTableS_c n [0, 1, 0, 1, 1] (fPack laws_eqTableS_s0_0 vs) k = laws_eqTableS_L0_0w m n vs k) → ((loopK CX (callK CX prims m) laws_eqTableS_fi laws_eqTableS_c n) = (patL [0, 1, 0, 1, 1] laws_eqTableS_s0_0 (laws_eqTableS_L0_0w m n) (loopK CX (callK CX prims m) laws_eqTableS_fi laws_eqTableS_c n))) := by
    intro n h0
    rw [← patL_eq h0]
  induction n with
  | zero => exact ⟨fun vs k => rfl, hl 0 (fun vs k => rfl)⟩
  | succ n ihn =>
    have hn := ihn.2
    have h0 : ∀ vs k, loopK CX (callK CX prims m) laws_eqTableS_fi laws_eqTableS_c (n + 1) [0, 1, 0, 1, 1] (fPack laws_eqTableS_s0_0 vs) k = laws_eqTableS_L0_0w m (n + 1) vs k := fun vs k =>
      (stepL_congr (laws_eqTableS_cf m) hn [0, 1, 0, 1, 1] _ _).trans (by kernel_rfl)
    exact ⟨h0, hl (n + 1) h0⟩
theorem laws_eqTableS_eq (m : Nat) : ∀ vs k, callK CX prims m 16 (fArgs laws_eqTableS_a vs) k = laws_eqTableS_w m vs k := by
  cases m with
  | zero => exact fun vs k => rfl
  | succ m => exact fun vs k => Eq.trans (b := bodyK CX (callK CX prims m) (loopK CX (callK CX prims m) laws_eqTableS_fi laws_eqTableS_c m) 16 Try.f16 laws_eqTableS_c (fArgs laws_eqTableS_a vs) k) (by kernel_rfl) ((bodyK_congr (laws_eqTableS_cf m) ((laws_eqTableS_lf m m).2) 16 Try.f16 laws_eqTableS_c (fArgs laws_eqTableS_a vs) k).trans (by kernel_rfl))

/-! loop.example/g00244/laws.eqOp -/
noncomputable def laws_eqOp : Nat → T → T → T → T → T → T → (T → An) → An
  | 0, _, _, _, _, _, _, _ => .bad
  | m + 1, x0, x1, x2, x3, x4, x5, k0 =>
    cond (x0.int != x3.int)
    (k0 (T.b false))
    (cond (!(x1.str.toList == x4.str.toList))
    (k0 (T.b false))
    (cond (!(x2.str.toList == x5.str.toList))
    (k0 (T.b false))
    (k0 (T.b true))))
noncomputable def laws_eqOp_a : List Arg := [.agg [.sc (.int .i64) (.l []), .sc (.str) (.l []), .sc (.str) (.l [])], .agg [.sc (.int .i64) (.l []), .sc (.str) (.l []), .sc (.str) (.l [])]]
noncomputable def laws_eqOp_w (m : Nat) (vs : List T) (k : Ret → An) : An := laws_eqOp m (vs.headD dflt) (vs.tail.headD dflt) (vs.tail.tail.headD dflt) (vs.tail.tail.tail.headD dflt) (vs.tail.tail.tail.tail.headD dflt) (vs.tail.tail.tail.tail.tail.headD dflt) (fun z0 => k ⟨[.one (.sc (.bool) z0)], [[none, none, none], [none, none, none]], [none, none]⟩)
theorem laws_eqOp_cf (m : Nat) : callK CX prims m = (callK CX prims m) := by
  rfl
noncomputable def laws_eqOp_c : Code := (Try.f92.body).getD .skip
noncomputable def laws_eqOp_fi : Fi := ⟨92, 2, 20, 16⟩
theorem laws_eqOp_eq (m : Nat) : ∀ vs k, callK CX prims m 92 (fArgs laws_eqOp_a vs) k = laws_eqOp_w m vs k := by
  cases m with
  | zero => exact fun vs k => rfl
  | succ m => exact fun vs k => Eq.trans (b := bodyK CX (callK CX prims m) (loopK CX (callK CX prims m) laws_eqOp_fi laws_eqOp_c m) 92 Try.f92 laws_eqOp_c (fArgs laws_eqOp_a vs) k) (by kernel_rfl) ((bodyK_congr (laws_eqOp_cf m) rfl 92 Try.f92 laws_eqOp_c (fArgs laws_eqOp_a vs) k).trans (by kernel_rfl))

/-! loop.example/g00244/laws.eqOpS -/
noncomputable def laws_eqOpS_L0_0 (m : Nat) : Nat → T → T → T → (T → An) → An → An
  | 0, _, _, _, _, _ => .bad
  | n + 1, x0, x1, x2, k0, k1 =>
    cond (decide (x2.int < (x0.rows.length : Int)))
    (cond (decide ((0 : Int) ≤ x2.int ∧ x2.int < (x0.rows.length : Int)))
    (cond (decide ((0 : Int) ≤ x2.int ∧ x2.int < (x1.rows.length : Int)))
    (laws_eqOp m ((x0.rows.getD (Int.toNat x2.int) []).getD 0 dflt) ((x0.rows.getD (Int.toNat x2.int) []).getD 1 dflt) ((x0.rows.getD (Int.toNat x2.int) []).getD 2 dflt) ((x1.rows.getD (Int.toNat x2.int) []).getD 0 dflt) ((x1.rows.getD (Int.toNat x2.int) []).getD 1 dflt) ((x1.rows.getD (Int.toNat x2.int) []).getD 2 dflt)
    (fun y0 => cond (!y0.bool)
    (k0 (T.b false))
    (laws_eqOpS_L0_0 m n x0 x1 (T.i (IntKind.i64.wrap (x2.int + 1))) k0 k1)))
    (.bad))
    (.bad))
    (k1 )
noncomputable def laws_eqOpS_s0_0 : Pack := ⟨[(0, .one ⟨.sn [([4000000], 0)], .sl [.sc (.int .i64), .sc (.str), .sc (.str)], .l []⟩), (1, .one ⟨.sn [([4000000], 0)], .sl [.sc (.int .i64), .sc (.str), .sc (.str)], .l []⟩), (5, .one ⟨.sc, .sc (.int .i64), .l []⟩)], [([4000000], .gone)]⟩
noncomputable def laws_eqOpS_e0_0 : Pack := ⟨[(4, .one ⟨.sc, .sc (.bool), .l []⟩)], []⟩
noncomputable def laws_eqOpS_e0_1 : Pack := ⟨[], []⟩
noncomputable def laws_eqOpS_L0_0w (m n : Nat) (vs : List T) (k : Ctl → Pack → An) : An := laws_eqOpS_L0_0 m n (vs.headD dflt) (vs.tail.headD dflt) (vs.tail.tail.headD dflt) (fun z0 => k .ret (fPack laws_eqOpS_e0_0 [z0])) (k (.exit 0) (fPack laws_eqOpS_e0_1 []))
noncomputable def laws_eqOpS : Nat → T → T → (T → An) → An
  | 0, _, _, _ => .bad
  | m + 1, x0, x1, k0 =>
    cond ((x0.rows.length : Int) != (x1.rows.length : Int))
    (k0 (T.b false))
    (laws_eqOpS_L0_0 m m (T.l x0.rows) (T.l x1.rows) (T.i 0)
    (fun y1 => k0 y1)
    (k0 (T.b true)))
noncomputable def laws_eqOpS_a : List Arg := [.one (.dz [.sc (.int .i64), .sc (.str), .sc (.str)] []), .one (.dz [.sc (.int .i64), .sc (.str), .sc (.str)] [])]
noncomputable def laws_eqOpS_w (m : Nat) (vs : List T) (k : Ret → An) : An := laws_eqOpS m (vs.headD dflt) (vs.tail.headD dflt) (fun z0 => k ⟨[.one (.sc (.bool) z0)], [[none], [none]], [none, none]⟩)
theorem laws_eqOpS_cf (m : Nat) : callK CX prims m = (patC 92 laws_eqOp_a (laws_eqOp_w m) (callK CX prims m)) := by
  rw [← patC_eq (fun vs k => laws_eqOp_eq m vs k)]
noncomputable def laws_eqOpS_c : Code := (Try.f76.body).getD .skip
noncomputable def laws_eqOpS_fi : Fi := ⟨76, 2, 27, 16⟩
theorem laws_eqOpS_lf (m : Nat) : ∀ n, (∀ vs k, loopK CX (callK CX prims m) laws_eqOpS_fi laws_eqOpS_c n [0, 1, 0, 1, 1] (fPack laws_eqOpS_s0_0 vs) k = laws_eqOpS_L0_0w m n vs k) ∧ ((loopK CX (callK CX prims m) laws_eqOpS_fi laws_eqOpS_c n) = (patL [0, 1, 0, 1, 1] laws_eqOpS_s0_0 (laws_eqOpS_L0_0w m n) (loopK CX (callK CX prims m) laws_eqOpS_fi laws_eqOpS_c n))) := by
  intro n
  have hl : ∀ n, (∀ vs k, loopK CX (callK CX prims m) laws_eqOpS_fi laws_eqOpS_c n [0, 1, 0, 1, 1] (fPack laws_eqOpS_s0_0 vs) k = laws_eqOpS_L0_0w m n vs k) → ((loopK CX (callK CX prims m) laws_eqOpS_fi laws_eqOpS_c n) = (patL [0, 1, 0, 1, 1] laws_eqOpS_s0_0 (laws_eqOpS_L0_0w m n) (loopK CX (callK CX prims m) laws_eqOpS_fi laws_eqOpS_c n))) := by
    intro n h0
    rw [← patL_eq h0]
  induction n with
  | zero => exact ⟨fun vs k => rfl, hl 0 (fun vs k => rfl)⟩
  | succ n ihn =>
    have hn := ihn.2
    have h0 : ∀ vs k, loopK CX (callK CX prims m) laws_eqOpS_fi laws_eqOpS_c (n + 1) [0, 1, 0, 1, 1] (fPack laws_eqOpS_s0_0 vs) k = laws_eqOpS_L0_0w m (n + 1) vs k := fun vs k =>
      (stepL_congr (laws_eqOpS_cf m) hn [0, 1, 0, 1, 1] _ _).trans (by kernel_rfl)
    exact ⟨h0, hl (n + 1) h0⟩
theorem laws_eqOpS_eq (m : Nat) : ∀ vs k, callK CX prims m 76 (fArgs laws_eqOpS_a vs) k = laws_eqOpS_w m vs k := by
  cases m with
  | zero => exact fun vs k => rfl
  | succ m => exact fun vs k => Eq.trans (b := bodyK CX (callK CX prims m) (loopK CX (callK CX prims m) laws_eqOpS_fi laws_eqOpS_c m) 76 Try.f76 laws_eqOpS_c (fArgs laws_eqOpS_a vs) k) (by kernel_rfl) ((bodyK_congr (laws_eqOpS_cf m) ((laws_eqOpS_lf m m).2) 76 Try.f76 laws_eqOpS_c (fArgs laws_eqOpS_a vs) k).trans (by kernel_rfl))

/-! loop.example/g00244/laws.eqIntS -/
noncomputable def laws_eqIntS_L0_0 (m : Nat) : Nat → T → T → T → (T → An) → An → An
  | 0, _, _, _, _, _ => .bad
  | n + 1, x0, x1, x2, k0, k1 =>
    cond (decide (x2.int < (x0.rows.length : Int)))
    (cond (decide ((0 : Int) ≤ x2.int ∧ x2.int < (x0.rows.length : Int)))
    (cond (decide ((0 : Int) ≤ x2.int ∧ x2.int < (x1.rows.length : Int)))
    (cond (((x0.rows.getD (Int.toNat x2.int) []).getD 0 dflt).int != ((x1.rows.getD (Int.toNat x2.int) []).getD 0 dflt).int)
    (k0 (T.b false))
    (laws_eqIntS_L0_0 m n x0 x1 (T.i (IntKind.i64.wrap (x2.int + 1))) k0 k1))
    (.bad))
    (.bad))
    (k1 )
noncomputable def laws_eqIntS_s0_0 : Pack := ⟨[(0, .one ⟨.sn [([4000000], 0)], .sl [.sc (.int .i64)], .l []⟩), (1, .one ⟨.sn [([4000000], 0)], .sl [.sc (.int .i64)], .l []⟩), (5, .one ⟨.sc, .sc (.int .i64), .l []⟩)], [([4000000], .gone)]⟩
noncomputable def laws_eqIntS_e0_0 : Pack := ⟨[(4, .one ⟨.sc, .sc (.bool), .l []⟩)], []⟩
noncomputable def laws_eqIntS_e0_1 : Pack := ⟨[], []⟩
noncomputable def laws_eqIntS_L0_0w (m n : Nat) (vs : List T) (k : Ctl → Pack → An) : An := laws_eqIntS_L0_0 m n (vs.headD dflt) (vs.tail.headD dflt) (vs.tail.tail.headD dflt) (fun z0 => k .ret (fPack laws_eqIntS_e0_0 [z0])) (k (.exit 0) (fPack laws_eqIntS_e0_1 []))
noncomputable def laws_eqIntS : Nat → T → T → (T → An) → An
  | 0, _, _, _ => .bad
  | m + 1, x0, x1, k0 =>
    cond ((x0.rows.length : Int) != (x1.rows.length : Int))
    (k0 (T.b false))
    (laws_eqIntS_L0_0 m m (T.l x0.rows) (T.l x1.rows) (T.i 0)
    (fun y0 => k0 y0)
    (k0 (T.b true)))
noncomputable def laws_eqIntS_a : List Arg := [.one (.dz [.sc (.int .i64)] []), .one (.dz [.sc (.int .i64)] [])]
noncomputable def laws_eqIntS_w (m : Nat) (vs : List T) (k : Ret → An) : An := laws_eqIntS m (vs.headD dflt) (vs.tail.headD dflt) (fun z0 => k ⟨[.one (.sc (.bool) z0)], [[none], [none]], [none, none]⟩)
theorem laws_eqIntS_cf (m : Nat) : callK CX prims m = (callK CX prims m) := by
  rfl
noncomputable def laws_eqIntS_c : Code := (Try.f90.body).getD .skip
noncomputable def laws_eqIntS_fi : Fi := ⟨90, 2, 26, 16⟩
theorem laws_eqIntS_lf (m : Nat) : ∀ n, (∀ vs k, loopK CX (callK CX prims m) laws_eqIntS_fi laws_eqIntS_c n [0, 1, 0, 1, 1] (fPack laws_eqIntS_s0_0 vs) k = laws_eqIntS_L0_0w m n vs k) ∧ ((loopK CX (callK CX prims m) laws_eqIntS_fi laws_eqIntS_c n) = (patL [0, 1, 0, 1, 1] laws_eqIntS_s0_0 (laws_eqIntS_L0_0w m n) (loopK CX (callK CX prims m) laws_eqIntS_fi laws_eqIntS_c n))) := by
  intro n
  have hl : ∀ n, (∀ vs k, loopK CX (callK CX prims m) laws_eqIntS_fi laws_eqIntS_c n [0, 1, 0, 1, 1] (fPack laws_eqIntS_s0_0 vs) k = laws_eqIntS_L0_0w m n vs k) → ((loopK CX (callK CX prims m) laws_eqIntS_fi laws_eqIntS_c n) = (patL [0, 1, 0, 1, 1] laws_eqIntS_s0_0 (laws_eqIntS_L0_0w m n) (loopK CX (callK CX prims m) laws_eqIntS_fi laws_eqIntS_c n))) := by
    intro n h0
    rw [← patL_eq h0]
  induction n with
  | zero => exact ⟨fun vs k => rfl, hl 0 (fun vs k => rfl)⟩
  | succ n ihn =>
    have hn := ihn.2
    have h0 : ∀ vs k, loopK CX (callK CX prims m) laws_eqIntS_fi laws_eqIntS_c (n + 1) [0, 1, 0, 1, 1] (fPack laws_eqIntS_s0_0 vs) k = laws_eqIntS_L0_0w m (n + 1) vs k := fun vs k =>
      (stepL_congr (laws_eqIntS_cf m) hn [0, 1, 0, 1, 1] _ _).trans (by kernel_rfl)
    exact ⟨h0, hl (n + 1) h0⟩
theorem laws_eqIntS_eq (m : Nat) : ∀ vs k, callK CX prims m 90 (fArgs laws_eqIntS_a vs) k = laws_eqIntS_w m vs k := by
  cases m with
  | zero => exact fun vs k => rfl
  | succ m => exact fun vs k => Eq.trans (b := bodyK CX (callK CX prims m) (loopK CX (callK CX prims m) laws_eqIntS_fi laws_eqIntS_c m) 90 Try.f90 laws_eqIntS_c (fArgs laws_eqIntS_a vs) k) (by kernel_rfl) ((bodyK_congr (laws_eqIntS_cf m) ((laws_eqIntS_lf m m).2) 90 Try.f90 laws_eqIntS_c (fArgs laws_eqIntS_a vs) k).trans (by kernel_rfl))

/-! loop.example/g00244/laws.eqJob -/
noncomputable def laws_eqJob : Nat → T → T → T → T → T → T → T → T → (T → An) → An
  | 0, _, _, _, _, _, _, _, _, _ => .bad
  | m + 1, x0, x1, x2, x3, x4, x5, x6, x7, k0 =>
    cond (x0.int != x4.int)
    (k0 (T.b false))
    (laws_eqOpS m (T.l x1.rows) (T.l x5.rows)
    (fun y0 => cond (!y0.bool)
    (k0 (T.b false))
    (cond (x2.int != x6.int)
    (k0 (T.b false))
    (laws_eqIntS m (T.l x3.rows) (T.l x7.rows)
    (fun y1 => cond (!y1.bool)
    (k0 (T.b false))
    (k0 (T.b true)))))))
noncomputable def laws_eqJob_a : List Arg := [.agg [.sc (.int .i64) (.l []), .dz [.sc (.int .i64), .sc (.str), .sc (.str)] [], .sc (.int .i64) (.l []), .dz [.sc (.int .i64)] []], .agg [.sc (.int .i64) (.l []), .dz [.sc (.int .i64), .sc (.str), .sc (.str)] [], .sc (.int .i64) (.l []), .dz [.sc (.int .i64)] []]]
noncomputable def laws_eqJob_w (m : Nat) (vs : List T) (k : Ret → An) : An := laws_eqJob m (vs.headD dflt) (vs.tail.headD dflt) (vs.tail.tail.headD dflt) (vs.tail.tail.tail.headD dflt) (vs.tail.tail.tail.tail.headD dflt) (vs.tail.tail.tail.tail.tail.headD dflt) (vs.tail.tail.tail.tail.tail.tail.headD dflt) (vs.tail.tail.tail.tail.tail.tail.tail.headD dflt) (fun z0 => k ⟨[.one (.sc (.bool) z0)], [[none, none, none, none], [none, none, none, none]], [none, none]⟩)
theorem laws_eqJob_cf (m : Nat) : callK CX prims m = (patC 76 laws_eqOpS_a (laws_eqOpS_w m) (patC 90 laws_eqIntS_a (laws_eqIntS_w m) (callK CX prims m))) := by
  rw [← patC_eq (fun vs k => laws_eqIntS_eq m vs k), ← patC_eq (fun vs k => laws_eqOpS_eq m vs k)]
noncomputable def laws_eqJob_c : Code := (Try.f73.body).getD .skip
noncomputable def laws_eqJob_fi : Fi := ⟨73, 2, 27, 16⟩
theorem laws_eqJob_eq (m : Nat) : ∀ vs k, callK CX prims m 73 (fArgs laws_eqJob_a vs) k = laws_eqJob_w m vs k := by
  cases m with
  | zero => exact fun vs k => rfl
  | succ m => exact fun vs k => Eq.trans (b := bodyK CX (callK CX prims m) (loopK CX (callK CX prims m) laws_eqJob_fi laws_eqJob_c m) 73 Try.f73 laws_eqJob_c (fArgs laws_eqJob_a vs) k) (by kernel_rfl) ((bodyK_congr (laws_eqJob_cf m) rfl 73 Try.f73 laws_eqJob_c (fArgs laws_eqJob_a vs) k).trans (by kernel_rfl))

/-! loop.example/g00244/laws.eqJobS -/
noncomputable def laws_eqJobS_L0_0 (m : Nat) : Nat → T → T → T → (T → An) → An → An
  | 0, _, _, _, _, _ => .bad
  | n + 1, x0, x1, x2, k0, k1 =>
    cond (decide (x2.int < (x0.rows.length : Int)))
    (cond (decide ((0 : Int) ≤ x2.int ∧ x2.int < (x0.rows.length : Int)))
    (cond (decide ((0 : Int) ≤ x2.int ∧ x2.int < (x1.rows.length : Int)))
    (laws_eqJob m ((x0.rows.getD (Int.toNat x2.int) []).getD 0 dflt) (T.l ((x0.rows.getD (Int.toNat x2.int) []).getD 1 dflt).rows) ((x0.rows.getD (Int.toNat x2.int) []).getD 2 dflt) (T.l ((x0.rows.getD (Int.toNat x2.int) []).getD 3 dflt).rows) ((x1.rows.getD (Int.toNat x2.int) []).getD 0 dflt) (T.l ((x1.rows.getD (Int.toNat x2.int) []).getD 1 dflt).rows) ((x1.rows.getD (Int.toNat x2.int) []).getD 2 dflt) (T.l ((x1.rows.getD (Int.toNat x2.int) []).getD 3 dflt).rows)
    (fun y0 => cond (!y0.bool)
    (k0 (T.b false))
    (laws_eqJobS_L0_0 m n x0 x1 (T.i (IntKind.i64.wrap (x2.int + 1))) k0 k1)))
    (.bad))
    (.bad))
    (k1 )
noncomputable def laws_eqJobS_s0_0 : Pack := ⟨[(0, .one ⟨.sn [([4000000], 0)], .sl [.sc (.int .i64), .sl [.sc (.int .i64), .sc (.str), .sc (.str)], .sc (.int .i64), .sl [.sc (.int .i64)]], .l []⟩), (1, .one ⟨.sn [([4000000], 0)], .sl [.sc (.int .i64), .sl [.sc (.int .i64), .sc (.str), .sc (.str)], .sc (.int .i64), .sl [.sc (.int .i64)]], .l []⟩), (5, .one ⟨.sc, .sc (.int .i64), .l []⟩)], [([4000000], .gone)]⟩
noncomputable def laws_eqJobS_e0_0 : Pack := ⟨[(4, .one ⟨.sc, .sc (.bool), .l []⟩)], []⟩
noncomputable def laws_eqJobS_e0_1 : Pack := ⟨[], []⟩
noncomputable def laws_eqJobS_L0_0w (m n : Nat) (vs : List T) (k : Ctl → Pack → An) : An := laws_eqJobS_L0_0 m n (vs.headD dflt) (vs.tail.headD dflt) (vs.tail.tail.headD dflt) (fun z0 => k .ret (fPack laws_eqJobS_e0_0 [z0])) (k (.exit 0) (fPack laws_eqJobS_e0_1 []))
noncomputable def laws_eqJobS : Nat → T → T → (T → An) → An
  | 0, _, _, _ => .bad
  | m + 1, x0, x1, k0 =>
    cond ((x0.rows.length : Int) != (x1.rows.length : Int))
    (k0 (T.b false))
    (laws_eqJobS_L0_0 m m (T.l x0.rows) (T.l x1.rows) (T.i 0)
    (fun y1 => k0 y1)
    (k0 (T.b true)))
noncomputable def laws_eqJobS_a : List Arg := [.one (.dz [.sc (.int .i64), .sl [.sc (.int .i64), .sc (.str), .sc (.str)], .sc (.int .i64), .sl [.sc (.int .i64)]] []), .one (.dz [.sc (.int .i64), .sl [.sc (.int .i64), .sc (.str), .sc (.str)], .sc (.int .i64), .sl [.sc (.int .i64)]] [])]
noncomputable def laws_eqJobS_w (m : Nat) (vs : List T) (k : Ret → An) : An := laws_eqJobS m (vs.headD dflt) (vs.tail.headD dflt) (fun z0 => k ⟨[.one (.sc (.bool) z0)], [[none], [none]], [none, none]⟩)
theorem laws_eqJobS_cf (m : Nat) : callK CX prims m = (patC 73 laws_eqJob_a (laws_eqJob_w m) (callK CX prims m)) := by
  rw [← patC_eq (fun vs k => laws_eqJob_eq m vs k)]
noncomputable def laws_eqJobS_c : Code := (Try.f53.body).getD .skip
noncomputable def laws_eqJobS_fi : Fi := ⟨53, 2, 27, 16⟩
theorem laws_eqJobS_lf (m : Nat) : ∀ n, (∀ vs k, loopK CX (callK CX prims m) laws_eqJobS_fi laws_eqJobS_c n [0, 1, 0, 1, 1] (fPack laws_eqJobS_s0_0 vs) k = laws_eqJobS_L0_0w m n vs k) ∧ ((loopK CX (callK CX prims m) laws_eqJobS_fi laws_eqJobS_c n) = (patL [0, 1, 0, 1, 1] laws_eqJobS_s0_0 (laws_eqJobS_L0_0w m n) (loopK CX (callK CX prims m) laws_eqJobS_fi laws_eqJobS_c n))) := by
  intro n
  have hl : ∀ n, (∀ vs k, loopK CX (callK CX prims m) laws_eqJobS_fi laws_eqJobS_c n [0, 1, 0, 1, 1] (fPack laws_eqJobS_s0_0 vs) k = laws_eqJobS_L0_0w m n vs k) → ((loopK CX (callK CX prims m) laws_eqJobS_fi laws_eqJobS_c n) = (patL [0, 1, 0, 1, 1] laws_eqJobS_s0_0 (laws_eqJobS_L0_0w m n) (loopK CX (callK CX prims m) laws_eqJobS_fi laws_eqJobS_c n))) := by
    intro n h0
    rw [← patL_eq h0]
  induction n with
  | zero => exact ⟨fun vs k => rfl, hl 0 (fun vs k => rfl)⟩
  | succ n ihn =>
    have hn := ihn.2
    have h0 : ∀ vs k, loopK CX (callK CX prims m) laws_eqJobS_fi laws_eqJobS_c (n + 1) [0, 1, 0, 1, 1] (fPack laws_eqJobS_s0_0 vs) k = laws_eqJobS_L0_0w m (n + 1) vs k := fun vs k =>
      (stepL_congr (laws_eqJobS_cf m) hn [0, 1, 0, 1, 1] _ _).trans (by kernel_rfl)
    exact ⟨h0, hl (n + 1) h0⟩
theorem laws_eqJobS_eq (m : Nat) : ∀ vs k, callK CX prims m 53 (fArgs laws_eqJobS_a vs) k = laws_eqJobS_w m vs k := by
  cases m with
  | zero => exact fun vs k => rfl
  | succ m => exact fun vs k => Eq.trans (b := bodyK CX (callK CX prims m) (loopK CX (callK CX prims m) laws_eqJobS_fi laws_eqJobS_c m) 53 Try.f53 laws_eqJobS_c (fArgs laws_eqJobS_a vs) k) (by kernel_rfl) ((bodyK_congr (laws_eqJobS_cf m) ((laws_eqJobS_lf m m).2) 53 Try.f53 laws_eqJobS_c (fArgs laws_eqJobS_a vs) k).trans (by kernel_rfl))

/-! loop.example/g00244/laws.eqChoice -/
noncomputable def laws_eqChoice : Nat → T → T → T → T → (T → An) → An
  | 0, _, _, _, _, _ => .bad
  | m + 1, x0, x1, x2, x3, k0 =>
    cond (x0.int != x2.int)
    (k0 (T.b false))
    (cond (!(x1.bool == x3.bool))
    (k0 (T.b false))
    (k0 (T.b true)))
noncomputable def laws_eqChoice_a : List Arg := [.agg [.sc (.int .i64) (.l []), .sc (.bool) (.l [])], .agg [.sc (.int .i64) (.l []), .sc (.bool) (.l [])]]
noncomputable def laws_eqChoice_w (m : Nat) (vs : List T) (k : Ret → An) : An := laws_eqChoice m (vs.headD dflt) (vs.tail.headD dflt) (vs.tail.tail.headD dflt) (vs.tail.tail.tail.headD dflt) (fun z0 => k ⟨[.one (.sc (.bool) z0)], [[none, none], [none, none]], [none, none]⟩)
theorem laws_eqChoice_cf (m : Nat) : callK CX prims m = (callK CX prims m) := by
  rfl
noncomputable def laws_eqChoice_c : Code := (Try.f74.body).getD .skip
noncomputable def laws_eqChoice_fi : Fi := ⟨74, 2, 15, 16⟩
theorem laws_eqChoice_eq (m : Nat) : ∀ vs k, callK CX prims m 74 (fArgs laws_eqChoice_a vs) k = laws_eqChoice_w m vs k := by
  cases m with
  | zero => exact fun vs k => rfl
  | succ m => exact fun vs k => Eq.trans (b := bodyK CX (callK CX prims m) (loopK CX (callK CX prims m) laws_eqChoice_fi laws_eqChoice_c m) 74 Try.f74 laws_eqChoice_c (fArgs laws_eqChoice_a vs) k) (by kernel_rfl) ((bodyK_congr (laws_eqChoice_cf m) rfl 74 Try.f74 laws_eqChoice_c (fArgs laws_eqChoice_a vs) k).trans (by kernel_rfl))

/-! loop.example/g00244/laws.eqChoiceS -/
noncomputable def laws_eqChoiceS_L0_0 (m : Nat) : Nat → T → T → T → (T → An) → An → An
  | 0, _, _, _, _, _ => .bad
  | n + 1, x0, x1, x2, k0, k1 =>
    cond (decide (x2.int < (x0.rows.length : Int)))
    (cond (decide ((0 : Int) ≤ x2.int ∧ x2.int < (x0.rows.length : Int)))
    (cond (decide ((0 : Int) ≤ x2.int ∧ x2.int < (x1.rows.length : Int)))
    (laws_eqChoice m ((x0.rows.getD (Int.toNat x2.int) []).getD 0 dflt) ((x0.rows.getD (Int.toNat x2.int) []).getD 1 dflt) ((x1.rows.getD (Int.toNat x2.int) []).getD 0 dflt) ((x1.rows.getD (Int.toNat x2.int) []).getD 1 dflt)
    (fun y0 => cond (!y0.bool)
    (k0 (T.b false))
    (laws_eqChoiceS_L0_0 m n x0 x1 (T.i (IntKind.i64.wrap (x2.int + 1))) k0 k1)))
    (.bad))
    (.bad))
    (k1 )
noncomputable def laws_eqChoiceS_s0_0 : Pack := ⟨[(0, .one ⟨.sn [([4000000], 0)], .sl [.sc (.int .i64), .sc (.bool)], .l []⟩), (1, .one ⟨.sn [([4000000], 0)], .sl [.sc (.int .i64), .sc (.bool)], .l []⟩), (5, .one ⟨.sc, .sc (.int .i64), .l []⟩)], [([4000000], .gone)]⟩
noncomputable def laws_eqChoiceS_e0_0 : Pack := ⟨[(4, .one ⟨.sc, .sc (.bool), .l []⟩)], []⟩
noncomputable def laws_eqChoiceS_e0_1 : Pack := ⟨[], []⟩
noncomputable def laws_eqChoiceS_L0_0w (m n : Nat) (vs : List T) (k : Ctl → Pack → An) : An := laws_eqChoiceS_L0_0 m n (vs.headD dflt) (vs.tail.headD dflt) (vs.tail.tail.headD dflt) (fun z0 => k .ret (fPack laws_eqChoiceS_e0_0 [z0])) (k (.exit 0) (fPack laws_eqChoiceS_e0_1 []))
noncomputable def laws_eqChoiceS : Nat → T → T → (T → An) → An
  | 0, _, _, _ => .bad
  | m + 1, x0, x1, k0 =>
    cond ((x0.rows.length : Int) != (x1.rows.length : Int))
    (k0 (T.b false))
    (laws_eqChoiceS_L0_0 m m (T.l x0.rows) (T.l x1.rows) (T.i 0)
    (fun y1 => k0 y1)
    (k0 (T.b true)))
noncomputable def laws_eqChoiceS_a : List Arg := [.one (.dz [.sc (.int .i64), .sc (.bool)] []), .one (.dz [.sc (.int .i64), .sc (.bool)] [])]
noncomputable def laws_eqChoiceS_w (m : Nat) (vs : List T) (k : Ret → An) : An := laws_eqChoiceS m (vs.headD dflt) (vs.tail.headD dflt) (fun z0 => k ⟨[.one (.sc (.bool) z0)], [[none], [none]], [none, none]⟩)
theorem laws_eqChoiceS_cf (m : Nat) : callK CX prims m = (patC 74 laws_eqChoice_a (laws_eqChoice_w m) (callK CX prims m)) := by
  rw [← patC_eq (fun vs k => laws_eqChoice_eq m vs k)]
noncomputable def laws_eqChoiceS_c : Code := (Try.f54.body).getD .skip
noncomputable def laws_eqChoiceS_fi : Fi := ⟨54, 2, 27, 16⟩
theorem laws_eqChoiceS_lf (m : Nat) : ∀ n, (∀ vs k, loopK CX (callK CX prims m) laws_eqChoiceS_fi laws_eqChoiceS_c n [0, 1, 0, 1, 1] (fPack laws_eqChoiceS_s0_0 vs) k = laws_eqChoiceS_L0_0w m n vs k) ∧ ((loopK CX (callK CX prims m) laws_eqChoiceS_fi laws_eqChoiceS_c n) = (patL [0, 1, 0, 1, 1] laws_eqChoiceS_s0_0 (laws_eqChoiceS_L0_0w m n) (loopK CX (callK CX prims m) laws_eqChoiceS_fi laws_eqChoiceS_c n))) := by
  intro n
  have hl : ∀ n, (∀ vs k, loopK CX (callK CX prims m) laws_eqChoiceS_fi laws_eqChoiceS_c n [0, 1, 0, 1, 1] (fPack laws_eqChoiceS_s0_0 vs) k = laws_eqChoiceS_L0_0w m n vs k) → ((loopK CX (callK CX prims m) laws_eqChoiceS_fi laws_eqChoiceS_c n) = (patL [0, 1, 0, 1, 1] laws_eqChoiceS_s0_0 (laws_eqChoiceS_L0_0w m n) (loopK CX (callK CX prims m) laws_eqChoiceS_fi laws_eqChoiceS_c n))) := by
    intro n h0
    rw [← patL_eq h0]
  induction n with
  | zero => exact ⟨fun vs k => rfl, hl 0 (fun vs k => rfl)⟩
  | succ n ihn =>
    have hn := ihn.2
    have h0 : ∀ vs k, loopK CX (callK CX prims m) laws_eqChoiceS_fi laws_eqChoiceS_c (n + 1) [0, 1, 0, 1, 1] (fPack laws_eqChoiceS_s0_0 vs) k = laws_eqChoiceS_L0_0w m (n + 1) vs k := fun vs k =>
      (stepL_congr (laws_eqChoiceS_cf m) hn [0, 1, 0, 1, 1] _ _).trans (by kernel_rfl)
    exact ⟨h0, hl (n + 1) h0⟩
theorem laws_eqChoiceS_eq (m : Nat) : ∀ vs k, callK CX prims m 54 (fArgs laws_eqChoiceS_a vs) k = laws_eqChoiceS_w m vs k := by
  cases m with
  | zero => exact fun vs k => rfl
  | succ m => exact fun vs k => Eq.trans (b := bodyK CX (callK CX prims m) (loopK CX (callK CX prims m) laws_eqChoiceS_fi laws_eqChoiceS_c m) 54 Try.f54 laws_eqChoiceS_c (fArgs laws_eqChoiceS_a vs) k) (by kernel_rfl) ((bodyK_congr (laws_eqChoiceS_cf m) ((laws_eqChoiceS_lf m m).2) 54 Try.f54 laws_eqChoiceS_c (fArgs laws_eqChoiceS_a vs) k).trans (by kernel_rfl))

/-! loop.example/g00244/laws.eqCoord -/
noncomputable def laws_eqCoord : Nat → T → T → T → T → T → T → T → T → T → T → T → T → (T → An) → An
  | 0, _, _, _, _, _, _, _, _, _, _, _, _, _ => .bad
  | m + 1, x0, x1, x2, x3, x4, x5, x6, x7, x8, x9, x10, x11, k0 =>
    cond (x0.int != x6.int)
    (k0 (T.b false))
    (cond (x1.int != x7.int)
    (k0 (T.b false))
    (cond (x2.int != x8.int)
    (k0 (T.b false))
    (laws_eqJobS m (T.l x3.rows) (T.l x9.rows)
    (fun y0 => cond (!y0.bool)
    (k0 (T.b false))
    (laws_eqChoiceS m (T.l x4.rows) (T.l x10.rows)
    (fun y1 => cond (!y1.bool)
    (k0 (T.b false))
    (cond (x5.int != x11.int)
    (k0 (T.b false))
    (k0 (T.b true)))))))))
noncomputable def laws_eqCoord_a : List Arg := [.agg [.sc (.int .i64) (.l []), .sc (.int .i64) (.l []), .sc (.int .i64) (.l []), .dz [.sc (.int .i64), .sl [.sc (.int .i64), .sc (.str), .sc (.str)], .sc (.int .i64), .sl [.sc (.int .i64)]] [], .dz [.sc (.int .i64), .sc (.bool)] [], .sc (.int .i64) (.l [])], .agg [.sc (.int .i64) (.l []), .sc (.int .i64) (.l []), .sc (.int .i64) (.l []), .dz [.sc (.int .i64), .sl [.sc (.int .i64), .sc (.str), .sc (.str)], .sc (.int .i64), .sl [.sc (.int .i64)]] [], .dz [.sc (.int .i64), .sc (.bool)] [], .sc (.int .i64) (.l [])]]
noncomputable def laws_eqCoord_w (m : Nat) (vs : List T) (k : Ret → An) : An := laws_eqCoord m (vs.headD dflt) (vs.tail.headD dflt) (vs.tail.tail.headD dflt) (vs.tail.tail.tail.headD dflt) (vs.tail.tail.tail.tail.headD dflt) (vs.tail.tail.tail.tail.tail.headD dflt) (vs.tail.tail.tail.tail.tail.tail.headD dflt) (vs.tail.tail.tail.tail.tail.tail.tail.headD dflt) (vs.tail.tail.tail.tail.tail.tail.tail.tail.headD dflt) (vs.tail.tail.tail.tail.tail.tail.tail.tail.tail.headD dflt) (vs.tail.tail.tail.tail.tail.tail.tail.tail.tail.tail.headD dflt) (vs.tail.tail.tail.tail.tail.tail.tail.tail.tail.tail.tail.headD dflt) (fun z0 => k ⟨[.one (.sc (.bool) z0)], [[none, none, none, none, none, none], [none, none, none, none, none, none]], [none, none]⟩)
theorem laws_eqCoord_cf (m : Nat) : callK CX prims m = (patC 53 laws_eqJobS_a (laws_eqJobS_w m) (patC 54 laws_eqChoiceS_a (laws_eqChoiceS_w m) (callK CX prims m))) := by
  rw [← patC_eq (fun vs k => laws_eqChoiceS_eq m vs k), ← patC_eq (fun vs k => laws_eqJobS_eq m vs k)]
noncomputable def laws_eqCoord_c : Code := (Try.f30.body).getD .skip
noncomputable def laws_eqCoord_fi : Fi := ⟨30, 2, 37, 16⟩
theorem laws_eqCoord_eq (m : Nat) : ∀ vs k, callK CX prims m 30 (fArgs laws_eqCoord_a vs) k = laws_eqCoord_w m vs k := by
  cases m with
  | zero => exact fun vs k => rfl
  | succ m => exact fun vs k => Eq.trans (b := bodyK CX (callK CX prims m) (loopK CX (callK CX prims m) laws_eqCoord_fi laws_eqCoord_c m) 30 Try.f30 laws_eqCoord_c (fArgs laws_eqCoord_a vs) k) (by kernel_rfl) ((bodyK_congr (laws_eqCoord_cf m) rfl 30 Try.f30 laws_eqCoord_c (fArgs laws_eqCoord_a vs) k).trans (by kernel_rfl))

/-! loop.example/g00244/laws.eqRec -/
noncomputable def laws_eqRec : Nat → T → T → T → T → T → T → (T → An) → An
  | 0, _, _, _, _, _, _, _ => .bad
  | m + 1, x0, x1, x2, x3, x4, x5, k0 =>
    cond (x0.int != x3.int)
    (k0 (T.b false))
    (cond (x1.int != x4.int)
    (k0 (T.b false))
    (laws_eqOpS m (T.l x2.rows) (T.l x5.rows)
    (fun y0 => cond (!y0.bool)
    (k0 (T.b false))
    (k0 (T.b true)))))
noncomputable def laws_eqRec_a : List Arg := [.agg [.sc (.int .i64) (.l []), .sc (.int .i64) (.l []), .dz [.sc (.int .i64), .sc (.str), .sc (.str)] []], .agg [.sc (.int .i64) (.l []), .sc (.int .i64) (.l []), .dz [.sc (.int .i64), .sc (.str), .sc (.str)] []]]
noncomputable def laws_eqRec_w (m : Nat) (vs : List T) (k : Ret → An) : An := laws_eqRec m (vs.headD dflt) (vs.tail.headD dflt) (vs.tail.tail.headD dflt) (vs.tail.tail.tail.headD dflt) (vs.tail.tail.tail.tail.headD dflt) (vs.tail.tail.tail.tail.tail.headD dflt) (fun z0 => k ⟨[.one (.sc (.bool) z0)], [[none, none, none], [none, none, none]], [none, none]⟩)
theorem laws_eqRec_cf (m : Nat) : callK CX prims m = (patC 76 laws_eqOpS_a (laws_eqOpS_w m) (callK CX prims m)) := by
  rw [← patC_eq (fun vs k => laws_eqOpS_eq m vs k)]
noncomputable def laws_eqRec_c : Code := (Try.f91.body).getD .skip
noncomputable def laws_eqRec_fi : Fi := ⟨91, 2, 21, 16⟩
theorem laws_eqRec_eq (m : Nat) : ∀ vs k, callK CX prims m 91 (fArgs laws_eqRec_a vs) k = laws_eqRec_w m vs k := by
  cases m with
  | zero => exact fun vs k => rfl
  | succ m => exact fun vs k => Eq.trans (b := bodyK CX (callK CX prims m) (loopK CX (callK CX prims m) laws_eqRec_fi laws_eqRec_c m) 91 Try.f91 laws_eqRec_c (fArgs laws_eqRec_a vs) k) (by kernel_rfl) ((bodyK_congr (laws_eqRec_cf m) rfl 91 Try.f91 laws_eqRec_c (fArgs laws_eqRec_a vs) k).trans (by kernel_rfl))

/-! loop.example/g00244/laws.eqRecS -/
noncomputable def laws_eqRecS_L0_0 (m : Nat) : Nat → T → T → T → (T → An) → An → An
  | 0, _, _, _, _, _ => .bad
  | n + 1, x0, x1, x2, k0, k1 =>
    cond (decide (x2.int < (x0.rows.length : Int)))
    (cond (decide ((0 : Int) ≤ x2.int ∧ x2.int < (x0.rows.length : Int)))
    (cond (decide ((0 : Int) ≤ x2.int ∧ x2.int < (x1.rows.length : Int)))
    (laws_eqRec m ((x0.rows.getD (Int.toNat x2.int) []).getD 0 dflt) ((x0.rows.getD (Int.toNat x2.int) []).getD 1 dflt) (T.l ((x0.rows.getD (Int.toNat x2.int) []).getD 2 dflt).rows) ((x1.rows.getD (Int.toNat x2.int) []).getD 0 dflt) ((x1.rows.getD (Int.toNat x2.int) []).getD 1 dflt) (T.l ((x1.rows.getD (Int.toNat x2.int) []).getD 2 dflt).rows)
    (fun y0 => cond (!y0.bool)
    (k0 (T.b false))
    (laws_eqRecS_L0_0 m n x0 x1 (T.i (IntKind.i64.wrap (x2.int + 1))) k0 k1)))
    (.bad))
    (.bad))
    (k1 )
noncomputable def laws_eqRecS_s0_0 : Pack := ⟨[(0, .one ⟨.sn [([4000000], 0)], .sl [.sc (.int .i64), .sc (.int .i64), .sl [.sc (.int .i64), .sc (.str), .sc (.str)]], .l []⟩), (1, .one ⟨.sn [([4000000], 0)], .sl [.sc (.int .i64), .sc (.int .i64), .sl [.sc (.int .i64), .sc (.str), .sc (.str)]], .l []⟩), (5, .one ⟨.sc, .sc (.int .i64), .l []⟩)], [([4000000], .gone)]⟩
noncomputable def laws_eqRecS_e0_0 : Pack := ⟨[(4, .one ⟨.sc, .sc (.bool), .l []⟩)], []⟩
noncomputable def laws_eqRecS_e0_1 : Pack := ⟨[], []⟩
noncomputable def laws_eqRecS_L0_0w (m n : Nat) (vs : List T) (k : Ctl → Pack → An) : An := laws_eqRecS_L0_0 m n (vs.headD dflt) (vs.tail.headD dflt) (vs.tail.tail.headD dflt) (fun z0 => k .ret (fPack laws_eqRecS_e0_0 [z0])) (k (.exit 0) (fPack laws_eqRecS_e0_1 []))
noncomputable def laws_eqRecS : Nat → T → T → (T → An) → An
  | 0, _, _, _ => .bad
  | m + 1, x0, x1, k0 =>
    cond ((x0.rows.length : Int) != (x1.rows.length : Int))
    (k0 (T.b false))
    (laws_eqRecS_L0_0 m m (T.l x0.rows) (T.l x1.rows) (T.i 0)
    (fun y1 => k0 y1)
    (k0 (T.b true)))
noncomputable def laws_eqRecS_a : List Arg := [.one (.dz [.sc (.int .i64), .sc (.int .i64), .sl [.sc (.int .i64), .sc (.str), .sc (.str)]] []), .one (.dz [.sc (.int .i64), .sc (.int .i64), .sl [.sc (.int .i64), .sc (.str), .sc (.str)]] [])]
noncomputable def laws_eqRecS_w (m : Nat) (vs : List T) (k : Ret → An) : An := laws_eqRecS m (vs.headD dflt) (vs.tail.headD dflt) (fun z0 => k ⟨[.one (.sc (.bool) z0)], [[none], [none]], [none, none]⟩)
theorem laws_eqRecS_cf (m : Nat) : callK CX prims m = (patC 91 laws_eqRec_a (laws_eqRec_w m) (callK CX prims m)) := by
  rw [← patC_eq (fun vs k => laws_eqRec_eq m vs k)]
noncomputable def laws_eqRecS_c : Code := (Try.f75.body).getD .skip
noncomputable def laws_eqRecS_fi : Fi := ⟨75, 2, 27, 16⟩
theorem laws_eqRecS_lf (m : Nat) : ∀ n, (∀ vs k, loopK CX (callK CX prims m) laws_eqRecS_fi laws_eqRecS_c n [0, 1, 0, 1, 1] (fPack laws_eqRecS_s0_0 vs) k = laws_eqRecS_L0_0w m n vs k) ∧ ((loopK CX (callK CX prims m) laws_eqRecS_fi laws_eqRecS_c n) = (patL [0, 1, 0, 1, 1] laws_eqRecS_s0_0 (laws_eqRecS_L0_0w m n) (loopK CX (callK CX prims m) laws_eqRecS_fi laws_eqRecS_c n))) := by
  intro n
  have hl : ∀ n, (∀ vs k, loopK CX (callK CX prims m) laws_eqRecS_fi laws_eqRecS_c n [0, 1, 0, 1, 1] (fPack laws_eqRecS_s0_0 vs) k = laws_eqRecS_L0_0w m n vs k) → ((loopK CX (callK CX prims m) laws_eqRecS_fi laws_eqRecS_c n) = (patL [0, 1, 0, 1, 1] laws_eqRecS_s0_0 (laws_eqRecS_L0_0w m n) (loopK CX (callK CX prims m) laws_eqRecS_fi laws_eqRecS_c n))) := by
    intro n h0
    rw [← patL_eq h0]
  induction n with
  | zero => exact ⟨fun vs k => rfl, hl 0 (fun vs k => rfl)⟩
  | succ n ihn =>
    have hn := ihn.2
    have h0 : ∀ vs k, loopK CX (callK CX prims m) laws_eqRecS_fi laws_eqRecS_c (n + 1) [0, 1, 0, 1, 1] (fPack laws_eqRecS_s0_0 vs) k = laws_eqRecS_L0_0w m (n + 1) vs k := fun vs k =>
      (stepL_congr (laws_eqRecS_cf m) hn [0, 1, 0, 1, 1] _ _).trans (by kernel_rfl)
    exact ⟨h0, hl (n + 1) h0⟩
theorem laws_eqRecS_eq (m : Nat) : ∀ vs k, callK CX prims m 75 (fArgs laws_eqRecS_a vs) k = laws_eqRecS_w m vs k := by
  cases m with
  | zero => exact fun vs k => rfl
  | succ m => exact fun vs k => Eq.trans (b := bodyK CX (callK CX prims m) (loopK CX (callK CX prims m) laws_eqRecS_fi laws_eqRecS_c m) 75 Try.f75 laws_eqRecS_c (fArgs laws_eqRecS_a vs) k) (by kernel_rfl) ((bodyK_congr (laws_eqRecS_cf m) ((laws_eqRecS_lf m m).2) 75 Try.f75 laws_eqRecS_c (fArgs laws_eqRecS_a vs) k).trans (by kernel_rfl))

/-! loop.example/g00244/laws.eqShard -/
noncomputable def laws_eqShard : Nat → T → T → T → T → T → T → T → T → T → T → (T → An) → An
  | 0, _, _, _, _, _, _, _, _, _, _, _ => .bad
  | m + 1, x0, x1, x2, x3, x4, x5, x6, x7, x8, x9, k0 =>
    cond (x0.int != x5.int)
    (k0 (T.b false))
    (laws_eqRecS m (T.l x1.rows) (T.l x6.rows)
    (fun y0 => cond (!y0.bool)
    (k0 (T.b false))
    (cond (x2.int != x7.int)
    (k0 (T.b false))
    (laws_eqPairS m (T.l x3.rows) (T.l x8.rows)
    (fun y1 => cond (!y1.bool)
    (k0 (T.b false))
    (laws_eqRecS m (T.l x4.rows) (T.l x9.rows)
    (fun y2 => cond (!y2.bool)
    (k0 (T.b false))
    (k0 (T.b true)))))))))
noncomputable def laws_eqShard_a : List Arg := [.agg [.sc (.int .i64) (.l []), .dz [.sc (.int .i64), .sc (.int .i64), .sl [.sc (.int .i64), .sc (.str), .sc (.str)]] [], .sc (.int .i64) (.l []), .dz [.sc (.str), .sc (.str)] [], .dz [.sc (.int .i64), .sc (.int .i64), .sl [.sc (.int .i64), .sc (.str), .sc (.str)]] []], .agg [.sc (.int .i64) (.l []), .dz [.sc (.int .i64), .sc (.int .i64), .sl [.sc (.int .i64), .sc (.str), .sc (.str)]] [], .sc (.int .i64) (.l []), .dz [.sc (.str), .sc (.str)] [], .dz [.sc (.int .i64), .sc (.int .i64), .sl [.sc (.int .i64), .sc (.str), .sc (.str)]] []]]
noncomputable def laws_eqShard_w (m : Nat) (vs : List T) (k : Ret → An) : An := laws_eqShard m (vs.headD dflt) (vs.tail.headD dflt) (vs.tail.tail.headD dflt) (vs.tail.tail.tail.headD dflt) (vs.tail.tail.tail.tail.headD dflt) (vs.tail.tail.tail.tail.tail.headD dflt) (vs.tail.tail.tail.tail.tail.tail.headD dflt) (vs.tail.tail.tail.tail.tail.tail.tail.headD dflt) (vs.tail.tail.tail.tail.tail.tail.tail.tail.headD dflt) (vs.tail.tail.tail.tail.tail.tail.tail.tail.tail.headD dflt) (fun z0 => k ⟨[.one (.sc (.bool) z0)], [[none, none, none, none, none], [none, none, none, none, none]], [none, none]⟩)
theorem laws_eqShard_cf (m : Nat) : callK CX prims m = (patC 75 laws_eqRecS_a (laws_eqRecS_w m) (patC 9 laws_eqPairS_a (laws_eqPairS_w m) (callK CX prims m))) := by
  rw [← patC_eq (fun vs k => laws_eqPairS_eq m vs k), ← patC_eq (fun vs k => laws_eqRecS_eq m vs k)]
noncomputable def laws_eqShard_c : Code := (Try.f55.body).getD .skip
noncomputable def laws_eqShard_fi : Fi := ⟨55, 2, 33, 16⟩
theorem laws_eqShard_eq (m : Nat) : ∀ vs k, callK CX prims m 55 (fArgs laws_eqShard_a vs) k = laws_eqShard_w m vs k := by
  cases m with
  | zero => exact fun vs k => rfl
  | succ m => exact fun vs k => Eq.trans (b := bodyK CX (callK CX prims m) (loopK CX (callK CX prims m) laws_eqShard_fi laws_eqShard_c m) 55 Try.f55 laws_eqShard_c (fArgs laws_eqShard_a vs) k) (by kernel_rfl) ((bodyK_congr (laws_eqShard_cf m) rfl 55 Try.f55 laws_eqShard_c (fArgs laws_eqShard_a vs) k).trans (by kernel_rfl))

/-! loop.example/g00244/laws.eqShardS -/
noncomputable def laws_eqShardS_L0_0 (m : Nat) : Nat → T → T → T → (T → An) → An → An
  | 0, _, _, _, _, _ => .bad
  | n + 1, x0, x1, x2, k0, k1 =>
    cond (decide (x2.int < (x0.rows.length : Int)))
    (cond (decide ((0 : Int) ≤ x2.int ∧ x2.int < (x0.rows.length : Int)))
    (cond (decide ((0 : Int) ≤ x2.int ∧ x2.int < (x1.rows.length : Int)))
    (laws_eqShard m ((x0.rows.getD (Int.toNat x2.int) []).getD 0 dflt) (T.l ((x0.rows.getD (Int.toNat x2.int) []).getD 1 dflt).rows) ((x0.rows.getD (Int.toNat x2.int) []).getD 2 dflt) (T.l ((x0.rows.getD (Int.toNat x2.int) []).getD 3 dflt).rows) (T.l ((x0.rows.getD (Int.toNat x2.int) []).getD 4 dflt).rows) ((x1.rows.getD (Int.toNat x2.int) []).getD 0 dflt) (T.l ((x1.rows.getD (Int.toNat x2.int) []).getD 1 dflt).rows) ((x1.rows.getD (Int.toNat x2.int) []).getD 2 dflt) (T.l ((x1.rows.getD (Int.toNat x2.int) []).getD 3 dflt).rows) (T.l ((x1.rows.getD (Int.toNat x2.int) []).getD 4 dflt).rows)
    (fun y0 => cond (!y0.bool)
    (k0 (T.b false))
    (laws_eqShardS_L0_0 m n x0 x1 (T.i (IntKind.i64.wrap (x2.int + 1))) k0 k1)))
    (.bad))
    (.bad))
    (k1 )
noncomputable def laws_eqShardS_s0_0 : Pack := ⟨[(0, .one ⟨.sn [([4000000], 0)], .sl [.sc (.int .i64), .sl [.sc (.int .i64), .sc (.int .i64), .sl [.sc (.int .i64), .sc (.str), .sc (.str)]], .sc (.int .i64), .sl [.sc (.str), .sc (.str)], .sl [.sc (.int .i64), .sc (.int .i64), .sl [.sc (.int .i64), .sc (.str), .sc (.str)]]], .l []⟩), (1, .one ⟨.sn [([4000000], 0)], .sl [.sc (.int .i64), .sl [.sc (.int .i64), .sc (.int .i64), .sl [.sc (.int .i64), .sc (.str), .sc (.str)]], .sc (.int .i64), .sl [.sc (.str), .sc (.str)], .sl [.sc (.int .i64), .sc (.int .i64), .sl [.sc (.int .i64), .sc (.str), .sc (.str)]]], .l []⟩), (5, .one ⟨.sc, .sc (.int .i64), .l []⟩)], [([4000000], .gone)]⟩
noncomputable def laws_eqShardS_e0_0 : Pack := ⟨[(4, .one ⟨.sc, .sc (.bool), .l []⟩)], []⟩
noncomputable def laws_eqShardS_e0_1 : Pack := ⟨[], []⟩
noncomputable def laws_eqShardS_L0_0w (m n : Nat) (vs : List T) (k : Ctl → Pack → An) : An := laws_eqShardS_L0_0 m n (vs.headD dflt) (vs.tail.headD dflt) (vs.tail.tail.headD dflt) (fun z0 => k .ret (fPack laws_eqShardS_e0_0 [z0])) (k (.exit 0) (fPack laws_eqShardS_e0_1 []))
noncomputable def laws_eqShardS : Nat → T → T → (T → An) → An
  | 0, _, _, _ => .bad
  | m + 1, x0, x1, k0 =>
    cond ((x0.rows.length : Int) != (x1.rows.length : Int))
    (k0 (T.b false))
    (laws_eqShardS_L0_0 m m (T.l x0.rows) (T.l x1.rows) (T.i 0)
    (fun y1 => k0 y1)
    (k0 (T.b true)))
noncomputable def laws_eqShardS_a : List Arg := [.one (.dz [.sc (.int .i64), .sl [.sc (.int .i64), .sc (.int .i64), .sl [.sc (.int .i64), .sc (.str), .sc (.str)]], .sc (.int .i64), .sl [.sc (.str), .sc (.str)], .sl [.sc (.int .i64), .sc (.int .i64), .sl [.sc (.int .i64), .sc (.str), .sc (.str)]]] []), .one (.dz [.sc (.int .i64), .sl [.sc (.int .i64), .sc (.int .i64), .sl [.sc (.int .i64), .sc (.str), .sc (.str)]], .sc (.int .i64), .sl [.sc (.str), .sc (.str)], .sl [.sc (.int .i64), .sc (.int .i64), .sl [.sc (.int .i64), .sc (.str), .sc (.str)]]] [])]
noncomputable def laws_eqShardS_w (m : Nat) (vs : List T) (k : Ret → An) : An := laws_eqShardS m (vs.headD dflt) (vs.tail.headD dflt) (fun z0 => k ⟨[.one (.sc (.bool) z0)], [[none], [none]], [none, none]⟩)
theorem laws_eqShardS_cf (m : Nat) : callK CX prims m = (patC 55 laws_eqShard_a (laws_eqShard_w m) (callK CX prims m)) := by
  rw [← patC_eq (fun vs k => laws_eqShard_eq m vs k)]
noncomputable def laws_eqShardS_c : Code := (Try.f31.body).getD .skip
noncomputable def laws_eqShardS_fi : Fi := ⟨31, 2, 27, 16⟩
theorem laws_eqShardS_lf (m : Nat) : ∀ n, (∀ vs k, loopK CX (callK CX prims m) laws_eqShardS_fi laws_eqShardS_c n [0, 1, 0, 1, 1] (fPack laws_eqShardS_s0_0 vs) k = laws_eqShardS_L0_0w m n vs k) ∧ ((loopK CX (callK CX prims m) laws_eqShardS_fi laws_eqShardS_c n) = (patL [0, 1, 0, 1, 1] laws_eqShardS_s0_0 (laws_eqShardS_L0_0w m n) (loopK CX (callK CX prims m) laws_eqShardS_fi laws_eqShardS_c n))) := by
  intro n
  have hl : ∀ n, (∀ vs k, loopK CX (callK CX prims m) laws_eqShardS_fi laws_eqShardS_c n [0, 1, 0, 1, 1] (fPack laws_eqShardS_s0_0 vs) k = laws_eqShardS_L0_0w m n vs k) → ((loopK CX (callK CX prims m) laws_eqShardS_fi laws_eqShardS_c n) = (patL [0, 1, 0, 1, 1] laws_eqShardS_s0_0 (laws_eqShardS_L0_0w m n) (loopK CX (callK CX prims m) laws_eqShardS_fi laws_eqShardS_c n))) := by
    intro n h0
    rw [← patL_eq h0]
  induction n with
  | zero => exact ⟨fun vs k => rfl, hl 0 (fun vs k => rfl)⟩
  | succ n ihn =>
    have hn := ihn.2
    have h0 : ∀ vs k, loopK CX (callK CX prims m) laws_eqShardS_fi laws_eqShardS_c (n + 1) [0, 1, 0, 1, 1] (fPack laws_eqShardS_s0_0 vs) k = laws_eqShardS_L0_0w m (n + 1) vs k := fun vs k =>
      (stepL_congr (laws_eqShardS_cf m) hn [0, 1, 0, 1, 1] _ _).trans (by kernel_rfl)
    exact ⟨h0, hl (n + 1) h0⟩
theorem laws_eqShardS_eq (m : Nat) : ∀ vs k, callK CX prims m 31 (fArgs laws_eqShardS_a vs) k = laws_eqShardS_w m vs k := by
  cases m with
  | zero => exact fun vs k => rfl
  | succ m => exact fun vs k => Eq.trans (b := bodyK CX (callK CX prims m) (loopK CX (callK CX prims m) laws_eqShardS_fi laws_eqShardS_c m) 31 Try.f31 laws_eqShardS_c (fArgs laws_eqShardS_a vs) k) (by kernel_rfl) ((bodyK_congr (laws_eqShardS_cf m) ((laws_eqShardS_lf m m).2) 31 Try.f31 laws_eqShardS_c (fArgs laws_eqShardS_a vs) k).trans (by kernel_rfl))

/-! loop.example/g00244/laws.eqWord -/
noncomputable def laws_eqWord : Nat → T → T → T → T → T → T → T → T → T → T → (T → An) → An
  | 0, _, _, _, _, _, _, _, _, _, _, _ => .bad
  | m + 1, x0, x1, x2, x3, x4, x5, x6, x7, x8, x9, k0 =>
    cond (x0.int != x5.int)
    (k0 (T.b false))
    (cond (x1.int != x6.int)
    (k0 (T.b false))
    (cond (x2.int != x7.int)
    (k0 (T.b false))
    (laws_eqOpS m (T.l x3.rows) (T.l x8.rows)
    (fun y0 => cond (!y0.bool)
    (k0 (T.b false))
    (cond (!(x4.bool == x9.bool))
    (k0 (T.b false))
    (k0 (T.b true)))))))
noncomputable def laws_eqWord_a : List Arg := [.agg [.sc (.int .i64) (.l []), .sc (.int .i64) (.l []), .sc (.int .i64) (.l []), .dz [.sc (.int .i64), .sc (.str), .sc (.str)] [], .sc (.bool) (.l [])], .agg [.sc (.int .i64) (.l []), .sc (.int .i64) (.l []), .sc (.int .i64) (.l []), .dz [.sc (.int .i64), .sc (.str), .sc (.str)] [], .sc (.bool) (.l [])]]
noncomputable def laws_eqWord_w (m : Nat) (vs : List T) (k : Ret → An) : An := laws_eqWord m (vs.headD dflt) (vs.tail.headD dflt) (vs.tail.tail.headD dflt) (vs.tail.tail.tail.headD dflt) (vs.tail.tail.tail.tail.headD dflt) (vs.tail.tail.tail.tail.tail.headD dflt) (vs.tail.tail.tail.tail.tail.tail.headD dflt) (vs.tail.tail.tail.tail.tail.tail.tail.headD dflt) (vs.tail.tail.tail.tail.tail.tail.tail.tail.headD dflt) (vs.tail.tail.tail.tail.tail.tail.tail.tail.tail.headD dflt) (fun z0 => k ⟨[.one (.sc (.bool) z0)], [[none, none, none, none, none], [none, none, none, none, none]], [none, none]⟩)
theorem laws_eqWord_cf (m : Nat) : callK CX prims m = (patC 76 laws_eqOpS_a (laws_eqOpS_w m) (callK CX prims m)) := by
  rw [← patC_eq (fun vs k => laws_eqOpS_eq m vs k)]
noncomputable def laws_eqWord_c : Code := (Try.f56.body).getD .skip
noncomputable def laws_eqWord_fi : Fi := ⟨56, 2, 31, 16⟩
theorem laws_eqWord_eq (m : Nat) : ∀ vs k, callK CX prims m 56 (fArgs laws_eqWord_a vs) k = laws_eqWord_w m vs k := by
  cases m with
  | zero => exact fun vs k => rfl
  | succ m => exact fun vs k => Eq.trans (b := bodyK CX (callK CX prims m) (loopK CX (callK CX prims m) laws_eqWord_fi laws_eqWord_c m) 56 Try.f56 laws_eqWord_c (fArgs laws_eqWord_a vs) k) (by kernel_rfl) ((bodyK_congr (laws_eqWord_cf m) rfl 56 Try.f56 laws_eqWord_c (fArgs laws_eqWord_a vs) k).trans (by kernel_rfl))

/-! loop.example/g00244/laws.eqWordS -/
noncomputable def laws_eqWordS_L0_0 (m : Nat) : Nat → T → T → T → (T → An) → An → An
  | 0, _, _, _, _, _ => .bad
  | n + 1, x0, x1, x2, k0, k1 =>
    cond (decide (x2.int < (x0.rows.length : Int)))
    (cond (decide ((0 : Int) ≤ x2.int ∧ x2.int < (x0.rows.length : Int)))
    (cond (decide ((0 : Int) ≤ x2.int ∧ x2.int < (x1.rows.length : Int)))
    (laws_eqWord m ((x0.rows.getD (Int.toNat x2.int) []).getD 0 dflt) ((x0.rows.getD (Int.toNat x2.int) []).getD 1 dflt) ((x0.rows.getD (Int.toNat x2.int) []).getD 2 dflt) (T.l ((x0.rows.getD (Int.toNat x2.int) []).getD 3 dflt).rows) ((x0.rows.getD (Int.toNat x2.int) []).getD 4 dflt) ((x1.rows.getD (Int.toNat x2.int) []).getD 0 dflt) ((x1.rows.getD (Int.toNat x2.int) []).getD 1 dflt) ((x1.rows.getD (Int.toNat x2.int) []).getD 2 dflt) (T.l ((x1.rows.getD (Int.toNat x2.int) []).getD 3 dflt).rows) ((x1.rows.getD (Int.toNat x2.int) []).getD 4 dflt)
    (fun y0 => cond (!y0.bool)
    (k0 (T.b false))
    (laws_eqWordS_L0_0 m n x0 x1 (T.i (IntKind.i64.wrap (x2.int + 1))) k0 k1)))
    (.bad))
    (.bad))
    (k1 )
noncomputable def laws_eqWordS_s0_0 : Pack := ⟨[(0, .one ⟨.sn [([4000000], 0)], .sl [.sc (.int .i64), .sc (.int .i64), .sc (.int .i64), .sl [.sc (.int .i64), .sc (.str), .sc (.str)], .sc (.bool)], .l []⟩), (1, .one ⟨.sn [([4000000], 0)], .sl [.sc (.int .i64), .sc (.int .i64), .sc (.int .i64), .sl [.sc (.int .i64), .sc (.str), .sc (.str)], .sc (.bool)], .l []⟩), (5, .one ⟨.sc, .sc (.int .i64), .l []⟩)], [([4000000], .gone)]⟩
noncomputable def laws_eqWordS_e0_0 : Pack := ⟨[(4, .one ⟨.sc, .sc (.bool), .l []⟩)], []⟩
noncomputable def laws_eqWordS_e0_1 : Pack := ⟨[], []⟩
noncomputable def laws_eqWordS_L0_0w (m n : Nat) (vs : List T) (k : Ctl → Pack → An) : An := laws_eqWordS_L0_0 m n (vs.headD dflt) (vs.tail.headD dflt) (vs.tail.tail.headD dflt) (fun z0 => k .ret (fPack laws_eqWordS_e0_0 [z0])) (k (.exit 0) (fPack laws_eqWordS_e0_1 []))
noncomputable def laws_eqWordS : Nat → T → T → (T → An) → An
  | 0, _, _, _ => .bad
  | m + 1, x0, x1, k0 =>
    cond ((x0.rows.length : Int) != (x1.rows.length : Int))
    (k0 (T.b false))
    (laws_eqWordS_L0_0 m m (T.l x0.rows) (T.l x1.rows) (T.i 0)
    (fun y1 => k0 y1)
    (k0 (T.b true)))
noncomputable def laws_eqWordS_a : List Arg := [.one (.dz [.sc (.int .i64), .sc (.int .i64), .sc (.int .i64), .sl [.sc (.int .i64), .sc (.str), .sc (.str)], .sc (.bool)] []), .one (.dz [.sc (.int .i64), .sc (.int .i64), .sc (.int .i64), .sl [.sc (.int .i64), .sc (.str), .sc (.str)], .sc (.bool)] [])]
noncomputable def laws_eqWordS_w (m : Nat) (vs : List T) (k : Ret → An) : An := laws_eqWordS m (vs.headD dflt) (vs.tail.headD dflt) (fun z0 => k ⟨[.one (.sc (.bool) z0)], [[none], [none]], [none, none]⟩)
theorem laws_eqWordS_cf (m : Nat) : callK CX prims m = (patC 56 laws_eqWord_a (laws_eqWord_w m) (callK CX prims m)) := by
  rw [← patC_eq (fun vs k => laws_eqWord_eq m vs k)]
noncomputable def laws_eqWordS_c : Code := (Try.f32.body).getD .skip
noncomputable def laws_eqWordS_fi : Fi := ⟨32, 2, 27, 16⟩
theorem laws_eqWordS_lf (m : Nat) : ∀ n, (∀ vs k, loopK CX (callK CX prims m) laws_eqWordS_fi laws_eqWordS_c n [0, 1, 0, 1, 1] (fPack laws_eqWordS_s0_0 vs) k = laws_eqWordS_L0_0w m n vs k) ∧ ((loopK CX (callK CX prims m) laws_eqWordS_fi laws_eqWordS_c n) = (patL [0, 1, 0, 1, 1] laws_eqWordS_s0_0 (laws_eqWordS_L0_0w m n) (loopK CX (callK CX prims m) laws_eqWordS_fi laws_eqWordS_c n))) := by
  intro n
  have hl : ∀ n, (∀ vs k, loopK CX (callK CX prims m) laws_eqWordS_fi laws_eqWordS_c n [0, 1, 0, 1, 1] (fPack laws_eqWordS_s0_0 vs) k = laws_eqWordS_L0_0w m n vs k) → ((loopK CX (callK CX prims m) laws_eqWordS_fi laws_eqWordS_c n) = (patL [0, 1, 0, 1, 1] laws_eqWordS_s0_0 (laws_eqWordS_L0_0w m n) (loopK CX (callK CX prims m) laws_eqWordS_fi laws_eqWordS_c n))) := by
    intro n h0
    rw [← patL_eq h0]
  induction n with
  | zero => exact ⟨fun vs k => rfl, hl 0 (fun vs k => rfl)⟩
  | succ n ihn =>
    have hn := ihn.2
    have h0 : ∀ vs k, loopK CX (callK CX prims m) laws_eqWordS_fi laws_eqWordS_c (n + 1) [0, 1, 0, 1, 1] (fPack laws_eqWordS_s0_0 vs) k = laws_eqWordS_L0_0w m (n + 1) vs k := fun vs k =>
      (stepL_congr (laws_eqWordS_cf m) hn [0, 1, 0, 1, 1] _ _).trans (by kernel_rfl)
    exact ⟨h0, hl (n + 1) h0⟩
theorem laws_eqWordS_eq (m : Nat) : ∀ vs k, callK CX prims m 32 (fArgs laws_eqWordS_a vs) k = laws_eqWordS_w m vs k := by
  cases m with
  | zero => exact fun vs k => rfl
  | succ m => exact fun vs k => Eq.trans (b := bodyK CX (callK CX prims m) (loopK CX (callK CX prims m) laws_eqWordS_fi laws_eqWordS_c m) 32 Try.f32 laws_eqWordS_c (fArgs laws_eqWordS_a vs) k) (by kernel_rfl) ((bodyK_congr (laws_eqWordS_cf m) ((laws_eqWordS_lf m m).2) 32 Try.f32 laws_eqWordS_c (fArgs laws_eqWordS_a vs) k).trans (by kernel_rfl))

/-! loop.example/g00244/laws.eqOrder -/
noncomputable def laws_eqOrder : Nat → T → T → T → T → (T → An) → An
  | 0, _, _, _, _, _ => .bad
  | m + 1, x0, x1, x2, x3, k0 =>
    cond (x0.int != x2.int)
    (k0 (T.b false))
    (laws_eqOpS m (T.l x1.rows) (T.l x3.rows)
    (fun y0 => cond (!y0.bool)
    (k0 (T.b false))
    (k0 (T.b true))))
noncomputable def laws_eqOrder_a : List Arg := [.agg [.sc (.int .i64) (.l []), .dz [.sc (.int .i64), .sc (.str), .sc (.str)] []], .agg [.sc (.int .i64) (.l []), .dz [.sc (.int .i64), .sc (.str), .sc (.str)] []]]
noncomputable def laws_eqOrder_w (m : Nat) (vs : List T) (k : Ret → An) : An := laws_eqOrder m (vs.headD dflt) (vs.tail.headD dflt) (vs.tail.tail.headD dflt) (vs.tail.tail.tail.headD dflt) (fun z0 => k ⟨[.one (.sc (.bool) z0)], [[none, none], [none, none]], [none, none]⟩)
theorem laws_eqOrder_cf (m : Nat) : callK CX prims m = (patC 76 laws_eqOpS_a (laws_eqOpS_w m) (callK CX prims m)) := by
  rw [← patC_eq (fun vs k => laws_eqOpS_eq m vs k)]
noncomputable def laws_eqOrder_c : Code := (Try.f57.body).getD .skip
noncomputable def laws_eqOrder_fi : Fi := ⟨57, 2, 16, 16⟩
theorem laws_eqOrder_eq (m : Nat) : ∀ vs k, callK CX prims m 57 (fArgs laws_eqOrder_a vs) k = laws_eqOrder_w m vs k := by
  cases m with
  | zero => exact fun vs k => rfl
  | succ m => exact fun vs k => Eq.trans (b := bodyK CX (callK CX prims m) (loopK CX (callK CX prims m) laws_eqOrder_fi laws_eqOrder_c m) 57 Try.f57 laws_eqOrder_c (fArgs laws_eqOrder_a vs) k) (by kernel_rfl) ((bodyK_congr (laws_eqOrder_cf m) rfl 57 Try.f57 laws_eqOrder_c (fArgs laws_eqOrder_a vs) k).trans (by kernel_rfl))

/-! loop.example/g00244/laws.eqOrderS -/
noncomputable def laws_eqOrderS_L0_0 (m : Nat) : Nat → T → T → T → (T → An) → An → An
  | 0, _, _, _, _, _ => .bad
  | n + 1, x0, x1, x2, k0, k1 =>
    cond (decide (x2.int < (x0.rows.length : Int)))
    (cond (decide ((0 : Int) ≤ x2.int ∧ x2.int < (x0.rows.length : Int)))
    (cond (decide ((0 : Int) ≤ x2.int ∧ x2.int < (x1.rows.length : Int)))
    (laws_eqOrder m ((x0.rows.getD (Int.toNat x2.int) []).getD 0 dflt) (T.l ((x0.rows.getD (Int.toNat x2.int) []).getD 1 dflt).rows) ((x1.rows.getD (Int.toNat x2.int) []).getD 0 dflt) (T.l ((x1.rows.getD (Int.toNat x2.int) []).getD 1 dflt).rows)
    (fun y0 => cond (!y0.bool)
    (k0 (T.b false))
    (laws_eqOrderS_L0_0 m n x0 x1 (T.i (IntKind.i64.wrap (x2.int + 1))) k0 k1)))
    (.bad))
    (.bad))
    (k1 )
noncomputable def laws_eqOrderS_s0_0 : Pack := ⟨[(0, .one ⟨.sn [([4000000], 0)], .sl [.sc (.int .i64), .sl [.sc (.int .i64), .sc (.str), .sc (.str)]], .l []⟩), (1, .one ⟨.sn [([4000000], 0)], .sl [.sc (.int .i64), .sl [.sc (.int .i64), .sc (.str), .sc (.str)]], .l []⟩), (5, .one ⟨.sc, .sc (.int .i64), .l []⟩)], [([4000000], .gone)]⟩
noncomputable def laws_eqOrderS_e0_0 : Pack := ⟨[(4, .one ⟨.sc, .sc (.bool), .l []⟩)], []⟩
noncomputable def laws_eqOrderS_e0_1 : Pack := ⟨[], []⟩
noncomputable def laws_eqOrderS_L0_0w (m n : Nat) (vs : List T) (k : Ctl → Pack → An) : An := laws_eqOrderS_L0_0 m n (vs.headD dflt) (vs.tail.headD dflt) (vs.tail.tail.headD dflt) (fun z0 => k .ret (fPack laws_eqOrderS_e0_0 [z0])) (k (.exit 0) (fPack laws_eqOrderS_e0_1 []))
noncomputable def laws_eqOrderS : Nat → T → T → (T → An) → An
  | 0, _, _, _ => .bad
  | m + 1, x0, x1, k0 =>
    cond ((x0.rows.length : Int) != (x1.rows.length : Int))
    (k0 (T.b false))
    (laws_eqOrderS_L0_0 m m (T.l x0.rows) (T.l x1.rows) (T.i 0)
    (fun y1 => k0 y1)
    (k0 (T.b true)))
noncomputable def laws_eqOrderS_a : List Arg := [.one (.dz [.sc (.int .i64), .sl [.sc (.int .i64), .sc (.str), .sc (.str)]] []), .one (.dz [.sc (.int .i64), .sl [.sc (.int .i64), .sc (.str), .sc (.str)]] [])]
noncomputable def laws_eqOrderS_w (m : Nat) (vs : List T) (k : Ret → An) : An := laws_eqOrderS m (vs.headD dflt) (vs.tail.headD dflt) (fun z0 => k ⟨[.one (.sc (.bool) z0)], [[none], [none]], [none, none]⟩)
theorem laws_eqOrderS_cf (m : Nat) : callK CX prims m = (patC 57 laws_eqOrder_a (laws_eqOrder_w m) (callK CX prims m)) := by
  rw [← patC_eq (fun vs k => laws_eqOrder_eq m vs k)]
noncomputable def laws_eqOrderS_c : Code := (Try.f33.body).getD .skip
noncomputable def laws_eqOrderS_fi : Fi := ⟨33, 2, 27, 16⟩
theorem laws_eqOrderS_lf (m : Nat) : ∀ n, (∀ vs k, loopK CX (callK CX prims m) laws_eqOrderS_fi laws_eqOrderS_c n [0, 1, 0, 1, 1] (fPack laws_eqOrderS_s0_0 vs) k = laws_eqOrderS_L0_0w m n vs k) ∧ ((loopK CX (callK CX prims m) laws_eqOrderS_fi laws_eqOrderS_c n) = (patL [0, 1, 0, 1, 1] laws_eqOrderS_s0_0 (laws_eqOrderS_L0_0w m n) (loopK CX (callK CX prims m) laws_eqOrderS_fi laws_eqOrderS_c n))) := by
  intro n
  have hl : ∀ n, (∀ vs k, loopK CX (callK CX prims m) laws_eqOrderS_fi laws_eqOrderS_c n [0, 1, 0, 1, 1] (fPack laws_eqOrderS_s0_0 vs) k = laws_eqOrderS_L0_0w m n vs k) → ((loopK CX (callK CX prims m) laws_eqOrderS_fi laws_eqOrderS_c n) = (patL [0, 1, 0, 1, 1] laws_eqOrderS_s0_0 (laws_eqOrderS_L0_0w m n) (loopK CX (callK CX prims m) laws_eqOrderS_fi laws_eqOrderS_c n))) := by
    intro n h0
    rw [← patL_eq h0]
  induction n with
  | zero => exact ⟨fun vs k => rfl, hl 0 (fun vs k => rfl)⟩
  | succ n ihn =>
    have hn := ihn.2
    have h0 : ∀ vs k, loopK CX (callK CX prims m) laws_eqOrderS_fi laws_eqOrderS_c (n + 1) [0, 1, 0, 1, 1] (fPack laws_eqOrderS_s0_0 vs) k = laws_eqOrderS_L0_0w m (n + 1) vs k := fun vs k =>
      (stepL_congr (laws_eqOrderS_cf m) hn [0, 1, 0, 1, 1] _ _).trans (by kernel_rfl)
    exact ⟨h0, hl (n + 1) h0⟩
theorem laws_eqOrderS_eq (m : Nat) : ∀ vs k, callK CX prims m 33 (fArgs laws_eqOrderS_a vs) k = laws_eqOrderS_w m vs k := by
  cases m with
  | zero => exact fun vs k => rfl
  | succ m => exact fun vs k => Eq.trans (b := bodyK CX (callK CX prims m) (loopK CX (callK CX prims m) laws_eqOrderS_fi laws_eqOrderS_c m) 33 Try.f33 laws_eqOrderS_c (fArgs laws_eqOrderS_a vs) k) (by kernel_rfl) ((bodyK_congr (laws_eqOrderS_cf m) ((laws_eqOrderS_lf m m).2) 33 Try.f33 laws_eqOrderS_c (fArgs laws_eqOrderS_a vs) k).trans (by kernel_rfl))

/-! loop.example/g00244/laws.eqWorld -/
noncomputable def laws_eqWorld : Nat → T → T → T → T → T → T → T → T → T → T → T → T → T → T → T → T → T → T → T → T → (T → An) → An
  | 0, _, _, _, _, _, _, _, _, _, _, _, _, _, _, _, _, _, _, _, _, _ => .bad
  | m + 1, x0, x1, x2, x3, x4, x5, x6, x7, x8, x9, x10, x11, x12, x13, x14, x15, x16, x17, x18, x19, k0 =>
    laws_eqCoord m x0 x1 x2 (T.l x3.rows) (T.l x4.rows) x5 x10 x11 x12 (T.l x13.rows) (T.l x14.rows) x15
    (fun y0 => cond (!y0.bool)
    (k0 (T.b false))
    (laws_eqShardS m (T.l x6.rows) (T.l x16.rows)
    (fun y1 => cond (!y1.bool)
    (k0 (T.b false))
    (laws_eqWordS m (T.l x7.rows) (T.l x17.rows)
    (fun y2 => cond (!y2.bool)
    (k0 (T.b false))
    (laws_eqWordS m (T.l x8.rows) (T.l x18.rows)
    (fun y3 => cond (!y3.bool)
    (k0 (T.b false))
    (laws_eqOrderS m (T.l x9.rows) (T.l x19.rows)
    (fun y4 => cond (!y4.bool)
    (k0 (T.b false))
    (k0 (T.b true)))))))))))
noncomputable def laws_eqWorld_a : List Arg := [.agg [.sc (.int .i64) (.l []), .sc (.int .i64) (.l []), .sc (.int .i64) (.l []), .dz [.sc (.int .i64), .sl [.sc (.int .i64), .sc (.str), .sc (.str)], .sc (.int .i64), .sl [.sc (.int .i64)]] [], .dz [.sc (.int .i64), .sc (.bool)] [], .sc (.int .i64) (.l []), .dz [.sc (.int .i64), .sl [.sc (.int .i64), .sc (.int .i64), .sl [.sc (.int .i64), .sc (.str), .sc (.str)]], .sc (.int .i64), .sl [.sc (.str), .sc (.str)], .sl [.sc (.int .i64), .sc (.int .i64), .sl [.sc (.int .i64), .sc (.str), .sc (.str)]]] [], .dz [.sc (.int .i64), .sc (.int .i64), .sc (.int .i64), .sl [.sc (.int .i64), .sc (.str), .sc (.str)], .sc (.bool)] [], .dz [.sc (.int .i64), .sc (.int .i64), .sc (.int .i64), .sl [.sc (.int .i64), .sc (.str), .sc (.str)], .sc (.bool)] [], .dz [.sc (.int .i64), .sl [.sc (.int .i64), .sc (.str), .sc (.str)]] []], .agg [.sc (.int .i64) (.l []), .sc (.int .i64) (.l []), .sc (.int .i64) (.l []), .dz [.sc (.int .i64), .sl [.sc (.int .i64), .sc (.str), .sc (.str)], .sc (.int .i64), .sl [.sc (.int .i64)]] [], .dz [.sc (.int .i64), .sc (.bool)] [], .sc (.int .i64) (.l []), .dz [.sc (.int .i64), .sl [.sc (.int .i64), .sc (.int .i64), .sl [.sc (.int .i64), .sc (.str), .sc (.str)]], .sc (.int .i64), .sl [.sc (.str), .sc (.str)], .sl [.sc (.int .i64), .sc (.int .i64), .sl [.sc (.int .i64), .sc (.str), .sc (.str)]]] [], .dz [.sc (.int .i64), .sc (.int .i64), .sc (.int .i64), .sl [.sc (.int .i64), .sc (.str), .sc (.str)], .sc (.bool)] [], .dz [.sc (.int .i64), .sc (.int .i64), .sc (.int .i64), .sl [.sc (.int .i64), .sc (.str), .sc (.str)], .sc (.bool)] [], .dz [.sc (.int .i64), .sl [.sc (.int .i64), .sc (.str), .sc (.str)]] []]]
noncomputable def laws_eqWorld_w (m : Nat) (vs : List T) (k : Ret → An) : An := laws_eqWorld m (vs.headD dflt) (vs.tail.headD dflt) (vs.tail.tail.headD dflt) (vs.tail.tail.tail.headD dflt) (vs.tail.tail.tail.tail.headD dflt) (vs.tail.tail.tail.tail.tail.headD dflt) (vs.tail.tail.tail.tail.tail.tail.headD dflt) (vs.tail.tail.tail.tail.tail.tail.tail.headD dflt) (vs.tail.tail.tail.tail.tail.tail.tail.tail.headD dflt) (vs.tail.tail.tail.tail.tail.tail.tail.tail.tail.headD dflt) (vs.tail.tail.tail.tail.tail.tail.tail.tail.tail.tail.headD dflt) (vs.tail.tail.tail.tail.tail.tail.tail.tail.tail.tail.tail.headD dflt) (vs.tail.tail.tail.tail.tail.tail.tail.tail.tail.tail.tail.tail.headD dflt) (vs.tail.tail.tail.tail.tail.tail.tail.tail.tail.tail.tail.tail.tail.headD dflt) (vs.tail.tail.tail.tail.tail.tail.tail.tail.tail.tail.tail.tail.tail.tail.headD dflt) (vs.tail.tail.tail.tail.tail.tail.tail.tail.tail.tail.tail.tail.tail.tail.tail.headD dflt) (vs.tail.tail.tail.tail.tail.tail.tail.tail.tail.tail.tail.tail.tail.tail.tail.tail.headD dflt) (vs.tail.tail.tail.tail.tail.tail.tail.tail.tail.tail.tail.tail.tail.tail.tail.tail.tail.headD dflt) (vs.tail.tail.tail.tail.tail.tail.tail.tail.tail.tail.tail.tail.tail.tail.tail.tail.tail.tail.headD dflt) (vs.tail.tail.tail.tail.tail.tail.tail.tail.tail.tail.tail.tail.tail.tail.tail.tail.tail.tail.tail.headD dflt) (fun z0 => k ⟨[.one (.sc (.bool) z0)], [[none, none, none, none, none, none, none, none, none, none], [none, none, none, none, none, none, none, none, none, none]], [none, none]⟩)
theorem laws_eqWorld_cf (m : Nat) : callK CX prims m = (patC 30 laws_eqCoord_a (laws_eqCoord_w m) (patC 31 laws_eqShardS_a (laws_eqShardS_w m) (patC 32 laws_eqWordS_a (laws_eqWordS_w m) (patC 33 laws_eqOrderS_a (laws_eqOrderS_w m) (callK CX prims m))))) := by
  rw [← patC_eq (fun vs k => laws_eqOrderS_eq m vs k), ← patC_eq (fun vs k => laws_eqWordS_eq m vs k), ← patC_eq (fun vs k => laws_eqShardS_eq m vs k), ← patC_eq (fun vs k => laws_eqCoord_eq m vs k)]
noncomputable def laws_eqWorld_c : Code := (Try.f10.body).getD .skip
noncomputable def laws_eqWorld_fi : Fi := ⟨10, 2, 35, 16⟩
theorem laws_eqWorld_eq (m : Nat) : ∀ vs k, callK CX prims m 10 (fArgs laws_eqWorld_a vs) k = laws_eqWorld_w m vs k := by
  cases m with
  | zero => exact fun vs k => rfl
  | succ m => exact fun vs k => Eq.trans (b := bodyK CX (callK CX prims m) (loopK CX (callK CX prims m) laws_eqWorld_fi laws_eqWorld_c m) 10 Try.f10 laws_eqWorld_c (fArgs laws_eqWorld_a vs) k) (by kernel_rfl) ((bodyK_congr (laws_eqWorld_cf m) rfl 10 Try.f10 laws_eqWorld_c (fArgs laws_eqWorld_a vs) k).trans (by kernel_rfl))

/-! loop.example/g00244/laws.markText -/
noncomputable def laws_markText_L0_0 (m : Nat) : Nat → T → T → (T → An) → An
  | 0, _, _, _ => .bad
  | n + 1, x0, x1, k0 =>
    cond (decide (x0.int > 0))
    (cond (decide ((rowsBytes [[(T.i (IntKind.u8.wrap (IntKind.i64.wrap (48 + (Int.tmod x0.int 10)))))]]).size + x1.str.size < 9223372036854775808))
    (laws_markText_L0_0 m n (T.i (IntKind.i64.wrap (Int.tdiv x0.int 10))) (T.s ((rowsBytes [[(T.i (IntKind.u8.wrap (IntKind.i64.wrap (48 + (Int.tmod x0.int 10)))))]]) ++ x1.str)) k0)
    (.bad))
    (k0 x1)
noncomputable def laws_markText_s0_0 : Pack := ⟨[(0, .one ⟨.sc, .sc (.int .i64), .l []⟩), (3, .one ⟨.sc, .sc (.str), .l []⟩)], []⟩
noncomputable def laws_markText_e0_0 : Pack := ⟨[(3, .one ⟨.sc, .sc (.str), .l []⟩)], []⟩
noncomputable def laws_markText_L0_0w (m n : Nat) (vs : List T) (k : Ctl → Pack → An) : An := laws_markText_L0_0 m n (vs.headD dflt) (vs.tail.headD dflt) (fun z0 => k (.exit 0) (fPack laws_markText_e0_0 [z0]))
noncomputable def laws_markText : Nat → T → (T → An) → An
  | 0, _, _ => .bad
  | m + 1, x0, k0 =>
    cond (decide (x0.int ≤ 0))
    (k0 (T.s (⟨#[109, 48]⟩ : ByteArray)))
    (laws_markText_L0_0 m m x0 (T.s (⟨#[]⟩ : ByteArray))
    (fun y0 => cond (decide ((⟨#[109]⟩ : ByteArray).size + y0.str.size < 9223372036854775808))
    (k0 (T.s ((⟨#[109]⟩ : ByteArray) ++ y0.str)))
    (.bad)))
noncomputable def laws_markText_a : List Arg := [.one (.sc (.int .i64) (.l []))]
noncomputable def laws_markText_w (m : Nat) (vs : List T) (k : Ret → An) : An := laws_markText m (vs.headD dflt) (fun z0 => k ⟨[.one (.sc (.str) z0)], [[none]], [none]⟩)
theorem laws_markText_cf (m : Nat) : callK CX prims m = (callK CX prims m) := by
  rfl
noncomputable def laws_markText_c : Code := (Try.f38.body).getD .skip
noncomputable def laws_markText_fi : Fi := ⟨38, 1, 20, 4⟩
theorem laws_markText_lf (m : Nat) : ∀ n, (∀ vs k, loopK CX (callK CX prims m) laws_markText_fi laws_markText_c n [0, 0, 1, 1, 1] (fPack laws_markText_s0_0 vs) k = laws_markText_L0_0w m n vs k) ∧ ((loopK CX (callK CX prims m) laws_markText_fi laws_markText_c n) = (patL [0, 0, 1, 1, 1] laws_markText_s0_0 (laws_markText_L0_0w m n) (loopK CX (callK CX prims m) laws_markText_fi laws_markText_c n))) := by
  intro n
  have hl : ∀ n, (∀ vs k, loopK CX (callK CX prims m) laws_markText_fi laws_markText_c n [0, 0, 1, 1, 1] (fPack laws_markText_s0_0 vs) k = laws_markText_L0_0w m n vs k) → ((loopK CX (callK CX prims m) laws_markText_fi laws_markText_c n) = (patL [0, 0, 1, 1, 1] laws_markText_s0_0 (laws_markText_L0_0w m n) (loopK CX (callK CX prims m) laws_markText_fi laws_markText_c n))) := by
    intro n h0
    rw [← patL_eq h0]
  induction n with
  | zero => exact ⟨fun vs k => rfl, hl 0 (fun vs k => rfl)⟩
  | succ n ihn =>
    have hn := ihn.2
    have h0 : ∀ vs k, loopK CX (callK CX prims m) laws_markText_fi laws_markText_c (n + 1) [0, 0, 1, 1, 1] (fPack laws_markText_s0_0 vs) k = laws_markText_L0_0w m (n + 1) vs k := fun vs k =>
      (stepL_congr (laws_markText_cf m) hn [0, 0, 1, 1, 1] _ _).trans (by kernel_rfl)
    exact ⟨h0, hl (n + 1) h0⟩
theorem laws_markText_eq (m : Nat) : ∀ vs k, callK CX prims m 38 (fArgs laws_markText_a vs) k = laws_markText_w m vs k := by
  cases m with
  | zero => exact fun vs k => rfl
  | succ m => exact fun vs k => Eq.trans (b := bodyK CX (callK CX prims m) (loopK CX (callK CX prims m) laws_markText_fi laws_markText_c m) 38 Try.f38 laws_markText_c (fArgs laws_markText_a vs) k) (by kernel_rfl) ((bodyK_congr (laws_markText_cf m) ((laws_markText_lf m m).2) 38 Try.f38 laws_markText_c (fArgs laws_markText_a vs) k).trans (by kernel_rfl))

/-! loop.example/g00244/laws.markOpS -/
noncomputable def laws_markOpS_L0_0 (m : Nat) : Nat → T → T → T → (T → T → An) → An
  | 0, _, _, _, _ => .bad
  | n + 1, x0, x1, x2, k0 =>
    cond (decide (x1.int < (x2.rows.length : Int)))
    (cond (decide ((0 : Int) ≤ x1.int ∧ x1.int < (x2.rows.length : Int)))
    (cond (decide ((Int.toNat x1.int) < x2.rows.length))
    (laws_markText m (T.i (IntKind.i64.wrap (x0.int + 1)))
    (fun y0 => cond (decide ((0 : Int) ≤ x1.int ∧ x1.int < ((x2.rows.set (Int.toNat x1.int) ((x2.rows.getD (Int.toNat x1.int) []).set 0 x0)).length : Int)))
    (cond (decide ((Int.toNat x1.int) < (x2.rows.set (Int.toNat x1.int) ((x2.rows.getD (Int.toNat x1.int) []).set 0 x0)).length))
    (laws_markText m (T.i (IntKind.i64.wrap ((IntKind.i64.wrap (x0.int + 1)) + 1)))
    (fun y1 => cond (decide ((0 : Int) ≤ x1.int ∧ x1.int < (((x2.rows.set (Int.toNat x1.int) ((x2.rows.getD (Int.toNat x1.int) []).set 0 x0)).set (Int.toNat x1.int) (((x2.rows.set (Int.toNat x1.int) ((x2.rows.getD (Int.toNat x1.int) []).set 0 x0)).getD (Int.toNat x1.int) []).set 1 y0)).length : Int)))
    (cond (decide ((Int.toNat x1.int) < ((x2.rows.set (Int.toNat x1.int) ((x2.rows.getD (Int.toNat x1.int) []).set 0 x0)).set (Int.toNat x1.int) (((x2.rows.set (Int.toNat x1.int) ((x2.rows.getD (Int.toNat x1.int) []).set 0 x0)).getD (Int.toNat x1.int) []).set 1 y0)).length))
    (laws_markOpS_L0_0 m n (T.i (IntKind.i64.wrap ((IntKind.i64.wrap ((IntKind.i64.wrap (x0.int + 1)) + 1)) + 1))) (T.i (IntKind.i64.wrap (x1.int + 1))) (T.l (((x2.rows.set (Int.toNat x1.int) ((x2.rows.getD (Int.toNat x1.int) []).set 0 x0)).set (Int.toNat x1.int) (((x2.rows.set (Int.toNat x1.int) ((x2.rows.getD (Int.toNat x1.int) []).set 0 x0)).getD (Int.toNat x1.int) []).set 1 y0)).set (Int.toNat x1.int) ((((x2.rows.set (Int.toNat x1.int) ((x2.rows.getD (Int.toNat x1.int) []).set 0 x0)).set (Int.toNat x1.int) (((x2.rows.set (Int.toNat x1.int) ((x2.rows.getD (Int.toNat x1.int) []).set 0 x0)).getD (Int.toNat x1.int) []).set 1 y0)).getD (Int.toNat x1.int) []).set 2 y1))) k0)
    (.bad))
    (.bad)))
    (.bad))
    (.bad)))
    (.bad))
    (.bad))
    (k0 x0 (T.l x2.rows))
noncomputable def laws_markOpS_s0_0 : Pack := ⟨[(0, .one ⟨.al [0, 0] 0, .sl [.sc (.int .i64), .sc (.str), .sc (.str)], .l []⟩), (1, .one ⟨.sc, .sc (.int .i64), .l []⟩), (5, .one ⟨.sc, .sc (.int .i64), .l []⟩)], [([0, 0], .row [.sc (.int .i64), .sc (.str), .sc (.str)] [.F, .F, .F] [])]⟩
noncomputable def laws_markOpS_e0_0 : Pack := ⟨[(0, .one ⟨.al [0, 0] 0, .sl [.sc (.int .i64), .sc (.str), .sc (.str)], .l []⟩), (1, .one ⟨.sc, .sc (.int .i64), .l []⟩)], [([0, 0], .row [.sc (.int .i64), .sc (.str), .sc (.str)] [.F, .F, .F] [])]⟩
noncomputable def laws_markOpS_L0_0w (m n : Nat) (vs : List T) (k : Ctl → Pack → An) : An := laws_markOpS_L0_0 m n (vs.headD dflt) (vs.tail.headD dflt) (vs.tail.tail.headD dflt) (fun z0 z1 => k (.exit 0) (fPack laws_markOpS_e0_0 [z0, z1]))
noncomputable def laws_markOpS : Nat → T → T → (T → T → An) → An
  | 0, _, _, _ => .bad
  | m + 1, x0, x1, k0 =>
    laws_markOpS_L0_0 m m x1 (T.i 0) (T.l x0.rows)
    (fun y2 y3 => k0 y2 (T.l y3.rows))
noncomputable def laws_markOpS_a : List Arg := [.one (.own [.sc (.int .i64), .sc (.str), .sc (.str)] [.F, .F, .F] []), .one (.sc (.int .i64) (.l []))]
noncomputable def laws_markOpS_w (m : Nat) (vs : List T) (k : Ret → An) : An := laws_markOpS m (vs.headD dflt) (vs.tail.headD dflt) (fun z0 z1 => k ⟨[.one (.sc (.int .i64) z0)], [[some ([.sc (.int .i64), .sc (.str), .sc (.str)], [.F, .F, .F], z1.rows)], [none]], [none, none]⟩)
theorem laws_markOpS_cf (m : Nat) : callK CX prims m = (patC 38 laws_markText_a (laws_markText_w m) (callK CX prims m)) := by
  rw [← patC_eq (fun vs k => laws_markText_eq m vs k)]
noncomputable def laws_markOpS_c : Code := (Try.f61.body).getD .skip
noncomputable def laws_markOpS_fi : Fi := ⟨61, 2, 36, 17⟩
theorem laws_markOpS_lf (m : Nat) : ∀ n, (∀ vs k, loopK CX (callK CX prims m) laws_markOpS_fi laws_markOpS_c n [0, 1, 0, 1] (fPack laws_markOpS_s0_0 vs) k = laws_markOpS_L0_0w m n vs k) ∧ ((loopK CX (callK CX prims m) laws_markOpS_fi laws_markOpS_c n) = (patL [0, 1, 0, 1] laws_markOpS_s0_0 (laws_markOpS_L0_0w m n) (loopK CX (callK CX prims m) laws_markOpS_fi laws_markOpS_c n))) := by
  intro n
  have hl : ∀ n, (∀ vs k, loopK CX (callK CX prims m) laws_markOpS_fi laws_markOpS_c n [0, 1, 0, 1] (fPack laws_markOpS_s0_0 vs) k = laws_markOpS_L0_0w m n vs k) → ((loopK CX (callK CX prims m) laws_markOpS_fi laws_markOpS_c n) = (patL [0, 1, 0, 1] laws_markOpS_s0_0 (laws_markOpS_L0_0w m n) (loopK CX (callK CX prims m) laws_markOpS_fi laws_markOpS_c n))) := by
    intro n h0
    rw [← patL_eq h0]
  induction n with
  | zero => exact ⟨fun vs k => rfl, hl 0 (fun vs k => rfl)⟩
  | succ n ihn =>
    have hn := ihn.2
    have h0 : ∀ vs k, loopK CX (callK CX prims m) laws_markOpS_fi laws_markOpS_c (n + 1) [0, 1, 0, 1] (fPack laws_markOpS_s0_0 vs) k = laws_markOpS_L0_0w m (n + 1) vs k := fun vs k =>
      (stepL_congr (laws_markOpS_cf m) hn [0, 1, 0, 1] _ _).trans (by kernel_rfl)
    exact ⟨h0, hl (n + 1) h0⟩
theorem laws_markOpS_eq (m : Nat) : ∀ vs k, callK CX prims m 61 (fArgs laws_markOpS_a vs) k = laws_markOpS_w m vs k := by
  cases m with
  | zero => exact fun vs k => rfl
  | succ m => exact fun vs k => Eq.trans (b := bodyK CX (callK CX prims m) (loopK CX (callK CX prims m) laws_markOpS_fi laws_markOpS_c m) 61 Try.f61 laws_markOpS_c (fArgs laws_markOpS_a vs) k) (by kernel_rfl) ((bodyK_congr (laws_markOpS_cf m) ((laws_markOpS_lf m m).2) 61 Try.f61 laws_markOpS_c (fArgs laws_markOpS_a vs) k).trans (by kernel_rfl))

/-! loop.example/g00244/laws.markIntS -/
noncomputable def laws_markIntS_L0_0 (m : Nat) : Nat → T → T → T → (T → T → An) → An
  | 0, _, _, _, _ => .bad
  | n + 1, x0, x1, x2, k0 =>
    cond (decide (x1.int < (x2.rows.length : Int)))
    (cond (decide ((0 : Int) ≤ x1.int ∧ x1.int < (x2.rows.length : Int)))
    (cond (decide ((Int.toNat x1.int) < x2.rows.length))
    (laws_markIntS_L0_0 m n (T.i (IntKind.i64.wrap (x0.int + 1))) (T.i (IntKind.i64.wrap (x1.int + 1))) (T.l (x2.rows.set (Int.toNat x1.int) ((x2.rows.getD (Int.toNat x1.int) []).set 0 x0))) k0)
    (.bad))
    (.bad))
    (k0 x0 (T.l x2.rows))
noncomputable def laws_markIntS_s0_0 : Pack := ⟨[(0, .one ⟨.al [0, 0] 0, .sl [.sc (.int .i64)], .l []⟩), (1, .one ⟨.sc, .sc (.int .i64), .l []⟩), (5, .one ⟨.sc, .sc (.int .i64), .l []⟩)], [([0, 0], .row [.sc (.int .i64)] [.F] [])]⟩
noncomputable def laws_markIntS_e0_0 : Pack := ⟨[(0, .one ⟨.al [0, 0] 0, .sl [.sc (.int .i64)], .l []⟩), (1, .one ⟨.sc, .sc (.int .i64), .l []⟩)], [([0, 0], .row [.sc (.int .i64)] [.F] [])]⟩
noncomputable def laws_markIntS_L0_0w (m n : Nat) (vs : List T) (k : Ctl → Pack → An) : An := laws_markIntS_L0_0 m n (vs.headD dflt) (vs.tail.headD dflt) (vs.tail.tail.headD dflt) (fun z0 z1 => k (.exit 0) (fPack laws_markIntS_e0_0 [z0, z1]))
noncomputable def laws_markIntS : Nat → T → T → (T → T → An) → An
  | 0, _, _, _ => .bad
  | m + 1, x0, x1, k0 =>
    laws_markIntS_L0_0 m m x1 (T.i 0) (T.l x0.rows)
    (fun y0 y1 => k0 y0 (T.l y1.rows))
noncomputable def laws_markIntS_a : List Arg := [.one (.own [.sc (.int .i64)] [.F] []), .one (.sc (.int .i64) (.l []))]
noncomputable def laws_markIntS_w (m : Nat) (vs : List T) (k : Ret → An) : An := laws_markIntS m (vs.headD dflt) (vs.tail.headD dflt) (fun z0 z1 => k ⟨[.one (.sc (.int .i64) z0)], [[some ([.sc (.int .i64)], [.F], z1.rows)], [none]], [none, none]⟩)
theorem laws_markIntS_cf (m : Nat) : callK CX prims m = (callK CX prims m) := by
  rfl
noncomputable def laws_markIntS_c : Code := (Try.f77.body).getD .skip
noncomputable def laws_markIntS_fi : Fi := ⟨77, 2, 19, 17⟩
theorem laws_markIntS_lf (m : Nat) : ∀ n, (∀ vs k, loopK CX (callK CX prims m) laws_markIntS_fi laws_markIntS_c n [0, 1, 0, 1] (fPack laws_markIntS_s0_0 vs) k = laws_markIntS_L0_0w m n vs k) ∧ ((loopK CX (callK CX prims m) laws_markIntS_fi laws_markIntS_c n) = (patL [0, 1, 0, 1] laws_markIntS_s0_0 (laws_markIntS_L0_0w m n) (loopK CX (callK CX prims m) laws_markIntS_fi laws_markIntS_c n))) := by
  intro n
  have hl : ∀ n, (∀ vs k, loopK CX (callK CX prims m) laws_markIntS_fi laws_markIntS_c n [0, 1, 0, 1] (fPack laws_markIntS_s0_0 vs) k = laws_markIntS_L0_0w m n vs k) → ((loopK CX (callK CX prims m) laws_markIntS_fi laws_markIntS_c n) = (patL [0, 1, 0, 1] laws_markIntS_s0_0 (laws_markIntS_L0_0w m n) (loopK CX (callK CX prims m) laws_markIntS_fi laws_markIntS_c n))) := by
    intro n h0
    rw [← patL_eq h0]
  induction n with
  | zero => exact ⟨fun vs k => rfl, hl 0 (fun vs k => rfl)⟩
  | succ n ihn =>
    have hn := ihn.2
    have h0 : ∀ vs k, loopK CX (callK CX prims m) laws_markIntS_fi laws_markIntS_c (n + 1) [0, 1, 0, 1] (fPack laws_markIntS_s0_0 vs) k = laws_markIntS_L0_0w m (n + 1) vs k := fun vs k =>
      (stepL_congr (laws_markIntS_cf m) hn [0, 1, 0, 1] _ _).trans (by kernel_rfl)
    exact ⟨h0, hl (n + 1) h0⟩
theorem laws_markIntS_eq (m : Nat) : ∀ vs k, callK CX prims m 77 (fArgs laws_markIntS_a vs) k = laws_markIntS_w m vs k := by
  cases m with
  | zero => exact fun vs k => rfl
  | succ m => exact fun vs k => Eq.trans (b := bodyK CX (callK CX prims m) (loopK CX (callK CX prims m) laws_markIntS_fi laws_markIntS_c m) 77 Try.f77 laws_markIntS_c (fArgs laws_markIntS_a vs) k) (by kernel_rfl) ((bodyK_congr (laws_markIntS_cf m) ((laws_markIntS_lf m m).2) 77 Try.f77 laws_markIntS_c (fArgs laws_markIntS_a vs) k).trans (by kernel_rfl))

/-! loop.example/g00244/laws.markJobS -/
noncomputable def laws_markJobS_L0_0 (m : Nat) : Nat → T → T → T → (T → T → An) → An
  | 0, _, _, _, _ => .bad
  | n + 1, x0, x1, x2, k0 =>
    cond (decide (x1.int < (x2.rows.length : Int)))
    (cond (decide ((0 : Int) ≤ x1.int ∧ x1.int < (x2.rows.length : Int)))
    (cond (decide ((Int.toNat x1.int) < x2.rows.length))
    (cond (decide ((0 : Int) ≤ x1.int ∧ x1.int < ((x2.rows.set (Int.toNat x1.int) ((x2.rows.getD (Int.toNat x1.int) []).set 0 x0)).length : Int)))
    (cond (decide ((Int.toNat x1.int) < (x2.rows.set (Int.toNat x1.int) ((x2.rows.getD (Int.toNat x1.int) []).set 0 x0)).length))
    (cond (decide ((Int.toNat x1.int) < (x2.rows.set (Int.toNat x1.int) ((x2.rows.getD (Int.toNat x1.int) []).set 0 x0)).length))
    (laws_markOpS m (T.l (((x2.rows.set (Int.toNat x1.int) ((x2.rows.getD (Int.toNat x1.int) []).set 0 x0)).getD (Int.toNat x1.int) []).tail.headD dflt).rows) (T.i (IntKind.i64.wrap (x0.int + 1)))
    (fun y0 y1 => cond (decide ((0 : Int) ≤ x1.int ∧ x1.int < (((x2.rows.set (Int.toNat x1.int) ((x2.rows.getD (Int.toNat x1.int) []).set 0 x0)).set (Int.toNat x1.int) [(((x2.rows.set (Int.toNat x1.int) ((x2.rows.getD (Int.toNat x1.int) []).set 0 x0)).getD (Int.toNat x1.int) []).headD dflt), (T.l y1.rows), (((x2.rows.set (Int.toNat x1.int) ((x2.rows.getD (Int.toNat x1.int) []).set 0 x0)).getD (Int.toNat x1.int) []).tail.tail.headD dflt), (T.l (((x2.rows.set (Int.toNat x1.int) ((x2.rows.getD (Int.toNat x1.int) []).set 0 x0)).getD (Int.toNat x1.int) []).tail.tail.tail.headD dflt).rows)]).length : Int)))
    (cond (decide ((Int.toNat x1.int) < ((x2.rows.set (Int.toNat x1.int) ((x2.rows.getD (Int.toNat x1.int) []).set 0 x0)).set (Int.toNat x1.int) [(((x2.rows.set (Int.toNat x1.int) ((x2.rows.getD (Int.toNat x1.int) []).set 0 x0)).getD (Int.toNat x1.int) []).headD dflt), (T.l y1.rows), (((x2.rows.set (Int.toNat x1.int) ((x2.rows.getD (Int.toNat x1.int) []).set 0 x0)).getD (Int.toNat x1.int) []).tail.tail.headD dflt), (T.l (((x2.rows.set (Int.toNat x1.int) ((x2.rows.getD (Int.toNat x1.int) []).set 0 x0)).getD (Int.toNat x1.int) []).tail.tail.tail.headD dflt).rows)]).length))
    (cond (decide ((0 : Int) ≤ x1.int ∧ x1.int < ((((x2.rows.set (Int.toNat x1.int) ((x2.rows.getD (Int.toNat x1.int) []).set 0 x0)).set (Int.toNat x1.int) [(((x2.rows.set (Int.toNat x1.int) ((x2.rows.getD (Int.toNat x1.int) []).set 0 x0)).getD (Int.toNat x1.int) []).headD dflt), (T.l y1.rows), (((x2.rows.set (Int.toNat x1.int) ((x2.rows.getD (Int.toNat x1.int) []).set 0 x0)).getD (Int.toNat x1.int) []).tail.tail.headD dflt), (T.l (((x2.rows.set (Int.toNat x1.int) ((x2.rows.getD (Int.toNat x1.int) []).set 0 x0)).getD (Int.toNat x1.int) []).tail.tail.tail.headD dflt).rows)]).set (Int.toNat x1.int) ((((x2.rows.set (Int.toNat x1.int) ((x2.rows.getD (Int.toNat x1.int) []).set 0 x0)).set (Int.toNat x1.int) [(((x2.rows.set (Int.toNat x1.int) ((x2.rows.getD (Int.toNat x1.int) []).set 0 x0)).getD (Int.toNat x1.int) []).headD dflt), (T.l y1.rows), (((x2.rows.set (Int.toNat x1.int) ((x2.rows.getD (Int.toNat x1.int) []).set 0 x0)).getD (Int.toNat x1.int) []).tail.tail.headD dflt), (T.l (((x2.rows.set (Int.toNat x1.int) ((x2.rows.getD (Int.toNat x1.int) []).set 0 x0)).getD (Int.toNat x1.int) []).tail.tail.tail.headD dflt).rows)]).getD (Int.toNat x1.int) []).set 2 y0)).length : Int)))
    (cond (decide ((Int.toNat x1.int) < (((x2.rows.set (Int.toNat x1.int) ((x2.rows.getD (Int.toNat x1.int) []).set 0 x0)).set (Int.toNat x1.int) [(((x2.rows.set (Int.toNat x1.int) ((x2.rows.getD (Int.toNat x1.int) []).set 0 x0)).getD (Int.toNat x1.int) []).headD dflt), (T.l y1.rows), (((x2.rows.set (Int.toNat x1.int) ((x2.rows.getD (Int.toNat x1.int) []).set 0 x0)).getD (Int.toNat x1.int) []).tail.tail.headD dflt), (T.l (((x2.rows.set (Int.toNat x1.int) ((x2.rows.getD (Int.toNat x1.int) []).set 0 x0)).getD (Int.toNat x1.int) []).tail.tail.tail.headD dflt).rows)]).set (Int.toNat x1.int) ((((x2.rows.set (Int.toNat x1.int) ((x2.rows.getD (Int.toNat x1.int) []).set 0 x0)).set (Int.toNat x1.int) [(((x2.rows.set (Int.toNat x1.int) ((x2.rows.getD (Int.toNat x1.int) []).set 0 x0)).getD (Int.toNat x1.int) []).headD dflt), (T.l y1.rows), (((x2.rows.set (Int.toNat x1.int) ((x2.rows.getD (Int.toNat x1.int) []).set 0 x0)).getD (Int.toNat x1.int) []).tail.tail.headD dflt), (T.l (((x2.rows.set (Int.toNat x1.int) ((x2.rows.getD (Int.toNat x1.int) []).set 0 x0)).getD (Int.toNat x1.int) []).tail.tail.tail.headD dflt).rows)]).getD (Int.toNat x1.int) []).set 2 y0)).length))
    (cond (decide ((Int.toNat x1.int) < (((x2.rows.set (Int.toNat x1.int) ((x2.rows.getD (Int.toNat x1.int) []).set 0 x0)).set (Int.toNat x1.int) [(((x2.rows.set (Int.toNat x1.int) ((x2.rows.getD (Int.toNat x1.int) []).set 0 x0)).getD (Int.toNat x1.int) []).headD dflt), (T.l y1.rows), (((x2.rows.set (Int.toNat x1.int) ((x2.rows.getD (Int.toNat x1.int) []).set 0 x0)).getD (Int.toNat x1.int) []).tail.tail.headD dflt), (T.l (((x2.rows.set (Int.toNat x1.int) ((x2.rows.getD (Int.toNat x1.int) []).set 0 x0)).getD (Int.toNat x1.int) []).tail.tail.tail.headD dflt).rows)]).set (Int.toNat x1.int) ((((x2.rows.set (Int.toNat x1.int) ((x2.rows.getD (Int.toNat x1.int) []).set 0 x0)).set (Int.toNat x1.int) [(((x2.rows.set (Int.toNat x1.int) ((x2.rows.getD (Int.toNat x1.int) []).set 0 x0)).getD (Int.toNat x1.int) []).headD dflt), (T.l y1.rows), (((x2.rows.set (Int.toNat x1.int) ((x2.rows.getD (Int.toNat x1.int) []).set 0 x0)).getD (Int.toNat x1.int) []).tail.tail.headD dflt), (T.l (((x2.rows.set (Int.toNat x1.int) ((x2.rows.getD (Int.toNat x1.int) []).set 0 x0)).getD (Int.toNat x1.int) []).tail.tail.tail.headD dflt).rows)]).getD (Int.toNat x1.int) []).set 2 y0)).length))
    (laws_markIntS m (T.l (((((x2.rows.set (Int.toNat x1.int) ((x2.rows.getD (Int.toNat x1.int) []).set 0 x0)).set (Int.toNat x1.int) [(((x2.rows.set (Int.toNat x1.int) ((x2.rows.getD (Int.toNat x1.int) []).set 0 x0)).getD (Int.toNat x1.int) []).headD dflt), (T.l y1.rows), (((x2.rows.set (Int.toNat x1.int) ((x2.rows.getD (Int.toNat x1.int) []).set 0 x0)).getD (Int.toNat x1.int) []).tail.tail.headD dflt), (T.l (((x2.rows.set (Int.toNat x1.int) ((x2.rows.getD (Int.toNat x1.int) []).set 0 x0)).getD (Int.toNat x1.int) []).tail.tail.tail.headD dflt).rows)]).set (Int.toNat x1.int) ((((x2.rows.set (Int.toNat x1.int) ((x2.rows.getD (Int.toNat x1.int) []).set 0 x0)).set (Int.toNat x1.int) [(((x2.rows.set (Int.toNat x1.int) ((x2.rows.getD (Int.toNat x1.int) []).set 0 x0)).getD (Int.toNat x1.int) []).headD dflt), (T.l y1.rows), (((x2.rows.set (Int.toNat x1.int) ((x2.rows.getD (Int.toNat x1.int) []).set 0 x0)).getD (Int.toNat x1.int) []).tail.tail.headD dflt), (T.l (((x2.rows.set (Int.toNat x1.int) ((x2.rows.getD (Int.toNat x1.int) []).set 0 x0)).getD (Int.toNat x1.int) []).tail.tail.tail.headD dflt).rows)]).getD (Int.toNat x1.int) []).set 2 y0)).getD (Int.toNat x1.int) []).tail.tail.tail.headD dflt).rows) (T.i (IntKind.i64.wrap (y0.int + 1)))
    (fun y2 y3 => laws_markJobS_L0_0 m n y2 (T.i (IntKind.i64.wrap (x1.int + 1))) (T.l ((((x2.rows.set (Int.toNat x1.int) ((x2.rows.getD (Int.toNat x1.int) []).set 0 x0)).set (Int.toNat x1.int) [(((x2.rows.set (Int.toNat x1.int) ((x2.rows.getD (Int.toNat x1.int) []).set 0 x0)).getD (Int.toNat x1.int) []).headD dflt), (T.l y1.rows), (((x2.rows.set (Int.toNat x1.int) ((x2.rows.getD (Int.toNat x1.int) []).set 0 x0)).getD (Int.toNat x1.int) []).tail.tail.headD dflt), (T.l (((x2.rows.set (Int.toNat x1.int) ((x2.rows.getD (Int.toNat x1.int) []).set 0 x0)).getD (Int.toNat x1.int) []).tail.tail.tail.headD dflt).rows)]).set (Int.toNat x1.int) ((((x2.rows.set (Int.toNat x1.int) ((x2.rows.getD (Int.toNat x1.int) []).set 0 x0)).set (Int.toNat x1.int) [(((x2.rows.set (Int.toNat x1.int) ((x2.rows.getD (Int.toNat x1.int) []).set 0 x0)).getD (Int.toNat x1.int) []).headD dflt), (T.l y1.rows), (((x2.rows.set (Int.toNat x1.int) ((x2.rows.getD (Int.toNat x1.int) []).set 0 x0)).getD (Int.toNat x1.int) []).tail.tail.headD dflt), (T.l (((x2.rows.set (Int.toNat x1.int) ((x2.rows.getD (Int.toNat x1.int) []).set 0 x0)).getD (Int.toNat x1.int) []).tail.tail.tail.headD dflt).rows)]).getD (Int.toNat x1.int) []).set 2 y0)).set (Int.toNat x1.int) [(((((x2.rows.set (Int.toNat x1.int) ((x2.rows.getD (Int.toNat x1.int) []).set 0 x0)).set (Int.toNat x1.int) [(((x2.rows.set (Int.toNat x1.int) ((x2.rows.getD (Int.toNat x1.int) []).set 0 x0)).getD (Int.toNat x1.int) []).headD dflt), (T.l y1.rows), (((x2.rows.set (Int.toNat x1.int) ((x2.rows.getD (Int.toNat x1.int) []).set 0 x0)).getD (Int.toNat x1.int) []).tail.tail.headD dflt), (T.l (((x2.rows.set (Int.toNat x1.int) ((x2.rows.getD (Int.toNat x1.int) []).set 0 x0)).getD (Int.toNat x1.int) []).tail.tail.tail.headD dflt).rows)]).set (Int.toNat x1.int) ((((x2.rows.set (Int.toNat x1.int) ((x2.rows.getD (Int.toNat x1.int) []).set 0 x0)).set (Int.toNat x1.int) [(((x2.rows.set (Int.toNat x1.int) ((x2.rows.getD (Int.toNat x1.int) []).set 0 x0)).getD (Int.toNat x1.int) []).headD dflt), (T.l y1.rows), (((x2.rows.set (Int.toNat x1.int) ((x2.rows.getD (Int.toNat x1.int) []).set 0 x0)).getD (Int.toNat x1.int) []).tail.tail.headD dflt), (T.l (((x2.rows.set (Int.toNat x1.int) ((x2.rows.getD (Int.toNat x1.int) []).set 0 x0)).getD (Int.toNat x1.int) []).tail.tail.tail.headD dflt).rows)]).getD (Int.toNat x1.int) []).set 2 y0)).getD (Int.toNat x1.int) []).headD dflt), (T.l (((((x2.rows.set (Int.toNat x1.int) ((x2.rows.getD (Int.toNat x1.int) []).set 0 x0)).set (Int.toNat x1.int) [(((x2.rows.set (Int.toNat x1.int) ((x2.rows.getD (Int.toNat x1.int) []).set 0 x0)).getD (Int.toNat x1.int) []).headD dflt), (T.l y1.rows), (((x2.rows.set (Int.toNat x1.int) ((x2.rows.getD (Int.toNat x1.int) []).set 0 x0)).getD (Int.toNat x1.int) []).tail.tail.headD dflt), (T.l (((x2.rows.set (Int.toNat x1.int) ((x2.rows.getD (Int.toNat x1.int) []).set 0 x0)).getD (Int.toNat x1.int) []).tail.tail.tail.headD dflt).rows)]).set (Int.toNat x1.int) ((((x2.rows.set (Int.toNat x1.int) ((x2.rows.getD (Int.toNat x1.int) []).set 0 x0)).set (Int.toNat x1.int) [(((x2.rows.set (Int.toNat x1.int) ((x2.rows.getD (Int.toNat x1.int) []).set 0 x0)).getD (Int.toNat x1.int) []).headD dflt), (T.l y1.rows), (((x2.rows.set (Int.toNat x1.int) ((x2.rows.getD (Int.toNat x1.int) []).set 0 x0)).getD (Int.toNat x1.int) []).tail.tail.headD dflt), (T.l (((x2.rows.set (Int.toNat x1.int) ((x2.rows.getD (Int.toNat x1.int) []).set 0 x0)).getD (Int.toNat x1.int) []).tail.tail.tail.headD dflt).rows)]).getD (Int.toNat x1.int) []).set 2 y0)).getD (Int.toNat x1.int) []).tail.headD dflt).rows), (((((x2.rows.set (Int.toNat x1.int) ((x2.rows.getD (Int.toNat x1.int) []).set 0 x0)).set (Int.toNat x1.int) [(((x2.rows.set (Int.toNat x1.int) ((x2.rows.getD (Int.toNat x1.int) []).set 0 x0)).getD (Int.toNat x1.int) []).headD dflt), (T.l y1.rows), (((x2.rows.set (Int.toNat x1.int) ((x2.rows.getD (Int.toNat x1.int) []).set 0 x0)).getD (Int.toNat x1.int) []).tail.tail.headD dflt), (T.l (((x2.rows.set (Int.toNat x1.int) ((x2.rows.getD (Int.toNat x1.int) []).set 0 x0)).getD (Int.toNat x1.int) []).tail.tail.tail.headD dflt).rows)]).set (Int.toNat x1.int) ((((x2.rows.set (Int.toNat x1.int) ((x2.rows.getD (Int.toNat x1.int) []).set 0 x0)).set (Int.toNat x1.int) [(((x2.rows.set (Int.toNat x1.int) ((x2.rows.getD (Int.toNat x1.int) []).set 0 x0)).getD (Int.toNat x1.int) []).headD dflt), (T.l y1.rows), (((x2.rows.set (Int.toNat x1.int) ((x2.rows.getD (Int.toNat x1.int) []).set 0 x0)).getD (Int.toNat x1.int) []).tail.tail.headD dflt), (T.l (((x2.rows.set (Int.toNat x1.int) ((x2.rows.getD (Int.toNat x1.int) []).set 0 x0)).getD (Int.toNat x1.int) []).tail.tail.tail.headD dflt).rows)]).getD (Int.toNat x1.int) []).set 2 y0)).getD (Int.toNat x1.int) []).tail.tail.headD dflt), (T.l y3.rows)])) k0))
    (.bad))
    (.bad))
    (.bad))
    (.bad))
    (.bad)))
    (.bad))
    (.bad))
    (.bad))
    (.bad))
    (.bad))
    (k0 x0 (T.l x2.rows))
noncomputable def laws_markJobS_s0_0 : Pack := ⟨[(0, .one ⟨.al [0, 0] 0, .sl [.sc (.int .i64), .sl [.sc (.int .i64), .sc (.str), .sc (.str)], .sc (.int .i64), .sl [.sc (.int .i64)]], .l []⟩), (1, .one ⟨.sc, .sc (.int .i64), .l []⟩), (5, .one ⟨.sc, .sc (.int .i64), .l []⟩)], [([0, 0], .row [.sc (.int .i64), .sl [.sc (.int .i64), .sc (.str), .sc (.str)], .sc (.int .i64), .sl [.sc (.int .i64)]] [.F, .O [.F, .F, .F], .F, .O [.F]] [])]⟩
noncomputable def laws_markJobS_e0_0 : Pack := ⟨[(0, .one ⟨.al [0, 0] 0, .sl [.sc (.int .i64), .sl [.sc (.int .i64), .sc (.str), .sc (.str)], .sc (.int .i64), .sl [.sc (.int .i64)]], .l []⟩), (1, .one ⟨.sc, .sc (.int .i64), .l []⟩)], [([0, 0], .row [.sc (.int .i64), .sl [.sc (.int .i64), .sc (.str), .sc (.str)], .sc (.int .i64), .sl [.sc (.int .i64)]] [.F, .O [.F, .F, .F], .F, .O [.F]] [])]⟩
noncomputable def laws_markJobS_L0_0w (m n : Nat) (vs : List T) (k : Ctl → Pack → An) : An := laws_markJobS_L0_0 m n (vs.headD dflt) (vs.tail.headD dflt) (vs.tail.tail.headD dflt) (fun z0 z1 => k (.exit 0) (fPack laws_markJobS_e0_0 [z0, z1]))
noncomputable def laws_markJobS : Nat → T → T → (T → T → An) → An
  | 0, _, _, _ => .bad
  | m + 1, x0, x1, k0 =>
    laws_markJobS_L0_0 m m x1 (T.i 0) (T.l x0.rows)
    (fun y4 y5 => k0 y4 (T.l y5.rows))
noncomputable def laws_markJobS_a : List Arg := [.one (.own [.sc (.int .i64), .sl [.sc (.int .i64), .sc (.str), .sc (.str)], .sc (.int .i64), .sl [.sc (.int .i64)]] [.F, .O [.F, .F, .F], .F, .O [.F]] []), .one (.sc (.int .i64) (.l []))]
noncomputable def laws_markJobS_w (m : Nat) (vs : List T) (k : Ret → An) : An := laws_markJobS m (vs.headD dflt) (vs.tail.headD dflt) (fun z0 z1 => k ⟨[.one (.sc (.int .i64) z0)], [[some ([.sc (.int .i64), .sl [.sc (.int .i64), .sc (.str), .sc (.str)], .sc (.int .i64), .sl [.sc (.int .i64)]], [.F, .O [.F, .F, .F], .F, .O [.F]], z1.rows)], [none]], [none, none]⟩)
theorem laws_markJobS_cf (m : Nat) : callK CX prims m = (patC 61 laws_markOpS_a (laws_markOpS_w m) (patC 77 laws_markIntS_a (laws_markIntS_w m) (callK CX prims m))) := by
  rw [← patC_eq (fun vs k => laws_markIntS_eq m vs k), ← patC_eq (fun vs k => laws_markOpS_eq m vs k)]
noncomputable def laws_markJobS_c : Code := (Try.f58.body).getD .skip
noncomputable def laws_markJobS_fi : Fi := ⟨58, 2, 41, 17⟩
theorem laws_markJobS_lf (m : Nat) : ∀ n, (∀ vs k, loopK CX (callK CX prims m) laws_markJobS_fi laws_markJobS_c n [0, 1, 0, 1] (fPack laws_markJobS_s0_0 vs) k = laws_markJobS_L0_0w m n vs k) ∧ ((loopK CX (callK CX prims m) laws_markJobS_fi laws_markJobS_c n) = (patL [0, 1, 0, 1] laws_markJobS_s0_0 (laws_markJobS_L0_0w m n) (loopK CX (callK CX prims m) laws_markJobS_fi laws_markJobS_c n))) := by
  intro n
  have hl : ∀ n, (∀ vs k, loopK CX (callK CX prims m) laws_markJobS_fi laws_markJobS_c n [0, 1, 0, 1] (fPack laws_markJobS_s0_0 vs) k = laws_markJobS_L0_0w m n vs k) → ((loopK CX (callK CX prims m) laws_markJobS_fi laws_markJobS_c n) = (patL [0, 1, 0, 1] laws_markJobS_s0_0 (laws_markJobS_L0_0w m n) (loopK CX (callK CX prims m) laws_markJobS_fi laws_markJobS_c n))) := by
    intro n h0
    rw [← patL_eq h0]
  induction n with
  | zero => exact ⟨fun vs k => rfl, hl 0 (fun vs k => rfl)⟩
  | succ n ihn =>
    have hn := ihn.2
    have h0 : ∀ vs k, loopK CX (callK CX prims m) laws_markJobS_fi laws_markJobS_c (n + 1) [0, 1, 0, 1] (fPack laws_markJobS_s0_0 vs) k = laws_markJobS_L0_0w m (n + 1) vs k := fun vs k =>
      (stepL_congr (laws_markJobS_cf m) hn [0, 1, 0, 1] _ _).trans (by kernel_rfl)
    exact ⟨h0, hl (n + 1) h0⟩
theorem laws_markJobS_eq (m : Nat) : ∀ vs k, callK CX prims m 58 (fArgs laws_markJobS_a vs) k = laws_markJobS_w m vs k := by
  cases m with
  | zero => exact fun vs k => rfl
  | succ m => exact fun vs k => Eq.trans (b := bodyK CX (callK CX prims m) (loopK CX (callK CX prims m) laws_markJobS_fi laws_markJobS_c m) 58 Try.f58 laws_markJobS_c (fArgs laws_markJobS_a vs) k) (by kernel_rfl) ((bodyK_congr (laws_markJobS_cf m) ((laws_markJobS_lf m m).2) 58 Try.f58 laws_markJobS_c (fArgs laws_markJobS_a vs) k).trans (by kernel_rfl))

/-! loop.example/g00244/laws.markChoiceS -/
noncomputable def laws_markChoiceS_L0_0 (m : Nat) : Nat → T → T → T → (T → T → An) → An
  | 0, _, _, _, _ => .bad
  | n + 1, x0, x1, x2, k0 =>
    cond (decide (x1.int < (x2.rows.length : Int)))
    (cond (decide ((0 : Int) ≤ x1.int ∧ x1.int < (x2.rows.length : Int)))
    (cond (decide ((Int.toNat x1.int) < x2.rows.length))
    (cond (decide ((0 : Int) ≤ x1.int ∧ x1.int < ((x2.rows.set (Int.toNat x1.int) ((x2.rows.getD (Int.toNat x1.int) []).set 0 x0)).length : Int)))
    (cond (decide ((Int.toNat x1.int) < (x2.rows.set (Int.toNat x1.int) ((x2.rows.getD (Int.toNat x1.int) []).set 0 x0)).length))
    (laws_markChoiceS_L0_0 m n (T.i (IntKind.i64.wrap ((IntKind.i64.wrap (x0.int + 1)) + 1))) (T.i (IntKind.i64.wrap (x1.int + 1))) (T.l ((x2.rows.set (Int.toNat x1.int) ((x2.rows.getD (Int.toNat x1.int) []).set 0 x0)).set (Int.toNat x1.int) (((x2.rows.set (Int.toNat x1.int) ((x2.rows.getD (Int.toNat x1.int) []).set 0 x0)).getD (Int.toNat x1.int) []).set 1 (T.b ((Int.tmod (IntKind.i64.wrap (x0.int + 1)) 3) == 0))))) k0)
    (.bad))
    (.bad))
    (.bad))
    (.bad))
    (k0 x0 (T.l x2.rows))
noncomputable def laws_markChoiceS_s0_0 : Pack := ⟨[(0, .one ⟨.al [0, 0] 0, .sl [.sc (.int .i64), .sc (.bool)], .l []⟩), (1, .one ⟨.sc, .sc (.int .i64), .l []⟩), (5, .one ⟨.sc, .sc (.int .i64), .l []⟩)], [([0, 0], .row [.sc (.int .i64), .sc (.bool)] [.F, .F] [])]⟩
noncomputable def laws_markChoiceS_e0_0 : Pack := ⟨[(0, .one ⟨.al [0, 0] 0, .sl [.sc (.int .i64), .sc (.bool)], .l []⟩), (1, .one ⟨.sc, .sc (.int .i64), .l []⟩)], [([0, 0], .row [.sc (.int .i64), .sc (.bool)] [.F, .F] [])]⟩
noncomputable def laws_markChoiceS_L0_0w (m n : Nat) (vs : List T) (k : Ctl → Pack → An) : An := laws_markChoiceS_L0_0 m n (vs.headD dflt) (vs.tail.headD dflt) (vs.tail.tail.headD dflt) (fun z0 z1 => k (.exit 0) (fPack laws_markChoiceS_e0_0 [z0, z1]))
noncomputable def laws_markChoiceS : Nat → T → T → (T → T → An) → An
  | 0, _, _, _ => .bad
  | m + 1, x0, x1, k0 =>
    laws_markChoiceS_L0_0 m m x1 (T.i 0) (T.l x0.rows)
    (fun y0 y1 => k0 y0 (T.l y1.rows))
noncomputable def laws_markChoiceS_a : List Arg := [.one (.own [.sc (.int .i64), .sc (.bool)] [.F, .F] []), .one (.sc (.int .i64) (.l []))]
noncomputable def laws_markChoiceS_w (m : Nat) (vs : List T) (k : Ret → An) : An := laws_markChoiceS m (vs.headD dflt) (vs.tail.headD dflt) (fun z0 z1 => k ⟨[.one (.sc (.int .i64) z0)], [[some ([.sc (.int .i64), .sc (.bool)], [.F, .F], z1.rows)], [none]], [none, none]⟩)
theorem laws_markChoiceS_cf (m : Nat) : callK CX prims m = (callK CX prims m) := by
  rfl
noncomputable def laws_markChoiceS_c : Code := (Try.f59.body).getD .skip
noncomputable def laws_markChoiceS_fi : Fi := ⟨59, 2, 29, 17⟩
theorem laws_markChoiceS_lf (m : Nat) : ∀ n, (∀ vs k, loopK CX (callK CX prims m) laws_markChoiceS_fi laws_markChoiceS_c n [0, 1, 0, 1] (fPack laws_markChoiceS_s0_0 vs) k = laws_markChoiceS_L0_0w m n vs k) ∧ ((loopK CX (callK CX prims m) laws_markChoiceS_fi laws_markChoiceS_c n) = (patL [0, 1, 0, 1] laws_markChoiceS_s0_0 (laws_markChoiceS_L0_0w m n) (loopK CX (callK CX prims m) laws_markChoiceS_fi laws_markChoiceS_c n))) := by
  intro n
  have hl : ∀ n, (∀ vs k, loopK CX (callK CX prims m) laws_markChoiceS_fi laws_markChoiceS_c n [0, 1, 0, 1] (fPack laws_markChoiceS_s0_0 vs) k = laws_markChoiceS_L0_0w m n vs k) → ((loopK CX (callK CX prims m) laws_markChoiceS_fi laws_markChoiceS_c n) = (patL [0, 1, 0, 1] laws_markChoiceS_s0_0 (laws_markChoiceS_L0_0w m n) (loopK CX (callK CX prims m) laws_markChoiceS_fi laws_markChoiceS_c n))) := by
    intro n h0
    rw [← patL_eq h0]
  induction n with
  | zero => exact ⟨fun vs k => rfl, hl 0 (fun vs k => rfl)⟩
  | succ n ihn =>
    have hn := ihn.2
    have h0 : ∀ vs k, loopK CX (callK CX prims m) laws_markChoiceS_fi laws_markChoiceS_c (n + 1) [0, 1, 0, 1] (fPack laws_markChoiceS_s0_0 vs) k = laws_markChoiceS_L0_0w m (n + 1) vs k := fun vs k =>
      (stepL_congr (laws_markChoiceS_cf m) hn [0, 1, 0, 1] _ _).trans (by kernel_rfl)
    exact ⟨h0, hl (n + 1) h0⟩
theorem laws_markChoiceS_eq (m : Nat) : ∀ vs k, callK CX prims m 59 (fArgs laws_markChoiceS_a vs) k = laws_markChoiceS_w m vs k := by
  cases m with
  | zero => exact fun vs k => rfl
  | succ m => exact fun vs k => Eq.trans (b := bodyK CX (callK CX prims m) (loopK CX (callK CX prims m) laws_markChoiceS_fi laws_markChoiceS_c m) 59 Try.f59 laws_markChoiceS_c (fArgs laws_markChoiceS_a vs) k) (by kernel_rfl) ((bodyK_congr (laws_markChoiceS_cf m) ((laws_markChoiceS_lf m m).2) 59 Try.f59 laws_markChoiceS_c (fArgs laws_markChoiceS_a vs) k).trans (by kernel_rfl))

/-! loop.example/g00244/laws.markCoord -/
noncomputable def laws_markCoord : Nat → T → T → T → T → T → T → T → (T → T → T → An) → An
  | 0, _, _, _, _, _, _, _, _ => .bad
  | m + 1, x0, x1, x2, x3, x4, x5, x6, k0 =>
    laws_markJobS m (T.l x3.rows) x6
    (fun y0 y1 => laws_markChoiceS m (T.l x4.rows) y0
    (fun y2 y3 => k0 y2 (T.l y1.rows) (T.l y3.rows)))
noncomputable def laws_markCoord_a : List Arg := [.agg [.sc (.int .i64) (.l []), .sc (.int .i64) (.l []), .sc (.int .i64) (.l []), .own [.sc (.int .i64), .sl [.sc (.int .i64), .sc (.str), .sc (.str)], .sc (.int .i64), .sl [.sc (.int .i64)]] [.F, .O [.F, .F, .F], .F, .O [.F]] [], .own [.sc (.int .i64), .sc (.bool)] [.F, .F] [], .sc (.int .i64) (.l [])], .one (.sc (.int .i64) (.l []))]
noncomputable def laws_markCoord_w (m : Nat) (vs : List T) (k : Ret → An) : An := laws_markCoord m (vs.headD dflt) (vs.tail.headD dflt) (vs.tail.tail.headD dflt) (vs.tail.tail.tail.headD dflt) (vs.tail.tail.tail.tail.headD dflt) (vs.tail.tail.tail.tail.tail.headD dflt) (vs.tail.tail.tail.tail.tail.tail.headD dflt) (fun z0 z1 z2 => k ⟨[.one (.sc (.int .i64) z0)], [[none, none, none, some ([.sc (.int .i64), .sl [.sc (.int .i64), .sc (.str), .sc (.str)], .sc (.int .i64), .sl [.sc (.int .i64)]], [.F, .O [.F, .F, .F], .F, .O [.F]], z1.rows), some ([.sc (.int .i64), .sc (.bool)], [.F, .F], z2.rows), none], [none]], [none, none]⟩)
theorem laws_markCoord_cf (m : Nat) : callK CX prims m = (patC 58 laws_markJobS_a (laws_markJobS_w m) (patC 59 laws_markChoiceS_a (laws_markChoiceS_w m) (callK CX prims m))) := by
  rw [← patC_eq (fun vs k => laws_markChoiceS_eq m vs k), ← patC_eq (fun vs k => laws_markJobS_eq m vs k)]
noncomputable def laws_markCoord_c : Code := (Try.f34.body).getD .skip
noncomputable def laws_markCoord_fi : Fi := ⟨34, 2, 14, 17⟩
theorem laws_markCoord_eq (m : Nat) : ∀ vs k, callK CX prims m 34 (fArgs laws_markCoord_a vs) k = laws_markCoord_w m vs k := by
  cases m with
  | zero => exact fun vs k => rfl
  | succ m => exact fun vs k => Eq.trans (b := bodyK CX (callK CX prims m) (loopK CX (callK CX prims m) laws_markCoord_fi laws_markCoord_c m) 34 Try.f34 laws_markCoord_c (fArgs laws_markCoord_a vs) k) (by kernel_rfl) ((bodyK_congr (laws_markCoord_cf m) rfl 34 Try.f34 laws_markCoord_c (fArgs laws_markCoord_a vs) k).trans (by kernel_rfl))

/-! loop.example/g00244/laws.markRecS -/
noncomputable def laws_markRecS_L0_0 (m : Nat) : Nat → T → T → T → (T → T → An) → An
  | 0, _, _, _, _ => .bad
  | n + 1, x0, x1, x2, k0 =>
    cond (decide (x1.int < (x2.rows.length : Int)))
    (cond (decide ((0 : Int) ≤ x1.int ∧ x1.int < (x2.rows.length : Int)))
    (cond (decide ((Int.toNat x1.int) < x2.rows.length))
    (cond (decide ((0 : Int) ≤ x1.int ∧ x1.int < ((x2.rows.set (Int.toNat x1.int) ((x2.rows.getD (Int.toNat x1.int) []).set 0 x0)).length : Int)))
    (cond (decide ((Int.toNat x1.int) < (x2.rows.set (Int.toNat x1.int) ((x2.rows.getD (Int.toNat x1.int) []).set 0 x0)).length))
    (cond (decide ((0 : Int) ≤ x1.int ∧ x1.int < (((x2.rows.set (Int.toNat x1.int) ((x2.rows.getD (Int.toNat x1.int) []).set 0 x0)).set (Int.toNat x1.int) (((x2.rows.set (Int.toNat x1.int) ((x2.rows.getD (Int.toNat x1.int) []).set 0 x0)).getD (Int.toNat x1.int) []).set 1 (T.i (IntKind.i64.wrap (x0.int + 1))))).length : Int)))
    (cond (decide ((Int.toNat x1.int) < ((x2.rows.set (Int.toNat x1.int) ((x2.rows.getD (Int.toNat x1.int) []).set 0 x0)).set (Int.toNat x1.int) (((x2.rows.set (Int.toNat x1.int) ((x2.rows.getD (Int.toNat x1.int) []).set 0 x0)).getD (Int.toNat x1.int) []).set 1 (T.i (IntKind.i64.wrap (x0.int + 1))))).length))
    (cond (decide ((Int.toNat x1.int) < ((x2.rows.set (Int.toNat x1.int) ((x2.rows.getD (Int.toNat x1.int) []).set 0 x0)).set (Int.toNat x1.int) (((x2.rows.set (Int.toNat x1.int) ((x2.rows.getD (Int.toNat x1.int) []).set 0 x0)).getD (Int.toNat x1.int) []).set 1 (T.i (IntKind.i64.wrap (x0.int + 1))))).length))
    (laws_markOpS m (T.l ((((x2.rows.set (Int.toNat x1.int) ((x2.rows.getD (Int.toNat x1.int) []).set 0 x0)).set (Int.toNat x1.int) (((x2.rows.set (Int.toNat x1.int) ((x2.rows.getD (Int.toNat x1.int) []).set 0 x0)).getD (Int.toNat x1.int) []).set 1 (T.i (IntKind.i64.wrap (x0.int + 1))))).getD (Int.toNat x1.int) []).tail.tail.headD dflt).rows) (T.i (IntKind.i64.wrap ((IntKind.i64.wrap (x0.int + 1)) + 1)))
    (fun y0 y1 => laws_markRecS_L0_0 m n y0 (T.i (IntKind.i64.wrap (x1.int + 1))) (T.l (((x2.rows.set (Int.toNat x1.int) ((x2.rows.getD (Int.toNat x1.int) []).set 0 x0)).set (Int.toNat x1.int) (((x2.rows.set (Int.toNat x1.int) ((x2.rows.getD (Int.toNat x1.int) []).set 0 x0)).getD (Int.toNat x1.int) []).set 1 (T.i (IntKind.i64.wrap (x0.int + 1))))).set (Int.toNat x1.int) [((((x2.rows.set (Int.toNat x1.int) ((x2.rows.getD (Int.toNat x1.int) []).set 0 x0)).set (Int.toNat x1.int) (((x2.rows.set (Int.toNat x1.int) ((x2.rows.getD (Int.toNat x1.int) []).set 0 x0)).getD (Int.toNat x1.int) []).set 1 (T.i (IntKind.i64.wrap (x0.int + 1))))).getD (Int.toNat x1.int) []).headD dflt), ((((x2.rows.set (Int.toNat x1.int) ((x2.rows.getD (Int.toNat x1.int) []).set 0 x0)).set (Int.toNat x1.int) (((x2.rows.set (Int.toNat x1.int) ((x2.rows.getD (Int.toNat x1.int) []).set 0 x0)).getD (Int.toNat x1.int) []).set 1 (T.i (IntKind.i64.wrap (x0.int + 1))))).getD (Int.toNat x1.int) []).tail.headD dflt), (T.l y1.rows)])) k0))
    (.bad))
    (.bad))
    (.bad))
    (.bad))
    (.bad))
    (.bad))
    (.bad))
    (k0 x0 (T.l x2.rows))
noncomputable def laws_markRecS_s0_0 : Pack := ⟨[(0, .one ⟨.al [0, 0] 0, .sl [.sc (.int .i64), .sc (.int .i64), .sl [.sc (.int .i64), .sc (.str), .sc (.str)]], .l []⟩), (1, .one ⟨.sc, .sc (.int .i64), .l []⟩), (5, .one ⟨.sc, .sc (.int .i64), .l []⟩)], [([0, 0], .row [.sc (.int .i64), .sc (.int .i64), .sl [.sc (.int .i64), .sc (.str), .sc (.str)]] [.F, .F, .O [.F, .F, .F]] [])]⟩
noncomputable def laws_markRecS_e0_0 : Pack := ⟨[(0, .one ⟨.al [0, 0] 0, .sl [.sc (.int .i64), .sc (.int .i64), .sl [.sc (.int .i64), .sc (.str), .sc (.str)]], .l []⟩), (1, .one ⟨.sc, .sc (.int .i64), .l []⟩)], [([0, 0], .row [.sc (.int .i64), .sc (.int .i64), .sl [.sc (.int .i64), .sc (.str), .sc (.str)]] [.F, .F, .O [.F, .F, .F]] [])]⟩
noncomputable def laws_markRecS_L0_0w (m n : Nat) (vs : List T) (k : Ctl → Pack → An) : An := laws_markRecS_L0_0 m n (vs.headD dflt) (vs.tail.headD dflt) (vs.tail.tail.headD dflt) (fun z0 z1 => k (.exit 0) (fPack laws_markRecS_e0_0 [z0, z1]))
noncomputable def laws_markRecS : Nat → T → T → (T → T → An) → An
  | 0, _, _, _ => .bad
  | m + 1, x0, x1, k0 =>
    laws_markRecS_L0_0 m m x1 (T.i 0) (T.l x0.rows)
    (fun y2 y3 => k0 y2 (T.l y3.rows))
noncomputable def laws_markRecS_a : List Arg := [.one (.own [.sc (.int .i64), .sc (.int .i64), .sl [.sc (.int .i64), .sc (.str), .sc (.str)]] [.F, .F, .O [.F, .F, .F]] []), .one (.sc (.int .i64) (.l []))]
noncomputable def laws_markRecS_w (m : Nat) (vs : List T) (k : Ret → An) : An := laws_markRecS m (vs.headD dflt) (vs.tail.headD dflt) (fun z0 z1 => k ⟨[.one (.sc (.int .i64) z0)], [[some ([.sc (.int .i64), .sc (.int .i64), .sl [.sc (.int .i64), .sc (.str), .sc (.str)]], [.F, .F, .O [.F, .F, .F]], z1.rows)], [none]], [none, none]⟩)
theorem laws_markRecS_cf (m : Nat) : callK CX prims m = (patC 61 laws_markOpS_a (laws_markOpS_w m) (callK CX prims m)) := by
  rw [← patC_eq (fun vs k => laws_markOpS_eq m vs k)]
noncomputable def laws_markRecS_c : Code := (Try.f60.body).getD .skip
noncomputable def laws_markRecS_fi : Fi := ⟨60, 2, 34, 17⟩
theorem laws_markRecS_lf (m : Nat) : ∀ n, (∀ vs k, loopK CX (callK CX prims m) laws_markRecS_fi laws_markRecS_c n [0, 1, 0, 1] (fPack laws_markRecS_s0_0 vs) k = laws_markRecS_L0_0w m n vs k) ∧ ((loopK CX (callK CX prims m) laws_markRecS_fi laws_markRecS_c n) = (patL [0, 1, 0, 1] laws_markRecS_s0_0 (laws_markRecS_L0_0w m n) (loopK CX (callK CX prims m) laws_markRecS_fi laws_markRecS_c n))) := by
  intro n
  have hl : ∀ n, (∀ vs k, loopK CX (callK CX prims m) laws_markRecS_fi laws_markRecS_c n [0, 1, 0, 1] (fPack laws_markRecS_s0_0 vs) k = laws_markRecS_L0_0w m n vs k) → ((loopK CX (callK CX prims m) laws_markRecS_fi laws_markRecS_c n) = (patL [0, 1, 0, 1] laws_markRecS_s0_0 (laws_markRecS_L0_0w m n) (loopK CX (callK CX prims m) laws_markRecS_fi laws_markRecS_c n))) := by
    intro n h0
    rw [← patL_eq h0]
  induction n with
  | zero => exact ⟨fun vs k => rfl, hl 0 (fun vs k => rfl)⟩
  | succ n ihn =>
    have hn := ihn.2
    have h0 : ∀ vs k, loopK CX (callK CX prims m) laws_markRecS_fi laws_markRecS_c (n + 1) [0, 1, 0, 1] (fPack laws_markRecS_s0_0 vs) k = laws_markRecS_L0_0w m (n + 1) vs k := fun vs k =>
      (stepL_congr (laws_markRecS_cf m) hn [0, 1, 0, 1] _ _).trans (by kernel_rfl)
    exact ⟨h0, hl (n + 1) h0⟩
theorem laws_markRecS_eq (m : Nat) : ∀ vs k, callK CX prims m 60 (fArgs laws_markRecS_a vs) k = laws_markRecS_w m vs k := by
  cases m with
  | zero => exact fun vs k => rfl
  | succ m => exact fun vs k => Eq.trans (b := bodyK CX (callK CX prims m) (loopK CX (callK CX prims m) laws_markRecS_fi laws_markRecS_c m) 60 Try.f60 laws_markRecS_c (fArgs laws_markRecS_a vs) k) (by kernel_rfl) ((bodyK_congr (laws_markRecS_cf m) ((laws_markRecS_lf m m).2) 60 Try.f60 laws_markRecS_c (fArgs laws_markRecS_a vs) k).trans (by kernel_rfl))

/-! loop.example/g00244/laws.markPairS -/
noncomputable def laws_markPairS_L0_0 (m : Nat) : Nat → T → T → T → (T → T → An) → An
  | 0, _, _, _, _ => .bad
  | n + 1, x0, x1, x2, k0 =>
    cond (decide (x1.int < (x2.rows.length : Int)))
    (laws_markText m x0
    (fun y0 => cond (decide ((0 : Int) ≤ x1.int ∧ x1.int < (x2.rows.length : Int)))
    (cond (decide ((Int.toNat x1.int) < x2.rows.length))
    (laws_markText m (T.i (IntKind.i64.wrap (x0.int + 1)))
    (fun y1 => cond (decide ((0 : Int) ≤ x1.int ∧ x1.int < ((x2.rows.set (Int.toNat x1.int) ((x2.rows.getD (Int.toNat x1.int) []).set 0 y0)).length : Int)))
    (cond (decide ((Int.toNat x1.int) < (x2.rows.set (Int.toNat x1.int) ((x2.rows.getD (Int.toNat x1.int) []).set 0 y0)).length))
    (laws_markPairS_L0_0 m n (T.i (IntKind.i64.wrap ((IntKind.i64.wrap (x0.int + 1)) + 1))) (T.i (IntKind.i64.wrap (x1.int + 1))) (T.l ((x2.rows.set (Int.toNat x1.int) ((x2.rows.getD (Int.toNat x1.int) []).set 0 y0)).set (Int.toNat x1.int) (((x2.rows.set (Int.toNat x1.int) ((x2.rows.getD (Int.toNat x1.int) []).set 0 y0)).getD (Int.toNat x1.int) []).set 1 y1))) k0)
    (.bad))
    (.bad)))
    (.bad))
    (.bad)))
    (k0 x0 (T.l x2.rows))
noncomputable def laws_markPairS_s0_0 : Pack := ⟨[(0, .one ⟨.al [0, 0] 0, .sl [.sc (.str), .sc (.str)], .l []⟩), (1, .one ⟨.sc, .sc (.int .i64), .l []⟩), (5, .one ⟨.sc, .sc (.int .i64), .l []⟩)], [([0, 0], .row [.sc (.str), .sc (.str)] [.F, .F] [])]⟩
noncomputable def laws_markPairS_e0_0 : Pack := ⟨[(0, .one ⟨.al [0, 0] 0, .sl [.sc (.str), .sc (.str)], .l []⟩), (1, .one ⟨.sc, .sc (.int .i64), .l []⟩)], [([0, 0], .row [.sc (.str), .sc (.str)] [.F, .F] [])]⟩
noncomputable def laws_markPairS_L0_0w (m n : Nat) (vs : List T) (k : Ctl → Pack → An) : An := laws_markPairS_L0_0 m n (vs.headD dflt) (vs.tail.headD dflt) (vs.tail.tail.headD dflt) (fun z0 z1 => k (.exit 0) (fPack laws_markPairS_e0_0 [z0, z1]))
noncomputable def laws_markPairS : Nat → T → T → (T → T → An) → An
  | 0, _, _, _ => .bad
  | m + 1, x0, x1, k0 =>
    laws_markPairS_L0_0 m m x1 (T.i 0) (T.l x0.rows)
    (fun y2 y3 => k0 y2 (T.l y3.rows))
noncomputable def laws_markPairS_a : List Arg := [.one (.own [.sc (.str), .sc (.str)] [.F, .F] []), .one (.sc (.int .i64) (.l []))]
noncomputable def laws_markPairS_w (m : Nat) (vs : List T) (k : Ret → An) : An := laws_markPairS m (vs.headD dflt) (vs.tail.headD dflt) (fun z0 z1 => k ⟨[.one (.sc (.int .i64) z0)], [[some ([.sc (.str), .sc (.str)], [.F, .F], z1.rows)], [none]], [none, none]⟩)
theorem laws_markPairS_cf (m : Nat) : callK CX prims m = (patC 38 laws_markText_a (laws_markText_w m) (callK CX prims m)) := by
  rw [← patC_eq (fun vs k => laws_markText_eq m vs k)]
noncomputable def laws_markPairS_c : Code := (Try.f12.body).getD .skip
noncomputable def laws_markPairS_fi : Fi := ⟨12, 2, 29, 17⟩
theorem laws_markPairS_lf (m : Nat) : ∀ n, (∀ vs k, loopK CX (callK CX prims m) laws_markPairS_fi laws_markPairS_c n [0, 1, 0, 1] (fPack laws_markPairS_s0_0 vs) k = laws_markPairS_L0_0w m n vs k) ∧ ((loopK CX (callK CX prims m) laws_markPairS_fi laws_markPairS_c n) = (patL [0, 1, 0, 1] laws_markPairS_s0_0 (laws_markPairS_L0_0w m n) (loopK CX (callK CX prims m) laws_markPairS_fi laws_markPairS_c n))) := by
  intro n
  have hl : ∀ n, (∀ vs k, loopK CX (callK CX prims m) laws_markPairS_fi laws_markPairS_c n [0, 1, 0, 1] (fPack laws_markPairS_s0_0 vs) k = laws_markPairS_L0_0w m n vs k) → ((loopK CX (callK CX prims m) laws_markPairS_fi laws_markPairS_c n) = (patL [0, 1, 0, 1] laws_markPairS_s0_0 (laws_markPairS_L0_0w m n) (loopK CX (callK CX prims m) laws_markPairS_fi laws_markPairS_c n))) := by
    intro n h0
    rw [← patL_eq h0]
  induction n with
  | zero => exact ⟨fun vs k => rfl, hl 0 (fun vs k => rfl)⟩
  | succ n ihn =>
    have hn := ihn.2
    have h0 : ∀ vs k, loopK CX (callK CX prims m) laws_markPairS_fi laws_markPairS_c (n + 1) [0, 1, 0, 1] (fPack laws_markPairS_s0_0 vs) k = laws_markPairS_L0_0w m (n + 1) vs k := fun vs k =>
      (stepL_congr (laws_markPairS_cf m) hn [0, 1, 0, 1] _ _).trans (by kernel_rfl)
    exact ⟨h0, hl (n + 1) h0⟩
theorem laws_markPairS_eq (m : Nat) : ∀ vs k, callK CX prims m 12 (fArgs laws_markPairS_a vs) k = laws_markPairS_w m vs k := by
  cases m with
  | zero => exact fun vs k => rfl
  | succ m => exact fun vs k => Eq.trans (b := bodyK CX (callK CX prims m) (loopK CX (callK CX prims m) laws_markPairS_fi laws_markPairS_c m) 12 Try.f12 laws_markPairS_c (fArgs laws_markPairS_a vs) k) (by kernel_rfl) ((bodyK_congr (laws_markPairS_cf m) ((laws_markPairS_lf m m).2) 12 Try.f12 laws_markPairS_c (fArgs laws_markPairS_a vs) k).trans (by kernel_rfl))

/-! loop.example/g00244/laws.markShardS -/
noncomputable def laws_markShardS_L0_0 (m : Nat) : Nat → T → T → T → (T → T → An) → An
  | 0, _, _, _, _ => .bad
  | n + 1, x0, x1, x2, k0 =>
    cond (decide (x1.int < (x2.rows.length : Int)))
    (cond (decide ((0 : Int) ≤ x1.int ∧ x1.int < (x2.rows.length : Int)))
    (cond (decide ((Int.toNat x1.int) < x2.rows.length))
    (cond (decide ((0 : Int) ≤ x1.int ∧ x1.int < ((x2.rows.set (Int.toNat x1.int) ((x2.rows.getD (Int.toNat x1.int) []).set 0 x0)).length : Int)))
    (cond (decide ((Int.toNat x1.int) < (x2.rows.set (Int.toNat x1.int) ((x2.rows.getD (Int.toNat x1.int) []).set 0 x0)).length))
    (cond (decide ((Int.toNat x1.int) < (x2.rows.set (Int.toNat x1.int) ((x2.rows.getD (Int.toNat x1.int) []).set 0 x0)).length))
    (laws_markRecS m (T.l (((x2.rows.set (Int.toNat x1.int) ((x2.rows.getD (Int.toNat x1.int) []).set 0 x0)).getD (Int.toNat x1.int) []).tail.headD dflt).rows) (T.i (IntKind.i64.wrap (x0.int + 1)))
    (fun y0 y1 => cond (decide ((0 : Int) ≤ x1.int ∧ x1.int < (((x2.rows.set (Int.toNat x1.int) ((x2.rows.getD (Int.toNat x1.int) []).set 0 x0)).set (Int.toNat x1.int) [(((x2.rows.set (Int.toNat x1.int) ((x2.rows.getD (Int.toNat x1.int) []).set 0 x0)).getD (Int.toNat x1.int) []).headD dflt), (T.l y1.rows), (((x2.rows.set (Int.toNat x1.int) ((x2.rows.getD (Int.toNat x1.int) []).set 0 x0)).getD (Int.toNat x1.int) []).tail.tail.headD dflt), (T.l (((x2.rows.set (Int.toNat x1.int) ((x2.rows.getD (Int.toNat x1.int) []).set 0 x0)).getD (Int.toNat x1.int) []).tail.tail.tail.headD dflt).rows), (T.l (((x2.rows.set (Int.toNat x1.int) ((x2.rows.getD (Int.toNat x1.int) []).set 0 x0)).getD (Int.toNat x1.int) []).tail.tail.tail.tail.headD dflt).rows)]).length : Int)))
    (cond (decide ((Int.toNat x1.int) < ((x2.rows.set (Int.toNat x1.int) ((x2.rows.getD (Int.toNat x1.int) []).set 0 x0)).set (Int.toNat x1.int) [(((x2.rows.set (Int.toNat x1.int) ((x2.rows.getD (Int.toNat x1.int) []).set 0 x0)).getD (Int.toNat x1.int) []).headD dflt), (T.l y1.rows), (((x2.rows.set (Int.toNat x1.int) ((x2.rows.getD (Int.toNat x1.int) []).set 0 x0)).getD (Int.toNat x1.int) []).tail.tail.headD dflt), (T.l (((x2.rows.set (Int.toNat x1.int) ((x2.rows.getD (Int.toNat x1.int) []).set 0 x0)).getD (Int.toNat x1.int) []).tail.tail.tail.headD dflt).rows), (T.l (((x2.rows.set (Int.toNat x1.int) ((x2.rows.getD (Int.toNat x1.int) []).set 0 x0)).getD (Int.toNat x1.int) []).tail.tail.tail.tail.headD dflt).rows)]).length))
    (cond (decide ((0 : Int) ≤ x1.int ∧ x1.int < ((((x2.rows.set (Int.toNat x1.int) ((x2.rows.getD (Int.toNat x1.int) []).set 0 x0)).set (Int.toNat x1.int) [(((x2.rows.set (Int.toNat x1.int) ((x2.rows.getD (Int.toNat x1.int) []).set 0 x0)).getD (Int.toNat x1.int) []).headD dflt), (T.l y1.rows), (((x2.rows.set (Int.toNat x1.int) ((x2.rows.getD (Int.toNat x1.int) []).set 0 x0)).getD (Int.toNat x1.int) []).tail.tail.headD dflt), (T.l (((x2.rows.set (Int.toNat x1.int) ((x2.rows.getD (Int.toNat x1.int) []).set 0 x0)).getD (Int.toNat x1.int) []).tail.tail.tail.headD dflt).rows), (T.l (((x2.rows.set (Int.toNat x1.int) ((x2.rows.getD (Int.toNat x1.int) []).set 0 x0)).getD (Int.toNat x1.int) []).tail.tail.tail.tail.headD dflt).rows)]).set (Int.toNat x1.int) ((((x2.rows.set (Int.toNat x1.int) ((x2.rows.getD (Int.toNat x1.int) []).set 0 x0)).set (Int.toNat x1.int) [(((x2.rows.set (Int.toNat x1.int) ((x2.rows.getD (Int.toNat x1.int) []).set 0 x0)).getD (Int.toNat x1.int) []).headD dflt), (T.l y1.rows), (((x2.rows.set (Int.toNat x1.int) ((x2.rows.getD (Int.toNat x1.int) []).set 0 x0)).getD (Int.toNat x1.int) []).tail.tail.headD dflt), (T.l (((x2.rows.set (Int.toNat x1.int) ((x2.rows.getD (Int.toNat x1.int) []).set 0 x0)).getD (Int.toNat x1.int) []).tail.tail.tail.headD dflt).rows), (T.l (((x2.rows.set (Int.toNat x1.int) ((x2.rows.getD (Int.toNat x1.int) []).set 0 x0)).getD (Int.toNat x1.int) []).tail.tail.tail.tail.headD dflt).rows)]).getD (Int.toNat x1.int) []).set 2 y0)).length : Int)))
    (cond (decide ((Int.toNat x1.int) < (((x2.rows.set (Int.toNat x1.int) ((x2.rows.getD (Int.toNat x1.int) []).set 0 x0)).set (Int.toNat x1.int) [(((x2.rows.set (Int.toNat x1.int) ((x2.rows.getD (Int.toNat x1.int) []).set 0 x0)).getD (Int.toNat x1.int) []).headD dflt), (T.l y1.rows), (((x2.rows.set (Int.toNat x1.int) ((x2.rows.getD (Int.toNat x1.int) []).set 0 x0)).getD (Int.toNat x1.int) []).tail.tail.headD dflt), (T.l (((x2.rows.set (Int.toNat x1.int) ((x2.rows.getD (Int.toNat x1.int) []).set 0 x0)).getD (Int.toNat x1.int) []).tail.tail.tail.headD dflt).rows), (T.l (((x2.rows.set (Int.toNat x1.int) ((x2.rows.getD (Int.toNat x1.int) []).set 0 x0)).getD (Int.toNat x1.int) []).tail.tail.tail.tail.headD dflt).rows)]).set (Int.toNat x1.int) ((((x2.rows.set (Int.toNat x1.int) ((x2.rows.getD (Int.toNat x1.int) []).set 0 x0)).set (Int.toNat x1.int) [(((x2.rows.set (Int.toNat x1.int) ((x2.rows.getD (Int.toNat x1.int) []).set 0 x0)).getD (Int.toNat x1.int) []).headD dflt), (T.l y1.rows), (((x2.rows.set (Int.toNat x1.int) ((x2.rows.getD (Int.toNat x1.int) []).set 0 x0)).getD (Int.toNat x1.int) []).tail.tail.headD dflt), (T.l (((x2.rows.set (Int.toNat x1.int) ((x2.rows.getD (Int.toNat x1.int) []).set 0 x0)).getD (Int.toNat x1.int) []).tail.tail.tail.headD dflt).rows), (T.l (((x2.rows.set (Int.toNat x1.int) ((x2.rows.getD (Int.toNat x1.int) []).set 0 x0)).getD (Int.toNat x1.int) []).tail.tail.tail.tail.headD dflt).rows)]).getD (Int.toNat x1.int) []).set 2 y0)).length))
    (cond (decide ((Int.toNat x1.int) < (((x2.rows.set (Int.toNat x1.int) ((x2.rows.getD (Int.toNat x1.int) []).set 0 x0)).set (Int.toNat x1.int) [(((x2.rows.set (Int.toNat x1.int) ((x2.rows.getD (Int.toNat x1.int) []).set 0 x0)).getD (Int.toNat x1.int) []).headD dflt), (T.l y1.rows), (((x2.rows.set (Int.toNat x1.int) ((x2.rows.getD (Int.toNat x1.int) []).set 0 x0)).getD (Int.toNat x1.int) []).tail.tail.headD dflt), (T.l (((x2.rows.set (Int.toNat x1.int) ((x2.rows.getD (Int.toNat x1.int) []).set 0 x0)).getD (Int.toNat x1.int) []).tail.tail.tail.headD dflt).rows), (T.l (((x2.rows.set (Int.toNat x1.int) ((x2.rows.getD (Int.toNat x1.int) []).set 0 x0)).getD (Int.toNat x1.int) []).tail.tail.tail.tail.headD dflt).rows)]).set (Int.toNat x1.int) ((((x2.rows.set (Int.toNat x1.int) ((x2.rows.getD (Int.toNat x1.int) []).set 0 x0)).set (Int.toNat x1.int) [(((x2.rows.set (Int.toNat x1.int) ((x2.rows.getD (Int.toNat x1.int) []).set 0 x0)).getD (Int.toNat x1.int) []).headD dflt), (T.l y1.rows), (((x2.rows.set (Int.toNat x1.int) ((x2.rows.getD (Int.toNat x1.int) []).set 0 x0)).getD (Int.toNat x1.int) []).tail.tail.headD dflt), (T.l (((x2.rows.set (Int.toNat x1.int) ((x2.rows.getD (Int.toNat x1.int) []).set 0 x0)).getD (Int.toNat x1.int) []).tail.tail.tail.headD dflt).rows), (T.l (((x2.rows.set (Int.toNat x1.int) ((x2.rows.getD (Int.toNat x1.int) []).set 0 x0)).getD (Int.toNat x1.int) []).tail.tail.tail.tail.headD dflt).rows)]).getD (Int.toNat x1.int) []).set 2 y0)).length))
    (laws_markPairS m (T.l (((((x2.rows.set (Int.toNat x1.int) ((x2.rows.getD (Int.toNat x1.int) []).set 0 x0)).set (Int.toNat x1.int) [(((x2.rows.set (Int.toNat x1.int) ((x2.rows.getD (Int.toNat x1.int) []).set 0 x0)).getD (Int.toNat x1.int) []).headD dflt), (T.l y1.rows), (((x2.rows.set (Int.toNat x1.int) ((x2.rows.getD (Int.toNat x1.int) []).set 0 x0)).getD (Int.toNat x1.int) []).tail.tail.headD dflt), (T.l (((x2.rows.set (Int.toNat x1.int) ((x2.rows.getD (Int.toNat x1.int) []).set 0 x0)).getD (Int.toNat x1.int) []).tail.tail.tail.headD dflt).rows), (T.l (((x2.rows.set (Int.toNat x1.int) ((x2.rows.getD (Int.toNat x1.int) []).set 0 x0)).getD (Int.toNat x1.int) []).tail.tail.tail.tail.headD dflt).rows)]).set (Int.toNat x1.int) ((((x2.rows.set (Int.toNat x1.int) ((x2.rows.getD (Int.toNat x1.int) []).set 0 x0)).set (Int.toNat x1.int) [(((x2.rows.set (Int.toNat x1.int) ((x2.rows.getD (Int.toNat x1.int) []).set 0 x0)).getD (Int.toNat x1.int) []).headD dflt), (T.l y1.rows), (((x2.rows.set (Int.toNat x1.int) ((x2.rows.getD (Int.toNat x1.int) []).set 0 x0)).getD (Int.toNat x1.int) []).tail.tail.headD dflt), (T.l (((x2.rows.set (Int.toNat x1.int) ((x2.rows.getD (Int.toNat x1.int) []).set 0 x0)).getD (Int.toNat x1.int) []).tail.tail.tail.headD dflt).rows), (T.l (((x2.rows.set (Int.toNat x1.int) ((x2.rows.getD (Int.toNat x1.int) []).set 0 x0)).getD (Int.toNat x1.int) []).tail.tail.tail.tail.headD dflt).rows)]).getD (Int.toNat x1.int) []).set 2 y0)).getD (Int.toNat x1.int) []).tail.tail.tail.headD dflt).rows) (T.i (IntKind.i64.wrap (y0.int + 1)))
    (fun y2 y3 => cond (decide ((0 : Int) ≤ x1.int ∧ x1.int < (((((x2.rows.set (Int.toNat x1.int) ((x2.rows.getD (Int.toNat x1.int) []).set 0 x0)).set (Int.toNat x1.int) [(((x2.rows.set (Int.toNat x1.int) ((x2.rows.getD (Int.toNat x1.int) []).set 0 x0)).getD (Int.toNat x1.int) []).headD dflt), (T.l y1.rows), (((x2.rows.set (Int.toNat x1.int) ((x2.rows.getD (Int.toNat x1.int) []).set 0 x0)).getD (Int.toNat x1.int) []).tail.tail.headD dflt), (T.l (((x2.rows.set (Int.toNat x1.int) ((x2.rows.getD (Int.toNat x1.int) []).set 0 x0)).getD (Int.toNat x1.int) []).tail.tail.tail.headD dflt).rows), (T.l (((x2.rows.set (Int.toNat x1.int) ((x2.rows.getD (Int.toNat x1.int) []).set 0 x0)).getD (Int.toNat x1.int) []).tail.tail.tail.tail.headD dflt).rows)]).set (Int.toNat x1.int) ((((x2.rows.set (Int.toNat x1.int) ((x2.rows.getD (Int.toNat x1.int) []).set 0 x0)).set (Int.toNat x1.int) [(((x2.rows.set (Int.toNat x1.int) ((x2.rows.getD (Int.toNat x1.int) []).set 0 x0)).getD (Int.toNat x1.int) []).headD dflt), (T.l y1.rows), (((x2.rows.set (Int.toNat x1.int) ((x2.rows.getD (Int.toNat x1.int) []).set 0 x0)).getD (Int.toNat x1.int) []).tail.tail.headD dflt), (T.l (((x2.rows.set (Int.toNat x1.int) ((x2.rows.getD (Int.toNat x1.int) []).set 0 x0)).getD (Int.toNat x1.int) []).tail.tail.tail.headD dflt).rows), (T.l (((x2.rows.set (Int.toNat x1.int) ((x2.rows.getD (Int.toNat x1.int) []).set 0 x0)).getD (Int.toNat x1.int) []).tail.tail.tail.tail.headD dflt).rows)]).getD (Int.toNat x1.int) []).set 2 y0)).set (Int.toNat x1.int) [(((((x2.rows.set (Int.toNat x1.int) ((x2.rows.getD (Int.toNat x1.int) []).set 0 x0)).set (Int.toNat x1.int) [(((x2.rows.set (Int.toNat x1.int) ((x2.rows.getD (Int.toNat x1.int) []).set 0 x0)).getD (Int.toNat x1.int) []).headD dflt), (T.l y1.rows), (((x2.rows.set (Int.toNat x1.int) ((x2.rows.getD (Int.toNat x1.int) []).set 0 x0)).getD (Int.toNat x1.int) []).tail.tail.headD dflt), (T.l (((x2.rows.set (Int.toNat x1.int) ((x2.rows.getD (Int.toNat x1.int) []).set 0 x0)).getD (Int.toNat x1.int) []).tail.tail.tail.headD dflt).rows), (T.l (((x2.rows.set (Int.toNat x1.int) ((x2.rows.getD (Int.toNat x1.int) []).set 0 x0)).getD (Int.toNat x1.int) []).tail.tail.tail.tail.headD dflt).rows)]).set (Int.toNat x1.int) ((((x2.rows.set (Int.toNat x1.int) ((x2.rows.getD (Int.toNat x1.int) []).set 0 x0)).set (Int.toNat x1.int) [(((x2.rows.set (Int.toNat x1.int) ((x2.rows.getD (Int.toNat x1.int) []).set 0 x0)).getD (Int.toNat x1.int) []).headD dflt), (T.l y1.rows), (((x2.rows.set (Int.toNat x1.int) ((x2.rows.getD (Int.toNat x1.int) []).set 0 x0)).getD (Int.toNat x1.int) []).tail.tail.headD dflt), (T.l (((x2.rows.set (Int.toNat x1.int) ((x2.rows.getD (Int.toNat x1.int) []).set 0 x0)).getD (Int.toNat x1.int) []).tail.tail.tail.headD dflt).rows), (T.l (((x2.rows.set (Int.toNat x1.int) ((x2.rows.getD (Int.toNat x1.int) []).set 0 x0)).getD (Int.toNat x1.int) []).tail.tail.tail.tail.headD dflt).rows)]).getD (Int.toNat x1.int) []).set 2 y0)).getD (Int.toNat x1.int) []).headD dflt), (T.l (((((x2.rows.set (Int.toNat x1.int) ((x2.rows.getD (Int.toNat x1.int) []).set 0 x0)).set (Int.toNat x1.int) [(((x2.rows.set (Int.toNat x1.int) ((x2.rows.getD (Int.toNat x1.int) []).set 0 x0)).getD (Int.toNat x1.int) []).headD dflt), (T.l y1.rows), (((x2.rows.set (Int.toNat x1.int) ((x2.rows.getD (Int.toNat x1.int) []).set 0 x0)).getD (Int.toNat x1.int) []).tail.tail.headD dflt), (T.l (((x2.rows.set (Int.toNat x1.int) ((x2.rows.getD (Int.toNat x1.int) []).set 0 x0)).getD (Int.toNat x1.int) []).tail.tail.tail.headD dflt).rows), (T.l (((x2.rows.set (Int.toNat x1.int) ((x2.rows.getD (Int.toNat x1.int) []).set 0 x0)).getD (Int.toNat x1.int) []).tail.tail.tail.tail.headD dflt).rows)]).set (Int.toNat x1.int) ((((x2.rows.set (Int.toNat x1.int) ((x2.rows.getD (Int.toNat x1.int) []).set 0 x0)).set (Int.toNat x1.int) [(((x2.rows.set (Int.toNat x1.int) ((x2.rows.getD (Int.toNat x1.int) []).set 0 x0)).getD (Int.toNat x1.int) []).headD dflt), (T.l y1.rows), (((x2.rows.set (Int.toNat x1.int) ((x2.rows.getD (Int.toNat x1.int) []).set 0 x0)).getD (Int.toNat x1.int) []).tail.tail.headD dflt), (T.l (((x2.rows.set (Int.toNat x1.int) ((x2.rows.getD (Int.toNat x1.int) []).set 0 x0)).getD (Int.toNat x1.int) []).tail.tail.tail.headD dflt).rows), (T.l (((x2.rows.set (Int.toNat x1.int) ((x2.rows.getD (Int.toNat x1.int) []).set 0 x0)).getD (Int.toNat x1.int) []).tail.tail.tail.tail.headD dflt).rows)]).getD (Int.toNat x1.int) []).set 2 y0)).getD (Int.toNat x1.int) []).tail.headD dflt).rows), (((((x2.rows.set (Int.toNat x1.int) ((x2.rows.getD (Int.toNat x1.int) []).set 0 x0)).set (Int.toNat x1.int) [(((x2.rows.set (Int.toNat x1.int) ((x2.rows.getD (Int.toNat x1.int) []).set 0 x0)).getD (Int.toNat x1.int) []).headD dflt), (T.l y1.rows), (((x2.rows.set (Int.toNat x1.int) ((x2.rows.getD (Int.toNat x1.int) []).set 0 x0)).getD (Int.toNat x1.int) []).tail.tail.headD dflt), (T.l (((x2.rows.set (Int.toNat x1.int) ((x2.rows.getD (Int.toNat x1.int) []).set 0 x0)).getD (Int.toNat x1.int) []).tail.tail.tail.headD dflt).rows), (T.l (((x2.rows.set (Int.toNat x1.int) ((x2.rows.getD (Int.toNat x1.int) []).set 0 x0)).getD (Int.toNat x1.int) []).tail.tail.tail.tail.headD dflt).rows)]).set (Int.toNat x1.int) ((((x2.rows.set (Int.toNat x1.int) ((x2.rows.getD (Int.toNat x1.int) []).set 0 x0)).set (Int.toNat x1.int) [(((x2.rows.set (Int.toNat x1.int) ((x2.rows.getD (Int.toNat x1.int) []).set 0 x0)).getD (Int.toNat x1.int) []).headD dflt), (T.l y1.rows), (((x2.rows.set (Int.toNat x1.int) ((x2.rows.getD (Int.toNat x1.int) []).set 0 x0)).getD (Int.toNat x1.int) []).tail.tail.headD dflt), (T.l (((x2.rows.set (Int.toNat x1.int) ((x2.rows.getD (Int.toNat x1.int) []).set 0 x0)).getD (Int.toNat x1.int) []).tail.tail.tail.headD dflt).rows), (T.l (((x2.rows.set (Int.toNat x1.int) ((x2.rows.getD (Int.toNat x1.int) []).set 0 x0)).getD (Int.toNat x1.int) []).tail.tail.tail.tail.headD dflt).rows)]).getD (Int.toNat x1.int) []).set 2 y0)).getD (Int.toNat x1.int) []).tail.tail.headD dflt), (T.l y3.rows), (T.l (((((x2.rows.set (Int.toNat x1.int) ((x2.rows.getD (Int.toNat x1.int) []).set 0 x0)).set (Int.toNat x1.int) [(((x2.rows.set (Int.toNat x1.int) ((x2.rows.getD (Int.toNat x1.int) []).set 0 x0)).getD (Int.toNat x1.int) []).headD dflt), (T.l y1.rows), (((x2.rows.set (Int.toNat x1.int) ((x2.rows.getD (Int.toNat x1.int) []).set 0 x0)).getD (Int.toNat x1.int) []).tail.tail.headD dflt), (T.l (((x2.rows.set (Int.toNat x1.int) ((x2.rows.getD (Int.toNat x1.int) []).set 0 x0)).getD (Int.toNat x1.int) []).tail.tail.tail.headD dflt).rows), (T.l (((x2.rows.set (Int.toNat x1.int) ((x2.rows.getD (Int.toNat x1.int) []).set 0 x0)).getD (Int.toNat x1.int) []).tail.tail.tail.tail.headD dflt).rows)]).set (Int.toNat x1.int) ((((x2.rows.set (Int.toNat x1.int) ((x2.rows.getD (Int.toNat x1.int) []).set 0 x0)).set (Int.toNat x1.int) [(((x2.rows.set (Int.toNat x1.int) ((x2.rows.getD (Int.toNat x1.int) []).set 0 x0)).getD (Int.toNat x1.int) []).headD dflt), (T.l y1.rows), (((x2.rows.set (Int.toNat x1.int) ((x2.rows.getD (Int.toNat x1.int) []).set 0 x0)).getD (Int.toNat x1.int) []).tail.tail.headD dflt), (T.l (((x2.rows.set (Int.toNat x1.int) ((x2.rows.getD (Int.toNat x1.int) []).set 0 x0)).getD (Int.toNat x1.int) []).tail.tail.tail.headD dflt).rows), (T.l (((x2.rows.set (Int.toNat x1.int) ((x2.rows.getD (Int.toNat x1.int) []).set 0 x0)).getD (Int.toNat x1.int) []).tail.tail.tail.tail.headD dflt).rows)]).getD (Int.toNat x1.int) []).set 2 y0)).getD (Int.toNat x1.int) []).tail.tail.tail.tail.headD dflt).rows)]).length : Int)))
    (cond (decide ((Int.toNat x1.int) < ((((x2.rows.set (Int.toNat x1.int) ((x2.rows.getD (Int.toNat x1.int) []).set 0 x0)).set (Int.toNat x1.int) [(((x2.rows.set (Int.toNat x1.int) ((x2.rows.getD (Int.toNat x1.int) []).set 0 x0)).getD (Int.toNat x1.int) []).headD dflt), (T.l y1.rows), (((x2.rows.set (Int.toNat x1.int) ((x2.rows.getD (Int.toNat x1.int) []).set 0 x0)).getD (Int.toNat x1.int) []).tail.tail.headD dflt), (T.l (((x2.rows.set (Int.toNat x1.int) ((x2.rows.getD (Int.toNat x1.int) []).set 0 x0)).getD (Int.toNat x1.int) []).tail.tail.tail.headD dflt).rows), (T.l (((x2.rows.set (Int.toNat x1.int) ((x2.rows.getD (Int.toNat x1.int) []).set 0 x0)).getD (Int.toNat x1.int) []).tail.tail.tail.tail.headD dflt).rows)]).set (Int.toNat x1.int) ((((x2.rows.set (Int.toNat x1.int) ((x2.rows.getD (Int.toNat x1.int) []).set 0 x0)).set (Int.toNat x1.int) [(((x2.rows.set (Int.toNat x1.int) ((x2.rows.getD (Int.toNat x1.int) []).set 0 x0)).getD (Int.toNat x1.int) []).headD dflt), (T.l y1.rows), (((x2.rows.set (Int.toNat x1.int) ((x2.rows.getD (Int.toNat x1.int) []).set 0 x0)).getD (Int.toNat x1.int) []).tail.tail.headD dflt), (T.l (((x2.rows.set (Int.toNat x1.int) ((x2.rows.getD (Int.toNat x1.int) []).set 0 x0)).getD (Int.toNat x1.int) []).tail.tail.tail.headD dflt).rows), (T.l (((x2.rows.set (Int.toNat x1.int) ((x2.rows.getD (Int.toNat x1.int) []).set 0 x0)).getD (Int.toNat x1.int) []).tail.tail.tail.tail.headD dflt).rows)]).getD (Int.toNat x1.int) []).set 2 y0)).set (Int.toNat x1.int) [(((((x2.rows.set (Int.toNat x1.int) ((x2.rows.getD (Int.toNat x1.int) []).set 0 x0)).set (Int.toNat x1.int) [(((x2.rows.set (Int.toNat x1.int) ((x2.rows.getD (Int.toNat x1.int) []).set 0 x0)).getD (Int.toNat x1.int) []).headD dflt), (T.l y1.rows), (((x2.rows.set (Int.toNat x1.int) ((x2.rows.getD (Int.toNat x1.int) []).set 0 x0)).getD (Int.toNat x1.int) []).tail.tail.headD dflt), (T.l (((x2.rows.set (Int.toNat x1.int) ((x2.rows.getD (Int.toNat x1.int) []).set 0 x0)).getD (Int.toNat x1.int) []).tail.tail.tail.headD dflt).rows), (T.l (((x2.rows.set (Int.toNat x1.int) ((x2.rows.getD (Int.toNat x1.int) []).set 0 x0)).getD (Int.toNat x1.int) []).tail.tail.tail.tail.headD dflt).rows)]).set (Int.toNat x1.int) ((((x2.rows.set (Int.toNat x1.int) ((x2.rows.getD (Int.toNat x1.int) []).set 0 x0)).set (Int.toNat x1.int) [(((x2.rows.set (Int.toNat x1.int) ((x2.rows.getD (Int.toNat x1.int) []).set 0 x0)).getD (Int.toNat x1.int) []).headD dflt), (T.l y1.rows), (((x2.rows.set (Int.toNat x1.int) ((x2.rows.getD (Int.toNat x1.int) []).set 0 x0)).getD (Int.toNat x1.int) []).tail.tail.headD dflt), (T.l (((x2.rows.set (Int.toNat x1.int) ((x2.rows.getD (Int.toNat x1.int) []).set 0 x0)).getD (Int.toNat x1.int) []).tail.tail.tail.headD dflt).rows), (T.l (((x2.rows.set (Int.toNat x1.int) ((x2.rows.getD (Int.toNat x1.int) []).set 0 x0)).getD (Int.toNat x1.int) []).tail.tail.tail.tail.headD dflt).rows)]).getD (Int.toNat x1.int) []).set 2 y0)).getD (Int.toNat x1.int) []).headD dflt), (T.l (((((x2.rows.set (Int.toNat x1.int) ((x2.rows.getD (Int.toNat x1.int) []).set 0 x0)).set (Int.toNat x1.int) [(((x2.rows.set (Int.toNat x1.int) ((x2.rows.getD (Int.toNat x1.int) []).set 0 x0)).getD (Int.toNat x1.int) []).headD dflt), (T.l y1.rows), (((x2.rows.set (Int.toNat x1.int) ((x2.rows.getD (Int.toNat x1.int) []).set 0 x0)).getD (Int.toNat x1.int) []).tail.tail.headD dflt), (T.l (((x2.rows.set (Int.toNat x1.int) ((x2.rows.getD (Int.toNat x1.int) []).set 0 x0)).getD (Int.toNat x1.int) []).tail.tail.tail.headD dflt).rows), (T.l (((x2.rows.set (Int.toNat x1.int) ((x2.rows.getD (Int.toNat x1.int) []).set 0 x0)).getD (Int.toNat x1.int) []).tail.tail.tail.tail.headD dflt).rows)]).set (Int.toNat x1.int) ((((x2.rows.set (Int.toNat x1.int) ((x2.rows.getD (Int.toNat x1.int) []).set 0 x0)).set (Int.toNat x1.int) [(((x2.rows.set (Int.toNat x1.int) ((x2.rows.getD (Int.toNat x1.int) []).set 0 x0)).getD (Int.toNat x1.int) []).headD dflt), (T.l y1.rows), (((x2.rows.set (Int.toNat x1.int) ((x2.rows.getD (Int.toNat x1.int) []).set 0 x0)).getD (Int.toNat x1.int) []).tail.tail.headD dflt), (T.l (((x2.rows.set (Int.toNat x1.int) ((x2.rows.getD (Int.toNat x1.int) []).set 0 x0)).getD (Int.toNat x1.int) []).tail.tail.tail.headD dflt).rows), (T.l (((x2.rows.set (Int.toNat x1.int) ((x2.rows.getD (Int.toNat x1.int) []).set 0 x0)).getD (Int.toNat x1.int) []).tail.tail.tail.tail.headD dflt).rows)]).getD (Int.toNat x1.int) []).set 2 y0)).getD (Int.toNat x1.int) []).tail.headD dflt).rows), (((((x2.rows.set (Int.toNat x1.int) ((x2.rows.getD (Int.toNat x1.int) []).set 0 x0)).set (Int.toNat x1.int) [(((x2.rows.set (Int.toNat x1.int) ((x2.rows.getD (Int.toNat x1.int) []).set 0 x0)).getD (Int.toNat x1.int) []).headD dflt), (T.l y1.rows), (((x2.rows.set (Int.toNat x1.int) ((x2.rows.getD (Int.toNat x1.int) []).set 0 x0)).getD (Int.toNat x1.int) []).tail.tail.headD dflt), (T.l (((x2.rows.set (Int.toNat x1.int) ((x2.rows.getD (Int.toNat x1.int) []).set 0 x0)).getD (Int.toNat x1.int) []).tail.tail.tail.headD dflt).rows), (T.l (((x2.rows.set (Int.toNat x1.int) ((x2.rows.getD (Int.toNat x1.int) []).set 0 x0)).getD (Int.toNat x1.int) []).tail.tail.tail.tail.headD dflt).rows)]).set (Int.toNat x1.int) ((((x2.rows.set (Int.toNat x1.int) ((x2.rows.getD (Int.toNat x1.int) []).set 0 x0)).set (Int.toNat x1.int) [(((x2.rows.set (Int.toNat x1.int) ((x2.rows.getD (Int.toNat x1.int) []).set 0 x0)).getD (Int.toNat x1.int) []).headD dflt), (T.l y1.rows), (((x2.rows.set (Int.toNat x1.int) ((x2.rows.getD (Int.toNat x1.int) []).set 0 x0)).getD (Int.toNat x1.int) []).tail.tail.headD dflt), (T.l (((x2.rows.set (Int.toNat x1.int) ((x2.rows.getD (Int.toNat x1.int) []).set 0 x0)).getD (Int.toNat x1.int) []).tail.tail.tail.headD dflt).rows), (T.l (((x2.rows.set (Int.toNat x1.int) ((x2.rows.getD (Int.toNat x1.int) []).set 0 x0)).getD (Int.toNat x1.int) []).tail.tail.tail.tail.headD dflt).rows)]).getD (Int.toNat x1.int) []).set 2 y0)).getD (Int.toNat x1.int) []).tail.tail.headD dflt), (T.l y3.rows), (T.l (((((x2.rows.set (Int.toNat x1.int) ((x2.rows.getD (Int.toNat x1.int) []).set 0 x0)).set (Int.toNat x1.int) [(((x2.rows.set (Int.toNat x1.int) ((x2.rows.getD (Int.toNat x1.int) []).set 0 x0)).getD (Int.toNat x1.int) []).headD dflt), (T.l y1.rows), (((x2.rows.set (Int.toNat x1.int) ((x2.rows.getD (Int.toNat x1.int) []).set 0 x0)).getD (Int.toNat x1.int) []).tail.tail.headD dflt), (T.l (((x2.rows.set (Int.toNat x1.int) ((x2.rows.getD (Int.toNat x1.int) []).set 0 x0)).getD (Int.toNat x1.int) []).tail.tail.tail.headD dflt).rows), (T.l (((x2.rows.set (Int.toNat x1.int) ((x2.rows.getD (Int.toNat x1.int) []).set 0 x0)).getD (Int.toNat x1.int) []).tail.tail.tail.tail.headD dflt).rows)]).set (Int.toNat x1.int) ((((x2.rows.set (Int.toNat x1.int) ((x2.rows.getD (Int.toNat x1.int) []).set 0 x0)).set (Int.toNat x1.int) [(((x2.rows.set (Int.toNat x1.int) ((x2.rows.getD (Int.toNat x1.int) []).set 0 x0)).getD (Int.toNat x1.int) []).headD dflt), (T.l y1.rows), (((x2.rows.set (Int.toNat x1.int) ((x2.rows.getD (Int.toNat x1.int) []).set 0 x0)).getD (Int.toNat x1.int) []).tail.tail.headD dflt), (T.l (((x2.rows.set (Int.toNat x1.int) ((x2.rows.getD (Int.toNat x1.int) []).set 0 x0)).getD (Int.toNat x1.int) []).tail.tail.tail.headD dflt).rows), (T.l (((x2.rows.set (Int.toNat x1.int) ((x2.rows.getD (Int.toNat x1.int) []).set 0 x0)).getD (Int.toNat x1.int) []).tail.tail.tail.tail.headD dflt).rows)]).getD (Int.toNat x1.int) []).set 2 y0)).getD (Int.toNat x1.int) []).tail.tail.tail.tail.headD dflt).rows)]).length))
    (cond (decide ((Int.toNat x1.int) < ((((x2.rows.set (Int.toNat x1.int) ((x2.rows.getD (Int.toNat x1.int) []).set 0 x0)).set (Int.toNat x1.int) [(((x2.rows.set (Int.toNat x1.int) ((x2.rows.getD (Int.toNat x1.int) []).set 0 x0)).getD (Int.toNat x1.int) []).headD dflt), (T.l y1.rows), (((x2.rows.set (Int.toNat x1.int) ((x2.rows.getD (Int.toNat x1.int) []).set 0 x0)).getD (Int.toNat x1.int) []).tail.tail.headD dflt), (T.l (((x2.rows.set (Int.toNat x1.int) ((x2.rows.getD (Int.toNat x1.int) []).set 0 x0)).getD (Int.toNat x1.int) []).tail.tail.tail.headD dflt).rows), (T.l (((x2.rows.set (Int.toNat x1.int) ((x2.rows.getD (Int.toNat x1.int) []).set 0 x0)).getD (Int.toNat x1.int) []).tail.tail.tail.tail.headD dflt).rows)]).set (Int.toNat x1.int) ((((x2.rows.set (Int.toNat x1.int) ((x2.rows.getD (Int.toNat x1.int) []).set 0 x0)).set (Int.toNat x1.int) [(((x2.rows.set (Int.toNat x1.int) ((x2.rows.getD (Int.toNat x1.int) []).set 0 x0)).getD (Int.toNat x1.int) []).headD dflt), (T.l y1.rows), (((x2.rows.set (Int.toNat x1.int) ((x2.rows.getD (Int.toNat x1.int) []).set 0 x0)).getD (Int.toNat x1.int) []).tail.tail.headD dflt), (T.l (((x2.rows.set (Int.toNat x1.int) ((x2.rows.getD (Int.toNat x1.int) []).set 0 x0)).getD (Int.toNat x1.int) []).tail.tail.tail.headD dflt).rows), (T.l (((x2.rows.set (Int.toNat x1.int) ((x2.rows.getD (Int.toNat x1.int) []).set 0 x0)).getD (Int.toNat x1.int) []).tail.tail.tail.tail.headD dflt).rows)]).getD (Int.toNat x1.int) []).set 2 y0)).set (Int.toNat x1.int) [(((((x2.rows.set (Int.toNat x1.int) ((x2.rows.getD (Int.toNat x1.int) []).set 0 x0)).set (Int.toNat x1.int) [(((x2.rows.set (Int.toNat x1.int) ((x2.rows.getD (Int.toNat x1.int) []).set 0 x0)).getD (Int.toNat x1.int) []).headD dflt), (T.l y1.rows), (((x2.rows.set (Int.toNat x1.int) ((x2.rows.getD (Int.toNat x1.int) []).set 0 x0)).getD (Int.toNat x1.int) []).tail.tail.headD dflt), (T.l (((x2.rows.set (Int.toNat x1.int) ((x2.rows.getD (Int.toNat x1.int) []).set 0 x0)).getD (Int.toNat x1.int) []).tail.tail.tail.headD dflt).rows), (T.l (((x2.rows.set (Int.toNat x1.int) ((x2.rows.getD (Int.toNat x1.int) []).set 0 x0)).getD (Int.toNat x1.int) []).tail.tail.tail.tail.headD dflt).rows)]).set (Int.toNat x1.int) ((((x2.rows.set (Int.toNat x1.int) ((x2.rows.getD (Int.toNat x1.int) []).set 0 x0)).set (Int.toNat x1.int) [(((x2.rows.set (Int.toNat x1.int) ((x2.rows.getD (Int.toNat x1.int) []).set 0 x0)).getD (Int.toNat x1.int) []).headD dflt), (T.l y1.rows), (((x2.rows.set (Int.toNat x1.int) ((x2.rows.getD (Int.toNat x1.int) []).set 0 x0)).getD (Int.toNat x1.int) []).tail.tail.headD dflt), (T.l (((x2.rows.set (Int.toNat x1.int) ((x2.rows.getD (Int.toNat x1.int) []).set 0 x0)).getD (Int.toNat x1.int) []).tail.tail.tail.headD dflt).rows), (T.l (((x2.rows.set (Int.toNat x1.int) ((x2.rows.getD (Int.toNat x1.int) []).set 0 x0)).getD (Int.toNat x1.int) []).tail.tail.tail.tail.headD dflt).rows)]).getD (Int.toNat x1.int) []).set 2 y0)).getD (Int.toNat x1.int) []).headD dflt), (T.l (((((x2.rows.set (Int.toNat x1.int) ((x2.rows.getD (Int.toNat x1.int) []).set 0 x0)).set (Int.toNat x1.int) [(((x2.rows.set (Int.toNat x1.int) ((x2.rows.getD (Int.toNat x1.int) []).set 0 x0)).getD (Int.toNat x1.int) []).headD dflt), (T.l y1.rows), (((x2.rows.set (Int.toNat x1.int) ((x2.rows.getD (Int.toNat x1.int) []).set 0 x0)).getD (Int.toNat x1.int) []).tail.tail.headD dflt), (T.l (((x2.rows.set (Int.toNat x1.int) ((x2.rows.getD (Int.toNat x1.int) []).set 0 x0)).getD (Int.toNat x1.int) []).tail.tail.tail.headD dflt).rows), (T.l (((x2.rows.set (Int.toNat x1.int) ((x2.rows.getD (Int.toNat x1.int) []).set 0 x0)).getD (Int.toNat x1.int) []).tail.tail.tail.tail.headD dflt).rows)]).set (Int.toNat x1.int) ((((x2.rows.set (Int.toNat x1.int) ((x2.rows.getD (Int.toNat x1.int) []).set 0 x0)).set (Int.toNat x1.int) [(((x2.rows.set (Int.toNat x1.int) ((x2.rows.getD (Int.toNat x1.int) []).set 0 x0)).getD (Int.toNat x1.int) []).headD dflt), (T.l y1.rows), (((x2.rows.set (Int.toNat x1.int) ((x2.rows.getD (Int.toNat x1.int) []).set 0 x0)).getD (Int.toNat x1.int) []).tail.tail.headD dflt), (T.l (((x2.rows.set (Int.toNat x1.int) ((x2.rows.getD (Int.toNat x1.int) []).set 0 x0)).getD (Int.toNat x1.int) []).tail.tail.tail.headD dflt).rows), (T.l (((x2.rows.set (Int.toNat x1.int) ((x2.rows.getD (Int.toNat x1.int) []).set 0 x0)).getD (Int.toNat x1.int) []).tail.tail.tail.tail.headD dflt).rows)]).getD (Int.toNat x1.int) []).set 2 y0)).getD (Int.toNat x1.int) []).tail.headD dflt).rows), (((((x2.rows.set (Int.toNat x1.int) ((x2.rows.getD (Int.toNat x1.int) []).set 0 x0)).set (Int.toNat x1.int) [(((x2.rows.set (Int.toNat x1.int) ((x2.rows.getD (Int.toNat x1.int) []).set 0 x0)).getD (Int.toNat x1.int) []).headD dflt), (T.l y1.rows), (((x2.rows.set (Int.toNat x1.int) ((x2.rows.getD (Int.toNat x1.int) []).set 0 x0)).getD (Int.toNat x1.int) []).tail.tail.headD dflt), (T.l (((x2.rows.set (Int.toNat x1.int) ((x2.rows.getD (Int.toNat x1.int) []).set 0 x0)).getD (Int.toNat x1.int) []).tail.tail.tail.headD dflt).rows), (T.l (((x2.rows.set (Int.toNat x1.int) ((x2.rows.getD (Int.toNat x1.int) []).set 0 x0)).getD (Int.toNat x1.int) []).tail.tail.tail.tail.headD dflt).rows)]).set (Int.toNat x1.int) ((((x2.rows.set (Int.toNat x1.int) ((x2.rows.getD (Int.toNat x1.int) []).set 0 x0)).set (Int.toNat x1.int) [(((x2.rows.set (Int.toNat x1.int) ((x2.rows.getD (Int.toNat x1.int) []).set 0 x0)).getD (Int.toNat x1.int) []).headD dflt), (T.l y1.rows), (((x2.rows.set (Int.toNat x1.int) ((x2.rows.getD (Int.toNat x1.int) []).set 0 x0)).getD (Int.toNat x1.int) []).tail.tail.headD dflt), (T.l (((x2.rows.set (Int.toNat x1.int) ((x2.rows.getD (Int.toNat x1.int) []).set 0 x0)).getD (Int.toNat x1.int) []).tail.tail.tail.headD dflt).rows), (T.l (((x2.rows.set (Int.toNat x1.int) ((x2.rows.getD (Int.toNat x1.int) []).set 0 x0)).getD (Int.toNat x1.int) []).tail.tail.tail.tail.headD dflt).rows)]).getD (Int.toNat x1.int) []).set 2 y0)).getD (Int.toNat x1.int) []).tail.tail.headD dflt), (T.l y3.rows), (T.l (((((x2.rows.set (Int.toNat x1.int) ((x2.rows.getD (Int.toNat x1.int) []).set 0 x0)).set (Int.toNat x1.int) [(((x2.rows.set (Int.toNat x1.int) ((x2.rows.getD (Int.toNat x1.int) []).set 0 x0)).getD (Int.toNat x1.int) []).headD dflt), (T.l y1.rows), (((x2.rows.set (Int.toNat x1.int) ((x2.rows.getD (Int.toNat x1.int) []).set 0 x0)).getD (Int.toNat x1.int) []).tail.tail.headD dflt), (T.l (((x2.rows.set (Int.toNat x1.int) ((x2.rows.getD (Int.toNat x1.int) []).set 0 x0)).getD (Int.toNat x1.int) []).tail.tail.tail.headD dflt).rows), (T.l (((x2.rows.set (Int.toNat x1.int) ((x2.rows.getD (Int.toNat x1.int) []).set 0 x0)).getD (Int.toNat x1.int) []).tail.tail.tail.tail.headD dflt).rows)]).set (Int.toNat x1.int) ((((x2.rows.set (Int.toNat x1.int) ((x2.rows.getD (Int.toNat x1.int) []).set 0 x0)).set (Int.toNat x1.int) [(((x2.rows.set (Int.toNat x1.int) ((x2.rows.getD (Int.toNat x1.int) []).set 0 x0)).getD (Int.toNat x1.int) []).headD dflt), (T.l y1.rows), (((x2.rows.set (Int.toNat x1.int) ((x2.rows.getD (Int.toNat x1.int) []).set 0 x0)).getD (Int.toNat x1.int) []).tail.tail.headD dflt), (T.l (((x2.rows.set (Int.toNat x1.int) ((x2.rows.getD (Int.toNat x1.int) []).set 0 x0)).getD (Int.toNat x1.int) []).tail.tail.tail.headD dflt).rows), (T.l (((x2.rows.set (Int.toNat x1.int) ((x2.rows.getD (Int.toNat x1.int) []).set 0 x0)).getD (Int.toNat x1.int) []).tail.tail.tail.tail.headD dflt).rows)]).getD (Int.toNat x1.int) []).set 2 y0)).getD (Int.toNat x1.int) []).tail.tail.tail.tail.headD dflt).rows)]).length))
    (laws_markRecS m (T.l ((((((x2.rows.set (Int.toNat x1.int) ((x2.rows.getD (Int.toNat x1.int) []).set 0 x0)).set (Int.toNat x1.int) [(((x2.rows.set (Int.toNat x1.int) ((x2.rows.getD (Int.toNat x1.int) []).set 0 x0)).getD (Int.toNat x1.int) []).headD dflt), (T.l y1.rows), (((x2.rows.set (Int.toNat x1.int) ((x2.rows.getD (Int.toNat x1.int) []).set 0 x0)).getD (Int.toNat x1.int) []).tail.tail.headD dflt), (T.l (((x2.rows.set (Int.toNat x1.int) ((x2.rows.getD (Int.toNat x1.int) []).set 0 x0)).getD (Int.toNat x1.int) []).tail.tail.tail.headD dflt).rows), (T.l (((x2.rows.set (Int.toNat x1.int) ((x2.rows.getD (Int.toNat x1.int) []).set 0 x0)).getD (Int.toNat x1.int) []).tail.tail.tail.tail.headD dflt).rows)]).set (Int.toNat x1.int) ((((x2.rows.set (Int.toNat x1.int) ((x2.rows.getD (Int.toNat x1.int) []).set 0 x0)).set (Int.toNat x1.int) [(((x2.rows.set (Int.toNat x1.int) ((x2.rows.getD (Int.toNat x1.int) []).set 0 x0)).getD (Int.toNat x1.int) []).headD dflt), (T.l y1.rows), (((x2.rows.set (Int.toNat x1.int) ((x2.rows.getD (Int.toNat x1.int) []).set 0 x0)).getD (Int.toNat x1.int) []).tail.tail.headD dflt), (T.l (((x2.rows.set (Int.toNat x1.int) ((x2.rows.getD (Int.toNat x1.int) []).set 0 x0)).getD (Int.toNat x1.int) []).tail.tail.tail.headD dflt).rows), (T.l (((x2.rows.set (Int.toNat x1.int) ((x2.rows.getD (Int.toNat x1.int) []).set 0 x0)).getD (Int.toNat x1.int) []).tail.tail.tail.tail.headD dflt).rows)]).getD (Int.toNat x1.int) []).set 2 y0)).set (Int.toNat x1.int) [(((((x2.rows.set (Int.toNat x1.int) ((x2.rows.getD (Int.toNat x1.int) []).set 0 x0)).set (Int.toNat x1.int) [(((x2.rows.set (Int.toNat x1.int) ((x2.rows.getD (Int.toNat x1.int) []).set 0 x0)).getD (Int.toNat x1.int) []).headD dflt), (T.l y1.rows), (((x2.rows.set (Int.toNat x1.int) ((x2.rows.getD (Int.toNat x1.int) []).set 0 x0)).getD (Int.toNat x1.int) []).tail.tail.headD dflt), (T.l (((x2.rows.set (Int.toNat x1.int) ((x2.rows.getD (Int.toNat x1.int) []).set 0 x0)).getD (Int.toNat x1.int) []).tail.tail.tail.headD dflt).rows), (T.l (((x2.rows.set (Int.toNat x1.int) ((x2.rows.getD (Int.toNat x1.int) []).set 0 x0)).getD (Int.toNat x1.int) []).tail.tail.tail.tail.headD dflt).rows)]).set (Int.toNat x1.int) ((((x2.rows.set (Int.toNat x1.int) ((x2.rows.getD (Int.toNat x1.int) []).set 0 x0)).set (Int.toNat x1.int) [(((x2.rows.set (Int.toNat x1.int) ((x2.rows.getD (Int.toNat x1.int) []).set 0 x0)).getD (Int.toNat x1.int) []).headD dflt), (T.l y1.rows), (((x2.rows.set (Int.toNat x1.int) ((x2.rows.getD (Int.toNat x1.int) []).set 0 x0)).getD (Int.toNat x1.int) []).tail.tail.headD dflt), (T.l (((x2.rows.set (Int.toNat x1.int) ((x2.rows.getD (Int.toNat x1.int) []).set 0 x0)).getD (Int.toNat x1.int) []).tail.tail.tail.headD dflt).rows), (T.l (((x2.rows.set (Int.toNat x1.int) ((x2.rows.getD (Int.toNat x1.int) []).set 0 x0)).getD (Int.toNat x1.int) []).tail.tail.tail.tail.headD dflt).rows)]).getD (Int.toNat x1.int) []).set 2 y0)).getD (Int.toNat x1.int) []).headD dflt), (T.l (((((x2.rows.set (Int.toNat x1.int) ((x2.rows.getD (Int.toNat x1.int) []).set 0 x0)).set (Int.toNat x1.int) [(((x2.rows.set (Int.toNat x1.int) ((x2.rows.getD (Int.toNat x1.int) []).set 0 x0)).getD (Int.toNat x1.int) []).headD dflt), (T.l y1.rows), (((x2.rows.set (Int.toNat x1.int) ((x2.rows.getD (Int.toNat x1.int) []).set 0 x0)).getD (Int.toNat x1.int) []).tail.tail.headD dflt), (T.l (((x2.rows.set (Int.toNat x1.int) ((x2.rows.getD (Int.toNat x1.int) []).set 0 x0)).getD (Int.toNat x1.int) []).tail.tail.tail.headD dflt).rows), (T.l (((x2.rows.set (Int.toNat x1.int) ((x2.rows.getD (Int.toNat x1.int) []).set 0 x0)).getD (Int.toNat x1.int) []).tail.tail.tail.tail.headD dflt).rows)]).set (Int.toNat x1.int) ((((x2.rows.set (Int.toNat x1.int) ((x2.rows.getD (Int.toNat x1.int) []).set 0 x0)).set (Int.toNat x1.int) [(((x2.rows.set (Int.toNat x1.int) ((x2.rows.getD (Int.toNat x1.int) []).set 0 x0)).getD (Int.toNat x1.int) []).headD dflt), (T.l y1.rows), (((x2.rows.set (Int.toNat x1.int) ((x2.rows.getD (Int.toNat x1.int) []).set 0 x0)).getD (Int.toNat x1.int) []).tail.tail.headD dflt), (T.l (((x2.rows.set (Int.toNat x1.int) ((x2.rows.getD (Int.toNat x1.int) []).set 0 x0)).getD (Int.toNat x1.int) []).tail.tail.tail.headD dflt).rows), (T.l (((x2.rows.set (Int.toNat x1.int) ((x2.rows.getD (Int.toNat x1.int) []).set 0 x0)).getD (Int.toNat x1.int) []).tail.tail.tail.tail.headD dflt).rows)]).getD (Int.toNat x1.int) []).set 2 y0)).getD (Int.toNat x1.int) []).tail.headD dflt).rows), (((((x2.rows.set (Int.toNat x1.int) ((x2.rows.getD (Int.toNat x1.int) []).set 0 x0)).set (Int.toNat x1.int) [(((x2.rows.set (Int.toNat x1.int) ((x2.rows.getD (Int.toNat x1.int) []).set 0 x0)).getD (Int.toNat x1.int) []).headD dflt), (T.l y1.rows), (((x2.rows.set (Int.toNat x1.int) ((x2.rows.getD (Int.toNat x1.int) []).set 0 x0)).getD (Int.toNat x1.int) []).tail.tail.headD dflt), (T.l (((x2.rows.set (Int.toNat x1.int) ((x2.rows.getD (Int.toNat x1.int) []).set 0 x0)).getD (Int.toNat x1.int) []).tail.tail.tail.headD dflt).rows), (T.l (((x2.rows.set (Int.toNat x1.int) ((x2.rows.getD (Int.toNat x1.int) []).set 0 x0)).getD (Int.toNat x1.int) []).tail.tail.tail.tail.headD dflt).rows)]).set (Int.toNat x1.int) ((((x2.rows.set (Int.toNat x1.int) ((x2.rows.getD (Int.toNat x1.int) []).set 0 x0)).set (Int.toNat x1.int) [(((x2.rows.set (Int.toNat x1.int) ((x2.rows.getD (Int.toNat x1.int) []).set 0 x0)).getD (Int.toNat x1.int) []).headD dflt), (T.l y1.rows), (((x2.rows.set (Int.toNat x1.int) ((x2.rows.getD (Int.toNat x1.int) []).set 0 x0)).getD (Int.toNat x1.int) []).tail.tail.headD dflt), (T.l (((x2.rows.set (Int.toNat x1.int) ((x2.rows.getD (Int.toNat x1.int) []).set 0 x0)).getD (Int.toNat x1.int) []).tail.tail.tail.headD dflt).rows), (T.l (((x2.rows.set (Int.toNat x1.int) ((x2.rows.getD (Int.toNat x1.int) []).set 0 x0)).getD (Int.toNat x1.int) []).tail.tail.tail.tail.headD dflt).rows)]).getD (Int.toNat x1.int) []).set 2 y0)).getD (Int.toNat x1.int) []).tail.tail.headD dflt), (T.l y3.rows), (T.l (((((x2.rows.set (Int.toNat x1.int) ((x2.rows.getD (Int.toNat x1.int) []).set 0 x0)).set (Int.toNat x1.int) [(((x2.rows.set (Int.toNat x1.int) ((x2.rows.getD (Int.toNat x1.int) []).set 0 x0)).getD (Int.toNat x1.int) []).headD dflt), (T.l y1.rows), (((x2.rows.set (Int.toNat x1.int) ((x2.rows.getD (Int.toNat x1.int) []).set 0 x0)).getD (Int.toNat x1.int) []).tail.tail.headD dflt), (T.l (((x2.rows.set (Int.toNat x1.int) ((x2.rows.getD (Int.toNat x1.int) []).set 0 x0)).getD (Int.toNat x1.int) []).tail.tail.tail.headD dflt).rows), (T.l (((x2.rows.set (Int.toNat x1.int) ((x2.rows.getD (Int.toNat x1.int) []).set 0 x0)).getD (Int.toNat x1.int) []).tail.tail.tail.tail.headD dflt).rows)]).set (Int.toNat x1.int) ((((x2.rows.set (Int.toNat x1.int) ((x2.rows.getD (Int.toNat x1.int) []).set 0 x0)).set (Int.toNat x1.int) [(((x2.rows.set (Int.toNat x1.int) ((x2.rows.getD (Int.toNat x1.int) []).set 0 x0)).getD (Int.toNat x1.int) []).headD dflt), (T.l y1.rows), (((x2.rows.set (Int.toNat x1.int) ((x2.rows.getD (Int.toNat x1.int) []).set 0 x0)).getD (Int.toNat x1.int) []).tail.tail.headD dflt), (T.l (((x2.rows.set (Int.toNat x1.int) ((x2.rows.getD (Int.toNat x1.int) []).set 0 x0)).getD (Int.toNat x1.int) []).tail.tail.tail.headD dflt).rows), (T.l (((x2.rows.set (Int.toNat x1.int) ((x2.rows.getD (Int.toNat x1.int) []).set 0 x0)).getD (Int.toNat x1.int) []).tail.tail.tail.tail.headD dflt).rows)]).getD (Int.toNat x1.int) []).set 2 y0)).getD (Int.toNat x1.int) []).tail.tail.tail.tail.headD dflt).rows)]).getD (Int.toNat x1.int) []).tail.tail.tail.tail.headD dflt).rows) y2
    (fun y4 y5 => laws_markShardS_L0_0 m n y4 (T.i (IntKind.i64.wrap (x1.int + 1))) (T.l (((((x2.rows.set (Int.toNat x1.int) ((x2.rows.getD (Int.toNat x1.int) []).set 0 x0)).set (Int.toNat x1.int) [(((x2.rows.set (Int.toNat x1.int) ((x2.rows.getD (Int.toNat x1.int) []).set 0 x0)).getD (Int.toNat x1.int) []).headD dflt), (T.l y1.rows), (((x2.rows.set (Int.toNat x1.int) ((x2.rows.getD (Int.toNat x1.int) []).set 0 x0)).getD (Int.toNat x1.int) []).tail.tail.headD dflt), (T.l (((x2.rows.set (Int.toNat x1.int) ((x2.rows.getD (Int.toNat x1.int) []).set 0 x0)).getD (Int.toNat x1.int) []).tail.tail.tail.headD dflt).rows), (T.l (((x2.rows.set (Int.toNat x1.int) ((x2.rows.getD (Int.toNat x1.int) []).set 0 x0)).getD (Int.toNat x1.int) []).tail.tail.tail.tail.headD dflt).rows)]).set (Int.toNat x1.int) ((((x2.rows.set (Int.toNat x1.int) ((x2.rows.getD (Int.toNat x1.int) []).set 0 x0)).set (Int.toNat x1.int) [(((x2.rows.set (Int.toNat x1.int) ((x2.rows.getD (Int.toNat x1.int) []).set 0 x0)).getD (Int.toNat x1.int) []).headD dflt), (T.l y1.rows), (((x2.rows.set (Int.toNat x1.int) ((x2.rows.getD (Int.toNat x1.int) []).set 0 x0)).getD (Int.toNat x1.int) []).tail.tail.headD dflt), (T.l (((x2.rows.set (Int.toNat x1.int) ((x2.rows.getD (Int.toNat x1.int) []).set 0 x0)).getD (Int.toNat x1.int) []).tail.tail.tail.headD dflt).rows), (T.l (((x2.rows.set (Int.toNat x1.int) ((x2.rows.getD (Int.toNat x1.int) []).set 0 x0)).getD (Int.toNat x1.int) []).tail.tail.tail.tail.headD dflt).rows)]).getD (Int.toNat x1.int) []).set 2 y0)).set (Int.toNat x1.int) [(((((x2.rows.set (Int.toNat x1.int) ((x2.rows.getD (Int.toNat x1.int) []).set 0 x0)).set (Int.toNat x1.int) [(((x2.rows.set (Int.toNat x1.int) ((x2.rows.getD (Int.toNat x1.int) []).set 0 x0)).getD (Int.toNat x1.int) []).headD dflt), (T.l y1.rows), (((x2.rows.set (Int.toNat x1.int) ((x2.rows.getD (Int.toNat x1.int) []).set 0 x0)).getD (Int.toNat x1.int) []).tail.tail.headD dflt), (T.l (((x2.rows.set (Int.toNat x1.int) ((x2.rows.getD (Int.toNat x1.int) []).set 0 x0)).getD (Int.toNat x1.int) []).tail.tail.tail.headD dflt).rows), (T.l (((x2.rows.set (Int.toNat x1.int) ((x2.rows.getD (Int.toNat x1.int) []).set 0 x0)).getD (Int.toNat x1.int) []).tail.tail.tail.tail.headD dflt).rows)]).set (Int.toNat x1.int) ((((x2.rows.set (Int.toNat x1.int) ((x2.rows.getD (Int.toNat x1.int) []).set 0 x0)).set (Int.toNat x1.int) [(((x2.rows.set (Int.toNat x1.int) ((x2.rows.getD (Int.toNat x1.int) []).set 0 x0)).getD (Int.toNat x1.int) []).headD dflt), (T.l y1.rows), (((x2.rows.set (Int.toNat x1.int) ((x2.rows.getD (Int.toNat x1.int) []).set 0 x0)).getD (Int.toNat x1.int) []).tail.tail.headD dflt), (T.l (((x2.rows.set (Int.toNat x1.int) ((x2.rows.getD (Int.toNat x1.int) []).set 0 x0)).getD (Int.toNat x1.int) []).tail.tail.tail.headD dflt).rows), (T.l (((x2.rows.set (Int.toNat x1.int) ((x2.rows.getD (Int.toNat x1.int) []).set 0 x0)).getD (Int.toNat x1.int) []).tail.tail.tail.tail.headD dflt).rows)]).getD (Int.toNat x1.int) []).set 2 y0)).getD (Int.toNat x1.int) []).headD dflt), (T.l (((((x2.rows.set (Int.toNat x1.int) ((x2.rows.getD (Int.toNat x1.int) []).set 0 x0)).set (Int.toNat x1.int) [(((x2.rows.set (Int.toNat x1.int) ((x2.rows.getD (Int.toNat x1.int) []).set 0 x0)).getD (Int.toNat x1.int) []).headD dflt), (T.l y1.rows), (((x2.rows.set (Int.toNat x1.int) ((x2.rows.getD (Int.toNat x1.int) []).set 0 x0)).getD (Int.toNat x1.int) []).tail.tail.headD dflt), (T.l (((x2.rows.set (Int.toNat x1.int) ((x2.rows.getD (Int.toNat x1.int) []).set 0 x0)).getD (Int.toNat x1.int) []).tail.tail.tail.headD dflt).rows), (T.l (((x2.rows.set (Int.toNat x1.int) ((x2.rows.getD (Int.toNat x1.int) []).set 0 x0)).getD (Int.toNat x1.int) []).tail.tail.tail.tail.headD dflt).rows)]).set (Int.toNat x1.int) ((((x2.rows.set (Int.toNat x1.int) ((x2.rows.getD (Int.toNat x1.int) []).set 0 x0)).set (Int.toNat x1.int) [(((x2.rows.set (Int.toNat x1.int) ((x2.rows.getD (Int.toNat x1.int) []).set 0 x0)).getD (Int.toNat x1.int) []).headD dflt), (T.l y1.rows), (((x2.rows.set (Int.toNat x1.int) ((x2.rows.getD (Int.toNat x1.int) []).set 0 x0)).getD (Int.toNat x1.int) []).tail.tail.headD dflt), (T.l (((x2.rows.set (Int.toNat x1.int) ((x2.rows.getD (Int.toNat x1.int) []).set 0 x0)).getD (Int.toNat x1.int) []).tail.tail.tail.headD dflt).rows), (T.l (((x2.rows.set (Int.toNat x1.int) ((x2.rows.getD (Int.toNat x1.int) []).set 0 x0)).getD (Int.toNat x1.int) []).tail.tail.tail.tail.headD dflt).rows)]).getD (Int.toNat x1.int) []).set 2 y0)).getD (Int.toNat x1.int) []).tail.headD dflt).rows), (((((x2.rows.set (Int.toNat x1.int) ((x2.rows.getD (Int.toNat x1.int) []).set 0 x0)).set (Int.toNat x1.int) [(((x2.rows.set (Int.toNat x1.int) ((x2.rows.getD (Int.toNat x1.int) []).set 0 x0)).getD (Int.toNat x1.int) []).headD dflt), (T.l y1.rows), (((x2.rows.set (Int.toNat x1.int) ((x2.rows.getD (Int.toNat x1.int) []).set 0 x0)).getD (Int.toNat x1.int) []).tail.tail.headD dflt), (T.l (((x2.rows.set (Int.toNat x1.int) ((x2.rows.getD (Int.toNat x1.int) []).set 0 x0)).getD (Int.toNat x1.int) []).tail.tail.tail.headD dflt).rows), (T.l (((x2.rows.set (Int.toNat x1.int) ((x2.rows.getD (Int.toNat x1.int) []).set 0 x0)).getD (Int.toNat x1.int) []).tail.tail.tail.tail.headD dflt).rows)]).set (Int.toNat x1.int) ((((x2.rows.set (Int.toNat x1.int) ((x2.rows.getD (Int.toNat x1.int) []).set 0 x0)).set (Int.toNat x1.int) [(((x2.rows.set (Int.toNat x1.int) ((x2.rows.getD (Int.toNat x1.int) []).set 0 x0)).getD (Int.toNat x1.int) []).headD dflt), (T.l y1.rows), (((x2.rows.set (Int.toNat x1.int) ((x2.rows.getD (Int.toNat x1.int) []).set 0 x0)).getD (Int.toNat x1.int) []).tail.tail.headD dflt), (T.l (((x2.rows.set (Int.toNat x1.int) ((x2.rows.getD (Int.toNat x1.int) []).set 0 x0)).getD (Int.toNat x1.int) []).tail.tail.tail.headD dflt).rows), (T.l (((x2.rows.set (Int.toNat x1.int) ((x2.rows.getD (Int.toNat x1.int) []).set 0 x0)).getD (Int.toNat x1.int) []).tail.tail.tail.tail.headD dflt).rows)]).getD (Int.toNat x1.int) []).set 2 y0)).getD (Int.toNat x1.int) []).tail.tail.headD dflt), (T.l y3.rows), (T.l (((((x2.rows.set (Int.toNat x1.int) ((x2.rows.getD (Int.toNat x1.int) []).set 0 x0)).set (Int.toNat x1.int) [(((x2.rows.set (Int.toNat x1.int) ((x2.rows.getD (Int.toNat x1.int) []).set 0 x0)).getD (Int.toNat x1.int) []).headD dflt), (T.l y1.rows), (((x2.rows.set (Int.toNat x1.int) ((x2.rows.getD (Int.toNat x1.int) []).set 0 x0)).getD (Int.toNat x1.int) []).tail.tail.headD dflt), (T.l (((x2.rows.set (Int.toNat x1.int) ((x2.rows.getD (Int.toNat x1.int) []).set 0 x0)).getD (Int.toNat x1.int) []).tail.tail.tail.headD dflt).rows), (T.l (((x2.rows.set (Int.toNat x1.int) ((x2.rows.getD (Int.toNat x1.int) []).set 0 x0)).getD (Int.toNat x1.int) []).tail.tail.tail.tail.headD dflt).rows)]).set (Int.toNat x1.int) ((((x2.rows.set (Int.toNat x1.int) ((x2.rows.getD (Int.toNat x1.int) []).set 0 x0)).set (Int.toNat x1.int) [(((x2.rows.set (Int.toNat x1.int) ((x2.rows.getD (Int.toNat x1.int) []).set 0 x0)).getD (Int.toNat x1.int) []).headD dflt), (T.l y1.rows), (((x2.rows.set (Int.toNat x1.int) ((x2.rows.getD (Int.toNat x1.int) []).set 0 x0)).getD (Int.toNat x1.int) []).tail.tail.headD dflt), (T.l (((x2.rows.set (Int.toNat x1.int) ((x2.rows.getD (Int.toNat x1.int) []).set 0 x0)).getD (Int.toNat x1.int) []).tail.tail.tail.headD dflt).rows), (T.l (((x2.rows.set (Int.toNat x1.int) ((x2.rows.getD (Int.toNat x1.int) []).set 0 x0)).getD (Int.toNat x1.int) []).tail.tail.tail.tail.headD dflt).rows)]).getD (Int.toNat x1.int) []).set 2 y0)).getD (Int.toNat x1.int) []).tail.tail.tail.tail.headD dflt).rows)]).set (Int.toNat x1.int) [((((((x2.rows.set (Int.toNat x1.int) ((x2.rows.getD (Int.toNat x1.int) []).set 0 x0)).set (Int.toNat x1.int) [(((x2.rows.set (Int.toNat x1.int) ((x2.rows.getD (Int.toNat x1.int) []).set 0 x0)).getD (Int.toNat x1.int) []).headD dflt), (T.l y1.rows), (((x2.rows.set (Int.toNat x1.int) ((x2.rows.getD (Int.toNat x1.int) []).set 0 x0)).getD (Int.toNat x1.int) []).tail.tail.headD dflt), (T.l (((x2.rows.set (Int.toNat x1.int) ((x2.rows.getD (Int.toNat x1.int) []).set 0 x0)).getD (Int.toNat x1.int) []).tail.tail.tail.headD dflt).rows), (T.l (((x2.rows.set (Int.toNat x1.int) ((x2.rows.getD (Int.toNat x1.int) []).set 0 x0)).getD (Int.toNat x1.int) []).tail.tail.tail.tail.headD dflt).rows)]).set (Int.toNat x1.int) ((((x2.rows.set (Int.toNat x1.int) ((x2.rows.getD (Int.toNat x1.int) []).set 0 x0)).set (Int.toNat x1.int) [(((x2.rows.set (Int.toNat x1.int) ((x2.rows.getD (Int.toNat x1.int) []).set 0 x0)).getD (Int.toNat x1.int) []).headD dflt), (T.l y1.rows), (((x2.rows.set (Int.toNat x1.int) ((x2.rows.getD (Int.toNat x1.int) []).set 0 x0)).getD (Int.toNat x1.int) []).tail.tail.headD dflt), (T.l (((x2.rows.set (Int.toNat x1.int) ((x2.rows.getD (Int.toNat x1.int) []).set 0 x0)).getD (Int.toNat x1.int) []).tail.tail.tail.headD dflt).rows), (T.l (((x2.rows.set (Int.toNat x1.int) ((x2.rows.getD (Int.toNat x1.int) []).set 0 x0)).getD (Int.toNat x1.int) []).tail.tail.tail.tail.headD dflt).rows)]).getD (Int.toNat x1.int) []).set 2 y0)).set (Int.toNat x1.int) [(((((x2.rows.set (Int.toNat x1.int) ((x2.rows.getD (Int.toNat x1.int) []).set 0 x0)).set (Int.toNat x1.int) [(((x2.rows.set (Int.toNat x1.int) ((x2.rows.getD (Int.toNat x1.int) []).set 0 x0)).getD (Int.toNat x1.int) []).headD dflt), (T.l y1.rows), (((x2.rows.set (Int.toNat x1.int) ((x2.rows.getD (Int.toNat x1.int) []).set 0 x0)).getD (Int.toNat x1.int) []).tail.tail.headD dflt), (T.l (((x2.rows.set (Int.toNat x1.int) ((x2.rows.getD (Int.toNat x1.int) []).set 0 x0)).getD (Int.toNat x1.int) []).tail.tail.tail.headD dflt).rows), (T.l (((x2.rows.set (Int.toNat x1.int) ((x2.rows.getD (Int.toNat x1.int) []).set 0 x0)).getD (Int.toNat x1.int) []).tail.tail.tail.tail.headD dflt).rows)]).set (Int.toNat x1.int) ((((x2.rows.set (Int.toNat x1.int) ((x2.rows.getD (Int.toNat x1.int) []).set 0 x0)).set (Int.toNat x1.int) [(((x2.rows.set (Int.toNat x1.int) ((x2.rows.getD (Int.toNat x1.int) []).set 0 x0)).getD (Int.toNat x1.int) []).headD dflt), (T.l y1.rows), (((x2.rows.set (Int.toNat x1.int) ((x2.rows.getD (Int.toNat x1.int) []).set 0 x0)).getD (Int.toNat x1.int) []).tail.tail.headD dflt), (T.l (((x2.rows.set (Int.toNat x1.int) ((x2.rows.getD (Int.toNat x1.int) []).set 0 x0)).getD (Int.toNat x1.int) []).tail.tail.tail.headD dflt).rows), (T.l (((x2.rows.set (Int.toNat x1.int) ((x2.rows.getD (Int.toNat x1.int) []).set 0 x0)).getD (Int.toNat x1.int) []).tail.tail.tail.tail.headD dflt).rows)]).getD (Int.toNat x1.int) []).set 2 y0)).getD (Int.toNat x1.int) []).headD dflt), (T.l (((((x2.rows.set (Int.toNat x1.int) ((x2.rows.getD (Int.toNat x1.int) []).set 0 x0)).set (Int.toNat x1.int) [(((x2.rows.set (Int.toNat x1.int) ((x2.rows.getD (Int.toNat x1.int) []).set 0 x0)).getD (Int.toNat x1.int) []).headD dflt), (T.l y1.rows), (((x2.rows.set (Int.toNat x1.int) ((x2.rows.getD (Int.toNat x1.int) []).set 0 x0)).getD (Int.toNat x1.int) []).tail.tail.headD dflt), (T.l (((x2.rows.set (Int.toNat x1.int) ((x2.rows.getD (Int.toNat x1.int) []).set 0 x0)).getD (Int.toNat x1.int) []).tail.tail.tail.headD dflt).rows), (T.l (((x2.rows.set (Int.toNat x1.int) ((x2.rows.getD (Int.toNat x1.int) []).set 0 x0)).getD (Int.toNat x1.int) []).tail.tail.tail.tail.headD dflt).rows)]).set (Int.toNat x1.int) ((((x2.rows.set (Int.toNat x1.int) ((x2.rows.getD (Int.toNat x1.int) []).set 0 x0)).set (Int.toNat x1.int) [(((x2.rows.set (Int.toNat x1.int) ((x2.rows.getD (Int.toNat x1.int) []).set 0 x0)).getD (Int.toNat x1.int) []).headD dflt), (T.l y1.rows), (((x2.rows.set (Int.toNat x1.int) ((x2.rows.getD (Int.toNat x1.int) []).set 0 x0)).getD (Int.toNat x1.int) []).tail.tail.headD dflt), (T.l (((x2.rows.set (Int.toNat x1.int) ((x2.rows.getD (Int.toNat x1.int) []).set 0 x0)).getD (Int.toNat x1.int) []).tail.tail.tail.headD dflt).rows), (T.l (((x2.rows.set (Int.toNat x1.int) ((x2.rows.getD (Int.toNat x1.int) []).set 0 x0)).getD (Int.toNat x1.int) []).tail.tail.tail.tail.headD dflt).rows)]).getD (Int.toNat x1.int) []).set 2 y0)).getD (Int.toNat x1.int) []).tail.headD dflt).rows), (((((x2.rows.set (Int.toNat x1.int) ((x2.rows.getD (Int.toNat x1.int) []).set 0 x0)).set (Int.toNat x1.int) [(((x2.rows.set (Int.toNat x1.int) ((x2.rows.getD (Int.toNat x1.int) []).set 0 x0)).getD (Int.toNat x1.int) []).headD dflt), (T.l y1.rows), (((x2.rows.set (Int.toNat x1.int) ((x2.rows.getD (Int.toNat x1.int) []).set 0 x0)).getD (Int.toNat x1.int) []).tail.tail.headD dflt), (T.l (((x2.rows.set (Int.toNat x1.int) ((x2.rows.getD (Int.toNat x1.int) []).set 0 x0)).getD (Int.toNat x1.int) []).tail.tail.tail.headD dflt).rows), (T.l (((x2.rows.set (Int.toNat x1.int) ((x2.rows.getD (Int.toNat x1.int) []).set 0 x0)).getD (Int.toNat x1.int) []).tail.tail.tail.tail.headD dflt).rows)]).set (Int.toNat x1.int) ((((x2.rows.set (Int.toNat x1.int) ((x2.rows.getD (Int.toNat x1.int) []).set 0 x0)).set (Int.toNat x1.int) [(((x2.rows.set (Int.toNat x1.int) ((x2.rows.getD (Int.toNat x1.int) []).set 0 x0)).getD (Int.toNat x1.int) []).headD dflt), (T.l y1.rows), (((x2.rows.set (Int.toNat x1.int) ((x2.rows.getD (Int.toNat x1.int) []).set 0 x0)).getD (Int.toNat x1.int) []).tail.tail.headD dflt), (T.l (((x2.rows.set (Int.toNat x1.int) ((x2.rows.getD (Int.toNat x1.int) []).set 0 x0)).getD (Int.toNat x1.int) []).tail.tail.tail.headD dflt).rows), (T.l (((x2.rows.set (Int.toNat x1.int) ((x2.rows.getD (Int.toNat x1.int) []).set 0 x0)).getD (Int.toNat x1.int) []).tail.tail.tail.tail.headD dflt).rows)]).getD (Int.toNat x1.int) []).set 2 y0)).getD (Int.toNat x1.int) []).tail.tail.headD dflt), (T.l y3.rows), (T.l (((((x2.rows.set (Int.toNat x1.int) ((x2.rows.getD (Int.toNat x1.int) []).set 0 x0)).set (Int.toNat x1.int) [(((x2.rows.set (Int.toNat x1.int) ((x2.rows.getD (Int.toNat x1.int) []).set 0 x0)).getD (Int.toNat x1.int) []).headD dflt), (T.l y1.rows), (((x2.rows.set (Int.toNat x1.int) ((x2.rows.getD (Int.toNat x1.int) []).set 0 x0)).getD (Int.toNat x1.int) []).tail.tail.headD dflt), (T.l (((x2.rows.set (Int.toNat x1.int) ((x2.rows.getD (Int.toNat x1.int) []).set 0 x0)).getD (Int.toNat x1.int) []).tail.tail.tail.headD dflt).rows), (T.l (((x2.rows.set (Int.toNat x1.int) ((x2.rows.getD (Int.toNat x1.int) []).set 0 x0)).getD (Int.toNat x1.int) []).tail.tail.tail.tail.headD dflt).rows)]).set (Int.toNat x1.int) ((((x2.rows.set (Int.toNat x1.int) ((x2.rows.getD (Int.toNat x1.int) []).set 0 x0)).set (Int.toNat x1.int) [(((x2.rows.set (Int.toNat x1.int) ((x2.rows.getD (Int.toNat x1.int) []).set 0 x0)).getD (Int.toNat x1.int) []).headD dflt), (T.l y1.rows), (((x2.rows.set (Int.toNat x1.int) ((x2.rows.getD (Int.toNat x1.int) []).set 0 x0)).getD (Int.toNat x1.int) []).tail.tail.headD dflt), (T.l (((x2.rows.set (Int.toNat x1.int) ((x2.rows.getD (Int.toNat x1.int) []).set 0 x0)).getD (Int.toNat x1.int) []).tail.tail.tail.headD dflt).rows), (T.l (((x2.rows.set (Int.toNat x1.int) ((x2.rows.getD (Int.toNat x1.int) []).set 0 x0)).getD (Int.toNat x1.int) []).tail.tail.tail.tail.headD dflt).rows)]).getD (Int.toNat x1.int) []).set 2 y0)).getD (Int.toNat x1.int) []).tail.tail.tail.tail.headD dflt).rows)]).getD (Int.toNat x1.int) []).headD dflt), (T.l ((((((x2.rows.set (Int.toNat x1.int) ((x2.rows.getD (Int.toNat x1.int) []).set 0 x0)).set (Int.toNat x1.int) [(((x2.rows.set (Int.toNat x1.int) ((x2.rows.getD (Int.toNat x1.int) []).set 0 x0)).getD (Int.toNat x1.int) []).headD dflt), (T.l y1.rows), (((x2.rows.set (Int.toNat x1.int) ((x2.rows.getD (Int.toNat x1.int) []).set 0 x0)).getD (Int.toNat x1.int) []).tail.tail.headD dflt), (T.l (((x2.rows.set (Int.toNat x1.int) ((x2.rows.getD (Int.toNat x1.int) []).set 0 x0)).getD (Int.toNat x1.int) []).tail.tail.tail.headD dflt).rows), (T.l (((x2.rows.set (Int.toNat x1.int) ((x2.rows.getD (Int.toNat x1.int) []).set 0 x0)).getD (Int.toNat x1.int) []).tail.tail.tail.tail.headD dflt).rows)]).set (Int.toNat x1.int) ((((x2.rows.set (Int.toNat x1.int) ((x2.rows.getD (Int.toNat x1.int) []).set 0 x0)).set (Int.toNat x1.int) [(((x2.rows.set (Int.toNat x1.int) ((x2.rows.getD (Int.toNat x1.int) []).set 0 x0)).getD (Int.toNat x1.int) []).headD dflt), (T.l y1.rows), (((x2.rows.set (Int.toNat x1.int) ((x2.rows.getD (Int.toNat x1.int) []).set 0 x0)).getD (Int.toNat x1.int) []).tail.tail.headD dflt), (T.l (((x2.rows.set (Int.toNat x1.int) ((x2.rows.getD (Int.toNat x1.int) []).set 0 x0)).getD (Int.toNat x1.int) []).tail.tail.tail.headD dflt).rows), (T.l (((x2.rows.set (Int.toNat x1.int) ((x2.rows.getD (Int.toNat x1.int) []).set 0 x0)).getD (Int.toNat x1.int) []).tail.tail.tail.tail.headD dflt).rows)]).getD (Int.toNat x1.int) []).set 2 y0)).set (Int.toNat x1.int) [(((((x2.rows.set (Int.toNat x1.int) ((x2.rows.getD (Int.toNat x1.int) []).set 0 x0)).set (Int.toNat x1.int) [(((x2.rows.set (Int.toNat x1.int) ((x2.rows.getD (Int.toNat x1.int) []).set 0 x0)).getD (Int.toNat x1.int) []).headD dflt), (T.l y1.rows), (((x2.rows.set (Int.toNat x1.int) ((x2.rows.getD (Int.toNat x1.int) []).set 0 x0)).getD (Int.toNat x1.int) []).tail.tail.headD dflt), (T.l (((x2.rows.set (Int.toNat x1.int) ((x2.rows.getD (Int.toNat x1.int) []).set 0 x0)).getD (Int.toNat x1.int) []).tail.tail.tail.headD dflt).rows), (T.l (((x2.rows.set (Int.toNat x1.int) ((x2.rows.getD (Int.toNat x1.int) []).set 0 x0)).getD (Int.toNat x1.int) []).tail.tail.tail.tail.headD dflt).rows)]).set (Int.toNat x1.int) ((((x2.rows.set (Int.toNat x1.int) ((x2.rows.getD (Int.toNat x1.int) []).set 0 x0)).set (Int.toNat x1.int) [(((x2.rows.set (Int.toNat x1.int) ((x2.rows.getD (Int.toNat x1.int) []).set 0 x0)).getD (Int.toNat x1.int) []).headD dflt), (T.l y1.rows), (((x2.rows.set (Int.toNat x1.int) ((x2.rows.getD (Int.toNat x1.int) []).set 0 x0)).getD (Int.toNat x1.int) []).tail.tail.headD dflt), (T.l (((x2.rows.set (Int.toNat x1.int) ((x2.rows.getD (Int.toNat x1.int) []).set 0 x0)).getD (Int.toNat x1.int) []).tail.tail.tail.headD dflt).rows), (T.l (((x2.rows.set (Int.toNat x1.int) ((x2.rows.getD (Int.toNat x1.int) []).set 0 x0)).getD (Int.toNat x1.int) []).tail.tail.tail.tail.headD dflt).rows)]).getD (Int.toNat x1.int) []).set 2 y0)).getD (Int.toNat x1.int) []).headD dflt), (T.l (((((x2.rows.set (Int.toNat x1.int) ((x2.rows.getD (Int.toNat x1.int) []).set 0 x0)).set (Int.toNat x1.int) [(((x2.rows.set (Int.toNat x1.int) ((x2.rows.getD (Int.toNat x1.int) []).set 0 x0)).getD (Int.toNat x1.int) []).headD dflt), (T.l y1.rows), (((x2.rows.set (Int.toNat x1.int) ((x2.rows.getD (Int.toNat x1.int) []).set 0 x0)).getD (Int.toNat x1.int) []).tail.tail.headD dflt), (T.l (((x2.rows.set (Int.toNat x1.int) ((x2.rows.getD (Int.toNat x1.int) []).set 0 x0)).getD (Int.toNat x1.int) []).tail.tail.tail.headD dflt).rows), (T.l (((x2.rows.set (Int.toNat x1.int) ((x2.rows.getD (Int.toNat x1.int) []).set 0 x0)).getD (Int.toNat x1.int) []).tail.tail.tail.tail.headD dflt).rows)]).set (Int.toNat x1.int) ((((x2.rows.set (Int.toNat x1.int) ((x2.rows.getD (Int.toNat x1.int) []).set 0 x0)).set (Int.toNat x1.int) [(((x2.rows.set (Int.toNat x1.int) ((x2.rows.getD (Int.toNat x1.int) []).set 0 x0)).getD (Int.toNat x1.int) []).headD dflt), (T.l y1.rows), (((x2.rows.set (Int.toNat x1.int) ((x2.rows.getD (Int.toNat x1.int) []).set 0 x0)).getD (Int.toNat x1.int) []).tail.tail.headD dflt), (T.l (((x2.rows.set (Int.toNat x1.int) ((x2.rows.getD (Int.toNat x1.int) []).set 0 x0)).getD (Int.toNat x1.int) []).tail.tail.tail.headD dflt).rows), (T.l (((x2.rows.set (Int.toNat x1.int) ((x2.rows.getD (Int.toNat x1.int) []).set 0 x0)).getD (Int.toNat x1.int) []).tail.tail.tail.tail.headD dflt).rows)]).getD (Int.toNat x1.int) []).set 2 y0)).getD (Int.toNat x1.int) []).tail.headD dflt).rows), (((((x2.rows.set (Int.toNat x1.int) ((x2.rows.getD (Int.toNat x1.int) []).set 0 x0)).set (Int.toNat x1.int) [(((x2.rows.set (Int.toNat x1.int) ((x2.rows.getD (Int.toNat x1.int) []).set 0 x0)).getD (Int.toNat x1.int) []).headD dflt), (T.l y1.rows), (((x2.rows.set (Int.toNat x1.int) ((x2.rows.getD (Int.toNat x1.int) []).set 0 x0)).getD (Int.toNat x1.int) []).tail.tail.headD dflt), (T.l (((x2.rows.set (Int.toNat x1.int) ((x2.rows.getD (Int.toNat x1.int) []).set 0 x0)).getD (Int.toNat x1.int) []).tail.tail.tail.headD dflt).rows), (T.l (((x2.rows.set (Int.toNat x1.int) ((x2.rows.getD (Int.toNat x1.int) []).set 0 x0)).getD (Int.toNat x1.int) []).tail.tail.tail.tail.headD dflt).rows)]).set (Int.toNat x1.int) ((((x2.rows.set (Int.toNat x1.int) ((x2.rows.getD (Int.toNat x1.int) []).set 0 x0)).set (Int.toNat x1.int) [(((x2.rows.set (Int.toNat x1.int) ((x2.rows.getD (Int.toNat x1.int) []).set 0 x0)).getD (Int.toNat x1.int) []).headD dflt), (T.l y1.rows), (((x2.rows.set (Int.toNat x1.int) ((x2.rows.getD (Int.toNat x1.int) []).set 0 x0)).getD (Int.toNat x1.int) []).tail.tail.headD dflt), (T.l (((x2.rows.set (Int.toNat x1.int) ((x2.rows.getD (Int.toNat x1.int) []).set 0 x0)).getD (Int.toNat x1.int) []).tail.tail.tail.headD dflt).rows), (T.l (((x2.rows.set (Int.toNat x1.int) ((x2.rows.getD (Int.toNat x1.int) []).set 0 x0)).getD (Int.toNat x1.int) []).tail.tail.tail.tail.headD dflt).rows)]).getD (Int.toNat x1.int) []).set 2 y0)).getD (Int.toNat x1.int) []).tail.tail.headD dflt), (T.l y3.rows), (T.l (((((x2.rows.set (Int.toNat x1.int) ((x2.rows.getD (Int.toNat x1.int) []).set 0 x0)).set (Int.toNat x1.int) [(((x2.rows.set (Int.toNat x1.int) ((x2.rows.getD (Int.toNat x1.int) []).set 0 x0)).getD (Int.toNat x1.int) []).headD dflt), (T.l y1.rows), (((x2.rows.set (Int.toNat x1.int) ((x2.rows.getD (Int.toNat x1.int) []).set 0 x0)).getD (Int.toNat x1.int) []).tail.tail.headD dflt), (T.l (((x2.rows.set (Int.toNat x1.int) ((x2.rows.getD (Int.toNat x1.int) []).set 0 x0)).getD (Int.toNat x1.int) []).tail.tail.tail.headD dflt).rows), (T.l (((x2.rows.set (Int.toNat x1.int) ((x2.rows.getD (Int.toNat x1.int) []).set 0 x0)).getD (Int.toNat x1.int) []).tail.tail.tail.tail.headD dflt).rows)]).set (Int.toNat x1.int) ((((x2.rows.set (Int.toNat x1.int) ((x2.rows.getD (Int.toNat x1.int) []).set 0 x0)).set (Int.toNat x1.int) [(((x2.rows.set (Int.toNat x1.int) ((x2.rows.getD (Int.toNat x1.int) []).set 0 x0)).getD (Int.toNat x1.int) []).headD dflt), (T.l y1.rows), (((x2.rows.set (Int.toNat x1.int) ((x2.rows.getD (Int.toNat x1.int) []).set 0 x0)).getD (Int.toNat x1.int) []).tail.tail.headD dflt), (T.l (((x2.rows.set (Int.toNat x1.int) ((x2.rows.getD (Int.toNat x1.int) []).set 0 x0)).getD (Int.toNat x1.int) []).tail.tail.tail.headD dflt).rows), (T.l (((x2.rows.set (Int.toNat x1.int) ((x2.rows.getD (Int.toNat x1.int) []).set 0 x0)).getD (Int.toNat x1.int) []).tail.tail.tail.tail.headD dflt).rows)]).getD (Int.toNat x1.int) []).set 2 y0)).getD (Int.toNat x1.int) []).tail.tail.tail.tail.headD dflt).rows)]).getD (Int.toNat x1.int) []).tail.headD dflt).rows), ((((((x2.rows.set (Int.toNat x1.int) ((x2.rows.getD (Int.toNat x1.int) []).set 0 x0)).set (Int.toNat x1.int) [(((x2.rows.set (Int.toNat x1.int) ((x2.rows.getD (Int.toNat x1.int) []).set 0 x0)).getD (Int.toNat x1.int) []).headD dflt), (T.l y1.rows), (((x2.rows.set (Int.toNat x1.int) ((x2.rows.getD (Int.toNat x1.int) []).set 0 x0)).getD (Int.toNat x1.int) []).tail.tail.headD dflt), (T.l (((x2.rows.set (Int.toNat x1.int) ((x2.rows.getD (Int.toNat x1.int) []).set 0 x0)).getD (Int.toNat x1.int) []).tail.tail.tail.headD dflt).rows), (T.l (((x2.rows.set (Int.toNat x1.int) ((x2.rows.getD (Int.toNat x1.int) []).set 0 x0)).getD (Int.toNat x1.int) []).tail.tail.tail.tail.headD dflt).rows)]).set (Int.toNat x1.int) ((((x2.rows.set (Int.toNat x1.int) ((x2.rows.getD (Int.toNat x1.int) []).set 0 x0)).set (Int.toNat x1.int) [(((x2.rows.set (Int.toNat x1.int) ((x2.rows.getD (Int.toNat x1.int) []).set 0 x0)).getD (Int.toNat x1.int) []).headD dflt), (T.l y1.rows), (((x2.rows.set (Int.toNat x1.int) ((x2.rows.getD (Int.toNat x1.int) []).set 0 x0)).getD (Int.toNat x1.int) []).tail.tail.headD dflt), (T.l (((x2.rows.set (Int.toNat x1.int) ((x2.rows.getD (Int.toNat x1.int) []).set 0 x0)).getD (Int.toNat x1.int) []).tail.tail.tail.headD dflt).rows), (T.l (((x2.rows.set (Int.toNat x1.int) ((x2.rows.getD (Int.toNat x1.int) []).set 0 x0)).getD (Int.toNat x1.int) []).tail.tail.tail.tail.headD dflt).rows)]).getD (Int.toNat x1.int) []).set 2 y0)).set (Int.toNat x1.int) [(((((x2.rows.set (Int.toNat x1.int) ((x2.rows.getD (Int.toNat x1.int) []).set 0 x0)).set (Int.toNat x1.int) [(((x2.rows.set (Int.toNat x1.int) ((x2.rows.getD (Int.toNat x1.int) []).set 0 x0)).getD (Int.toNat x1.int) []).headD dflt), (T.l y1.rows), (((x2.rows.set (Int.toNat x1.int) ((x2.rows.getD (Int.toNat x1.int) []).set 0 x0)).getD (Int.toNat x1.int) []).tail.tail.headD dflt), (T.l (((x2.rows.set (Int.toNat x1.int) ((x2.rows.getD (Int.toNat x1.int) []).set 0 x0)).getD (Int.toNat x1.int) []).tail.tail.tail.headD dflt).rows), (T.l (((x2.rows.set (Int.toNat x1.int) ((x2.rows.getD (Int.toNat x1.int) []).set 0 x0)).getD (Int.toNat x1.int) []).tail.tail.tail.tail.headD dflt).rows)]).set (Int.toNat x1.int) ((((x2.rows.set (Int.toNat x1.int) ((x2.rows.getD (Int.toNat x1.int) []).set 0 x0)).set (Int.toNat x1.int) [(((x2.rows.set (Int.toNat x1.int) ((x2.rows.getD (Int.toNat x1.int) []).set 0 x0)).getD (Int.toNat x1.int) []).headD dflt), (T.l y1.rows), (((x2.rows.set (Int.toNat x1.int) ((x2.rows.getD (Int.toNat x1.int) []).set 0 x0)).getD (Int.toNat x1.int) []).tail.tail.headD dflt), (T.l (((x2.rows.set (Int.toNat x1.int) ((x2.rows.getD (Int.toNat x1.int) []).set 0 x0)).getD (Int.toNat x1.int) []).tail.tail.tail.headD dflt).rows), (T.l (((x2.rows.set (Int.toNat x1.int) ((x2.rows.getD (Int.toNat x1.int) []).set 0 x0)).getD (Int.toNat x1.int) []).tail.tail.tail.tail.headD dflt).rows)]).getD (Int.toNat x1.int) []).set 2 y0)).getD (Int.toNat x1.int) []).headD dflt), (T.l (((((x2.rows.set (Int.toNat x1.int) ((x2.rows.getD (Int.toNat x1.int) []).set 0 x0)).set (Int.toNat x1.int) [(((x2.rows.set (Int.toNat x1.int) ((x2.rows.getD (Int.toNat x1.int) []).set 0 x0)).getD (Int.toNat x1.int) []).headD dflt), (T.l y1.rows), (((x2.rows.set (Int.toNat x1.int) ((x2.rows.getD (Int.toNat x1.int) []).set 0 x0)).getD (Int.toNat x1.int) []).tail.tail.headD dflt), (T.l (((x2.rows.set (Int.toNat x1.int) ((x2.rows.getD (Int.toNat x1.int) []).set 0 x0)).getD (Int.toNat x1.int) []).tail.tail.tail.headD dflt).rows), (T.l (((x2.rows.set (Int.toNat x1.int) ((x2.rows.getD (Int.toNat x1.int) []).set 0 x0)).getD (Int.toNat x1.int) []).tail.tail.tail.tail.headD dflt).rows)]).set (Int.toNat x1.int) ((((x2.rows.set (Int.toNat x1.int) ((x2.rows.getD (Int.toNat x1.int) []).set 0 x0)).set (Int.toNat x1.int) [(((x2.rows.set (Int.toNat x1.int) ((x2.rows.getD (Int.toNat x1.int) []).set 0 x0)).getD (Int.toNat x1.int) []).headD dflt), (T.l y1.rows), (((x2.rows.set (Int.toNat x1.int) ((x2.rows.getD (Int.toNat x1.int) []).set 0 x0)).getD (Int.toNat x1.int) []).tail.tail.headD dflt), (T.l (((x2.rows.set (Int.toNat x1.int) ((x2.rows.getD (Int.toNat x1.int) []).set 0 x0)).getD (Int.toNat x1.int) []).tail.tail.tail.headD dflt).rows), (T.l (((x2.rows.set (Int.toNat x1.int) ((x2.rows.getD (Int.toNat x1.int) []).set 0 x0)).getD (Int.toNat x1.int) []).tail.tail.tail.tail.headD dflt).rows)]).getD (Int.toNat x1.int) []).set 2 y0)).getD (Int.toNat x1.int) []).tail.headD dflt).rows), (((((x2.rows.set (Int.toNat x1.int) ((x2.rows.getD (Int.toNat x1.int) []).set 0 x0)).set (Int.toNat x1.int) [(((x2.rows.set (Int.toNat x1.int) ((x2.rows.getD (Int.toNat x1.int) []).set 0 x0)).getD (Int.toNat x1.int) []).headD dflt), (T.l y1.rows), (((x2.rows.set (Int.toNat x1.int) ((x2.rows.getD (Int.toNat x1.int) []).set 0 x0)).getD (Int.toNat x1.int) []).tail.tail.headD dflt), (T.l (((x2.rows.set (Int.toNat x1.int) ((x2.rows.getD (Int.toNat x1.int) []).set 0 x0)).getD (Int.toNat x1.int) []).tail.tail.tail.headD dflt).rows), (T.l (((x2.rows.set (Int.toNat x1.int) ((x2.rows.getD (Int.toNat x1.int) []).set 0 x0)).getD (Int.toNat x1.int) []).tail.tail.tail.tail.headD dflt).rows)]).set (Int.toNat x1.int) ((((x2.rows.set (Int.toNat x1.int) ((x2.rows.getD (Int.toNat x1.int) []).set 0 x0)).set (Int.toNat x1.int) [(((x2.rows.set (Int.toNat x1.int) ((x2.rows.getD (Int.toNat x1.int) []).set 0 x0)).getD (Int.toNat x1.int) []).headD dflt), (T.l y1.rows), (((x2.rows.set (Int.toNat x1.int) ((x2.rows.getD (Int.toNat x1.int) []).set 0 x0)).getD (Int.toNat x1.int) []).tail.tail.headD dflt), (T.l (((x2.rows.set (Int.toNat x1.int) ((x2.rows.getD (Int.toNat x1.int) []).set 0 x0)).getD (Int.toNat x1.int) []).tail.tail.tail.headD dflt).rows), (T.l (((x2.rows.set (Int.toNat x1.int) ((x2.rows.getD (Int.toNat x1.int) []).set 0 x0)).getD (Int.toNat x1.int) []).tail.tail.tail.tail.headD dflt).rows)]).getD (Int.toNat x1.int) []).set 2 y0)).getD (Int.toNat x1.int) []).tail.tail.headD dflt), (T.l y3.rows), (T.l (((((x2.rows.set (Int.toNat x1.int) ((x2.rows.getD (Int.toNat x1.int) []).set 0 x0)).set (Int.toNat x1.int) [(((x2.rows.set (Int.toNat x1.int) ((x2.rows.getD (Int.toNat x1.int) []).set 0 x0)).getD (Int.toNat x1.int) []).headD dflt), (T.l y1.rows), (((x2.rows.set (Int.toNat x1.int) ((x2.rows.getD (Int.toNat x1.int) []).set 0 x0)).getD (Int.toNat x1.int) []).tail.tail.headD dflt), (T.l (((x2.rows.set (Int.toNat x1.int) ((x2.rows.getD (Int.toNat x1.int) []).set 0 x0)).getD (Int.toNat x1.int) []).tail.tail.tail.headD dflt).rows), (T.l (((x2.rows.set (Int.toNat x1.int) ((x2.rows.getD (Int.toNat x1.int) []).set 0 x0)).getD (Int.toNat x1.int) []).tail.tail.tail.tail.headD dflt).rows)]).set (Int.toNat x1.int) ((((x2.rows.set (Int.toNat x1.int) ((x2.rows.getD (Int.toNat x1.int) []).set 0 x0)).set (Int.toNat x1.int) [(((x2.rows.set (Int.toNat x1.int) ((x2.rows.getD (Int.toNat x1.int) []).set 0 x0)).getD (Int.toNat x1.int) []).headD dflt), (T.l y1.rows), (((x2.rows.set (Int.toNat x1.int) ((x2.rows.getD (Int.toNat x1.int) []).set 0 x0)).getD (Int.toNat x1.int) []).tail.tail.headD dflt), (T.l (((x2.rows.set (Int.toNat x1.int) ((x2.rows.getD (Int.toNat x1.int) []).set 0 x0)).getD (Int.toNat x1.int) []).tail.tail.tail.headD dflt).rows), (T.l (((x2.rows.set (Int.toNat x1.int) ((x2.rows.getD (Int.toNat x1.int) []).set 0 x0)).getD (Int.toNat x1.int) []).tail.tail.tail.tail.headD dflt).rows)]).getD (Int.toNat x1.int) []).set 2 y0)).getD (Int.toNat x1.int) []).tail.tail.tail.tail.headD dflt).rows)]).getD (Int.toNat x1.int) []).tail.tail.headD dflt), (T.l ((((((x2.rows.set (Int.toNat x1.int) ((x2.rows.getD (Int.toNat x1.int) []).set 0 x0)).set (Int.toNat x1.int) [(((x2.rows.set (Int.toNat x1.int) ((x2.rows.getD (Int.toNat x1.int) []).set 0 x0)).getD (Int.toNat x1.int) []).headD dflt), (T.l y1.rows), (((x2.rows.set (Int.toNat x1.int) ((x2.rows.getD (Int.toNat x1.int) []).set 0 x0)).getD (Int.toNat x1.int) []).tail.tail.headD dflt), (T.l (((x2.rows.set (Int.toNat x1.int) ((x2.rows.getD (Int.toNat x1.int) []).set 0 x0)).getD (Int.toNat x1.int) []).tail.tail.tail.headD dflt).rows), (T.l (((x2.rows.set (Int.toNat x1.int) ((x2.rows.getD (Int.toNat x1.int) []).set 0 x0)).getD (Int.toNat x1.int) []).tail.tail.tail.tail.headD dflt).rows)]).set (Int.toNat x1.int) ((((x2.rows.set (Int.toNat x1.int) ((x2.rows.getD (Int.toNat x1.int) []).set 0 x0)).set (Int.toNat x1.int) [(((x2.rows.set (Int.toNat x1.int) ((x2.rows.getD (Int.toNat x1.int) []).set 0 x0)).getD (Int.toNat x1.int) []).headD dflt), (T.l y1.rows), (((x2.rows.set (Int.toNat x1.int) ((x2.rows.getD (Int.toNat x1.int) []).set 0 x0)).getD (Int.toNat x1.int) []).tail.tail.headD dflt), (T.l (((x2.rows.set (Int.toNat x1.int) ((x2.rows.getD (Int.toNat x1.int) []).set 0 x0)).getD (Int.toNat x1.int) []).tail.tail.tail.headD dflt).rows), (T.l (((x2.rows.set (Int.toNat x1.int) ((x2.rows.getD (Int.toNat x1.int) []).set 0 x0)).getD (Int.toNat x1.int) []).tail.tail.tail.tail.headD dflt).rows)]).getD (Int.toNat x1.int) []).set 2 y0)).set (Int.toNat x1.int) [(((((x2.rows.set (Int.toNat x1.int) ((x2.rows.getD (Int.toNat x1.int) []).set 0 x0)).set (Int.toNat x1.int) [(((x2.rows.set (Int.toNat x1.int) ((x2.rows.getD (Int.toNat x1.int) []).set 0 x0)).getD (Int.toNat x1.int) []).headD dflt), (T.l y1.rows), (((x2.rows.set (Int.toNat x1.int) ((x2.rows.getD (Int.toNat x1.int) []).set 0 x0)).getD (Int.toNat x1.int) []).tail.tail.headD dflt), (T.l (((x2.rows.set (Int.toNat x1.int) ((x2.rows.getD (Int.toNat x1.int) []).set 0 x0)).getD (Int.toNat x1.int) []).tail.tail.tail.headD dflt).rows), (T.l (((x2.rows.set (Int.toNat x1.int) ((x2.rows.getD (Int.toNat x1.int) []).set 0 x0)).getD (Int.toNat x1.int) []).tail.tail.tail.tail.headD dflt).rows)]).set (Int.toNat x1.int) ((((x2.rows.set (Int.toNat x1.int) ((x2.rows.getD (Int.toNat x1.int) []).set 0 x0)).set (Int.toNat x1.int) [(((x2.rows.set (Int.toNat x1.int) ((x2.rows.getD (Int.toNat x1.int) []).set 0 x0)).getD (Int.toNat x1.int) []).headD dflt), (T.l y1.rows), (((x2.rows.set (Int.toNat x1.int) ((x2.rows.getD (Int.toNat x1.int) []).set 0 x0)).getD (Int.toNat x1.int) []).tail.tail.headD dflt), (T.l (((x2.rows.set (Int.toNat x1.int) ((x2.rows.getD (Int.toNat x1.int) []).set 0 x0)).getD (Int.toNat x1.int) []).tail.tail.tail.headD dflt).rows), (T.l (((x2.rows.set (Int.toNat x1.int) ((x2.rows.getD (Int.toNat x1.int) []).set 0 x0)).getD (Int.toNat x1.int) []).tail.tail.tail.tail.headD dflt).rows)]).getD (Int.toNat x1.int) []).set 2 y0)).getD (Int.toNat x1.int) []).headD dflt), (T.l (((((x2.rows.set (Int.toNat x1.int) ((x2.rows.getD (Int.toNat x1.int) []).set 0 x0)).set (Int.toNat x1.int) [(((x2.rows.set (Int.toNat x1.int) ((x2.rows.getD (Int.toNat x1.int) []).set 0 x0)).getD (Int.toNat x1.int) []).headD dflt), (T.l y1.rows), (((x2.rows.set (Int.toNat x1.int) ((x2.rows.getD (Int.toNat x1.int) []).set 0 x0)).getD (Int.toNat x1.int) []).tail.tail.headD dflt), (T.l (((x2.rows.set (Int.toNat x1.int) ((x2.rows.getD (Int.toNat x1.int) []).set 0 x0)).getD (Int.toNat x1.int) []).tail.tail.tail.headD dflt).rows), (T.l (((x2.rows.set (Int.toNat x1.int) ((x2.rows.getD (Int.toNat x1.int) []).set 0 x0)).getD (Int.toNat x1.int) []).tail.tail.tail.tail.headD dflt).rows)]).set (Int.toNat x1.int) ((((x2.rows.set (Int.toNat x1.int) ((x2.rows.getD (Int.toNat x1.int) []).set 0 x0)).set (Int.toNat x1.int) [(((x2.rows.set (Int.toNat x1.int) ((x2.rows.getD (Int.toNat x1.int) []).set 0 x0)).getD (Int.toNat x1.int) []).headD dflt), (T.l y1.rows), (((x2.rows.set (Int.toNat x1.int) ((x2.rows.getD (Int.toNat x1.int) []).set 0 x0)).getD (Int.toNat x1.int) []).tail.tail.headD dflt), (T.l (((x2.rows.set (Int.toNat x1.int) ((x2.rows.getD (Int.toNat x1.int) []).set 0 x0)).getD (Int.toNat x1.int) []).tail.tail.tail.headD dflt).rows), (T.l (((x2.rows.set (Int.toNat x1.int) ((x2.rows.getD (Int.toNat x1.int) []).set 0 x0)).getD (Int.toNat x1.int) []).tail.tail.tail.tail.headD dflt).rows)]).getD (Int.toNat x1.int) []).set 2 y0)).getD (Int.toNat x1.int) []).tail.headD dflt).rows), (((((x2.rows.set (Int.toNat x1.int) ((x2.rows.getD (Int.toNat x1.int) []).set 0 x0)).set (Int.toNat x1.int) [(((x2.rows.set (Int.toNat x1.int) ((x2.rows.getD (Int.toNat x1.int) []).set 0 x0)).getD (Int.toNat x1.int) []).headD dflt), (T.l y1.rows), (((x2.rows.set (Int.toNat x1.int) ((x2.rows.getD (Int.toNat x1.int) []).set 0 x0)).getD (Int.toNat x1.int) []).tail.tail.headD dflt), (T.l (((x2.rows.set (Int.toNat x1.int) ((x2.rows.getD (Int.toNat x1.int) []).set 0 x0)).getD (Int.toNat x1.int) []).tail.tail.tail.headD dflt).rows), (T.l (((x2.rows.set (Int.toNat x1.int) ((x2.rows.getD (Int.toNat x1.int) []).set 0 x0)).getD (Int.toNat x1.int) []).tail.tail.tail.tail.headD dflt).rows)]).set (Int.toNat x1.int) ((((x2.rows.set (Int.toNat x1.int) ((x2.rows.getD (Int.toNat x1.int) []).set 0 x0)).set (Int.toNat x1.int) [(((x2.rows.set (Int.toNat x1.int) ((x2.rows.getD (Int.toNat x1.int) []).set 0 x0)).getD (Int.toNat x1.int) []).headD dflt), (T.l y1.rows), (((x2.rows.set (Int.toNat x1.int) ((x2.rows.getD (Int.toNat x1.int) []).set 0 x0)).getD (Int.toNat x1.int) []).tail.tail.headD dflt), (T.l (((x2.rows.set (Int.toNat x1.int) ((x2.rows.getD (Int.toNat x1.int) []).set 0 x0)).getD (Int.toNat x1.int) []).tail.tail.tail.headD dflt).rows), (T.l (((x2.rows.set (Int.toNat x1.int) ((x2.rows.getD (Int.toNat x1.int) []).set 0 x0)).getD (Int.toNat x1.int) []).tail.tail.tail.tail.headD dflt).rows)]).getD (Int.toNat x1.int) []).set 2 y0)).getD (Int.toNat x1.int) []).tail.tail.headD dflt), (T.l y3.rows), (T.l (((((x2.rows.set (Int.toNat x1.int) ((x2.rows.getD (Int.toNat x1.int) []).set 0 x0)).set (Int.toNat x1.int) [(((x2.rows.set (Int.toNat x1.int) ((x2.rows.getD (Int.toNat x1.int) []).set 0 x0)).getD (Int.toNat x1.int) []).headD dflt), (T.l y1.rows), (((x2.rows.set (Int.toNat x1.int) ((x2.rows.getD (Int.toNat x1.int) []).set 0 x0)).getD (Int.toNat x1.int) []).tail.tail.headD dflt), (T.l (((x2.rows.set (Int.toNat x1.int) ((x2.rows.getD (Int.toNat x1.int) []).set 0 x0)).getD (Int.toNat x1.int) []).tail.tail.tail.headD dflt).rows), (T.l (((x2.rows.set (Int.toNat x1.int) ((x2.rows.getD (Int.toNat x1.int) []).set 0 x0)).getD (Int.toNat x1.int) []).tail.tail.tail.tail.headD dflt).rows)]).set (Int.toNat x1.int) ((((x2.rows.set (Int.toNat x1.int) ((x2.rows.getD (Int.toNat x1.int) []).set 0 x0)).set (Int.toNat x1.int) [(((x2.rows.set (Int.toNat x1.int) ((x2.rows.getD (Int.toNat x1.int) []).set 0 x0)).getD (Int.toNat x1.int) []).headD dflt), (T.l y1.rows), (((x2.rows.set (Int.toNat x1.int) ((x2.rows.getD (Int.toNat x1.int) []).set 0 x0)).getD (Int.toNat x1.int) []).tail.tail.headD dflt), (T.l (((x2.rows.set (Int.toNat x1.int) ((x2.rows.getD (Int.toNat x1.int) []).set 0 x0)).getD (Int.toNat x1.int) []).tail.tail.tail.headD dflt).rows), (T.l (((x2.rows.set (Int.toNat x1.int) ((x2.rows.getD (Int.toNat x1.int) []).set 0 x0)).getD (Int.toNat x1.int) []).tail.tail.tail.tail.headD dflt).rows)]).getD (Int.toNat x1.int) []).set 2 y0)).getD (Int.toNat x1.int) []).tail.tail.tail.tail.headD dflt).rows)]).getD (Int.toNat x1.int) []).tail.tail.tail.headD dflt).rows), (T.l y5.rows)])) k0))
    (.bad))
    (.bad))
    (.bad)))
    (.bad))
    (.bad))
    (.bad))
    (.bad))
    (.bad)))
    (.bad))
    (.bad))
    (.bad))
    (.bad))
    (.bad))
    (k0 x0 (T.l x2.rows))
noncomputable def laws_markShardS_s0_0 : Pack := ⟨[(0, .one ⟨.al [0, 0] 0, .sl [.sc (.int .i64), .sl [.sc (.int .i64), .sc (.int .i64), .sl [.sc (.int .i64), .sc (.str), .sc (.str)]], .sc (.int .i64), .sl [.sc (.str), .sc (.str)], .sl [.sc (.int .i64), .sc (.int .i64), .sl [.sc (.int .i64), .sc (.str), .sc (.str)]]], .l []⟩), (1, .one ⟨.sc, .sc (.int .i64), .l []⟩), (5, .one ⟨.sc, .sc (.int .i64), .l []⟩)], [([0, 0], .row [.sc (.int .i64), .sl [.sc (.int .i64), .sc (.int .i64), .sl [.sc (.int .i64), .sc (.str), .sc (.str)]], .sc (.int .i64), .sl [.sc (.str), .sc (.str)], .sl [.sc (.int .i64), .sc (.int .i64), .sl [.sc (.int .i64), .sc (.str), .sc (.str)]]] [.F, .O [.F, .F, .O [.F, .F, .F]], .F, .O [.F, .F], .O [.F, .F, .O [.F, .F, .F]]] [])]⟩
noncomputable def laws_markShardS_e0_0 : Pack := ⟨[(0, .one ⟨.al [0, 0] 0, .sl [.sc (.int .i64), .sl [.sc (.int .i64), .sc (.int .i64), .sl [.sc (.int .i64), .sc (.str), .sc (.str)]], .sc (.int .i64), .sl [.sc (.str), .sc (.str)], .sl [.sc (.int .i64), .sc (.int .i64), .sl [.sc (.int .i64), .sc (.str), .sc (.str)]]], .l []⟩), (1, .one ⟨.sc, .sc (.int .i64), .l []⟩)], [([0, 0], .row [.sc (.int .i64), .sl [.sc (.int .i64), .sc (.int .i64), .sl [.sc (.int .i64), .sc (.str), .sc (.str)]], .sc (.int .i64), .sl [.sc (.str), .sc (.str)], .sl [.sc (.int .i64), .sc (.int .i64), .sl [.sc (.int .i64), .sc (.str), .sc (.str)]]] [.F, .O [.F, .F, .O [.F, .F, .F]], .F, .O [.F, .F], .O [.F, .F, .O [.F, .F, .F]]] [])]⟩
noncomputable def laws_markShardS_L0_0w (m n : Nat) (vs : List T) (k : Ctl → Pack → An) : An := laws_markShardS_L0_0 m n (vs.headD dflt) (vs.tail.headD dflt) (vs.tail.tail.headD dflt) (fun z0 z1 => k (.exit 0) (fPack laws_markShardS_e0_0 [z0, z1]))
noncomputable def laws_markShardS : Nat → T → T → (T → T → An) → An
  | 0, _, _, _ => .bad
  | m + 1, x0, x1, k0 =>
    laws_markShardS_L0_0 m m x1 (T.i 0) (T.l x0.rows)
    (fun y6 y7 => k0 y6 (T.l y7.rows))
noncomputable def laws_markShardS_a : List Arg := [.one (.own [.sc (.int .i64), .sl [.sc (.int .i64), .sc (.int .i64), .sl [.sc (.int .i64), .sc (.str), .sc (.str)]], .sc (.int .i64), .sl [.sc (.str), .sc (.str)], .sl [.sc (.int .i64), .sc (.int .i64), .sl [.sc (.int .i64), .sc (.str), .sc (.str)]]] [.F, .O [.F, .F, .O [.F, .F, .F]], .F, .O [.F, .F], .O [.F, .F, .O [.F, .F, .F]]] []), .one (.sc (.int .i64) (.l []))]
noncomputable def laws_markShardS_w (m : Nat) (vs : List T) (k : Ret → An) : An := laws_markShardS m (vs.headD dflt) (vs.tail.headD dflt) (fun z0 z1 => k ⟨[.one (.sc (.int .i64) z0)], [[some ([.sc (.int .i64), .sl [.sc (.int .i64), .sc (.int .i64), .sl [.sc (.int .i64), .sc (.str), .sc (.str)]], .sc (.int .i64), .sl [.sc (.str), .sc (.str)], .sl [.sc (.int .i64), .sc (.int .i64), .sl [.sc (.int .i64), .sc (.str), .sc (.str)]]], [.F, .O [.F, .F, .O [.F, .F, .F]], .F, .O [.F, .F], .O [.F, .F, .O [.F, .F, .F]]], z1.rows)], [none]], [none, none]⟩)
theorem laws_markShardS_cf (m : Nat) : callK CX prims m = (patC 60 laws_markRecS_a (laws_markRecS_w m) (patC 12 laws_markPairS_a (laws_markPairS_w m) (callK CX prims m))) := by
  rw [← patC_eq (fun vs k => laws_markPairS_eq m vs k), ← patC_eq (fun vs k => laws_markRecS_eq m vs k)]
noncomputable def laws_markShardS_c : Code := (Try.f35.body).getD .skip
noncomputable def laws_markShardS_fi : Fi := ⟨35, 2, 48, 17⟩
theorem laws_markShardS_lf (m : Nat) : ∀ n, (∀ vs k, loopK CX (callK CX prims m) laws_markShardS_fi laws_markShardS_c n [0, 1, 0, 1] (fPack laws_markShardS_s0_0 vs) k = laws_markShardS_L0_0w m n vs k) ∧ ((loopK CX (callK CX prims m) laws_markShardS_fi laws_markShardS_c n) = (patL [0, 1, 0, 1] laws_markShardS_s0_0 (laws_markShardS_L0_0w m n) (loopK CX (callK CX prims m) laws_markShardS_fi laws_markShardS_c n))) := by
  intro n
  have hl : ∀ n, (∀ vs k, loopK CX (callK CX prims m) laws_markShardS_fi laws_markShardS_c n [0, 1, 0, 1] (fPack laws_markShardS_s0_0 vs) k = laws_markShardS_L0_0w m n vs k) → ((loopK CX (callK CX prims m) laws_markShardS_fi laws_markShardS_c n) = (patL [0, 1, 0, 1] laws_markShardS_s0_0 (laws_markShardS_L0_0w m n) (loopK CX (callK CX prims m) laws_markShardS_fi laws_markShardS_c n))) := by
    intro n h0
    rw [← patL_eq h0]
  induction n with
  | zero => exact ⟨fun vs k => rfl, hl 0 (fun vs k => rfl)⟩
  | succ n ihn =>
    have hn := ihn.2
    have h0 : ∀ vs k, loopK CX (callK CX prims m) laws_markShardS_fi laws_markShardS_c (n + 1) [0, 1, 0, 1] (fPack laws_markShardS_s0_0 vs) k = laws_markShardS_L0_0w m (n + 1) vs k := fun vs k =>
      (stepL_congr (laws_markShardS_cf m) hn [0, 1, 0, 1] _ _).trans (by kernel_rfl)
    exact ⟨h0, hl (n + 1) h0⟩
theorem laws_markShardS_eq (m : Nat) : ∀ vs k, callK CX prims m 35 (fArgs laws_markShardS_a vs) k = laws_markShardS_w m vs k := by
  cases m with
  | zero => exact fun vs k => rfl
  | succ m => exact fun vs k => Eq.trans (b := bodyK CX (callK CX prims m) (loopK CX (callK CX prims m) laws_markShardS_fi laws_markShardS_c m) 35 Try.f35 laws_markShardS_c (fArgs laws_markShardS_a vs) k) (by kernel_rfl) ((bodyK_congr (laws_markShardS_cf m) ((laws_markShardS_lf m m).2) 35 Try.f35 laws_markShardS_c (fArgs laws_markShardS_a vs) k).trans (by kernel_rfl))

/-! loop.example/g00244/laws.markWordS -/
noncomputable def laws_markWordS_L0_0 (m : Nat) : Nat → T → T → T → (T → T → An) → An
  | 0, _, _, _, _ => .bad
  | n + 1, x0, x1, x2, k0 =>
    cond (decide (x1.int < (x2.rows.length : Int)))
    (cond (decide ((0 : Int) ≤ x1.int ∧ x1.int < (x2.rows.length : Int)))
    (cond (decide ((Int.toNat x1.int) < x2.rows.length))
    (cond (decide ((0 : Int) ≤ x1.int ∧ x1.int < ((x2.rows.set (Int.toNat x1.int) ((x2.rows.getD (Int.toNat x1.int) []).set 0 x0)).length : Int)))
    (cond (decide ((Int.toNat x1.int) < (x2.rows.set (Int.toNat x1.int) ((x2.rows.getD (Int.toNat x1.int) []).set 0 x0)).length))
    (cond (decide ((0 : Int) ≤ x1.int ∧ x1.int < (((x2.rows.set (Int.toNat x1.int) ((x2.rows.getD (Int.toNat x1.int) []).set 0 x0)).set (Int.toNat x1.int) (((x2.rows.set (Int.toNat x1.int) ((x2.rows.getD (Int.toNat x1.int) []).set 0 x0)).getD (Int.toNat x1.int) []).set 1 (T.i (IntKind.i64.wrap (x0.int + 1))))).length : Int)))
    (cond (decide ((Int.toNat x1.int) < ((x2.rows.set (Int.toNat x1.int) ((x2.rows.getD (Int.toNat x1.int) []).set 0 x0)).set (Int.toNat x1.int) (((x2.rows.set (Int.toNat x1.int) ((x2.rows.getD (Int.toNat x1.int) []).set 0 x0)).getD (Int.toNat x1.int) []).set 1 (T.i (IntKind.i64.wrap (x0.int + 1))))).length))
    (cond (decide ((0 : Int) ≤ x1.int ∧ x1.int < ((((x2.rows.set (Int.toNat x1.int) ((x2.rows.getD (Int.toNat x1.int) []).set 0 x0)).set (Int.toNat x1.int) (((x2.rows.set (Int.toNat x1.int) ((x2.rows.getD (Int.toNat x1.int) []).set 0 x0)).getD (Int.toNat x1.int) []).set 1 (T.i (IntKind.i64.wrap (x0.int + 1))))).set (Int.toNat x1.int) ((((x2.rows.set (Int.toNat x1.int) ((x2.rows.getD (Int.toNat x1.int) []).set 0 x0)).set (Int.toNat x1.int) (((x2.rows.set (Int.toNat x1.int) ((x2.rows.getD (Int.toNat x1.int) []).set 0 x0)).getD (Int.toNat x1.int) []).set 1 (T.i (IntKind.i64.wrap (x0.int + 1))))).getD (Int.toNat x1.int) []).set 2 (T.i (IntKind.i64.wrap ((IntKind.i64.wrap (x0.int + 1)) + 1))))).length : Int)))
    (cond (decide ((Int.toNat x1.int) < (((x2.rows.set (Int.toNat x1.int) ((x2.rows.getD (Int.toNat x1.int) []).set 0 x0)).set (Int.toNat x1.int) (((x2.rows.set (Int.toNat x1.int) ((x2.rows.getD (Int.toNat x1.int) []).set 0 x0)).getD (Int.toNat x1.int) []).set 1 (T.i (IntKind.i64.wrap (x0.int + 1))))).set (Int.toNat x1.int) ((((x2.rows.set (Int.toNat x1.int) ((x2.rows.getD (Int.toNat x1.int) []).set 0 x0)).set (Int.toNat x1.int) (((x2.rows.set (Int.toNat x1.int) ((x2.rows.getD (Int.toNat x1.int) []).set 0 x0)).getD (Int.toNat x1.int) []).set 1 (T.i (IntKind.i64.wrap (x0.int + 1))))).getD (Int.toNat x1.int) []).set 2 (T.i (IntKind.i64.wrap ((IntKind.i64.wrap (x0.int + 1)) + 1))))).length))
    (cond (decide ((Int.toNat x1.int) < (((x2.rows.set (Int.toNat x1.int) ((x2.rows.getD (Int.toNat x1.int) []).set 0 x0)).set (Int.toNat x1.int) (((x2.rows.set (Int.toNat x1.int) ((x2.rows.getD (Int.toNat x1.int) []).set 0 x0)).getD (Int.toNat x1.int) []).set 1 (T.i (IntKind.i64.wrap (x0.int + 1))))).set (Int.toNat x1.int) ((((x2.rows.set (Int.toNat x1.int) ((x2.rows.getD (Int.toNat x1.int) []).set 0 x0)).set (Int.toNat x1.int) (((x2.rows.set (Int.toNat x1.int) ((x2.rows.getD (Int.toNat x1.int) []).set 0 x0)).getD (Int.toNat x1.int) []).set 1 (T.i (IntKind.i64.wrap (x0.int + 1))))).getD (Int.toNat x1.int) []).set 2 (T.i (IntKind.i64.wrap ((IntKind.i64.wrap (x0.int + 1)) + 1))))).length))
    (laws_markOpS m (T.l (((((x2.rows.set (Int.toNat x1.int) ((x2.rows.getD (Int.toNat x1.int) []).set 0 x0)).set (Int.toNat x1.int) (((x2.rows.set (Int.toNat x1.int) ((x2.rows.getD (Int.toNat x1.int) []).set 0 x0)).getD (Int.toNat x1.int) []).set 1 (T.i (IntKind.i64.wrap (x0.int + 1))))).set (Int.toNat x1.int) ((((x2.rows.set (Int.toNat x1.int) ((x2.rows.getD (Int.toNat x1.int) []).set 0 x0)).set (Int.toNat x1.int) (((x2.rows.set (Int.toNat x1.int) ((x2.rows.getD (Int.toNat x1.int) []).set 0 x0)).getD (Int.toNat x1.int) []).set 1 (T.i (IntKind.i64.wrap (x0.int + 1))))).getD (Int.toNat x1.int) []).set 2 (T.i (IntKind.i64.wrap ((IntKind.i64.wrap (x0.int + 1)) + 1))))).getD (Int.toNat x1.int) []).tail.tail.tail.headD dflt).rows) (T.i (IntKind.i64.wrap ((IntKind.i64.wrap ((IntKind.i64.wrap (x0.int + 1)) + 1)) + 1)))
    (fun y0 y1 => cond (decide ((0 : Int) ≤ x1.int ∧ x1.int < (((((x2.rows.set (Int.toNat x1.int) ((x2.rows.getD (Int.toNat x1.int) []).set 0 x0)).set (Int.toNat x1.int) (((x2.rows.set (Int.toNat x1.int) ((x2.rows.getD (Int.toNat x1.int) []).set 0 x0)).getD (Int.toNat x1.int) []).set 1 (T.i (IntKind.i64.wrap (x0.int + 1))))).set (Int.toNat x1.int) ((((x2.rows.set (Int.toNat x1.int) ((x2.rows.getD (Int.toNat x1.int) []).set 0 x0)).set (Int.toNat x1.int) (((x2.rows.set (Int.toNat x1.int) ((x2.rows.getD (Int.toNat x1.int) []).set 0 x0)).getD (Int.toNat x1.int) []).set 1 (T.i (IntKind.i64.wrap (x0.int + 1))))).getD (Int.toNat x1.int) []).set 2 (T.i (IntKind.i64.wrap ((IntKind.i64.wrap (x0.int + 1)) + 1))))).set (Int.toNat x1.int) [(((((x2.rows.set (Int.toNat x1.int) ((x2.rows.getD (Int.toNat x1.int) []).set 0 x0)).set (Int.toNat x1.int) (((x2.rows.set (Int.toNat x1.int) ((x2.rows.getD (Int.toNat x1.int) []).set 0 x0)).getD (Int.toNat x1.int) []).set 1 (T.i (IntKind.i64.wrap (x0.int + 1))))).set (Int.toNat x1.int) ((((x2.rows.set (Int.toNat x1.int) ((x2.rows.getD (Int.toNat x1.int) []).set 0 x0)).set (Int.toNat x1.int) (((x2.rows.set (Int.toNat x1.int) ((x2.rows.getD (Int.toNat x1.int) []).set 0 x0)).getD (Int.toNat x1.int) []).set 1 (T.i (IntKind.i64.wrap (x0.int + 1))))).getD (Int.toNat x1.int) []).set 2 (T.i (IntKind.i64.wrap ((IntKind.i64.wrap (x0.int + 1)) + 1))))).getD (Int.toNat x1.int) []).headD dflt), (((((x2.rows.set (Int.toNat x1.int) ((x2.rows.getD (Int.toNat x1.int) []).set 0 x0)).set (Int.toNat x1.int) (((x2.rows.set (Int.toNat x1.int) ((x2.rows.getD (Int.toNat x1.int) []).set 0 x0)).getD (Int.toNat x1.int) []).set 1 (T.i (IntKind.i64.wrap (x0.int + 1))))).set (Int.toNat x1.int) ((((x2.rows.set (Int.toNat x1.int) ((x2.rows.getD (Int.toNat x1.int) []).set 0 x0)).set (Int.toNat x1.int) (((x2.rows.set (Int.toNat x1.int) ((x2.rows.getD (Int.toNat x1.int) []).set 0 x0)).getD (Int.toNat x1.int) []).set 1 (T.i (IntKind.i64.wrap (x0.int + 1))))).getD (Int.toNat x1.int) []).set 2 (T.i (IntKind.i64.wrap ((IntKind.i64.wrap (x0.int + 1)) + 1))))).getD (Int.toNat x1.int) []).tail.headD dflt), (((((x2.rows.set (Int.toNat x1.int) ((x2.rows.getD (Int.toNat x1.int) []).set 0 x0)).set (Int.toNat x1.int) (((x2.rows.set (Int.toNat x1.int) ((x2.rows.getD (Int.toNat x1.int) []).set 0 x0)).getD (Int.toNat x1.int) []).set 1 (T.i (IntKind.i64.wrap (x0.int + 1))))).set (Int.toNat x1.int) ((((x2.rows.set (Int.toNat x1.int) ((x2.rows.getD (Int.toNat x1.int) []).set 0 x0)).set (Int.toNat x1.int) (((x2.rows.set (Int.toNat x1.int) ((x2.rows.getD (Int.toNat x1.int) []).set 0 x0)).getD (Int.toNat x1.int) []).set 1 (T.i (IntKind.i64.wrap (x0.int + 1))))).getD (Int.toNat x1.int) []).set 2 (T.i (IntKind.i64.wrap ((IntKind.i64.wrap (x0.int + 1)) + 1))))).getD (Int.toNat x1.int) []).tail.tail.headD dflt), (T.l y1.rows), (((((x2.rows.set (Int.toNat x1.int) ((x2.rows.getD (Int.toNat x1.int) []).set 0 x0)).set (Int.toNat x1.int) (((x2.rows.set (Int.toNat x1.int) ((x2.rows.getD (Int.toNat x1.int) []).set 0 x0)).getD (Int.toNat x1.int) []).set 1 (T.i (IntKind.i64.wrap (x0.int + 1))))).set (Int.toNat x1.int) ((((x2.rows.set (Int.toNat x1.int) ((x2.rows.getD (Int.toNat x1.int) []).set 0 x0)).set (Int.toNat x1.int) (((x2.rows.set (Int.toNat x1.int) ((x2.rows.getD (Int.toNat x1.int) []).set 0 x0)).getD (Int.toNat x1.int) []).set 1 (T.i (IntKind.i64.wrap (x0.int + 1))))).getD (Int.toNat x1.int) []).set 2 (T.i (IntKind.i64.wrap ((IntKind.i64.wrap (x0.int + 1)) + 1))))).getD (Int.toNat x1.int) []).tail.tail.tail.tail.headD dflt)]).length : Int)))
    (cond (decide ((Int.toNat x1.int) < ((((x2.rows.set (Int.toNat x1.int) ((x2.rows.getD (Int.toNat x1.int) []).set 0 x0)).set (Int.toNat x1.int) (((x2.rows.set (Int.toNat x1.int) ((x2.rows.getD (Int.toNat x1.int) []).set 0 x0)).getD (Int.toNat x1.int) []).set 1 (T.i (IntKind.i64.wrap (x0.int + 1))))).set (Int.toNat x1.int) ((((x2.rows.set (Int.toNat x1.int) ((x2.rows.getD (Int.toNat x1.int) []).set 0 x0)).set (Int.toNat x1.int) (((x2.rows.set (Int.toNat x1.int) ((x2.rows.getD (Int.toNat x1.int) []).set 0 x0)).getD (Int.toNat x1.int) []).set 1 (T.i (IntKind.i64.wrap (x0.int + 1))))).getD (Int.toNat x1.int) []).set 2 (T.i (IntKind.i64.wrap ((IntKind.i64.wrap (x0.int + 1)) + 1))))).set (Int.toNat x1.int) [(((((x2.rows.set (Int.toNat x1.int) ((x2.rows.getD (Int.toNat x1.int) []).set 0 x0)).set (Int.toNat x1.int) (((x2.rows.set (Int.toNat x1.int) ((x2.rows.getD (Int.toNat x1.int) []).set 0 x0)).getD (Int.toNat x1.int) []).set 1 (T.i (IntKind.i64.wrap (x0.int + 1))))).set (Int.toNat x1.int) ((((x2.rows.set (Int.toNat x1.int) ((x2.rows.getD (Int.toNat x1.int) []).set 0 x0)).set (Int.toNat x1.int) (((x2.rows.set (Int.toNat x1.int) ((x2.rows.getD (Int.toNat x1.int) []).set 0 x0)).getD (Int.toNat x1.int) []).set 1 (T.i (IntKind.i64.wrap (x0.int + 1))))).getD (Int.toNat x1.int) []).set 2 (T.i (IntKind.i64.wrap ((IntKind.i64.wrap (x0.int + 1)) + 1))))).getD (Int.toNat x1.int) []).headD dflt), (((((x2.rows.set (Int.toNat x1.int) ((x2.rows.getD (Int.toNat x1.int) []).set 0 x0)).set (Int.toNat x1.int) (((x2.rows.set (Int.toNat x1.int) ((x2.rows.getD (Int.toNat x1.int) []).set 0 x0)).getD (Int.toNat x1.int) []).set 1 (T.i (IntKind.i64.wrap (x0.int + 1))))).set (Int.toNat x1.int) ((((x2.rows.set (Int.toNat x1.int) ((x2.rows.getD (Int.toNat x1.int) []).set 0 x0)).set (Int.toNat x1.int) (((x2.rows.set (Int.toNat x1.int) ((x2.rows.getD (Int.toNat x1.int) []).set 0 x0)).getD (Int.toNat x1.int) []).set 1 (T.i (IntKind.i64.wrap (x0.int + 1))))).getD (Int.toNat x1.int) []).set 2 (T.i (IntKind.i64.wrap ((IntKind.i64.wrap (x0.int + 1)) + 1))))).getD (Int.toNat x1.int) []).tail.headD dflt), (((((x2.rows.set (Int.toNat x1.int) ((x2.rows.getD (Int.toNat x1.int) []).set 0 x0)).set (Int.toNat x1.int) (((x2.rows.set (Int.toNat x1.int) ((x2.rows.getD (Int.toNat x1.int) []).set 0 x0)).getD (Int.toNat x1.int) []).set 1 (T.i (IntKind.i64.wrap (x0.int + 1))))).set (Int.toNat x1.int) ((((x2.rows.set (Int.toNat x1.int) ((x2.rows.getD (Int.toNat x1.int) []).set 0 x0)).set (Int.toNat x1.int) (((x2.rows.set (Int.toNat x1.int) ((x2.rows.getD (Int.toNat x1.int) []).set 0 x0)).getD (Int.toNat x1.int) []).set 1 (T.i (IntKind.i64.wrap (x0.int + 1))))).getD (Int.toNat x1.int) []).set 2 (T.i (IntKind.i64.wrap ((IntKind.i64.wrap (x0.int + 1)) + 1))))).getD (Int.toNat x1.int) []).tail.tail.headD dflt), (T.l y1.rows), (((((x2.rows.set (Int.toNat x1.int) ((x2.rows.getD (Int.toNat x1.int) []).set 0 x0)).set (Int.toNat x1.int) (((x2.rows.set (Int.toNat x1.int) ((x2.rows.getD (Int.toNat x1.int) []).set 0 x0)).getD (Int.toNat x1.int) []).set 1 (T.i (IntKind.i64.wrap (x0.int + 1))))).set (Int.toNat x1.int) ((((x2.rows.set (Int.toNat x1.int) ((x2.rows.getD (Int.toNat x1.int) []).set 0 x0)).set (Int.toNat x1.int) (((x2.rows.set (Int.toNat x1.int) ((x2.rows.getD (Int.toNat x1.int) []).set 0 x0)).getD (Int.toNat x1.int) []).set 1 (T.i (IntKind.i64.wrap (x0.int + 1))))).getD (Int.toNat x1.int) []).set 2 (T.i (IntKind.i64.wrap ((IntKind.i64.wrap (x0.int + 1)) + 1))))).getD (Int.toNat x1.int) []).tail.tail.tail.tail.headD dflt)]).length))
    (laws_markWordS_L0_0 m n (T.i (IntKind.i64.wrap (y0.int + 1))) (T.i (IntKind.i64.wrap (x1.int + 1))) (T.l (((((x2.rows.set (Int.toNat x1.int) ((x2.rows.getD (Int.toNat x1.int) []).set 0 x0)).set (Int.toNat x1.int) (((x2.rows.set (Int.toNat x1.int) ((x2.rows.getD (Int.toNat x1.int) []).set 0 x0)).getD (Int.toNat x1.int) []).set 1 (T.i (IntKind.i64.wrap (x0.int + 1))))).set (Int.toNat x1.int) ((((x2.rows.set (Int.toNat x1.int) ((x2.rows.getD (Int.toNat x1.int) []).set 0 x0)).set (Int.toNat x1.int) (((x2.rows.set (Int.toNat x1.int) ((x2.rows.getD (Int.toNat x1.int) []).set 0 x0)).getD (Int.toNat x1.int) []).set 1 (T.i (IntKind.i64.wrap (x0.int + 1))))).getD (Int.toNat x1.int) []).set 2 (T.i (IntKind.i64.wrap ((IntKind.i64.wrap (x0.int + 1)) + 1))))).set (Int.toNat x1.int) [(((((x2.rows.set (Int.toNat x1.int) ((x2.rows.getD (Int.toNat x1.int) []).set 0 x0)).set (Int.toNat x1.int) (((x2.rows.set (Int.toNat x1.int) ((x2.rows.getD (Int.toNat x1.int) []).set 0 x0)).getD (Int.toNat x1.int) []).set 1 (T.i (IntKind.i64.wrap (x0.int + 1))))).set (Int.toNat x1.int) ((((x2.rows.set (Int.toNat x1.int) ((x2.rows.getD (Int.toNat x1.int) []).set 0 x0)).set (Int.toNat x1.int) (((x2.rows.set (Int.toNat x1.int) ((x2.rows.getD (Int.toNat x1.int) []).set 0 x0)).getD (Int.toNat x1.int) []).set 1 (T.i (IntKind.i64.wrap (x0.int + 1))))).getD (Int.toNat x1.int) []).set 2 (T.i (IntKind.i64.wrap ((IntKind.i64.wrap (x0.int + 1)) + 1))))).getD (Int.toNat x1.int) []).headD dflt), (((((x2.rows.set (Int.toNat x1.int) ((x2.rows.getD (Int.toNat x1.int) []).set 0 x0)).set (Int.toNat x1.int) (((x2.rows.set (Int.toNat x1.int) ((x2.rows.getD (Int.toNat x1.int) []).set 0 x0)).getD (Int.toNat x1.int) []).set 1 (T.i (IntKind.i64.wrap (x0.int + 1))))).set (Int.toNat x1.int) ((((x2.rows.set (Int.toNat x1.int) ((x2.rows.getD (Int.toNat x1.int) []).set 0 x0)).set (Int.toNat x1.int) (((x2.rows.set (Int.toNat x1.int) ((x2.rows.getD (Int.toNat x1.int) []).set 0 x0)).getD (Int.toNat x1.int) []).set 1 (T.i (IntKind.i64.wrap (x0.int + 1))))).getD (Int.toNat x1.int) []).set 2 (T.i (IntKind.i64.wrap ((IntKind.i64.wrap (x0.int + 1)) + 1))))).getD (Int.toNat x1.int) []).tail.headD dflt), (((((x2.rows.set (Int.toNat x1.int) ((x2.rows.getD (Int.toNat x1.int) []).set 0 x0)).set (Int.toNat x1.int) (((x2.rows.set (Int.toNat x1.int) ((x2.rows.getD (Int.toNat x1.int) []).set 0 x0)).getD (Int.toNat x1.int) []).set 1 (T.i (IntKind.i64.wrap (x0.int + 1))))).set (Int.toNat x1.int) ((((x2.rows.set (Int.toNat x1.int) ((x2.rows.getD (Int.toNat x1.int) []).set 0 x0)).set (Int.toNat x1.int) (((x2.rows.set (Int.toNat x1.int) ((x2.rows.getD (Int.toNat x1.int) []).set 0 x0)).getD (Int.toNat x1.int) []).set 1 (T.i (IntKind.i64.wrap (x0.int + 1))))).getD (Int.toNat x1.int) []).set 2 (T.i (IntKind.i64.wrap ((IntKind.i64.wrap (x0.int + 1)) + 1))))).getD (Int.toNat x1.int) []).tail.tail.headD dflt), (T.l y1.rows), (((((x2.rows.set (Int.toNat x1.int) ((x2.rows.getD (Int.toNat x1.int) []).set 0 x0)).set (Int.toNat x1.int) (((x2.rows.set (Int.toNat x1.int) ((x2.rows.getD (Int.toNat x1.int) []).set 0 x0)).getD (Int.toNat x1.int) []).set 1 (T.i (IntKind.i64.wrap (x0.int + 1))))).set (Int.toNat x1.int) ((((x2.rows.set (Int.toNat x1.int) ((x2.rows.getD (Int.toNat x1.int) []).set 0 x0)).set (Int.toNat x1.int) (((x2.rows.set (Int.toNat x1.int) ((x2.rows.getD (Int.toNat x1.int) []).set 0 x0)).getD (Int.toNat x1.int) []).set 1 (T.i (IntKind.i64.wrap (x0.int + 1))))).getD (Int.toNat x1.int) []).set 2 (T.i (IntKind.i64.wrap ((IntKind.i64.wrap (x0.int + 1)) + 1))))).getD (Int.toNat x1.int) []).tail.tail.tail.tail.headD dflt)]).set (Int.toNat x1.int) ((((((x2.rows.set (Int.toNat x1.int) ((x2.rows.getD (Int.toNat x1.int) []).set 0 x0)).set (Int.toNat x1.int) (((x2.rows.set (Int.toNat x1.int) ((x2.rows.getD (Int.toNat x1.int) []).set 0 x0)).getD (Int.toNat x1.int) []).set 1 (T.i (IntKind.i64.wrap (x0.int + 1))))).set (Int.toNat x1.int) ((((x2.rows.set (Int.toNat x1.int) ((x2.rows.getD (Int.toNat x1.int) []).set 0 x0)).set (Int.toNat x1.int) (((x2.rows.set (Int.toNat x1.int) ((x2.rows.getD (Int.toNat x1.int) []).set 0 x0)).getD (Int.toNat x1.int) []).set 1 (T.i (IntKind.i64.wrap (x0.int + 1))))).getD (Int.toNat x1.int) []).set 2 (T.i (IntKind.i64.wrap ((IntKind.i64.wrap (x0.int + 1)) + 1))))).set (Int.toNat x1.int) [(((((x2.rows.set (Int.toNat x1.int) ((x2.rows.getD (Int.toNat x1.int) []).set 0 x0)).set (Int.toNat x1.int) (((x2.rows.set (Int.toNat x1.int) ((x2.rows.getD (Int.toNat x1.int) []).set 0 x0)).getD (Int.toNat x1.int) []).set 1 (T.i (IntKind.i64.wrap (x0.int + 1))))).set (Int.toNat x1.int) ((((x2.rows.set (Int.toNat x1.int) ((x2.rows.getD (Int.toNat x1.int) []).set 0 x0)).set (Int.toNat x1.int) (((x2.rows.set (Int.toNat x1.int) ((x2.rows.getD (Int.toNat x1.int) []).set 0 x0)).getD (Int.toNat x1.int) []).set 1 (T.i (IntKind.i64.wrap (x0.int + 1))))).getD (Int.toNat x1.int) []).set 2 (T.i (IntKind.i64.wrap ((IntKind.i64.wrap (x0.int + 1)) + 1))))).getD (Int.toNat x1.int) []).headD dflt), (((((x2.rows.set (Int.toNat x1.int) ((x2.rows.getD (Int.toNat x1.int) []).set 0 x0)).set (Int.toNat x1.int) (((x2.rows.set (Int.toNat x1.int) ((x2.rows.getD (Int.toNat x1.int) []).set 0 x0)).getD (Int.toNat x1.int) []).set 1 (T.i (IntKind.i64.wrap (x0.int + 1))))).set (Int.toNat x1.int) ((((x2.rows.set (Int.toNat x1.int) ((x2.rows.getD (Int.toNat x1.int) []).set 0 x0)).set (Int.toNat x1.int) (((x2.rows.set (Int.toNat x1.int) ((x2.rows.getD (Int.toNat x1.int) []).set 0 x0)).getD (Int.toNat x1.int) []).set 1 (T.i (IntKind.i64.wrap (x0.int + 1))))).getD (Int.toNat x1.int) []).set 2 (T.i (IntKind.i64.wrap ((IntKind.i64.wrap (x0.int + 1)) + 1))))).getD (Int.toNat x1.int) []).tail.headD dflt), (((((x2.rows.set (Int.toNat x1.int) ((x2.rows.getD (Int.toNat x1.int) []).set 0 x0)).set (Int.toNat x1.int) (((x2.rows.set (Int.toNat x1.int) ((x2.rows.getD (Int.toNat x1.int) []).set 0 x0)).getD (Int.toNat x1.int) []).set 1 (T.i (IntKind.i64.wrap (x0.int + 1))))).set (Int.toNat x1.int) ((((x2.rows.set (Int.toNat x1.int) ((x2.rows.getD (Int.toNat x1.int) []).set 0 x0)).set (Int.toNat x1.int) (((x2.rows.set (Int.toNat x1.int) ((x2.rows.getD (Int.toNat x1.int) []).set 0 x0)).getD (Int.toNat x1.int) []).set 1 (T.i (IntKind.i64.wrap (x0.int + 1))))).getD (Int.toNat x1.int) []).set 2 (T.i (IntKind.i64.wrap ((IntKind.i64.wrap (x0.int + 1)) + 1))))).getD (Int.toNat x1.int) []).tail.tail.headD dflt), (T.l y1.rows), (((((x2.rows.set (Int.toNat x1.int) ((x2.rows.getD (Int.toNat x1.int) []).set 0 x0)).set (Int.toNat x1.int) (((x2.rows.set (Int.toNat x1.int) ((x2.rows.getD (Int.toNat x1.int) []).set 0 x0)).getD (Int.toNat x1.int) []).set 1 (T.i (IntKind.i64.wrap (x0.int + 1))))).set (Int.toNat x1.int) ((((x2.rows.set (Int.toNat x1.int) ((x2.rows.getD (Int.toNat x1.int) []).set 0 x0)).set (Int.toNat x1.int) (((x2.rows.set (Int.toNat x1.int) ((x2.rows.getD (Int.toNat x1.int) []).set 0 x0)).getD (Int.toNat x1.int) []).set 1 (T.i (IntKind.i64.wrap (x0.int + 1))))).getD (Int.toNat x1.int) []).set 2 (T.i (IntKind.i64.wrap ((IntKind.i64.wrap (x0.int + 1)) + 1))))).getD (Int.toNat x1.int) []).tail.tail.tail.tail.headD dflt)]).getD (Int.toNat x1.int) []).set 4 (T.b ((Int.tmod y0.int 3) == 0))))) k0)
    (.bad))
    (.bad)))
    (.bad))
    (.bad))
    (.bad))
    (.bad))
    (.bad))
    (.bad))
    (.bad))
    (.bad))
    (.bad))
    (k0 x0 (T.l x2.rows))
noncomputable def laws_markWordS_s0_0 : Pack := ⟨[(0, .one ⟨.al [0, 0] 0, .sl [.sc (.int .i64), .sc (.int .i64), .sc (.int .i64), .sl [.sc (.int .i64), .sc (.str), .sc (.str)], .sc (.bool)], .l []⟩), (1, .one ⟨.sc, .sc (.int .i64), .l []⟩), (5, .one ⟨.sc, .sc (.int .i64), .l []⟩)], [([0, 0], .row [.sc (.int .i64), .sc (.int .i64), .sc (.int .i64), .sl [.sc (.int .i64), .sc (.str), .sc (.str)], .sc (.bool)] [.F, .F, .F, .O [.F, .F, .F], .F] [])]⟩
noncomputable def laws_markWordS_e0_0 : Pack := ⟨[(0, .one ⟨.al [0, 0] 0, .sl [.sc (.int .i64), .sc (.int .i64), .sc (.int .i64), .sl [.sc (.int .i64), .sc (.str), .sc (.str)], .sc (.bool)], .l []⟩), (1, .one ⟨.sc, .sc (.int .i64), .l []⟩)], [([0, 0], .row [.sc (.int .i64), .sc (.int .i64), .sc (.int .i64), .sl [.sc (.int .i64), .sc (.str), .sc (.str)], .sc (.bool)] [.F, .F, .F, .O [.F, .F, .F], .F] [])]⟩
noncomputable def laws_markWordS_L0_0w (m n : Nat) (vs : List T) (k : Ctl → Pack → An) : An := laws_markWordS_L0_0 m n (vs.headD dflt) (vs.tail.headD dflt) (vs.tail.tail.headD dflt) (fun z0 z1 => k (.exit 0) (fPack laws_markWordS_e0_0 [z0, z1]))
noncomputable def laws_markWordS : Nat → T → T → (T → T → An) → An
  | 0, _, _, _ => .bad
  | m + 1, x0, x1, k0 =>
    laws_markWordS_L0_0 m m x1 (T.i 0) (T.l x0.rows)
    (fun y2 y3 => k0 y2 (T.l y3.rows))
noncomputable def laws_markWordS_a : List Arg := [.one (.own [.sc (.int .i64), .sc (.int .i64), .sc (.int .i64), .sl [.sc (.int .i64), .sc (.str), .sc (.str)], .sc (.bool)] [.F, .F, .F, .O [.F, .F, .F], .F] []), .one (.sc (.int .i64) (.l []))]
noncomputable def laws_markWordS_w (m : Nat) (vs : List T) (k : Ret → An) : An := laws_markWordS m (vs.headD dflt) (vs.tail.headD dflt) (fun z0 z1 => k ⟨[.one (.sc (.int .i64) z0)], [[some ([.sc (.int .i64), .sc (.int .i64), .sc (.int .i64), .sl [.sc (.int .i64), .sc (.str), .sc (.str)], .sc (.bool)], [.F, .F, .F, .O [.F, .F, .F], .F], z1.rows)], [none]], [none, none]⟩)
theorem laws_markWordS_cf (m : Nat) : callK CX prims m = (patC 61 laws_markOpS_a (laws_markOpS_w m) (callK CX prims m)) := by
  rw [← patC_eq (fun vs k => laws_markOpS_eq m vs k)]
noncomputable def laws_markWordS_c : Code := (Try.f36.body).getD .skip
noncomputable def laws_markWordS_fi : Fi := ⟨36, 2, 50, 17⟩
theorem laws_markWordS_lf (m : Nat) : ∀ n, (∀ vs k, loopK CX (callK CX prims m) laws_markWordS_fi laws_markWordS_c n [0, 1, 0, 1] (fPack laws_markWordS_s0_0 vs) k = laws_markWordS_L0_0w m n vs k) ∧ ((loopK CX (callK CX prims m) laws_markWordS_fi laws_markWordS_c n) = (patL [0, 1, 0, 1] laws_markWordS_s0_0 (laws_markWordS_L0_0w m n) (loopK CX (callK CX prims m) laws_markWordS_fi laws_markWordS_c n))) := by
  intro n
  have hl : ∀ n, (∀ vs k, loopK CX (callK CX prims m) laws_markWordS_fi laws_markWordS_c n [0, 1, 0, 1] (fPack laws_markWordS_s0_0 vs) k = laws_markWordS_L0_0w m n vs k) → ((loopK CX (callK CX prims m) laws_markWordS_fi laws_markWordS_c n) = (patL [0, 1, 0, 1] laws_markWordS_s0_0 (laws_markWordS_L0_0w m n) (loopK CX (callK CX prims m) laws_markWordS_fi laws_markWordS_c n))) := by
    intro n h0
    rw [← patL_eq h0]
  induction n with
  | zero => exact ⟨fun vs k => rfl, hl 0 (fun vs k => rfl)⟩
  | succ n ihn =>
    have hn := ihn.2
    have h0 : ∀ vs k, loopK CX (callK CX prims m) laws_markWordS_fi laws_markWordS_c (n + 1) [0, 1, 0, 1] (fPack laws_markWordS_s0_0 vs) k = laws_markWordS_L0_0w m (n + 1) vs k := fun vs k =>
      (stepL_congr (laws_markWordS_cf m) hn [0, 1, 0, 1] _ _).trans (by kernel_rfl)
    exact ⟨h0, hl (n + 1) h0⟩
theorem laws_markWordS_eq (m : Nat) : ∀ vs k, callK CX prims m 36 (fArgs laws_markWordS_a vs) k = laws_markWordS_w m vs k := by
  cases m with
  | zero => exact fun vs k => rfl
  | succ m => exact fun vs k => Eq.trans (b := bodyK CX (callK CX prims m) (loopK CX (callK CX prims m) laws_markWordS_fi laws_markWordS_c m) 36 Try.f36 laws_markWordS_c (fArgs laws_markWordS_a vs) k) (by kernel_rfl) ((bodyK_congr (laws_markWordS_cf m) ((laws_markWordS_lf m m).2) 36 Try.f36 laws_markWordS_c (fArgs laws_markWordS_a vs) k).trans (by kernel_rfl))

/-! loop.example/g00244/laws.markOrderS -/
noncomputable def laws_markOrderS_L0_0 (m : Nat) : Nat → T → T → T → (T → T → An) → An
  | 0, _, _, _, _ => .bad
  | n + 1, x0, x1, x2, k0 =>
    cond (decide (x1.int < (x2.rows.length : Int)))
    (cond (decide ((0 : Int) ≤ x1.int ∧ x1.int < (x2.rows.length : Int)))
    (cond (decide ((Int.toNat x1.int) < x2.rows.length))
    (cond (decide ((0 : Int) ≤ x1.int ∧ x1.int < ((x2.rows.set (Int.toNat x1.int) ((x2.rows.getD (Int.toNat x1.int) []).set 0 x0)).length : Int)))
    (cond (decide ((Int.toNat x1.int) < (x2.rows.set (Int.toNat x1.int) ((x2.rows.getD (Int.toNat x1.int) []).set 0 x0)).length))
    (cond (decide ((Int.toNat x1.int) < (x2.rows.set (Int.toNat x1.int) ((x2.rows.getD (Int.toNat x1.int) []).set 0 x0)).length))
    (laws_markOpS m (T.l (((x2.rows.set (Int.toNat x1.int) ((x2.rows.getD (Int.toNat x1.int) []).set 0 x0)).getD (Int.toNat x1.int) []).tail.headD dflt).rows) (T.i (IntKind.i64.wrap (x0.int + 1)))
    (fun y0 y1 => laws_markOrderS_L0_0 m n y0 (T.i (IntKind.i64.wrap (x1.int + 1))) (T.l ((x2.rows.set (Int.toNat x1.int) ((x2.rows.getD (Int.toNat x1.int) []).set 0 x0)).set (Int.toNat x1.int) [(((x2.rows.set (Int.toNat x1.int) ((x2.rows.getD (Int.toNat x1.int) []).set 0 x0)).getD (Int.toNat x1.int) []).headD dflt), (T.l y1.rows)])) k0))
    (.bad))
    (.bad))
    (.bad))
    (.bad))
    (.bad))
    (k0 x0 (T.l x2.rows))
noncomputable def laws_markOrderS_s0_0 : Pack := ⟨[(0, .one ⟨.al [0, 0] 0, .sl [.sc (.int .i64), .sl [.sc (.int .i64), .sc (.str), .sc (.str)]], .l []⟩), (1, .one ⟨.sc, .sc (.int .i64), .l []⟩), (5, .one ⟨.sc, .sc (.int .i64), .l []⟩)], [([0, 0], .row [.sc (.int .i64), .sl [.sc (.int .i64), .sc (.str), .sc (.str)]] [.F, .O [.F, .F, .F]] [])]⟩
noncomputable def laws_markOrderS_e0_0 : Pack := ⟨[(0, .one ⟨.al [0, 0] 0, .sl [.sc (.int .i64), .sl [.sc (.int .i64), .sc (.str), .sc (.str)]], .l []⟩), (1, .one ⟨.sc, .sc (.int .i64), .l []⟩)], [([0, 0], .row [.sc (.int .i64), .sl [.sc (.int .i64), .sc (.str), .sc (.str)]] [.F, .O [.F, .F, .F]] [])]⟩
noncomputable def laws_markOrderS_L0_0w (m n : Nat) (vs : List T) (k : Ctl → Pack → An) : An := laws_markOrderS_L0_0 m n (vs.headD dflt) (vs.tail.headD dflt) (vs.tail.tail.headD dflt) (fun z0 z1 => k (.exit 0) (fPack laws_markOrderS_e0_0 [z0, z1]))
noncomputable def laws_markOrderS : Nat → T → T → (T → T → An) → An
  | 0, _, _, _ => .bad
  | m + 1, x0, x1, k0 =>
    laws_markOrderS_L0_0 m m x1 (T.i 0) (T.l x0.rows)
    (fun y2 y3 => k0 y2 (T.l y3.rows))
noncomputable def laws_markOrderS_a : List Arg := [.one (.own [.sc (.int .i64), .sl [.sc (.int .i64), .sc (.str), .sc (.str)]] [.F, .O [.F, .F, .F]] []), .one (.sc (.int .i64) (.l []))]
noncomputable def laws_markOrderS_w (m : Nat) (vs : List T) (k : Ret → An) : An := laws_markOrderS m (vs.headD dflt) (vs.tail.headD dflt) (fun z0 z1 => k ⟨[.one (.sc (.int .i64) z0)], [[some ([.sc (.int .i64), .sl [.sc (.int .i64), .sc (.str), .sc (.str)]], [.F, .O [.F, .F, .F]], z1.rows)], [none]], [none, none]⟩)
theorem laws_markOrderS_cf (m : Nat) : callK CX prims m = (patC 61 laws_markOpS_a (laws_markOpS_w m) (callK CX prims m)) := by
  rw [← patC_eq (fun vs k => laws_markOpS_eq m vs k)]
noncomputable def laws_markOrderS_c : Code := (Try.f37.body).getD .skip
noncomputable def laws_markOrderS_fi : Fi := ⟨37, 2, 27, 17⟩
theorem laws_markOrderS_lf (m : Nat) : ∀ n, (∀ vs k, loopK CX (callK CX prims m) laws_markOrderS_fi laws_markOrderS_c n [0, 1, 0, 1] (fPack laws_markOrderS_s0_0 vs) k = laws_markOrderS_L0_0w m n vs k) ∧ ((loopK CX (callK CX prims m) laws_markOrderS_fi laws_markOrderS_c n) = (patL [0, 1, 0, 1] laws_markOrderS_s0_0 (laws_markOrderS_L0_0w m n) (loopK CX (callK CX prims m) laws_markOrderS_fi laws_markOrderS_c n))) := by
  intro n
  have hl : ∀ n, (∀ vs k, loopK CX (callK CX prims m) laws_markOrderS_fi laws_markOrderS_c n [0, 1, 0, 1] (fPack laws_markOrderS_s0_0 vs) k = laws_markOrderS_L0_0w m n vs k) → ((loopK CX (callK CX prims m) laws_markOrderS_fi laws_markOrderS_c n) = (patL [0, 1, 0, 1] laws_markOrderS_s0_0 (laws_markOrderS_L0_0w m n) (loopK CX (callK CX prims m) laws_markOrderS_fi laws_markOrderS_c n))) := by
    intro n h0
    rw [← patL_eq h0]
  induction n with
  | zero => exact ⟨fun vs k => rfl, hl 0 (fun vs k => rfl)⟩
  | succ n ihn =>
    have hn := ihn.2
    have h0 : ∀ vs k, loopK CX (callK CX prims m) laws_markOrderS_fi laws_markOrderS_c (n + 1) [0, 1, 0, 1] (fPack laws_markOrderS_s0_0 vs) k = laws_markOrderS_L0_0w m (n + 1) vs k := fun vs k =>
      (stepL_congr (laws_markOrderS_cf m) hn [0, 1, 0, 1] _ _).trans (by kernel_rfl)
    exact ⟨h0, hl (n + 1) h0⟩
theorem laws_markOrderS_eq (m : Nat) : ∀ vs k, callK CX prims m 37 (fArgs laws_markOrderS_a vs) k = laws_markOrderS_w m vs k := by
  cases m with
  | zero => exact fun vs k => rfl
  | succ m => exact fun vs k => Eq.trans (b := bodyK CX (callK CX prims m) (loopK CX (callK CX prims m) laws_markOrderS_fi laws_markOrderS_c m) 37 Try.f37 laws_markOrderS_c (fArgs laws_markOrderS_a vs) k) (by kernel_rfl) ((bodyK_congr (laws_markOrderS_cf m) ((laws_markOrderS_lf m m).2) 37 Try.f37 laws_markOrderS_c (fArgs laws_markOrderS_a vs) k).trans (by kernel_rfl))

/-! loop.example/g00244/laws.markWorld -/
noncomputable def laws_markWorld : Nat → T → T → T → T → T → T → T → T → T → T → T → (T → T → T → T → T → T → T → An) → An
  | 0, _, _, _, _, _, _, _, _, _, _, _, _ => .bad
  | m + 1, x0, x1, x2, x3, x4, x5, x6, x7, x8, x9, x10, k0 =>
    laws_markCoord m x0 x1 x2 (T.l x3.rows) (T.l x4.rows) x5 x10
    (fun y0 y1 y2 => laws_markShardS m (T.l x6.rows) y0
    (fun y3 y4 => laws_markWordS m (T.l x7.rows) y3
    (fun y5 y6 => laws_markWordS m (T.l x8.rows) y5
    (fun y7 y8 => laws_markOrderS m (T.l x9.rows) y7
    (fun y9 y10 => k0 y9 (T.l y1.rows) (T.l y2.rows) (T.l y4.rows) (T.l y6.rows) (T.l y8.rows) (T.l y10.rows))))))
noncomputable def laws_markWorld_a : List Arg := [.agg [.sc (.int .i64) (.l []), .sc (.int .i64) (.l []), .sc (.int .i64) (.l []), .own [.sc (.int .i64), .sl [.sc (.int .i64), .sc (.str), .sc (.str)], .sc (.int .i64), .sl [.sc (.int .i64)]] [.F, .O [.F, .F, .F], .F, .O [.F]] [], .own [.sc (.int .i64), .sc (.bool)] [.F, .F] [], .sc (.int .i64) (.l []), .own [.sc (.int .i64), .sl [.sc (.int .i64), .sc (.int .i64), .sl [.sc (.int .i64), .sc (.str), .sc (.str)]], .sc (.int .i64), .sl [.sc (.str), .sc (.str)], .sl [.sc (.int .i64), .sc (.int .i64), .sl [.sc (.int .i64), .sc (.str), .sc (.str)]]] [.F, .O [.F, .F, .O [.F, .F, .F]], .F, .O [.F, .F], .O [.F, .F, .O [.F, .F, .F]]] [], .own [.sc (.int .i64), .sc (.int .i64), .sc (.int .i64), .sl [.sc (.int .i64), .sc (.str), .sc (.str)], .sc (.bool)] [.F, .F, .F, .O [.F, .F, .F], .F] [], .own [.sc (.int .i64), .sc (.int .i64), .sc (.int .i64), .sl [.sc (.int .i64), .sc (.str), .sc (.str)], .sc (.bool)] [.F, .F, .F, .O [.F, .F, .F], .F] [], .own [.sc (.int .i64), .sl [.sc (.int .i64), .sc (.str), .sc (.str)]] [.F, .O [.F, .F, .F]] []], .one (.sc (.int .i64) (.l []))]
noncomputable def laws_markWorld_w (m : Nat) (vs : List T) (k : Ret → An) : An := laws_markWorld m (vs.headD dflt) (vs.tail.headD dflt) (vs.tail.tail.headD dflt) (vs.tail.tail.tail.headD dflt) (vs.tail.tail.tail.tail.headD dflt) (vs.tail.tail.tail.tail.tail.headD dflt) (vs.tail.tail.tail.tail.tail.tail.headD dflt) (vs.tail.tail.tail.tail.tail.tail.tail.headD dflt) (vs.tail.tail.tail.tail.tail.tail.tail.tail.headD dflt) (vs.tail.tail.tail.tail.tail.tail.tail.tail.tail.headD dflt) (vs.tail.tail.tail.tail.tail.tail.tail.tail.tail.tail.headD dflt) (fun z0 z1 z2 z3 z4 z5 z6 => k ⟨[.one (.sc (.int .i64) z0)], [[none, none, none, some ([.sc (.int .i64), .sl [.sc (.int .i64), .sc (.str), .sc (.str)], .sc (.int .i64), .sl [.sc (.int .i64)]], [.F, .O [.F, .F, .F], .F, .O [.F]], z1.rows), some ([.sc (.int .i64), .sc (.bool)], [.F, .F], z2.rows), none, some ([.sc (.int .i64), .sl [.sc (.int .i64), .sc (.int .i64), .sl [.sc (.int .i64), .sc (.str), .sc (.str)]], .sc (.int .i64), .sl [.sc (.str), .sc (.str)], .sl [.sc (.int .i64), .sc (.int .i64), .sl [.sc (.int .i64), .sc (.str), .sc (.str)]]], [.F, .O [.F, .F, .O [.F, .F, .F]], .F, .O [.F, .F], .O [.F, .F, .O [.F, .F, .F]]], z3.rows), some ([.sc (.int .i64), .sc (.int .i64), .sc (.int .i64), .sl [.sc (.int .i64), .sc (.str), .sc (.str)], .sc (.bool)], [.F, .F, .F, .O [.F, .F, .F], .F], z4.rows), some ([.sc (.int .i64), .sc (.int .i64), .sc (.int .i64), .sl [.sc (.int .i64), .sc (.str), .sc (.str)], .sc (.bool)], [.F, .F, .F, .O [.F, .F, .F], .F], z5.rows), some ([.sc (.int .i64), .sl [.sc (.int .i64), .sc (.str), .sc (.str)]], [.F, .O [.F, .F, .F]], z6.rows)], [none]], [none, none]⟩)
theorem laws_markWorld_cf (m : Nat) : callK CX prims m = (patC 34 laws_markCoord_a (laws_markCoord_w m) (patC 35 laws_markShardS_a (laws_markShardS_w m) (patC 36 laws_markWordS_a (laws_markWordS_w m) (patC 37 laws_markOrderS_a (laws_markOrderS_w m) (callK CX prims m))))) := by
  rw [← patC_eq (fun vs k => laws_markOrderS_eq m vs k), ← patC_eq (fun vs k => laws_markWordS_eq m vs k), ← patC_eq (fun vs k => laws_markShardS_eq m vs k), ← patC_eq (fun vs k => laws_markCoord_eq m vs k)]
noncomputable def laws_markWorld_c : Code := (Try.f11.body).getD .skip
noncomputable def laws_markWorld_fi : Fi := ⟨11, 2, 26, 17⟩
theorem laws_markWorld_eq (m : Nat) : ∀ vs k, callK CX prims m 11 (fArgs laws_markWorld_a vs) k = laws_markWorld_w m vs k := by
  cases m with
  | zero => exact fun vs k => rfl
  | succ m => exact fun vs k => Eq.trans (b := bodyK CX (callK CX prims m) (loopK CX (callK CX prims m) laws_markWorld_fi laws_markWorld_c m) 11 Try.f11 laws_markWorld_c (fArgs laws_markWorld_a vs) k) (by kernel_rfl) ((bodyK_congr (laws_markWorld_cf m) rfl 11 Try.f11 laws_markWorld_c (fArgs laws_markWorld_a vs) k).trans (by kernel_rfl))

/-! loop.example/g00244/laws.markTableS -/
noncomputable def laws_markTableS_L0_0 (m : Nat) : Nat → T → T → T → (T → T → An) → An
  | 0, _, _, _, _ => .bad
  | n + 1, x0, x1, x2, k0 =>
    cond (decide (x1.int < (x2.rows.length : Int)))
    (cond (decide ((0 : Int) ≤ x1.int ∧ x1.int < (x2.rows.length : Int)))
    (cond (decide ((Int.toNat x1.int) < x2.rows.length))
    (cond (decide ((Int.toNat x1.int) < x2.rows.length))
    (laws_markPairS m (T.l ((x2.rows.getD (Int.toNat x1.int) []).headD dflt).rows) x0
    (fun y0 y1 => laws_markTableS_L0_0 m n y0 (T.i (IntKind.i64.wrap (x1.int + 1))) (T.l (x2.rows.set (Int.toNat x1.int) [(T.l y1.rows)])) k0))
    (.bad))
    (.bad))
    (.bad))
    (k0 x0 (T.l x2.rows))
noncomputable def laws_markTableS_s0_0 : Pack := ⟨[(0, .one ⟨.al [0, 0] 0, .sl [.sl [.sc (.str), .sc (.str)]], .l []⟩), (1, .one ⟨.sc, .sc (.int .i64), .l []⟩), (5, .one ⟨.sc, .sc (.int .i64), .l []⟩)], [([0, 0], .row [.sl [.sc (.str), .sc (.str)]] [.O [.F, .F]] [])]⟩
noncomputable def laws_markTableS_e0_0 : Pack := ⟨[(0, .one ⟨.al [0, 0] 0, .sl [.sl [.sc (.str), .sc (.str)]], .l []⟩), (1, .one ⟨.sc, .sc (.int .i64), .l []⟩)], [([0, 0], .row [.sl [.sc (.str), .sc (.str)]] [.O [.F, .F]] [])]⟩
noncomputable def laws_markTableS_L0_0w (m n : Nat) (vs : List T) (k : Ctl → Pack → An) : An := laws_markTableS_L0_0 m n (vs.headD dflt) (vs.tail.headD dflt) (vs.tail.tail.headD dflt) (fun z0 z1 => k (.exit 0) (fPack laws_markTableS_e0_0 [z0, z1]))
noncomputable def laws_markTableS : Nat → T → T → (T → T → An) → An
  | 0, _, _, _ => .bad
  | m + 1, x0, x1, k0 =>
    laws_markTableS_L0_0 m m x1 (T.i 0) (T.l x0.rows)
    (fun y2 y3 => k0 y2 (T.l y3.rows))
noncomputable def laws_markTableS_a : List Arg := [.one (.own [.sl [.sc (.str), .sc (.str)]] [.O [.F, .F]] []), .one (.sc (.int .i64) (.l []))]
noncomputable def laws_markTableS_w (m : Nat) (vs : List T) (k : Ret → An) : An := laws_markTableS m (vs.headD dflt) (vs.tail.headD dflt) (fun z0 z1 => k ⟨[.one (.sc (.int .i64) z0)], [[some ([.sl [.sc (.str), .sc (.str)]], [.O [.F, .F]], z1.rows)], [none]], [none, none]⟩)
theorem laws_markTableS_cf (m : Nat) : callK CX prims m = (patC 12 laws_markPairS_a (laws_markPairS_w m) (callK CX prims m)) := by
  rw [← patC_eq (fun vs k => laws_markPairS_eq m vs k)]
noncomputable def laws_markTableS_c : Code := (Try.f17.body).getD .skip
noncomputable def laws_markTableS_fi : Fi := ⟨17, 2, 20, 17⟩
theorem laws_markTableS_lf (m : Nat) : ∀ n, (∀ vs k, loopK CX (callK CX prims m) laws_markTableS_fi laws_markTableS_c n [0, 1, 0, 1] (fPack laws_markTableS_s0_0 vs) k = laws_markTableS_L0_0w m n vs k) ∧ ((loopK CX (callK CX prims m) laws_markTableS_fi laws_markTableS_c n) = (patL [0, 1, 0, 1] laws_markTableS_s0_0 (laws_markTableS_L0_0w m n) (loopK CX (callK CX prims m) laws_markTableS_fi laws_markTableS_c n))) := by
  intro n
  have hl : ∀ n, (∀ vs k, loopK CX (callK CX prims m) laws_markTableS_fi laws_markTableS_c n [0, 1, 0, 1] (fPack laws_markTableS_s0_0 vs) k = laws_markTableS_L0_0w m n vs k) → ((loopK CX (callK CX prims m) laws_markTableS_fi laws_markTableS_c n) = (patL [0, 1, 0, 1] laws_markTableS_s0_0 (laws_markTableS_L0_0w m n) (loopK CX (callK CX prims m) laws_markTableS_fi laws_markTableS_c n))) := by
    intro n h0
    rw [← patL_eq h0]
  induction n with
  | zero => exact ⟨fun vs k => rfl, hl 0 (fun vs k => rfl)⟩
  | succ n ihn =>
    have hn := ihn.2
    have h0 : ∀ vs k, loopK CX (callK CX prims m) laws_markTableS_fi laws_markTableS_c (n + 1) [0, 1, 0, 1] (fPack laws_markTableS_s0_0 vs) k = laws_markTableS_L0_0w m (n + 1) vs k := fun vs k =>
      (stepL_congr (laws_markTableS_cf m) hn [0, 1, 0, 1] _ _).trans (by kernel_rfl)
    exact ⟨h0, hl (n + 1) h0⟩
theorem laws_markTableS_eq (m : Nat) : ∀ vs k, callK CX prims m 17 (fArgs laws_markTableS_a vs) k = laws_markTableS_w m vs k := by
  cases m with
  | zero => exact fun vs k => rfl
  | succ m => exact fun vs k => Eq.trans (b := bodyK CX (callK CX prims m) (loopK CX (callK CX prims m) laws_markTableS_fi laws_markTableS_c m) 17 Try.f17 laws_markTableS_c (fArgs laws_markTableS_a vs) k) (by kernel_rfl) ((bodyK_congr (laws_markTableS_cf m) ((laws_markTableS_lf m m).2) 17 Try.f17 laws_markTableS_c (fArgs laws_markTableS_a vs) k).trans (by kernel_rfl))

/-! loop.example/g00244/laws.heldPairS -/
noncomputable def laws_heldPairS_L0_0 (m : Nat) : Nat → T → T → T → (T → An) → (T → An) → An
  | 0, _, _, _, _, _ => .bad
  | n + 1, x0, x1, x2, k0, k1 =>
    cond (decide (x2.int < (x0.rows.length : Int)))
    (cond (decide ((0 : Int) ≤ x2.int ∧ x2.int < (x0.rows.length : Int)))
    (laws_markText m x1
    (fun y0 => cond (!(((x0.rows.getD (Int.toNat x2.int) []).getD 0 dflt).str.toList == y0.str.toList))
    (k0 (T.i (-1)))
    (cond (decide ((0 : Int) ≤ x2.int ∧ x2.int < (x0.rows.length : Int)))
    (laws_markText m (T.i (IntKind.i64.wrap (x1.int + 1)))
    (fun y1 => cond (!((((x0.rows.getD (Int.toNat x2.int) []).drop 1).getD 0 dflt).str.toList == y1.str.toList))
    (k0 (T.i (-1)))
    (laws_heldPairS_L0_0 m n x0 (T.i (IntKind.i64.wrap ((IntKind.i64.wrap (x1.int + 1)) + 1))) (T.i (IntKind.i64.wrap (x2.int + 1))) k0 k1)))
    (.bad))))
    (.bad))
    (k1 x1)
noncomputable def laws_heldPairS_s0_0 : Pack := ⟨[(0, .one ⟨.sn [([4000000], 0)], .sl [.sc (.str), .sc (.str)], .l []⟩), (1, .one ⟨.sc, .sc (.int .i64), .l []⟩), (5, .one ⟨.sc, .sc (.int .i64), .l []⟩)], [([4000000], .gone)]⟩
noncomputable def laws_heldPairS_e0_0 : Pack := ⟨[(4, .one ⟨.sc, .sc (.int .i64), .l []⟩)], []⟩
noncomputable def laws_heldPairS_e0_1 : Pack := ⟨[(1, .one ⟨.sc, .sc (.int .i64), .l []⟩)], []⟩
noncomputable def laws_heldPairS_L0_0w (m n : Nat) (vs : List T) (k : Ctl → Pack → An) : An := laws_heldPairS_L0_0 m n (vs.headD dflt) (vs.tail.headD dflt) (vs.tail.tail.headD dflt) (fun z0 => k .ret (fPack laws_heldPairS_e0_0 [z0])) (fun z0 => k (.exit 0) (fPack laws_heldPairS_e0_1 [z0]))
noncomputable def laws_heldPairS : Nat → T → T → (T → An) → An
  | 0, _, _, _ => .bad
  | m + 1, x0, x1, k0 =>
    laws_heldPairS_L0_0 m m (T.l x0.rows) x1 (T.i 0)
    (fun y2 => k0 y2)
    (fun y3 => k0 y3)
noncomputable def laws_heldPairS_a : List Arg := [.one (.dz [.sc (.str), .sc (.str)] []), .one (.sc (.int .i64) (.l []))]
noncomputable def laws_heldPairS_w (m : Nat) (vs : List T) (k : Ret → An) : An := laws_heldPairS m (vs.headD dflt) (vs.tail.headD dflt) (fun z0 => k ⟨[.one (.sc (.int .i64) z0)], [[none], [none]], [none, none]⟩)
theorem laws_heldPairS_cf (m : Nat) : callK CX prims m = (patC 38 laws_markText_a (laws_markText_w m) (callK CX prims m)) := by
  rw [← patC_eq (fun vs k => laws_markText_eq m vs k)]
noncomputable def laws_heldPairS_c : Code := (Try.f13.body).getD .skip
noncomputable def laws_heldPairS_fi : Fi := ⟨13, 2, 33, 16⟩
theorem laws_heldPairS_lf (m : Nat) : ∀ n, (∀ vs k, loopK CX (callK CX prims m) laws_heldPairS_fi laws_heldPairS_c n [0, 1, 0, 1] (fPack laws_heldPairS_s0_0 vs) k = laws_heldPairS_L0_0w m n vs k) ∧ ((loopK CX (callK CX prims m) laws_heldPairS_fi laws_heldPairS_c n) = (patL [0, 1, 0, 1] laws_heldPairS_s0_0 (laws_heldPairS_L0_0w m n) (loopK CX (callK CX prims m) laws_heldPairS_fi laws_heldPairS_c n))) := by
  intro n
  have hl : ∀ n, (∀ vs k, loopK CX (callK CX prims m) laws_heldPairS_fi laws_heldPairS_c n [0, 1, 0, 1] (fPack laws_heldPairS_s0_0 vs) k = laws_heldPairS_L0_0w m n vs k) → ((loopK CX (callK CX prims m) laws_heldPairS_fi laws_heldPairS_c n) = (patL [0, 1, 0, 1] laws_heldPairS_s0_0 (laws_heldPairS_L0_0w m n) (loopK CX (callK CX prims m) laws_heldPairS_fi laws_heldPairS_c n))) := by
    intro n h0
    rw [← patL_eq h0]
  induction n with
  | zero => exact ⟨fun vs k => rfl, hl 0 (fun vs k => rfl)⟩
  | succ n ihn =>
    have hn := ihn.2
    have h0 : ∀ vs k, loopK CX (callK CX prims m) laws_heldPairS_fi laws_heldPairS_c (n + 1) [0, 1, 0, 1] (fPack laws_heldPairS_s0_0 vs) k = laws_heldPairS_L0_0w m (n + 1) vs k := fun vs k =>
      (stepL_congr (laws_heldPairS_cf m) hn [0, 1, 0, 1] _ _).trans (by kernel_rfl)
    exact ⟨h0, hl (n + 1) h0⟩
theorem laws_heldPairS_eq (m : Nat) : ∀ vs k, callK CX prims m 13 (fArgs laws_heldPairS_a vs) k = laws_heldPairS_w m vs k := by
  cases m with
  | zero => exact fun vs k => rfl
  | succ m => exact fun vs k => Eq.trans (b := bodyK CX (callK CX prims m) (loopK CX (callK CX prims m) laws_heldPairS_fi laws_heldPairS_c m) 13 Try.f13 laws_heldPairS_c (fArgs laws_heldPairS_a vs) k) (by kernel_rfl) ((bodyK_congr (laws_heldPairS_cf m) ((laws_heldPairS_lf m m).2) 13 Try.f13 laws_heldPairS_c (fArgs laws_heldPairS_a vs) k).trans (by kernel_rfl))

/-! loop.example/g00244/laws.heldTableS -/
noncomputable def laws_heldTableS_L0_0 (m : Nat) : Nat → T → T → T → (T → An) → (T → An) → An
  | 0, _, _, _, _, _ => .bad
  | n + 1, x0, x1, x2, k0, k1 =>
    cond (decide (x2.int < (x0.rows.length : Int)))
    (cond (decide ((0 : Int) ≤ x2.int ∧ x2.int < (x0.rows.length : Int)))
    (laws_heldPairS m (T.l ((x0.rows.getD (Int.toNat x2.int) []).getD 0 dflt).rows) x1
    (fun y0 => cond (decide (y0.int < 0))
    (k0 (T.i (-1)))
    (laws_heldTableS_L0_0 m n x0 y0 (T.i (IntKind.i64.wrap (x2.int + 1))) k0 k1)))
    (.bad))
    (k1 x1)
noncomputable def laws_heldTableS_s0_0 : Pack := ⟨[(0, .one ⟨.sn [([4000000], 0)], .sl [.sl [.sc (.str), .sc (.str)]], .l []⟩), (1, .one ⟨.sc, .sc (.int .i64), .l []⟩), (5, .one ⟨.sc, .sc (.int .i64), .l []⟩)], [([4000000], .gone)]⟩
noncomputable def laws_heldTableS_e0_0 : Pack := ⟨[(4, .one ⟨.sc, .sc (.int .i64), .l []⟩)], []⟩
noncomputable def laws_heldTableS_e0_1 : Pack := ⟨[(1, .one ⟨.sc, .sc (.int .i64), .l []⟩)], []⟩
noncomputable def laws_heldTableS_L0_0w (m n : Nat) (vs : List T) (k : Ctl → Pack → An) : An := laws_heldTableS_L0_0 m n (vs.headD dflt) (vs.tail.headD dflt) (vs.tail.tail.headD dflt) (fun z0 => k .ret (fPack laws_heldTableS_e0_0 [z0])) (fun z0 => k (.exit 0) (fPack laws_heldTableS_e0_1 [z0]))
noncomputable def laws_heldTableS : Nat → T → T → (T → An) → An
  | 0, _, _, _ => .bad
  | m + 1, x0, x1, k0 =>
    laws_heldTableS_L0_0 m m (T.l x0.rows) x1 (T.i 0)
    (fun y1 => k0 y1)
    (fun y2 => k0 y2)
noncomputable def laws_heldTableS_a : List Arg := [.one (.dz [.sl [.sc (.str), .sc (.str)]] []), .one (.sc (.int .i64) (.l []))]
noncomputable def laws_heldTableS_w (m : Nat) (vs : List T) (k : Ret → An) : An := laws_heldTableS m (vs.headD dflt) (vs.tail.headD dflt) (fun z0 => k ⟨[.one (.sc (.int .i64) z0)], [[none], [none]], [none, none]⟩)
theorem laws_heldTableS_cf (m : Nat) : callK CX prims m = (patC 13 laws_heldPairS_a (laws_heldPairS_w m) (callK CX prims m)) := by
  rw [← patC_eq (fun vs k => laws_heldPairS_eq m vs k)]
noncomputable def laws_heldTableS_c : Code := (Try.f18.body).getD .skip
noncomputable def laws_heldTableS_fi : Fi := ⟨18, 2, 22, 16⟩
theorem laws_heldTableS_lf (m : Nat) : ∀ n, (∀ vs k, loopK CX (callK CX prims m) laws_heldTableS_fi laws_heldTableS_c n [0, 1, 0, 1] (fPack laws_heldTableS_s0_0 vs) k = laws_heldTableS_L0_0w m n vs k) ∧ ((loopK CX (callK CX prims m) laws_heldTableS_fi laws_heldTableS_c n) = (patL [0, 1, 0, 1] laws_heldTableS_s0_0 (laws_heldTableS_L0_0w m n) (loopK CX (callK CX prims m) laws_heldTableS_fi laws_heldTableS_c n))) := by
  intro n
  have hl : ∀ n, (∀ vs k, loopK CX (callK CX prims m) laws_heldTableS_fi laws_heldTableS_c n [0, 1, 0, 1] (fPack laws_heldTableS_s0_0 vs) k = laws_heldTableS_L0_0w m n vs k) → ((loopK CX (callK CX prims m) laws_heldTableS_fi laws_heldTableS_c n) = (patL [0, 1, 0, 1] laws_heldTableS_s0_0 (laws_heldTableS_L0_0w m n) (loopK CX (callK CX prims m) laws_heldTableS_fi laws_heldTableS_c n))) := by
    intro n h0
    rw [← patL_eq h0]
  induction n with
  | zero => exact ⟨fun vs k => rfl, hl 0 (fun vs k => rfl)⟩
  | succ n ihn =>
    have hn := ihn.2
    have h0 : ∀ vs k, loopK CX (callK CX prims m) laws_heldTableS_fi laws_heldTableS_c (n + 1) [0, 1, 0, 1] (fPack laws_heldTableS_s0_0 vs) k = laws_heldTableS_L0_0w m (n + 1) vs k := fun vs k =>
      (stepL_congr (laws_heldTableS_cf m) hn [0, 1, 0, 1] _ _).trans (by kernel_rfl)
    exact ⟨h0, hl (n + 1) h0⟩
theorem laws_heldTableS_eq (m : Nat) : ∀ vs k, callK CX prims m 18 (fArgs laws_heldTableS_a vs) k = laws_heldTableS_w m vs k := by
  cases m with
  | zero => exact fun vs k => rfl
  | succ m => exact fun vs k => Eq.trans (b := bodyK CX (callK CX prims m) (loopK CX (callK CX prims m) laws_heldTableS_fi laws_heldTableS_c m) 18 Try.f18 laws_heldTableS_c (fArgs laws_heldTableS_a vs) k) (by kernel_rfl) ((bodyK_congr (laws_heldTableS_cf m) ((laws_heldTableS_lf m m).2) 18 Try.f18 laws_heldTableS_c (fArgs laws_heldTableS_a vs) k).trans (by kernel_rfl))

/-! loop.example/g00244/laws.FnExactTablesOf -/
noncomputable def laws_FnExactTablesOf : Nat → T → T → T → T → T → T → T → T → T → T → (T → An) → An
  | 0, _, _, _, _, _, _, _, _, _, _, _ => .bad
  | m + 1, x0, x1, x2, x3, x4, x5, x6, x7, x8, x9, k0 =>
    laws_szWorld m x0 x1 x2 (T.l x3.rows) (T.l x4.rows) x5 (T.l x6.rows) (T.l x7.rows) (T.l x8.rows) (T.l x9.rows) (T.i 1048576)
    (fun y0 => cond (decide (y0.int < 0))
    (k0 (T.b true))
    (laws_toWorld m x0 x1 x2 (T.l x3.rows) (T.l x4.rows) x5 (T.l x6.rows) (T.l x7.rows) (T.l x8.rows) (T.l x9.rows)
    (fun y1 y2 y3 y4 y5 y6 y7 y8 y9 y10 => spec_TablesOf m y1 y2 y3 (T.l y4.rows) (T.l y5.rows) y6 (T.l y7.rows) (T.l y8.rows) (T.l y9.rows) (T.l y10.rows)
    (fun y11 => laws_toWorld m x0 x1 x2 (T.l x3.rows) (T.l x4.rows) x5 (T.l x6.rows) (T.l x7.rows) (T.l x8.rows) (T.l x9.rows)
    (fun y12 y13 y14 y15 y16 y17 y18 y19 y20 y21 => impl_TablesOf m y12 y13 y14 (T.l y15.rows) (T.l y16.rows) y17 (T.l y18.rows) (T.l y19.rows) (T.l y20.rows) (T.l y21.rows)
    (fun y22 => laws_eqTableS m (T.l y22.rows) (T.l y11.rows)
    (fun y23 => cond (!y23.bool)
    (k0 (T.b false))
    (laws_toWorld m x0 x1 x2 (T.l x3.rows) (T.l x4.rows) x5 (T.l x6.rows) (T.l x7.rows) (T.l x8.rows) (T.l x9.rows)
    (fun y24 y25 y26 y27 y28 y29 y30 y31 y32 y33 => laws_eqWorld m y12 y13 y14 (T.l y15.rows) (T.l y16.rows) y17 (T.l y18.rows) (T.l y19.rows) (T.l y20.rows) (T.l y21.rows) y24 y25 y26 (T.l y27.rows) (T.l y28.rows) y29 (T.l y30.rows) (T.l y31.rows) (T.l y32.rows) (T.l y33.rows)
    (fun y34 => cond (!y34.bool)
    (k0 (T.b false))
    (laws_markWorld m y12 y13 y14 (T.l y15.rows) (T.l y16.rows) y17 (T.l y18.rows) (T.l y19.rows) (T.l y20.rows) (T.l y21.rows) (T.i 1)
    (fun y35 y36 y37 y38 y39 y40 y41 => cond ((decide (y35.int < 0)) == false)
    (laws_eqTableS m (T.l y22.rows) (T.l y11.rows)
    (fun y42 => cond (!y42.bool)
    (k0 (T.b false))
    (laws_markTableS m (T.l y22.rows) (T.i 1)
    (fun y43 y44 => laws_heldTableS m (T.l y44.rows) (T.i 1)
    (fun y45 => cond (decide (y45.int < 0))
    (k0 (T.b false))
    (cond (y45.int != y43.int)
    (k0 (T.b false))
    (laws_toWorld m x0 x1 x2 (T.l x3.rows) (T.l x4.rows) x5 (T.l x6.rows) (T.l x7.rows) (T.l x8.rows) (T.l x9.rows)
    (fun y46 y47 y48 y49 y50 y51 y52 y53 y54 y55 => impl_TablesOf m y46 y47 y48 (T.l y49.rows) (T.l y50.rows) y51 (T.l y52.rows) (T.l y53.rows) (T.l y54.rows) (T.l y55.rows)
    (fun y56 => laws_eqTableS m (T.l y56.rows) (T.l y11.rows)
    (fun y57 => cond (!y57.bool)
    (k0 (T.b false))
    (laws_heldTableS m (T.l y44.rows) (T.i 1)
    (fun y58 => cond (decide (y58.int < 0))
    (k0 (T.b false))
    (cond (y58.int != y43.int)
    (k0 (T.b false))
    (k0 (T.b true)))))))))))))))
    (k0 (T.b false))))))))))))))
noncomputable def laws_FnExactTablesOf_a : List Arg := [.agg [.sc (.int .i64) (.l []), .sc (.int .i64) (.l []), .sc (.int .i64) (.l []), .fz [.sc (.int .i64), .sl [.sc (.int .i64), .sc (.str), .sc (.str)], .sc (.int .i64), .sl [.sc (.int .i64)]] [], .fz [.sc (.int .i64), .sc (.bool)] [], .sc (.int .i64) (.l []), .fz [.sc (.int .i64), .sl [.sc (.int .i64), .sc (.int .i64), .sl [.sc (.int .i64), .sc (.str), .sc (.str)]], .sc (.int .i64), .sl [.sc (.str), .sc (.str)], .sl [.sc (.int .i64), .sc (.int .i64), .sl [.sc (.int .i64), .sc (.str), .sc (.str)]]] [], .fz [.sc (.int .i64), .sc (.int .i64), .sc (.int .i64), .sl [.sc (.int .i64), .sc (.str), .sc (.str)], .sc (.bool)] [], .fz [.sc (.int .i64), .sc (.int .i64), .sc (.int .i64), .sl [.sc (.int .i64), .sc (.str), .sc (.str)], .sc (.bool)] [], .fz [.sc (.int .i64), .sl [.sc (.int .i64), .sc (.str), .sc (.str)]] []]]
noncomputable def laws_FnExactTablesOf_w (m : Nat) (vs : List T) (k : Ret → An) : An := laws_FnExactTablesOf m (vs.headD dflt) (vs.tail.headD dflt) (vs.tail.tail.headD dflt) (vs.tail.tail.tail.headD dflt) (vs.tail.tail.tail.tail.headD dflt) (vs.tail.tail.tail.tail.tail.headD dflt) (vs.tail.tail.tail.tail.tail.tail.headD dflt) (vs.tail.tail.tail.tail.tail.tail.tail.headD dflt) (vs.tail.tail.tail.tail.tail.tail.tail.tail.headD dflt) (vs.tail.tail.tail.tail.tail.tail.tail.tail.tail.headD dflt) (fun z0 => k ⟨[.one (.sc (.bool) z0)], [[none, none, none, none, none, none, none, none, none, none]], [none]⟩)
theorem laws_FnExactTablesOf_cf (m : Nat) : callK CX prims m = (patC 5 laws_szWorld_a (laws_szWorld_w m) (patC 7 laws_toWorld_a (laws_toWorld_w m) (patC 14 spec_TablesOf_a (spec_TablesOf_w m) (patC 15 impl_TablesOf_a (impl_TablesOf_w m) (patC 16 laws_eqTableS_a (laws_eqTableS_w m) (patC 10 laws_eqWorld_a (laws_eqWorld_w m) (patC 11 laws_markWorld_a (laws_markWorld_w m) (patC 17 laws_markTableS_a (laws_markTableS_w m) (patC 18 laws_heldTableS_a (laws_heldTableS_w m) (callK CX prims m)))))))))) := by
  rw [← patC_eq (fun vs k => laws_heldTableS_eq m vs k), ← patC_eq (fun vs k => laws_markTableS_eq m vs k), ← patC_eq (fun vs k => laws_markWorld_eq m vs k), ← patC_eq (fun vs k => laws_eqWorld_eq m vs k), ← patC_eq (fun vs k => laws_eqTableS_eq m vs k), ← patC_eq (fun vs k => impl_TablesOf_eq m vs k), ← patC_eq (fun vs k => spec_TablesOf_eq m vs k), ← patC_eq (fun vs k => laws_toWorld_eq m vs k), ← patC_eq (fun vs k => laws_szWorld_eq m vs k)]
noncomputable def laws_FnExactTablesOf_c : Code := (Try.f4.body).getD .skip
noncomputable def laws_FnExactTablesOf_fi : Fi := ⟨4, 1, 69, 4⟩
theorem laws_FnExactTablesOf_eq (m : Nat) : ∀ vs k, callK CX prims m 4 (fArgs laws_FnExactTablesOf_a vs) k = laws_FnExactTablesOf_w m vs k := by
  cases m with
  | zero => exact fun vs k => rfl
  | succ m => exact fun vs k => Eq.trans (b := bodyK CX (callK CX prims m) (loopK CX (callK CX prims m) laws_FnExactTablesOf_fi laws_FnExactTablesOf_c m) 4 Try.f4 laws_FnExactTablesOf_c (fArgs laws_FnExactTablesOf_a vs) k) (by kernel_rfl) ((bodyK_congr (laws_FnExactTablesOf_cf m) rfl 4 Try.f4 laws_FnExactTablesOf_c (fArgs laws_FnExactTablesOf_a vs) k).trans (by kernel_rfl))

end Go.Proofs.Ytdmjaenknhhidaa

