/- A part of the proof: texts S6P1: see the last part's opening words. -/
import Derived.Test.YtdmjaenknhhidaaH
set_option linter.unusedVariables false
set_option linter.unusedSimpArgs false
set_option linter.unnecessarySimpa false
namespace Go.Proofs.Ytdmjaenknhhidaa
open Go Go.E Go.Proofs
def slices_Clone___impl_Pair_impl_Pair_ : Nat → T → (T → An) → An
  | 0, _, _ => .bad
  | m + 1, x0, k0 => cond (decide (x0.rows.length * 2 ≤ maxRow)) (k0 (T.l x0.rows)) .bad
noncomputable def slices_Clone___impl_Pair_impl_Pair__a : List Arg := [.one (.dz [.sc (.str), .sc (.str)] [])]
def slices_Clone___impl_Pair_impl_Pair__w (m : Nat) (vs : List T) (k : Ret → An) : An := slices_Clone___impl_Pair_impl_Pair_ m (vs.headD dflt) (fun z0 => k ⟨[.one (.own [7000000] [.sc (.str), .sc (.str)] [.F, .F] z0.rows)], [[none]], []⟩)
theorem slices_Clone___impl_Pair_impl_Pair__eq (m : Nat) : ∀ vs k, callK CX prims m 39 (fArgs slices_Clone___impl_Pair_impl_Pair__a vs) k = slices_Clone___impl_Pair_impl_Pair__w m vs k := by
  intro vs k
  cases m with
  | zero => rfl
  | succ m =>
    refine Eq.trans (b := ((primClone [.sc (.str), .sc (.str)]) (fArgs slices_Clone___impl_Pair_impl_Pair__a vs)).bind k) (by kernel_rfl) ?_
    refine Eq.trans (b := (cond (decide ((vs.headD dflt).rows.length * 2 ≤ maxRow)) (R3.ok ⟨[.one (.own [7000000] [.sc (.str), .sc (.str)] [.F, .F] (vs.headD dflt).rows)], [[none]], []⟩) .bad).bind k) (by kernel_rfl) ?_
    rw [cond_bind]; rfl

/-! loop.example/g00244/laws.szOp -/
noncomputable def laws_szOp : Nat → T → T → T → T → (T → An) → An
  | 0, _, _, _, _, _ => .bad
  | m + 1, x0, x1, x2, x3, k0 =>
    cond (decide ((IntKind.i64.wrap (x3.int - (x1.str.size : Int))) < 0))
    (k0 (T.i (-1)))
    (cond (decide ((IntKind.i64.wrap ((IntKind.i64.wrap (x3.int - (x1.str.size : Int))) - (x2.str.size : Int))) < 0))
    (k0 (T.i (-1)))
    (k0 (T.i (IntKind.i64.wrap ((IntKind.i64.wrap (x3.int - (x1.str.size : Int))) - (x2.str.size : Int))))))
noncomputable def laws_szOp_a : List Arg := [.agg [.sc (.int .i64) (.l []), .sc (.str) (.l []), .sc (.str) (.l [])], .one (.sc (.int .i64) (.l []))]
noncomputable def laws_szOp_w (m : Nat) (vs : List T) (k : Ret → An) : An := laws_szOp m (vs.headD dflt) (vs.tail.headD dflt) (vs.tail.tail.headD dflt) (vs.tail.tail.tail.headD dflt) (fun z0 => k ⟨[.one (.sc (.int .i64) z0)], [[none, none, none], [none]], [none, none]⟩)
theorem laws_szOp_cf (m : Nat) : callK CX prims m = (callK CX prims m) := by
  rfl
noncomputable def laws_szOp_c : Code := (Try.f81.body).getD .skip
noncomputable def laws_szOp_fi : Fi := ⟨81, 2, 20, 16⟩
theorem laws_szOp_eq (m : Nat) : ∀ vs k, callK CX prims m 81 (fArgs laws_szOp_a vs) k = laws_szOp_w m vs k := by
  cases m with
  | zero => exact fun vs k => rfl
  | succ m => exact fun vs k => Eq.trans (b := bodyK CX (callK CX prims m) (loopK CX (callK CX prims m) laws_szOp_fi laws_szOp_c m) 81 Try.f81 laws_szOp_c (fArgs laws_szOp_a vs) k) (by kernel_rfl) ((bodyK_congr (laws_szOp_cf m) rfl 81 Try.f81 laws_szOp_c (fArgs laws_szOp_a vs) k).trans (by kernel_rfl))

/-! loop.example/g00244/laws.szOpS -/
noncomputable def laws_szOpS_L0_0 (m : Nat) : Nat → T → T → T → (T → An) → (T → An) → An
  | 0, _, _, _, _, _ => .bad
  | n + 1, x0, x1, x2, k0, k1 =>
    cond (decide (x2.int < (x0.rows.length : Int)))
    (cond (decide ((0 : Int) ≤ x2.int ∧ x2.int < (x0.rows.length : Int)))
    (laws_szOp m ((x0.rows.getD (Int.toNat x2.int) []).getD 0 dflt) ((x0.rows.getD (Int.toNat x2.int) []).getD 1 dflt) ((x0.rows.getD (Int.toNat x2.int) []).getD 2 dflt) x1
    (fun y0 => cond (decide (y0.int < 0))
    (k0 (T.i (-1)))
    (laws_szOpS_L0_0 m n x0 y0 (T.i (IntKind.i64.wrap (x2.int + 1))) k0 k1)))
    (.bad))
    (k1 x1)
noncomputable def laws_szOpS_s0_0 : Pack := ⟨[(0, .one ⟨.sn [([4000000], 0)], .sl [.sc (.int .i64), .sc (.str), .sc (.str)], .l []⟩), (1, .one ⟨.sc, .sc (.int .i64), .l []⟩), (5, .one ⟨.sc, .sc (.int .i64), .l []⟩)], [([4000000], .gone)]⟩
noncomputable def laws_szOpS_e0_0 : Pack := ⟨[(4, .one ⟨.sc, .sc (.int .i64), .l []⟩)], []⟩
noncomputable def laws_szOpS_e0_1 : Pack := ⟨[(1, .one ⟨.sc, .sc (.int .i64), .l []⟩)], []⟩
noncomputable def laws_szOpS_L0_0w (m n : Nat) (vs : List T) (k : Ctl → Pack → An) : An := laws_szOpS_L0_0 m n (vs.headD dflt) (vs.tail.headD dflt) (vs.tail.tail.headD dflt) (fun z0 => k .ret (fPack laws_szOpS_e0_0 [z0])) (fun z0 => k (.exit 0) (fPack laws_szOpS_e0_1 [z0]))
noncomputable def laws_szOpS : Nat → T → T → (T → An) → An
  | 0, _, _, _ => .bad
  | m + 1, x0, x1, k0 =>
    cond (decide ((IntKind.i64.wrap (x1.int - (x0.rows.length : Int))) < 0))
    (k0 (T.i (-1)))
    (laws_szOpS_L0_0 m m (T.l x0.rows) (T.i (IntKind.i64.wrap (x1.int - (x0.rows.length : Int)))) (T.i 0)
    (fun y1 => k0 y1)
    (fun y2 => k0 y2))
noncomputable def laws_szOpS_a : List Arg := [.one (.dz [.sc (.int .i64), .sc (.str), .sc (.str)] []), .one (.sc (.int .i64) (.l []))]
noncomputable def laws_szOpS_w (m : Nat) (vs : List T) (k : Ret → An) : An := laws_szOpS m (vs.headD dflt) (vs.tail.headD dflt) (fun z0 => k ⟨[.one (.sc (.int .i64) z0)], [[none], [none]], [none, none]⟩)
theorem laws_szOpS_cf (m : Nat) : callK CX prims m = (patC 81 laws_szOp_a (laws_szOp_w m) (callK CX prims m)) := by
  rw [← patC_eq (fun vs k => laws_szOp_eq m vs k)]
noncomputable def laws_szOpS_c : Code := (Try.f65.body).getD .skip
noncomputable def laws_szOpS_fi : Fi := ⟨65, 2, 27, 16⟩
theorem laws_szOpS_lf (m : Nat) : ∀ n, (∀ vs k, loopK CX (callK CX prims m) laws_szOpS_fi laws_szOpS_c n [0, 1, 0, 1, 1, 1] (fPack laws_szOpS_s0_0 vs) k = laws_szOpS_L0_0w m n vs k) ∧ ((loopK CX (callK CX prims m) laws_szOpS_fi laws_szOpS_c n) = (patL [0, 1, 0, 1, 1, 1] laws_szOpS_s0_0 (laws_szOpS_L0_0w m n) (loopK CX (callK CX prims m) laws_szOpS_fi laws_szOpS_c n))) := by
  intro n
  have hl : ∀ n, (∀ vs k, loopK CX (callK CX prims m) laws_szOpS_fi laws_szOpS_c n [0, 1, 0, 1, 1, 1] (fPack laws_szOpS_s0_0 vs) k = laws_szOpS_L0_0w m n vs k) → ((loopK CX (callK CX prims m) laws_szOpS_fi laws_szOpS_c n) = (patL [0, 1, 0, 1, 1, 1] laws_szOpS_s0_0 (laws_szOpS_L0_0w m n) (loopK CX (callK CX prims m) laws_szOpS_fi laws_szOpS_c n))) := by
    intro n h0
    rw [← patL_eq h0]
  induction n with
  | zero => exact ⟨fun vs k => rfl, hl 0 (fun vs k => rfl)⟩
  | succ n ihn =>
    have hn := ihn.2
    have h0 : ∀ vs k, loopK CX (callK CX prims m) laws_szOpS_fi laws_szOpS_c (n + 1) [0, 1, 0, 1, 1, 1] (fPack laws_szOpS_s0_0 vs) k = laws_szOpS_L0_0w m (n + 1) vs k := fun vs k =>
      (stepL_congr (laws_szOpS_cf m) hn [0, 1, 0, 1, 1, 1] _ _).trans (by kernel_rfl)
    exact ⟨h0, hl (n + 1) h0⟩
theorem laws_szOpS_eq (m : Nat) : ∀ vs k, callK CX prims m 65 (fArgs laws_szOpS_a vs) k = laws_szOpS_w m vs k := by
  cases m with
  | zero => exact fun vs k => rfl
  | succ m => exact fun vs k => Eq.trans (b := bodyK CX (callK CX prims m) (loopK CX (callK CX prims m) laws_szOpS_fi laws_szOpS_c m) 65 Try.f65 laws_szOpS_c (fArgs laws_szOpS_a vs) k) (by kernel_rfl) ((bodyK_congr (laws_szOpS_cf m) ((laws_szOpS_lf m m).2) 65 Try.f65 laws_szOpS_c (fArgs laws_szOpS_a vs) k).trans (by kernel_rfl))

/-! loop.example/g00244/laws.szIntS -/
noncomputable def laws_szIntS : Nat → T → T → (T → An) → An
  | 0, _, _, _ => .bad
  | m + 1, x0, x1, k0 =>
    cond (decide ((IntKind.i64.wrap (x1.int - (x0.rows.length : Int))) < 0))
    (k0 (T.i (-1)))
    (k0 (T.i (IntKind.i64.wrap (x1.int - (x0.rows.length : Int)))))
noncomputable def laws_szIntS_a : List Arg := [.one (.dz [.sc (.int .i64)] []), .one (.sc (.int .i64) (.l []))]
noncomputable def laws_szIntS_w (m : Nat) (vs : List T) (k : Ret → An) : An := laws_szIntS m (vs.headD dflt) (vs.tail.headD dflt) (fun z0 => k ⟨[.one (.sc (.int .i64) z0)], [[none], [none]], [none, none]⟩)
theorem laws_szIntS_cf (m : Nat) : callK CX prims m = (callK CX prims m) := by
  rfl
noncomputable def laws_szIntS_c : Code := (Try.f78.body).getD .skip
noncomputable def laws_szIntS_fi : Fi := ⟨78, 2, 12, 16⟩
theorem laws_szIntS_eq (m : Nat) : ∀ vs k, callK CX prims m 78 (fArgs laws_szIntS_a vs) k = laws_szIntS_w m vs k := by
  cases m with
  | zero => exact fun vs k => rfl
  | succ m => exact fun vs k => Eq.trans (b := bodyK CX (callK CX prims m) (loopK CX (callK CX prims m) laws_szIntS_fi laws_szIntS_c m) 78 Try.f78 laws_szIntS_c (fArgs laws_szIntS_a vs) k) (by kernel_rfl) ((bodyK_congr (laws_szIntS_cf m) rfl 78 Try.f78 laws_szIntS_c (fArgs laws_szIntS_a vs) k).trans (by kernel_rfl))

/-! loop.example/g00244/laws.szJob -/
noncomputable def laws_szJob : Nat → T → T → T → T → T → (T → An) → An
  | 0, _, _, _, _, _, _ => .bad
  | m + 1, x0, x1, x2, x3, x4, k0 =>
    laws_szOpS m (T.l x1.rows) x4
    (fun y0 => cond (decide (y0.int < 0))
    (k0 (T.i (-1)))
    (laws_szIntS m (T.l x3.rows) y0
    (fun y1 => cond (decide (y1.int < 0))
    (k0 (T.i (-1)))
    (k0 y1))))
noncomputable def laws_szJob_a : List Arg := [.agg [.sc (.int .i64) (.l []), .dz [.sc (.int .i64), .sc (.str), .sc (.str)] [], .sc (.int .i64) (.l []), .dz [.sc (.int .i64)] []], .one (.sc (.int .i64) (.l []))]
noncomputable def laws_szJob_w (m : Nat) (vs : List T) (k : Ret → An) : An := laws_szJob m (vs.headD dflt) (vs.tail.headD dflt) (vs.tail.tail.headD dflt) (vs.tail.tail.tail.headD dflt) (vs.tail.tail.tail.tail.headD dflt) (fun z0 => k ⟨[.one (.sc (.int .i64) z0)], [[none, none, none, none], [none]], [none, none]⟩)
theorem laws_szJob_cf (m : Nat) : callK CX prims m = (patC 65 laws_szOpS_a (laws_szOpS_w m) (patC 78 laws_szIntS_a (laws_szIntS_w m) (callK CX prims m))) := by
  rw [← patC_eq (fun vs k => laws_szIntS_eq m vs k), ← patC_eq (fun vs k => laws_szOpS_eq m vs k)]
noncomputable def laws_szJob_c : Code := (Try.f62.body).getD .skip
noncomputable def laws_szJob_fi : Fi := ⟨62, 2, 18, 16⟩
theorem laws_szJob_eq (m : Nat) : ∀ vs k, callK CX prims m 62 (fArgs laws_szJob_a vs) k = laws_szJob_w m vs k := by
  cases m with
  | zero => exact fun vs k => rfl
  | succ m => exact fun vs k => Eq.trans (b := bodyK CX (callK CX prims m) (loopK CX (callK CX prims m) laws_szJob_fi laws_szJob_c m) 62 Try.f62 laws_szJob_c (fArgs laws_szJob_a vs) k) (by kernel_rfl) ((bodyK_congr (laws_szJob_cf m) rfl 62 Try.f62 laws_szJob_c (fArgs laws_szJob_a vs) k).trans (by kernel_rfl))

/-! loop.example/g00244/laws.szJobS -/
noncomputable def laws_szJobS_L0_0 (m : Nat) : Nat → T → T → T → (T → An) → (T → An) → An
  | 0, _, _, _, _, _ => .bad
  | n + 1, x0, x1, x2, k0, k1 =>
    cond (decide (x2.int < (x0.rows.length : Int)))
    (cond (decide ((0 : Int) ≤ x2.int ∧ x2.int < (x0.rows.length : Int)))
    (laws_szJob m ((x0.rows.getD (Int.toNat x2.int) []).getD 0 dflt) (T.l ((x0.rows.getD (Int.toNat x2.int) []).getD 1 dflt).rows) ((x0.rows.getD (Int.toNat x2.int) []).getD 2 dflt) (T.l ((x0.rows.getD (Int.toNat x2.int) []).getD 3 dflt).rows) x1
    (fun y0 => cond (decide (y0.int < 0))
    (k0 (T.i (-1)))
    (laws_szJobS_L0_0 m n x0 y0 (T.i (IntKind.i64.wrap (x2.int + 1))) k0 k1)))
    (.bad))
    (k1 x1)
noncomputable def laws_szJobS_s0_0 : Pack := ⟨[(0, .one ⟨.sn [([4000000], 0)], .sl [.sc (.int .i64), .sl [.sc (.int .i64), .sc (.str), .sc (.str)], .sc (.int .i64), .sl [.sc (.int .i64)]], .l []⟩), (1, .one ⟨.sc, .sc (.int .i64), .l []⟩), (5, .one ⟨.sc, .sc (.int .i64), .l []⟩)], [([4000000], .gone)]⟩
noncomputable def laws_szJobS_e0_0 : Pack := ⟨[(4, .one ⟨.sc, .sc (.int .i64), .l []⟩)], []⟩
noncomputable def laws_szJobS_e0_1 : Pack := ⟨[(1, .one ⟨.sc, .sc (.int .i64), .l []⟩)], []⟩
noncomputable def laws_szJobS_L0_0w (m n : Nat) (vs : List T) (k : Ctl → Pack → An) : An := laws_szJobS_L0_0 m n (vs.headD dflt) (vs.tail.headD dflt) (vs.tail.tail.headD dflt) (fun z0 => k .ret (fPack laws_szJobS_e0_0 [z0])) (fun z0 => k (.exit 0) (fPack laws_szJobS_e0_1 [z0]))
noncomputable def laws_szJobS : Nat → T → T → (T → An) → An
  | 0, _, _, _ => .bad
  | m + 1, x0, x1, k0 =>
    cond (decide ((IntKind.i64.wrap (x1.int - (x0.rows.length : Int))) < 0))
    (k0 (T.i (-1)))
    (laws_szJobS_L0_0 m m (T.l x0.rows) (T.i (IntKind.i64.wrap (x1.int - (x0.rows.length : Int)))) (T.i 0)
    (fun y1 => k0 y1)
    (fun y2 => k0 y2))
noncomputable def laws_szJobS_a : List Arg := [.one (.dz [.sc (.int .i64), .sl [.sc (.int .i64), .sc (.str), .sc (.str)], .sc (.int .i64), .sl [.sc (.int .i64)]] []), .one (.sc (.int .i64) (.l []))]
noncomputable def laws_szJobS_w (m : Nat) (vs : List T) (k : Ret → An) : An := laws_szJobS m (vs.headD dflt) (vs.tail.headD dflt) (fun z0 => k ⟨[.one (.sc (.int .i64) z0)], [[none], [none]], [none, none]⟩)
theorem laws_szJobS_cf (m : Nat) : callK CX prims m = (patC 62 laws_szJob_a (laws_szJob_w m) (callK CX prims m)) := by
  rw [← patC_eq (fun vs k => laws_szJob_eq m vs k)]
noncomputable def laws_szJobS_c : Code := (Try.f41.body).getD .skip
noncomputable def laws_szJobS_fi : Fi := ⟨41, 2, 27, 16⟩
theorem laws_szJobS_lf (m : Nat) : ∀ n, (∀ vs k, loopK CX (callK CX prims m) laws_szJobS_fi laws_szJobS_c n [0, 1, 0, 1, 1, 1] (fPack laws_szJobS_s0_0 vs) k = laws_szJobS_L0_0w m n vs k) ∧ ((loopK CX (callK CX prims m) laws_szJobS_fi laws_szJobS_c n) = (patL [0, 1, 0, 1, 1, 1] laws_szJobS_s0_0 (laws_szJobS_L0_0w m n) (loopK CX (callK CX prims m) laws_szJobS_fi laws_szJobS_c n))) := by
  intro n
  have hl : ∀ n, (∀ vs k, loopK CX (callK CX prims m) laws_szJobS_fi laws_szJobS_c n [0, 1, 0, 1, 1, 1] (fPack laws_szJobS_s0_0 vs) k = laws_szJobS_L0_0w m n vs k) → ((loopK CX (callK CX prims m) laws_szJobS_fi laws_szJobS_c n) = (patL [0, 1, 0, 1, 1, 1] laws_szJobS_s0_0 (laws_szJobS_L0_0w m n) (loopK CX (callK CX prims m) laws_szJobS_fi laws_szJobS_c n))) := by
    intro n h0
    rw [← patL_eq h0]
  induction n with
  | zero => exact ⟨fun vs k => rfl, hl 0 (fun vs k => rfl)⟩
  | succ n ihn =>
    have hn := ihn.2
    have h0 : ∀ vs k, loopK CX (callK CX prims m) laws_szJobS_fi laws_szJobS_c (n + 1) [0, 1, 0, 1, 1, 1] (fPack laws_szJobS_s0_0 vs) k = laws_szJobS_L0_0w m (n + 1) vs k := fun vs k =>
      (stepL_congr (laws_szJobS_cf m) hn [0, 1, 0, 1, 1, 1] _ _).trans (by kernel_rfl)
    exact ⟨h0, hl (n + 1) h0⟩
theorem laws_szJobS_eq (m : Nat) : ∀ vs k, callK CX prims m 41 (fArgs laws_szJobS_a vs) k = laws_szJobS_w m vs k := by
  cases m with
  | zero => exact fun vs k => rfl
  | succ m => exact fun vs k => Eq.trans (b := bodyK CX (callK CX prims m) (loopK CX (callK CX prims m) laws_szJobS_fi laws_szJobS_c m) 41 Try.f41 laws_szJobS_c (fArgs laws_szJobS_a vs) k) (by kernel_rfl) ((bodyK_congr (laws_szJobS_cf m) ((laws_szJobS_lf m m).2) 41 Try.f41 laws_szJobS_c (fArgs laws_szJobS_a vs) k).trans (by kernel_rfl))

/-! loop.example/g00244/laws.szChoiceS -/
noncomputable def laws_szChoiceS : Nat → T → T → (T → An) → An
  | 0, _, _, _ => .bad
  | m + 1, x0, x1, k0 =>
    cond (decide ((IntKind.i64.wrap (x1.int - (x0.rows.length : Int))) < 0))
    (k0 (T.i (-1)))
    (k0 (T.i (IntKind.i64.wrap (x1.int - (x0.rows.length : Int)))))
noncomputable def laws_szChoiceS_a : List Arg := [.one (.dz [.sc (.int .i64), .sc (.bool)] []), .one (.sc (.int .i64) (.l []))]
noncomputable def laws_szChoiceS_w (m : Nat) (vs : List T) (k : Ret → An) : An := laws_szChoiceS m (vs.headD dflt) (vs.tail.headD dflt) (fun z0 => k ⟨[.one (.sc (.int .i64) z0)], [[none], [none]], [none, none]⟩)
theorem laws_szChoiceS_cf (m : Nat) : callK CX prims m = (callK CX prims m) := by
  rfl
noncomputable def laws_szChoiceS_c : Code := (Try.f42.body).getD .skip
noncomputable def laws_szChoiceS_fi : Fi := ⟨42, 2, 12, 16⟩
theorem laws_szChoiceS_eq (m : Nat) : ∀ vs k, callK CX prims m 42 (fArgs laws_szChoiceS_a vs) k = laws_szChoiceS_w m vs k := by
  cases m with
  | zero => exact fun vs k => rfl
  | succ m => exact fun vs k => Eq.trans (b := bodyK CX (callK CX prims m) (loopK CX (callK CX prims m) laws_szChoiceS_fi laws_szChoiceS_c m) 42 Try.f42 laws_szChoiceS_c (fArgs laws_szChoiceS_a vs) k) (by kernel_rfl) ((bodyK_congr (laws_szChoiceS_cf m) rfl 42 Try.f42 laws_szChoiceS_c (fArgs laws_szChoiceS_a vs) k).trans (by kernel_rfl))

/-! loop.example/g00244/laws.szCoord -/
noncomputable def laws_szCoord : Nat → T → T → T → T → T → T → T → (T → An) → An
  | 0, _, _, _, _, _, _, _, _ => .bad
  | m + 1, x0, x1, x2, x3, x4, x5, x6, k0 =>
    laws_szJobS m (T.l x3.rows) x6
    (fun y0 => cond (decide (y0.int < 0))
    (k0 (T.i (-1)))
    (laws_szChoiceS m (T.l x4.rows) y0
    (fun y1 => cond (decide (y1.int < 0))
    (k0 (T.i (-1)))
    (k0 y1))))
noncomputable def laws_szCoord_a : List Arg := [.agg [.sc (.int .i64) (.l []), .sc (.int .i64) (.l []), .sc (.int .i64) (.l []), .dz [.sc (.int .i64), .sl [.sc (.int .i64), .sc (.str), .sc (.str)], .sc (.int .i64), .sl [.sc (.int .i64)]] [], .dz [.sc (.int .i64), .sc (.bool)] [], .sc (.int .i64) (.l [])], .one (.sc (.int .i64) (.l []))]
noncomputable def laws_szCoord_w (m : Nat) (vs : List T) (k : Ret → An) : An := laws_szCoord m (vs.headD dflt) (vs.tail.headD dflt) (vs.tail.tail.headD dflt) (vs.tail.tail.tail.headD dflt) (vs.tail.tail.tail.tail.headD dflt) (vs.tail.tail.tail.tail.tail.headD dflt) (vs.tail.tail.tail.tail.tail.tail.headD dflt) (fun z0 => k ⟨[.one (.sc (.int .i64) z0)], [[none, none, none, none, none, none], [none]], [none, none]⟩)
theorem laws_szCoord_cf (m : Nat) : callK CX prims m = (patC 41 laws_szJobS_a (laws_szJobS_w m) (patC 42 laws_szChoiceS_a (laws_szChoiceS_w m) (callK CX prims m))) := by
  rw [← patC_eq (fun vs k => laws_szChoiceS_eq m vs k), ← patC_eq (fun vs k => laws_szJobS_eq m vs k)]
noncomputable def laws_szCoord_c : Code := (Try.f19.body).getD .skip
noncomputable def laws_szCoord_fi : Fi := ⟨19, 2, 18, 16⟩
theorem laws_szCoord_eq (m : Nat) : ∀ vs k, callK CX prims m 19 (fArgs laws_szCoord_a vs) k = laws_szCoord_w m vs k := by
  cases m with
  | zero => exact fun vs k => rfl
  | succ m => exact fun vs k => Eq.trans (b := bodyK CX (callK CX prims m) (loopK CX (callK CX prims m) laws_szCoord_fi laws_szCoord_c m) 19 Try.f19 laws_szCoord_c (fArgs laws_szCoord_a vs) k) (by kernel_rfl) ((bodyK_congr (laws_szCoord_cf m) rfl 19 Try.f19 laws_szCoord_c (fArgs laws_szCoord_a vs) k).trans (by kernel_rfl))

/-! loop.example/g00244/laws.szRec -/
noncomputable def laws_szRec : Nat → T → T → T → T → (T → An) → An
  | 0, _, _, _, _, _ => .bad
  | m + 1, x0, x1, x2, x3, k0 =>
    laws_szOpS m (T.l x2.rows) x3
    (fun y0 => cond (decide (y0.int < 0))
    (k0 (T.i (-1)))
    (k0 y0))
noncomputable def laws_szRec_a : List Arg := [.agg [.sc (.int .i64) (.l []), .sc (.int .i64) (.l []), .dz [.sc (.int .i64), .sc (.str), .sc (.str)] []], .one (.sc (.int .i64) (.l []))]
noncomputable def laws_szRec_w (m : Nat) (vs : List T) (k : Ret → An) : An := laws_szRec m (vs.headD dflt) (vs.tail.headD dflt) (vs.tail.tail.headD dflt) (vs.tail.tail.tail.headD dflt) (fun z0 => k ⟨[.one (.sc (.int .i64) z0)], [[none, none, none], [none]], [none, none]⟩)
theorem laws_szRec_cf (m : Nat) : callK CX prims m = (patC 65 laws_szOpS_a (laws_szOpS_w m) (callK CX prims m)) := by
  rw [← patC_eq (fun vs k => laws_szOpS_eq m vs k)]
noncomputable def laws_szRec_c : Code := (Try.f79.body).getD .skip
noncomputable def laws_szRec_fi : Fi := ⟨79, 2, 12, 16⟩
theorem laws_szRec_eq (m : Nat) : ∀ vs k, callK CX prims m 79 (fArgs laws_szRec_a vs) k = laws_szRec_w m vs k := by
  cases m with
  | zero => exact fun vs k => rfl
  | succ m => exact fun vs k => Eq.trans (b := bodyK CX (callK CX prims m) (loopK CX (callK CX prims m) laws_szRec_fi laws_szRec_c m) 79 Try.f79 laws_szRec_c (fArgs laws_szRec_a vs) k) (by kernel_rfl) ((bodyK_congr (laws_szRec_cf m) rfl 79 Try.f79 laws_szRec_c (fArgs laws_szRec_a vs) k).trans (by kernel_rfl))

/-! loop.example/g00244/laws.szRecS -/
noncomputable def laws_szRecS_L0_0 (m : Nat) : Nat → T → T → T → (T → An) → (T → An) → An
  | 0, _, _, _, _, _ => .bad
  | n + 1, x0, x1, x2, k0, k1 =>
    cond (decide (x2.int < (x0.rows.length : Int)))
    (cond (decide ((0 : Int) ≤ x2.int ∧ x2.int < (x0.rows.length : Int)))
    (laws_szRec m ((x0.rows.getD (Int.toNat x2.int) []).getD 0 dflt) ((x0.rows.getD (Int.toNat x2.int) []).getD 1 dflt) (T.l ((x0.rows.getD (Int.toNat x2.int) []).getD 2 dflt).rows) x1
    (fun y0 => cond (decide (y0.int < 0))
    (k0 (T.i (-1)))
    (laws_szRecS_L0_0 m n x0 y0 (T.i (IntKind.i64.wrap (x2.int + 1))) k0 k1)))
    (.bad))
    (k1 x1)
noncomputable def laws_szRecS_s0_0 : Pack := ⟨[(0, .one ⟨.sn [([4000000], 0)], .sl [.sc (.int .i64), .sc (.int .i64), .sl [.sc (.int .i64), .sc (.str), .sc (.str)]], .l []⟩), (1, .one ⟨.sc, .sc (.int .i64), .l []⟩), (5, .one ⟨.sc, .sc (.int .i64), .l []⟩)], [([4000000], .gone)]⟩
noncomputable def laws_szRecS_e0_0 : Pack := ⟨[(4, .one ⟨.sc, .sc (.int .i64), .l []⟩)], []⟩
noncomputable def laws_szRecS_e0_1 : Pack := ⟨[(1, .one ⟨.sc, .sc (.int .i64), .l []⟩)], []⟩
noncomputable def laws_szRecS_L0_0w (m n : Nat) (vs : List T) (k : Ctl → Pack → An) : An := laws_szRecS_L0_0 m n (vs.headD dflt) (vs.tail.headD dflt) (vs.tail.tail.headD dflt) (fun z0 => k .ret (fPack laws_szRecS_e0_0 [z0])) (fun z0 => k (.exit 0) (fPack laws_szRecS_e0_1 [z0]))
noncomputable def laws_szRecS : Nat → T → T → (T → An) → An
  | 0, _, _, _ => .bad
  | m + 1, x0, x1, k0 =>
    cond (decide ((IntKind.i64.wrap (x1.int - (x0.rows.length : Int))) < 0))
    (k0 (T.i (-1)))
    (laws_szRecS_L0_0 m m (T.l x0.rows) (T.i (IntKind.i64.wrap (x1.int - (x0.rows.length : Int)))) (T.i 0)
    (fun y1 => k0 y1)
    (fun y2 => k0 y2))
noncomputable def laws_szRecS_a : List Arg := [.one (.dz [.sc (.int .i64), .sc (.int .i64), .sl [.sc (.int .i64), .sc (.str), .sc (.str)]] []), .one (.sc (.int .i64) (.l []))]
noncomputable def laws_szRecS_w (m : Nat) (vs : List T) (k : Ret → An) : An := laws_szRecS m (vs.headD dflt) (vs.tail.headD dflt) (fun z0 => k ⟨[.one (.sc (.int .i64) z0)], [[none], [none]], [none, none]⟩)
theorem laws_szRecS_cf (m : Nat) : callK CX prims m = (patC 79 laws_szRec_a (laws_szRec_w m) (callK CX prims m)) := by
  rw [← patC_eq (fun vs k => laws_szRec_eq m vs k)]
noncomputable def laws_szRecS_c : Code := (Try.f63.body).getD .skip
noncomputable def laws_szRecS_fi : Fi := ⟨63, 2, 27, 16⟩
theorem laws_szRecS_lf (m : Nat) : ∀ n, (∀ vs k, loopK CX (callK CX prims m) laws_szRecS_fi laws_szRecS_c n [0, 1, 0, 1, 1, 1] (fPack laws_szRecS_s0_0 vs) k = laws_szRecS_L0_0w m n vs k) ∧ ((loopK CX (callK CX prims m) laws_szRecS_fi laws_szRecS_c n) = (patL [0, 1, 0, 1, 1, 1] laws_szRecS_s0_0 (laws_szRecS_L0_0w m n) (loopK CX (callK CX prims m) laws_szRecS_fi laws_szRecS_c n))) := by
  intro n
  have hl : ∀ n, (∀ vs k, loopK CX (callK CX prims m) laws_szRecS_fi laws_szRecS_c n [0, 1, 0, 1, 1, 1] (fPack laws_szRecS_s0_0 vs) k = laws_szRecS_L0_0w m n vs k) → ((loopK CX (callK CX prims m) laws_szRecS_fi laws_szRecS_c n) = (patL [0, 1, 0, 1, 1, 1] laws_szRecS_s0_0 (laws_szRecS_L0_0w m n) (loopK CX (callK CX prims m) laws_szRecS_fi laws_szRecS_c n))) := by
    intro n h0
    rw [← patL_eq h0]
  induction n with
  | zero => exact ⟨fun vs k => rfl, hl 0 (fun vs k => rfl)⟩
  | succ n ihn =>
    have hn := ihn.2
    have h0 : ∀ vs k, loopK CX (callK CX prims m) laws_szRecS_fi laws_szRecS_c (n + 1) [0, 1, 0, 1, 1, 1] (fPack laws_szRecS_s0_0 vs) k = laws_szRecS_L0_0w m (n + 1) vs k := fun vs k =>
      (stepL_congr (laws_szRecS_cf m) hn [0, 1, 0, 1, 1, 1] _ _).trans (by kernel_rfl)
    exact ⟨h0, hl (n + 1) h0⟩
theorem laws_szRecS_eq (m : Nat) : ∀ vs k, callK CX prims m 63 (fArgs laws_szRecS_a vs) k = laws_szRecS_w m vs k := by
  cases m with
  | zero => exact fun vs k => rfl
  | succ m => exact fun vs k => Eq.trans (b := bodyK CX (callK CX prims m) (loopK CX (callK CX prims m) laws_szRecS_fi laws_szRecS_c m) 63 Try.f63 laws_szRecS_c (fArgs laws_szRecS_a vs) k) (by kernel_rfl) ((bodyK_congr (laws_szRecS_cf m) ((laws_szRecS_lf m m).2) 63 Try.f63 laws_szRecS_c (fArgs laws_szRecS_a vs) k).trans (by kernel_rfl))

/-! loop.example/g00244/laws.szPair -/
noncomputable def laws_szPair : Nat → T → T → T → (T → An) → An
  | 0, _, _, _, _ => .bad
  | m + 1, x0, x1, x2, k0 =>
    cond (decide ((IntKind.i64.wrap (x2.int - (x0.str.size : Int))) < 0))
    (k0 (T.i (-1)))
    (cond (decide ((IntKind.i64.wrap ((IntKind.i64.wrap (x2.int - (x0.str.size : Int))) - (x1.str.size : Int))) < 0))
    (k0 (T.i (-1)))
    (k0 (T.i (IntKind.i64.wrap ((IntKind.i64.wrap (x2.int - (x0.str.size : Int))) - (x1.str.size : Int))))))
noncomputable def laws_szPair_a : List Arg := [.agg [.sc (.str) (.l []), .sc (.str) (.l [])], .one (.sc (.int .i64) (.l []))]
noncomputable def laws_szPair_w (m : Nat) (vs : List T) (k : Ret → An) : An := laws_szPair m (vs.headD dflt) (vs.tail.headD dflt) (vs.tail.tail.headD dflt) (fun z0 => k ⟨[.one (.sc (.int .i64) z0)], [[none, none], [none]], [none, none]⟩)
theorem laws_szPair_cf (m : Nat) : callK CX prims m = (callK CX prims m) := by
  rfl
noncomputable def laws_szPair_c : Code := (Try.f80.body).getD .skip
noncomputable def laws_szPair_fi : Fi := ⟨80, 2, 20, 16⟩
theorem laws_szPair_eq (m : Nat) : ∀ vs k, callK CX prims m 80 (fArgs laws_szPair_a vs) k = laws_szPair_w m vs k := by
  cases m with
  | zero => exact fun vs k => rfl
  | succ m => exact fun vs k => Eq.trans (b := bodyK CX (callK CX prims m) (loopK CX (callK CX prims m) laws_szPair_fi laws_szPair_c m) 80 Try.f80 laws_szPair_c (fArgs laws_szPair_a vs) k) (by kernel_rfl) ((bodyK_congr (laws_szPair_cf m) rfl 80 Try.f80 laws_szPair_c (fArgs laws_szPair_a vs) k).trans (by kernel_rfl))

/-! loop.example/g00244/laws.szPairS -/
noncomputable def laws_szPairS_L0_0 (m : Nat) : Nat → T → T → T → (T → An) → (T → An) → An
  | 0, _, _, _, _, _ => .bad
  | n + 1, x0, x1, x2, k0, k1 =>
    cond (decide (x2.int < (x0.rows.length : Int)))
    (cond (decide ((0 : Int) ≤ x2.int ∧ x2.int < (x0.rows.length : Int)))
    (laws_szPair m ((x0.rows.getD (Int.toNat x2.int) []).getD 0 dflt) ((x0.rows.getD (Int.toNat x2.int) []).getD 1 dflt) x1
    (fun y0 => cond (decide (y0.int < 0))
    (k0 (T.i (-1)))
    (laws_szPairS_L0_0 m n x0 y0 (T.i (IntKind.i64.wrap (x2.int + 1))) k0 k1)))
    (.bad))
    (k1 x1)
noncomputable def laws_szPairS_s0_0 : Pack := ⟨[(0, .one ⟨.sn [([4000000], 0)], .sl [.sc (.str), .sc (.str)], .l []⟩), (1, .one ⟨.sc, .sc (.int .i64), .l []⟩), (5, .one ⟨.sc, .sc (.int .i64), .l []⟩)], [([4000000], .gone)]⟩
noncomputable def laws_szPairS_e0_0 : Pack := ⟨[(4, .one ⟨.sc, .sc (.int .i64), .l []⟩)], []⟩
noncomputable def laws_szPairS_e0_1 : Pack := ⟨[(1, .one ⟨.sc, .sc (.int .i64), .l []⟩)], []⟩
noncomputable def laws_szPairS_L0_0w (m n : Nat) (vs : List T) (k : Ctl → Pack → An) : An := laws_szPairS_L0_0 m n (vs.headD dflt) (vs.tail.headD dflt) (vs.tail.tail.headD dflt) (fun z0 => k .ret (fPack laws_szPairS_e0_0 [z0])) (fun z0 => k (.exit 0) (fPack laws_szPairS_e0_1 [z0]))
noncomputable def laws_szPairS : Nat → T → T → (T → An) → An
  | 0, _, _, _ => .bad
  | m + 1, x0, x1, k0 =>
    cond (decide ((IntKind.i64.wrap (x1.int - (x0.rows.length : Int))) < 0))
    (k0 (T.i (-1)))
    (laws_szPairS_L0_0 m m (T.l x0.rows) (T.i (IntKind.i64.wrap (x1.int - (x0.rows.length : Int)))) (T.i 0)
    (fun y1 => k0 y1)
    (fun y2 => k0 y2))
noncomputable def laws_szPairS_a : List Arg := [.one (.dz [.sc (.str), .sc (.str)] []), .one (.sc (.int .i64) (.l []))]
noncomputable def laws_szPairS_w (m : Nat) (vs : List T) (k : Ret → An) : An := laws_szPairS m (vs.headD dflt) (vs.tail.headD dflt) (fun z0 => k ⟨[.one (.sc (.int .i64) z0)], [[none], [none]], [none, none]⟩)
theorem laws_szPairS_cf (m : Nat) : callK CX prims m = (patC 80 laws_szPair_a (laws_szPair_w m) (callK CX prims m)) := by
  rw [← patC_eq (fun vs k => laws_szPair_eq m vs k)]
noncomputable def laws_szPairS_c : Code := (Try.f64.body).getD .skip
noncomputable def laws_szPairS_fi : Fi := ⟨64, 2, 27, 16⟩
theorem laws_szPairS_lf (m : Nat) : ∀ n, (∀ vs k, loopK CX (callK CX prims m) laws_szPairS_fi laws_szPairS_c n [0, 1, 0, 1, 1, 1] (fPack laws_szPairS_s0_0 vs) k = laws_szPairS_L0_0w m n vs k) ∧ ((loopK CX (callK CX prims m) laws_szPairS_fi laws_szPairS_c n) = (patL [0, 1, 0, 1, 1, 1] laws_szPairS_s0_0 (laws_szPairS_L0_0w m n) (loopK CX (callK CX prims m) laws_szPairS_fi laws_szPairS_c n))) := by
  intro n
  have hl : ∀ n, (∀ vs k, loopK CX (callK CX prims m) laws_szPairS_fi laws_szPairS_c n [0, 1, 0, 1, 1, 1] (fPack laws_szPairS_s0_0 vs) k = laws_szPairS_L0_0w m n vs k) → ((loopK CX (callK CX prims m) laws_szPairS_fi laws_szPairS_c n) = (patL [0, 1, 0, 1, 1, 1] laws_szPairS_s0_0 (laws_szPairS_L0_0w m n) (loopK CX (callK CX prims m) laws_szPairS_fi laws_szPairS_c n))) := by
    intro n h0
    rw [← patL_eq h0]
  induction n with
  | zero => exact ⟨fun vs k => rfl, hl 0 (fun vs k => rfl)⟩
  | succ n ihn =>
    have hn := ihn.2
    have h0 : ∀ vs k, loopK CX (callK CX prims m) laws_szPairS_fi laws_szPairS_c (n + 1) [0, 1, 0, 1, 1, 1] (fPack laws_szPairS_s0_0 vs) k = laws_szPairS_L0_0w m (n + 1) vs k := fun vs k =>
      (stepL_congr (laws_szPairS_cf m) hn [0, 1, 0, 1, 1, 1] _ _).trans (by kernel_rfl)
    exact ⟨h0, hl (n + 1) h0⟩
theorem laws_szPairS_eq (m : Nat) : ∀ vs k, callK CX prims m 64 (fArgs laws_szPairS_a vs) k = laws_szPairS_w m vs k := by
  cases m with
  | zero => exact fun vs k => rfl
  | succ m => exact fun vs k => Eq.trans (b := bodyK CX (callK CX prims m) (loopK CX (callK CX prims m) laws_szPairS_fi laws_szPairS_c m) 64 Try.f64 laws_szPairS_c (fArgs laws_szPairS_a vs) k) (by kernel_rfl) ((bodyK_congr (laws_szPairS_cf m) ((laws_szPairS_lf m m).2) 64 Try.f64 laws_szPairS_c (fArgs laws_szPairS_a vs) k).trans (by kernel_rfl))

/-! loop.example/g00244/laws.szShard -/
noncomputable def laws_szShard : Nat → T → T → T → T → T → T → (T → An) → An
  | 0, _, _, _, _, _, _, _ => .bad
  | m + 1, x0, x1, x2, x3, x4, x5, k0 =>
    laws_szRecS m (T.l x1.rows) x5
    (fun y0 => cond (decide (y0.int < 0))
    (k0 (T.i (-1)))
    (laws_szPairS m (T.l x3.rows) y0
    (fun y1 => cond (decide (y1.int < 0))
    (k0 (T.i (-1)))
    (laws_szRecS m (T.l x4.rows) y1
    (fun y2 => cond (decide (y2.int < 0))
    (k0 (T.i (-1)))
    (k0 y2))))))
noncomputable def laws_szShard_a : List Arg := [.agg [.sc (.int .i64) (.l []), .dz [.sc (.int .i64), .sc (.int .i64), .sl [.sc (.int .i64), .sc (.str), .sc (.str)]] [], .sc (.int .i64) (.l []), .dz [.sc (.str), .sc (.str)] [], .dz [.sc (.int .i64), .sc (.int .i64), .sl [.sc (.int .i64), .sc (.str), .sc (.str)]] []], .one (.sc (.int .i64) (.l []))]
noncomputable def laws_szShard_w (m : Nat) (vs : List T) (k : Ret → An) : An := laws_szShard m (vs.headD dflt) (vs.tail.headD dflt) (vs.tail.tail.headD dflt) (vs.tail.tail.tail.headD dflt) (vs.tail.tail.tail.tail.headD dflt) (vs.tail.tail.tail.tail.tail.headD dflt) (fun z0 => k ⟨[.one (.sc (.int .i64) z0)], [[none, none, none, none, none], [none]], [none, none]⟩)
theorem laws_szShard_cf (m : Nat) : callK CX prims m = (patC 63 laws_szRecS_a (laws_szRecS_w m) (patC 64 laws_szPairS_a (laws_szPairS_w m) (callK CX prims m))) := by
  rw [← patC_eq (fun vs k => laws_szPairS_eq m vs k), ← patC_eq (fun vs k => laws_szRecS_eq m vs k)]
noncomputable def laws_szShard_c : Code := (Try.f43.body).getD .skip
noncomputable def laws_szShard_fi : Fi := ⟨43, 2, 24, 16⟩
theorem laws_szShard_eq (m : Nat) : ∀ vs k, callK CX prims m 43 (fArgs laws_szShard_a vs) k = laws_szShard_w m vs k := by
  cases m with
  | zero => exact fun vs k => rfl
  | succ m => exact fun vs k => Eq.trans (b := bodyK CX (callK CX prims m) (loopK CX (callK CX prims m) laws_szShard_fi laws_szShard_c m) 43 Try.f43 laws_szShard_c (fArgs laws_szShard_a vs) k) (by kernel_rfl) ((bodyK_congr (laws_szShard_cf m) rfl 43 Try.f43 laws_szShard_c (fArgs laws_szShard_a vs) k).trans (by kernel_rfl))

/-! loop.example/g00244/laws.szShardS -/
noncomputable def laws_szShardS_L0_0 (m : Nat) : Nat → T → T → T → (T → An) → (T → An) → An
  | 0, _, _, _, _, _ => .bad
  | n + 1, x0, x1, x2, k0, k1 =>
    cond (decide (x2.int < (x0.rows.length : Int)))
    (cond (decide ((0 : Int) ≤ x2.int ∧ x2.int < (x0.rows.length : Int)))
    (laws_szShard m ((x0.rows.getD (Int.toNat x2.int) []).getD 0 dflt) (T.l ((x0.rows.getD (Int.toNat x2.int) []).getD 1 dflt).rows) ((x0.rows.getD (Int.toNat x2.int) []).getD 2 dflt) (T.l ((x0.rows.getD (Int.toNat x2.int) []).getD 3 dflt).rows) (T.l ((x0.rows.getD (Int.toNat x2.int) []).getD 4 dflt).rows) x1
    (fun y0 => cond (decide (y0.int < 0))
    (k0 (T.i (-1)))
    (laws_szShardS_L0_0 m n x0 y0 (T.i (IntKind.i64.wrap (x2.int + 1))) k0 k1)))
    (.bad))
    (k1 x1)
noncomputable def laws_szShardS_s0_0 : Pack := ⟨[(0, .one ⟨.sn [([4000000], 0)], .sl [.sc (.int .i64), .sl [.sc (.int .i64), .sc (.int .i64), .sl [.sc (.int .i64), .sc (.str), .sc (.str)]], .sc (.int .i64), .sl [.sc (.str), .sc (.str)], .sl [.sc (.int .i64), .sc (.int .i64), .sl [.sc (.int .i64), .sc (.str), .sc (.str)]]], .l []⟩), (1, .one ⟨.sc, .sc (.int .i64), .l []⟩), (5, .one ⟨.sc, .sc (.int .i64), .l []⟩)], [([4000000], .gone)]⟩
noncomputable def laws_szShardS_e0_0 : Pack := ⟨[(4, .one ⟨.sc, .sc (.int .i64), .l []⟩)], []⟩
noncomputable def laws_szShardS_e0_1 : Pack := ⟨[(1, .one ⟨.sc, .sc (.int .i64), .l []⟩)], []⟩
noncomputable def laws_szShardS_L0_0w (m n : Nat) (vs : List T) (k : Ctl → Pack → An) : An := laws_szShardS_L0_0 m n (vs.headD dflt) (vs.tail.headD dflt) (vs.tail.tail.headD dflt) (fun z0 => k .ret (fPack laws_szShardS_e0_0 [z0])) (fun z0 => k (.exit 0) (fPack laws_szShardS_e0_1 [z0]))
noncomputable def laws_szShardS : Nat → T → T → (T → An) → An
  | 0, _, _, _ => .bad
  | m + 1, x0, x1, k0 =>
    cond (decide ((IntKind.i64.wrap (x1.int - (x0.rows.length : Int))) < 0))
    (k0 (T.i (-1)))
    (laws_szShardS_L0_0 m m (T.l x0.rows) (T.i (IntKind.i64.wrap (x1.int - (x0.rows.length : Int)))) (T.i 0)
    (fun y1 => k0 y1)
    (fun y2 => k0 y2))
noncomputable def laws_szShardS_a : List Arg := [.one (.dz [.sc (.int .i64), .sl [.sc (.int .i64), .sc (.int .i64), .sl [.sc (.int .i64), .sc (.str), .sc (.str)]], .sc (.int .i64), .sl [.sc (.str), .sc (.str)], .sl [.sc (.int .i64), .sc (.int .i64), .sl [.sc (.int .i64), .sc (.str), .sc (.str)]]] []), .one (.sc (.int .i64) (.l []))]
noncomputable def laws_szShardS_w (m : Nat) (vs : List T) (k : Ret → An) : An := laws_szShardS m (vs.headD dflt) (vs.tail.headD dflt) (fun z0 => k ⟨[.one (.sc (.int .i64) z0)], [[none], [none]], [none, none]⟩)
theorem laws_szShardS_cf (m : Nat) : callK CX prims m = (patC 43 laws_szShard_a (laws_szShard_w m) (callK CX prims m)) := by
  rw [← patC_eq (fun vs k => laws_szShard_eq m vs k)]
noncomputable def laws_szShardS_c : Code := (Try.f20.body).getD .skip
noncomputable def laws_szShardS_fi : Fi := ⟨20, 2, 27, 16⟩
theorem laws_szShardS_lf (m : Nat) : ∀ n, (∀ vs k, loopK CX (callK CX prims m) laws_szShardS_fi laws_szShardS_c n [0, 1, 0, 1, 1, 1] (fPack laws_szShardS_s0_0 vs) k = laws_szShardS_L0_0w m n vs k) ∧ ((loopK CX (callK CX prims m) laws_szShardS_fi laws_szShardS_c n) = (patL [0, 1, 0, 1, 1, 1] laws_szShardS_s0_0 (laws_szShardS_L0_0w m n) (loopK CX (callK CX prims m) laws_szShardS_fi laws_szShardS_c n))) := by
  intro n
  have hl : ∀ n, (∀ vs k, loopK CX (callK CX prims m) laws_szShardS_fi laws_szShardS_c n [0, 1, 0, 1, 1, 1] (fPack laws_szShardS_s0_0 vs) k = laws_szShardS_L0_0w m n vs k) → ((loopK CX (callK CX prims m) laws_szShardS_fi laws_szShardS_c n) = (patL [0, 1, 0, 1, 1, 1] laws_szShardS_s0_0 (laws_szShardS_L0_0w m n) (loopK CX (callK CX prims m) laws_szShardS_fi laws_szShardS_c n))) := by
    intro n h0
    rw [← patL_eq h0]
  induction n with
  | zero => exact ⟨fun vs k => rfl, hl 0 (fun vs k => rfl)⟩
  | succ n ihn =>
    have hn := ihn.2
    have h0 : ∀ vs k, loopK CX (callK CX prims m) laws_szShardS_fi laws_szShardS_c (n + 1) [0, 1, 0, 1, 1, 1] (fPack laws_szShardS_s0_0 vs) k = laws_szShardS_L0_0w m (n + 1) vs k := fun vs k =>
      (stepL_congr (laws_szShardS_cf m) hn [0, 1, 0, 1, 1, 1] _ _).trans (by kernel_rfl)
    exact ⟨h0, hl (n + 1) h0⟩
theorem laws_szShardS_eq (m : Nat) : ∀ vs k, callK CX prims m 20 (fArgs laws_szShardS_a vs) k = laws_szShardS_w m vs k := by
  cases m with
  | zero => exact fun vs k => rfl
  | succ m => exact fun vs k => Eq.trans (b := bodyK CX (callK CX prims m) (loopK CX (callK CX prims m) laws_szShardS_fi laws_szShardS_c m) 20 Try.f20 laws_szShardS_c (fArgs laws_szShardS_a vs) k) (by kernel_rfl) ((bodyK_congr (laws_szShardS_cf m) ((laws_szShardS_lf m m).2) 20 Try.f20 laws_szShardS_c (fArgs laws_szShardS_a vs) k).trans (by kernel_rfl))

/-! loop.example/g00244/laws.szWord -/
noncomputable def laws_szWord : Nat → T → T → T → T → T → T → (T → An) → An
  | 0, _, _, _, _, _, _, _ => .bad
  | m + 1, x0, x1, x2, x3, x4, x5, k0 =>
    laws_szOpS m (T.l x3.rows) x5
    (fun y0 => cond (decide (y0.int < 0))
    (k0 (T.i (-1)))
    (k0 y0))
noncomputable def laws_szWord_a : List Arg := [.agg [.sc (.int .i64) (.l []), .sc (.int .i64) (.l []), .sc (.int .i64) (.l []), .dz [.sc (.int .i64), .sc (.str), .sc (.str)] [], .sc (.bool) (.l [])], .one (.sc (.int .i64) (.l []))]
noncomputable def laws_szWord_w (m : Nat) (vs : List T) (k : Ret → An) : An := laws_szWord m (vs.headD dflt) (vs.tail.headD dflt) (vs.tail.tail.headD dflt) (vs.tail.tail.tail.headD dflt) (vs.tail.tail.tail.tail.headD dflt) (vs.tail.tail.tail.tail.tail.headD dflt) (fun z0 => k ⟨[.one (.sc (.int .i64) z0)], [[none, none, none, none, none], [none]], [none, none]⟩)
theorem laws_szWord_cf (m : Nat) : callK CX prims m = (patC 65 laws_szOpS_a (laws_szOpS_w m) (callK CX prims m)) := by
  rw [← patC_eq (fun vs k => laws_szOpS_eq m vs k)]
noncomputable def laws_szWord_c : Code := (Try.f44.body).getD .skip
noncomputable def laws_szWord_fi : Fi := ⟨44, 2, 12, 16⟩
theorem laws_szWord_eq (m : Nat) : ∀ vs k, callK CX prims m 44 (fArgs laws_szWord_a vs) k = laws_szWord_w m vs k := by
  cases m with
  | zero => exact fun vs k => rfl
  | succ m => exact fun vs k => Eq.trans (b := bodyK CX (callK CX prims m) (loopK CX (callK CX prims m) laws_szWord_fi laws_szWord_c m) 44 Try.f44 laws_szWord_c (fArgs laws_szWord_a vs) k) (by kernel_rfl) ((bodyK_congr (laws_szWord_cf m) rfl 44 Try.f44 laws_szWord_c (fArgs laws_szWord_a vs) k).trans (by kernel_rfl))

/-! loop.example/g00244/laws.szWordS -/
noncomputable def laws_szWordS_L0_0 (m : Nat) : Nat → T → T → T → (T → An) → (T → An) → An
  | 0, _, _, _, _, _ => .bad
  | n + 1, x0, x1, x2, k0, k1 =>
    cond (decide (x2.int < (x0.rows.length : Int)))
    (cond (decide ((0 : Int) ≤ x2.int ∧ x2.int < (x0.rows.length : Int)))
    (laws_szWord m ((x0.rows.getD (Int.toNat x2.int) []).getD 0 dflt) ((x0.rows.getD (Int.toNat x2.int) []).getD 1 dflt) ((x0.rows.getD (Int.toNat x2.int) []).getD 2 dflt) (T.l ((x0.rows.getD (Int.toNat x2.int) []).getD 3 dflt).rows) ((x0.rows.getD (Int.toNat x2.int) []).getD 4 dflt) x1
    (fun y0 => cond (decide (y0.int < 0))
    (k0 (T.i (-1)))
    (laws_szWordS_L0_0 m n x0 y0 (T.i (IntKind.i64.wrap (x2.int + 1))) k0 k1)))
    (.bad))
    (k1 x1)
noncomputable def laws_szWordS_s0_0 : Pack := ⟨[(0, .one ⟨.sn [([4000000], 0)], .sl [.sc (.int .i64), .sc (.int .i64), .sc (.int .i64), .sl [.sc (.int .i64), .sc (.str), .sc (.str)], .sc (.bool)], .l []⟩), (1, .one ⟨.sc, .sc (.int .i64), .l []⟩), (5, .one ⟨.sc, .sc (.int .i64), .l []⟩)], [([4000000], .gone)]⟩
noncomputable def laws_szWordS_e0_0 : Pack := ⟨[(4, .one ⟨.sc, .sc (.int .i64), .l []⟩)], []⟩
noncomputable def laws_szWordS_e0_1 : Pack := ⟨[(1, .one ⟨.sc, .sc (.int .i64), .l []⟩)], []⟩
noncomputable def laws_szWordS_L0_0w (m n : Nat) (vs : List T) (k : Ctl → Pack → An) : An := laws_szWordS_L0_0 m n (vs.headD dflt) (vs.tail.headD dflt) (vs.tail.tail.headD dflt) (fun z0 => k .ret (fPack laws_szWordS_e0_0 [z0])) (fun z0 => k (.exit 0) (fPack laws_szWordS_e0_1 [z0]))
noncomputable def laws_szWordS : Nat → T → T → (T → An) → An
  | 0, _, _, _ => .bad
  | m + 1, x0, x1, k0 =>
    cond (decide ((IntKind.i64.wrap (x1.int - (x0.rows.length : Int))) < 0))
    (k0 (T.i (-1)))
    (laws_szWordS_L0_0 m m (T.l x0.rows) (T.i (IntKind.i64.wrap (x1.int - (x0.rows.length : Int)))) (T.i 0)
    (fun y1 => k0 y1)
    (fun y2 => k0 y2))
noncomputable def laws_szWordS_a : List Arg := [.one (.dz [.sc (.int .i64), .sc (.int .i64), .sc (.int .i64), .sl [.sc (.int .i64), .sc (.str), .sc (.str)], .sc (.bool)] []), .one (.sc (.int .i64) (.l []))]
noncomputable def laws_szWordS_w (m : Nat) (vs : List T) (k : Ret → An) : An := laws_szWordS m (vs.headD dflt) (vs.tail.headD dflt) (fun z0 => k ⟨[.one (.sc (.int .i64) z0)], [[none], [none]], [none, none]⟩)
theorem laws_szWordS_cf (m : Nat) : callK CX prims m = (patC 44 laws_szWord_a (laws_szWord_w m) (callK CX prims m)) := by
  rw [← patC_eq (fun vs k => laws_szWord_eq m vs k)]
noncomputable def laws_szWordS_c : Code := (Try.f21.body).getD .skip
noncomputable def laws_szWordS_fi : Fi := ⟨21, 2, 27, 16⟩
theorem laws_szWordS_lf (m : Nat) : ∀ n, (∀ vs k, loopK CX (callK CX prims m) laws_szWordS_fi laws_szWordS_c n [0, 1, 0, 1, 1, 1] (fPack laws_szWordS_s0_0 vs) k = laws_szWordS_L0_0w m n vs k) ∧ ((loopK CX (callK CX prims m) laws_szWordS_fi laws_szWordS_c n) = (patL [0, 1, 0, 1, 1, 1] laws_szWordS_s0_0 (laws_szWordS_L0_0w m n) (loopK CX (callK CX prims m) laws_szWordS_fi laws_szWordS_c n))) := by
  intro n
  have hl : ∀ n, (∀ vs k, loopK CX (callK CX prims m) laws_szWordS_fi laws_szWordS_c n [0, 1, 0, 1, 1, 1] (fPack laws_szWordS_s0_0 vs) k = laws_szWordS_L0_0w m n vs k) → ((loopK CX (callK CX prims m) laws_szWordS_fi laws_szWordS_c n) = (patL [0, 1, 0, 1, 1, 1] laws_szWordS_s0_0 (laws_szWordS_L0_0w m n) (loopK CX (callK CX prims m) laws_szWordS_fi laws_szWordS_c n))) := by
    intro n h0
    rw [← patL_eq h0]
  induction n with
  | zero => exact ⟨fun vs k => rfl, hl 0 (fun vs k => rfl)⟩
  | succ n ihn =>
    have hn := ihn.2
    have h0 : ∀ vs k, loopK CX (callK CX prims m) laws_szWordS_fi laws_szWordS_c (n + 1) [0, 1, 0, 1, 1, 1] (fPack laws_szWordS_s0_0 vs) k = laws_szWordS_L0_0w m (n + 1) vs k := fun vs k =>
      (stepL_congr (laws_szWordS_cf m) hn [0, 1, 0, 1, 1, 1] _ _).trans (by kernel_rfl)
    exact ⟨h0, hl (n + 1) h0⟩
theorem laws_szWordS_eq (m : Nat) : ∀ vs k, callK CX prims m 21 (fArgs laws_szWordS_a vs) k = laws_szWordS_w m vs k := by
  cases m with
  | zero => exact fun vs k => rfl
  | succ m => exact fun vs k => Eq.trans (b := bodyK CX (callK CX prims m) (loopK CX (callK CX prims m) laws_szWordS_fi laws_szWordS_c m) 21 Try.f21 laws_szWordS_c (fArgs laws_szWordS_a vs) k) (by kernel_rfl) ((bodyK_congr (laws_szWordS_cf m) ((laws_szWordS_lf m m).2) 21 Try.f21 laws_szWordS_c (fArgs laws_szWordS_a vs) k).trans (by kernel_rfl))

/-! loop.example/g00244/laws.szOrder -/
noncomputable def laws_szOrder : Nat → T → T → T → (T → An) → An
  | 0, _, _, _, _ => .bad
  | m + 1, x0, x1, x2, k0 =>
    laws_szOpS m (T.l x1.rows) x2
    (fun y0 => cond (decide (y0.int < 0))
    (k0 (T.i (-1)))
    (k0 y0))
noncomputable def laws_szOrder_a : List Arg := [.agg [.sc (.int .i64) (.l []), .dz [.sc (.int .i64), .sc (.str), .sc (.str)] []], .one (.sc (.int .i64) (.l []))]
noncomputable def laws_szOrder_w (m : Nat) (vs : List T) (k : Ret → An) : An := laws_szOrder m (vs.headD dflt) (vs.tail.headD dflt) (vs.tail.tail.headD dflt) (fun z0 => k ⟨[.one (.sc (.int .i64) z0)], [[none, none], [none]], [none, none]⟩)
theorem laws_szOrder_cf (m : Nat) : callK CX prims m = (patC 65 laws_szOpS_a (laws_szOpS_w m) (callK CX prims m)) := by
  rw [← patC_eq (fun vs k => laws_szOpS_eq m vs k)]
noncomputable def laws_szOrder_c : Code := (Try.f45.body).getD .skip
noncomputable def laws_szOrder_fi : Fi := ⟨45, 2, 12, 16⟩
theorem laws_szOrder_eq (m : Nat) : ∀ vs k, callK CX prims m 45 (fArgs laws_szOrder_a vs) k = laws_szOrder_w m vs k := by
  cases m with
  | zero => exact fun vs k => rfl
  | succ m => exact fun vs k => Eq.trans (b := bodyK CX (callK CX prims m) (loopK CX (callK CX prims m) laws_szOrder_fi laws_szOrder_c m) 45 Try.f45 laws_szOrder_c (fArgs laws_szOrder_a vs) k) (by kernel_rfl) ((bodyK_congr (laws_szOrder_cf m) rfl 45 Try.f45 laws_szOrder_c (fArgs laws_szOrder_a vs) k).trans (by kernel_rfl))

/-! loop.example/g00244/laws.szOrderS -/
noncomputable def laws_szOrderS_L0_0 (m : Nat) : Nat → T → T → T → (T → An) → (T → An) → An
  | 0, _, _, _, _, _ => .bad
  | n + 1, x0, x1, x2, k0, k1 =>
    cond (decide (x2.int < (x0.rows.length : Int)))
    (cond (decide ((0 : Int) ≤ x2.int ∧ x2.int < (x0.rows.length : Int)))
    (laws_szOrder m ((x0.rows.getD (Int.toNat x2.int) []).getD 0 dflt) (T.l ((x0.rows.getD (Int.toNat x2.int) []).getD 1 dflt).rows) x1
    (fun y0 => cond (decide (y0.int < 0))
    (k0 (T.i (-1)))
    (laws_szOrderS_L0_0 m n x0 y0 (T.i (IntKind.i64.wrap (x2.int + 1))) k0 k1)))
    (.bad))
    (k1 x1)
noncomputable def laws_szOrderS_s0_0 : Pack := ⟨[(0, .one ⟨.sn [([4000000], 0)], .sl [.sc (.int .i64), .sl [.sc (.int .i64), .sc (.str), .sc (.str)]], .l []⟩), (1, .one ⟨.sc, .sc (.int .i64), .l []⟩), (5, .one ⟨.sc, .sc (.int .i64), .l []⟩)], [([4000000], .gone)]⟩
noncomputable def laws_szOrderS_e0_0 : Pack := ⟨[(4, .one ⟨.sc, .sc (.int .i64), .l []⟩)], []⟩
noncomputable def laws_szOrderS_e0_1 : Pack := ⟨[(1, .one ⟨.sc, .sc (.int .i64), .l []⟩)], []⟩
noncomputable def laws_szOrderS_L0_0w (m n : Nat) (vs : List T) (k : Ctl → Pack → An) : An := laws_szOrderS_L0_0 m n (vs.headD dflt) (vs.tail.headD dflt) (vs.tail.tail.headD dflt) (fun z0 => k .ret (fPack laws_szOrderS_e0_0 [z0])) (fun z0 => k (.exit 0) (fPack laws_szOrderS_e0_1 [z0]))
noncomputable def laws_szOrderS : Nat → T → T → (T → An) → An
  | 0, _, _, _ => .bad
  | m + 1, x0, x1, k0 =>
    cond (decide ((IntKind.i64.wrap (x1.int - (x0.rows.length : Int))) < 0))
    (k0 (T.i (-1)))
    (laws_szOrderS_L0_0 m m (T.l x0.rows) (T.i (IntKind.i64.wrap (x1.int - (x0.rows.length : Int)))) (T.i 0)
    (fun y1 => k0 y1)
    (fun y2 => k0 y2))
noncomputable def laws_szOrderS_a : List Arg := [.one (.dz [.sc (.int .i64), .sl [.sc (.int .i64), .sc (.str), .sc (.str)]] []), .one (.sc (.int .i64) (.l []))]
noncomputable def laws_szOrderS_w (m : Nat) (vs : List T) (k : Ret → An) : An := laws_szOrderS m (vs.headD dflt) (vs.tail.headD dflt) (fun z0 => k ⟨[.one (.sc (.int .i64) z0)], [[none], [none]], [none, none]⟩)
theorem laws_szOrderS_cf (m : Nat) : callK CX prims m = (patC 45 laws_szOrder_a (laws_szOrder_w m) (callK CX prims m)) := by
  rw [← patC_eq (fun vs k => laws_szOrder_eq m vs k)]
noncomputable def laws_szOrderS_c : Code := (Try.f22.body).getD .skip
noncomputable def laws_szOrderS_fi : Fi := ⟨22, 2, 27, 16⟩
theorem laws_szOrderS_lf (m : Nat) : ∀ n, (∀ vs k, loopK CX (callK CX prims m) laws_szOrderS_fi laws_szOrderS_c n [0, 1, 0, 1, 1, 1] (fPack laws_szOrderS_s0_0 vs) k = laws_szOrderS_L0_0w m n vs k) ∧ ((loopK CX (callK CX prims m) laws_szOrderS_fi laws_szOrderS_c n) = (patL [0, 1, 0, 1, 1, 1] laws_szOrderS_s0_0 (laws_szOrderS_L0_0w m n) (loopK CX (callK CX prims m) laws_szOrderS_fi laws_szOrderS_c n))) := by
  intro n
  have hl : ∀ n, (∀ vs k, loopK CX (callK CX prims m) laws_szOrderS_fi laws_szOrderS_c n [0, 1, 0, 1, 1, 1] (fPack laws_szOrderS_s0_0 vs) k = laws_szOrderS_L0_0w m n vs k) → ((loopK CX (callK CX prims m) laws_szOrderS_fi laws_szOrderS_c n) = (patL [0, 1, 0, 1, 1, 1] laws_szOrderS_s0_0 (laws_szOrderS_L0_0w m n) (loopK CX (callK CX prims m) laws_szOrderS_fi laws_szOrderS_c n))) := by
    intro n h0
    rw [← patL_eq h0]
  induction n with
  | zero => exact ⟨fun vs k => rfl, hl 0 (fun vs k => rfl)⟩
  | succ n ihn =>
    have hn := ihn.2
    have h0 : ∀ vs k, loopK CX (callK CX prims m) laws_szOrderS_fi laws_szOrderS_c (n + 1) [0, 1, 0, 1, 1, 1] (fPack laws_szOrderS_s0_0 vs) k = laws_szOrderS_L0_0w m (n + 1) vs k := fun vs k =>
      (stepL_congr (laws_szOrderS_cf m) hn [0, 1, 0, 1, 1, 1] _ _).trans (by kernel_rfl)
    exact ⟨h0, hl (n + 1) h0⟩
theorem laws_szOrderS_eq (m : Nat) : ∀ vs k, callK CX prims m 22 (fArgs laws_szOrderS_a vs) k = laws_szOrderS_w m vs k := by
  cases m with
  | zero => exact fun vs k => rfl
  | succ m => exact fun vs k => Eq.trans (b := bodyK CX (callK CX prims m) (loopK CX (callK CX prims m) laws_szOrderS_fi laws_szOrderS_c m) 22 Try.f22 laws_szOrderS_c (fArgs laws_szOrderS_a vs) k) (by kernel_rfl) ((bodyK_congr (laws_szOrderS_cf m) ((laws_szOrderS_lf m m).2) 22 Try.f22 laws_szOrderS_c (fArgs laws_szOrderS_a vs) k).trans (by kernel_rfl))

/-! loop.example/g00244/laws.szWorld -/
noncomputable def laws_szWorld : Nat → T → T → T → T → T → T → T → T → T → T → T → (T → An) → An
  | 0, _, _, _, _, _, _, _, _, _, _, _, _ => .bad
  | m + 1, x0, x1, x2, x3, x4, x5, x6, x7, x8, x9, x10, k0 =>
    laws_szCoord m x0 x1 x2 (T.l x3.rows) (T.l x4.rows) x5 x10
    (fun y0 => cond (decide (y0.int < 0))
    (k0 (T.i (-1)))
    (laws_szShardS m (T.l x6.rows) y0
    (fun y1 => cond (decide (y1.int < 0))
    (k0 (T.i (-1)))
    (laws_szWordS m (T.l x7.rows) y1
    (fun y2 => cond (decide (y2.int < 0))
    (k0 (T.i (-1)))
    (laws_szWordS m (T.l x8.rows) y2
    (fun y3 => cond (decide (y3.int < 0))
    (k0 (T.i (-1)))
    (laws_szOrderS m (T.l x9.rows) y3
    (fun y4 => cond (decide (y4.int < 0))
    (k0 (T.i (-1)))
    (k0 y4))))))))))
noncomputable def laws_szWorld_a : List Arg := [.agg [.sc (.int .i64) (.l []), .sc (.int .i64) (.l []), .sc (.int .i64) (.l []), .dz [.sc (.int .i64), .sl [.sc (.int .i64), .sc (.str), .sc (.str)], .sc (.int .i64), .sl [.sc (.int .i64)]] [], .dz [.sc (.int .i64), .sc (.bool)] [], .sc (.int .i64) (.l []), .dz [.sc (.int .i64), .sl [.sc (.int .i64), .sc (.int .i64), .sl [.sc (.int .i64), .sc (.str), .sc (.str)]], .sc (.int .i64), .sl [.sc (.str), .sc (.str)], .sl [.sc (.int .i64), .sc (.int .i64), .sl [.sc (.int .i64), .sc (.str), .sc (.str)]]] [], .dz [.sc (.int .i64), .sc (.int .i64), .sc (.int .i64), .sl [.sc (.int .i64), .sc (.str), .sc (.str)], .sc (.bool)] [], .dz [.sc (.int .i64), .sc (.int .i64), .sc (.int .i64), .sl [.sc (.int .i64), .sc (.str), .sc (.str)], .sc (.bool)] [], .dz [.sc (.int .i64), .sl [.sc (.int .i64), .sc (.str), .sc (.str)]] []], .one (.sc (.int .i64) (.l []))]
noncomputable def laws_szWorld_w (m : Nat) (vs : List T) (k : Ret → An) : An := laws_szWorld m (vs.headD dflt) (vs.tail.headD dflt) (vs.tail.tail.headD dflt) (vs.tail.tail.tail.headD dflt) (vs.tail.tail.tail.tail.headD dflt) (vs.tail.tail.tail.tail.tail.headD dflt) (vs.tail.tail.tail.tail.tail.tail.headD dflt) (vs.tail.tail.tail.tail.tail.tail.tail.headD dflt) (vs.tail.tail.tail.tail.tail.tail.tail.tail.headD dflt) (vs.tail.tail.tail.tail.tail.tail.tail.tail.tail.headD dflt) (vs.tail.tail.tail.tail.tail.tail.tail.tail.tail.tail.headD dflt) (fun z0 => k ⟨[.one (.sc (.int .i64) z0)], [[none, none, none, none, none, none, none, none, none, none], [none]], [none, none]⟩)
theorem laws_szWorld_cf (m : Nat) : callK CX prims m = (patC 19 laws_szCoord_a (laws_szCoord_w m) (patC 20 laws_szShardS_a (laws_szShardS_w m) (patC 21 laws_szWordS_a (laws_szWordS_w m) (patC 22 laws_szOrderS_a (laws_szOrderS_w m) (callK CX prims m))))) := by
  rw [← patC_eq (fun vs k => laws_szOrderS_eq m vs k), ← patC_eq (fun vs k => laws_szWordS_eq m vs k), ← patC_eq (fun vs k => laws_szShardS_eq m vs k), ← patC_eq (fun vs k => laws_szCoord_eq m vs k)]
noncomputable def laws_szWorld_c : Code := (Try.f5.body).getD .skip
noncomputable def laws_szWorld_fi : Fi := ⟨5, 2, 36, 16⟩
theorem laws_szWorld_eq (m : Nat) : ∀ vs k, callK CX prims m 5 (fArgs laws_szWorld_a vs) k = laws_szWorld_w m vs k := by
  cases m with
  | zero => exact fun vs k => rfl
  | succ m => exact fun vs k => Eq.trans (b := bodyK CX (callK CX prims m) (loopK CX (callK CX prims m) laws_szWorld_fi laws_szWorld_c m) 5 Try.f5 laws_szWorld_c (fArgs laws_szWorld_a vs) k) (by kernel_rfl) ((bodyK_congr (laws_szWorld_cf m) rfl 5 Try.f5 laws_szWorld_c (fArgs laws_szWorld_a vs) k).trans (by kernel_rfl))

/-! loop.example/g00244/laws.toOp -/
noncomputable def laws_toOp : Nat → T → T → T → (T → T → T → An) → An
  | 0, _, _, _, _ => .bad
  | m + 1, x0, x1, x2, k0 =>
    k0 x0 x1 x2
noncomputable def laws_toOp_a : List Arg := [.agg [.sc (.int .i64) (.l []), .sc (.str) (.l []), .sc (.str) (.l [])]]
noncomputable def laws_toOp_w (m : Nat) (vs : List T) (k : Ret → An) : An := laws_toOp m (vs.headD dflt) (vs.tail.headD dflt) (vs.tail.tail.headD dflt) (fun z0 z1 z2 => k ⟨[.agg [.sc (.int .i64) z0, .sc (.str) z1, .sc (.str) z2]], [[none, none, none]], [none]⟩)
theorem laws_toOp_cf (m : Nat) : callK CX prims m = (callK CX prims m) := by
  rfl
noncomputable def laws_toOp_c : Code := (Try.f85.body).getD .skip
noncomputable def laws_toOp_fi : Fi := ⟨85, 1, 14, 4⟩
theorem laws_toOp_eq (m : Nat) : ∀ vs k, callK CX prims m 85 (fArgs laws_toOp_a vs) k = laws_toOp_w m vs k := by
  cases m with
  | zero => exact fun vs k => rfl
  | succ m => exact fun vs k => Eq.trans (b := bodyK CX (callK CX prims m) (loopK CX (callK CX prims m) laws_toOp_fi laws_toOp_c m) 85 Try.f85 laws_toOp_c (fArgs laws_toOp_a vs) k) (by kernel_rfl) ((bodyK_congr (laws_toOp_cf m) rfl 85 Try.f85 laws_toOp_c (fArgs laws_toOp_a vs) k).trans (by kernel_rfl))

/-! loop.example/g00244/laws.toOpS -/
noncomputable def laws_toOpS_L0_0 (m : Nat) : Nat → T → T → T → (T → An) → An
  | 0, _, _, _, _ => .bad
  | n + 1, x0, x1, x2, k0 =>
    cond (decide (x1.int < (x0.rows.length : Int)))
    (cond (decide ((0 : Int) ≤ x1.int ∧ x1.int < (x0.rows.length : Int)))
    (laws_toOp m ((x0.rows.getD (Int.toNat x1.int) []).getD 0 dflt) ((x0.rows.getD (Int.toNat x1.int) []).getD 1 dflt) ((x0.rows.getD (Int.toNat x1.int) []).getD 2 dflt)
    (fun y0 y1 y2 => cond (decide ((0 : Int) ≤ x1.int ∧ x1.int < (x2.rows.length : Int)))
    (cond (decide ((Int.toNat x1.int) < x2.rows.length))
    (laws_toOpS_L0_0 m n x0 (T.i (IntKind.i64.wrap (x1.int + 1))) (T.l (x2.rows.set (Int.toNat x1.int) ((((x2.rows.getD (Int.toNat x1.int) []).set 0 y0).set 1 y1).set 2 y2))) k0)
    (.bad))
    (.bad)))
    (.bad))
    (k0 (T.l x2.rows))
noncomputable def laws_toOpS_s0_0 : Pack := ⟨[(0, .one ⟨.sn [([4000000], 0)], .sl [.sc (.int .i64), .sc (.str), .sc (.str)], .l []⟩), (3, .one ⟨.al [1000000, 1] 0, .sl [.sc (.int .i64), .sc (.str), .sc (.str)], .l []⟩), (4, .one ⟨.sc, .sc (.int .i64), .l []⟩)], [([4000000], .gone), ([1000000, 1], .row [.sc (.int .i64), .sc (.str), .sc (.str)] [.F, .F, .F] [])]⟩
noncomputable def laws_toOpS_e0_0 : Pack := ⟨[(3, .one ⟨.al [1000000, 0] 0, .sl [.sc (.int .i64), .sc (.str), .sc (.str)], .l []⟩)], [([1000000, 0], .row [.sc (.int .i64), .sc (.str), .sc (.str)] [.F, .F, .F] [])]⟩
noncomputable def laws_toOpS_L0_0w (m n : Nat) (vs : List T) (k : Ctl → Pack → An) : An := laws_toOpS_L0_0 m n (vs.headD dflt) (vs.tail.headD dflt) (vs.tail.tail.headD dflt) (fun z0 => k (.exit 0) (fPack laws_toOpS_e0_0 [z0]))
noncomputable def laws_toOpS : Nat → T → (T → An) → An
  | 0, _, _ => .bad
  | m + 1, x0, k0 =>
    cond (decide (0 ≤ (x0.rows.length : Int) ∧ (x0.rows.length : Int) ≤ (x0.rows.length : Int)))
    (cond (decide ((x0.rows.length : Int) * ((40 : Nat) : Int) ≤ (maxCells : Int)))
    (laws_toOpS_L0_0 m m (T.l x0.rows) (T.i 0) (T.l (List.replicate (Int.toNat (x0.rows.length : Int)) [(T.i 0), (T.s (⟨#[]⟩ : ByteArray)), (T.s (⟨#[]⟩ : ByteArray))]))
    (fun y3 => k0 (T.l y3.rows)))
    (.bad))
    (.bad)
noncomputable def laws_toOpS_a : List Arg := [.one (.dz [.sc (.int .i64), .sc (.str), .sc (.str)] [])]
noncomputable def laws_toOpS_w (m : Nat) (vs : List T) (k : Ret → An) : An := laws_toOpS m (vs.headD dflt) (fun z0 => k ⟨[.one (.own [1000000, 0] [.sc (.int .i64), .sc (.str), .sc (.str)] [.F, .F, .F] z0.rows)], [[none]], [none]⟩)
theorem laws_toOpS_cf (m : Nat) : callK CX prims m = (patC 85 laws_toOp_a (laws_toOp_w m) (callK CX prims m)) := by
  rw [← patC_eq (fun vs k => laws_toOp_eq m vs k)]
noncomputable def laws_toOpS_c : Code := (Try.f70.body).getD .skip
noncomputable def laws_toOpS_fi : Fi := ⟨70, 1, 23, 4⟩
theorem laws_toOpS_lf (m : Nat) : ∀ n, (∀ vs k, loopK CX (callK CX prims m) laws_toOpS_fi laws_toOpS_c n [0, 1, 0, 1, 1] (fPack laws_toOpS_s0_0 vs) k = laws_toOpS_L0_0w m n vs k) ∧ ((loopK CX (callK CX prims m) laws_toOpS_fi laws_toOpS_c n) = (patL [0, 1, 0, 1, 1] laws_toOpS_s0_0 (laws_toOpS_L0_0w m n) (loopK CX (callK CX prims m) laws_toOpS_fi laws_toOpS_c n))) := by
  intro n
  have hl : ∀ n, (∀ vs k, loopK CX (callK CX prims m) laws_toOpS_fi laws_toOpS_c n [0, 1, 0, 1, 1] (fPack laws_toOpS_s0_0 vs) k = laws_toOpS_L0_0w m n vs k) → ((loopK CX (callK CX prims m) laws_toOpS_fi laws_toOpS_c n) = (patL [0, 1, 0, 1, 1] laws_toOpS_s0_0 (laws_toOpS_L0_0w m n) (loopK CX (callK CX prims m) laws_toOpS_fi laws_toOpS_c n))) := by
    intro n h0
    rw [← patL_eq h0]
  induction n with
  | zero => exact ⟨fun vs k => rfl, hl 0 (fun vs k => rfl)⟩
  | succ n ihn =>
    have hn := ihn.2
    have h0 : ∀ vs k, loopK CX (callK CX prims m) laws_toOpS_fi laws_toOpS_c (n + 1) [0, 1, 0, 1, 1] (fPack laws_toOpS_s0_0 vs) k = laws_toOpS_L0_0w m (n + 1) vs k := fun vs k =>
      (stepL_congr (laws_toOpS_cf m) hn [0, 1, 0, 1, 1] _ _).trans (by kernel_rfl)
    exact ⟨h0, hl (n + 1) h0⟩
theorem laws_toOpS_eq (m : Nat) : ∀ vs k, callK CX prims m 70 (fArgs laws_toOpS_a vs) k = laws_toOpS_w m vs k := by
  cases m with
  | zero => exact fun vs k => rfl
  | succ m => exact fun vs k => Eq.trans (b := bodyK CX (callK CX prims m) (loopK CX (callK CX prims m) laws_toOpS_fi laws_toOpS_c m) 70 Try.f70 laws_toOpS_c (fArgs laws_toOpS_a vs) k) (by kernel_rfl) ((bodyK_congr (laws_toOpS_cf m) ((laws_toOpS_lf m m).2) 70 Try.f70 laws_toOpS_c (fArgs laws_toOpS_a vs) k).trans (by kernel_rfl))

/-! loop.example/g00244/laws.toIntS -/
noncomputable def laws_toIntS_L0_0 (m : Nat) : Nat → T → T → T → (T → An) → An
  | 0, _, _, _, _ => .bad
  | n + 1, x0, x1, x2, k0 =>
    cond (decide (x1.int < (x0.rows.length : Int)))
    (cond (decide ((0 : Int) ≤ x1.int ∧ x1.int < (x0.rows.length : Int)))
    (cond (decide ((0 : Int) ≤ x1.int ∧ x1.int < (x2.rows.length : Int)))
    (cond (decide ((Int.toNat x1.int) < x2.rows.length))
    (laws_toIntS_L0_0 m n x0 (T.i (IntKind.i64.wrap (x1.int + 1))) (T.l (x2.rows.set (Int.toNat x1.int) ((x2.rows.getD (Int.toNat x1.int) []).set 0 ((x0.rows.getD (Int.toNat x1.int) []).getD 0 dflt)))) k0)
    (.bad))
    (.bad))
    (.bad))
    (k0 (T.l x2.rows))
noncomputable def laws_toIntS_s0_0 : Pack := ⟨[(0, .one ⟨.sn [([4000000], 0)], .sl [.sc (.int .i64)], .l []⟩), (3, .one ⟨.al [1000000, 1] 0, .sl [.sc (.int .i64)], .l []⟩), (4, .one ⟨.sc, .sc (.int .i64), .l []⟩)], [([4000000], .gone), ([1000000, 1], .row [.sc (.int .i64)] [.F] [])]⟩
noncomputable def laws_toIntS_e0_0 : Pack := ⟨[(3, .one ⟨.al [1000000, 0] 0, .sl [.sc (.int .i64)], .l []⟩)], [([1000000, 0], .row [.sc (.int .i64)] [.F] [])]⟩
noncomputable def laws_toIntS_L0_0w (m n : Nat) (vs : List T) (k : Ctl → Pack → An) : An := laws_toIntS_L0_0 m n (vs.headD dflt) (vs.tail.headD dflt) (vs.tail.tail.headD dflt) (fun z0 => k (.exit 0) (fPack laws_toIntS_e0_0 [z0]))
noncomputable def laws_toIntS : Nat → T → (T → An) → An
  | 0, _, _ => .bad
  | m + 1, x0, k0 =>
    cond (decide (0 ≤ (x0.rows.length : Int) ∧ (x0.rows.length : Int) ≤ (x0.rows.length : Int)))
    (cond (decide ((x0.rows.length : Int) * ((8 : Nat) : Int) ≤ (maxCells : Int)))
    (laws_toIntS_L0_0 m m (T.l x0.rows) (T.i 0) (T.l (List.replicate (Int.toNat (x0.rows.length : Int)) [(T.i 0)]))
    (fun y0 => k0 (T.l y0.rows)))
    (.bad))
    (.bad)
noncomputable def laws_toIntS_a : List Arg := [.one (.dz [.sc (.int .i64)] [])]
noncomputable def laws_toIntS_w (m : Nat) (vs : List T) (k : Ret → An) : An := laws_toIntS m (vs.headD dflt) (fun z0 => k ⟨[.one (.own [1000000, 0] [.sc (.int .i64)] [.F] z0.rows)], [[none]], [none]⟩)
theorem laws_toIntS_cf (m : Nat) : callK CX prims m = (callK CX prims m) := by
  rfl
noncomputable def laws_toIntS_c : Code := (Try.f82.body).getD .skip
noncomputable def laws_toIntS_fi : Fi := ⟨82, 1, 22, 4⟩
theorem laws_toIntS_lf (m : Nat) : ∀ n, (∀ vs k, loopK CX (callK CX prims m) laws_toIntS_fi laws_toIntS_c n [0, 1, 0, 1, 1] (fPack laws_toIntS_s0_0 vs) k = laws_toIntS_L0_0w m n vs k) ∧ ((loopK CX (callK CX prims m) laws_toIntS_fi laws_toIntS_c n) = (patL [0, 1, 0, 1, 1] laws_toIntS_s0_0 (laws_toIntS_L0_0w m n) (loopK CX (callK CX prims m) laws_toIntS_fi laws_toIntS_c n))) := by
  intro n
  have hl : ∀ n, (∀ vs k, loopK CX (callK CX prims m) laws_toIntS_fi laws_toIntS_c n [0, 1, 0, 1, 1] (fPack laws_toIntS_s0_0 vs) k = laws_toIntS_L0_0w m n vs k) → ((loopK CX (callK CX prims m) laws_toIntS_fi laws_toIntS_c n) = (patL [0, 1, 0, 1, 1] laws_toIntS_s0_0 (laws_toIntS_L0_0w m n) (loopK CX (callK CX prims m) laws_toIntS_fi laws_toIntS_c n))) := by
    intro n h0
    rw [← patL_eq h0]
  induction n with
  | zero => exact ⟨fun vs k => rfl, hl 0 (fun vs k => rfl)⟩
  | succ n ihn =>
    have hn := ihn.2
    have h0 : ∀ vs k, loopK CX (callK CX prims m) laws_toIntS_fi laws_toIntS_c (n + 1) [0, 1, 0, 1, 1] (fPack laws_toIntS_s0_0 vs) k = laws_toIntS_L0_0w m (n + 1) vs k := fun vs k =>
      (stepL_congr (laws_toIntS_cf m) hn [0, 1, 0, 1, 1] _ _).trans (by kernel_rfl)
    exact ⟨h0, hl (n + 1) h0⟩
theorem laws_toIntS_eq (m : Nat) : ∀ vs k, callK CX prims m 82 (fArgs laws_toIntS_a vs) k = laws_toIntS_w m vs k := by
  cases m with
  | zero => exact fun vs k => rfl
  | succ m => exact fun vs k => Eq.trans (b := bodyK CX (callK CX prims m) (loopK CX (callK CX prims m) laws_toIntS_fi laws_toIntS_c m) 82 Try.f82 laws_toIntS_c (fArgs laws_toIntS_a vs) k) (by kernel_rfl) ((bodyK_congr (laws_toIntS_cf m) ((laws_toIntS_lf m m).2) 82 Try.f82 laws_toIntS_c (fArgs laws_toIntS_a vs) k).trans (by kernel_rfl))

/-! loop.example/g00244/laws.toJob -/
noncomputable def laws_toJob : Nat → T → T → T → T → (T → T → T → T → An) → An
  | 0, _, _, _, _, _ => .bad
  | m + 1, x0, x1, x2, x3, k0 =>
    laws_toOpS m (T.l x1.rows)
    (fun y0 => laws_toIntS m (T.l x3.rows)
    (fun y1 => k0 x0 (T.l y0.rows) x2 (T.l y1.rows)))
noncomputable def laws_toJob_a : List Arg := [.agg [.sc (.int .i64) (.l []), .dz [.sc (.int .i64), .sc (.str), .sc (.str)] [], .sc (.int .i64) (.l []), .dz [.sc (.int .i64)] []]]
noncomputable def laws_toJob_w (m : Nat) (vs : List T) (k : Ret → An) : An := laws_toJob m (vs.headD dflt) (vs.tail.headD dflt) (vs.tail.tail.headD dflt) (vs.tail.tail.tail.headD dflt) (fun z0 z1 z2 z3 => k ⟨[.agg [.sc (.int .i64) z0, .own [2000009, 0, 0] [.sc (.int .i64), .sc (.str), .sc (.str)] [.F, .F, .F] z1.rows, .sc (.int .i64) z2, .own [2000016, 0, 0] [.sc (.int .i64)] [.F] z3.rows]], [[none, none, none, none]], [none]⟩)
theorem laws_toJob_cf (m : Nat) : callK CX prims m = (patC 70 laws_toOpS_a (laws_toOpS_w m) (patC 82 laws_toIntS_a (laws_toIntS_w m) (callK CX prims m))) := by
  rw [← patC_eq (fun vs k => laws_toIntS_eq m vs k), ← patC_eq (fun vs k => laws_toOpS_eq m vs k)]
noncomputable def laws_toJob_c : Code := (Try.f66.body).getD .skip
noncomputable def laws_toJob_fi : Fi := ⟨66, 1, 19, 4⟩
theorem laws_toJob_eq (m : Nat) : ∀ vs k, callK CX prims m 66 (fArgs laws_toJob_a vs) k = laws_toJob_w m vs k := by
  cases m with
  | zero => exact fun vs k => rfl
  | succ m => exact fun vs k => Eq.trans (b := bodyK CX (callK CX prims m) (loopK CX (callK CX prims m) laws_toJob_fi laws_toJob_c m) 66 Try.f66 laws_toJob_c (fArgs laws_toJob_a vs) k) (by kernel_rfl) ((bodyK_congr (laws_toJob_cf m) rfl 66 Try.f66 laws_toJob_c (fArgs laws_toJob_a vs) k).trans (by kernel_rfl))

/-! loop.example/g00244/laws.toJobS -/
noncomputable def laws_toJobS_L0_0 (m : Nat) : Nat → T → T → T → (T → An) → An
  | 0, _, _, _, _ => .bad
  | n + 1, x0, x1, x2, k0 =>
    cond (decide (x1.int < (x0.rows.length : Int)))
    (cond (decide ((0 : Int) ≤ x1.int ∧ x1.int < (x0.rows.length : Int)))
    (laws_toJob m ((x0.rows.getD (Int.toNat x1.int) []).getD 0 dflt) (T.l ((x0.rows.getD (Int.toNat x1.int) []).getD 1 dflt).rows) ((x0.rows.getD (Int.toNat x1.int) []).getD 2 dflt) (T.l ((x0.rows.getD (Int.toNat x1.int) []).getD 3 dflt).rows)
    (fun y0 y1 y2 y3 => cond (decide ((0 : Int) ≤ x1.int ∧ x1.int < (x2.rows.length : Int)))
    (cond (decide ((Int.toNat x1.int) < x2.rows.length))
    (laws_toJobS_L0_0 m n x0 (T.i (IntKind.i64.wrap (x1.int + 1))) (T.l (x2.rows.set (Int.toNat x1.int) (((((x2.rows.getD (Int.toNat x1.int) []).set 0 y0).set 1 (T.l y1.rows)).set 2 y2).set 3 (T.l y3.rows)))) k0)
    (.bad))
    (.bad)))
    (.bad))
    (k0 (T.l x2.rows))
noncomputable def laws_toJobS_s0_0 : Pack := ⟨[(0, .one ⟨.sn [([4000000], 0)], .sl [.sc (.int .i64), .sl [.sc (.int .i64), .sc (.str), .sc (.str)], .sc (.int .i64), .sl [.sc (.int .i64)]], .l []⟩), (3, .one ⟨.al [1000000, 1] 0, .sl [.sc (.int .i64), .sl [.sc (.int .i64), .sc (.str), .sc (.str)], .sc (.int .i64), .sl [.sc (.int .i64)]], .l []⟩), (4, .one ⟨.sc, .sc (.int .i64), .l []⟩)], [([4000000], .gone), ([1000000, 1], .row [.sc (.int .i64), .sl [.sc (.int .i64), .sc (.str), .sc (.str)], .sc (.int .i64), .sl [.sc (.int .i64)]] [.F, .O [.F, .F, .F], .F, .O [.F]] [])]⟩
noncomputable def laws_toJobS_e0_0 : Pack := ⟨[(3, .one ⟨.al [1000000, 0] 0, .sl [.sc (.int .i64), .sl [.sc (.int .i64), .sc (.str), .sc (.str)], .sc (.int .i64), .sl [.sc (.int .i64)]], .l []⟩)], [([1000000, 0], .row [.sc (.int .i64), .sl [.sc (.int .i64), .sc (.str), .sc (.str)], .sc (.int .i64), .sl [.sc (.int .i64)]] [.F, .O [.F, .F, .F], .F, .O [.F]] [])]⟩
noncomputable def laws_toJobS_L0_0w (m n : Nat) (vs : List T) (k : Ctl → Pack → An) : An := laws_toJobS_L0_0 m n (vs.headD dflt) (vs.tail.headD dflt) (vs.tail.tail.headD dflt) (fun z0 => k (.exit 0) (fPack laws_toJobS_e0_0 [z0]))
noncomputable def laws_toJobS : Nat → T → (T → An) → An
  | 0, _, _ => .bad
  | m + 1, x0, k0 =>
    cond (decide (0 ≤ (x0.rows.length : Int) ∧ (x0.rows.length : Int) ≤ (x0.rows.length : Int)))
    (cond (decide ((x0.rows.length : Int) * ((64 : Nat) : Int) ≤ (maxCells : Int)))
    (laws_toJobS_L0_0 m m (T.l x0.rows) (T.i 0) (T.l (List.replicate (Int.toNat (x0.rows.length : Int)) [(T.i 0), (T.l []), (T.i 0), (T.l [])]))
    (fun y4 => k0 (T.l y4.rows)))
    (.bad))
    (.bad)
noncomputable def laws_toJobS_a : List Arg := [.one (.dz [.sc (.int .i64), .sl [.sc (.int .i64), .sc (.str), .sc (.str)], .sc (.int .i64), .sl [.sc (.int .i64)]] [])]
noncomputable def laws_toJobS_w (m : Nat) (vs : List T) (k : Ret → An) : An := laws_toJobS m (vs.headD dflt) (fun z0 => k ⟨[.one (.own [1000000, 0] [.sc (.int .i64), .sl [.sc (.int .i64), .sc (.str), .sc (.str)], .sc (.int .i64), .sl [.sc (.int .i64)]] [.F, .O [.F, .F, .F], .F, .O [.F]] z0.rows)], [[none]], [none]⟩)
theorem laws_toJobS_cf (m : Nat) : callK CX prims m = (patC 66 laws_toJob_a (laws_toJob_w m) (callK CX prims m)) := by
  rw [← patC_eq (fun vs k => laws_toJob_eq m vs k)]
noncomputable def laws_toJobS_c : Code := (Try.f47.body).getD .skip
noncomputable def laws_toJobS_fi : Fi := ⟨47, 1, 23, 4⟩
theorem laws_toJobS_lf (m : Nat) : ∀ n, (∀ vs k, loopK CX (callK CX prims m) laws_toJobS_fi laws_toJobS_c n [0, 1, 0, 1, 1] (fPack laws_toJobS_s0_0 vs) k = laws_toJobS_L0_0w m n vs k) ∧ ((loopK CX (callK CX prims m) laws_toJobS_fi laws_toJobS_c n) = (patL [0, 1, 0, 1, 1] laws_toJobS_s0_0 (laws_toJobS_L0_0w m n) (loopK CX (callK CX prims m) laws_toJobS_fi laws_toJobS_c n))) := by
  intro n
  have hl : ∀ n, (∀ vs k, loopK CX (callK CX prims m) laws_toJobS_fi laws_toJobS_c n [0, 1, 0, 1, 1] (fPack laws_toJobS_s0_0 vs) k = laws_toJobS_L0_0w m n vs k) → ((loopK CX (callK CX prims m) laws_toJobS_fi laws_toJobS_c n) = (patL [0, 1, 0, 1, 1] laws_toJobS_s0_0 (laws_toJobS_L0_0w m n) (loopK CX (callK CX prims m) laws_toJobS_fi laws_toJobS_c n))) := by
    intro n h0
    rw [← patL_eq h0]
  induction n with
  | zero => exact ⟨fun vs k => rfl, hl 0 (fun vs k => rfl)⟩
  | succ n ihn =>
    have hn := ihn.2
    have h0 : ∀ vs k, loopK CX (callK CX prims m) laws_toJobS_fi laws_toJobS_c (n + 1) [0, 1, 0, 1, 1] (fPack laws_toJobS_s0_0 vs) k = laws_toJobS_L0_0w m (n + 1) vs k := fun vs k =>
      (stepL_congr (laws_toJobS_cf m) hn [0, 1, 0, 1, 1] _ _).trans (by kernel_rfl)
    exact ⟨h0, hl (n + 1) h0⟩
theorem laws_toJobS_eq (m : Nat) : ∀ vs k, callK CX prims m 47 (fArgs laws_toJobS_a vs) k = laws_toJobS_w m vs k := by
  cases m with
  | zero => exact fun vs k => rfl
  | succ m => exact fun vs k => Eq.trans (b := bodyK CX (callK CX prims m) (loopK CX (callK CX prims m) laws_toJobS_fi laws_toJobS_c m) 47 Try.f47 laws_toJobS_c (fArgs laws_toJobS_a vs) k) (by kernel_rfl) ((bodyK_congr (laws_toJobS_cf m) ((laws_toJobS_lf m m).2) 47 Try.f47 laws_toJobS_c (fArgs laws_toJobS_a vs) k).trans (by kernel_rfl))

/-! loop.example/g00244/laws.toChoice -/
noncomputable def laws_toChoice : Nat → T → T → (T → T → An) → An
  | 0, _, _, _ => .bad
  | m + 1, x0, x1, k0 =>
    k0 x0 x1
noncomputable def laws_toChoice_a : List Arg := [.agg [.sc (.int .i64) (.l []), .sc (.bool) (.l [])]]
noncomputable def laws_toChoice_w (m : Nat) (vs : List T) (k : Ret → An) : An := laws_toChoice m (vs.headD dflt) (vs.tail.headD dflt) (fun z0 z1 => k ⟨[.agg [.sc (.int .i64) z0, .sc (.bool) z1]], [[none, none]], [none]⟩)
theorem laws_toChoice_cf (m : Nat) : callK CX prims m = (callK CX prims m) := by
  rfl
noncomputable def laws_toChoice_c : Code := (Try.f67.body).getD .skip
noncomputable def laws_toChoice_fi : Fi := ⟨67, 1, 11, 4⟩
theorem laws_toChoice_eq (m : Nat) : ∀ vs k, callK CX prims m 67 (fArgs laws_toChoice_a vs) k = laws_toChoice_w m vs k := by
  cases m with
  | zero => exact fun vs k => rfl
  | succ m => exact fun vs k => Eq.trans (b := bodyK CX (callK CX prims m) (loopK CX (callK CX prims m) laws_toChoice_fi laws_toChoice_c m) 67 Try.f67 laws_toChoice_c (fArgs laws_toChoice_a vs) k) (by kernel_rfl) ((bodyK_congr (laws_toChoice_cf m) rfl 67 Try.f67 laws_toChoice_c (fArgs laws_toChoice_a vs) k).trans (by kernel_rfl))

/-! loop.example/g00244/laws.toChoiceS -/
noncomputable def laws_toChoiceS_L0_0 (m : Nat) : Nat → T → T → T → (T → An) → An
  | 0, _, _, _, _ => .bad
  | n + 1, x0, x1, x2, k0 =>
    cond (decide (x1.int < (x0.rows.length : Int)))
    (cond (decide ((0 : Int) ≤ x1.int ∧ x1.int < (x0.rows.length : Int)))
    (laws_toChoice m ((x0.rows.getD (Int.toNat x1.int) []).getD 0 dflt) ((x0.rows.getD (Int.toNat x1.int) []).getD 1 dflt)
    (fun y0 y1 => cond (decide ((0 : Int) ≤ x1.int ∧ x1.int < (x2.rows.length : Int)))
    (cond (decide ((Int.toNat x1.int) < x2.rows.length))
    (laws_toChoiceS_L0_0 m n x0 (T.i (IntKind.i64.wrap (x1.int + 1))) (T.l (x2.rows.set (Int.toNat x1.int) (((x2.rows.getD (Int.toNat x1.int) []).set 0 y0).set 1 y1))) k0)
    (.bad))
    (.bad)))
    (.bad))
    (k0 (T.l x2.rows))
noncomputable def laws_toChoiceS_s0_0 : Pack := ⟨[(0, .one ⟨.sn [([4000000], 0)], .sl [.sc (.int .i64), .sc (.bool)], .l []⟩), (3, .one ⟨.al [1000000, 1] 0, .sl [.sc (.int .i64), .sc (.bool)], .l []⟩), (4, .one ⟨.sc, .sc (.int .i64), .l []⟩)], [([4000000], .gone), ([1000000, 1], .row [.sc (.int .i64), .sc (.bool)] [.F, .F] [])]⟩
noncomputable def laws_toChoiceS_e0_0 : Pack := ⟨[(3, .one ⟨.al [1000000, 0] 0, .sl [.sc (.int .i64), .sc (.bool)], .l []⟩)], [([1000000, 0], .row [.sc (.int .i64), .sc (.bool)] [.F, .F] [])]⟩
noncomputable def laws_toChoiceS_L0_0w (m n : Nat) (vs : List T) (k : Ctl → Pack → An) : An := laws_toChoiceS_L0_0 m n (vs.headD dflt) (vs.tail.headD dflt) (vs.tail.tail.headD dflt) (fun z0 => k (.exit 0) (fPack laws_toChoiceS_e0_0 [z0]))
noncomputable def laws_toChoiceS : Nat → T → (T → An) → An
  | 0, _, _ => .bad
  | m + 1, x0, k0 =>
    cond (decide (0 ≤ (x0.rows.length : Int) ∧ (x0.rows.length : Int) ≤ (x0.rows.length : Int)))
    (cond (decide ((x0.rows.length : Int) * ((16 : Nat) : Int) ≤ (maxCells : Int)))
    (laws_toChoiceS_L0_0 m m (T.l x0.rows) (T.i 0) (T.l (List.replicate (Int.toNat (x0.rows.length : Int)) [(T.i 0), (T.b false)]))
    (fun y2 => k0 (T.l y2.rows)))
    (.bad))
    (.bad)
noncomputable def laws_toChoiceS_a : List Arg := [.one (.dz [.sc (.int .i64), .sc (.bool)] [])]
noncomputable def laws_toChoiceS_w (m : Nat) (vs : List T) (k : Ret → An) : An := laws_toChoiceS m (vs.headD dflt) (fun z0 => k ⟨[.one (.own [1000000, 0] [.sc (.int .i64), .sc (.bool)] [.F, .F] z0.rows)], [[none]], [none]⟩)
theorem laws_toChoiceS_cf (m : Nat) : callK CX prims m = (patC 67 laws_toChoice_a (laws_toChoice_w m) (callK CX prims m)) := by
  rw [← patC_eq (fun vs k => laws_toChoice_eq m vs k)]
noncomputable def laws_toChoiceS_c : Code := (Try.f48.body).getD .skip
noncomputable def laws_toChoiceS_fi : Fi := ⟨48, 1, 23, 4⟩
theorem laws_toChoiceS_lf (m : Nat) : ∀ n, (∀ vs k, loopK CX (callK CX prims m) laws_toChoiceS_fi laws_toChoiceS_c n [0, 1, 0, 1, 1] (fPack laws_toChoiceS_s0_0 vs) k = laws_toChoiceS_L0_0w m n vs k) ∧ ((loopK CX (callK CX prims m) laws_toChoiceS_fi laws_toChoiceS_c n) = (patL [0, 1, 0, 1, 1] laws_toChoiceS_s0_0 (laws_toChoiceS_L0_0w m n) (loopK CX (callK CX prims m) laws_toChoiceS_fi laws_toChoiceS_c n))) := by
  intro n
  have hl : ∀ n, (∀ vs k, loopK CX (callK CX prims m) laws_toChoiceS_fi laws_toChoiceS_c n [0, 1, 0, 1, 1] (fPack laws_toChoiceS_s0_0 vs) k = laws_toChoiceS_L0_0w m n vs k) → ((loopK CX (callK CX prims m) laws_toChoiceS_fi laws_toChoiceS_c n) = (patL [0, 1, 0, 1, 1] laws_toChoiceS_s0_0 (laws_toChoiceS_L0_0w m n) (loopK CX (callK CX prims m) laws_toChoiceS_fi laws_toChoiceS_c n))) := by
    intro n h0
    rw [← patL_eq h0]
  induction n with
  | zero => exact ⟨fun vs k => rfl, hl 0 (fun vs k => rfl)⟩
  | succ n ihn =>
    have hn := ihn.2
    have h0 : ∀ vs k, loopK CX (callK CX prims m) laws_toChoiceS_fi laws_toChoiceS_c (n + 1) [0, 1, 0, 1, 1] (fPack laws_toChoiceS_s0_0 vs) k = laws_toChoiceS_L0_0w m (n + 1) vs k := fun vs k =>
      (stepL_congr (laws_toChoiceS_cf m) hn [0, 1, 0, 1, 1] _ _).trans (by kernel_rfl)
    exact ⟨h0, hl (n + 1) h0⟩
theorem laws_toChoiceS_eq (m : Nat) : ∀ vs k, callK CX prims m 48 (fArgs laws_toChoiceS_a vs) k = laws_toChoiceS_w m vs k := by
  cases m with
  | zero => exact fun vs k => rfl
  | succ m => exact fun vs k => Eq.trans (b := bodyK CX (callK CX prims m) (loopK CX (callK CX prims m) laws_toChoiceS_fi laws_toChoiceS_c m) 48 Try.f48 laws_toChoiceS_c (fArgs laws_toChoiceS_a vs) k) (by kernel_rfl) ((bodyK_congr (laws_toChoiceS_cf m) ((laws_toChoiceS_lf m m).2) 48 Try.f48 laws_toChoiceS_c (fArgs laws_toChoiceS_a vs) k).trans (by kernel_rfl))

/-! loop.example/g00244/laws.toCoord -/
noncomputable def laws_toCoord : Nat → T → T → T → T → T → T → (T → T → T → T → T → T → An) → An
  | 0, _, _, _, _, _, _, _ => .bad
  | m + 1, x0, x1, x2, x3, x4, x5, k0 =>
    laws_toJobS m (T.l x3.rows)
    (fun y0 => laws_toChoiceS m (T.l x4.rows)
    (fun y1 => k0 x0 x1 x2 (T.l y0.rows) (T.l y1.rows) x5))
noncomputable def laws_toCoord_a : List Arg := [.agg [.sc (.int .i64) (.l []), .sc (.int .i64) (.l []), .sc (.int .i64) (.l []), .dz [.sc (.int .i64), .sl [.sc (.int .i64), .sc (.str), .sc (.str)], .sc (.int .i64), .sl [.sc (.int .i64)]] [], .dz [.sc (.int .i64), .sc (.bool)] [], .sc (.int .i64) (.l [])]]
noncomputable def laws_toCoord_w (m : Nat) (vs : List T) (k : Ret → An) : An := laws_toCoord m (vs.headD dflt) (vs.tail.headD dflt) (vs.tail.tail.headD dflt) (vs.tail.tail.tail.headD dflt) (vs.tail.tail.tail.tail.headD dflt) (vs.tail.tail.tail.tail.tail.headD dflt) (fun z0 z1 z2 z3 z4 z5 => k ⟨[.agg [.sc (.int .i64) z0, .sc (.int .i64) z1, .sc (.int .i64) z2, .own [2000015, 0, 0] [.sc (.int .i64), .sl [.sc (.int .i64), .sc (.str), .sc (.str)], .sc (.int .i64), .sl [.sc (.int .i64)]] [.F, .O [.F, .F, .F], .F, .O [.F]] z3.rows, .own [2000019, 0, 0] [.sc (.int .i64), .sc (.bool)] [.F, .F] z4.rows, .sc (.int .i64) z5]], [[none, none, none, none, none, none]], [none]⟩)
theorem laws_toCoord_cf (m : Nat) : callK CX prims m = (patC 47 laws_toJobS_a (laws_toJobS_w m) (patC 48 laws_toChoiceS_a (laws_toChoiceS_w m) (callK CX prims m))) := by
  rw [← patC_eq (fun vs k => laws_toChoiceS_eq m vs k), ← patC_eq (fun vs k => laws_toJobS_eq m vs k)]
noncomputable def laws_toCoord_c : Code := (Try.f24.body).getD .skip
noncomputable def laws_toCoord_fi : Fi := ⟨24, 1, 25, 4⟩
theorem laws_toCoord_eq (m : Nat) : ∀ vs k, callK CX prims m 24 (fArgs laws_toCoord_a vs) k = laws_toCoord_w m vs k := by
  cases m with
  | zero => exact fun vs k => rfl
  | succ m => exact fun vs k => Eq.trans (b := bodyK CX (callK CX prims m) (loopK CX (callK CX prims m) laws_toCoord_fi laws_toCoord_c m) 24 Try.f24 laws_toCoord_c (fArgs laws_toCoord_a vs) k) (by kernel_rfl) ((bodyK_congr (laws_toCoord_cf m) rfl 24 Try.f24 laws_toCoord_c (fArgs laws_toCoord_a vs) k).trans (by kernel_rfl))

/-! loop.example/g00244/laws.toRec -/
noncomputable def laws_toRec : Nat → T → T → T → (T → T → T → An) → An
  | 0, _, _, _, _ => .bad
  | m + 1, x0, x1, x2, k0 =>
    laws_toOpS m (T.l x2.rows)
    (fun y0 => k0 x0 x1 (T.l y0.rows))
noncomputable def laws_toRec_a : List Arg := [.agg [.sc (.int .i64) (.l []), .sc (.int .i64) (.l []), .dz [.sc (.int .i64), .sc (.str), .sc (.str)] []]]
noncomputable def laws_toRec_w (m : Nat) (vs : List T) (k : Ret → An) : An := laws_toRec m (vs.headD dflt) (vs.tail.headD dflt) (vs.tail.tail.headD dflt) (fun z0 z1 z2 => k ⟨[.agg [.sc (.int .i64) z0, .sc (.int .i64) z1, .own [2000012, 0, 0] [.sc (.int .i64), .sc (.str), .sc (.str)] [.F, .F, .F] z2.rows]], [[none, none, none]], [none]⟩)
theorem laws_toRec_cf (m : Nat) : callK CX prims m = (patC 70 laws_toOpS_a (laws_toOpS_w m) (callK CX prims m)) := by
  rw [← patC_eq (fun vs k => laws_toOpS_eq m vs k)]
noncomputable def laws_toRec_c : Code := (Try.f83.body).getD .skip
noncomputable def laws_toRec_fi : Fi := ⟨83, 1, 15, 4⟩
theorem laws_toRec_eq (m : Nat) : ∀ vs k, callK CX prims m 83 (fArgs laws_toRec_a vs) k = laws_toRec_w m vs k := by
  cases m with
  | zero => exact fun vs k => rfl
  | succ m => exact fun vs k => Eq.trans (b := bodyK CX (callK CX prims m) (loopK CX (callK CX prims m) laws_toRec_fi laws_toRec_c m) 83 Try.f83 laws_toRec_c (fArgs laws_toRec_a vs) k) (by kernel_rfl) ((bodyK_congr (laws_toRec_cf m) rfl 83 Try.f83 laws_toRec_c (fArgs laws_toRec_a vs) k).trans (by kernel_rfl))

/-! loop.example/g00244/laws.toRecS -/
noncomputable def laws_toRecS_L0_0 (m : Nat) : Nat → T → T → T → (T → An) → An
  | 0, _, _, _, _ => .bad
  | n + 1, x0, x1, x2, k0 =>
    cond (decide (x1.int < (x0.rows.length : Int)))
    (cond (decide ((0 : Int) ≤ x1.int ∧ x1.int < (x0.rows.length : Int)))
    (laws_toRec m ((x0.rows.getD (Int.toNat x1.int) []).getD 0 dflt) ((x0.rows.getD (Int.toNat x1.int) []).getD 1 dflt) (T.l ((x0.rows.getD (Int.toNat x1.int) []).getD 2 dflt).rows)
    (fun y0 y1 y2 => cond (decide ((0 : Int) ≤ x1.int ∧ x1.int < (x2.rows.length : Int)))
    (cond (decide ((Int.toNat x1.int) < x2.rows.length))
    (laws_toRecS_L0_0 m n x0 (T.i (IntKind.i64.wrap (x1.int + 1))) (T.l (x2.rows.set (Int.toNat x1.int) ((((x2.rows.getD (Int.toNat x1.int) []).set 0 y0).set 1 y1).set 2 (T.l y2.rows)))) k0)
    (.bad))
    (.bad)))
    (.bad))
    (k0 (T.l x2.rows))
noncomputable def laws_toRecS_s0_0 : Pack := ⟨[(0, .one ⟨.sn [([4000000], 0)], .sl [.sc (.int .i64), .sc (.int .i64), .sl [.sc (.int .i64), .sc (.str), .sc (.str)]], .l []⟩), (3, .one ⟨.al [1000000, 1] 0, .sl [.sc (.int .i64), .sc (.int .i64), .sl [.sc (.int .i64), .sc (.str), .sc (.str)]], .l []⟩), (4, .one ⟨.sc, .sc (.int .i64), .l []⟩)], [([4000000], .gone), ([1000000, 1], .row [.sc (.int .i64), .sc (.int .i64), .sl [.sc (.int .i64), .sc (.str), .sc (.str)]] [.F, .F, .O [.F, .F, .F]] [])]⟩
noncomputable def laws_toRecS_e0_0 : Pack := ⟨[(3, .one ⟨.al [1000000, 0] 0, .sl [.sc (.int .i64), .sc (.int .i64), .sl [.sc (.int .i64), .sc (.str), .sc (.str)]], .l []⟩)], [([1000000, 0], .row [.sc (.int .i64), .sc (.int .i64), .sl [.sc (.int .i64), .sc (.str), .sc (.str)]] [.F, .F, .O [.F, .F, .F]] [])]⟩
noncomputable def laws_toRecS_L0_0w (m n : Nat) (vs : List T) (k : Ctl → Pack → An) : An := laws_toRecS_L0_0 m n (vs.headD dflt) (vs.tail.headD dflt) (vs.tail.tail.headD dflt) (fun z0 => k (.exit 0) (fPack laws_toRecS_e0_0 [z0]))
noncomputable def laws_toRecS : Nat → T → (T → An) → An
  | 0, _, _ => .bad
  | m + 1, x0, k0 =>
    cond (decide (0 ≤ (x0.rows.length : Int) ∧ (x0.rows.length : Int) ≤ (x0.rows.length : Int)))
    (cond (decide ((x0.rows.length : Int) * ((40 : Nat) : Int) ≤ (maxCells : Int)))
    (laws_toRecS_L0_0 m m (T.l x0.rows) (T.i 0) (T.l (List.replicate (Int.toNat (x0.rows.length : Int)) [(T.i 0), (T.i 0), (T.l [])]))
    (fun y3 => k0 (T.l y3.rows)))
    (.bad))
    (.bad)
noncomputable def laws_toRecS_a : List Arg := [.one (.dz [.sc (.int .i64), .sc (.int .i64), .sl [.sc (.int .i64), .sc (.str), .sc (.str)]] [])]
noncomputable def laws_toRecS_w (m : Nat) (vs : List T) (k : Ret → An) : An := laws_toRecS m (vs.headD dflt) (fun z0 => k ⟨[.one (.own [1000000, 0] [.sc (.int .i64), .sc (.int .i64), .sl [.sc (.int .i64), .sc (.str), .sc (.str)]] [.F, .F, .O [.F, .F, .F]] z0.rows)], [[none]], [none]⟩)
theorem laws_toRecS_cf (m : Nat) : callK CX prims m = (patC 83 laws_toRec_a (laws_toRec_w m) (callK CX prims m)) := by
  rw [← patC_eq (fun vs k => laws_toRec_eq m vs k)]
noncomputable def laws_toRecS_c : Code := (Try.f68.body).getD .skip
noncomputable def laws_toRecS_fi : Fi := ⟨68, 1, 23, 4⟩
theorem laws_toRecS_lf (m : Nat) : ∀ n, (∀ vs k, loopK CX (callK CX prims m) laws_toRecS_fi laws_toRecS_c n [0, 1, 0, 1, 1] (fPack laws_toRecS_s0_0 vs) k = laws_toRecS_L0_0w m n vs k) ∧ ((loopK CX (callK CX prims m) laws_toRecS_fi laws_toRecS_c n) = (patL [0, 1, 0, 1, 1] laws_toRecS_s0_0 (laws_toRecS_L0_0w m n) (loopK CX (callK CX prims m) laws_toRecS_fi laws_toRecS_c n))) := by
  intro n
  have hl : ∀ n, (∀ vs k, loopK CX (callK CX prims m) laws_toRecS_fi laws_toRecS_c n [0, 1, 0, 1, 1] (fPack laws_toRecS_s0_0 vs) k = laws_toRecS_L0_0w m n vs k) → ((loopK CX (callK CX prims m) laws_toRecS_fi laws_toRecS_c n) = (patL [0, 1, 0, 1, 1] laws_toRecS_s0_0 (laws_toRecS_L0_0w m n) (loopK CX (callK CX prims m) laws_toRecS_fi laws_toRecS_c n))) := by
    intro n h0
    rw [← patL_eq h0]
  induction n with
  | zero => exact ⟨fun vs k => rfl, hl 0 (fun vs k => rfl)⟩
  | succ n ihn =>
    have hn := ihn.2
    have h0 : ∀ vs k, loopK CX (callK CX prims m) laws_toRecS_fi laws_toRecS_c (n + 1) [0, 1, 0, 1, 1] (fPack laws_toRecS_s0_0 vs) k = laws_toRecS_L0_0w m (n + 1) vs k := fun vs k =>
      (stepL_congr (laws_toRecS_cf m) hn [0, 1, 0, 1, 1] _ _).trans (by kernel_rfl)
    exact ⟨h0, hl (n + 1) h0⟩
theorem laws_toRecS_eq (m : Nat) : ∀ vs k, callK CX prims m 68 (fArgs laws_toRecS_a vs) k = laws_toRecS_w m vs k := by
  cases m with
  | zero => exact fun vs k => rfl
  | succ m => exact fun vs k => Eq.trans (b := bodyK CX (callK CX prims m) (loopK CX (callK CX prims m) laws_toRecS_fi laws_toRecS_c m) 68 Try.f68 laws_toRecS_c (fArgs laws_toRecS_a vs) k) (by kernel_rfl) ((bodyK_congr (laws_toRecS_cf m) ((laws_toRecS_lf m m).2) 68 Try.f68 laws_toRecS_c (fArgs laws_toRecS_a vs) k).trans (by kernel_rfl))

/-! loop.example/g00244/laws.toPair -/
noncomputable def laws_toPair : Nat → T → T → (T → T → An) → An
  | 0, _, _, _ => .bad
  | m + 1, x0, x1, k0 =>
    k0 x0 x1
noncomputable def laws_toPair_a : List Arg := [.agg [.sc (.str) (.l []), .sc (.str) (.l [])]]
noncomputable def laws_toPair_w (m : Nat) (vs : List T) (k : Ret → An) : An := laws_toPair m (vs.headD dflt) (vs.tail.headD dflt) (fun z0 z1 => k ⟨[.agg [.sc (.str) z0, .sc (.str) z1]], [[none, none]], [none]⟩)
theorem laws_toPair_cf (m : Nat) : callK CX prims m = (callK CX prims m) := by
  rfl
noncomputable def laws_toPair_c : Code := (Try.f84.body).getD .skip
noncomputable def laws_toPair_fi : Fi := ⟨84, 1, 11, 4⟩
theorem laws_toPair_eq (m : Nat) : ∀ vs k, callK CX prims m 84 (fArgs laws_toPair_a vs) k = laws_toPair_w m vs k := by
  cases m with
  | zero => exact fun vs k => rfl
  | succ m => exact fun vs k => Eq.trans (b := bodyK CX (callK CX prims m) (loopK CX (callK CX prims m) laws_toPair_fi laws_toPair_c m) 84 Try.f84 laws_toPair_c (fArgs laws_toPair_a vs) k) (by kernel_rfl) ((bodyK_congr (laws_toPair_cf m) rfl 84 Try.f84 laws_toPair_c (fArgs laws_toPair_a vs) k).trans (by kernel_rfl))

/-! loop.example/g00244/laws.toPairS -/
noncomputable def laws_toPairS_L0_0 (m : Nat) : Nat → T → T → T → (T → An) → An
  | 0, _, _, _, _ => .bad
  | n + 1, x0, x1, x2, k0 =>
    cond (decide (x1.int < (x0.rows.length : Int)))
    (cond (decide ((0 : Int) ≤ x1.int ∧ x1.int < (x0.rows.length : Int)))
    (laws_toPair m ((x0.rows.getD (Int.toNat x1.int) []).getD 0 dflt) ((x0.rows.getD (Int.toNat x1.int) []).getD 1 dflt)
    (fun y0 y1 => cond (decide ((0 : Int) ≤ x1.int ∧ x1.int < (x2.rows.length : Int)))
    (cond (decide ((Int.toNat x1.int) < x2.rows.length))
    (laws_toPairS_L0_0 m n x0 (T.i (IntKind.i64.wrap (x1.int + 1))) (T.l (x2.rows.set (Int.toNat x1.int) (((x2.rows.getD (Int.toNat x1.int) []).set 0 y0).set 1 y1))) k0)
    (.bad))
    (.bad)))
    (.bad))
    (k0 (T.l x2.rows))
noncomputable def laws_toPairS_s0_0 : Pack := ⟨[(0, .one ⟨.sn [([4000000], 0)], .sl [.sc (.str), .sc (.str)], .l []⟩), (3, .one ⟨.al [1000000, 1] 0, .sl [.sc (.str), .sc (.str)], .l []⟩), (4, .one ⟨.sc, .sc (.int .i64), .l []⟩)], [([4000000], .gone), ([1000000, 1], .row [.sc (.str), .sc (.str)] [.F, .F] [])]⟩
noncomputable def laws_toPairS_e0_0 : Pack := ⟨[(3, .one ⟨.al [1000000, 0] 0, .sl [.sc (.str), .sc (.str)], .l []⟩)], [([1000000, 0], .row [.sc (.str), .sc (.str)] [.F, .F] [])]⟩
noncomputable def laws_toPairS_L0_0w (m n : Nat) (vs : List T) (k : Ctl → Pack → An) : An := laws_toPairS_L0_0 m n (vs.headD dflt) (vs.tail.headD dflt) (vs.tail.tail.headD dflt) (fun z0 => k (.exit 0) (fPack laws_toPairS_e0_0 [z0]))
noncomputable def laws_toPairS : Nat → T → (T → An) → An
  | 0, _, _ => .bad
  | m + 1, x0, k0 =>
    cond (decide (0 ≤ (x0.rows.length : Int) ∧ (x0.rows.length : Int) ≤ (x0.rows.length : Int)))
    (cond (decide ((x0.rows.length : Int) * ((32 : Nat) : Int) ≤ (maxCells : Int)))
    (laws_toPairS_L0_0 m m (T.l x0.rows) (T.i 0) (T.l (List.replicate (Int.toNat (x0.rows.length : Int)) [(T.s (⟨#[]⟩ : ByteArray)), (T.s (⟨#[]⟩ : ByteArray))]))
    (fun y2 => k0 (T.l y2.rows)))
    (.bad))
    (.bad)
noncomputable def laws_toPairS_a : List Arg := [.one (.dz [.sc (.str), .sc (.str)] [])]
noncomputable def laws_toPairS_w (m : Nat) (vs : List T) (k : Ret → An) : An := laws_toPairS m (vs.headD dflt) (fun z0 => k ⟨[.one (.own [1000000, 0] [.sc (.str), .sc (.str)] [.F, .F] z0.rows)], [[none]], [none]⟩)
theorem laws_toPairS_cf (m : Nat) : callK CX prims m = (patC 84 laws_toPair_a (laws_toPair_w m) (callK CX prims m)) := by
  rw [← patC_eq (fun vs k => laws_toPair_eq m vs k)]
noncomputable def laws_toPairS_c : Code := (Try.f69.body).getD .skip
noncomputable def laws_toPairS_fi : Fi := ⟨69, 1, 23, 4⟩
theorem laws_toPairS_lf (m : Nat) : ∀ n, (∀ vs k, loopK CX (callK CX prims m) laws_toPairS_fi laws_toPairS_c n [0, 1, 0, 1, 1] (fPack laws_toPairS_s0_0 vs) k = laws_toPairS_L0_0w m n vs k) ∧ ((loopK CX (callK CX prims m) laws_toPairS_fi laws_toPairS_c n) = (patL [0, 1, 0, 1, 1] laws_toPairS_s0_0 (laws_toPairS_L0_0w m n) (loopK CX (callK CX prims m) laws_toPairS_fi laws_toPairS_c n))) := by
  intro n
  have hl : ∀ n, (∀ vs k, loopK CX (callK CX prims m) laws_toPairS_fi laws_toPairS_c n [0, 1, 0, 1, 1] (fPack laws_toPairS_s0_0 vs) k = laws_toPairS_L0_0w m n vs k) → ((loopK CX (callK CX prims m) laws_toPairS_fi laws_toPairS_c n) = (patL [0, 1, 0, 1, 1] laws_toPairS_s0_0 (laws_toPairS_L0_0w m n) (loopK CX (callK CX prims m) laws_toPairS_fi laws_toPairS_c n))) := by
    intro n h0
    rw [← patL_eq h0]
  induction n with
  | zero => exact ⟨fun vs k => rfl, hl 0 (fun vs k => rfl)⟩
  | succ n ihn =>
    have hn := ihn.2
    have h0 : ∀ vs k, loopK CX (callK CX prims m) laws_toPairS_fi laws_toPairS_c (n + 1) [0, 1, 0, 1, 1] (fPack laws_toPairS_s0_0 vs) k = laws_toPairS_L0_0w m (n + 1) vs k := fun vs k =>
      (stepL_congr (laws_toPairS_cf m) hn [0, 1, 0, 1, 1] _ _).trans (by kernel_rfl)
    exact ⟨h0, hl (n + 1) h0⟩
theorem laws_toPairS_eq (m : Nat) : ∀ vs k, callK CX prims m 69 (fArgs laws_toPairS_a vs) k = laws_toPairS_w m vs k := by
  cases m with
  | zero => exact fun vs k => rfl
  | succ m => exact fun vs k => Eq.trans (b := bodyK CX (callK CX prims m) (loopK CX (callK CX prims m) laws_toPairS_fi laws_toPairS_c m) 69 Try.f69 laws_toPairS_c (fArgs laws_toPairS_a vs) k) (by kernel_rfl) ((bodyK_congr (laws_toPairS_cf m) ((laws_toPairS_lf m m).2) 69 Try.f69 laws_toPairS_c (fArgs laws_toPairS_a vs) k).trans (by kernel_rfl))

/-! loop.example/g00244/laws.toShard -/
noncomputable def laws_toShard : Nat → T → T → T → T → T → (T → T → T → T → T → An) → An
  | 0, _, _, _, _, _, _ => .bad
  | m + 1, x0, x1, x2, x3, x4, k0 =>
    laws_toRecS m (T.l x1.rows)
    (fun y0 => laws_toPairS m (T.l x3.rows)
    (fun y1 => laws_toRecS m (T.l x4.rows)
    (fun y2 => k0 x0 (T.l y0.rows) x2 (T.l y1.rows) (T.l y2.rows))))
noncomputable def laws_toShard_a : List Arg := [.agg [.sc (.int .i64) (.l []), .dz [.sc (.int .i64), .sc (.int .i64), .sl [.sc (.int .i64), .sc (.str), .sc (.str)]] [], .sc (.int .i64) (.l []), .dz [.sc (.str), .sc (.str)] [], .dz [.sc (.int .i64), .sc (.int .i64), .sl [.sc (.int .i64), .sc (.str), .sc (.str)]] []]]
noncomputable def laws_toShard_w (m : Nat) (vs : List T) (k : Ret → An) : An := laws_toShard m (vs.headD dflt) (vs.tail.headD dflt) (vs.tail.tail.headD dflt) (vs.tail.tail.tail.headD dflt) (vs.tail.tail.tail.tail.headD dflt) (fun z0 z1 z2 z3 z4 => k ⟨[.agg [.sc (.int .i64) z0, .own [2000009, 0, 0] [.sc (.int .i64), .sc (.int .i64), .sl [.sc (.int .i64), .sc (.str), .sc (.str)]] [.F, .F, .O [.F, .F, .F]] z1.rows, .sc (.int .i64) z2, .own [2000016, 0, 0] [.sc (.str), .sc (.str)] [.F, .F] z3.rows, .own [2000020, 0, 0] [.sc (.int .i64), .sc (.int .i64), .sl [.sc (.int .i64), .sc (.str), .sc (.str)]] [.F, .F, .O [.F, .F, .F]] z4.rows]], [[none, none, none, none, none]], [none]⟩)
theorem laws_toShard_cf (m : Nat) : callK CX prims m = (patC 68 laws_toRecS_a (laws_toRecS_w m) (patC 69 laws_toPairS_a (laws_toPairS_w m) (callK CX prims m))) := by
  rw [← patC_eq (fun vs k => laws_toPairS_eq m vs k), ← patC_eq (fun vs k => laws_toRecS_eq m vs k)]
noncomputable def laws_toShard_c : Code := (Try.f49.body).getD .skip
noncomputable def laws_toShard_fi : Fi := ⟨49, 1, 23, 4⟩
theorem laws_toShard_eq (m : Nat) : ∀ vs k, callK CX prims m 49 (fArgs laws_toShard_a vs) k = laws_toShard_w m vs k := by
  cases m with
  | zero => exact fun vs k => rfl
  | succ m => exact fun vs k => Eq.trans (b := bodyK CX (callK CX prims m) (loopK CX (callK CX prims m) laws_toShard_fi laws_toShard_c m) 49 Try.f49 laws_toShard_c (fArgs laws_toShard_a vs) k) (by kernel_rfl) ((bodyK_congr (laws_toShard_cf m) rfl 49 Try.f49 laws_toShard_c (fArgs laws_toShard_a vs) k).trans (by kernel_rfl))

/-! loop.example/g00244/laws.toShardS -/
noncomputable def laws_toShardS_L0_0 (m : Nat) : Nat → T → T → T → (T → An) → An
  | 0, _, _, _, _ => .bad
  | n + 1, x0, x1, x2, k0 =>
    cond (decide (x1.int < (x0.rows.length : Int)))
    (cond (decide ((0 : Int) ≤ x1.int ∧ x1.int < (x0.rows.length : Int)))
    (laws_toShard m ((x0.rows.getD (Int.toNat x1.int) []).getD 0 dflt) (T.l ((x0.rows.getD (Int.toNat x1.int) []).getD 1 dflt).rows) ((x0.rows.getD (Int.toNat x1.int) []).getD 2 dflt) (T.l ((x0.rows.getD (Int.toNat x1.int) []).getD 3 dflt).rows) (T.l ((x0.rows.getD (Int.toNat x1.int) []).getD 4 dflt).rows)
    (fun y0 y1 y2 y3 y4 => cond (decide ((0 : Int) ≤ x1.int ∧ x1.int < (x2.rows.length : Int)))
    (cond (decide ((Int.toNat x1.int) < x2.rows.length))
    (laws_toShardS_L0_0 m n x0 (T.i (IntKind.i64.wrap (x1.int + 1))) (T.l (x2.rows.set (Int.toNat x1.int) ((((((x2.rows.getD (Int.toNat x1.int) []).set 0 y0).set 1 (T.l y1.rows)).set 2 y2).set 3 (T.l y3.rows)).set 4 (T.l y4.rows)))) k0)
    (.bad))
    (.bad)))
    (.bad))
    (k0 (T.l x2.rows))
noncomputable def laws_toShardS_s0_0 : Pack := ⟨[(0, .one ⟨.sn [([4000000], 0)], .sl [.sc (.int .i64), .sl [.sc (.int .i64), .sc (.int .i64), .sl [.sc (.int .i64), .sc (.str), .sc (.str)]], .sc (.int .i64), .sl [.sc (.str), .sc (.str)], .sl [.sc (.int .i64), .sc (.int .i64), .sl [.sc (.int .i64), .sc (.str), .sc (.str)]]], .l []⟩), (3, .one ⟨.al [1000000, 1] 0, .sl [.sc (.int .i64), .sl [.sc (.int .i64), .sc (.int .i64), .sl [.sc (.int .i64), .sc (.str), .sc (.str)]], .sc (.int .i64), .sl [.sc (.str), .sc (.str)], .sl [.sc (.int .i64), .sc (.int .i64), .sl [.sc (.int .i64), .sc (.str), .sc (.str)]]], .l []⟩), (4, .one ⟨.sc, .sc (.int .i64), .l []⟩)], [([4000000], .gone), ([1000000, 1], .row [.sc (.int .i64), .sl [.sc (.int .i64), .sc (.int .i64), .sl [.sc (.int .i64), .sc (.str), .sc (.str)]], .sc (.int .i64), .sl [.sc (.str), .sc (.str)], .sl [.sc (.int .i64), .sc (.int .i64), .sl [.sc (.int .i64), .sc (.str), .sc (.str)]]] [.F, .O [.F, .F, .O [.F, .F, .F]], .F, .O [.F, .F], .O [.F, .F, .O [.F, .F, .F]]] [])]⟩
noncomputable def laws_toShardS_e0_0 : Pack := ⟨[(3, .one ⟨.al [1000000, 0] 0, .sl [.sc (.int .i64), .sl [.sc (.int .i64), .sc (.int .i64), .sl [.sc (.int .i64), .sc (.str), .sc (.str)]], .sc (.int .i64), .sl [.sc (.str), .sc (.str)], .sl [.sc (.int .i64), .sc (.int .i64), .sl [.sc (.int .i64), .sc (.str), .sc (.str)]]], .l []⟩)], [([1000000, 0], .row [.sc (.int .i64), .sl [.sc (.int .i64), .sc (.int .i64), .sl [.sc (.int .i64), .sc (.str), .sc (.str)]], .sc (.int .i64), .sl [.sc (.str), .sc (.str)], .sl [.sc (.int .i64), .sc (.int .i64), .sl [.sc (.int .i64), .sc (.str), .sc (.str)]]] [.F, .O [.F, .F, .O [.F, .F, .F]], .F, .O [.F, .F], .O [.F, .F, .O [.F, .F, .F]]] [])]⟩
noncomputable def laws_toShardS_L0_0w (m n : Nat) (vs : List T) (k : Ctl → Pack → An) : An := laws_toShardS_L0_0 m n (vs.headD dflt) (vs.tail.headD dflt) (vs.tail.tail.headD dflt) (fun z0 => k (.exit 0) (fPack laws_toShardS_e0_0 [z0]))
noncomputable def laws_toShardS : Nat → T → (T → An) → An
  | 0, _, _ => .bad
  | m + 1, x0, k0 =>
    cond (decide (0 ≤ (x0.rows.length : Int) ∧ (x0.rows.length : Int) ≤ (x0.rows.length : Int)))
    (cond (decide ((x0.rows.length : Int) * ((88 : Nat) : Int) ≤ (maxCells : Int)))
    (laws_toShardS_L0_0 m m (T.l x0.rows) (T.i 0) (T.l (List.replicate (Int.toNat (x0.rows.length : Int)) [(T.i 0), (T.l []), (T.i 0), (T.l []), (T.l [])]))
    (fun y5 => k0 (T.l y5.rows)))
    (.bad))
    (.bad)
noncomputable def laws_toShardS_a : List Arg := [.one (.dz [.sc (.int .i64), .sl [.sc (.int .i64), .sc (.int .i64), .sl [.sc (.int .i64), .sc (.str), .sc (.str)]], .sc (.int .i64), .sl [.sc (.str), .sc (.str)], .sl [.sc (.int .i64), .sc (.int .i64), .sl [.sc (.int .i64), .sc (.str), .sc (.str)]]] [])]
noncomputable def laws_toShardS_w (m : Nat) (vs : List T) (k : Ret → An) : An := laws_toShardS m (vs.headD dflt) (fun z0 => k ⟨[.one (.own [1000000, 0] [.sc (.int .i64), .sl [.sc (.int .i64), .sc (.int .i64), .sl [.sc (.int .i64), .sc (.str), .sc (.str)]], .sc (.int .i64), .sl [.sc (.str), .sc (.str)], .sl [.sc (.int .i64), .sc (.int .i64), .sl [.sc (.int .i64), .sc (.str), .sc (.str)]]] [.F, .O [.F, .F, .O [.F, .F, .F]], .F, .O [.F, .F], .O [.F, .F, .O [.F, .F, .F]]] z0.rows)], [[none]], [none]⟩)
theorem laws_toShardS_cf (m : Nat) : callK CX prims m = (patC 49 laws_toShard_a (laws_toShard_w m) (callK CX prims m)) := by
  rw [← patC_eq (fun vs k => laws_toShard_eq m vs k)]
noncomputable def laws_toShardS_c : Code := (Try.f25.body).getD .skip
noncomputable def laws_toShardS_fi : Fi := ⟨25, 1, 23, 4⟩
theorem laws_toShardS_lf (m : Nat) : ∀ n, (∀ vs k, loopK CX (callK CX prims m) laws_toShardS_fi laws_toShardS_c n [0, 1, 0, 1, 1] (fPack laws_toShardS_s0_0 vs) k = laws_toShardS_L0_0w m n vs k) ∧ ((loopK CX (callK CX prims m) laws_toShardS_fi laws_toShardS_c n) = (patL [0, 1, 0, 1, 1] laws_toShardS_s0_0 (laws_toShardS_L0_0w m n) (loopK CX (callK CX prims m) laws_toShardS_fi laws_toShardS_c n))) := by
  intro n
  have hl : ∀ n, (∀ vs k, loopK CX (callK CX prims m) laws_toShardS_fi laws_toShardS_c n [0, 1, 0, 1, 1] (fPack laws_toShardS_s0_0 vs) k = laws_toShardS_L0_0w m n vs k) → ((loopK CX (callK CX prims m) laws_toShardS_fi laws_toShardS_c n) = (patL [0, 1, 0, 1, 1] laws_toShardS_s0_0 (laws_toShardS_L0_0w m n) (loopK CX (callK CX prims m) laws_toShardS_fi laws_toShardS_c n))) := by
    intro n h0
    rw [← patL_eq h0]
  induction n with
  | zero => exact ⟨fun vs k => rfl, hl 0 (fun vs k => rfl)⟩
  | succ n ihn =>
    have hn := ihn.2
    have h0 : ∀ vs k, loopK CX (callK CX prims m) laws_toShardS_fi laws_toShardS_c (n + 1) [0, 1, 0, 1, 1] (fPack laws_toShardS_s0_0 vs) k = laws_toShardS_L0_0w m (n + 1) vs k := fun vs k =>
      (stepL_congr (laws_toShardS_cf m) hn [0, 1, 0, 1, 1] _ _).trans (by kernel_rfl)
    exact ⟨h0, hl (n + 1) h0⟩
theorem laws_toShardS_eq (m : Nat) : ∀ vs k, callK CX prims m 25 (fArgs laws_toShardS_a vs) k = laws_toShardS_w m vs k := by
  cases m with
  | zero => exact fun vs k => rfl
  | succ m => exact fun vs k => Eq.trans (b := bodyK CX (callK CX prims m) (loopK CX (callK CX prims m) laws_toShardS_fi laws_toShardS_c m) 25 Try.f25 laws_toShardS_c (fArgs laws_toShardS_a vs) k) (by kernel_rfl) ((bodyK_congr (laws_toShardS_cf m) ((laws_toShardS_lf m m).2) 25 Try.f25 laws_toShardS_c (fArgs laws_toShardS_a vs) k).trans (by kernel_rfl))

/-! loop.example/g00244/laws.toWord -/
noncomputable def laws_toWord : Nat → T → T → T → T → T → (T → T → T → T → T → An) → An
  | 0, _, _, _, _, _, _ => .bad
  | m + 1, x0, x1, x2, x3, x4, k0 =>
    laws_toOpS m (T.l x3.rows)
    (fun y0 => k0 x0 x1 x2 (T.l y0.rows) x4)
noncomputable def laws_toWord_a : List Arg := [.agg [.sc (.int .i64) (.l []), .sc (.int .i64) (.l []), .sc (.int .i64) (.l []), .dz [.sc (.int .i64), .sc (.str), .sc (.str)] [], .sc (.bool) (.l [])]]
noncomputable def laws_toWord_w (m : Nat) (vs : List T) (k : Ret → An) : An := laws_toWord m (vs.headD dflt) (vs.tail.headD dflt) (vs.tail.tail.headD dflt) (vs.tail.tail.tail.headD dflt) (vs.tail.tail.tail.tail.headD dflt) (fun z0 z1 z2 z3 z4 => k ⟨[.agg [.sc (.int .i64) z0, .sc (.int .i64) z1, .sc (.int .i64) z2, .own [2000015, 0, 0] [.sc (.int .i64), .sc (.str), .sc (.str)] [.F, .F, .F] z3.rows, .sc (.bool) z4]], [[none, none, none, none, none]], [none]⟩)
theorem laws_toWord_cf (m : Nat) : callK CX prims m = (patC 70 laws_toOpS_a (laws_toOpS_w m) (callK CX prims m)) := by
  rw [← patC_eq (fun vs k => laws_toOpS_eq m vs k)]
noncomputable def laws_toWord_c : Code := (Try.f50.body).getD .skip
noncomputable def laws_toWord_fi : Fi := ⟨50, 1, 21, 4⟩
theorem laws_toWord_eq (m : Nat) : ∀ vs k, callK CX prims m 50 (fArgs laws_toWord_a vs) k = laws_toWord_w m vs k := by
  cases m with
  | zero => exact fun vs k => rfl
  | succ m => exact fun vs k => Eq.trans (b := bodyK CX (callK CX prims m) (loopK CX (callK CX prims m) laws_toWord_fi laws_toWord_c m) 50 Try.f50 laws_toWord_c (fArgs laws_toWord_a vs) k) (by kernel_rfl) ((bodyK_congr (laws_toWord_cf m) rfl 50 Try.f50 laws_toWord_c (fArgs laws_toWord_a vs) k).trans (by kernel_rfl))

/-! loop.example/g00244/laws.toWordS -/
noncomputable def laws_toWordS_L0_0 (m : Nat) : Nat → T → T → T → (T → An) → An
  | 0, _, _, _, _ => .bad
  | n + 1, x0, x1, x2, k0 =>
    cond (decide (x1.int < (x0.rows.length : Int)))
    (cond (decide ((0 : Int) ≤ x1.int ∧ x1.int < (x0.rows.length : Int)))
    (laws_toWord m ((x0.rows.getD (Int.toNat x1.int) []).getD 0 dflt) ((x0.rows.getD (Int.toNat x1.int) []).getD 1 dflt) ((x0.rows.getD (Int.toNat x1.int) []).getD 2 dflt) (T.l ((x0.rows.getD (Int.toNat x1.int) []).getD 3 dflt).rows) ((x0.rows.getD (Int.toNat x1.int) []).getD 4 dflt)
    (fun y0 y1 y2 y3 y4 => cond (decide ((0 : Int) ≤ x1.int ∧ x1.int < (x2.rows.length : Int)))
    (cond (decide ((Int.toNat x1.int) < x2.rows.length))
    (laws_toWordS_L0_0 m n x0 (T.i (IntKind.i64.wrap (x1.int + 1))) (T.l (x2.rows.set (Int.toNat x1.int) ((((((x2.rows.getD (Int.toNat x1.int) []).set 0 y0).set 1 y1).set 2 y2).set 3 (T.l y3.rows)).set 4 y4))) k0)
    (.bad))
    (.bad)))
    (.bad))
    (k0 (T.l x2.rows))
noncomputable def laws_toWordS_s0_0 : Pack := ⟨[(0, .one ⟨.sn [([4000000], 0)], .sl [.sc (.int .i64), .sc (.int .i64), .sc (.int .i64), .sl [.sc (.int .i64), .sc (.str), .sc (.str)], .sc (.bool)], .l []⟩), (3, .one ⟨.al [1000000, 1] 0, .sl [.sc (.int .i64), .sc (.int .i64), .sc (.int .i64), .sl [.sc (.int .i64), .sc (.str), .sc (.str)], .sc (.bool)], .l []⟩), (4, .one ⟨.sc, .sc (.int .i64), .l []⟩)], [([4000000], .gone), ([1000000, 1], .row [.sc (.int .i64), .sc (.int .i64), .sc (.int .i64), .sl [.sc (.int .i64), .sc (.str), .sc (.str)], .sc (.bool)] [.F, .F, .F, .O [.F, .F, .F], .F] [])]⟩
noncomputable def laws_toWordS_e0_0 : Pack := ⟨[(3, .one ⟨.al [1000000, 0] 0, .sl [.sc (.int .i64), .sc (.int .i64), .sc (.int .i64), .sl [.sc (.int .i64), .sc (.str), .sc (.str)], .sc (.bool)], .l []⟩)], [([1000000, 0], .row [.sc (.int .i64), .sc (.int .i64), .sc (.int .i64), .sl [.sc (.int .i64), .sc (.str), .sc (.str)], .sc (.bool)] [.F, .F, .F, .O [.F, .F, .F], .F] [])]⟩
noncomputable def laws_toWordS_L0_0w (m n : Nat) (vs : List T) (k : Ctl → Pack → An) : An := laws_toWordS_L0_0 m n (vs.headD dflt) (vs.tail.headD dflt) (vs.tail.tail.headD dflt) (fun z0 => k (.exit 0) (fPack laws_toWordS_e0_0 [z0]))
noncomputable def laws_toWordS : Nat → T → (T → An) → An
  | 0, _, _ => .bad
  | m + 1, x0, k0 =>
    cond (decide (0 ≤ (x0.rows.length : Int) ∧ (x0.rows.length : Int) ≤ (x0.rows.length : Int)))
    (cond (decide ((x0.rows.length : Int) * ((56 : Nat) : Int) ≤ (maxCells : Int)))
    (laws_toWordS_L0_0 m m (T.l x0.rows) (T.i 0) (T.l (List.replicate (Int.toNat (x0.rows.length : Int)) [(T.i 0), (T.i 0), (T.i 0), (T.l []), (T.b false)]))
    (fun y5 => k0 (T.l y5.rows)))
    (.bad))
    (.bad)
noncomputable def laws_toWordS_a : List Arg := [.one (.dz [.sc (.int .i64), .sc (.int .i64), .sc (.int .i64), .sl [.sc (.int .i64), .sc (.str), .sc (.str)], .sc (.bool)] [])]
noncomputable def laws_toWordS_w (m : Nat) (vs : List T) (k : Ret → An) : An := laws_toWordS m (vs.headD dflt) (fun z0 => k ⟨[.one (.own [1000000, 0] [.sc (.int .i64), .sc (.int .i64), .sc (.int .i64), .sl [.sc (.int .i64), .sc (.str), .sc (.str)], .sc (.bool)] [.F, .F, .F, .O [.F, .F, .F], .F] z0.rows)], [[none]], [none]⟩)
theorem laws_toWordS_cf (m : Nat) : callK CX prims m = (patC 50 laws_toWord_a (laws_toWord_w m) (callK CX prims m)) := by
  rw [← patC_eq (fun vs k => laws_toWord_eq m vs k)]
noncomputable def laws_toWordS_c : Code := (Try.f26.body).getD .skip
noncomputable def laws_toWordS_fi : Fi := ⟨26, 1, 23, 4⟩
theorem laws_toWordS_lf (m : Nat) : ∀ n, (∀ vs k, loopK CX (callK CX prims m) laws_toWordS_fi laws_toWordS_c n [0, 1, 0, 1, 1] (fPack laws_toWordS_s0_0 vs) k = laws_toWordS_L0_0w m n vs k) ∧ ((loopK CX (callK CX prims m) laws_toWordS_fi laws_toWordS_c n) = (patL [0, 1, 0, 1, 1] laws_toWordS_s0_0 (laws_toWordS_L0_0w m n) (loopK CX (callK CX prims m) laws_toWordS_fi laws_toWordS_c n))) := by
  intro n
  have hl : ∀ n, (∀ vs k, loopK CX (callK CX prims m) laws_toWordS_fi laws_toWordS_c n [0, 1, 0, 1, 1] (fPack laws_toWordS_s0_0 vs) k = laws_toWordS_L0_0w m n vs k) → ((loopK CX (callK CX prims m) laws_toWordS_fi laws_toWordS_c n) = (patL [0, 1, 0, 1, 1] laws_toWordS_s0_0 (laws_toWordS_L0_0w m n) (loopK CX (callK CX prims m) laws_toWordS_fi laws_toWordS_c n))) := by
    intro n h0
    rw [← patL_eq h0]
  induction n with
  | zero => exact ⟨fun vs k => rfl, hl 0 (fun vs k => rfl)⟩
  | succ n ihn =>
    have hn := ihn.2
    have h0 : ∀ vs k, loopK CX (callK CX prims m) laws_toWordS_fi laws_toWordS_c (n + 1) [0, 1, 0, 1, 1] (fPack laws_toWordS_s0_0 vs) k = laws_toWordS_L0_0w m (n + 1) vs k := fun vs k =>
      (stepL_congr (laws_toWordS_cf m) hn [0, 1, 0, 1, 1] _ _).trans (by kernel_rfl)
    exact ⟨h0, hl (n + 1) h0⟩
theorem laws_toWordS_eq (m : Nat) : ∀ vs k, callK CX prims m 26 (fArgs laws_toWordS_a vs) k = laws_toWordS_w m vs k := by
  cases m with
  | zero => exact fun vs k => rfl
  | succ m => exact fun vs k => Eq.trans (b := bodyK CX (callK CX prims m) (loopK CX (callK CX prims m) laws_toWordS_fi laws_toWordS_c m) 26 Try.f26 laws_toWordS_c (fArgs laws_toWordS_a vs) k) (by kernel_rfl) ((bodyK_congr (laws_toWordS_cf m) ((laws_toWordS_lf m m).2) 26 Try.f26 laws_toWordS_c (fArgs laws_toWordS_a vs) k).trans (by kernel_rfl))

/-! loop.example/g00244/laws.toOrder -/
noncomputable def laws_toOrder : Nat → T → T → (T → T → An) → An
  | 0, _, _, _ => .bad
  | m + 1, x0, x1, k0 =>
    laws_toOpS m (T.l x1.rows)
    (fun y0 => k0 x0 (T.l y0.rows))
noncomputable def laws_toOrder_a : List Arg := [.agg [.sc (.int .i64) (.l []), .dz [.sc (.int .i64), .sc (.str), .sc (.str)] []]]
noncomputable def laws_toOrder_w (m : Nat) (vs : List T) (k : Ret → An) : An := laws_toOrder m (vs.headD dflt) (vs.tail.headD dflt) (fun z0 z1 => k ⟨[.agg [.sc (.int .i64) z0, .own [2000009, 0, 0] [.sc (.int .i64), .sc (.str), .sc (.str)] [.F, .F, .F] z1.rows]], [[none, none]], [none]⟩)
theorem laws_toOrder_cf (m : Nat) : callK CX prims m = (patC 70 laws_toOpS_a (laws_toOpS_w m) (callK CX prims m)) := by
  rw [← patC_eq (fun vs k => laws_toOpS_eq m vs k)]
noncomputable def laws_toOrder_c : Code := (Try.f51.body).getD .skip
noncomputable def laws_toOrder_fi : Fi := ⟨51, 1, 12, 4⟩
theorem laws_toOrder_eq (m : Nat) : ∀ vs k, callK CX prims m 51 (fArgs laws_toOrder_a vs) k = laws_toOrder_w m vs k := by
  cases m with
  | zero => exact fun vs k => rfl
  | succ m => exact fun vs k => Eq.trans (b := bodyK CX (callK CX prims m) (loopK CX (callK CX prims m) laws_toOrder_fi laws_toOrder_c m) 51 Try.f51 laws_toOrder_c (fArgs laws_toOrder_a vs) k) (by kernel_rfl) ((bodyK_congr (laws_toOrder_cf m) rfl 51 Try.f51 laws_toOrder_c (fArgs laws_toOrder_a vs) k).trans (by kernel_rfl))

/-! loop.example/g00244/laws.toOrderS -/
noncomputable def laws_toOrderS_L0_0 (m : Nat) : Nat → T → T → T → (T → An) → An
  | 0, _, _, _, _ => .bad
  | n + 1, x0, x1, x2, k0 =>
    cond (decide (x1.int < (x0.rows.length : Int)))
    (cond (decide ((0 : Int) ≤ x1.int ∧ x1.int < (x0.rows.length : Int)))
    (laws_toOrder m ((x0.rows.getD (Int.toNat x1.int) []).getD 0 dflt) (T.l ((x0.rows.getD (Int.toNat x1.int) []).getD 1 dflt).rows)
    (fun y0 y1 => cond (decide ((0 : Int) ≤ x1.int ∧ x1.int < (x2.rows.length : Int)))
    (cond (decide ((Int.toNat x1.int) < x2.rows.length))
    (laws_toOrderS_L0_0 m n x0 (T.i (IntKind.i64.wrap (x1.int + 1))) (T.l (x2.rows.set (Int.toNat x1.int) (((x2.rows.getD (Int.toNat x1.int) []).set 0 y0).set 1 (T.l y1.rows)))) k0)
    (.bad))
    (.bad)))
    (.bad))
    (k0 (T.l x2.rows))
noncomputable def laws_toOrderS_s0_0 : Pack := ⟨[(0, .one ⟨.sn [([4000000], 0)], .sl [.sc (.int .i64), .sl [.sc (.int .i64), .sc (.str), .sc (.str)]], .l []⟩), (3, .one ⟨.al [1000000, 1] 0, .sl [.sc (.int .i64), .sl [.sc (.int .i64), .sc (.str), .sc (.str)]], .l []⟩), (4, .one ⟨.sc, .sc (.int .i64), .l []⟩)], [([4000000], .gone), ([1000000, 1], .row [.sc (.int .i64), .sl [.sc (.int .i64), .sc (.str), .sc (.str)]] [.F, .O [.F, .F, .F]] [])]⟩
noncomputable def laws_toOrderS_e0_0 : Pack := ⟨[(3, .one ⟨.al [1000000, 0] 0, .sl [.sc (.int .i64), .sl [.sc (.int .i64), .sc (.str), .sc (.str)]], .l []⟩)], [([1000000, 0], .row [.sc (.int .i64), .sl [.sc (.int .i64), .sc (.str), .sc (.str)]] [.F, .O [.F, .F, .F]] [])]⟩
noncomputable def laws_toOrderS_L0_0w (m n : Nat) (vs : List T) (k : Ctl → Pack → An) : An := laws_toOrderS_L0_0 m n (vs.headD dflt) (vs.tail.headD dflt) (vs.tail.tail.headD dflt) (fun z0 => k (.exit 0) (fPack laws_toOrderS_e0_0 [z0]))
noncomputable def laws_toOrderS : Nat → T → (T → An) → An
  | 0, _, _ => .bad
  | m + 1, x0, k0 =>
    cond (decide (0 ≤ (x0.rows.length : Int) ∧ (x0.rows.length : Int) ≤ (x0.rows.length : Int)))
    (cond (decide ((x0.rows.length : Int) * ((32 : Nat) : Int) ≤ (maxCells : Int)))
    (laws_toOrderS_L0_0 m m (T.l x0.rows) (T.i 0) (T.l (List.replicate (Int.toNat (x0.rows.length : Int)) [(T.i 0), (T.l [])]))
    (fun y2 => k0 (T.l y2.rows)))
    (.bad))
    (.bad)
noncomputable def laws_toOrderS_a : List Arg := [.one (.dz [.sc (.int .i64), .sl [.sc (.int .i64), .sc (.str), .sc (.str)]] [])]
noncomputable def laws_toOrderS_w (m : Nat) (vs : List T) (k : Ret → An) : An := laws_toOrderS m (vs.headD dflt) (fun z0 => k ⟨[.one (.own [1000000, 0] [.sc (.int .i64), .sl [.sc (.int .i64), .sc (.str), .sc (.str)]] [.F, .O [.F, .F, .F]] z0.rows)], [[none]], [none]⟩)
theorem laws_toOrderS_cf (m : Nat) : callK CX prims m = (patC 51 laws_toOrder_a (laws_toOrder_w m) (callK CX prims m)) := by
  rw [← patC_eq (fun vs k => laws_toOrder_eq m vs k)]
noncomputable def laws_toOrderS_c : Code := (Try.f27.body).getD .skip
noncomputable def laws_toOrderS_fi : Fi := ⟨27, 1, 23, 4⟩
theorem laws_toOrderS_lf (m : Nat) : ∀ n, (∀ vs k, loopK CX (callK CX prims m) laws_toOrderS_fi laws_toOrderS_c n [0, 1, 0, 1, 1] (fPack laws_toOrderS_s0_0 vs) k = laws_toOrderS_L0_0w m n vs k) ∧ ((loopK CX (callK CX prims m) laws_toOrderS_fi laws_toOrderS_c n) = (patL [0, 1, 0, 1, 1] laws_toOrderS_s0_0 (laws_toOrderS_L0_0w m n) (loopK CX (callK CX prims m) laws_toOrderS_fi laws_toOrderS_c n))) := by
  intro n
  have hl : ∀ n, (∀ vs k, loopK CX (callK CX prims m) laws_toOrderS_fi laws_toOrderS_c n [0, 1, 0, 1, 1] (fPack laws_toOrderS_s0_0 vs) k = laws_toOrderS_L0_0w m n vs k) → ((loopK CX (callK CX prims m) laws_toOrderS_fi laws_toOrderS_c n) = (patL [0, 1, 0, 1, 1] laws_toOrderS_s0_0 (laws_toOrderS_L0_0w m n) (loopK CX (callK CX prims m) laws_toOrderS_fi laws_toOrderS_c n))) := by
    intro n h0
    rw [← patL_eq h0]
  induction n with
  | zero => exact ⟨fun vs k => rfl, hl 0 (fun vs k => rfl)⟩
  | succ n ihn =>
    have hn := ihn.2
    have h0 : ∀ vs k, loopK CX (callK CX prims m) laws_toOrderS_fi laws_toOrderS_c (n + 1) [0, 1, 0, 1, 1] (fPack laws_toOrderS_s0_0 vs) k = laws_toOrderS_L0_0w m (n + 1) vs k := fun vs k =>
      (stepL_congr (laws_toOrderS_cf m) hn [0, 1, 0, 1, 1] _ _).trans (by kernel_rfl)
    exact ⟨h0, hl (n + 1) h0⟩
theorem laws_toOrderS_eq (m : Nat) : ∀ vs k, callK CX prims m 27 (fArgs laws_toOrderS_a vs) k = laws_toOrderS_w m vs k := by
  cases m with
  | zero => exact fun vs k => rfl
  | succ m => exact fun vs k => Eq.trans (b := bodyK CX (callK CX prims m) (loopK CX (callK CX prims m) laws_toOrderS_fi laws_toOrderS_c m) 27 Try.f27 laws_toOrderS_c (fArgs laws_toOrderS_a vs) k) (by kernel_rfl) ((bodyK_congr (laws_toOrderS_cf m) ((laws_toOrderS_lf m m).2) 27 Try.f27 laws_toOrderS_c (fArgs laws_toOrderS_a vs) k).trans (by kernel_rfl))

/-! loop.example/g00244/laws.toWorld -/
noncomputable def laws_toWorld : Nat → T → T → T → T → T → T → T → T → T → T → (T → T → T → T → T → T → T → T → T → T → An) → An
  | 0, _, _, _, _, _, _, _, _, _, _, _ => .bad
  | m + 1, x0, x1, x2, x3, x4, x5, x6, x7, x8, x9, k0 =>
    laws_toCoord m x0 x1 x2 (T.l x3.rows) (T.l x4.rows) x5
    (fun y0 y1 y2 y3 y4 y5 => laws_toShardS m (T.l x6.rows)
    (fun y6 => laws_toWordS m (T.l x7.rows)
    (fun y7 => laws_toWordS m (T.l x8.rows)
    (fun y8 => laws_toOrderS m (T.l x9.rows)
    (fun y9 => k0 y0 y1 y2 (T.l y3.rows) (T.l y4.rows) y5 (T.l y6.rows) (T.l y7.rows) (T.l y8.rows) (T.l y9.rows))))))
noncomputable def laws_toWorld_a : List Arg := [.agg [.sc (.int .i64) (.l []), .sc (.int .i64) (.l []), .sc (.int .i64) (.l []), .dz [.sc (.int .i64), .sl [.sc (.int .i64), .sc (.str), .sc (.str)], .sc (.int .i64), .sl [.sc (.int .i64)]] [], .dz [.sc (.int .i64), .sc (.bool)] [], .sc (.int .i64) (.l []), .dz [.sc (.int .i64), .sl [.sc (.int .i64), .sc (.int .i64), .sl [.sc (.int .i64), .sc (.str), .sc (.str)]], .sc (.int .i64), .sl [.sc (.str), .sc (.str)], .sl [.sc (.int .i64), .sc (.int .i64), .sl [.sc (.int .i64), .sc (.str), .sc (.str)]]] [], .dz [.sc (.int .i64), .sc (.int .i64), .sc (.int .i64), .sl [.sc (.int .i64), .sc (.str), .sc (.str)], .sc (.bool)] [], .dz [.sc (.int .i64), .sc (.int .i64), .sc (.int .i64), .sl [.sc (.int .i64), .sc (.str), .sc (.str)], .sc (.bool)] [], .dz [.sc (.int .i64), .sl [.sc (.int .i64), .sc (.str), .sc (.str)]] []]]
noncomputable def laws_toWorld_w (m : Nat) (vs : List T) (k : Ret → An) : An := laws_toWorld m (vs.headD dflt) (vs.tail.headD dflt) (vs.tail.tail.headD dflt) (vs.tail.tail.tail.headD dflt) (vs.tail.tail.tail.tail.headD dflt) (vs.tail.tail.tail.tail.tail.headD dflt) (vs.tail.tail.tail.tail.tail.tail.headD dflt) (vs.tail.tail.tail.tail.tail.tail.tail.headD dflt) (vs.tail.tail.tail.tail.tail.tail.tail.tail.headD dflt) (vs.tail.tail.tail.tail.tail.tail.tail.tail.tail.headD dflt) (fun z0 z1 z2 z3 z4 z5 z6 z7 z8 z9 => k ⟨[.agg [.sc (.int .i64) z0, .sc (.int .i64) z1, .sc (.int .i64) z2, .own [2000006, 0, 3] [.sc (.int .i64), .sl [.sc (.int .i64), .sc (.str), .sc (.str)], .sc (.int .i64), .sl [.sc (.int .i64)]] [.F, .O [.F, .F, .F], .F, .O [.F]] z3.rows, .own [2000006, 0, 4] [.sc (.int .i64), .sc (.bool)] [.F, .F] z4.rows, .sc (.int .i64) z5, .own [2000010, 0, 0] [.sc (.int .i64), .sl [.sc (.int .i64), .sc (.int .i64), .sl [.sc (.int .i64), .sc (.str), .sc (.str)]], .sc (.int .i64), .sl [.sc (.str), .sc (.str)], .sl [.sc (.int .i64), .sc (.int .i64), .sl [.sc (.int .i64), .sc (.str), .sc (.str)]]] [.F, .O [.F, .F, .O [.F, .F, .F]], .F, .O [.F, .F], .O [.F, .F, .O [.F, .F, .F]]] z6.rows, .own [2000014, 0, 0] [.sc (.int .i64), .sc (.int .i64), .sc (.int .i64), .sl [.sc (.int .i64), .sc (.str), .sc (.str)], .sc (.bool)] [.F, .F, .F, .O [.F, .F, .F], .F] z7.rows, .own [2000018, 0, 0] [.sc (.int .i64), .sc (.int .i64), .sc (.int .i64), .sl [.sc (.int .i64), .sc (.str), .sc (.str)], .sc (.bool)] [.F, .F, .F, .O [.F, .F, .F], .F] z8.rows, .own [2000022, 0, 0] [.sc (.int .i64), .sl [.sc (.int .i64), .sc (.str), .sc (.str)]] [.F, .O [.F, .F, .F]] z9.rows]], [[none, none, none, none, none, none, none, none, none, none]], [none]⟩)
theorem laws_toWorld_cf (m : Nat) : callK CX prims m = (patC 24 laws_toCoord_a (laws_toCoord_w m) (patC 25 laws_toShardS_a (laws_toShardS_w m) (patC 26 laws_toWordS_a (laws_toWordS_w m) (patC 27 laws_toOrderS_a (laws_toOrderS_w m) (callK CX prims m))))) := by
  rw [← patC_eq (fun vs k => laws_toOrderS_eq m vs k), ← patC_eq (fun vs k => laws_toWordS_eq m vs k), ← patC_eq (fun vs k => laws_toShardS_eq m vs k), ← patC_eq (fun vs k => laws_toCoord_eq m vs k)]
noncomputable def laws_toWorld_c : Code := (Try.f7.body).getD .skip
noncomputable def laws_toWorld_fi : Fi := ⟨7, 1, 25, 4⟩
theorem laws_toWorld_eq (m : Nat) : ∀ vs k, callK CX prims m 7 (fArgs laws_toWorld_a vs) k = laws_toWorld_w m vs k := by
  cases m with
  | zero => exact fun vs k => rfl
  | succ m => exact fun vs k => Eq.trans (b := bodyK CX (callK CX prims m) (loopK CX (callK CX prims m) laws_toWorld_fi laws_toWorld_c m) 7 Try.f7 laws_toWorld_c (fArgs laws_toWorld_a vs) k) (by kernel_rfl) ((bodyK_congr (laws_toWorld_cf m) rfl 7 Try.f7 laws_toWorld_c (fArgs laws_toWorld_a vs) k).trans (by kernel_rfl))

/-! loop.example/g00244/spec.TablesOf -/
noncomputable def spec_TablesOf_L0_0 (m : Nat) : Nat → T → T → T → T → T → T → T → T → T → T → T → T → T → (T → An) → An
  | 0, _, _, _, _, _, _, _, _, _, _, _, _, _, _ => .bad
  | n + 1, x0, x1, x2, x3, x4, x5, x6, x7, x8, x9, x10, x11, x12, k0 =>
    cond (decide (x1.int < (x8.rows.length : Int)))
    (cond (decide ((0 : Int) ≤ x1.int ∧ x1.int < (x8.rows.length : Int)))
    (cond (decide ((0 + (((x8.rows.getD (Int.toNat x1.int) []).drop 3).getD 0 dflt).rows.length) * 2 ≤ maxRow))
    (cond (decide ((x12.rows.length + 1) * 1 ≤ maxRow))
    (spec_TablesOf_L0_0 m n (T.i (x0.int.toNat : Int)) (T.i (IntKind.i64.wrap (x1.int + 1))) x2 x3 x4 x5 x6 x7 x8 x9 x10 x11 (T.l (x12.rows ++ [[(T.l (((x8.rows.getD (Int.toNat x1.int) []).drop 3).getD 0 dflt).rows)]])) k0)
    (.bad))
    (.bad))
    (.bad))
    (k0 (T.l x12.rows))
noncomputable def spec_TablesOf_s0_0 : Pack := ⟨[(1, .ptr [1000000, 0] 0 0 0), (3, .one ⟨.al [1000000, 1] 0, .sl [.sl [.sc (.str), .sc (.str)]], .l []⟩), (4, .one ⟨.sc, .sc (.int .i64), .l []⟩)], [([1000000, 0], .box [⟨.sc, .sc (.int .i64), .l []⟩, ⟨.sc, .sc (.int .i64), .l []⟩, ⟨.sc, .sc (.int .i64), .l []⟩, ⟨.sn [([4000000], 0)], .sl [.sc (.int .i64), .sl [.sc (.int .i64), .sc (.str), .sc (.str)], .sc (.int .i64), .sl [.sc (.int .i64)]], .l []⟩, ⟨.sn [([4000000], 0)], .sl [.sc (.int .i64), .sc (.bool)], .l []⟩, ⟨.sc, .sc (.int .i64), .l []⟩, ⟨.sn [([4000000], 0)], .sl [.sc (.int .i64), .sl [.sc (.int .i64), .sc (.int .i64), .sl [.sc (.int .i64), .sc (.str), .sc (.str)]], .sc (.int .i64), .sl [.sc (.str), .sc (.str)], .sl [.sc (.int .i64), .sc (.int .i64), .sl [.sc (.int .i64), .sc (.str), .sc (.str)]]], .l []⟩, ⟨.sn [([4000000], 0)], .sl [.sc (.int .i64), .sc (.int .i64), .sc (.int .i64), .sl [.sc (.int .i64), .sc (.str), .sc (.str)], .sc (.bool)], .l []⟩, ⟨.sn [([4000000], 0)], .sl [.sc (.int .i64), .sc (.int .i64), .sc (.int .i64), .sl [.sc (.int .i64), .sc (.str), .sc (.str)], .sc (.bool)], .l []⟩, ⟨.sn [([4000000], 0)], .sl [.sc (.int .i64), .sl [.sc (.int .i64), .sc (.str), .sc (.str)]], .l []⟩]), ([1000000, 1], .row [.sl [.sc (.str), .sc (.str)]] [.F] []), ([4000000], .gone)]⟩
noncomputable def spec_TablesOf_e0_0 : Pack := ⟨[(3, .one ⟨.al [1000000, 0] 0, .sl [.sl [.sc (.str), .sc (.str)]], .l []⟩)], [([1000000, 0], .row [.sl [.sc (.str), .sc (.str)]] [.F] [])]⟩
noncomputable def spec_TablesOf_L0_0w (m n : Nat) (vs : List T) (k : Ctl → Pack → An) : An := spec_TablesOf_L0_0 m n (vs.headD dflt) (vs.tail.headD dflt) (vs.tail.tail.headD dflt) (vs.tail.tail.tail.headD dflt) (vs.tail.tail.tail.tail.headD dflt) (vs.tail.tail.tail.tail.tail.headD dflt) (vs.tail.tail.tail.tail.tail.tail.headD dflt) (vs.tail.tail.tail.tail.tail.tail.tail.headD dflt) (vs.tail.tail.tail.tail.tail.tail.tail.tail.headD dflt) (vs.tail.tail.tail.tail.tail.tail.tail.tail.tail.headD dflt) (vs.tail.tail.tail.tail.tail.tail.tail.tail.tail.tail.headD dflt) (vs.tail.tail.tail.tail.tail.tail.tail.tail.tail.tail.tail.headD dflt) (vs.tail.tail.tail.tail.tail.tail.tail.tail.tail.tail.tail.tail.headD dflt) (fun z0 => k (.exit 0) (fPack spec_TablesOf_e0_0 [z0]))
noncomputable def spec_TablesOf : Nat → T → T → T → T → T → T → T → T → T → T → (T → An) → An
  | 0, _, _, _, _, _, _, _, _, _, _, _ => .bad
  | m + 1, x0, x1, x2, x3, x4, x5, x6, x7, x8, x9, k0 =>
    spec_TablesOf_L0_0 m m (T.i 0) (T.i 0) x0 x1 x2 (T.l x3.rows) (T.l x4.rows) x5 (T.l x6.rows) (T.l x7.rows) (T.l x8.rows) (T.l x9.rows) (T.l [])
    (fun y0 => k0 (T.l y0.rows))
noncomputable def spec_TablesOf_a : List Arg := [.agg [.sc (.int .i64) (.l []), .sc (.int .i64) (.l []), .sc (.int .i64) (.l []), .dz [.sc (.int .i64), .sl [.sc (.int .i64), .sc (.str), .sc (.str)], .sc (.int .i64), .sl [.sc (.int .i64)]] [], .dz [.sc (.int .i64), .sc (.bool)] [], .sc (.int .i64) (.l []), .dz [.sc (.int .i64), .sl [.sc (.int .i64), .sc (.int .i64), .sl [.sc (.int .i64), .sc (.str), .sc (.str)]], .sc (.int .i64), .sl [.sc (.str), .sc (.str)], .sl [.sc (.int .i64), .sc (.int .i64), .sl [.sc (.int .i64), .sc (.str), .sc (.str)]]] [], .dz [.sc (.int .i64), .sc (.int .i64), .sc (.int .i64), .sl [.sc (.int .i64), .sc (.str), .sc (.str)], .sc (.bool)] [], .dz [.sc (.int .i64), .sc (.int .i64), .sc (.int .i64), .sl [.sc (.int .i64), .sc (.str), .sc (.str)], .sc (.bool)] [], .dz [.sc (.int .i64), .sl [.sc (.int .i64), .sc (.str), .sc (.str)]] []]]
noncomputable def spec_TablesOf_w (m : Nat) (vs : List T) (k : Ret → An) : An := spec_TablesOf m (vs.headD dflt) (vs.tail.headD dflt) (vs.tail.tail.headD dflt) (vs.tail.tail.tail.headD dflt) (vs.tail.tail.tail.tail.headD dflt) (vs.tail.tail.tail.tail.tail.headD dflt) (vs.tail.tail.tail.tail.tail.tail.headD dflt) (vs.tail.tail.tail.tail.tail.tail.tail.headD dflt) (vs.tail.tail.tail.tail.tail.tail.tail.tail.headD dflt) (vs.tail.tail.tail.tail.tail.tail.tail.tail.tail.headD dflt) (fun z0 => k ⟨[.one (.own [1000000, 0] [.sl [.sc (.str), .sc (.str)]] [.F] z0.rows)], [[none, none, none, none, none, none, none, none, none, none]], [none]⟩)
theorem spec_TablesOf_cf (m : Nat) : callK CX prims m = (callK CX prims m) := by
  rfl
noncomputable def spec_TablesOf_c : Code := (Try.f14.body).getD .skip
noncomputable def spec_TablesOf_fi : Fi := ⟨14, 1, 26, 4⟩
theorem spec_TablesOf_lf (m : Nat) : ∀ n, (∀ vs k, loopK CX (callK CX prims m) spec_TablesOf_fi spec_TablesOf_c n [0, 1, 0, 1, 1] (fPack spec_TablesOf_s0_0 vs) k = spec_TablesOf_L0_0w m n vs k) ∧ ((loopK CX (callK CX prims m) spec_TablesOf_fi spec_TablesOf_c n) = (patL [0, 1, 0, 1, 1] spec_TablesOf_s0_0 (spec_TablesOf_L0_0w m n) (loopK CX (callK CX prims m) spec_TablesOf_fi spec_TablesOf_c n))) := by
  intro n
  have hl : ∀ n, (∀ vs k, loopK CX (callK CX prims m) spec_TablesOf_fi spec_TablesOf_c n [0, 1, 0, 1, 1] (fPack spec_TablesOf_s0_0 vs) k = spec_TablesOf_L0_0w m n vs k) → ((loopK CX (callK CX prims m) spec_TablesOf_fi spec_TablesOf_c n) = (patL [0, 1, 0, 1, 1] spec_TablesOf_s0_0 (spec_TablesOf_L0_0w m n) (loopK CX (callK CX prims m) spec_TablesOf_fi spec_TablesOf_c n))) := by
    intro n h0
    rw [← patL_eq h0]
  induction n with
  | zero => exact ⟨fun vs k => rfl, hl 0 (fun vs k => rfl)⟩
  | succ n ihn =>
    have hn := ihn.2
    have h0 : ∀ vs k, loopK CX (callK CX prims m) spec_TablesOf_fi spec_TablesOf_c (n + 1) [0, 1, 0, 1, 1] (fPack spec_TablesOf_s0_0 vs) k = spec_TablesOf_L0_0w m (n + 1) vs k := fun vs k =>
      (stepL_congr (spec_TablesOf_cf m) hn [0, 1, 0, 1, 1] _ _).trans (by kernel_rfl)
    exact ⟨h0, hl (n + 1) h0⟩
theorem spec_TablesOf_eq (m : Nat) : ∀ vs k, callK CX prims m 14 (fArgs spec_TablesOf_a vs) k = spec_TablesOf_w m vs k := by
  cases m with
  | zero => exact fun vs k => rfl
  | succ m => exact fun vs k => Eq.trans (b := bodyK CX (callK CX prims m) (loopK CX (callK CX prims m) spec_TablesOf_fi spec_TablesOf_c m) 14 Try.f14 spec_TablesOf_c (fArgs spec_TablesOf_a vs) k) (by kernel_rfl) ((bodyK_congr (spec_TablesOf_cf m) ((spec_TablesOf_lf m m).2) 14 Try.f14 spec_TablesOf_c (fArgs spec_TablesOf_a vs) k).trans (by kernel_rfl))

/-! loop.example/g00244/impl.TablesOf -/
noncomputable def impl_TablesOf_L0_0 (m : Nat) : Nat → T → T → T → T → (T → An) → An
  | 0, _, _, _, _, _ => .bad
  | n + 1, x0, x1, x2, x3, k0 =>
    cond (decide (x2.int < x1.int))
    (cond (decide ((0 : Int) ≤ x2.int ∧ x2.int < (x0.rows.length : Int)))
    (slices_Clone___impl_Pair_impl_Pair_ m (T.l ((x0.rows.getD (Int.toNat x2.int) []).getD 3 dflt).rows)
    (fun y0 => cond (decide ((x3.rows.length + 1) * 1 ≤ maxRow))
    (impl_TablesOf_L0_0 m n x0 x1 (T.i (IntKind.i64.wrap (x2.int + 1))) (T.l (x3.rows ++ [[(T.l y0.rows)]])) k0)
    (.bad)))
    (.bad))
    (k0 (T.l x3.rows))
noncomputable def impl_TablesOf_s0_0 : Pack := ⟨[(3, .one ⟨.al [1000000, 0] 0, .sl [.sl [.sc (.str), .sc (.str)]], .l []⟩), (7, .one ⟨.sn [([4000000], 0)], .sl [.sc (.int .i64), .sl [.sc (.int .i64), .sc (.int .i64), .sl [.sc (.int .i64), .sc (.str), .sc (.str)]], .sc (.int .i64), .sl [.sc (.str), .sc (.str)], .sl [.sc (.int .i64), .sc (.int .i64), .sl [.sc (.int .i64), .sc (.str), .sc (.str)]]], .l []⟩), (8, .one ⟨.sc, .sc (.int .i64), .l []⟩), (9, .one ⟨.sc, .sc (.int .i64), .l []⟩)], [([1000000, 0], .row [.sl [.sc (.str), .sc (.str)]] [.O [.F, .F]] []), ([4000000], .gone)]⟩
noncomputable def impl_TablesOf_e0_0 : Pack := ⟨[(3, .one ⟨.al [1000000, 0] 0, .sl [.sl [.sc (.str), .sc (.str)]], .l []⟩)], [([1000000, 0], .row [.sl [.sc (.str), .sc (.str)]] [.O [.F, .F]] [])]⟩
noncomputable def impl_TablesOf_L0_0w (m n : Nat) (vs : List T) (k : Ctl → Pack → An) : An := impl_TablesOf_L0_0 m n (vs.headD dflt) (vs.tail.headD dflt) (vs.tail.tail.headD dflt) (vs.tail.tail.tail.headD dflt) (fun z0 => k (.exit 0) (fPack impl_TablesOf_e0_0 [z0]))
noncomputable def impl_TablesOf : Nat → T → T → T → T → T → T → T → T → T → T → (T → An) → An
  | 0, _, _, _, _, _, _, _, _, _, _, _ => .bad
  | m + 1, x0, x1, x2, x3, x4, x5, x6, x7, x8, x9, k0 =>
    impl_TablesOf_L0_0 m m (T.l x6.rows) (T.i (x6.rows.length : Int)) (T.i 0) (T.l [])
    (fun y1 => k0 (T.l y1.rows))
noncomputable def impl_TablesOf_a : List Arg := [.agg [.sc (.int .i64) (.l []), .sc (.int .i64) (.l []), .sc (.int .i64) (.l []), .dz [.sc (.int .i64), .sl [.sc (.int .i64), .sc (.str), .sc (.str)], .sc (.int .i64), .sl [.sc (.int .i64)]] [], .dz [.sc (.int .i64), .sc (.bool)] [], .sc (.int .i64) (.l []), .dz [.sc (.int .i64), .sl [.sc (.int .i64), .sc (.int .i64), .sl [.sc (.int .i64), .sc (.str), .sc (.str)]], .sc (.int .i64), .sl [.sc (.str), .sc (.str)], .sl [.sc (.int .i64), .sc (.int .i64), .sl [.sc (.int .i64), .sc (.str), .sc (.str)]]] [], .dz [.sc (.int .i64), .sc (.int .i64), .sc (.int .i64), .sl [.sc (.int .i64), .sc (.str), .sc (.str)], .sc (.bool)] [], .dz [.sc (.int .i64), .sc (.int .i64), .sc (.int .i64), .sl [.sc (.int .i64), .sc (.str), .sc (.str)], .sc (.bool)] [], .dz [.sc (.int .i64), .sl [.sc (.int .i64), .sc (.str), .sc (.str)]] []]]
noncomputable def impl_TablesOf_w (m : Nat) (vs : List T) (k : Ret → An) : An := impl_TablesOf m (vs.headD dflt) (vs.tail.headD dflt) (vs.tail.tail.headD dflt) (vs.tail.tail.tail.headD dflt) (vs.tail.tail.tail.tail.headD dflt) (vs.tail.tail.tail.tail.tail.headD dflt) (vs.tail.tail.tail.tail.tail.tail.headD dflt) (vs.tail.tail.tail.tail.tail.tail.tail.headD dflt) (vs.tail.tail.tail.tail.tail.tail.tail.tail.headD dflt) (vs.tail.tail.tail.tail.tail.tail.tail.tail.tail.headD dflt) (fun z0 => k ⟨[.one (.own [1000000, 0] [.sl [.sc (.str), .sc (.str)]] [.O [.F, .F]] z0.rows)], [[none, none, none, none, none, none, none, none, none, none]], [none]⟩)
theorem impl_TablesOf_cf (m : Nat) : callK CX prims m = (patC 39 slices_Clone___impl_Pair_impl_Pair__a (slices_Clone___impl_Pair_impl_Pair__w m) (callK CX prims m)) := by
  rw [← patC_eq (fun vs k => slices_Clone___impl_Pair_impl_Pair__eq m vs k)]
noncomputable def impl_TablesOf_c : Code := (Try.f15.body).getD .skip
noncomputable def impl_TablesOf_fi : Fi := ⟨15, 1, 22, 4⟩
theorem impl_TablesOf_lf (m : Nat) : ∀ n, (∀ vs k, loopK CX (callK CX prims m) impl_TablesOf_fi impl_TablesOf_c n [0, 1, 0, 1, 1] (fPack impl_TablesOf_s0_0 vs) k = impl_TablesOf_L0_0w m n vs k) ∧ ((loopK CX (callK CX prims m) impl_TablesOf_fi impl_TablesOf_c n) = (patL [0, 1, 0, 1, 1] impl_TablesOf_s0_0 (impl_TablesOf_L0_0w m n) (loopK CX (callK CX prims m) impl_TablesOf_fi impl_TablesOf_c n))) := by
  intro n
  have hl : ∀ n, (∀ vs k, loopK CX (callK CX prims m) impl_TablesOf_fi impl_TablesOf_c n [0, 1, 0, 1, 1] (fPack impl_TablesOf_s0_0 vs) k = impl_TablesOf_L0_0w m n vs k) → ((loopK CX (callK CX prims m) impl_TablesOf_fi impl_TablesOf_c n) = (patL [0, 1, 0, 1, 1] impl_TablesOf_s0_0 (impl_TablesOf_L0_0w m n) (loopK CX (callK CX prims m) impl_TablesOf_fi impl_TablesOf_c n))) := by
    intro n h0
    rw [← patL_eq h0]
  induction n with
  | zero => exact ⟨fun vs k => rfl, hl 0 (fun vs k => rfl)⟩
  | succ n ihn =>
    have hn := ihn.2
    have h0 : ∀ vs k, loopK CX (callK CX prims m) impl_TablesOf_fi impl_TablesOf_c (n + 1) [0, 1, 0, 1, 1] (fPack impl_TablesOf_s0_0 vs) k = impl_TablesOf_L0_0w m (n + 1) vs k := fun vs k =>
      (stepL_congr (impl_TablesOf_cf m) hn [0, 1, 0, 1, 1] _ _).trans (by kernel_rfl)
    exact ⟨h0, hl (n + 1) h0⟩
theorem impl_TablesOf_eq (m : Nat) : ∀ vs k, callK CX prims m 15 (fArgs impl_TablesOf_a vs) k = impl_TablesOf_w m vs k := by
  cases m with
  | zero => exact fun vs k => rfl
  | succ m => exact fun vs k => Eq.trans (b := bodyK CX (callK CX prims m) (loopK CX (callK CX prims m) impl_TablesOf_fi impl_TablesOf_c m) 15 Try.f15 impl_TablesOf_c (fArgs impl_TablesOf_a vs) k) (by kernel_rfl) ((bodyK_congr (impl_TablesOf_cf m) ((impl_TablesOf_lf m m).2) 15 Try.f15 impl_TablesOf_c (fArgs impl_TablesOf_a vs) k).trans (by kernel_rfl))

end Go.Proofs.Ytdmjaenknhhidaa

