/- A part of the proof: texts S2P: see the last part's opening words. -/
import Derived.Test.YtajemijnfpakgaaA1
set_option linter.unusedVariables false
set_option linter.unusedSimpArgs false
set_option linter.unnecessarySimpa false
namespace Go.Proofs.Ytajemijnfpakgaa
open Go Go.E Go.Proofs

/-! loop.example/g00244/laws.szOp -/
noncomputable def laws_szOp : Nat → T → T → T → T → (T → An) → An
  | 0, _, _, _, _, _ => .bad
  | m + 1, x0, x1, x2, x3, k0 =>
    cond (decide ((IntKind.i64.wrap (x3.int - (x1.str.size : Int))) < 0))
    (k0 (T.i (-1)))
    (cond (decide ((IntKind.i64.wrap ((IntKind.i64.wrap (x3.int - (x1.str.size : Int))) - (x2.str.size : Int))) < 0))
    (k0 (T.i (-1)))
    (k0 (T.i (IntKind.i64.wrap ((IntKind.i64.wrap (x3.int - (x1.str.size : Int))) - (x2.str.size : Int))))))
noncomputable def laws_szOp_a : List Arg := [.agg [.sc (.int .i64) (.l []), .sc (.str) (.l []), .sc (.str) (.l [])], .one (.sc (.int .i64) (.l []))]
noncomputable def laws_szOp_w (m : Nat) (vs : List T) (k : Ret → An) : An := laws_szOp m (vs.headD dflt) (vs.tail.headD dflt) (vs.tail.tail.headD dflt) (vs.tail.tail.tail.headD dflt) (fun z0 => k ⟨[.one (.sc (.int .i64) z0)], [[none, none, none], [none]]⟩)
theorem laws_szOp_cf (m : Nat) : callK CX prims m = (callK CX prims m) := by
  rfl
noncomputable def laws_szOp_c : Code := (Try.f160.body).getD .skip
noncomputable def laws_szOp_fi : Fi := ⟨160, 2, 20, 16⟩
theorem laws_szOp_eq (m : Nat) : ∀ vs k, callK CX prims m 160 (fArgs laws_szOp_a vs) k = laws_szOp_w m vs k := by
  cases m with
  | zero => exact fun vs k => rfl
  | succ m => exact fun vs k => Eq.trans (b := bodyK CX (callK CX prims m) (loopK CX (callK CX prims m) laws_szOp_fi laws_szOp_c m) 160 Try.f160 laws_szOp_c (fArgs laws_szOp_a vs) k) (by kernel_rfl) ((bodyK_congr (laws_szOp_cf m) rfl 160 Try.f160 laws_szOp_c (fArgs laws_szOp_a vs) k).trans (by kernel_rfl))

/-! loop.example/g00244/laws.szOpS -/
noncomputable def laws_szOpS_L0_0 (m : Nat) : Nat → T → T → T → (T → An) → (T → An) → An
  | 0, _, _, _, _, _ => .bad
  | n + 1, x0, x1, x2, k0, k1 =>
    cond (decide (x2.int < (x0.rows.length : Int)))
    (cond (decide (0 ≤ x2.int ∧ x2.int < (x0.rows.length : Int)))
    (laws_szOp m ((x0.rows.getD (Int.toNat x2.int) []).getD 0 dflt) ((x0.rows.getD (Int.toNat x2.int) []).getD 1 dflt) ((x0.rows.getD (Int.toNat x2.int) []).getD 2 dflt) x1
    (fun y0 => cond (decide (y0.int < 0))
    (k0 (T.i (-1)))
    (laws_szOpS_L0_0 m n x0 y0 (T.i (IntKind.i64.wrap (x2.int + 1))) k0 k1)))
    (.bad))
    (k1 x1)
noncomputable def laws_szOpS_s0_0 : Pack := ⟨[(0, .one ⟨.sn [], .sl [.sc (.int .i64), .sc (.str), .sc (.str)], .l []⟩), (1, .one ⟨.sc, .sc (.int .i64), .l []⟩), (5, .one ⟨.sc, .sc (.int .i64), .l []⟩)], []⟩
noncomputable def laws_szOpS_e0_0 : Pack := ⟨[(4, .one ⟨.sc, .sc (.int .i64), .l []⟩)], []⟩
noncomputable def laws_szOpS_e0_1 : Pack := ⟨[(1, .one ⟨.sc, .sc (.int .i64), .l []⟩)], []⟩
noncomputable def laws_szOpS_L0_0w (m n : Nat) (vs : List T) (k : Ctl → Pack → An) : An := laws_szOpS_L0_0 m n (vs.headD dflt) (vs.tail.headD dflt) (vs.tail.tail.headD dflt) (fun z0 => k .ret (fPack laws_szOpS_e0_0 [z0])) (fun z0 => k (.exit 0) (fPack laws_szOpS_e0_1 [z0]))
noncomputable def laws_szOpS : Nat → T → T → (T → An) → An
  | 0, _, _, _ => .bad
  | m + 1, x0, x1, k0 =>
    cond (decide ((IntKind.i64.wrap (x1.int - (x0.rows.length : Int))) < 0))
    (k0 (T.i (-1)))
    (laws_szOpS_L0_0 m m (T.l x0.rows) (T.i (IntKind.i64.wrap (x1.int - (x0.rows.length : Int)))) (T.i 0)
    (fun y1 => k0 y1)
    (fun y2 => k0 y2))
noncomputable def laws_szOpS_a : List Arg := [.one (.fz [.sc (.int .i64), .sc (.str), .sc (.str)] []), .one (.sc (.int .i64) (.l []))]
noncomputable def laws_szOpS_w (m : Nat) (vs : List T) (k : Ret → An) : An := laws_szOpS m (vs.headD dflt) (vs.tail.headD dflt) (fun z0 => k ⟨[.one (.sc (.int .i64) z0)], [[none], [none]]⟩)
theorem laws_szOpS_cf (m : Nat) : callK CX prims m = (patC 160 laws_szOp_a (laws_szOp_w m) (callK CX prims m)) := by
  rw [← patC_eq (fun vs k => laws_szOp_eq m vs k)]
noncomputable def laws_szOpS_c : Code := (Try.f133.body).getD .skip
noncomputable def laws_szOpS_fi : Fi := ⟨133, 2, 27, 16⟩
theorem laws_szOpS_lf (m : Nat) : ∀ n, (∀ vs k, loopK CX (callK CX prims m) laws_szOpS_fi laws_szOpS_c n [0, 1, 0, 1, 1, 1] (fPack laws_szOpS_s0_0 vs) k = laws_szOpS_L0_0w m n vs k) ∧ ((loopK CX (callK CX prims m) laws_szOpS_fi laws_szOpS_c n) = (patL [0, 1, 0, 1, 1, 1] laws_szOpS_s0_0 (laws_szOpS_L0_0w m n) (loopK CX (callK CX prims m) laws_szOpS_fi laws_szOpS_c n))) := by
  intro n
  have hl : ∀ n, (∀ vs k, loopK CX (callK CX prims m) laws_szOpS_fi laws_szOpS_c n [0, 1, 0, 1, 1, 1] (fPack laws_szOpS_s0_0 vs) k = laws_szOpS_L0_0w m n vs k) → ((loopK CX (callK CX prims m) laws_szOpS_fi laws_szOpS_c n) = (patL [0, 1, 0, 1, 1, 1] laws_szOpS_s0_0 (laws_szOpS_L0_0w m n) (loopK CX (callK CX prims m) laws_szOpS_fi laws_szOpS_c n))) := by
    intro n h0
    rw [← patL_eq h0]
  induction n with
  | zero => exact ⟨fun vs k => rfl, hl 0 (fun vs k => rfl)⟩
  | succ n ihn =>
    have hn := ihn.2
    have h0 : ∀ vs k, loopK CX (callK CX prims m) laws_szOpS_fi laws_szOpS_c (n + 1) [0, 1, 0, 1, 1, 1] (fPack laws_szOpS_s0_0 vs) k = laws_szOpS_L0_0w m (n + 1) vs k := fun vs k =>
      (stepL_congr (laws_szOpS_cf m) hn [0, 1, 0, 1, 1, 1] _ _).trans (by kernel_rfl)
    exact ⟨h0, hl (n + 1) h0⟩
theorem laws_szOpS_eq (m : Nat) : ∀ vs k, callK CX prims m 133 (fArgs laws_szOpS_a vs) k = laws_szOpS_w m vs k := by
  cases m with
  | zero => exact fun vs k => rfl
  | succ m => exact fun vs k => Eq.trans (b := bodyK CX (callK CX prims m) (loopK CX (callK CX prims m) laws_szOpS_fi laws_szOpS_c m) 133 Try.f133 laws_szOpS_c (fArgs laws_szOpS_a vs) k) (by kernel_rfl) ((bodyK_congr (laws_szOpS_cf m) ((laws_szOpS_lf m m).2) 133 Try.f133 laws_szOpS_c (fArgs laws_szOpS_a vs) k).trans (by kernel_rfl))

/-! loop.example/g00244/laws.szIntS -/
noncomputable def laws_szIntS : Nat → T → T → (T → An) → An
  | 0, _, _, _ => .bad
  | m + 1, x0, x1, k0 =>
    cond (decide ((IntKind.i64.wrap (x1.int - (x0.rows.length : Int))) < 0))
    (k0 (T.i (-1)))
    (k0 (T.i (IntKind.i64.wrap (x1.int - (x0.rows.length : Int)))))
noncomputable def laws_szIntS_a : List Arg := [.one (.fz [.sc (.int .i64)] []), .one (.sc (.int .i64) (.l []))]
noncomputable def laws_szIntS_w (m : Nat) (vs : List T) (k : Ret → An) : An := laws_szIntS m (vs.headD dflt) (vs.tail.headD dflt) (fun z0 => k ⟨[.one (.sc (.int .i64) z0)], [[none], [none]]⟩)
theorem laws_szIntS_cf (m : Nat) : callK CX prims m = (callK CX prims m) := by
  rfl
noncomputable def laws_szIntS_c : Code := (Try.f158.body).getD .skip
noncomputable def laws_szIntS_fi : Fi := ⟨158, 2, 12, 16⟩
theorem laws_szIntS_eq (m : Nat) : ∀ vs k, callK CX prims m 158 (fArgs laws_szIntS_a vs) k = laws_szIntS_w m vs k := by
  cases m with
  | zero => exact fun vs k => rfl
  | succ m => exact fun vs k => Eq.trans (b := bodyK CX (callK CX prims m) (loopK CX (callK CX prims m) laws_szIntS_fi laws_szIntS_c m) 158 Try.f158 laws_szIntS_c (fArgs laws_szIntS_a vs) k) (by kernel_rfl) ((bodyK_congr (laws_szIntS_cf m) rfl 158 Try.f158 laws_szIntS_c (fArgs laws_szIntS_a vs) k).trans (by kernel_rfl))

/-! loop.example/g00244/laws.szJob -/
noncomputable def laws_szJob : Nat → T → T → T → T → T → (T → An) → An
  | 0, _, _, _, _, _, _ => .bad
  | m + 1, x0, x1, x2, x3, x4, k0 =>
    laws_szOpS m (T.l x1.rows) x4
    (fun y0 => cond (decide (y0.int < 0))
    (k0 (T.i (-1)))
    (laws_szIntS m (T.l x3.rows) y0
    (fun y1 => cond (decide (y1.int < 0))
    (k0 (T.i (-1)))
    (k0 y1))))
noncomputable def laws_szJob_a : List Arg := [.agg [.sc (.int .i64) (.l []), .fz [.sc (.int .i64), .sc (.str), .sc (.str)] [], .sc (.int .i64) (.l []), .fz [.sc (.int .i64)] []], .one (.sc (.int .i64) (.l []))]
noncomputable def laws_szJob_w (m : Nat) (vs : List T) (k : Ret → An) : An := laws_szJob m (vs.headD dflt) (vs.tail.headD dflt) (vs.tail.tail.headD dflt) (vs.tail.tail.tail.headD dflt) (vs.tail.tail.tail.tail.headD dflt) (fun z0 => k ⟨[.one (.sc (.int .i64) z0)], [[none, none, none, none], [none]]⟩)
theorem laws_szJob_cf (m : Nat) : callK CX prims m = (patC 133 laws_szOpS_a (laws_szOpS_w m) (patC 158 laws_szIntS_a (laws_szIntS_w m) (callK CX prims m))) := by
  rw [← patC_eq (fun vs k => laws_szIntS_eq m vs k), ← patC_eq (fun vs k => laws_szOpS_eq m vs k)]
noncomputable def laws_szJob_c : Code := (Try.f131.body).getD .skip
noncomputable def laws_szJob_fi : Fi := ⟨131, 2, 18, 16⟩
theorem laws_szJob_eq (m : Nat) : ∀ vs k, callK CX prims m 131 (fArgs laws_szJob_a vs) k = laws_szJob_w m vs k := by
  cases m with
  | zero => exact fun vs k => rfl
  | succ m => exact fun vs k => Eq.trans (b := bodyK CX (callK CX prims m) (loopK CX (callK CX prims m) laws_szJob_fi laws_szJob_c m) 131 Try.f131 laws_szJob_c (fArgs laws_szJob_a vs) k) (by kernel_rfl) ((bodyK_congr (laws_szJob_cf m) rfl 131 Try.f131 laws_szJob_c (fArgs laws_szJob_a vs) k).trans (by kernel_rfl))

/-! loop.example/g00244/laws.szJobS -/
noncomputable def laws_szJobS_L0_0 (m : Nat) : Nat → T → T → T → (T → An) → (T → An) → An
  | 0, _, _, _, _, _ => .bad
  | n + 1, x0, x1, x2, k0, k1 =>
    cond (decide (x2.int < (x0.rows.length : Int)))
    (cond (decide (0 ≤ x2.int ∧ x2.int < (x0.rows.length : Int)))
    (laws_szJob m ((x0.rows.getD (Int.toNat x2.int) []).getD 0 dflt) (T.l ((x0.rows.getD (Int.toNat x2.int) []).getD 1 dflt).rows) ((x0.rows.getD (Int.toNat x2.int) []).getD 2 dflt) (T.l ((x0.rows.getD (Int.toNat x2.int) []).getD 3 dflt).rows) x1
    (fun y0 => cond (decide (y0.int < 0))
    (k0 (T.i (-1)))
    (laws_szJobS_L0_0 m n x0 y0 (T.i (IntKind.i64.wrap (x2.int + 1))) k0 k1)))
    (.bad))
    (k1 x1)
noncomputable def laws_szJobS_s0_0 : Pack := ⟨[(0, .one ⟨.sn [], .sl [.sc (.int .i64), .sl [.sc (.int .i64), .sc (.str), .sc (.str)], .sc (.int .i64), .sl [.sc (.int .i64)]], .l []⟩), (1, .one ⟨.sc, .sc (.int .i64), .l []⟩), (5, .one ⟨.sc, .sc (.int .i64), .l []⟩)], []⟩
noncomputable def laws_szJobS_e0_0 : Pack := ⟨[(4, .one ⟨.sc, .sc (.int .i64), .l []⟩)], []⟩
noncomputable def laws_szJobS_e0_1 : Pack := ⟨[(1, .one ⟨.sc, .sc (.int .i64), .l []⟩)], []⟩
noncomputable def laws_szJobS_L0_0w (m n : Nat) (vs : List T) (k : Ctl → Pack → An) : An := laws_szJobS_L0_0 m n (vs.headD dflt) (vs.tail.headD dflt) (vs.tail.tail.headD dflt) (fun z0 => k .ret (fPack laws_szJobS_e0_0 [z0])) (fun z0 => k (.exit 0) (fPack laws_szJobS_e0_1 [z0]))
noncomputable def laws_szJobS : Nat → T → T → (T → An) → An
  | 0, _, _, _ => .bad
  | m + 1, x0, x1, k0 =>
    cond (decide ((IntKind.i64.wrap (x1.int - (x0.rows.length : Int))) < 0))
    (k0 (T.i (-1)))
    (laws_szJobS_L0_0 m m (T.l x0.rows) (T.i (IntKind.i64.wrap (x1.int - (x0.rows.length : Int)))) (T.i 0)
    (fun y1 => k0 y1)
    (fun y2 => k0 y2))
noncomputable def laws_szJobS_a : List Arg := [.one (.fz [.sc (.int .i64), .sl [.sc (.int .i64), .sc (.str), .sc (.str)], .sc (.int .i64), .sl [.sc (.int .i64)]] []), .one (.sc (.int .i64) (.l []))]
noncomputable def laws_szJobS_w (m : Nat) (vs : List T) (k : Ret → An) : An := laws_szJobS m (vs.headD dflt) (vs.tail.headD dflt) (fun z0 => k ⟨[.one (.sc (.int .i64) z0)], [[none], [none]]⟩)
theorem laws_szJobS_cf (m : Nat) : callK CX prims m = (patC 131 laws_szJob_a (laws_szJob_w m) (callK CX prims m)) := by
  rw [← patC_eq (fun vs k => laws_szJob_eq m vs k)]
noncomputable def laws_szJobS_c : Code := (Try.f89.body).getD .skip
noncomputable def laws_szJobS_fi : Fi := ⟨89, 2, 27, 16⟩
theorem laws_szJobS_lf (m : Nat) : ∀ n, (∀ vs k, loopK CX (callK CX prims m) laws_szJobS_fi laws_szJobS_c n [0, 1, 0, 1, 1, 1] (fPack laws_szJobS_s0_0 vs) k = laws_szJobS_L0_0w m n vs k) ∧ ((loopK CX (callK CX prims m) laws_szJobS_fi laws_szJobS_c n) = (patL [0, 1, 0, 1, 1, 1] laws_szJobS_s0_0 (laws_szJobS_L0_0w m n) (loopK CX (callK CX prims m) laws_szJobS_fi laws_szJobS_c n))) := by
  intro n
  have hl : ∀ n, (∀ vs k, loopK CX (callK CX prims m) laws_szJobS_fi laws_szJobS_c n [0, 1, 0, 1, 1, 1] (fPack laws_szJobS_s0_0 vs) k = laws_szJobS_L0_0w m n vs k) → ((loopK CX (callK CX prims m) laws_szJobS_fi laws_szJobS_c n) = (patL [0, 1, 0, 1, 1, 1] laws_szJobS_s0_0 (laws_szJobS_L0_0w m n) (loopK CX (callK CX prims m) laws_szJobS_fi laws_szJobS_c n))) := by
    intro n h0
    rw [← patL_eq h0]
  induction n with
  | zero => exact ⟨fun vs k => rfl, hl 0 (fun vs k => rfl)⟩
  | succ n ihn =>
    have hn := ihn.2
    have h0 : ∀ vs k, loopK CX (callK CX prims m) laws_szJobS_fi laws_szJobS_c (n + 1) [0, 1, 0, 1, 1, 1] (fPack laws_szJobS_s0_0 vs) k = laws_szJobS_L0_0w m (n + 1) vs k := fun vs k =>
      (stepL_congr (laws_szJobS_cf m) hn [0, 1, 0, 1, 1, 1] _ _).trans (by kernel_rfl)
    exact ⟨h0, hl (n + 1) h0⟩
theorem laws_szJobS_eq (m : Nat) : ∀ vs k, callK CX prims m 89 (fArgs laws_szJobS_a vs) k = laws_szJobS_w m vs k := by
  cases m with
  | zero => exact fun vs k => rfl
  | succ m => exact fun vs k => Eq.trans (b := bodyK CX (callK CX prims m) (loopK CX (callK CX prims m) laws_szJobS_fi laws_szJobS_c m) 89 Try.f89 laws_szJobS_c (fArgs laws_szJobS_a vs) k) (by kernel_rfl) ((bodyK_congr (laws_szJobS_cf m) ((laws_szJobS_lf m m).2) 89 Try.f89 laws_szJobS_c (fArgs laws_szJobS_a vs) k).trans (by kernel_rfl))

/-! loop.example/g00244/laws.szChoiceS -/
noncomputable def laws_szChoiceS : Nat → T → T → (T → An) → An
  | 0, _, _, _ => .bad
  | m + 1, x0, x1, k0 =>
    cond (decide ((IntKind.i64.wrap (x1.int - (x0.rows.length : Int))) < 0))
    (k0 (T.i (-1)))
    (k0 (T.i (IntKind.i64.wrap (x1.int - (x0.rows.length : Int)))))
noncomputable def laws_szChoiceS_a : List Arg := [.one (.fz [.sc (.int .i64), .sc (.bool)] []), .one (.sc (.int .i64) (.l []))]
noncomputable def laws_szChoiceS_w (m : Nat) (vs : List T) (k : Ret → An) : An := laws_szChoiceS m (vs.headD dflt) (vs.tail.headD dflt) (fun z0 => k ⟨[.one (.sc (.int .i64) z0)], [[none], [none]]⟩)
theorem laws_szChoiceS_cf (m : Nat) : callK CX prims m = (callK CX prims m) := by
  rfl
noncomputable def laws_szChoiceS_c : Code := (Try.f90.body).getD .skip
noncomputable def laws_szChoiceS_fi : Fi := ⟨90, 2, 12, 16⟩
theorem laws_szChoiceS_eq (m : Nat) : ∀ vs k, callK CX prims m 90 (fArgs laws_szChoiceS_a vs) k = laws_szChoiceS_w m vs k := by
  cases m with
  | zero => exact fun vs k => rfl
  | succ m => exact fun vs k => Eq.trans (b := bodyK CX (callK CX prims m) (loopK CX (callK CX prims m) laws_szChoiceS_fi laws_szChoiceS_c m) 90 Try.f90 laws_szChoiceS_c (fArgs laws_szChoiceS_a vs) k) (by kernel_rfl) ((bodyK_congr (laws_szChoiceS_cf m) rfl 90 Try.f90 laws_szChoiceS_c (fArgs laws_szChoiceS_a vs) k).trans (by kernel_rfl))

/-! loop.example/g00244/laws.szCoord -/
noncomputable def laws_szCoord : Nat → T → T → T → T → T → T → T → (T → An) → An
  | 0, _, _, _, _, _, _, _, _ => .bad
  | m + 1, x0, x1, x2, x3, x4, x5, x6, k0 =>
    laws_szJobS m (T.l x3.rows) x6
    (fun y0 => cond (decide (y0.int < 0))
    (k0 (T.i (-1)))
    (laws_szChoiceS m (T.l x4.rows) y0
    (fun y1 => cond (decide (y1.int < 0))
    (k0 (T.i (-1)))
    (k0 y1))))
noncomputable def laws_szCoord_a : List Arg := [.agg [.sc (.int .i64) (.l []), .sc (.int .i64) (.l []), .sc (.int .i64) (.l []), .fz [.sc (.int .i64), .sl [.sc (.int .i64), .sc (.str), .sc (.str)], .sc (.int .i64), .sl [.sc (.int .i64)]] [], .fz [.sc (.int .i64), .sc (.bool)] [], .sc (.int .i64) (.l [])], .one (.sc (.int .i64) (.l []))]
noncomputable def laws_szCoord_w (m : Nat) (vs : List T) (k : Ret → An) : An := laws_szCoord m (vs.headD dflt) (vs.tail.headD dflt) (vs.tail.tail.headD dflt) (vs.tail.tail.tail.headD dflt) (vs.tail.tail.tail.tail.headD dflt) (vs.tail.tail.tail.tail.tail.headD dflt) (vs.tail.tail.tail.tail.tail.tail.headD dflt) (fun z0 => k ⟨[.one (.sc (.int .i64) z0)], [[none, none, none, none, none, none], [none]]⟩)
theorem laws_szCoord_cf (m : Nat) : callK CX prims m = (patC 89 laws_szJobS_a (laws_szJobS_w m) (patC 90 laws_szChoiceS_a (laws_szChoiceS_w m) (callK CX prims m))) := by
  rw [← patC_eq (fun vs k => laws_szChoiceS_eq m vs k), ← patC_eq (fun vs k => laws_szJobS_eq m vs k)]
noncomputable def laws_szCoord_c : Code := (Try.f43.body).getD .skip
noncomputable def laws_szCoord_fi : Fi := ⟨43, 2, 18, 16⟩
theorem laws_szCoord_eq (m : Nat) : ∀ vs k, callK CX prims m 43 (fArgs laws_szCoord_a vs) k = laws_szCoord_w m vs k := by
  cases m with
  | zero => exact fun vs k => rfl
  | succ m => exact fun vs k => Eq.trans (b := bodyK CX (callK CX prims m) (loopK CX (callK CX prims m) laws_szCoord_fi laws_szCoord_c m) 43 Try.f43 laws_szCoord_c (fArgs laws_szCoord_a vs) k) (by kernel_rfl) ((bodyK_congr (laws_szCoord_cf m) rfl 43 Try.f43 laws_szCoord_c (fArgs laws_szCoord_a vs) k).trans (by kernel_rfl))

/-! loop.example/g00244/laws.szRec -/
noncomputable def laws_szRec : Nat → T → T → T → T → (T → An) → An
  | 0, _, _, _, _, _ => .bad
  | m + 1, x0, x1, x2, x3, k0 =>
    laws_szOpS m (T.l x2.rows) x3
    (fun y0 => cond (decide (y0.int < 0))
    (k0 (T.i (-1)))
    (k0 y0))
noncomputable def laws_szRec_a : List Arg := [.agg [.sc (.int .i64) (.l []), .sc (.int .i64) (.l []), .fz [.sc (.int .i64), .sc (.str), .sc (.str)] []], .one (.sc (.int .i64) (.l []))]
noncomputable def laws_szRec_w (m : Nat) (vs : List T) (k : Ret → An) : An := laws_szRec m (vs.headD dflt) (vs.tail.headD dflt) (vs.tail.tail.headD dflt) (vs.tail.tail.tail.headD dflt) (fun z0 => k ⟨[.one (.sc (.int .i64) z0)], [[none, none, none], [none]]⟩)
theorem laws_szRec_cf (m : Nat) : callK CX prims m = (patC 133 laws_szOpS_a (laws_szOpS_w m) (callK CX prims m)) := by
  rw [← patC_eq (fun vs k => laws_szOpS_eq m vs k)]
noncomputable def laws_szRec_c : Code := (Try.f159.body).getD .skip
noncomputable def laws_szRec_fi : Fi := ⟨159, 2, 12, 16⟩
theorem laws_szRec_eq (m : Nat) : ∀ vs k, callK CX prims m 159 (fArgs laws_szRec_a vs) k = laws_szRec_w m vs k := by
  cases m with
  | zero => exact fun vs k => rfl
  | succ m => exact fun vs k => Eq.trans (b := bodyK CX (callK CX prims m) (loopK CX (callK CX prims m) laws_szRec_fi laws_szRec_c m) 159 Try.f159 laws_szRec_c (fArgs laws_szRec_a vs) k) (by kernel_rfl) ((bodyK_congr (laws_szRec_cf m) rfl 159 Try.f159 laws_szRec_c (fArgs laws_szRec_a vs) k).trans (by kernel_rfl))

/-! loop.example/g00244/laws.szRecS -/
noncomputable def laws_szRecS_L0_0 (m : Nat) : Nat → T → T → T → (T → An) → (T → An) → An
  | 0, _, _, _, _, _ => .bad
  | n + 1, x0, x1, x2, k0, k1 =>
    cond (decide (x2.int < (x0.rows.length : Int)))
    (cond (decide (0 ≤ x2.int ∧ x2.int < (x0.rows.length : Int)))
    (laws_szRec m ((x0.rows.getD (Int.toNat x2.int) []).getD 0 dflt) ((x0.rows.getD (Int.toNat x2.int) []).getD 1 dflt) (T.l ((x0.rows.getD (Int.toNat x2.int) []).getD 2 dflt).rows) x1
    (fun y0 => cond (decide (y0.int < 0))
    (k0 (T.i (-1)))
    (laws_szRecS_L0_0 m n x0 y0 (T.i (IntKind.i64.wrap (x2.int + 1))) k0 k1)))
    (.bad))
    (k1 x1)
noncomputable def laws_szRecS_s0_0 : Pack := ⟨[(0, .one ⟨.sn [], .sl [.sc (.int .i64), .sc (.int .i64), .sl [.sc (.int .i64), .sc (.str), .sc (.str)]], .l []⟩), (1, .one ⟨.sc, .sc (.int .i64), .l []⟩), (5, .one ⟨.sc, .sc (.int .i64), .l []⟩)], []⟩
noncomputable def laws_szRecS_e0_0 : Pack := ⟨[(4, .one ⟨.sc, .sc (.int .i64), .l []⟩)], []⟩
noncomputable def laws_szRecS_e0_1 : Pack := ⟨[(1, .one ⟨.sc, .sc (.int .i64), .l []⟩)], []⟩
noncomputable def laws_szRecS_L0_0w (m n : Nat) (vs : List T) (k : Ctl → Pack → An) : An := laws_szRecS_L0_0 m n (vs.headD dflt) (vs.tail.headD dflt) (vs.tail.tail.headD dflt) (fun z0 => k .ret (fPack laws_szRecS_e0_0 [z0])) (fun z0 => k (.exit 0) (fPack laws_szRecS_e0_1 [z0]))
noncomputable def laws_szRecS : Nat → T → T → (T → An) → An
  | 0, _, _, _ => .bad
  | m + 1, x0, x1, k0 =>
    cond (decide ((IntKind.i64.wrap (x1.int - (x0.rows.length : Int))) < 0))
    (k0 (T.i (-1)))
    (laws_szRecS_L0_0 m m (T.l x0.rows) (T.i (IntKind.i64.wrap (x1.int - (x0.rows.length : Int)))) (T.i 0)
    (fun y1 => k0 y1)
    (fun y2 => k0 y2))
noncomputable def laws_szRecS_a : List Arg := [.one (.fz [.sc (.int .i64), .sc (.int .i64), .sl [.sc (.int .i64), .sc (.str), .sc (.str)]] []), .one (.sc (.int .i64) (.l []))]
noncomputable def laws_szRecS_w (m : Nat) (vs : List T) (k : Ret → An) : An := laws_szRecS m (vs.headD dflt) (vs.tail.headD dflt) (fun z0 => k ⟨[.one (.sc (.int .i64) z0)], [[none], [none]]⟩)
theorem laws_szRecS_cf (m : Nat) : callK CX prims m = (patC 159 laws_szRec_a (laws_szRec_w m) (callK CX prims m)) := by
  rw [← patC_eq (fun vs k => laws_szRec_eq m vs k)]
noncomputable def laws_szRecS_c : Code := (Try.f132.body).getD .skip
noncomputable def laws_szRecS_fi : Fi := ⟨132, 2, 27, 16⟩
theorem laws_szRecS_lf (m : Nat) : ∀ n, (∀ vs k, loopK CX (callK CX prims m) laws_szRecS_fi laws_szRecS_c n [0, 1, 0, 1, 1, 1] (fPack laws_szRecS_s0_0 vs) k = laws_szRecS_L0_0w m n vs k) ∧ ((loopK CX (callK CX prims m) laws_szRecS_fi laws_szRecS_c n) = (patL [0, 1, 0, 1, 1, 1] laws_szRecS_s0_0 (laws_szRecS_L0_0w m n) (loopK CX (callK CX prims m) laws_szRecS_fi laws_szRecS_c n))) := by
  intro n
  have hl : ∀ n, (∀ vs k, loopK CX (callK CX prims m) laws_szRecS_fi laws_szRecS_c n [0, 1, 0, 1, 1, 1] (fPack laws_szRecS_s0_0 vs) k = laws_szRecS_L0_0w m n vs k) → ((loopK CX (callK CX prims m) laws_szRecS_fi laws_szRecS_c n) = (patL [0, 1, 0, 1, 1, 1] laws_szRecS_s0_0 (laws_szRecS_L0_0w m n) (loopK CX (callK CX prims m) laws_szRecS_fi laws_szRecS_c n))) := by
    intro n h0
    rw [← patL_eq h0]
  induction n with
  | zero => exact ⟨fun vs k => rfl, hl 0 (fun vs k => rfl)⟩
  | succ n ihn =>
    have hn := ihn.2
    have h0 : ∀ vs k, loopK CX (callK CX prims m) laws_szRecS_fi laws_szRecS_c (n + 1) [0, 1, 0, 1, 1, 1] (fPack laws_szRecS_s0_0 vs) k = laws_szRecS_L0_0w m (n + 1) vs k := fun vs k =>
      (stepL_congr (laws_szRecS_cf m) hn [0, 1, 0, 1, 1, 1] _ _).trans (by kernel_rfl)
    exact ⟨h0, hl (n + 1) h0⟩
theorem laws_szRecS_eq (m : Nat) : ∀ vs k, callK CX prims m 132 (fArgs laws_szRecS_a vs) k = laws_szRecS_w m vs k := by
  cases m with
  | zero => exact fun vs k => rfl
  | succ m => exact fun vs k => Eq.trans (b := bodyK CX (callK CX prims m) (loopK CX (callK CX prims m) laws_szRecS_fi laws_szRecS_c m) 132 Try.f132 laws_szRecS_c (fArgs laws_szRecS_a vs) k) (by kernel_rfl) ((bodyK_congr (laws_szRecS_cf m) ((laws_szRecS_lf m m).2) 132 Try.f132 laws_szRecS_c (fArgs laws_szRecS_a vs) k).trans (by kernel_rfl))

/-! loop.example/g00244/laws.szPair -/
noncomputable def laws_szPair : Nat → T → T → T → (T → An) → An
  | 0, _, _, _, _ => .bad
  | m + 1, x0, x1, x2, k0 =>
    cond (decide ((IntKind.i64.wrap (x2.int - (x0.str.size : Int))) < 0))
    (k0 (T.i (-1)))
    (cond (decide ((IntKind.i64.wrap ((IntKind.i64.wrap (x2.int - (x0.str.size : Int))) - (x1.str.size : Int))) < 0))
    (k0 (T.i (-1)))
    (k0 (T.i (IntKind.i64.wrap ((IntKind.i64.wrap (x2.int - (x0.str.size : Int))) - (x1.str.size : Int))))))
noncomputable def laws_szPair_a : List Arg := [.agg [.sc (.str) (.l []), .sc (.str) (.l [])], .one (.sc (.int .i64) (.l []))]
noncomputable def laws_szPair_w (m : Nat) (vs : List T) (k : Ret → An) : An := laws_szPair m (vs.headD dflt) (vs.tail.headD dflt) (vs.tail.tail.headD dflt) (fun z0 => k ⟨[.one (.sc (.int .i64) z0)], [[none, none], [none]]⟩)
theorem laws_szPair_cf (m : Nat) : callK CX prims m = (callK CX prims m) := by
  rfl
noncomputable def laws_szPair_c : Code := (Try.f149.body).getD .skip
noncomputable def laws_szPair_fi : Fi := ⟨149, 2, 20, 16⟩
theorem laws_szPair_eq (m : Nat) : ∀ vs k, callK CX prims m 149 (fArgs laws_szPair_a vs) k = laws_szPair_w m vs k := by
  cases m with
  | zero => exact fun vs k => rfl
  | succ m => exact fun vs k => Eq.trans (b := bodyK CX (callK CX prims m) (loopK CX (callK CX prims m) laws_szPair_fi laws_szPair_c m) 149 Try.f149 laws_szPair_c (fArgs laws_szPair_a vs) k) (by kernel_rfl) ((bodyK_congr (laws_szPair_cf m) rfl 149 Try.f149 laws_szPair_c (fArgs laws_szPair_a vs) k).trans (by kernel_rfl))

/-! loop.example/g00244/laws.szPairS -/
noncomputable def laws_szPairS_L0_0 (m : Nat) : Nat → T → T → T → (T → An) → (T → An) → An
  | 0, _, _, _, _, _ => .bad
  | n + 1, x0, x1, x2, k0, k1 =>
    cond (decide (x2.int < (x0.rows.length : Int)))
    (cond (decide (0 ≤ x2.int ∧ x2.int < (x0.rows.length : Int)))
    (laws_szPair m ((x0.rows.getD (Int.toNat x2.int) []).getD 0 dflt) ((x0.rows.getD (Int.toNat x2.int) []).getD 1 dflt) x1
    (fun y0 => cond (decide (y0.int < 0))
    (k0 (T.i (-1)))
    (laws_szPairS_L0_0 m n x0 y0 (T.i (IntKind.i64.wrap (x2.int + 1))) k0 k1)))
    (.bad))
    (k1 x1)
noncomputable def laws_szPairS_s0_0 : Pack := ⟨[(0, .one ⟨.sn [], .sl [.sc (.str), .sc (.str)], .l []⟩), (1, .one ⟨.sc, .sc (.int .i64), .l []⟩), (5, .one ⟨.sc, .sc (.int .i64), .l []⟩)], []⟩
noncomputable def laws_szPairS_e0_0 : Pack := ⟨[(4, .one ⟨.sc, .sc (.int .i64), .l []⟩)], []⟩
noncomputable def laws_szPairS_e0_1 : Pack := ⟨[(1, .one ⟨.sc, .sc (.int .i64), .l []⟩)], []⟩
noncomputable def laws_szPairS_L0_0w (m n : Nat) (vs : List T) (k : Ctl → Pack → An) : An := laws_szPairS_L0_0 m n (vs.headD dflt) (vs.tail.headD dflt) (vs.tail.tail.headD dflt) (fun z0 => k .ret (fPack laws_szPairS_e0_0 [z0])) (fun z0 => k (.exit 0) (fPack laws_szPairS_e0_1 [z0]))
noncomputable def laws_szPairS : Nat → T → T → (T → An) → An
  | 0, _, _, _ => .bad
  | m + 1, x0, x1, k0 =>
    cond (decide ((IntKind.i64.wrap (x1.int - (x0.rows.length : Int))) < 0))
    (k0 (T.i (-1)))
    (laws_szPairS_L0_0 m m (T.l x0.rows) (T.i (IntKind.i64.wrap (x1.int - (x0.rows.length : Int)))) (T.i 0)
    (fun y1 => k0 y1)
    (fun y2 => k0 y2))
noncomputable def laws_szPairS_a : List Arg := [.one (.fz [.sc (.str), .sc (.str)] []), .one (.sc (.int .i64) (.l []))]
noncomputable def laws_szPairS_w (m : Nat) (vs : List T) (k : Ret → An) : An := laws_szPairS m (vs.headD dflt) (vs.tail.headD dflt) (fun z0 => k ⟨[.one (.sc (.int .i64) z0)], [[none], [none]]⟩)
theorem laws_szPairS_cf (m : Nat) : callK CX prims m = (patC 149 laws_szPair_a (laws_szPair_w m) (callK CX prims m)) := by
  rw [← patC_eq (fun vs k => laws_szPair_eq m vs k)]
noncomputable def laws_szPairS_c : Code := (Try.f120.body).getD .skip
noncomputable def laws_szPairS_fi : Fi := ⟨120, 2, 27, 16⟩
theorem laws_szPairS_lf (m : Nat) : ∀ n, (∀ vs k, loopK CX (callK CX prims m) laws_szPairS_fi laws_szPairS_c n [0, 1, 0, 1, 1, 1] (fPack laws_szPairS_s0_0 vs) k = laws_szPairS_L0_0w m n vs k) ∧ ((loopK CX (callK CX prims m) laws_szPairS_fi laws_szPairS_c n) = (patL [0, 1, 0, 1, 1, 1] laws_szPairS_s0_0 (laws_szPairS_L0_0w m n) (loopK CX (callK CX prims m) laws_szPairS_fi laws_szPairS_c n))) := by
  intro n
  have hl : ∀ n, (∀ vs k, loopK CX (callK CX prims m) laws_szPairS_fi laws_szPairS_c n [0, 1, 0, 1, 1, 1] (fPack laws_szPairS_s0_0 vs) k = laws_szPairS_L0_0w m n vs k) → ((loopK CX (callK CX prims m) laws_szPairS_fi laws_szPairS_c n) = (patL [0, 1, 0, 1, 1, 1] laws_szPairS_s0_0 (laws_szPairS_L0_0w m n) (loopK CX (callK CX prims m) laws_szPairS_fi laws_szPairS_c n))) := by
    intro n h0
    rw [← patL_eq h0]
  induction n with
  | zero => exact ⟨fun vs k => rfl, hl 0 (fun vs k => rfl)⟩
  | succ n ihn =>
    have hn := ihn.2
    have h0 : ∀ vs k, loopK CX (callK CX prims m) laws_szPairS_fi laws_szPairS_c (n + 1) [0, 1, 0, 1, 1, 1] (fPack laws_szPairS_s0_0 vs) k = laws_szPairS_L0_0w m (n + 1) vs k := fun vs k =>
      (stepL_congr (laws_szPairS_cf m) hn [0, 1, 0, 1, 1, 1] _ _).trans (by kernel_rfl)
    exact ⟨h0, hl (n + 1) h0⟩
theorem laws_szPairS_eq (m : Nat) : ∀ vs k, callK CX prims m 120 (fArgs laws_szPairS_a vs) k = laws_szPairS_w m vs k := by
  cases m with
  | zero => exact fun vs k => rfl
  | succ m => exact fun vs k => Eq.trans (b := bodyK CX (callK CX prims m) (loopK CX (callK CX prims m) laws_szPairS_fi laws_szPairS_c m) 120 Try.f120 laws_szPairS_c (fArgs laws_szPairS_a vs) k) (by kernel_rfl) ((bodyK_congr (laws_szPairS_cf m) ((laws_szPairS_lf m m).2) 120 Try.f120 laws_szPairS_c (fArgs laws_szPairS_a vs) k).trans (by kernel_rfl))

/-! loop.example/g00244/laws.szShard -/
noncomputable def laws_szShard : Nat → T → T → T → T → T → T → (T → An) → An
  | 0, _, _, _, _, _, _, _ => .bad
  | m + 1, x0, x1, x2, x3, x4, x5, k0 =>
    laws_szRecS m (T.l x1.rows) x5
    (fun y0 => cond (decide (y0.int < 0))
    (k0 (T.i (-1)))
    (laws_szPairS m (T.l x3.rows) y0
    (fun y1 => cond (decide (y1.int < 0))
    (k0 (T.i (-1)))
    (laws_szRecS m (T.l x4.rows) y1
    (fun y2 => cond (decide (y2.int < 0))
    (k0 (T.i (-1)))
    (k0 y2))))))
noncomputable def laws_szShard_a : List Arg := [.agg [.sc (.int .i64) (.l []), .fz [.sc (.int .i64), .sc (.int .i64), .sl [.sc (.int .i64), .sc (.str), .sc (.str)]] [], .sc (.int .i64) (.l []), .fz [.sc (.str), .sc (.str)] [], .fz [.sc (.int .i64), .sc (.int .i64), .sl [.sc (.int .i64), .sc (.str), .sc (.str)]] []], .one (.sc (.int .i64) (.l []))]
noncomputable def laws_szShard_w (m : Nat) (vs : List T) (k : Ret → An) : An := laws_szShard m (vs.headD dflt) (vs.tail.headD dflt) (vs.tail.tail.headD dflt) (vs.tail.tail.tail.headD dflt) (vs.tail.tail.tail.tail.headD dflt) (vs.tail.tail.tail.tail.tail.headD dflt) (fun z0 => k ⟨[.one (.sc (.int .i64) z0)], [[none, none, none, none, none], [none]]⟩)
theorem laws_szShard_cf (m : Nat) : callK CX prims m = (patC 132 laws_szRecS_a (laws_szRecS_w m) (patC 120 laws_szPairS_a (laws_szPairS_w m) (callK CX prims m))) := by
  rw [← patC_eq (fun vs k => laws_szPairS_eq m vs k), ← patC_eq (fun vs k => laws_szRecS_eq m vs k)]
noncomputable def laws_szShard_c : Code := (Try.f91.body).getD .skip
noncomputable def laws_szShard_fi : Fi := ⟨91, 2, 24, 16⟩
theorem laws_szShard_eq (m : Nat) : ∀ vs k, callK CX prims m 91 (fArgs laws_szShard_a vs) k = laws_szShard_w m vs k := by
  cases m with
  | zero => exact fun vs k => rfl
  | succ m => exact fun vs k => Eq.trans (b := bodyK CX (callK CX prims m) (loopK CX (callK CX prims m) laws_szShard_fi laws_szShard_c m) 91 Try.f91 laws_szShard_c (fArgs laws_szShard_a vs) k) (by kernel_rfl) ((bodyK_congr (laws_szShard_cf m) rfl 91 Try.f91 laws_szShard_c (fArgs laws_szShard_a vs) k).trans (by kernel_rfl))

/-! loop.example/g00244/laws.szShardS -/
noncomputable def laws_szShardS_L0_0 (m : Nat) : Nat → T → T → T → (T → An) → (T → An) → An
  | 0, _, _, _, _, _ => .bad
  | n + 1, x0, x1, x2, k0, k1 =>
    cond (decide (x2.int < (x0.rows.length : Int)))
    (cond (decide (0 ≤ x2.int ∧ x2.int < (x0.rows.length : Int)))
    (laws_szShard m ((x0.rows.getD (Int.toNat x2.int) []).getD 0 dflt) (T.l ((x0.rows.getD (Int.toNat x2.int) []).getD 1 dflt).rows) ((x0.rows.getD (Int.toNat x2.int) []).getD 2 dflt) (T.l ((x0.rows.getD (Int.toNat x2.int) []).getD 3 dflt).rows) (T.l ((x0.rows.getD (Int.toNat x2.int) []).getD 4 dflt).rows) x1
    (fun y0 => cond (decide (y0.int < 0))
    (k0 (T.i (-1)))
    (laws_szShardS_L0_0 m n x0 y0 (T.i (IntKind.i64.wrap (x2.int + 1))) k0 k1)))
    (.bad))
    (k1 x1)
noncomputable def laws_szShardS_s0_0 : Pack := ⟨[(0, .one ⟨.sn [], .sl [.sc (.int .i64), .sl [.sc (.int .i64), .sc (.int .i64), .sl [.sc (.int .i64), .sc (.str), .sc (.str)]], .sc (.int .i64), .sl [.sc (.str), .sc (.str)], .sl [.sc (.int .i64), .sc (.int .i64), .sl [.sc (.int .i64), .sc (.str), .sc (.str)]]], .l []⟩), (1, .one ⟨.sc, .sc (.int .i64), .l []⟩), (5, .one ⟨.sc, .sc (.int .i64), .l []⟩)], []⟩
noncomputable def laws_szShardS_e0_0 : Pack := ⟨[(4, .one ⟨.sc, .sc (.int .i64), .l []⟩)], []⟩
noncomputable def laws_szShardS_e0_1 : Pack := ⟨[(1, .one ⟨.sc, .sc (.int .i64), .l []⟩)], []⟩
noncomputable def laws_szShardS_L0_0w (m n : Nat) (vs : List T) (k : Ctl → Pack → An) : An := laws_szShardS_L0_0 m n (vs.headD dflt) (vs.tail.headD dflt) (vs.tail.tail.headD dflt) (fun z0 => k .ret (fPack laws_szShardS_e0_0 [z0])) (fun z0 => k (.exit 0) (fPack laws_szShardS_e0_1 [z0]))
noncomputable def laws_szShardS : Nat → T → T → (T → An) → An
  | 0, _, _, _ => .bad
  | m + 1, x0, x1, k0 =>
    cond (decide ((IntKind.i64.wrap (x1.int - (x0.rows.length : Int))) < 0))
    (k0 (T.i (-1)))
    (laws_szShardS_L0_0 m m (T.l x0.rows) (T.i (IntKind.i64.wrap (x1.int - (x0.rows.length : Int)))) (T.i 0)
    (fun y1 => k0 y1)
    (fun y2 => k0 y2))
noncomputable def laws_szShardS_a : List Arg := [.one (.fz [.sc (.int .i64), .sl [.sc (.int .i64), .sc (.int .i64), .sl [.sc (.int .i64), .sc (.str), .sc (.str)]], .sc (.int .i64), .sl [.sc (.str), .sc (.str)], .sl [.sc (.int .i64), .sc (.int .i64), .sl [.sc (.int .i64), .sc (.str), .sc (.str)]]] []), .one (.sc (.int .i64) (.l []))]
noncomputable def laws_szShardS_w (m : Nat) (vs : List T) (k : Ret → An) : An := laws_szShardS m (vs.headD dflt) (vs.tail.headD dflt) (fun z0 => k ⟨[.one (.sc (.int .i64) z0)], [[none], [none]]⟩)
theorem laws_szShardS_cf (m : Nat) : callK CX prims m = (patC 91 laws_szShard_a (laws_szShard_w m) (callK CX prims m)) := by
  rw [← patC_eq (fun vs k => laws_szShard_eq m vs k)]
noncomputable def laws_szShardS_c : Code := (Try.f44.body).getD .skip
noncomputable def laws_szShardS_fi : Fi := ⟨44, 2, 27, 16⟩
theorem laws_szShardS_lf (m : Nat) : ∀ n, (∀ vs k, loopK CX (callK CX prims m) laws_szShardS_fi laws_szShardS_c n [0, 1, 0, 1, 1, 1] (fPack laws_szShardS_s0_0 vs) k = laws_szShardS_L0_0w m n vs k) ∧ ((loopK CX (callK CX prims m) laws_szShardS_fi laws_szShardS_c n) = (patL [0, 1, 0, 1, 1, 1] laws_szShardS_s0_0 (laws_szShardS_L0_0w m n) (loopK CX (callK CX prims m) laws_szShardS_fi laws_szShardS_c n))) := by
  intro n
  have hl : ∀ n, (∀ vs k, loopK CX (callK CX prims m) laws_szShardS_fi laws_szShardS_c n [0, 1, 0, 1, 1, 1] (fPack laws_szShardS_s0_0 vs) k = laws_szShardS_L0_0w m n vs k) → ((loopK CX (callK CX prims m) laws_szShardS_fi laws_szShardS_c n) = (patL [0, 1, 0, 1, 1, 1] laws_szShardS_s0_0 (laws_szShardS_L0_0w m n) (loopK CX (callK CX prims m) laws_szShardS_fi laws_szShardS_c n))) := by
    intro n h0
    rw [← patL_eq h0]
  induction n with
  | zero => exact ⟨fun vs k => rfl, hl 0 (fun vs k => rfl)⟩
  | succ n ihn =>
    have hn := ihn.2
    have h0 : ∀ vs k, loopK CX (callK CX prims m) laws_szShardS_fi laws_szShardS_c (n + 1) [0, 1, 0, 1, 1, 1] (fPack laws_szShardS_s0_0 vs) k = laws_szShardS_L0_0w m (n + 1) vs k := fun vs k =>
      (stepL_congr (laws_szShardS_cf m) hn [0, 1, 0, 1, 1, 1] _ _).trans (by kernel_rfl)
    exact ⟨h0, hl (n + 1) h0⟩
theorem laws_szShardS_eq (m : Nat) : ∀ vs k, callK CX prims m 44 (fArgs laws_szShardS_a vs) k = laws_szShardS_w m vs k := by
  cases m with
  | zero => exact fun vs k => rfl
  | succ m => exact fun vs k => Eq.trans (b := bodyK CX (callK CX prims m) (loopK CX (callK CX prims m) laws_szShardS_fi laws_szShardS_c m) 44 Try.f44 laws_szShardS_c (fArgs laws_szShardS_a vs) k) (by kernel_rfl) ((bodyK_congr (laws_szShardS_cf m) ((laws_szShardS_lf m m).2) 44 Try.f44 laws_szShardS_c (fArgs laws_szShardS_a vs) k).trans (by kernel_rfl))

/-! loop.example/g00244/laws.szWord -/
noncomputable def laws_szWord : Nat → T → T → T → T → T → T → (T → An) → An
  | 0, _, _, _, _, _, _, _ => .bad
  | m + 1, x0, x1, x2, x3, x4, x5, k0 =>
    laws_szOpS m (T.l x3.rows) x5
    (fun y0 => cond (decide (y0.int < 0))
    (k0 (T.i (-1)))
    (k0 y0))
noncomputable def laws_szWord_a : List Arg := [.agg [.sc (.int .i64) (.l []), .sc (.int .i64) (.l []), .sc (.int .i64) (.l []), .fz [.sc (.int .i64), .sc (.str), .sc (.str)] [], .sc (.bool) (.l [])], .one (.sc (.int .i64) (.l []))]
noncomputable def laws_szWord_w (m : Nat) (vs : List T) (k : Ret → An) : An := laws_szWord m (vs.headD dflt) (vs.tail.headD dflt) (vs.tail.tail.headD dflt) (vs.tail.tail.tail.headD dflt) (vs.tail.tail.tail.tail.headD dflt) (vs.tail.tail.tail.tail.tail.headD dflt) (fun z0 => k ⟨[.one (.sc (.int .i64) z0)], [[none, none, none, none, none], [none]]⟩)
theorem laws_szWord_cf (m : Nat) : callK CX prims m = (patC 133 laws_szOpS_a (laws_szOpS_w m) (callK CX prims m)) := by
  rw [← patC_eq (fun vs k => laws_szOpS_eq m vs k)]
noncomputable def laws_szWord_c : Code := (Try.f92.body).getD .skip
noncomputable def laws_szWord_fi : Fi := ⟨92, 2, 12, 16⟩
theorem laws_szWord_eq (m : Nat) : ∀ vs k, callK CX prims m 92 (fArgs laws_szWord_a vs) k = laws_szWord_w m vs k := by
  cases m with
  | zero => exact fun vs k => rfl
  | succ m => exact fun vs k => Eq.trans (b := bodyK CX (callK CX prims m) (loopK CX (callK CX prims m) laws_szWord_fi laws_szWord_c m) 92 Try.f92 laws_szWord_c (fArgs laws_szWord_a vs) k) (by kernel_rfl) ((bodyK_congr (laws_szWord_cf m) rfl 92 Try.f92 laws_szWord_c (fArgs laws_szWord_a vs) k).trans (by kernel_rfl))

/-! loop.example/g00244/laws.szWordS -/
noncomputable def laws_szWordS_L0_0 (m : Nat) : Nat → T → T → T → (T → An) → (T → An) → An
  | 0, _, _, _, _, _ => .bad
  | n + 1, x0, x1, x2, k0, k1 =>
    cond (decide (x2.int < (x0.rows.length : Int)))
    (cond (decide (0 ≤ x2.int ∧ x2.int < (x0.rows.length : Int)))
    (laws_szWord m ((x0.rows.getD (Int.toNat x2.int) []).getD 0 dflt) ((x0.rows.getD (Int.toNat x2.int) []).getD 1 dflt) ((x0.rows.getD (Int.toNat x2.int) []).getD 2 dflt) (T.l ((x0.rows.getD (Int.toNat x2.int) []).getD 3 dflt).rows) ((x0.rows.getD (Int.toNat x2.int) []).getD 4 dflt) x1
    (fun y0 => cond (decide (y0.int < 0))
    (k0 (T.i (-1)))
    (laws_szWordS_L0_0 m n x0 y0 (T.i (IntKind.i64.wrap (x2.int + 1))) k0 k1)))
    (.bad))
    (k1 x1)
noncomputable def laws_szWordS_s0_0 : Pack := ⟨[(0, .one ⟨.sn [], .sl [.sc (.int .i64), .sc (.int .i64), .sc (.int .i64), .sl [.sc (.int .i64), .sc (.str), .sc (.str)], .sc (.bool)], .l []⟩), (1, .one ⟨.sc, .sc (.int .i64), .l []⟩), (5, .one ⟨.sc, .sc (.int .i64), .l []⟩)], []⟩
noncomputable def laws_szWordS_e0_0 : Pack := ⟨[(4, .one ⟨.sc, .sc (.int .i64), .l []⟩)], []⟩
noncomputable def laws_szWordS_e0_1 : Pack := ⟨[(1, .one ⟨.sc, .sc (.int .i64), .l []⟩)], []⟩
noncomputable def laws_szWordS_L0_0w (m n : Nat) (vs : List T) (k : Ctl → Pack → An) : An := laws_szWordS_L0_0 m n (vs.headD dflt) (vs.tail.headD dflt) (vs.tail.tail.headD dflt) (fun z0 => k .ret (fPack laws_szWordS_e0_0 [z0])) (fun z0 => k (.exit 0) (fPack laws_szWordS_e0_1 [z0]))
noncomputable def laws_szWordS : Nat → T → T → (T → An) → An
  | 0, _, _, _ => .bad
  | m + 1, x0, x1, k0 =>
    cond (decide ((IntKind.i64.wrap (x1.int - (x0.rows.length : Int))) < 0))
    (k0 (T.i (-1)))
    (laws_szWordS_L0_0 m m (T.l x0.rows) (T.i (IntKind.i64.wrap (x1.int - (x0.rows.length : Int)))) (T.i 0)
    (fun y1 => k0 y1)
    (fun y2 => k0 y2))
noncomputable def laws_szWordS_a : List Arg := [.one (.fz [.sc (.int .i64), .sc (.int .i64), .sc (.int .i64), .sl [.sc (.int .i64), .sc (.str), .sc (.str)], .sc (.bool)] []), .one (.sc (.int .i64) (.l []))]
noncomputable def laws_szWordS_w (m : Nat) (vs : List T) (k : Ret → An) : An := laws_szWordS m (vs.headD dflt) (vs.tail.headD dflt) (fun z0 => k ⟨[.one (.sc (.int .i64) z0)], [[none], [none]]⟩)
theorem laws_szWordS_cf (m : Nat) : callK CX prims m = (patC 92 laws_szWord_a (laws_szWord_w m) (callK CX prims m)) := by
  rw [← patC_eq (fun vs k => laws_szWord_eq m vs k)]
noncomputable def laws_szWordS_c : Code := (Try.f45.body).getD .skip
noncomputable def laws_szWordS_fi : Fi := ⟨45, 2, 27, 16⟩
theorem laws_szWordS_lf (m : Nat) : ∀ n, (∀ vs k, loopK CX (callK CX prims m) laws_szWordS_fi laws_szWordS_c n [0, 1, 0, 1, 1, 1] (fPack laws_szWordS_s0_0 vs) k = laws_szWordS_L0_0w m n vs k) ∧ ((loopK CX (callK CX prims m) laws_szWordS_fi laws_szWordS_c n) = (patL [0, 1, 0, 1, 1, 1] laws_szWordS_s0_0 (laws_szWordS_L0_0w m n) (loopK CX (callK CX prims m) laws_szWordS_fi laws_szWordS_c n))) := by
  intro n
  have hl : ∀ n, (∀ vs k, loopK CX (callK CX prims m) laws_szWordS_fi laws_szWordS_c n [0, 1, 0, 1, 1, 1] (fPack laws_szWordS_s0_0 vs) k = laws_szWordS_L0_0w m n vs k) → ((loopK CX (callK CX prims m) laws_szWordS_fi laws_szWordS_c n) = (patL [0, 1, 0, 1, 1, 1] laws_szWordS_s0_0 (laws_szWordS_L0_0w m n) (loopK CX (callK CX prims m) laws_szWordS_fi laws_szWordS_c n))) := by
    intro n h0
    rw [← patL_eq h0]
  induction n with
  | zero => exact ⟨fun vs k => rfl, hl 0 (fun vs k => rfl)⟩
  | succ n ihn =>
    have hn := ihn.2
    have h0 : ∀ vs k, loopK CX (callK CX prims m) laws_szWordS_fi laws_szWordS_c (n + 1) [0, 1, 0, 1, 1, 1] (fPack laws_szWordS_s0_0 vs) k = laws_szWordS_L0_0w m (n + 1) vs k := fun vs k =>
      (stepL_congr (laws_szWordS_cf m) hn [0, 1, 0, 1, 1, 1] _ _).trans (by kernel_rfl)
    exact ⟨h0, hl (n + 1) h0⟩
theorem laws_szWordS_eq (m : Nat) : ∀ vs k, callK CX prims m 45 (fArgs laws_szWordS_a vs) k = laws_szWordS_w m vs k := by
  cases m with
  | zero => exact fun vs k => rfl
  | succ m => exact fun vs k => Eq.trans (b := bodyK CX (callK CX prims m) (loopK CX (callK CX prims m) laws_szWordS_fi laws_szWordS_c m) 45 Try.f45 laws_szWordS_c (fArgs laws_szWordS_a vs) k) (by kernel_rfl) ((bodyK_congr (laws_szWordS_cf m) ((laws_szWordS_lf m m).2) 45 Try.f45 laws_szWordS_c (fArgs laws_szWordS_a vs) k).trans (by kernel_rfl))

/-! loop.example/g00244/laws.szOrder -/
noncomputable def laws_szOrder : Nat → T → T → T → (T → An) → An
  | 0, _, _, _, _ => .bad
  | m + 1, x0, x1, x2, k0 =>
    laws_szOpS m (T.l x1.rows) x2
    (fun y0 => cond (decide (y0.int < 0))
    (k0 (T.i (-1)))
    (k0 y0))
noncomputable def laws_szOrder_a : List Arg := [.agg [.sc (.int .i64) (.l []), .fz [.sc (.int .i64), .sc (.str), .sc (.str)] []], .one (.sc (.int .i64) (.l []))]
noncomputable def laws_szOrder_w (m : Nat) (vs : List T) (k : Ret → An) : An := laws_szOrder m (vs.headD dflt) (vs.tail.headD dflt) (vs.tail.tail.headD dflt) (fun z0 => k ⟨[.one (.sc (.int .i64) z0)], [[none, none], [none]]⟩)
theorem laws_szOrder_cf (m : Nat) : callK CX prims m = (patC 133 laws_szOpS_a (laws_szOpS_w m) (callK CX prims m)) := by
  rw [← patC_eq (fun vs k => laws_szOpS_eq m vs k)]
noncomputable def laws_szOrder_c : Code := (Try.f93.body).getD .skip
noncomputable def laws_szOrder_fi : Fi := ⟨93, 2, 12, 16⟩
theorem laws_szOrder_eq (m : Nat) : ∀ vs k, callK CX prims m 93 (fArgs laws_szOrder_a vs) k = laws_szOrder_w m vs k := by
  cases m with
  | zero => exact fun vs k => rfl
  | succ m => exact fun vs k => Eq.trans (b := bodyK CX (callK CX prims m) (loopK CX (callK CX prims m) laws_szOrder_fi laws_szOrder_c m) 93 Try.f93 laws_szOrder_c (fArgs laws_szOrder_a vs) k) (by kernel_rfl) ((bodyK_congr (laws_szOrder_cf m) rfl 93 Try.f93 laws_szOrder_c (fArgs laws_szOrder_a vs) k).trans (by kernel_rfl))

/-! loop.example/g00244/laws.szOrderS -/
noncomputable def laws_szOrderS_L0_0 (m : Nat) : Nat → T → T → T → (T → An) → (T → An) → An
  | 0, _, _, _, _, _ => .bad
  | n + 1, x0, x1, x2, k0, k1 =>
    cond (decide (x2.int < (x0.rows.length : Int)))
    (cond (decide (0 ≤ x2.int ∧ x2.int < (x0.rows.length : Int)))
    (laws_szOrder m ((x0.rows.getD (Int.toNat x2.int) []).getD 0 dflt) (T.l ((x0.rows.getD (Int.toNat x2.int) []).getD 1 dflt).rows) x1
    (fun y0 => cond (decide (y0.int < 0))
    (k0 (T.i (-1)))
    (laws_szOrderS_L0_0 m n x0 y0 (T.i (IntKind.i64.wrap (x2.int + 1))) k0 k1)))
    (.bad))
    (k1 x1)
noncomputable def laws_szOrderS_s0_0 : Pack := ⟨[(0, .one ⟨.sn [], .sl [.sc (.int .i64), .sl [.sc (.int .i64), .sc (.str), .sc (.str)]], .l []⟩), (1, .one ⟨.sc, .sc (.int .i64), .l []⟩), (5, .one ⟨.sc, .sc (.int .i64), .l []⟩)], []⟩
noncomputable def laws_szOrderS_e0_0 : Pack := ⟨[(4, .one ⟨.sc, .sc (.int .i64), .l []⟩)], []⟩
noncomputable def laws_szOrderS_e0_1 : Pack := ⟨[(1, .one ⟨.sc, .sc (.int .i64), .l []⟩)], []⟩
noncomputable def laws_szOrderS_L0_0w (m n : Nat) (vs : List T) (k : Ctl → Pack → An) : An := laws_szOrderS_L0_0 m n (vs.headD dflt) (vs.tail.headD dflt) (vs.tail.tail.headD dflt) (fun z0 => k .ret (fPack laws_szOrderS_e0_0 [z0])) (fun z0 => k (.exit 0) (fPack laws_szOrderS_e0_1 [z0]))
noncomputable def laws_szOrderS : Nat → T → T → (T → An) → An
  | 0, _, _, _ => .bad
  | m + 1, x0, x1, k0 =>
    cond (decide ((IntKind.i64.wrap (x1.int - (x0.rows.length : Int))) < 0))
    (k0 (T.i (-1)))
    (laws_szOrderS_L0_0 m m (T.l x0.rows) (T.i (IntKind.i64.wrap (x1.int - (x0.rows.length : Int)))) (T.i 0)
    (fun y1 => k0 y1)
    (fun y2 => k0 y2))
noncomputable def laws_szOrderS_a : List Arg := [.one (.fz [.sc (.int .i64), .sl [.sc (.int .i64), .sc (.str), .sc (.str)]] []), .one (.sc (.int .i64) (.l []))]
noncomputable def laws_szOrderS_w (m : Nat) (vs : List T) (k : Ret → An) : An := laws_szOrderS m (vs.headD dflt) (vs.tail.headD dflt) (fun z0 => k ⟨[.one (.sc (.int .i64) z0)], [[none], [none]]⟩)
theorem laws_szOrderS_cf (m : Nat) : callK CX prims m = (patC 93 laws_szOrder_a (laws_szOrder_w m) (callK CX prims m)) := by
  rw [← patC_eq (fun vs k => laws_szOrder_eq m vs k)]
noncomputable def laws_szOrderS_c : Code := (Try.f46.body).getD .skip
noncomputable def laws_szOrderS_fi : Fi := ⟨46, 2, 27, 16⟩
theorem laws_szOrderS_lf (m : Nat) : ∀ n, (∀ vs k, loopK CX (callK CX prims m) laws_szOrderS_fi laws_szOrderS_c n [0, 1, 0, 1, 1, 1] (fPack laws_szOrderS_s0_0 vs) k = laws_szOrderS_L0_0w m n vs k) ∧ ((loopK CX (callK CX prims m) laws_szOrderS_fi laws_szOrderS_c n) = (patL [0, 1, 0, 1, 1, 1] laws_szOrderS_s0_0 (laws_szOrderS_L0_0w m n) (loopK CX (callK CX prims m) laws_szOrderS_fi laws_szOrderS_c n))) := by
  intro n
  have hl : ∀ n, (∀ vs k, loopK CX (callK CX prims m) laws_szOrderS_fi laws_szOrderS_c n [0, 1, 0, 1, 1, 1] (fPack laws_szOrderS_s0_0 vs) k = laws_szOrderS_L0_0w m n vs k) → ((loopK CX (callK CX prims m) laws_szOrderS_fi laws_szOrderS_c n) = (patL [0, 1, 0, 1, 1, 1] laws_szOrderS_s0_0 (laws_szOrderS_L0_0w m n) (loopK CX (callK CX prims m) laws_szOrderS_fi laws_szOrderS_c n))) := by
    intro n h0
    rw [← patL_eq h0]
  induction n with
  | zero => exact ⟨fun vs k => rfl, hl 0 (fun vs k => rfl)⟩
  | succ n ihn =>
    have hn := ihn.2
    have h0 : ∀ vs k, loopK CX (callK CX prims m) laws_szOrderS_fi laws_szOrderS_c (n + 1) [0, 1, 0, 1, 1, 1] (fPack laws_szOrderS_s0_0 vs) k = laws_szOrderS_L0_0w m (n + 1) vs k := fun vs k =>
      (stepL_congr (laws_szOrderS_cf m) hn [0, 1, 0, 1, 1, 1] _ _).trans (by kernel_rfl)
    exact ⟨h0, hl (n + 1) h0⟩
theorem laws_szOrderS_eq (m : Nat) : ∀ vs k, callK CX prims m 46 (fArgs laws_szOrderS_a vs) k = laws_szOrderS_w m vs k := by
  cases m with
  | zero => exact fun vs k => rfl
  | succ m => exact fun vs k => Eq.trans (b := bodyK CX (callK CX prims m) (loopK CX (callK CX prims m) laws_szOrderS_fi laws_szOrderS_c m) 46 Try.f46 laws_szOrderS_c (fArgs laws_szOrderS_a vs) k) (by kernel_rfl) ((bodyK_congr (laws_szOrderS_cf m) ((laws_szOrderS_lf m m).2) 46 Try.f46 laws_szOrderS_c (fArgs laws_szOrderS_a vs) k).trans (by kernel_rfl))

/-! loop.example/g00244/laws.szWorld -/
noncomputable def laws_szWorld : Nat → T → T → T → T → T → T → T → T → T → T → T → (T → An) → An
  | 0, _, _, _, _, _, _, _, _, _, _, _, _ => .bad
  | m + 1, x0, x1, x2, x3, x4, x5, x6, x7, x8, x9, x10, k0 =>
    laws_szCoord m x0 x1 x2 (T.l x3.rows) (T.l x4.rows) x5 x10
    (fun y0 => cond (decide (y0.int < 0))
    (k0 (T.i (-1)))
    (laws_szShardS m (T.l x6.rows) y0
    (fun y1 => cond (decide (y1.int < 0))
    (k0 (T.i (-1)))
    (laws_szWordS m (T.l x7.rows) y1
    (fun y2 => cond (decide (y2.int < 0))
    (k0 (T.i (-1)))
    (laws_szWordS m (T.l x8.rows) y2
    (fun y3 => cond (decide (y3.int < 0))
    (k0 (T.i (-1)))
    (laws_szOrderS m (T.l x9.rows) y3
    (fun y4 => cond (decide (y4.int < 0))
    (k0 (T.i (-1)))
    (k0 y4))))))))))
noncomputable def laws_szWorld_a : List Arg := [.agg [.sc (.int .i64) (.l []), .sc (.int .i64) (.l []), .sc (.int .i64) (.l []), .fz [.sc (.int .i64), .sl [.sc (.int .i64), .sc (.str), .sc (.str)], .sc (.int .i64), .sl [.sc (.int .i64)]] [], .fz [.sc (.int .i64), .sc (.bool)] [], .sc (.int .i64) (.l []), .fz [.sc (.int .i64), .sl [.sc (.int .i64), .sc (.int .i64), .sl [.sc (.int .i64), .sc (.str), .sc (.str)]], .sc (.int .i64), .sl [.sc (.str), .sc (.str)], .sl [.sc (.int .i64), .sc (.int .i64), .sl [.sc (.int .i64), .sc (.str), .sc (.str)]]] [], .fz [.sc (.int .i64), .sc (.int .i64), .sc (.int .i64), .sl [.sc (.int .i64), .sc (.str), .sc (.str)], .sc (.bool)] [], .fz [.sc (.int .i64), .sc (.int .i64), .sc (.int .i64), .sl [.sc (.int .i64), .sc (.str), .sc (.str)], .sc (.bool)] [], .fz [.sc (.int .i64), .sl [.sc (.int .i64), .sc (.str), .sc (.str)]] []], .one (.sc (.int .i64) (.l []))]
noncomputable def laws_szWorld_w (m : Nat) (vs : List T) (k : Ret → An) : An := laws_szWorld m (vs.headD dflt) (vs.tail.headD dflt) (vs.tail.tail.headD dflt) (vs.tail.tail.tail.headD dflt) (vs.tail.tail.tail.tail.headD dflt) (vs.tail.tail.tail.tail.tail.headD dflt) (vs.tail.tail.tail.tail.tail.tail.headD dflt) (vs.tail.tail.tail.tail.tail.tail.tail.headD dflt) (vs.tail.tail.tail.tail.tail.tail.tail.tail.headD dflt) (vs.tail.tail.tail.tail.tail.tail.tail.tail.tail.headD dflt) (vs.tail.tail.tail.tail.tail.tail.tail.tail.tail.tail.headD dflt) (fun z0 => k ⟨[.one (.sc (.int .i64) z0)], [[none, none, none, none, none, none, none, none, none, none], [none]]⟩)
theorem laws_szWorld_cf (m : Nat) : callK CX prims m = (patC 43 laws_szCoord_a (laws_szCoord_w m) (patC 44 laws_szShardS_a (laws_szShardS_w m) (patC 45 laws_szWordS_a (laws_szWordS_w m) (patC 46 laws_szOrderS_a (laws_szOrderS_w m) (callK CX prims m))))) := by
  rw [← patC_eq (fun vs k => laws_szOrderS_eq m vs k), ← patC_eq (fun vs k => laws_szWordS_eq m vs k), ← patC_eq (fun vs k => laws_szShardS_eq m vs k), ← patC_eq (fun vs k => laws_szCoord_eq m vs k)]
noncomputable def laws_szWorld_c : Code := (Try.f10.body).getD .skip
noncomputable def laws_szWorld_fi : Fi := ⟨10, 2, 36, 16⟩
theorem laws_szWorld_eq (m : Nat) : ∀ vs k, callK CX prims m 10 (fArgs laws_szWorld_a vs) k = laws_szWorld_w m vs k := by
  cases m with
  | zero => exact fun vs k => rfl
  | succ m => exact fun vs k => Eq.trans (b := bodyK CX (callK CX prims m) (loopK CX (callK CX prims m) laws_szWorld_fi laws_szWorld_c m) 10 Try.f10 laws_szWorld_c (fArgs laws_szWorld_a vs) k) (by kernel_rfl) ((bodyK_congr (laws_szWorld_cf m) rfl 10 Try.f10 laws_szWorld_c (fArgs laws_szWorld_a vs) k).trans (by kernel_rfl))

/-! loop.example/g00244/laws.toOp -/
noncomputable def laws_toOp : Nat → T → T → T → (T → T → T → An) → An
  | 0, _, _, _, _ => .bad
  | m + 1, x0, x1, x2, k0 =>
    k0 x0 x1 x2
noncomputable def laws_toOp_a : List Arg := [.agg [.sc (.int .i64) (.l []), .sc (.str) (.l []), .sc (.str) (.l [])]]
noncomputable def laws_toOp_w (m : Nat) (vs : List T) (k : Ret → An) : An := laws_toOp m (vs.headD dflt) (vs.tail.headD dflt) (vs.tail.tail.headD dflt) (fun z0 z1 z2 => k ⟨[.agg [.sc (.int .i64) z0, .sc (.str) z1, .sc (.str) z2]], [[none, none, none]]⟩)
theorem laws_toOp_cf (m : Nat) : callK CX prims m = (callK CX prims m) := by
  rfl
noncomputable def laws_toOp_c : Code := (Try.f163.body).getD .skip
noncomputable def laws_toOp_fi : Fi := ⟨163, 1, 14, 4⟩
theorem laws_toOp_eq (m : Nat) : ∀ vs k, callK CX prims m 163 (fArgs laws_toOp_a vs) k = laws_toOp_w m vs k := by
  cases m with
  | zero => exact fun vs k => rfl
  | succ m => exact fun vs k => Eq.trans (b := bodyK CX (callK CX prims m) (loopK CX (callK CX prims m) laws_toOp_fi laws_toOp_c m) 163 Try.f163 laws_toOp_c (fArgs laws_toOp_a vs) k) (by kernel_rfl) ((bodyK_congr (laws_toOp_cf m) rfl 163 Try.f163 laws_toOp_c (fArgs laws_toOp_a vs) k).trans (by kernel_rfl))

/-! loop.example/g00244/laws.toOpS -/
noncomputable def laws_toOpS_L0_0 (m : Nat) : Nat → T → T → T → (T → An) → An
  | 0, _, _, _, _ => .bad
  | n + 1, x0, x1, x2, k0 =>
    cond (decide (x1.int < (x0.rows.length : Int)))
    (cond (decide (0 ≤ x1.int ∧ x1.int < (x0.rows.length : Int)))
    (laws_toOp m ((x0.rows.getD (Int.toNat x1.int) []).getD 0 dflt) ((x0.rows.getD (Int.toNat x1.int) []).getD 1 dflt) ((x0.rows.getD (Int.toNat x1.int) []).getD 2 dflt)
    (fun y0 y1 y2 => cond (decide (0 ≤ x1.int ∧ x1.int < (x2.rows.length : Int)))
    (cond (decide ((Int.toNat x1.int) < x2.rows.length))
    (laws_toOpS_L0_0 m n x0 (T.i (IntKind.i64.wrap (x1.int + 1))) (T.l (x2.rows.set (Int.toNat x1.int) ((((x2.rows.getD (Int.toNat x1.int) []).set 0 y0).set 1 y1).set 2 y2))) k0)
    (.bad))
    (.bad)))
    (.bad))
    (k0 (T.l x2.rows))
noncomputable def laws_toOpS_s0_0 : Pack := ⟨[(0, .one ⟨.sn [], .sl [.sc (.int .i64), .sc (.str), .sc (.str)], .l []⟩), (3, .one ⟨.al [1000000, 0] 0, .sl [.sc (.int .i64), .sc (.str), .sc (.str)], .l []⟩), (4, .one ⟨.sc, .sc (.int .i64), .l []⟩)], [([1000000, 0], .row [.sc (.int .i64), .sc (.str), .sc (.str)] [.F, .F, .F] [])]⟩
noncomputable def laws_toOpS_e0_0 : Pack := ⟨[(3, .one ⟨.al [1000000, 0] 0, .sl [.sc (.int .i64), .sc (.str), .sc (.str)], .l []⟩)], [([1000000, 0], .row [.sc (.int .i64), .sc (.str), .sc (.str)] [.F, .F, .F] [])]⟩
noncomputable def laws_toOpS_L0_0w (m n : Nat) (vs : List T) (k : Ctl → Pack → An) : An := laws_toOpS_L0_0 m n (vs.headD dflt) (vs.tail.headD dflt) (vs.tail.tail.headD dflt) (fun z0 => k (.exit 0) (fPack laws_toOpS_e0_0 [z0]))
noncomputable def laws_toOpS : Nat → T → (T → An) → An
  | 0, _, _ => .bad
  | m + 1, x0, k0 =>
    cond (decide (0 ≤ (x0.rows.length : Int) ∧ (x0.rows.length : Int) ≤ (x0.rows.length : Int)))
    (cond (decide ((x0.rows.length : Int) * ((40 : Nat) : Int) ≤ (maxCells : Int)))
    (laws_toOpS_L0_0 m m (T.l x0.rows) (T.i 0) (T.l (List.replicate (Int.toNat (x0.rows.length : Int)) [(T.i 0), (T.s (⟨#[]⟩ : ByteArray)), (T.s (⟨#[]⟩ : ByteArray))]))
    (fun y3 => k0 (T.l y3.rows)))
    (.bad))
    (.bad)
noncomputable def laws_toOpS_a : List Arg := [.one (.fz [.sc (.int .i64), .sc (.str), .sc (.str)] [])]
noncomputable def laws_toOpS_w (m : Nat) (vs : List T) (k : Ret → An) : An := laws_toOpS m (vs.headD dflt) (fun z0 => k ⟨[.one (.own [1000000, 0] [.sc (.int .i64), .sc (.str), .sc (.str)] [.F, .F, .F] z0.rows)], [[none]]⟩)
theorem laws_toOpS_cf (m : Nat) : callK CX prims m = (patC 163 laws_toOp_a (laws_toOp_w m) (callK CX prims m)) := by
  rw [← patC_eq (fun vs k => laws_toOp_eq m vs k)]
noncomputable def laws_toOpS_c : Code := (Try.f137.body).getD .skip
noncomputable def laws_toOpS_fi : Fi := ⟨137, 1, 23, 4⟩
theorem laws_toOpS_lf (m : Nat) : ∀ n, (∀ vs k, loopK CX (callK CX prims m) laws_toOpS_fi laws_toOpS_c n [0, 1, 0, 1, 1] (fPack laws_toOpS_s0_0 vs) k = laws_toOpS_L0_0w m n vs k) ∧ ((loopK CX (callK CX prims m) laws_toOpS_fi laws_toOpS_c n) = (patL [0, 1, 0, 1, 1] laws_toOpS_s0_0 (laws_toOpS_L0_0w m n) (loopK CX (callK CX prims m) laws_toOpS_fi laws_toOpS_c n))) := by
  intro n
  have hl : ∀ n, (∀ vs k, loopK CX (callK CX prims m) laws_toOpS_fi laws_toOpS_c n [0, 1, 0, 1, 1] (fPack laws_toOpS_s0_0 vs) k = laws_toOpS_L0_0w m n vs k) → ((loopK CX (callK CX prims m) laws_toOpS_fi laws_toOpS_c n) = (patL [0, 1, 0, 1, 1] laws_toOpS_s0_0 (laws_toOpS_L0_0w m n) (loopK CX (callK CX prims m) laws_toOpS_fi laws_toOpS_c n))) := by
    intro n h0
    rw [← patL_eq h0]
  induction n with
  | zero => exact ⟨fun vs k => rfl, hl 0 (fun vs k => rfl)⟩
  | succ n ihn =>
    have hn := ihn.2
    have h0 : ∀ vs k, loopK CX (callK CX prims m) laws_toOpS_fi laws_toOpS_c (n + 1) [0, 1, 0, 1, 1] (fPack laws_toOpS_s0_0 vs) k = laws_toOpS_L0_0w m (n + 1) vs k := fun vs k =>
      (stepL_congr (laws_toOpS_cf m) hn [0, 1, 0, 1, 1] _ _).trans (by kernel_rfl)
    exact ⟨h0, hl (n + 1) h0⟩
theorem laws_toOpS_eq (m : Nat) : ∀ vs k, callK CX prims m 137 (fArgs laws_toOpS_a vs) k = laws_toOpS_w m vs k := by
  cases m with
  | zero => exact fun vs k => rfl
  | succ m => exact fun vs k => Eq.trans (b := bodyK CX (callK CX prims m) (loopK CX (callK CX prims m) laws_toOpS_fi laws_toOpS_c m) 137 Try.f137 laws_toOpS_c (fArgs laws_toOpS_a vs) k) (by kernel_rfl) ((bodyK_congr (laws_toOpS_cf m) ((laws_toOpS_lf m m).2) 137 Try.f137 laws_toOpS_c (fArgs laws_toOpS_a vs) k).trans (by kernel_rfl))

/-! loop.example/g00244/laws.toIntS -/
noncomputable def laws_toIntS_L0_0 (m : Nat) : Nat → T → T → T → (T → An) → An
  | 0, _, _, _, _ => .bad
  | n + 1, x0, x1, x2, k0 =>
    cond (decide (x1.int < (x0.rows.length : Int)))
    (cond (decide (0 ≤ x1.int ∧ x1.int < (x0.rows.length : Int)))
    (cond (decide (0 ≤ x1.int ∧ x1.int < (x2.rows.length : Int)))
    (cond (decide ((Int.toNat x1.int) < x2.rows.length))
    (laws_toIntS_L0_0 m n x0 (T.i (IntKind.i64.wrap (x1.int + 1))) (T.l (x2.rows.set (Int.toNat x1.int) ((x2.rows.getD (Int.toNat x1.int) []).set 0 ((x0.rows.getD (Int.toNat x1.int) []).getD 0 dflt)))) k0)
    (.bad))
    (.bad))
    (.bad))
    (k0 (T.l x2.rows))
noncomputable def laws_toIntS_s0_0 : Pack := ⟨[(0, .one ⟨.sn [], .sl [.sc (.int .i64)], .l []⟩), (3, .one ⟨.al [1000000, 0] 0, .sl [.sc (.int .i64)], .l []⟩), (4, .one ⟨.sc, .sc (.int .i64), .l []⟩)], [([1000000, 0], .row [.sc (.int .i64)] [.F] [])]⟩
noncomputable def laws_toIntS_e0_0 : Pack := ⟨[(3, .one ⟨.al [1000000, 0] 0, .sl [.sc (.int .i64)], .l []⟩)], [([1000000, 0], .row [.sc (.int .i64)] [.F] [])]⟩
noncomputable def laws_toIntS_L0_0w (m n : Nat) (vs : List T) (k : Ctl → Pack → An) : An := laws_toIntS_L0_0 m n (vs.headD dflt) (vs.tail.headD dflt) (vs.tail.tail.headD dflt) (fun z0 => k (.exit 0) (fPack laws_toIntS_e0_0 [z0]))
noncomputable def laws_toIntS : Nat → T → (T → An) → An
  | 0, _, _ => .bad
  | m + 1, x0, k0 =>
    cond (decide (0 ≤ (x0.rows.length : Int) ∧ (x0.rows.length : Int) ≤ (x0.rows.length : Int)))
    (cond (decide ((x0.rows.length : Int) * ((8 : Nat) : Int) ≤ (maxCells : Int)))
    (laws_toIntS_L0_0 m m (T.l x0.rows) (T.i 0) (T.l (List.replicate (Int.toNat (x0.rows.length : Int)) [(T.i 0)]))
    (fun y0 => k0 (T.l y0.rows)))
    (.bad))
    (.bad)
noncomputable def laws_toIntS_a : List Arg := [.one (.fz [.sc (.int .i64)] [])]
noncomputable def laws_toIntS_w (m : Nat) (vs : List T) (k : Ret → An) : An := laws_toIntS m (vs.headD dflt) (fun z0 => k ⟨[.one (.own [1000000, 0] [.sc (.int .i64)] [.F] z0.rows)], [[none]]⟩)
theorem laws_toIntS_cf (m : Nat) : callK CX prims m = (callK CX prims m) := by
  rfl
noncomputable def laws_toIntS_c : Code := (Try.f161.body).getD .skip
noncomputable def laws_toIntS_fi : Fi := ⟨161, 1, 22, 4⟩
theorem laws_toIntS_lf (m : Nat) : ∀ n, (∀ vs k, loopK CX (callK CX prims m) laws_toIntS_fi laws_toIntS_c n [0, 1, 0, 1, 1] (fPack laws_toIntS_s0_0 vs) k = laws_toIntS_L0_0w m n vs k) ∧ ((loopK CX (callK CX prims m) laws_toIntS_fi laws_toIntS_c n) = (patL [0, 1, 0, 1, 1] laws_toIntS_s0_0 (laws_toIntS_L0_0w m n) (loopK CX (callK CX prims m) laws_toIntS_fi laws_toIntS_c n))) := by
  intro n
  have hl : ∀ n, (∀ vs k, loopK CX (callK CX prims m) laws_toIntS_fi laws_toIntS_c n [0, 1, 0, 1, 1] (fPack laws_toIntS_s0_0 vs) k = laws_toIntS_L0_0w m n vs k) → ((loopK CX (callK CX prims m) laws_toIntS_fi laws_toIntS_c n) = (patL [0, 1, 0, 1, 1] laws_toIntS_s0_0 (laws_toIntS_L0_0w m n) (loopK CX (callK CX prims m) laws_toIntS_fi laws_toIntS_c n))) := by
    intro n h0
    rw [← patL_eq h0]
  induction n with
  | zero => exact ⟨fun vs k => rfl, hl 0 (fun vs k => rfl)⟩
  | succ n ihn =>
    have hn := ihn.2
    have h0 : ∀ vs k, loopK CX (callK CX prims m) laws_toIntS_fi laws_toIntS_c (n + 1) [0, 1, 0, 1, 1] (fPack laws_toIntS_s0_0 vs) k = laws_toIntS_L0_0w m (n + 1) vs k := fun vs k =>
      (stepL_congr (laws_toIntS_cf m) hn [0, 1, 0, 1, 1] _ _).trans (by kernel_rfl)
    exact ⟨h0, hl (n + 1) h0⟩
theorem laws_toIntS_eq (m : Nat) : ∀ vs k, callK CX prims m 161 (fArgs laws_toIntS_a vs) k = laws_toIntS_w m vs k := by
  cases m with
  | zero => exact fun vs k => rfl
  | succ m => exact fun vs k => Eq.trans (b := bodyK CX (callK CX prims m) (loopK CX (callK CX prims m) laws_toIntS_fi laws_toIntS_c m) 161 Try.f161 laws_toIntS_c (fArgs laws_toIntS_a vs) k) (by kernel_rfl) ((bodyK_congr (laws_toIntS_cf m) ((laws_toIntS_lf m m).2) 161 Try.f161 laws_toIntS_c (fArgs laws_toIntS_a vs) k).trans (by kernel_rfl))

/-! loop.example/g00244/laws.toJob -/
noncomputable def laws_toJob : Nat → T → T → T → T → (T → T → T → T → An) → An
  | 0, _, _, _, _, _ => .bad
  | m + 1, x0, x1, x2, x3, k0 =>
    laws_toOpS m (T.l x1.rows)
    (fun y0 => laws_toIntS m (T.l x3.rows)
    (fun y1 => k0 x0 (T.l y0.rows) x2 (T.l y1.rows)))
noncomputable def laws_toJob_a : List Arg := [.agg [.sc (.int .i64) (.l []), .fz [.sc (.int .i64), .sc (.str), .sc (.str)] [], .sc (.int .i64) (.l []), .fz [.sc (.int .i64)] []]]
noncomputable def laws_toJob_w (m : Nat) (vs : List T) (k : Ret → An) : An := laws_toJob m (vs.headD dflt) (vs.tail.headD dflt) (vs.tail.tail.headD dflt) (vs.tail.tail.tail.headD dflt) (fun z0 z1 z2 z3 => k ⟨[.agg [.sc (.int .i64) z0, .own [2000009, 0, 0] [.sc (.int .i64), .sc (.str), .sc (.str)] [.F, .F, .F] z1.rows, .sc (.int .i64) z2, .own [2000016, 0, 0] [.sc (.int .i64)] [.F] z3.rows]], [[none, none, none, none]]⟩)
theorem laws_toJob_cf (m : Nat) : callK CX prims m = (patC 137 laws_toOpS_a (laws_toOpS_w m) (patC 161 laws_toIntS_a (laws_toIntS_w m) (callK CX prims m))) := by
  rw [← patC_eq (fun vs k => laws_toIntS_eq m vs k), ← patC_eq (fun vs k => laws_toOpS_eq m vs k)]
noncomputable def laws_toJob_c : Code := (Try.f134.body).getD .skip
noncomputable def laws_toJob_fi : Fi := ⟨134, 1, 19, 4⟩
theorem laws_toJob_eq (m : Nat) : ∀ vs k, callK CX prims m 134 (fArgs laws_toJob_a vs) k = laws_toJob_w m vs k := by
  cases m with
  | zero => exact fun vs k => rfl
  | succ m => exact fun vs k => Eq.trans (b := bodyK CX (callK CX prims m) (loopK CX (callK CX prims m) laws_toJob_fi laws_toJob_c m) 134 Try.f134 laws_toJob_c (fArgs laws_toJob_a vs) k) (by kernel_rfl) ((bodyK_congr (laws_toJob_cf m) rfl 134 Try.f134 laws_toJob_c (fArgs laws_toJob_a vs) k).trans (by kernel_rfl))

/-! loop.example/g00244/laws.toJobS -/
noncomputable def laws_toJobS_L0_0 (m : Nat) : Nat → T → T → T → (T → An) → An
  | 0, _, _, _, _ => .bad
  | n + 1, x0, x1, x2, k0 =>
    cond (decide (x1.int < (x0.rows.length : Int)))
    (cond (decide (0 ≤ x1.int ∧ x1.int < (x0.rows.length : Int)))
    (laws_toJob m ((x0.rows.getD (Int.toNat x1.int) []).getD 0 dflt) (T.l ((x0.rows.getD (Int.toNat x1.int) []).getD 1 dflt).rows) ((x0.rows.getD (Int.toNat x1.int) []).getD 2 dflt) (T.l ((x0.rows.getD (Int.toNat x1.int) []).getD 3 dflt).rows)
    (fun y0 y1 y2 y3 => cond (decide (0 ≤ x1.int ∧ x1.int < (x2.rows.length : Int)))
    (cond (decide ((Int.toNat x1.int) < x2.rows.length))
    (laws_toJobS_L0_0 m n x0 (T.i (IntKind.i64.wrap (x1.int + 1))) (T.l (x2.rows.set (Int.toNat x1.int) (((((x2.rows.getD (Int.toNat x1.int) []).set 0 y0).set 1 (T.l y1.rows)).set 2 y2).set 3 (T.l y3.rows)))) k0)
    (.bad))
    (.bad)))
    (.bad))
    (k0 (T.l x2.rows))
noncomputable def laws_toJobS_s0_0 : Pack := ⟨[(0, .one ⟨.sn [], .sl [.sc (.int .i64), .sl [.sc (.int .i64), .sc (.str), .sc (.str)], .sc (.int .i64), .sl [.sc (.int .i64)]], .l []⟩), (3, .one ⟨.al [1000000, 0] 0, .sl [.sc (.int .i64), .sl [.sc (.int .i64), .sc (.str), .sc (.str)], .sc (.int .i64), .sl [.sc (.int .i64)]], .l []⟩), (4, .one ⟨.sc, .sc (.int .i64), .l []⟩)], [([1000000, 0], .row [.sc (.int .i64), .sl [.sc (.int .i64), .sc (.str), .sc (.str)], .sc (.int .i64), .sl [.sc (.int .i64)]] [.F, .F, .F, .F] [])]⟩
noncomputable def laws_toJobS_e0_0 : Pack := ⟨[(3, .one ⟨.al [1000000, 0] 0, .sl [.sc (.int .i64), .sl [.sc (.int .i64), .sc (.str), .sc (.str)], .sc (.int .i64), .sl [.sc (.int .i64)]], .l []⟩)], [([1000000, 0], .row [.sc (.int .i64), .sl [.sc (.int .i64), .sc (.str), .sc (.str)], .sc (.int .i64), .sl [.sc (.int .i64)]] [.F, .F, .F, .F] [])]⟩
noncomputable def laws_toJobS_L0_0w (m n : Nat) (vs : List T) (k : Ctl → Pack → An) : An := laws_toJobS_L0_0 m n (vs.headD dflt) (vs.tail.headD dflt) (vs.tail.tail.headD dflt) (fun z0 => k (.exit 0) (fPack laws_toJobS_e0_0 [z0]))
noncomputable def laws_toJobS : Nat → T → (T → An) → An
  | 0, _, _ => .bad
  | m + 1, x0, k0 =>
    cond (decide (0 ≤ (x0.rows.length : Int) ∧ (x0.rows.length : Int) ≤ (x0.rows.length : Int)))
    (cond (decide ((x0.rows.length : Int) * ((64 : Nat) : Int) ≤ (maxCells : Int)))
    (laws_toJobS_L0_0 m m (T.l x0.rows) (T.i 0) (T.l (List.replicate (Int.toNat (x0.rows.length : Int)) [(T.i 0), (T.l []), (T.i 0), (T.l [])]))
    (fun y4 => k0 (T.l y4.rows)))
    (.bad))
    (.bad)
noncomputable def laws_toJobS_a : List Arg := [.one (.fz [.sc (.int .i64), .sl [.sc (.int .i64), .sc (.str), .sc (.str)], .sc (.int .i64), .sl [.sc (.int .i64)]] [])]
noncomputable def laws_toJobS_w (m : Nat) (vs : List T) (k : Ret → An) : An := laws_toJobS m (vs.headD dflt) (fun z0 => k ⟨[.one (.own [1000000, 0] [.sc (.int .i64), .sl [.sc (.int .i64), .sc (.str), .sc (.str)], .sc (.int .i64), .sl [.sc (.int .i64)]] [.F, .F, .F, .F] z0.rows)], [[none]]⟩)
theorem laws_toJobS_cf (m : Nat) : callK CX prims m = (patC 134 laws_toJob_a (laws_toJob_w m) (callK CX prims m)) := by
  rw [← patC_eq (fun vs k => laws_toJob_eq m vs k)]
noncomputable def laws_toJobS_c : Code := (Try.f94.body).getD .skip
noncomputable def laws_toJobS_fi : Fi := ⟨94, 1, 23, 4⟩
theorem laws_toJobS_lf (m : Nat) : ∀ n, (∀ vs k, loopK CX (callK CX prims m) laws_toJobS_fi laws_toJobS_c n [0, 1, 0, 1, 1] (fPack laws_toJobS_s0_0 vs) k = laws_toJobS_L0_0w m n vs k) ∧ ((loopK CX (callK CX prims m) laws_toJobS_fi laws_toJobS_c n) = (patL [0, 1, 0, 1, 1] laws_toJobS_s0_0 (laws_toJobS_L0_0w m n) (loopK CX (callK CX prims m) laws_toJobS_fi laws_toJobS_c n))) := by
  intro n
  have hl : ∀ n, (∀ vs k, loopK CX (callK CX prims m) laws_toJobS_fi laws_toJobS_c n [0, 1, 0, 1, 1] (fPack laws_toJobS_s0_0 vs) k = laws_toJobS_L0_0w m n vs k) → ((loopK CX (callK CX prims m) laws_toJobS_fi laws_toJobS_c n) = (patL [0, 1, 0, 1, 1] laws_toJobS_s0_0 (laws_toJobS_L0_0w m n) (loopK CX (callK CX prims m) laws_toJobS_fi laws_toJobS_c n))) := by
    intro n h0
    rw [← patL_eq h0]
  induction n with
  | zero => exact ⟨fun vs k => rfl, hl 0 (fun vs k => rfl)⟩
  | succ n ihn =>
    have hn := ihn.2
    have h0 : ∀ vs k, loopK CX (callK CX prims m) laws_toJobS_fi laws_toJobS_c (n + 1) [0, 1, 0, 1, 1] (fPack laws_toJobS_s0_0 vs) k = laws_toJobS_L0_0w m (n + 1) vs k := fun vs k =>
      (stepL_congr (laws_toJobS_cf m) hn [0, 1, 0, 1, 1] _ _).trans (by kernel_rfl)
    exact ⟨h0, hl (n + 1) h0⟩
theorem laws_toJobS_eq (m : Nat) : ∀ vs k, callK CX prims m 94 (fArgs laws_toJobS_a vs) k = laws_toJobS_w m vs k := by
  cases m with
  | zero => exact fun vs k => rfl
  | succ m => exact fun vs k => Eq.trans (b := bodyK CX (callK CX prims m) (loopK CX (callK CX prims m) laws_toJobS_fi laws_toJobS_c m) 94 Try.f94 laws_toJobS_c (fArgs laws_toJobS_a vs) k) (by kernel_rfl) ((bodyK_congr (laws_toJobS_cf m) ((laws_toJobS_lf m m).2) 94 Try.f94 laws_toJobS_c (fArgs laws_toJobS_a vs) k).trans (by kernel_rfl))

/-! loop.example/g00244/laws.toChoice -/
noncomputable def laws_toChoice : Nat → T → T → (T → T → An) → An
  | 0, _, _, _ => .bad
  | m + 1, x0, x1, k0 =>
    k0 x0 x1
noncomputable def laws_toChoice_a : List Arg := [.agg [.sc (.int .i64) (.l []), .sc (.bool) (.l [])]]
noncomputable def laws_toChoice_w (m : Nat) (vs : List T) (k : Ret → An) : An := laws_toChoice m (vs.headD dflt) (vs.tail.headD dflt) (fun z0 z1 => k ⟨[.agg [.sc (.int .i64) z0, .sc (.bool) z1]], [[none, none]]⟩)
theorem laws_toChoice_cf (m : Nat) : callK CX prims m = (callK CX prims m) := by
  rfl
noncomputable def laws_toChoice_c : Code := (Try.f135.body).getD .skip
noncomputable def laws_toChoice_fi : Fi := ⟨135, 1, 11, 4⟩
theorem laws_toChoice_eq (m : Nat) : ∀ vs k, callK CX prims m 135 (fArgs laws_toChoice_a vs) k = laws_toChoice_w m vs k := by
  cases m with
  | zero => exact fun vs k => rfl
  | succ m => exact fun vs k => Eq.trans (b := bodyK CX (callK CX prims m) (loopK CX (callK CX prims m) laws_toChoice_fi laws_toChoice_c m) 135 Try.f135 laws_toChoice_c (fArgs laws_toChoice_a vs) k) (by kernel_rfl) ((bodyK_congr (laws_toChoice_cf m) rfl 135 Try.f135 laws_toChoice_c (fArgs laws_toChoice_a vs) k).trans (by kernel_rfl))

/-! loop.example/g00244/laws.toChoiceS -/
noncomputable def laws_toChoiceS_L0_0 (m : Nat) : Nat → T → T → T → (T → An) → An
  | 0, _, _, _, _ => .bad
  | n + 1, x0, x1, x2, k0 =>
    cond (decide (x1.int < (x0.rows.length : Int)))
    (cond (decide (0 ≤ x1.int ∧ x1.int < (x0.rows.length : Int)))
    (laws_toChoice m ((x0.rows.getD (Int.toNat x1.int) []).getD 0 dflt) ((x0.rows.getD (Int.toNat x1.int) []).getD 1 dflt)
    (fun y0 y1 => cond (decide (0 ≤ x1.int ∧ x1.int < (x2.rows.length : Int)))
    (cond (decide ((Int.toNat x1.int) < x2.rows.length))
    (laws_toChoiceS_L0_0 m n x0 (T.i (IntKind.i64.wrap (x1.int + 1))) (T.l (x2.rows.set (Int.toNat x1.int) (((x2.rows.getD (Int.toNat x1.int) []).set 0 y0).set 1 y1))) k0)
    (.bad))
    (.bad)))
    (.bad))
    (k0 (T.l x2.rows))
noncomputable def laws_toChoiceS_s0_0 : Pack := ⟨[(0, .one ⟨.sn [], .sl [.sc (.int .i64), .sc (.bool)], .l []⟩), (3, .one ⟨.al [1000000, 0] 0, .sl [.sc (.int .i64), .sc (.bool)], .l []⟩), (4, .one ⟨.sc, .sc (.int .i64), .l []⟩)], [([1000000, 0], .row [.sc (.int .i64), .sc (.bool)] [.F, .F] [])]⟩
noncomputable def laws_toChoiceS_e0_0 : Pack := ⟨[(3, .one ⟨.al [1000000, 0] 0, .sl [.sc (.int .i64), .sc (.bool)], .l []⟩)], [([1000000, 0], .row [.sc (.int .i64), .sc (.bool)] [.F, .F] [])]⟩
noncomputable def laws_toChoiceS_L0_0w (m n : Nat) (vs : List T) (k : Ctl → Pack → An) : An := laws_toChoiceS_L0_0 m n (vs.headD dflt) (vs.tail.headD dflt) (vs.tail.tail.headD dflt) (fun z0 => k (.exit 0) (fPack laws_toChoiceS_e0_0 [z0]))
noncomputable def laws_toChoiceS : Nat → T → (T → An) → An
  | 0, _, _ => .bad
  | m + 1, x0, k0 =>
    cond (decide (0 ≤ (x0.rows.length : Int) ∧ (x0.rows.length : Int) ≤ (x0.rows.length : Int)))
    (cond (decide ((x0.rows.length : Int) * ((16 : Nat) : Int) ≤ (maxCells : Int)))
    (laws_toChoiceS_L0_0 m m (T.l x0.rows) (T.i 0) (T.l (List.replicate (Int.toNat (x0.rows.length : Int)) [(T.i 0), (T.b false)]))
    (fun y2 => k0 (T.l y2.rows)))
    (.bad))
    (.bad)
noncomputable def laws_toChoiceS_a : List Arg := [.one (.fz [.sc (.int .i64), .sc (.bool)] [])]
noncomputable def laws_toChoiceS_w (m : Nat) (vs : List T) (k : Ret → An) : An := laws_toChoiceS m (vs.headD dflt) (fun z0 => k ⟨[.one (.own [1000000, 0] [.sc (.int .i64), .sc (.bool)] [.F, .F] z0.rows)], [[none]]⟩)
theorem laws_toChoiceS_cf (m : Nat) : callK CX prims m = (patC 135 laws_toChoice_a (laws_toChoice_w m) (callK CX prims m)) := by
  rw [← patC_eq (fun vs k => laws_toChoice_eq m vs k)]
noncomputable def laws_toChoiceS_c : Code := (Try.f95.body).getD .skip
noncomputable def laws_toChoiceS_fi : Fi := ⟨95, 1, 23, 4⟩
theorem laws_toChoiceS_lf (m : Nat) : ∀ n, (∀ vs k, loopK CX (callK CX prims m) laws_toChoiceS_fi laws_toChoiceS_c n [0, 1, 0, 1, 1] (fPack laws_toChoiceS_s0_0 vs) k = laws_toChoiceS_L0_0w m n vs k) ∧ ((loopK CX (callK CX prims m) laws_toChoiceS_fi laws_toChoiceS_c n) = (patL [0, 1, 0, 1, 1] laws_toChoiceS_s0_0 (laws_toChoiceS_L0_0w m n) (loopK CX (callK CX prims m) laws_toChoiceS_fi laws_toChoiceS_c n))) := by
  intro n
  have hl : ∀ n, (∀ vs k, loopK CX (callK CX prims m) laws_toChoiceS_fi laws_toChoiceS_c n [0, 1, 0, 1, 1] (fPack laws_toChoiceS_s0_0 vs) k = laws_toChoiceS_L0_0w m n vs k) → ((loopK CX (callK CX prims m) laws_toChoiceS_fi laws_toChoiceS_c n) = (patL [0, 1, 0, 1, 1] laws_toChoiceS_s0_0 (laws_toChoiceS_L0_0w m n) (loopK CX (callK CX prims m) laws_toChoiceS_fi laws_toChoiceS_c n))) := by
    intro n h0
    rw [← patL_eq h0]
  induction n with
  | zero => exact ⟨fun vs k => rfl, hl 0 (fun vs k => rfl)⟩
  | succ n ihn =>
    have hn := ihn.2
    have h0 : ∀ vs k, loopK CX (callK CX prims m) laws_toChoiceS_fi laws_toChoiceS_c (n + 1) [0, 1, 0, 1, 1] (fPack laws_toChoiceS_s0_0 vs) k = laws_toChoiceS_L0_0w m (n + 1) vs k := fun vs k =>
      (stepL_congr (laws_toChoiceS_cf m) hn [0, 1, 0, 1, 1] _ _).trans (by kernel_rfl)
    exact ⟨h0, hl (n + 1) h0⟩
theorem laws_toChoiceS_eq (m : Nat) : ∀ vs k, callK CX prims m 95 (fArgs laws_toChoiceS_a vs) k = laws_toChoiceS_w m vs k := by
  cases m with
  | zero => exact fun vs k => rfl
  | succ m => exact fun vs k => Eq.trans (b := bodyK CX (callK CX prims m) (loopK CX (callK CX prims m) laws_toChoiceS_fi laws_toChoiceS_c m) 95 Try.f95 laws_toChoiceS_c (fArgs laws_toChoiceS_a vs) k) (by kernel_rfl) ((bodyK_congr (laws_toChoiceS_cf m) ((laws_toChoiceS_lf m m).2) 95 Try.f95 laws_toChoiceS_c (fArgs laws_toChoiceS_a vs) k).trans (by kernel_rfl))

/-! loop.example/g00244/laws.toCoord -/
noncomputable def laws_toCoord : Nat → T → T → T → T → T → T → (T → T → T → T → T → T → An) → An
  | 0, _, _, _, _, _, _, _ => .bad
  | m + 1, x0, x1, x2, x3, x4, x5, k0 =>
    laws_toJobS m (T.l x3.rows)
    (fun y0 => laws_toChoiceS m (T.l x4.rows)
    (fun y1 => k0 x0 x1 x2 (T.l y0.rows) (T.l y1.rows) x5))
noncomputable def laws_toCoord_a : List Arg := [.agg [.sc (.int .i64) (.l []), .sc (.int .i64) (.l []), .sc (.int .i64) (.l []), .fz [.sc (.int .i64), .sl [.sc (.int .i64), .sc (.str), .sc (.str)], .sc (.int .i64), .sl [.sc (.int .i64)]] [], .fz [.sc (.int .i64), .sc (.bool)] [], .sc (.int .i64) (.l [])]]
noncomputable def laws_toCoord_w (m : Nat) (vs : List T) (k : Ret → An) : An := laws_toCoord m (vs.headD dflt) (vs.tail.headD dflt) (vs.tail.tail.headD dflt) (vs.tail.tail.tail.headD dflt) (vs.tail.tail.tail.tail.headD dflt) (vs.tail.tail.tail.tail.tail.headD dflt) (fun z0 z1 z2 z3 z4 z5 => k ⟨[.agg [.sc (.int .i64) z0, .sc (.int .i64) z1, .sc (.int .i64) z2, .own [2000015, 0, 0] [.sc (.int .i64), .sl [.sc (.int .i64), .sc (.str), .sc (.str)], .sc (.int .i64), .sl [.sc (.int .i64)]] [.F, .F, .F, .F] z3.rows, .own [2000019, 0, 0] [.sc (.int .i64), .sc (.bool)] [.F, .F] z4.rows, .sc (.int .i64) z5]], [[none, none, none, none, none, none]]⟩)
theorem laws_toCoord_cf (m : Nat) : callK CX prims m = (patC 94 laws_toJobS_a (laws_toJobS_w m) (patC 95 laws_toChoiceS_a (laws_toChoiceS_w m) (callK CX prims m))) := by
  rw [← patC_eq (fun vs k => laws_toChoiceS_eq m vs k), ← patC_eq (fun vs k => laws_toJobS_eq m vs k)]
noncomputable def laws_toCoord_c : Code := (Try.f47.body).getD .skip
noncomputable def laws_toCoord_fi : Fi := ⟨47, 1, 25, 4⟩
theorem laws_toCoord_eq (m : Nat) : ∀ vs k, callK CX prims m 47 (fArgs laws_toCoord_a vs) k = laws_toCoord_w m vs k := by
  cases m with
  | zero => exact fun vs k => rfl
  | succ m => exact fun vs k => Eq.trans (b := bodyK CX (callK CX prims m) (loopK CX (callK CX prims m) laws_toCoord_fi laws_toCoord_c m) 47 Try.f47 laws_toCoord_c (fArgs laws_toCoord_a vs) k) (by kernel_rfl) ((bodyK_congr (laws_toCoord_cf m) rfl 47 Try.f47 laws_toCoord_c (fArgs laws_toCoord_a vs) k).trans (by kernel_rfl))

/-! loop.example/g00244/laws.toRec -/
noncomputable def laws_toRec : Nat → T → T → T → (T → T → T → An) → An
  | 0, _, _, _, _ => .bad
  | m + 1, x0, x1, x2, k0 =>
    laws_toOpS m (T.l x2.rows)
    (fun y0 => k0 x0 x1 (T.l y0.rows))
noncomputable def laws_toRec_a : List Arg := [.agg [.sc (.int .i64) (.l []), .sc (.int .i64) (.l []), .fz [.sc (.int .i64), .sc (.str), .sc (.str)] []]]
noncomputable def laws_toRec_w (m : Nat) (vs : List T) (k : Ret → An) : An := laws_toRec m (vs.headD dflt) (vs.tail.headD dflt) (vs.tail.tail.headD dflt) (fun z0 z1 z2 => k ⟨[.agg [.sc (.int .i64) z0, .sc (.int .i64) z1, .own [2000012, 0, 0] [.sc (.int .i64), .sc (.str), .sc (.str)] [.F, .F, .F] z2.rows]], [[none, none, none]]⟩)
theorem laws_toRec_cf (m : Nat) : callK CX prims m = (patC 137 laws_toOpS_a (laws_toOpS_w m) (callK CX prims m)) := by
  rw [← patC_eq (fun vs k => laws_toOpS_eq m vs k)]
noncomputable def laws_toRec_c : Code := (Try.f162.body).getD .skip
noncomputable def laws_toRec_fi : Fi := ⟨162, 1, 15, 4⟩
theorem laws_toRec_eq (m : Nat) : ∀ vs k, callK CX prims m 162 (fArgs laws_toRec_a vs) k = laws_toRec_w m vs k := by
  cases m with
  | zero => exact fun vs k => rfl
  | succ m => exact fun vs k => Eq.trans (b := bodyK CX (callK CX prims m) (loopK CX (callK CX prims m) laws_toRec_fi laws_toRec_c m) 162 Try.f162 laws_toRec_c (fArgs laws_toRec_a vs) k) (by kernel_rfl) ((bodyK_congr (laws_toRec_cf m) rfl 162 Try.f162 laws_toRec_c (fArgs laws_toRec_a vs) k).trans (by kernel_rfl))

/-! loop.example/g00244/laws.toRecS -/
noncomputable def laws_toRecS_L0_0 (m : Nat) : Nat → T → T → T → (T → An) → An
  | 0, _, _, _, _ => .bad
  | n + 1, x0, x1, x2, k0 =>
    cond (decide (x1.int < (x0.rows.length : Int)))
    (cond (decide (0 ≤ x1.int ∧ x1.int < (x0.rows.length : Int)))
    (laws_toRec m ((x0.rows.getD (Int.toNat x1.int) []).getD 0 dflt) ((x0.rows.getD (Int.toNat x1.int) []).getD 1 dflt) (T.l ((x0.rows.getD (Int.toNat x1.int) []).getD 2 dflt).rows)
    (fun y0 y1 y2 => cond (decide (0 ≤ x1.int ∧ x1.int < (x2.rows.length : Int)))
    (cond (decide ((Int.toNat x1.int) < x2.rows.length))
    (laws_toRecS_L0_0 m n x0 (T.i (IntKind.i64.wrap (x1.int + 1))) (T.l (x2.rows.set (Int.toNat x1.int) ((((x2.rows.getD (Int.toNat x1.int) []).set 0 y0).set 1 y1).set 2 (T.l y2.rows)))) k0)
    (.bad))
    (.bad)))
    (.bad))
    (k0 (T.l x2.rows))
noncomputable def laws_toRecS_s0_0 : Pack := ⟨[(0, .one ⟨.sn [], .sl [.sc (.int .i64), .sc (.int .i64), .sl [.sc (.int .i64), .sc (.str), .sc (.str)]], .l []⟩), (3, .one ⟨.al [1000000, 0] 0, .sl [.sc (.int .i64), .sc (.int .i64), .sl [.sc (.int .i64), .sc (.str), .sc (.str)]], .l []⟩), (4, .one ⟨.sc, .sc (.int .i64), .l []⟩)], [([1000000, 0], .row [.sc (.int .i64), .sc (.int .i64), .sl [.sc (.int .i64), .sc (.str), .sc (.str)]] [.F, .F, .F] [])]⟩
noncomputable def laws_toRecS_e0_0 : Pack := ⟨[(3, .one ⟨.al [1000000, 0] 0, .sl [.sc (.int .i64), .sc (.int .i64), .sl [.sc (.int .i64), .sc (.str), .sc (.str)]], .l []⟩)], [([1000000, 0], .row [.sc (.int .i64), .sc (.int .i64), .sl [.sc (.int .i64), .sc (.str), .sc (.str)]] [.F, .F, .F] [])]⟩
noncomputable def laws_toRecS_L0_0w (m n : Nat) (vs : List T) (k : Ctl → Pack → An) : An := laws_toRecS_L0_0 m n (vs.headD dflt) (vs.tail.headD dflt) (vs.tail.tail.headD dflt) (fun z0 => k (.exit 0) (fPack laws_toRecS_e0_0 [z0]))
noncomputable def laws_toRecS : Nat → T → (T → An) → An
  | 0, _, _ => .bad
  | m + 1, x0, k0 =>
    cond (decide (0 ≤ (x0.rows.length : Int) ∧ (x0.rows.length : Int) ≤ (x0.rows.length : Int)))
    (cond (decide ((x0.rows.length : Int) * ((40 : Nat) : Int) ≤ (maxCells : Int)))
    (laws_toRecS_L0_0 m m (T.l x0.rows) (T.i 0) (T.l (List.replicate (Int.toNat (x0.rows.length : Int)) [(T.i 0), (T.i 0), (T.l [])]))
    (fun y3 => k0 (T.l y3.rows)))
    (.bad))
    (.bad)
noncomputable def laws_toRecS_a : List Arg := [.one (.fz [.sc (.int .i64), .sc (.int .i64), .sl [.sc (.int .i64), .sc (.str), .sc (.str)]] [])]
noncomputable def laws_toRecS_w (m : Nat) (vs : List T) (k : Ret → An) : An := laws_toRecS m (vs.headD dflt) (fun z0 => k ⟨[.one (.own [1000000, 0] [.sc (.int .i64), .sc (.int .i64), .sl [.sc (.int .i64), .sc (.str), .sc (.str)]] [.F, .F, .F] z0.rows)], [[none]]⟩)
theorem laws_toRecS_cf (m : Nat) : callK CX prims m = (patC 162 laws_toRec_a (laws_toRec_w m) (callK CX prims m)) := by
  rw [← patC_eq (fun vs k => laws_toRec_eq m vs k)]
noncomputable def laws_toRecS_c : Code := (Try.f136.body).getD .skip
noncomputable def laws_toRecS_fi : Fi := ⟨136, 1, 23, 4⟩
theorem laws_toRecS_lf (m : Nat) : ∀ n, (∀ vs k, loopK CX (callK CX prims m) laws_toRecS_fi laws_toRecS_c n [0, 1, 0, 1, 1] (fPack laws_toRecS_s0_0 vs) k = laws_toRecS_L0_0w m n vs k) ∧ ((loopK CX (callK CX prims m) laws_toRecS_fi laws_toRecS_c n) = (patL [0, 1, 0, 1, 1] laws_toRecS_s0_0 (laws_toRecS_L0_0w m n) (loopK CX (callK CX prims m) laws_toRecS_fi laws_toRecS_c n))) := by
  intro n
  have hl : ∀ n, (∀ vs k, loopK CX (callK CX prims m) laws_toRecS_fi laws_toRecS_c n [0, 1, 0, 1, 1] (fPack laws_toRecS_s0_0 vs) k = laws_toRecS_L0_0w m n vs k) → ((loopK CX (callK CX prims m) laws_toRecS_fi laws_toRecS_c n) = (patL [0, 1, 0, 1, 1] laws_toRecS_s0_0 (laws_toRecS_L0_0w m n) (loopK CX (callK CX prims m) laws_toRecS_fi laws_toRecS_c n))) := by
    intro n h0
    rw [← patL_eq h0]
  induction n with
  | zero => exact ⟨fun vs k => rfl, hl 0 (fun vs k => rfl)⟩
  | succ n ihn =>
    have hn := ihn.2
    have h0 : ∀ vs k, loopK CX (callK CX prims m) laws_toRecS_fi laws_toRecS_c (n + 1) [0, 1, 0, 1, 1] (fPack laws_toRecS_s0_0 vs) k = laws_toRecS_L0_0w m (n + 1) vs k := fun vs k =>
      (stepL_congr (laws_toRecS_cf m) hn [0, 1, 0, 1, 1] _ _).trans (by kernel_rfl)
    exact ⟨h0, hl (n + 1) h0⟩
theorem laws_toRecS_eq (m : Nat) : ∀ vs k, callK CX prims m 136 (fArgs laws_toRecS_a vs) k = laws_toRecS_w m vs k := by
  cases m with
  | zero => exact fun vs k => rfl
  | succ m => exact fun vs k => Eq.trans (b := bodyK CX (callK CX prims m) (loopK CX (callK CX prims m) laws_toRecS_fi laws_toRecS_c m) 136 Try.f136 laws_toRecS_c (fArgs laws_toRecS_a vs) k) (by kernel_rfl) ((bodyK_congr (laws_toRecS_cf m) ((laws_toRecS_lf m m).2) 136 Try.f136 laws_toRecS_c (fArgs laws_toRecS_a vs) k).trans (by kernel_rfl))

/-! loop.example/g00244/laws.toPair -/
noncomputable def laws_toPair : Nat → T → T → (T → T → An) → An
  | 0, _, _, _ => .bad
  | m + 1, x0, x1, k0 =>
    k0 x0 x1
noncomputable def laws_toPair_a : List Arg := [.agg [.sc (.str) (.l []), .sc (.str) (.l [])]]
noncomputable def laws_toPair_w (m : Nat) (vs : List T) (k : Ret → An) : An := laws_toPair m (vs.headD dflt) (vs.tail.headD dflt) (fun z0 z1 => k ⟨[.agg [.sc (.str) z0, .sc (.str) z1]], [[none, none]]⟩)
theorem laws_toPair_cf (m : Nat) : callK CX prims m = (callK CX prims m) := by
  rfl
noncomputable def laws_toPair_c : Code := (Try.f153.body).getD .skip
noncomputable def laws_toPair_fi : Fi := ⟨153, 1, 11, 4⟩
theorem laws_toPair_eq (m : Nat) : ∀ vs k, callK CX prims m 153 (fArgs laws_toPair_a vs) k = laws_toPair_w m vs k := by
  cases m with
  | zero => exact fun vs k => rfl
  | succ m => exact fun vs k => Eq.trans (b := bodyK CX (callK CX prims m) (loopK CX (callK CX prims m) laws_toPair_fi laws_toPair_c m) 153 Try.f153 laws_toPair_c (fArgs laws_toPair_a vs) k) (by kernel_rfl) ((bodyK_congr (laws_toPair_cf m) rfl 153 Try.f153 laws_toPair_c (fArgs laws_toPair_a vs) k).trans (by kernel_rfl))

/-! loop.example/g00244/laws.toPairS -/
noncomputable def laws_toPairS_L0_0 (m : Nat) : Nat → T → T → T → (T → An) → An
  | 0, _, _, _, _ => .bad
  | n + 1, x0, x1, x2, k0 =>
    cond (decide (x1.int < (x0.rows.length : Int)))
    (cond (decide (0 ≤ x1.int ∧ x1.int < (x0.rows.length : Int)))
    (laws_toPair m ((x0.rows.getD (Int.toNat x1.int) []).getD 0 dflt) ((x0.rows.getD (Int.toNat x1.int) []).getD 1 dflt)
    (fun y0 y1 => cond (decide (0 ≤ x1.int ∧ x1.int < (x2.rows.length : Int)))
    (cond (decide ((Int.toNat x1.int) < x2.rows.length))
    (laws_toPairS_L0_0 m n x0 (T.i (IntKind.i64.wrap (x1.int + 1))) (T.l (x2.rows.set (Int.toNat x1.int) (((x2.rows.getD (Int.toNat x1.int) []).set 0 y0).set 1 y1))) k0)
    (.bad))
    (.bad)))
    (.bad))
    (k0 (T.l x2.rows))
noncomputable def laws_toPairS_s0_0 : Pack := ⟨[(0, .one ⟨.sn [], .sl [.sc (.str), .sc (.str)], .l []⟩), (3, .one ⟨.al [1000000, 0] 0, .sl [.sc (.str), .sc (.str)], .l []⟩), (4, .one ⟨.sc, .sc (.int .i64), .l []⟩)], [([1000000, 0], .row [.sc (.str), .sc (.str)] [.F, .F] [])]⟩
noncomputable def laws_toPairS_e0_0 : Pack := ⟨[(3, .one ⟨.al [1000000, 0] 0, .sl [.sc (.str), .sc (.str)], .l []⟩)], [([1000000, 0], .row [.sc (.str), .sc (.str)] [.F, .F] [])]⟩
noncomputable def laws_toPairS_L0_0w (m n : Nat) (vs : List T) (k : Ctl → Pack → An) : An := laws_toPairS_L0_0 m n (vs.headD dflt) (vs.tail.headD dflt) (vs.tail.tail.headD dflt) (fun z0 => k (.exit 0) (fPack laws_toPairS_e0_0 [z0]))
noncomputable def laws_toPairS : Nat → T → (T → An) → An
  | 0, _, _ => .bad
  | m + 1, x0, k0 =>
    cond (decide (0 ≤ (x0.rows.length : Int) ∧ (x0.rows.length : Int) ≤ (x0.rows.length : Int)))
    (cond (decide ((x0.rows.length : Int) * ((32 : Nat) : Int) ≤ (maxCells : Int)))
    (laws_toPairS_L0_0 m m (T.l x0.rows) (T.i 0) (T.l (List.replicate (Int.toNat (x0.rows.length : Int)) [(T.s (⟨#[]⟩ : ByteArray)), (T.s (⟨#[]⟩ : ByteArray))]))
    (fun y2 => k0 (T.l y2.rows)))
    (.bad))
    (.bad)
noncomputable def laws_toPairS_a : List Arg := [.one (.fz [.sc (.str), .sc (.str)] [])]
noncomputable def laws_toPairS_w (m : Nat) (vs : List T) (k : Ret → An) : An := laws_toPairS m (vs.headD dflt) (fun z0 => k ⟨[.one (.own [1000000, 0] [.sc (.str), .sc (.str)] [.F, .F] z0.rows)], [[none]]⟩)
theorem laws_toPairS_cf (m : Nat) : callK CX prims m = (patC 153 laws_toPair_a (laws_toPair_w m) (callK CX prims m)) := by
  rw [← patC_eq (fun vs k => laws_toPair_eq m vs k)]
noncomputable def laws_toPairS_c : Code := (Try.f124.body).getD .skip
noncomputable def laws_toPairS_fi : Fi := ⟨124, 1, 23, 4⟩
theorem laws_toPairS_lf (m : Nat) : ∀ n, (∀ vs k, loopK CX (callK CX prims m) laws_toPairS_fi laws_toPairS_c n [0, 1, 0, 1, 1] (fPack laws_toPairS_s0_0 vs) k = laws_toPairS_L0_0w m n vs k) ∧ ((loopK CX (callK CX prims m) laws_toPairS_fi laws_toPairS_c n) = (patL [0, 1, 0, 1, 1] laws_toPairS_s0_0 (laws_toPairS_L0_0w m n) (loopK CX (callK CX prims m) laws_toPairS_fi laws_toPairS_c n))) := by
  intro n
  have hl : ∀ n, (∀ vs k, loopK CX (callK CX prims m) laws_toPairS_fi laws_toPairS_c n [0, 1, 0, 1, 1] (fPack laws_toPairS_s0_0 vs) k = laws_toPairS_L0_0w m n vs k) → ((loopK CX (callK CX prims m) laws_toPairS_fi laws_toPairS_c n) = (patL [0, 1, 0, 1, 1] laws_toPairS_s0_0 (laws_toPairS_L0_0w m n) (loopK CX (callK CX prims m) laws_toPairS_fi laws_toPairS_c n))) := by
    intro n h0
    rw [← patL_eq h0]
  induction n with
  | zero => exact ⟨fun vs k => rfl, hl 0 (fun vs k => rfl)⟩
  | succ n ihn =>
    have hn := ihn.2
    have h0 : ∀ vs k, loopK CX (callK CX prims m) laws_toPairS_fi laws_toPairS_c (n + 1) [0, 1, 0, 1, 1] (fPack laws_toPairS_s0_0 vs) k = laws_toPairS_L0_0w m (n + 1) vs k := fun vs k =>
      (stepL_congr (laws_toPairS_cf m) hn [0, 1, 0, 1, 1] _ _).trans (by kernel_rfl)
    exact ⟨h0, hl (n + 1) h0⟩
theorem laws_toPairS_eq (m : Nat) : ∀ vs k, callK CX prims m 124 (fArgs laws_toPairS_a vs) k = laws_toPairS_w m vs k := by
  cases m with
  | zero => exact fun vs k => rfl
  | succ m => exact fun vs k => Eq.trans (b := bodyK CX (callK CX prims m) (loopK CX (callK CX prims m) laws_toPairS_fi laws_toPairS_c m) 124 Try.f124 laws_toPairS_c (fArgs laws_toPairS_a vs) k) (by kernel_rfl) ((bodyK_congr (laws_toPairS_cf m) ((laws_toPairS_lf m m).2) 124 Try.f124 laws_toPairS_c (fArgs laws_toPairS_a vs) k).trans (by kernel_rfl))

/-! loop.example/g00244/laws.toShard -/
noncomputable def laws_toShard : Nat → T → T → T → T → T → (T → T → T → T → T → An) → An
  | 0, _, _, _, _, _, _ => .bad
  | m + 1, x0, x1, x2, x3, x4, k0 =>
    laws_toRecS m (T.l x1.rows)
    (fun y0 => laws_toPairS m (T.l x3.rows)
    (fun y1 => laws_toRecS m (T.l x4.rows)
    (fun y2 => k0 x0 (T.l y0.rows) x2 (T.l y1.rows) (T.l y2.rows))))
noncomputable def laws_toShard_a : List Arg := [.agg [.sc (.int .i64) (.l []), .fz [.sc (.int .i64), .sc (.int .i64), .sl [.sc (.int .i64), .sc (.str), .sc (.str)]] [], .sc (.int .i64) (.l []), .fz [.sc (.str), .sc (.str)] [], .fz [.sc (.int .i64), .sc (.int .i64), .sl [.sc (.int .i64), .sc (.str), .sc (.str)]] []]]
noncomputable def laws_toShard_w (m : Nat) (vs : List T) (k : Ret → An) : An := laws_toShard m (vs.headD dflt) (vs.tail.headD dflt) (vs.tail.tail.headD dflt) (vs.tail.tail.tail.headD dflt) (vs.tail.tail.tail.tail.headD dflt) (fun z0 z1 z2 z3 z4 => k ⟨[.agg [.sc (.int .i64) z0, .own [2000009, 0, 0] [.sc (.int .i64), .sc (.int .i64), .sl [.sc (.int .i64), .sc (.str), .sc (.str)]] [.F, .F, .F] z1.rows, .sc (.int .i64) z2, .own [2000016, 0, 0] [.sc (.str), .sc (.str)] [.F, .F] z3.rows, .own [2000020, 0, 0] [.sc (.int .i64), .sc (.int .i64), .sl [.sc (.int .i64), .sc (.str), .sc (.str)]] [.F, .F, .F] z4.rows]], [[none, none, none, none, none]]⟩)
theorem laws_toShard_cf (m : Nat) : callK CX prims m = (patC 136 laws_toRecS_a (laws_toRecS_w m) (patC 124 laws_toPairS_a (laws_toPairS_w m) (callK CX prims m))) := by
  rw [← patC_eq (fun vs k => laws_toPairS_eq m vs k), ← patC_eq (fun vs k => laws_toRecS_eq m vs k)]
noncomputable def laws_toShard_c : Code := (Try.f96.body).getD .skip
noncomputable def laws_toShard_fi : Fi := ⟨96, 1, 23, 4⟩
theorem laws_toShard_eq (m : Nat) : ∀ vs k, callK CX prims m 96 (fArgs laws_toShard_a vs) k = laws_toShard_w m vs k := by
  cases m with
  | zero => exact fun vs k => rfl
  | succ m => exact fun vs k => Eq.trans (b := bodyK CX (callK CX prims m) (loopK CX (callK CX prims m) laws_toShard_fi laws_toShard_c m) 96 Try.f96 laws_toShard_c (fArgs laws_toShard_a vs) k) (by kernel_rfl) ((bodyK_congr (laws_toShard_cf m) rfl 96 Try.f96 laws_toShard_c (fArgs laws_toShard_a vs) k).trans (by kernel_rfl))

/-! loop.example/g00244/laws.toShardS -/
noncomputable def laws_toShardS_L0_0 (m : Nat) : Nat → T → T → T → (T → An) → An
  | 0, _, _, _, _ => .bad
  | n + 1, x0, x1, x2, k0 =>
    cond (decide (x1.int < (x0.rows.length : Int)))
    (cond (decide (0 ≤ x1.int ∧ x1.int < (x0.rows.length : Int)))
    (laws_toShard m ((x0.rows.getD (Int.toNat x1.int) []).getD 0 dflt) (T.l ((x0.rows.getD (Int.toNat x1.int) []).getD 1 dflt).rows) ((x0.rows.getD (Int.toNat x1.int) []).getD 2 dflt) (T.l ((x0.rows.getD (Int.toNat x1.int) []).getD 3 dflt).rows) (T.l ((x0.rows.getD (Int.toNat x1.int) []).getD 4 dflt).rows)
    (fun y0 y1 y2 y3 y4 => cond (decide (0 ≤ x1.int ∧ x1.int < (x2.rows.length : Int)))
    (cond (decide ((Int.toNat x1.int) < x2.rows.length))
    (laws_toShardS_L0_0 m n x0 (T.i (IntKind.i64.wrap (x1.int + 1))) (T.l (x2.rows.set (Int.toNat x1.int) ((((((x2.rows.getD (Int.toNat x1.int) []).set 0 y0).set 1 (T.l y1.rows)).set 2 y2).set 3 (T.l y3.rows)).set 4 (T.l y4.rows)))) k0)
    (.bad))
    (.bad)))
    (.bad))
    (k0 (T.l x2.rows))
noncomputable def laws_toShardS_s0_0 : Pack := ⟨[(0, .one ⟨.sn [], .sl [.sc (.int .i64), .sl [.sc (.int .i64), .sc (.int .i64), .sl [.sc (.int .i64), .sc (.str), .sc (.str)]], .sc (.int .i64), .sl [.sc (.str), .sc (.str)], .sl [.sc (.int .i64), .sc (.int .i64), .sl [.sc (.int .i64), .sc (.str), .sc (.str)]]], .l []⟩), (3, .one ⟨.al [1000000, 0] 0, .sl [.sc (.int .i64), .sl [.sc (.int .i64), .sc (.int .i64), .sl [.sc (.int .i64), .sc (.str), .sc (.str)]], .sc (.int .i64), .sl [.sc (.str), .sc (.str)], .sl [.sc (.int .i64), .sc (.int .i64), .sl [.sc (.int .i64), .sc (.str), .sc (.str)]]], .l []⟩), (4, .one ⟨.sc, .sc (.int .i64), .l []⟩)], [([1000000, 0], .row [.sc (.int .i64), .sl [.sc (.int .i64), .sc (.int .i64), .sl [.sc (.int .i64), .sc (.str), .sc (.str)]], .sc (.int .i64), .sl [.sc (.str), .sc (.str)], .sl [.sc (.int .i64), .sc (.int .i64), .sl [.sc (.int .i64), .sc (.str), .sc (.str)]]] [.F, .F, .F, .F, .F] [])]⟩
noncomputable def laws_toShardS_e0_0 : Pack := ⟨[(3, .one ⟨.al [1000000, 0] 0, .sl [.sc (.int .i64), .sl [.sc (.int .i64), .sc (.int .i64), .sl [.sc (.int .i64), .sc (.str), .sc (.str)]], .sc (.int .i64), .sl [.sc (.str), .sc (.str)], .sl [.sc (.int .i64), .sc (.int .i64), .sl [.sc (.int .i64), .sc (.str), .sc (.str)]]], .l []⟩)], [([1000000, 0], .row [.sc (.int .i64), .sl [.sc (.int .i64), .sc (.int .i64), .sl [.sc (.int .i64), .sc (.str), .sc (.str)]], .sc (.int .i64), .sl [.sc (.str), .sc (.str)], .sl [.sc (.int .i64), .sc (.int .i64), .sl [.sc (.int .i64), .sc (.str), .sc (.str)]]] [.F, .F, .F, .F, .F] [])]⟩
noncomputable def laws_toShardS_L0_0w (m n : Nat) (vs : List T) (k : Ctl → Pack → An) : An := laws_toShardS_L0_0 m n (vs.headD dflt) (vs.tail.headD dflt) (vs.tail.tail.headD dflt) (fun z0 => k (.exit 0) (fPack laws_toShardS_e0_0 [z0]))
noncomputable def laws_toShardS : Nat → T → (T → An) → An
  | 0, _, _ => .bad
  | m + 1, x0, k0 =>
    cond (decide (0 ≤ (x0.rows.length : Int) ∧ (x0.rows.length : Int) ≤ (x0.rows.length : Int)))
    (cond (decide ((x0.rows.length : Int) * ((88 : Nat) : Int) ≤ (maxCells : Int)))
    (laws_toShardS_L0_0 m m (T.l x0.rows) (T.i 0) (T.l (List.replicate (Int.toNat (x0.rows.length : Int)) [(T.i 0), (T.l []), (T.i 0), (T.l []), (T.l [])]))
    (fun y5 => k0 (T.l y5.rows)))
    (.bad))
    (.bad)
noncomputable def laws_toShardS_a : List Arg := [.one (.fz [.sc (.int .i64), .sl [.sc (.int .i64), .sc (.int .i64), .sl [.sc (.int .i64), .sc (.str), .sc (.str)]], .sc (.int .i64), .sl [.sc (.str), .sc (.str)], .sl [.sc (.int .i64), .sc (.int .i64), .sl [.sc (.int .i64), .sc (.str), .sc (.str)]]] [])]
noncomputable def laws_toShardS_w (m : Nat) (vs : List T) (k : Ret → An) : An := laws_toShardS m (vs.headD dflt) (fun z0 => k ⟨[.one (.own [1000000, 0] [.sc (.int .i64), .sl [.sc (.int .i64), .sc (.int .i64), .sl [.sc (.int .i64), .sc (.str), .sc (.str)]], .sc (.int .i64), .sl [.sc (.str), .sc (.str)], .sl [.sc (.int .i64), .sc (.int .i64), .sl [.sc (.int .i64), .sc (.str), .sc (.str)]]] [.F, .F, .F, .F, .F] z0.rows)], [[none]]⟩)
theorem laws_toShardS_cf (m : Nat) : callK CX prims m = (patC 96 laws_toShard_a (laws_toShard_w m) (callK CX prims m)) := by
  rw [← patC_eq (fun vs k => laws_toShard_eq m vs k)]
noncomputable def laws_toShardS_c : Code := (Try.f48.body).getD .skip
noncomputable def laws_toShardS_fi : Fi := ⟨48, 1, 23, 4⟩
theorem laws_toShardS_lf (m : Nat) : ∀ n, (∀ vs k, loopK CX (callK CX prims m) laws_toShardS_fi laws_toShardS_c n [0, 1, 0, 1, 1] (fPack laws_toShardS_s0_0 vs) k = laws_toShardS_L0_0w m n vs k) ∧ ((loopK CX (callK CX prims m) laws_toShardS_fi laws_toShardS_c n) = (patL [0, 1, 0, 1, 1] laws_toShardS_s0_0 (laws_toShardS_L0_0w m n) (loopK CX (callK CX prims m) laws_toShardS_fi laws_toShardS_c n))) := by
  intro n
  have hl : ∀ n, (∀ vs k, loopK CX (callK CX prims m) laws_toShardS_fi laws_toShardS_c n [0, 1, 0, 1, 1] (fPack laws_toShardS_s0_0 vs) k = laws_toShardS_L0_0w m n vs k) → ((loopK CX (callK CX prims m) laws_toShardS_fi laws_toShardS_c n) = (patL [0, 1, 0, 1, 1] laws_toShardS_s0_0 (laws_toShardS_L0_0w m n) (loopK CX (callK CX prims m) laws_toShardS_fi laws_toShardS_c n))) := by
    intro n h0
    rw [← patL_eq h0]
  induction n with
  | zero => exact ⟨fun vs k => rfl, hl 0 (fun vs k => rfl)⟩
  | succ n ihn =>
    have hn := ihn.2
    have h0 : ∀ vs k, loopK CX (callK CX prims m) laws_toShardS_fi laws_toShardS_c (n + 1) [0, 1, 0, 1, 1] (fPack laws_toShardS_s0_0 vs) k = laws_toShardS_L0_0w m (n + 1) vs k := fun vs k =>
      (stepL_congr (laws_toShardS_cf m) hn [0, 1, 0, 1, 1] _ _).trans (by kernel_rfl)
    exact ⟨h0, hl (n + 1) h0⟩
theorem laws_toShardS_eq (m : Nat) : ∀ vs k, callK CX prims m 48 (fArgs laws_toShardS_a vs) k = laws_toShardS_w m vs k := by
  cases m with
  | zero => exact fun vs k => rfl
  | succ m => exact fun vs k => Eq.trans (b := bodyK CX (callK CX prims m) (loopK CX (callK CX prims m) laws_toShardS_fi laws_toShardS_c m) 48 Try.f48 laws_toShardS_c (fArgs laws_toShardS_a vs) k) (by kernel_rfl) ((bodyK_congr (laws_toShardS_cf m) ((laws_toShardS_lf m m).2) 48 Try.f48 laws_toShardS_c (fArgs laws_toShardS_a vs) k).trans (by kernel_rfl))

/-! loop.example/g00244/laws.toWord -/
noncomputable def laws_toWord : Nat → T → T → T → T → T → (T → T → T → T → T → An) → An
  | 0, _, _, _, _, _, _ => .bad
  | m + 1, x0, x1, x2, x3, x4, k0 =>
    laws_toOpS m (T.l x3.rows)
    (fun y0 => k0 x0 x1 x2 (T.l y0.rows) x4)
noncomputable def laws_toWord_a : List Arg := [.agg [.sc (.int .i64) (.l []), .sc (.int .i64) (.l []), .sc (.int .i64) (.l []), .fz [.sc (.int .i64), .sc (.str), .sc (.str)] [], .sc (.bool) (.l [])]]
noncomputable def laws_toWord_w (m : Nat) (vs : List T) (k : Ret → An) : An := laws_toWord m (vs.headD dflt) (vs.tail.headD dflt) (vs.tail.tail.headD dflt) (vs.tail.tail.tail.headD dflt) (vs.tail.tail.tail.tail.headD dflt) (fun z0 z1 z2 z3 z4 => k ⟨[.agg [.sc (.int .i64) z0, .sc (.int .i64) z1, .sc (.int .i64) z2, .own [2000015, 0, 0] [.sc (.int .i64), .sc (.str), .sc (.str)] [.F, .F, .F] z3.rows, .sc (.bool) z4]], [[none, none, none, none, none]]⟩)
theorem laws_toWord_cf (m : Nat) : callK CX prims m = (patC 137 laws_toOpS_a (laws_toOpS_w m) (callK CX prims m)) := by
  rw [← patC_eq (fun vs k => laws_toOpS_eq m vs k)]
noncomputable def laws_toWord_c : Code := (Try.f97.body).getD .skip
noncomputable def laws_toWord_fi : Fi := ⟨97, 1, 21, 4⟩
theorem laws_toWord_eq (m : Nat) : ∀ vs k, callK CX prims m 97 (fArgs laws_toWord_a vs) k = laws_toWord_w m vs k := by
  cases m with
  | zero => exact fun vs k => rfl
  | succ m => exact fun vs k => Eq.trans (b := bodyK CX (callK CX prims m) (loopK CX (callK CX prims m) laws_toWord_fi laws_toWord_c m) 97 Try.f97 laws_toWord_c (fArgs laws_toWord_a vs) k) (by kernel_rfl) ((bodyK_congr (laws_toWord_cf m) rfl 97 Try.f97 laws_toWord_c (fArgs laws_toWord_a vs) k).trans (by kernel_rfl))

/-! loop.example/g00244/laws.toWordS -/
noncomputable def laws_toWordS_L0_0 (m : Nat) : Nat → T → T → T → (T → An) → An
  | 0, _, _, _, _ => .bad
  | n + 1, x0, x1, x2, k0 =>
    cond (decide (x1.int < (x0.rows.length : Int)))
    (cond (decide (0 ≤ x1.int ∧ x1.int < (x0.rows.length : Int)))
    (laws_toWord m ((x0.rows.getD (Int.toNat x1.int) []).getD 0 dflt) ((x0.rows.getD (Int.toNat x1.int) []).getD 1 dflt) ((x0.rows.getD (Int.toNat x1.int) []).getD 2 dflt) (T.l ((x0.rows.getD (Int.toNat x1.int) []).getD 3 dflt).rows) ((x0.rows.getD (Int.toNat x1.int) []).getD 4 dflt)
    (fun y0 y1 y2 y3 y4 => cond (decide (0 ≤ x1.int ∧ x1.int < (x2.rows.length : Int)))
    (cond (decide ((Int.toNat x1.int) < x2.rows.length))
    (laws_toWordS_L0_0 m n x0 (T.i (IntKind.i64.wrap (x1.int + 1))) (T.l (x2.rows.set (Int.toNat x1.int) ((((((x2.rows.getD (Int.toNat x1.int) []).set 0 y0).set 1 y1).set 2 y2).set 3 (T.l y3.rows)).set 4 y4))) k0)
    (.bad))
    (.bad)))
    (.bad))
    (k0 (T.l x2.rows))
noncomputable def laws_toWordS_s0_0 : Pack := ⟨[(0, .one ⟨.sn [], .sl [.sc (.int .i64), .sc (.int .i64), .sc (.int .i64), .sl [.sc (.int .i64), .sc (.str), .sc (.str)], .sc (.bool)], .l []⟩), (3, .one ⟨.al [1000000, 0] 0, .sl [.sc (.int .i64), .sc (.int .i64), .sc (.int .i64), .sl [.sc (.int .i64), .sc (.str), .sc (.str)], .sc (.bool)], .l []⟩), (4, .one ⟨.sc, .sc (.int .i64), .l []⟩)], [([1000000, 0], .row [.sc (.int .i64), .sc (.int .i64), .sc (.int .i64), .sl [.sc (.int .i64), .sc (.str), .sc (.str)], .sc (.bool)] [.F, .F, .F, .F, .F] [])]⟩
noncomputable def laws_toWordS_e0_0 : Pack := ⟨[(3, .one ⟨.al [1000000, 0] 0, .sl [.sc (.int .i64), .sc (.int .i64), .sc (.int .i64), .sl [.sc (.int .i64), .sc (.str), .sc (.str)], .sc (.bool)], .l []⟩)], [([1000000, 0], .row [.sc (.int .i64), .sc (.int .i64), .sc (.int .i64), .sl [.sc (.int .i64), .sc (.str), .sc (.str)], .sc (.bool)] [.F, .F, .F, .F, .F] [])]⟩
noncomputable def laws_toWordS_L0_0w (m n : Nat) (vs : List T) (k : Ctl → Pack → An) : An := laws_toWordS_L0_0 m n (vs.headD dflt) (vs.tail.headD dflt) (vs.tail.tail.headD dflt) (fun z0 => k (.exit 0) (fPack laws_toWordS_e0_0 [z0]))
noncomputable def laws_toWordS : Nat → T → (T → An) → An
  | 0, _, _ => .bad
  | m + 1, x0, k0 =>
    cond (decide (0 ≤ (x0.rows.length : Int) ∧ (x0.rows.length : Int) ≤ (x0.rows.length : Int)))
    (cond (decide ((x0.rows.length : Int) * ((56 : Nat) : Int) ≤ (maxCells : Int)))
    (laws_toWordS_L0_0 m m (T.l x0.rows) (T.i 0) (T.l (List.replicate (Int.toNat (x0.rows.length : Int)) [(T.i 0), (T.i 0), (T.i 0), (T.l []), (T.b false)]))
    (fun y5 => k0 (T.l y5.rows)))
    (.bad))
    (.bad)
noncomputable def laws_toWordS_a : List Arg := [.one (.fz [.sc (.int .i64), .sc (.int .i64), .sc (.int .i64), .sl [.sc (.int .i64), .sc (.str), .sc (.str)], .sc (.bool)] [])]
noncomputable def laws_toWordS_w (m : Nat) (vs : List T) (k : Ret → An) : An := laws_toWordS m (vs.headD dflt) (fun z0 => k ⟨[.one (.own [1000000, 0] [.sc (.int .i64), .sc (.int .i64), .sc (.int .i64), .sl [.sc (.int .i64), .sc (.str), .sc (.str)], .sc (.bool)] [.F, .F, .F, .F, .F] z0.rows)], [[none]]⟩)
theorem laws_toWordS_cf (m : Nat) : callK CX prims m = (patC 97 laws_toWord_a (laws_toWord_w m) (callK CX prims m)) := by
  rw [← patC_eq (fun vs k => laws_toWord_eq m vs k)]
noncomputable def laws_toWordS_c : Code := (Try.f49.body).getD .skip
noncomputable def laws_toWordS_fi : Fi := ⟨49, 1, 23, 4⟩
theorem laws_toWordS_lf (m : Nat) : ∀ n, (∀ vs k, loopK CX (callK CX prims m) laws_toWordS_fi laws_toWordS_c n [0, 1, 0, 1, 1] (fPack laws_toWordS_s0_0 vs) k = laws_toWordS_L0_0w m n vs k) ∧ ((loopK CX (callK CX prims m) laws_toWordS_fi laws_toWordS_c n) = (patL [0, 1, 0, 1, 1] laws_toWordS_s0_0 (laws_toWordS_L0_0w m n) (loopK CX (callK CX prims m) laws_toWordS_fi laws_toWordS_c n))) := by
  intro n
  have hl : ∀ n, (∀ vs k, loopK CX (callK CX prims m) laws_toWordS_fi laws_toWordS_c n [0, 1, 0, 1, 1] (fPack laws_toWordS_s0_0 vs) k = laws_toWordS_L0_0w m n vs k) → ((loopK CX (callK CX prims m) laws_toWordS_fi laws_toWordS_c n) = (patL [0, 1, 0, 1, 1] laws_toWordS_s0_0 (laws_toWordS_L0_0w m n) (loopK CX (callK CX prims m) laws_toWordS_fi laws_toWordS_c n))) := by
    intro n h0
    rw [← patL_eq h0]
  induction n with
  | zero => exact ⟨fun vs k => rfl, hl 0 (fun vs k => rfl)⟩
  | succ n ihn =>
    have hn := ihn.2
    have h0 : ∀ vs k, loopK CX (callK CX prims m) laws_toWordS_fi laws_toWordS_c (n + 1) [0, 1, 0, 1, 1] (fPack laws_toWordS_s0_0 vs) k = laws_toWordS_L0_0w m (n + 1) vs k := fun vs k =>
      (stepL_congr (laws_toWordS_cf m) hn [0, 1, 0, 1, 1] _ _).trans (by kernel_rfl)
    exact ⟨h0, hl (n + 1) h0⟩
theorem laws_toWordS_eq (m : Nat) : ∀ vs k, callK CX prims m 49 (fArgs laws_toWordS_a vs) k = laws_toWordS_w m vs k := by
  cases m with
  | zero => exact fun vs k => rfl
  | succ m => exact fun vs k => Eq.trans (b := bodyK CX (callK CX prims m) (loopK CX (callK CX prims m) laws_toWordS_fi laws_toWordS_c m) 49 Try.f49 laws_toWordS_c (fArgs laws_toWordS_a vs) k) (by kernel_rfl) ((bodyK_congr (laws_toWordS_cf m) ((laws_toWordS_lf m m).2) 49 Try.f49 laws_toWordS_c (fArgs laws_toWordS_a vs) k).trans (by kernel_rfl))

/-! loop.example/g00244/laws.toOrder -/
noncomputable def laws_toOrder : Nat → T → T → (T → T → An) → An
  | 0, _, _, _ => .bad
  | m + 1, x0, x1, k0 =>
    laws_toOpS m (T.l x1.rows)
    (fun y0 => k0 x0 (T.l y0.rows))
noncomputable def laws_toOrder_a : List Arg := [.agg [.sc (.int .i64) (.l []), .fz [.sc (.int .i64), .sc (.str), .sc (.str)] []]]
noncomputable def laws_toOrder_w (m : Nat) (vs : List T) (k : Ret → An) : An := laws_toOrder m (vs.headD dflt) (vs.tail.headD dflt) (fun z0 z1 => k ⟨[.agg [.sc (.int .i64) z0, .own [2000009, 0, 0] [.sc (.int .i64), .sc (.str), .sc (.str)] [.F, .F, .F] z1.rows]], [[none, none]]⟩)
theorem laws_toOrder_cf (m : Nat) : callK CX prims m = (patC 137 laws_toOpS_a (laws_toOpS_w m) (callK CX prims m)) := by
  rw [← patC_eq (fun vs k => laws_toOpS_eq m vs k)]
noncomputable def laws_toOrder_c : Code := (Try.f98.body).getD .skip
noncomputable def laws_toOrder_fi : Fi := ⟨98, 1, 12, 4⟩
theorem laws_toOrder_eq (m : Nat) : ∀ vs k, callK CX prims m 98 (fArgs laws_toOrder_a vs) k = laws_toOrder_w m vs k := by
  cases m with
  | zero => exact fun vs k => rfl
  | succ m => exact fun vs k => Eq.trans (b := bodyK CX (callK CX prims m) (loopK CX (callK CX prims m) laws_toOrder_fi laws_toOrder_c m) 98 Try.f98 laws_toOrder_c (fArgs laws_toOrder_a vs) k) (by kernel_rfl) ((bodyK_congr (laws_toOrder_cf m) rfl 98 Try.f98 laws_toOrder_c (fArgs laws_toOrder_a vs) k).trans (by kernel_rfl))

/-! loop.example/g00244/laws.toOrderS -/
noncomputable def laws_toOrderS_L0_0 (m : Nat) : Nat → T → T → T → (T → An) → An
  | 0, _, _, _, _ => .bad
  | n + 1, x0, x1, x2, k0 =>
    cond (decide (x1.int < (x0.rows.length : Int)))
    (cond (decide (0 ≤ x1.int ∧ x1.int < (x0.rows.length : Int)))
    (laws_toOrder m ((x0.rows.getD (Int.toNat x1.int) []).getD 0 dflt) (T.l ((x0.rows.getD (Int.toNat x1.int) []).getD 1 dflt).rows)
    (fun y0 y1 => cond (decide (0 ≤ x1.int ∧ x1.int < (x2.rows.length : Int)))
    (cond (decide ((Int.toNat x1.int) < x2.rows.length))
    (laws_toOrderS_L0_0 m n x0 (T.i (IntKind.i64.wrap (x1.int + 1))) (T.l (x2.rows.set (Int.toNat x1.int) (((x2.rows.getD (Int.toNat x1.int) []).set 0 y0).set 1 (T.l y1.rows)))) k0)
    (.bad))
    (.bad)))
    (.bad))
    (k0 (T.l x2.rows))
noncomputable def laws_toOrderS_s0_0 : Pack := ⟨[(0, .one ⟨.sn [], .sl [.sc (.int .i64), .sl [.sc (.int .i64), .sc (.str), .sc (.str)]], .l []⟩), (3, .one ⟨.al [1000000, 0] 0, .sl [.sc (.int .i64), .sl [.sc (.int .i64), .sc (.str), .sc (.str)]], .l []⟩), (4, .one ⟨.sc, .sc (.int .i64), .l []⟩)], [([1000000, 0], .row [.sc (.int .i64), .sl [.sc (.int .i64), .sc (.str), .sc (.str)]] [.F, .F] [])]⟩
noncomputable def laws_toOrderS_e0_0 : Pack := ⟨[(3, .one ⟨.al [1000000, 0] 0, .sl [.sc (.int .i64), .sl [.sc (.int .i64), .sc (.str), .sc (.str)]], .l []⟩)], [([1000000, 0], .row [.sc (.int .i64), .sl [.sc (.int .i64), .sc (.str), .sc (.str)]] [.F, .F] [])]⟩
noncomputable def laws_toOrderS_L0_0w (m n : Nat) (vs : List T) (k : Ctl → Pack → An) : An := laws_toOrderS_L0_0 m n (vs.headD dflt) (vs.tail.headD dflt) (vs.tail.tail.headD dflt) (fun z0 => k (.exit 0) (fPack laws_toOrderS_e0_0 [z0]))
noncomputable def laws_toOrderS : Nat → T → (T → An) → An
  | 0, _, _ => .bad
  | m + 1, x0, k0 =>
    cond (decide (0 ≤ (x0.rows.length : Int) ∧ (x0.rows.length : Int) ≤ (x0.rows.length : Int)))
    (cond (decide ((x0.rows.length : Int) * ((32 : Nat) : Int) ≤ (maxCells : Int)))
    (laws_toOrderS_L0_0 m m (T.l x0.rows) (T.i 0) (T.l (List.replicate (Int.toNat (x0.rows.length : Int)) [(T.i 0), (T.l [])]))
    (fun y2 => k0 (T.l y2.rows)))
    (.bad))
    (.bad)
noncomputable def laws_toOrderS_a : List Arg := [.one (.fz [.sc (.int .i64), .sl [.sc (.int .i64), .sc (.str), .sc (.str)]] [])]
noncomputable def laws_toOrderS_w (m : Nat) (vs : List T) (k : Ret → An) : An := laws_toOrderS m (vs.headD dflt) (fun z0 => k ⟨[.one (.own [1000000, 0] [.sc (.int .i64), .sl [.sc (.int .i64), .sc (.str), .sc (.str)]] [.F, .F] z0.rows)], [[none]]⟩)
theorem laws_toOrderS_cf (m : Nat) : callK CX prims m = (patC 98 laws_toOrder_a (laws_toOrder_w m) (callK CX prims m)) := by
  rw [← patC_eq (fun vs k => laws_toOrder_eq m vs k)]
noncomputable def laws_toOrderS_c : Code := (Try.f50.body).getD .skip
noncomputable def laws_toOrderS_fi : Fi := ⟨50, 1, 23, 4⟩
theorem laws_toOrderS_lf (m : Nat) : ∀ n, (∀ vs k, loopK CX (callK CX prims m) laws_toOrderS_fi laws_toOrderS_c n [0, 1, 0, 1, 1] (fPack laws_toOrderS_s0_0 vs) k = laws_toOrderS_L0_0w m n vs k) ∧ ((loopK CX (callK CX prims m) laws_toOrderS_fi laws_toOrderS_c n) = (patL [0, 1, 0, 1, 1] laws_toOrderS_s0_0 (laws_toOrderS_L0_0w m n) (loopK CX (callK CX prims m) laws_toOrderS_fi laws_toOrderS_c n))) := by
  intro n
  have hl : ∀ n, (∀ vs k, loopK CX (callK CX prims m) laws_toOrderS_fi laws_toOrderS_c n [0, 1, 0, 1, 1] (fPack laws_toOrderS_s0_0 vs) k = laws_toOrderS_L0_0w m n vs k) → ((loopK CX (callK CX prims m) laws_toOrderS_fi laws_toOrderS_c n) = (patL [0, 1, 0, 1, 1] laws_toOrderS_s0_0 (laws_toOrderS_L0_0w m n) (loopK CX (callK CX prims m) laws_toOrderS_fi laws_toOrderS_c n))) := by
    intro n h0
    rw [← patL_eq h0]
  induction n with
  | zero => exact ⟨fun vs k => rfl, hl 0 (fun vs k => rfl)⟩
  | succ n ihn =>
    have hn := ihn.2
    have h0 : ∀ vs k, loopK CX (callK CX prims m) laws_toOrderS_fi laws_toOrderS_c (n + 1) [0, 1, 0, 1, 1] (fPack laws_toOrderS_s0_0 vs) k = laws_toOrderS_L0_0w m (n + 1) vs k := fun vs k =>
      (stepL_congr (laws_toOrderS_cf m) hn [0, 1, 0, 1, 1] _ _).trans (by kernel_rfl)
    exact ⟨h0, hl (n + 1) h0⟩
theorem laws_toOrderS_eq (m : Nat) : ∀ vs k, callK CX prims m 50 (fArgs laws_toOrderS_a vs) k = laws_toOrderS_w m vs k := by
  cases m with
  | zero => exact fun vs k => rfl
  | succ m => exact fun vs k => Eq.trans (b := bodyK CX (callK CX prims m) (loopK CX (callK CX prims m) laws_toOrderS_fi laws_toOrderS_c m) 50 Try.f50 laws_toOrderS_c (fArgs laws_toOrderS_a vs) k) (by kernel_rfl) ((bodyK_congr (laws_toOrderS_cf m) ((laws_toOrderS_lf m m).2) 50 Try.f50 laws_toOrderS_c (fArgs laws_toOrderS_a vs) k).trans (by kernel_rfl))

/-! loop.example/g00244/laws.toWorld -/
noncomputable def laws_toWorld : Nat → T → T → T → T → T → T → T → T → T → T → (T → T → T → T → T → T → T → T → T → T → An) → An
  | 0, _, _, _, _, _, _, _, _, _, _, _ => .bad
  | m + 1, x0, x1, x2, x3, x4, x5, x6, x7, x8, x9, k0 =>
    laws_toCoord m x0 x1 x2 (T.l x3.rows) (T.l x4.rows) x5
    (fun y0 y1 y2 y3 y4 y5 => laws_toShardS m (T.l x6.rows)
    (fun y6 => laws_toWordS m (T.l x7.rows)
    (fun y7 => laws_toWordS m (T.l x8.rows)
    (fun y8 => laws_toOrderS m (T.l x9.rows)
    (fun y9 => k0 y0 y1 y2 (T.l y3.rows) (T.l y4.rows) y5 (T.l y6.rows) (T.l y7.rows) (T.l y8.rows) (T.l y9.rows))))))
noncomputable def laws_toWorld_a : List Arg := [.agg [.sc (.int .i64) (.l []), .sc (.int .i64) (.l []), .sc (.int .i64) (.l []), .fz [.sc (.int .i64), .sl [.sc (.int .i64), .sc (.str), .sc (.str)], .sc (.int .i64), .sl [.sc (.int .i64)]] [], .fz [.sc (.int .i64), .sc (.bool)] [], .sc (.int .i64) (.l []), .fz [.sc (.int .i64), .sl [.sc (.int .i64), .sc (.int .i64), .sl [.sc (.int .i64), .sc (.str), .sc (.str)]], .sc (.int .i64), .sl [.sc (.str), .sc (.str)], .sl [.sc (.int .i64), .sc (.int .i64), .sl [.sc (.int .i64), .sc (.str), .sc (.str)]]] [], .fz [.sc (.int .i64), .sc (.int .i64), .sc (.int .i64), .sl [.sc (.int .i64), .sc (.str), .sc (.str)], .sc (.bool)] [], .fz [.sc (.int .i64), .sc (.int .i64), .sc (.int .i64), .sl [.sc (.int .i64), .sc (.str), .sc (.str)], .sc (.bool)] [], .fz [.sc (.int .i64), .sl [.sc (.int .i64), .sc (.str), .sc (.str)]] []]]
noncomputable def laws_toWorld_w (m : Nat) (vs : List T) (k : Ret → An) : An := laws_toWorld m (vs.headD dflt) (vs.tail.headD dflt) (vs.tail.tail.headD dflt) (vs.tail.tail.tail.headD dflt) (vs.tail.tail.tail.tail.headD dflt) (vs.tail.tail.tail.tail.tail.headD dflt) (vs.tail.tail.tail.tail.tail.tail.headD dflt) (vs.tail.tail.tail.tail.tail.tail.tail.headD dflt) (vs.tail.tail.tail.tail.tail.tail.tail.tail.headD dflt) (vs.tail.tail.tail.tail.tail.tail.tail.tail.tail.headD dflt) (fun z0 z1 z2 z3 z4 z5 z6 z7 z8 z9 => k ⟨[.agg [.sc (.int .i64) z0, .sc (.int .i64) z1, .sc (.int .i64) z2, .own [2000006, 0, 3] [.sc (.int .i64), .sl [.sc (.int .i64), .sc (.str), .sc (.str)], .sc (.int .i64), .sl [.sc (.int .i64)]] [.F, .F, .F, .F] z3.rows, .own [2000006, 0, 4] [.sc (.int .i64), .sc (.bool)] [.F, .F] z4.rows, .sc (.int .i64) z5, .own [2000010, 0, 0] [.sc (.int .i64), .sl [.sc (.int .i64), .sc (.int .i64), .sl [.sc (.int .i64), .sc (.str), .sc (.str)]], .sc (.int .i64), .sl [.sc (.str), .sc (.str)], .sl [.sc (.int .i64), .sc (.int .i64), .sl [.sc (.int .i64), .sc (.str), .sc (.str)]]] [.F, .F, .F, .F, .F] z6.rows, .own [2000014, 0, 0] [.sc (.int .i64), .sc (.int .i64), .sc (.int .i64), .sl [.sc (.int .i64), .sc (.str), .sc (.str)], .sc (.bool)] [.F, .F, .F, .F, .F] z7.rows, .own [2000018, 0, 0] [.sc (.int .i64), .sc (.int .i64), .sc (.int .i64), .sl [.sc (.int .i64), .sc (.str), .sc (.str)], .sc (.bool)] [.F, .F, .F, .F, .F] z8.rows, .own [2000022, 0, 0] [.sc (.int .i64), .sl [.sc (.int .i64), .sc (.str), .sc (.str)]] [.F, .F] z9.rows]], [[none, none, none, none, none, none, none, none, none, none]]⟩)
theorem laws_toWorld_cf (m : Nat) : callK CX prims m = (patC 47 laws_toCoord_a (laws_toCoord_w m) (patC 48 laws_toShardS_a (laws_toShardS_w m) (patC 49 laws_toWordS_a (laws_toWordS_w m) (patC 50 laws_toOrderS_a (laws_toOrderS_w m) (callK CX prims m))))) := by
  rw [← patC_eq (fun vs k => laws_toOrderS_eq m vs k), ← patC_eq (fun vs k => laws_toWordS_eq m vs k), ← patC_eq (fun vs k => laws_toShardS_eq m vs k), ← patC_eq (fun vs k => laws_toCoord_eq m vs k)]
noncomputable def laws_toWorld_c : Code := (Try.f12.body).getD .skip
noncomputable def laws_toWorld_fi : Fi := ⟨12, 1, 25, 4⟩
theorem laws_toWorld_eq (m : Nat) : ∀ vs k, callK CX prims m 12 (fArgs laws_toWorld_a vs) k = laws_toWorld_w m vs k := by
  cases m with
  | zero => exact fun vs k => rfl
  | succ m => exact fun vs k => Eq.trans (b := bodyK CX (callK CX prims m) (loopK CX (callK CX prims m) laws_toWorld_fi laws_toWorld_c m) 12 Try.f12 laws_toWorld_c (fArgs laws_toWorld_a vs) k) (by kernel_rfl) ((bodyK_congr (laws_toWorld_cf m) rfl 12 Try.f12 laws_toWorld_c (fArgs laws_toWorld_a vs) k).trans (by kernel_rfl))

/-! loop.example/g00244/spec.Open -/
noncomputable def spec_Open_L1_0 (m : Nat) : Nat → T → T → T → T → T → T → T → T → T → T → T → T → T → (T → An) → An
  | 0, _, _, _, _, _, _, _, _, _, _, _, _, _, _ => .bad
  | n + 1, x0, x1, x2, x3, x4, x5, x6, x7, x8, x9, x10, x11, x12, k0 =>
    cond (decide (x2.int < (x6.rows.length : Int)))
    (cond (decide (0 ≤ x2.int ∧ x2.int < (x6.rows.length : Int)))
    (cond ((((x6.rows.getD (Int.toNat x2.int) []).drop 2).getD 0 dflt).int == 1)
    (spec_Open_L1_0 m n (T.i (x0.int.toNat : Int)) (T.i (IntKind.i64.wrap (x1.int + 1))) (T.i (IntKind.i64.wrap (x2.int + 1))) x3 x4 x5 x6 x7 x8 x9 x10 x11 x12 k0)
    (spec_Open_L1_0 m n (T.i (x0.int.toNat : Int)) x1 (T.i (IntKind.i64.wrap (x2.int + 1))) x3 x4 x5 x6 x7 x8 x9 x10 x11 x12 k0))
    (.bad))
    (k0 x1)
noncomputable def spec_Open_s1_0 : Pack := ⟨[(1, .ptr [1000000, 0] 0 0 0), (3, .one ⟨.sc, .sc (.int .i64), .l []⟩), (5, .one ⟨.sc, .sc (.int .i64), .l []⟩)], [([1000000, 0], .box [⟨.sc, .sc (.int .i64), .l []⟩, ⟨.sc, .sc (.int .i64), .l []⟩, ⟨.sc, .sc (.int .i64), .l []⟩, ⟨.sn [], .sl [.sc (.int .i64), .sl [.sc (.int .i64), .sc (.str), .sc (.str)], .sc (.int .i64), .sl [.sc (.int .i64)]], .l []⟩, ⟨.sn [], .sl [.sc (.int .i64), .sc (.bool)], .l []⟩, ⟨.sc, .sc (.int .i64), .l []⟩, ⟨.sn [], .sl [.sc (.int .i64), .sl [.sc (.int .i64), .sc (.int .i64), .sl [.sc (.int .i64), .sc (.str), .sc (.str)]], .sc (.int .i64), .sl [.sc (.str), .sc (.str)], .sl [.sc (.int .i64), .sc (.int .i64), .sl [.sc (.int .i64), .sc (.str), .sc (.str)]]], .l []⟩, ⟨.sn [], .sl [.sc (.int .i64), .sc (.int .i64), .sc (.int .i64), .sl [.sc (.int .i64), .sc (.str), .sc (.str)], .sc (.bool)], .l []⟩, ⟨.sn [], .sl [.sc (.int .i64), .sc (.int .i64), .sc (.int .i64), .sl [.sc (.int .i64), .sc (.str), .sc (.str)], .sc (.bool)], .l []⟩, ⟨.sn [], .sl [.sc (.int .i64), .sl [.sc (.int .i64), .sc (.str), .sc (.str)]], .l []⟩])]⟩
noncomputable def spec_Open_e1_0 : Pack := ⟨[(3, .one ⟨.sc, .sc (.int .i64), .l []⟩)], []⟩
noncomputable def spec_Open_L1_0w (m n : Nat) (vs : List T) (k : Ctl → Pack → An) : An := spec_Open_L1_0 m n (vs.headD dflt) (vs.tail.headD dflt) (vs.tail.tail.headD dflt) (vs.tail.tail.tail.headD dflt) (vs.tail.tail.tail.tail.headD dflt) (vs.tail.tail.tail.tail.tail.headD dflt) (vs.tail.tail.tail.tail.tail.tail.headD dflt) (vs.tail.tail.tail.tail.tail.tail.tail.headD dflt) (vs.tail.tail.tail.tail.tail.tail.tail.tail.headD dflt) (vs.tail.tail.tail.tail.tail.tail.tail.tail.tail.headD dflt) (vs.tail.tail.tail.tail.tail.tail.tail.tail.tail.tail.headD dflt) (vs.tail.tail.tail.tail.tail.tail.tail.tail.tail.tail.tail.headD dflt) (vs.tail.tail.tail.tail.tail.tail.tail.tail.tail.tail.tail.tail.headD dflt) (fun z0 => k (.exit 2) (fPack spec_Open_e1_0 [z0]))
noncomputable def spec_Open_L0_0 (m : Nat) : Nat → T → T → T → T → T → T → T → T → T → T → T → T → T → (T → T → T → T → T → T → T → T → T → T → T → T → An) → An
  | 0, _, _, _, _, _, _, _, _, _, _, _, _, _, _ => .bad
  | n + 1, x0, x1, x2, x3, x4, x5, x6, x7, x8, x9, x10, x11, x12, k0 =>
    cond (decide (x2.int < (x9.rows.length : Int)))
    (cond (decide (0 ≤ x2.int ∧ x2.int < (x9.rows.length : Int)))
    (spec_Open_L0_0 m n (T.i (x0.int.toNat : Int)) (T.i (IntKind.i64.wrap (x1.int + ((((x9.rows.getD (Int.toNat x2.int) []).drop 4).getD 0 dflt).rows.length : Int)))) (T.i (IntKind.i64.wrap (x2.int + 1))) x3 x4 x5 x6 x7 x8 x9 x10 x11 x12 k0)
    (.bad))
    (k0 (T.i (x0.int.toNat : Int)) x1 x3 x4 x5 x6 x7 x8 x9 x10 x11 x12)
noncomputable def spec_Open_s0_0 : Pack := ⟨[(1, .ptr [1000000, 0] 0 0 0), (3, .one ⟨.sc, .sc (.int .i64), .l []⟩), (4, .one ⟨.sc, .sc (.int .i64), .l []⟩)], [([1000000, 0], .box [⟨.sc, .sc (.int .i64), .l []⟩, ⟨.sc, .sc (.int .i64), .l []⟩, ⟨.sc, .sc (.int .i64), .l []⟩, ⟨.sn [], .sl [.sc (.int .i64), .sl [.sc (.int .i64), .sc (.str), .sc (.str)], .sc (.int .i64), .sl [.sc (.int .i64)]], .l []⟩, ⟨.sn [], .sl [.sc (.int .i64), .sc (.bool)], .l []⟩, ⟨.sc, .sc (.int .i64), .l []⟩, ⟨.sn [], .sl [.sc (.int .i64), .sl [.sc (.int .i64), .sc (.int .i64), .sl [.sc (.int .i64), .sc (.str), .sc (.str)]], .sc (.int .i64), .sl [.sc (.str), .sc (.str)], .sl [.sc (.int .i64), .sc (.int .i64), .sl [.sc (.int .i64), .sc (.str), .sc (.str)]]], .l []⟩, ⟨.sn [], .sl [.sc (.int .i64), .sc (.int .i64), .sc (.int .i64), .sl [.sc (.int .i64), .sc (.str), .sc (.str)], .sc (.bool)], .l []⟩, ⟨.sn [], .sl [.sc (.int .i64), .sc (.int .i64), .sc (.int .i64), .sl [.sc (.int .i64), .sc (.str), .sc (.str)], .sc (.bool)], .l []⟩, ⟨.sn [], .sl [.sc (.int .i64), .sl [.sc (.int .i64), .sc (.str), .sc (.str)]], .l []⟩])]⟩
noncomputable def spec_Open_e0_0 : Pack := ⟨[(1, .ptr [1000000, 0] 0 0 0), (3, .one ⟨.sc, .sc (.int .i64), .l []⟩)], [([1000000, 0], .box [⟨.sc, .sc (.int .i64), .l []⟩, ⟨.sc, .sc (.int .i64), .l []⟩, ⟨.sc, .sc (.int .i64), .l []⟩, ⟨.sn [], .sl [.sc (.int .i64), .sl [.sc (.int .i64), .sc (.str), .sc (.str)], .sc (.int .i64), .sl [.sc (.int .i64)]], .l []⟩, ⟨.sn [], .sl [.sc (.int .i64), .sc (.bool)], .l []⟩, ⟨.sc, .sc (.int .i64), .l []⟩, ⟨.sn [], .sl [.sc (.int .i64), .sl [.sc (.int .i64), .sc (.int .i64), .sl [.sc (.int .i64), .sc (.str), .sc (.str)]], .sc (.int .i64), .sl [.sc (.str), .sc (.str)], .sl [.sc (.int .i64), .sc (.int .i64), .sl [.sc (.int .i64), .sc (.str), .sc (.str)]]], .l []⟩, ⟨.sn [], .sl [.sc (.int .i64), .sc (.int .i64), .sc (.int .i64), .sl [.sc (.int .i64), .sc (.str), .sc (.str)], .sc (.bool)], .l []⟩, ⟨.sn [], .sl [.sc (.int .i64), .sc (.int .i64), .sc (.int .i64), .sl [.sc (.int .i64), .sc (.str), .sc (.str)], .sc (.bool)], .l []⟩, ⟨.sn [], .sl [.sc (.int .i64), .sl [.sc (.int .i64), .sc (.str), .sc (.str)]], .l []⟩])]⟩
noncomputable def spec_Open_L0_0w (m n : Nat) (vs : List T) (k : Ctl → Pack → An) : An := spec_Open_L0_0 m n (vs.headD dflt) (vs.tail.headD dflt) (vs.tail.tail.headD dflt) (vs.tail.tail.tail.headD dflt) (vs.tail.tail.tail.tail.headD dflt) (vs.tail.tail.tail.tail.tail.headD dflt) (vs.tail.tail.tail.tail.tail.tail.headD dflt) (vs.tail.tail.tail.tail.tail.tail.tail.headD dflt) (vs.tail.tail.tail.tail.tail.tail.tail.tail.headD dflt) (vs.tail.tail.tail.tail.tail.tail.tail.tail.tail.headD dflt) (vs.tail.tail.tail.tail.tail.tail.tail.tail.tail.tail.headD dflt) (vs.tail.tail.tail.tail.tail.tail.tail.tail.tail.tail.tail.headD dflt) (vs.tail.tail.tail.tail.tail.tail.tail.tail.tail.tail.tail.tail.headD dflt) (fun z0 z1 z2 z3 z4 z5 z6 z7 z8 z9 z10 z11 => k (.exit 0) (fPack spec_Open_e0_0 [z0, z1, z2, z3, z4, z5, z6, z7, z8, z9, z10, z11]))
noncomputable def spec_Open : Nat → T → T → T → T → T → T → T → T → T → T → (T → An) → An
  | 0, _, _, _, _, _, _, _, _, _, _, _ => .bad
  | m + 1, x0, x1, x2, x3, x4, x5, x6, x7, x8, x9, k0 =>
    spec_Open_L0_0 m m (T.i 0) (T.i 0) (T.i 0) x0 x1 x2 (T.l x3.rows) (T.l x4.rows) x5 (T.l x6.rows) (T.l x7.rows) (T.l x8.rows) (T.l x9.rows)
    (fun y0 y1 y2 y3 y4 y5 y6 y7 y8 y9 y10 y11 => spec_Open_L1_0 m m (T.i (y0.int.toNat : Int)) y1 (T.i 0) y2 y3 y4 y5 y6 y7 y8 y9 y10 y11
    (fun y12 => k0 y12))
noncomputable def spec_Open_a : List Arg := [.agg [.sc (.int .i64) (.l []), .sc (.int .i64) (.l []), .sc (.int .i64) (.l []), .fz [.sc (.int .i64), .sl [.sc (.int .i64), .sc (.str), .sc (.str)], .sc (.int .i64), .sl [.sc (.int .i64)]] [], .fz [.sc (.int .i64), .sc (.bool)] [], .sc (.int .i64) (.l []), .fz [.sc (.int .i64), .sl [.sc (.int .i64), .sc (.int .i64), .sl [.sc (.int .i64), .sc (.str), .sc (.str)]], .sc (.int .i64), .sl [.sc (.str), .sc (.str)], .sl [.sc (.int .i64), .sc (.int .i64), .sl [.sc (.int .i64), .sc (.str), .sc (.str)]]] [], .fz [.sc (.int .i64), .sc (.int .i64), .sc (.int .i64), .sl [.sc (.int .i64), .sc (.str), .sc (.str)], .sc (.bool)] [], .fz [.sc (.int .i64), .sc (.int .i64), .sc (.int .i64), .sl [.sc (.int .i64), .sc (.str), .sc (.str)], .sc (.bool)] [], .fz [.sc (.int .i64), .sl [.sc (.int .i64), .sc (.str), .sc (.str)]] []]]
noncomputable def spec_Open_w (m : Nat) (vs : List T) (k : Ret → An) : An := spec_Open m (vs.headD dflt) (vs.tail.headD dflt) (vs.tail.tail.headD dflt) (vs.tail.tail.tail.headD dflt) (vs.tail.tail.tail.tail.headD dflt) (vs.tail.tail.tail.tail.tail.headD dflt) (vs.tail.tail.tail.tail.tail.tail.headD dflt) (vs.tail.tail.tail.tail.tail.tail.tail.headD dflt) (vs.tail.tail.tail.tail.tail.tail.tail.tail.headD dflt) (vs.tail.tail.tail.tail.tail.tail.tail.tail.tail.headD dflt) (fun z0 => k ⟨[.one (.sc (.int .i64) z0)], [[none, none, none, none, none, none, none, none, none, none]]⟩)
theorem spec_Open_cf (m : Nat) : callK CX prims m = (callK CX prims m) := by
  rfl
noncomputable def spec_Open_c : Code := (Try.f11.body).getD .skip
noncomputable def spec_Open_fi : Fi := ⟨11, 1, 41, 4⟩
theorem spec_Open_lf (m : Nat) : ∀ n, (∀ vs k, loopK CX (callK CX prims m) spec_Open_fi spec_Open_c n [0, 1, 0, 1, 1] (fPack spec_Open_s0_0 vs) k = spec_Open_L0_0w m n vs k) ∧ (∀ vs k, loopK CX (callK CX prims m) spec_Open_fi spec_Open_c n [0, 1, 0, 1, 1, 1] (fPack spec_Open_s1_0 vs) k = spec_Open_L1_0w m n vs k) ∧ ((loopK CX (callK CX prims m) spec_Open_fi spec_Open_c n) = (patL [0, 1, 0, 1, 1] spec_Open_s0_0 (spec_Open_L0_0w m n) (patL [0, 1, 0, 1, 1, 1] spec_Open_s1_0 (spec_Open_L1_0w m n) (loopK CX (callK CX prims m) spec_Open_fi spec_Open_c n)))) := by
  intro n
  have hl : ∀ n, (∀ vs k, loopK CX (callK CX prims m) spec_Open_fi spec_Open_c n [0, 1, 0, 1, 1] (fPack spec_Open_s0_0 vs) k = spec_Open_L0_0w m n vs k) → (∀ vs k, loopK CX (callK CX prims m) spec_Open_fi spec_Open_c n [0, 1, 0, 1, 1, 1] (fPack spec_Open_s1_0 vs) k = spec_Open_L1_0w m n vs k) → ((loopK CX (callK CX prims m) spec_Open_fi spec_Open_c n) = (patL [0, 1, 0, 1, 1] spec_Open_s0_0 (spec_Open_L0_0w m n) (patL [0, 1, 0, 1, 1, 1] spec_Open_s1_0 (spec_Open_L1_0w m n) (loopK CX (callK CX prims m) spec_Open_fi spec_Open_c n)))) := by
    intro n h0 h1
    rw [← patL_eq h1, ← patL_eq h0]
  induction n with
  | zero => exact ⟨fun vs k => rfl, fun vs k => rfl, hl 0 (fun vs k => rfl) (fun vs k => rfl)⟩
  | succ n ihn =>
    have hn := ihn.2.2
    have h0 : ∀ vs k, loopK CX (callK CX prims m) spec_Open_fi spec_Open_c (n + 1) [0, 1, 0, 1, 1] (fPack spec_Open_s0_0 vs) k = spec_Open_L0_0w m (n + 1) vs k := fun vs k =>
      (stepL_congr (spec_Open_cf m) hn [0, 1, 0, 1, 1] _ _).trans (by kernel_rfl)
    have h1 : ∀ vs k, loopK CX (callK CX prims m) spec_Open_fi spec_Open_c (n + 1) [0, 1, 0, 1, 1, 1] (fPack spec_Open_s1_0 vs) k = spec_Open_L1_0w m (n + 1) vs k := fun vs k =>
      (stepL_congr (spec_Open_cf m) hn [0, 1, 0, 1, 1, 1] _ _).trans (by kernel_rfl)
    exact ⟨h0, h1, hl (n + 1) h0 h1⟩
theorem spec_Open_eq (m : Nat) : ∀ vs k, callK CX prims m 11 (fArgs spec_Open_a vs) k = spec_Open_w m vs k := by
  cases m with
  | zero => exact fun vs k => rfl
  | succ m => exact fun vs k => Eq.trans (b := bodyK CX (callK CX prims m) (loopK CX (callK CX prims m) spec_Open_fi spec_Open_c m) 11 Try.f11 spec_Open_c (fArgs spec_Open_a vs) k) (by kernel_rfl) ((bodyK_congr (spec_Open_cf m) ((spec_Open_lf m m).2.2) 11 Try.f11 spec_Open_c (fArgs spec_Open_a vs) k).trans (by kernel_rfl))

/-! (*loop.example/g00244/impl.World).holding -/
noncomputable def impl_World_holding_L0_0 (m : Nat) : Nat → T → T → T → T → (T → An) → An
  | 0, _, _, _, _, _ => .bad
  | n + 1, x0, x1, x2, x3, k0 =>
    cond (decide (x3.int < x2.int))
    (cond (decide (0 ≤ x3.int ∧ x3.int < (x1.rows.length : Int)))
    (impl_World_holding_L0_0 m n (T.i (IntKind.i64.wrap (x0.int + (((x1.rows.getD (Int.toNat x3.int) []).getD 4 dflt).rows.length : Int)))) x1 x2 (T.i (IntKind.i64.wrap (x3.int + 1))) k0)
    (.bad))
    (k0 x0)
noncomputable def impl_World_holding_s0_0 : Pack := ⟨[(3, .one ⟨.sc, .sc (.int .i64), .l []⟩), (9, .one ⟨.sn [], .sl [.sc (.int .i64), .sl [.sc (.int .i64), .sc (.int .i64), .sl [.sc (.int .i64), .sc (.str), .sc (.str)]], .sc (.int .i64), .sl [.sc (.str), .sc (.str)], .sl [.sc (.int .i64), .sc (.int .i64), .sl [.sc (.int .i64), .sc (.str), .sc (.str)]]], .l []⟩), (10, .one ⟨.sc, .sc (.int .i64), .l []⟩), (11, .one ⟨.sc, .sc (.int .i64), .l []⟩)], []⟩
noncomputable def impl_World_holding_e0_0 : Pack := ⟨[(3, .one ⟨.sc, .sc (.int .i64), .l []⟩)], []⟩
noncomputable def impl_World_holding_L0_0w (m n : Nat) (vs : List T) (k : Ctl → Pack → An) : An := impl_World_holding_L0_0 m n (vs.headD dflt) (vs.tail.headD dflt) (vs.tail.tail.headD dflt) (vs.tail.tail.tail.headD dflt) (fun z0 => k (.exit 0) (fPack impl_World_holding_e0_0 [z0]))
noncomputable def impl_World_holding : Nat → T → (T → An) → An
  | 0, _, _ => .bad
  | m + 1, x0, k0 =>
    impl_World_holding_L0_0 m m (T.i 0) (((row1 x0).drop 6).getD 0 dflt) (T.i ((((row1 x0).drop 6).getD 0 dflt).rows.length : Int)) (T.i 0)
    (fun y0 => k0 y0)
noncomputable def impl_World_holding_a : List Arg := [.rpt [.sc (.int .i64), .sc (.int .i64), .sc (.int .i64), .sl [.sc (.int .i64), .sl [.sc (.int .i64), .sc (.str), .sc (.str)], .sc (.int .i64), .sl [.sc (.int .i64)]], .sl [.sc (.int .i64), .sc (.bool)], .sc (.int .i64), .sl [.sc (.int .i64), .sl [.sc (.int .i64), .sc (.int .i64), .sl [.sc (.int .i64), .sc (.str), .sc (.str)]], .sc (.int .i64), .sl [.sc (.str), .sc (.str)], .sl [.sc (.int .i64), .sc (.int .i64), .sl [.sc (.int .i64), .sc (.str), .sc (.str)]]], .sl [.sc (.int .i64), .sc (.int .i64), .sc (.int .i64), .sl [.sc (.int .i64), .sc (.str), .sc (.str)], .sc (.bool)], .sl [.sc (.int .i64), .sc (.int .i64), .sc (.int .i64), .sl [.sc (.int .i64), .sc (.str), .sc (.str)], .sc (.bool)], .sl [.sc (.int .i64), .sl [.sc (.int .i64), .sc (.str), .sc (.str)]]] []]
noncomputable def impl_World_holding_w (m : Nat) (vs : List T) (k : Ret → An) : An := impl_World_holding m (vs.headD dflt) (fun z0 => k ⟨[.one (.sc (.int .i64) z0)], [[]]⟩)
theorem impl_World_holding_cf (m : Nat) : callK CX prims m = (callK CX prims m) := by
  rfl
noncomputable def impl_World_holding_c : Code := (Try.f51.body).getD .skip
noncomputable def impl_World_holding_fi : Fi := ⟨51, 1, 22, 4⟩
theorem impl_World_holding_lf (m : Nat) : ∀ n, (∀ vs k, loopK CX (callK CX prims m) impl_World_holding_fi impl_World_holding_c n [0, 1, 0, 1, 1] (fPack impl_World_holding_s0_0 vs) k = impl_World_holding_L0_0w m n vs k) ∧ ((loopK CX (callK CX prims m) impl_World_holding_fi impl_World_holding_c n) = (patL [0, 1, 0, 1, 1] impl_World_holding_s0_0 (impl_World_holding_L0_0w m n) (loopK CX (callK CX prims m) impl_World_holding_fi impl_World_holding_c n))) := by
  intro n
  have hl : ∀ n, (∀ vs k, loopK CX (callK CX prims m) impl_World_holding_fi impl_World_holding_c n [0, 1, 0, 1, 1] (fPack impl_World_holding_s0_0 vs) k = impl_World_holding_L0_0w m n vs k) → ((loopK CX (callK CX prims m) impl_World_holding_fi impl_World_holding_c n) = (patL [0, 1, 0, 1, 1] impl_World_holding_s0_0 (impl_World_holding_L0_0w m n) (loopK CX (callK CX prims m) impl_World_holding_fi impl_World_holding_c n))) := by
    intro n h0
    rw [← patL_eq h0]
  induction n with
  | zero => exact ⟨fun vs k => rfl, hl 0 (fun vs k => rfl)⟩
  | succ n ihn =>
    have hn := ihn.2
    have h0 : ∀ vs k, loopK CX (callK CX prims m) impl_World_holding_fi impl_World_holding_c (n + 1) [0, 1, 0, 1, 1] (fPack impl_World_holding_s0_0 vs) k = impl_World_holding_L0_0w m (n + 1) vs k := fun vs k =>
      (stepL_congr (impl_World_holding_cf m) hn [0, 1, 0, 1, 1] _ _).trans (by kernel_rfl)
    exact ⟨h0, hl (n + 1) h0⟩
theorem impl_World_holding_eq (m : Nat) : ∀ vs k, callK CX prims m 51 (fArgs impl_World_holding_a vs) k = impl_World_holding_w m vs k := by
  cases m with
  | zero => exact fun vs k => rfl
  | succ m => exact fun vs k => Eq.trans (b := bodyK CX (callK CX prims m) (loopK CX (callK CX prims m) impl_World_holding_fi impl_World_holding_c m) 51 Try.f51 impl_World_holding_c (fArgs impl_World_holding_a vs) k) (by kernel_rfl) ((bodyK_congr (impl_World_holding_cf m) ((impl_World_holding_lf m m).2) 51 Try.f51 impl_World_holding_c (fArgs impl_World_holding_a vs) k).trans (by kernel_rfl))

/-! (*loop.example/g00244/impl.World).asking -/
noncomputable def impl_World_asking_L0_0 (m : Nat) : Nat → T → T → T → T → (T → An) → An
  | 0, _, _, _, _, _ => .bad
  | n + 1, x0, x1, x2, x3, k0 =>
    cond (decide (x3.int < x2.int))
    (cond (decide (0 ≤ x3.int ∧ x3.int < (x1.rows.length : Int)))
    (cond (((x1.rows.getD (Int.toNat x3.int) []).getD 2 dflt).int == 1)
    (impl_World_asking_L0_0 m n (T.i (IntKind.i64.wrap (x0.int + 1))) x1 x2 (T.i (IntKind.i64.wrap (x3.int + 1))) k0)
    (impl_World_asking_L0_0 m n x0 x1 x2 (T.i (IntKind.i64.wrap (x3.int + 1))) k0))
    (.bad))
    (k0 x0)
noncomputable def impl_World_asking_s0_0 : Pack := ⟨[(3, .one ⟨.sc, .sc (.int .i64), .l []⟩), (10, .one ⟨.sn [], .sl [.sc (.int .i64), .sl [.sc (.int .i64), .sc (.str), .sc (.str)], .sc (.int .i64), .sl [.sc (.int .i64)]], .l []⟩), (11, .one ⟨.sc, .sc (.int .i64), .l []⟩), (12, .one ⟨.sc, .sc (.int .i64), .l []⟩)], []⟩
noncomputable def impl_World_asking_e0_0 : Pack := ⟨[(3, .one ⟨.sc, .sc (.int .i64), .l []⟩)], []⟩
noncomputable def impl_World_asking_L0_0w (m n : Nat) (vs : List T) (k : Ctl → Pack → An) : An := impl_World_asking_L0_0 m n (vs.headD dflt) (vs.tail.headD dflt) (vs.tail.tail.headD dflt) (vs.tail.tail.tail.headD dflt) (fun z0 => k (.exit 0) (fPack impl_World_asking_e0_0 [z0]))
noncomputable def impl_World_asking : Nat → T → (T → An) → An
  | 0, _, _ => .bad
  | m + 1, x0, k0 =>
    impl_World_asking_L0_0 m m (T.i 0) (((row1 x0).drop 3).getD 0 dflt) (T.i ((((row1 x0).drop 3).getD 0 dflt).rows.length : Int)) (T.i 0)
    (fun y0 => k0 y0)
noncomputable def impl_World_asking_a : List Arg := [.rpt [.sc (.int .i64), .sc (.int .i64), .sc (.int .i64), .sl [.sc (.int .i64), .sl [.sc (.int .i64), .sc (.str), .sc (.str)], .sc (.int .i64), .sl [.sc (.int .i64)]], .sl [.sc (.int .i64), .sc (.bool)], .sc (.int .i64), .sl [.sc (.int .i64), .sl [.sc (.int .i64), .sc (.int .i64), .sl [.sc (.int .i64), .sc (.str), .sc (.str)]], .sc (.int .i64), .sl [.sc (.str), .sc (.str)], .sl [.sc (.int .i64), .sc (.int .i64), .sl [.sc (.int .i64), .sc (.str), .sc (.str)]]], .sl [.sc (.int .i64), .sc (.int .i64), .sc (.int .i64), .sl [.sc (.int .i64), .sc (.str), .sc (.str)], .sc (.bool)], .sl [.sc (.int .i64), .sc (.int .i64), .sc (.int .i64), .sl [.sc (.int .i64), .sc (.str), .sc (.str)], .sc (.bool)], .sl [.sc (.int .i64), .sl [.sc (.int .i64), .sc (.str), .sc (.str)]]] []]
noncomputable def impl_World_asking_w (m : Nat) (vs : List T) (k : Ret → An) : An := impl_World_asking m (vs.headD dflt) (fun z0 => k ⟨[.one (.sc (.int .i64) z0)], [[]]⟩)
theorem impl_World_asking_cf (m : Nat) : callK CX prims m = (callK CX prims m) := by
  rfl
noncomputable def impl_World_asking_c : Code := (Try.f52.body).getD .skip
noncomputable def impl_World_asking_fi : Fi := ⟨52, 1, 23, 4⟩
theorem impl_World_asking_lf (m : Nat) : ∀ n, (∀ vs k, loopK CX (callK CX prims m) impl_World_asking_fi impl_World_asking_c n [0, 1, 0, 1, 1] (fPack impl_World_asking_s0_0 vs) k = impl_World_asking_L0_0w m n vs k) ∧ ((loopK CX (callK CX prims m) impl_World_asking_fi impl_World_asking_c n) = (patL [0, 1, 0, 1, 1] impl_World_asking_s0_0 (impl_World_asking_L0_0w m n) (loopK CX (callK CX prims m) impl_World_asking_fi impl_World_asking_c n))) := by
  intro n
  have hl : ∀ n, (∀ vs k, loopK CX (callK CX prims m) impl_World_asking_fi impl_World_asking_c n [0, 1, 0, 1, 1] (fPack impl_World_asking_s0_0 vs) k = impl_World_asking_L0_0w m n vs k) → ((loopK CX (callK CX prims m) impl_World_asking_fi impl_World_asking_c n) = (patL [0, 1, 0, 1, 1] impl_World_asking_s0_0 (impl_World_asking_L0_0w m n) (loopK CX (callK CX prims m) impl_World_asking_fi impl_World_asking_c n))) := by
    intro n h0
    rw [← patL_eq h0]
  induction n with
  | zero => exact ⟨fun vs k => rfl, hl 0 (fun vs k => rfl)⟩
  | succ n ihn =>
    have hn := ihn.2
    have h0 : ∀ vs k, loopK CX (callK CX prims m) impl_World_asking_fi impl_World_asking_c (n + 1) [0, 1, 0, 1, 1] (fPack impl_World_asking_s0_0 vs) k = impl_World_asking_L0_0w m (n + 1) vs k := fun vs k =>
      (stepL_congr (impl_World_asking_cf m) hn [0, 1, 0, 1, 1] _ _).trans (by kernel_rfl)
    exact ⟨h0, hl (n + 1) h0⟩
theorem impl_World_asking_eq (m : Nat) : ∀ vs k, callK CX prims m 52 (fArgs impl_World_asking_a vs) k = impl_World_asking_w m vs k := by
  cases m with
  | zero => exact fun vs k => rfl
  | succ m => exact fun vs k => Eq.trans (b := bodyK CX (callK CX prims m) (loopK CX (callK CX prims m) impl_World_asking_fi impl_World_asking_c m) 52 Try.f52 impl_World_asking_c (fArgs impl_World_asking_a vs) k) (by kernel_rfl) ((bodyK_congr (impl_World_asking_cf m) ((impl_World_asking_lf m m).2) 52 Try.f52 impl_World_asking_c (fArgs impl_World_asking_a vs) k).trans (by kernel_rfl))

/-! loop.example/g00244/impl.Open -/
noncomputable def impl_Open : Nat → T → T → T → T → T → T → T → T → T → T → (T → An) → An
  | 0, _, _, _, _, _, _, _, _, _, _, _ => .bad
  | m + 1, x0, x1, x2, x3, x4, x5, x6, x7, x8, x9, k0 =>
    impl_World_holding m (T.l [[x0, x1, x2, (T.l x3.rows), (T.l x4.rows), x5, (T.l x6.rows), (T.l x7.rows), (T.l x8.rows), (T.l x9.rows)]])
    (fun y0 => impl_World_asking m (T.l [[x0, x1, x2, (T.l x3.rows), (T.l x4.rows), x5, (T.l x6.rows), (T.l x7.rows), (T.l x8.rows), (T.l x9.rows)]])
    (fun y1 => k0 (T.i (IntKind.i64.wrap (y0.int + y1.int)))))
noncomputable def impl_Open_a : List Arg := [.agg [.sc (.int .i64) (.l []), .sc (.int .i64) (.l []), .sc (.int .i64) (.l []), .fz [.sc (.int .i64), .sl [.sc (.int .i64), .sc (.str), .sc (.str)], .sc (.int .i64), .sl [.sc (.int .i64)]] [], .fz [.sc (.int .i64), .sc (.bool)] [], .sc (.int .i64) (.l []), .fz [.sc (.int .i64), .sl [.sc (.int .i64), .sc (.int .i64), .sl [.sc (.int .i64), .sc (.str), .sc (.str)]], .sc (.int .i64), .sl [.sc (.str), .sc (.str)], .sl [.sc (.int .i64), .sc (.int .i64), .sl [.sc (.int .i64), .sc (.str), .sc (.str)]]] [], .fz [.sc (.int .i64), .sc (.int .i64), .sc (.int .i64), .sl [.sc (.int .i64), .sc (.str), .sc (.str)], .sc (.bool)] [], .fz [.sc (.int .i64), .sc (.int .i64), .sc (.int .i64), .sl [.sc (.int .i64), .sc (.str), .sc (.str)], .sc (.bool)] [], .fz [.sc (.int .i64), .sl [.sc (.int .i64), .sc (.str), .sc (.str)]] []]]
noncomputable def impl_Open_w (m : Nat) (vs : List T) (k : Ret → An) : An := impl_Open m (vs.headD dflt) (vs.tail.headD dflt) (vs.tail.tail.headD dflt) (vs.tail.tail.tail.headD dflt) (vs.tail.tail.tail.tail.headD dflt) (vs.tail.tail.tail.tail.tail.headD dflt) (vs.tail.tail.tail.tail.tail.tail.headD dflt) (vs.tail.tail.tail.tail.tail.tail.tail.headD dflt) (vs.tail.tail.tail.tail.tail.tail.tail.tail.headD dflt) (vs.tail.tail.tail.tail.tail.tail.tail.tail.tail.headD dflt) (fun z0 => k ⟨[.one (.sc (.int .i64) z0)], [[none, none, none, none, none, none, none, none, none, none]]⟩)
theorem impl_Open_cf (m : Nat) : callK CX prims m = (patC 51 impl_World_holding_a (impl_World_holding_w m) (patC 52 impl_World_asking_a (impl_World_asking_w m) (callK CX prims m))) := by
  rw [← patC_eq (fun vs k => impl_World_asking_eq m vs k), ← patC_eq (fun vs k => impl_World_holding_eq m vs k)]
noncomputable def impl_Open_c : Code := (Try.f13.body).getD .skip
noncomputable def impl_Open_fi : Fi := ⟨13, 1, 6, 4⟩
theorem impl_Open_eq (m : Nat) : ∀ vs k, callK CX prims m 13 (fArgs impl_Open_a vs) k = impl_Open_w m vs k := by
  cases m with
  | zero => exact fun vs k => rfl
  | succ m => exact fun vs k => Eq.trans (b := bodyK CX (callK CX prims m) (loopK CX (callK CX prims m) impl_Open_fi impl_Open_c m) 13 Try.f13 impl_Open_c (fArgs impl_Open_a vs) k) (by kernel_rfl) ((bodyK_congr (impl_Open_cf m) rfl 13 Try.f13 impl_Open_c (fArgs impl_Open_a vs) k).trans (by kernel_rfl))

/-! loop.example/g00244/laws.eqOp -/
noncomputable def laws_eqOp : Nat → T → T → T → T → T → T → (T → An) → An
  | 0, _, _, _, _, _, _, _ => .bad
  | m + 1, x0, x1, x2, x3, x4, x5, k0 =>
    cond (x0.int != x3.int)
    (k0 (T.b false))
    (cond (!(x1.str.toList == x4.str.toList))
    (k0 (T.b false))
    (cond (!(x2.str.toList == x5.str.toList))
    (k0 (T.b false))
    (k0 (T.b true))))
noncomputable def laws_eqOp_a : List Arg := [.agg [.sc (.int .i64) (.l []), .sc (.str) (.l []), .sc (.str) (.l [])], .agg [.sc (.int .i64) (.l []), .sc (.str) (.l []), .sc (.str) (.l [])]]
noncomputable def laws_eqOp_w (m : Nat) (vs : List T) (k : Ret → An) : An := laws_eqOp m (vs.headD dflt) (vs.tail.headD dflt) (vs.tail.tail.headD dflt) (vs.tail.tail.tail.headD dflt) (vs.tail.tail.tail.tail.headD dflt) (vs.tail.tail.tail.tail.tail.headD dflt) (fun z0 => k ⟨[.one (.sc (.bool) z0)], [[none, none, none], [none, none, none]]⟩)
theorem laws_eqOp_cf (m : Nat) : callK CX prims m = (callK CX prims m) := by
  rfl
noncomputable def laws_eqOp_c : Code := (Try.f166.body).getD .skip
noncomputable def laws_eqOp_fi : Fi := ⟨166, 2, 20, 16⟩
theorem laws_eqOp_eq (m : Nat) : ∀ vs k, callK CX prims m 166 (fArgs laws_eqOp_a vs) k = laws_eqOp_w m vs k := by
  cases m with
  | zero => exact fun vs k => rfl
  | succ m => exact fun vs k => Eq.trans (b := bodyK CX (callK CX prims m) (loopK CX (callK CX prims m) laws_eqOp_fi laws_eqOp_c m) 166 Try.f166 laws_eqOp_c (fArgs laws_eqOp_a vs) k) (by kernel_rfl) ((bodyK_congr (laws_eqOp_cf m) rfl 166 Try.f166 laws_eqOp_c (fArgs laws_eqOp_a vs) k).trans (by kernel_rfl))

/-! loop.example/g00244/laws.eqOpS -/
noncomputable def laws_eqOpS_L0_0 (m : Nat) : Nat → T → T → T → (T → An) → An → An
  | 0, _, _, _, _, _ => .bad
  | n + 1, x0, x1, x2, k0, k1 =>
    cond (decide (x2.int < (x0.rows.length : Int)))
    (cond (decide (0 ≤ x2.int ∧ x2.int < (x0.rows.length : Int)))
    (cond (decide (0 ≤ x2.int ∧ x2.int < (x1.rows.length : Int)))
    (laws_eqOp m ((x0.rows.getD (Int.toNat x2.int) []).getD 0 dflt) ((x0.rows.getD (Int.toNat x2.int) []).getD 1 dflt) ((x0.rows.getD (Int.toNat x2.int) []).getD 2 dflt) ((x1.rows.getD (Int.toNat x2.int) []).getD 0 dflt) ((x1.rows.getD (Int.toNat x2.int) []).getD 1 dflt) ((x1.rows.getD (Int.toNat x2.int) []).getD 2 dflt)
    (fun y0 => cond (!y0.bool)
    (k0 (T.b false))
    (laws_eqOpS_L0_0 m n x0 x1 (T.i (IntKind.i64.wrap (x2.int + 1))) k0 k1)))
    (.bad))
    (.bad))
    (k1 )
noncomputable def laws_eqOpS_s0_0 : Pack := ⟨[(0, .one ⟨.sn [], .sl [.sc (.int .i64), .sc (.str), .sc (.str)], .l []⟩), (1, .one ⟨.sn [], .sl [.sc (.int .i64), .sc (.str), .sc (.str)], .l []⟩), (5, .one ⟨.sc, .sc (.int .i64), .l []⟩)], []⟩
noncomputable def laws_eqOpS_e0_0 : Pack := ⟨[(4, .one ⟨.sc, .sc (.bool), .l []⟩)], []⟩
noncomputable def laws_eqOpS_e0_1 : Pack := ⟨[], []⟩
noncomputable def laws_eqOpS_L0_0w (m n : Nat) (vs : List T) (k : Ctl → Pack → An) : An := laws_eqOpS_L0_0 m n (vs.headD dflt) (vs.tail.headD dflt) (vs.tail.tail.headD dflt) (fun z0 => k .ret (fPack laws_eqOpS_e0_0 [z0])) (k (.exit 0) (fPack laws_eqOpS_e0_1 []))
noncomputable def laws_eqOpS : Nat → T → T → (T → An) → An
  | 0, _, _, _ => .bad
  | m + 1, x0, x1, k0 =>
    cond ((x0.rows.length : Int) != (x1.rows.length : Int))
    (k0 (T.b false))
    (laws_eqOpS_L0_0 m m (T.l x0.rows) (T.l x1.rows) (T.i 0)
    (fun y1 => k0 y1)
    (k0 (T.b true)))
noncomputable def laws_eqOpS_a : List Arg := [.one (.fz [.sc (.int .i64), .sc (.str), .sc (.str)] []), .one (.fz [.sc (.int .i64), .sc (.str), .sc (.str)] [])]
noncomputable def laws_eqOpS_w (m : Nat) (vs : List T) (k : Ret → An) : An := laws_eqOpS m (vs.headD dflt) (vs.tail.headD dflt) (fun z0 => k ⟨[.one (.sc (.bool) z0)], [[none], [none]]⟩)
theorem laws_eqOpS_cf (m : Nat) : callK CX prims m = (patC 166 laws_eqOp_a (laws_eqOp_w m) (callK CX prims m)) := by
  rw [← patC_eq (fun vs k => laws_eqOp_eq m vs k)]
noncomputable def laws_eqOpS_c : Code := (Try.f141.body).getD .skip
noncomputable def laws_eqOpS_fi : Fi := ⟨141, 2, 27, 16⟩
theorem laws_eqOpS_lf (m : Nat) : ∀ n, (∀ vs k, loopK CX (callK CX prims m) laws_eqOpS_fi laws_eqOpS_c n [0, 1, 0, 1, 1] (fPack laws_eqOpS_s0_0 vs) k = laws_eqOpS_L0_0w m n vs k) ∧ ((loopK CX (callK CX prims m) laws_eqOpS_fi laws_eqOpS_c n) = (patL [0, 1, 0, 1, 1] laws_eqOpS_s0_0 (laws_eqOpS_L0_0w m n) (loopK CX (callK CX prims m) laws_eqOpS_fi laws_eqOpS_c n))) := by
  intro n
  have hl : ∀ n, (∀ vs k, loopK CX (callK CX prims m) laws_eqOpS_fi laws_eqOpS_c n [0, 1, 0, 1, 1] (fPack laws_eqOpS_s0_0 vs) k = laws_eqOpS_L0_0w m n vs k) → ((loopK CX (callK CX prims m) laws_eqOpS_fi laws_eqOpS_c n) = (patL [0, 1, 0, 1, 1] laws_eqOpS_s0_0 (laws_eqOpS_L0_0w m n) (loopK CX (callK CX prims m) laws_eqOpS_fi laws_eqOpS_c n))) := by
    intro n h0
    rw [← patL_eq h0]
  induction n with
  | zero => exact ⟨fun vs k => rfl, hl 0 (fun vs k => rfl)⟩
  | succ n ihn =>
    have hn := ihn.2
    have h0 : ∀ vs k, loopK CX (callK CX prims m) laws_eqOpS_fi laws_eqOpS_c (n + 1) [0, 1, 0, 1, 1] (fPack laws_eqOpS_s0_0 vs) k = laws_eqOpS_L0_0w m (n + 1) vs k := fun vs k =>
      (stepL_congr (laws_eqOpS_cf m) hn [0, 1, 0, 1, 1] _ _).trans (by kernel_rfl)
    exact ⟨h0, hl (n + 1) h0⟩
theorem laws_eqOpS_eq (m : Nat) : ∀ vs k, callK CX prims m 141 (fArgs laws_eqOpS_a vs) k = laws_eqOpS_w m vs k := by
  cases m with
  | zero => exact fun vs k => rfl
  | succ m => exact fun vs k => Eq.trans (b := bodyK CX (callK CX prims m) (loopK CX (callK CX prims m) laws_eqOpS_fi laws_eqOpS_c m) 141 Try.f141 laws_eqOpS_c (fArgs laws_eqOpS_a vs) k) (by kernel_rfl) ((bodyK_congr (laws_eqOpS_cf m) ((laws_eqOpS_lf m m).2) 141 Try.f141 laws_eqOpS_c (fArgs laws_eqOpS_a vs) k).trans (by kernel_rfl))

/-! loop.example/g00244/laws.eqIntS -/
noncomputable def laws_eqIntS_L0_0 (m : Nat) : Nat → T → T → T → (T → An) → An → An
  | 0, _, _, _, _, _ => .bad
  | n + 1, x0, x1, x2, k0, k1 =>
    cond (decide (x2.int < (x0.rows.length : Int)))
    (cond (decide (0 ≤ x2.int ∧ x2.int < (x0.rows.length : Int)))
    (cond (decide (0 ≤ x2.int ∧ x2.int < (x1.rows.length : Int)))
    (cond (((x0.rows.getD (Int.toNat x2.int) []).getD 0 dflt).int != ((x1.rows.getD (Int.toNat x2.int) []).getD 0 dflt).int)
    (k0 (T.b false))
    (laws_eqIntS_L0_0 m n x0 x1 (T.i (IntKind.i64.wrap (x2.int + 1))) k0 k1))
    (.bad))
    (.bad))
    (k1 )
noncomputable def laws_eqIntS_s0_0 : Pack := ⟨[(0, .one ⟨.sn [], .sl [.sc (.int .i64)], .l []⟩), (1, .one ⟨.sn [], .sl [.sc (.int .i64)], .l []⟩), (5, .one ⟨.sc, .sc (.int .i64), .l []⟩)], []⟩
noncomputable def laws_eqIntS_e0_0 : Pack := ⟨[(4, .one ⟨.sc, .sc (.bool), .l []⟩)], []⟩
noncomputable def laws_eqIntS_e0_1 : Pack := ⟨[], []⟩
noncomputable def laws_eqIntS_L0_0w (m n : Nat) (vs : List T) (k : Ctl → Pack → An) : An := laws_eqIntS_L0_0 m n (vs.headD dflt) (vs.tail.headD dflt) (vs.tail.tail.headD dflt) (fun z0 => k .ret (fPack laws_eqIntS_e0_0 [z0])) (k (.exit 0) (fPack laws_eqIntS_e0_1 []))
noncomputable def laws_eqIntS : Nat → T → T → (T → An) → An
  | 0, _, _, _ => .bad
  | m + 1, x0, x1, k0 =>
    cond ((x0.rows.length : Int) != (x1.rows.length : Int))
    (k0 (T.b false))
    (laws_eqIntS_L0_0 m m (T.l x0.rows) (T.l x1.rows) (T.i 0)
    (fun y0 => k0 y0)
    (k0 (T.b true)))
noncomputable def laws_eqIntS_a : List Arg := [.one (.fz [.sc (.int .i64)] []), .one (.fz [.sc (.int .i64)] [])]
noncomputable def laws_eqIntS_w (m : Nat) (vs : List T) (k : Ret → An) : An := laws_eqIntS m (vs.headD dflt) (vs.tail.headD dflt) (fun z0 => k ⟨[.one (.sc (.bool) z0)], [[none], [none]]⟩)
theorem laws_eqIntS_cf (m : Nat) : callK CX prims m = (callK CX prims m) := by
  rfl
noncomputable def laws_eqIntS_c : Code := (Try.f164.body).getD .skip
noncomputable def laws_eqIntS_fi : Fi := ⟨164, 2, 26, 16⟩
theorem laws_eqIntS_lf (m : Nat) : ∀ n, (∀ vs k, loopK CX (callK CX prims m) laws_eqIntS_fi laws_eqIntS_c n [0, 1, 0, 1, 1] (fPack laws_eqIntS_s0_0 vs) k = laws_eqIntS_L0_0w m n vs k) ∧ ((loopK CX (callK CX prims m) laws_eqIntS_fi laws_eqIntS_c n) = (patL [0, 1, 0, 1, 1] laws_eqIntS_s0_0 (laws_eqIntS_L0_0w m n) (loopK CX (callK CX prims m) laws_eqIntS_fi laws_eqIntS_c n))) := by
  intro n
  have hl : ∀ n, (∀ vs k, loopK CX (callK CX prims m) laws_eqIntS_fi laws_eqIntS_c n [0, 1, 0, 1, 1] (fPack laws_eqIntS_s0_0 vs) k = laws_eqIntS_L0_0w m n vs k) → ((loopK CX (callK CX prims m) laws_eqIntS_fi laws_eqIntS_c n) = (patL [0, 1, 0, 1, 1] laws_eqIntS_s0_0 (laws_eqIntS_L0_0w m n) (loopK CX (callK CX prims m) laws_eqIntS_fi laws_eqIntS_c n))) := by
    intro n h0
    rw [← patL_eq h0]
  induction n with
  | zero => exact ⟨fun vs k => rfl, hl 0 (fun vs k => rfl)⟩
  | succ n ihn =>
    have hn := ihn.2
    have h0 : ∀ vs k, loopK CX (callK CX prims m) laws_eqIntS_fi laws_eqIntS_c (n + 1) [0, 1, 0, 1, 1] (fPack laws_eqIntS_s0_0 vs) k = laws_eqIntS_L0_0w m (n + 1) vs k := fun vs k =>
      (stepL_congr (laws_eqIntS_cf m) hn [0, 1, 0, 1, 1] _ _).trans (by kernel_rfl)
    exact ⟨h0, hl (n + 1) h0⟩
theorem laws_eqIntS_eq (m : Nat) : ∀ vs k, callK CX prims m 164 (fArgs laws_eqIntS_a vs) k = laws_eqIntS_w m vs k := by
  cases m with
  | zero => exact fun vs k => rfl
  | succ m => exact fun vs k => Eq.trans (b := bodyK CX (callK CX prims m) (loopK CX (callK CX prims m) laws_eqIntS_fi laws_eqIntS_c m) 164 Try.f164 laws_eqIntS_c (fArgs laws_eqIntS_a vs) k) (by kernel_rfl) ((bodyK_congr (laws_eqIntS_cf m) ((laws_eqIntS_lf m m).2) 164 Try.f164 laws_eqIntS_c (fArgs laws_eqIntS_a vs) k).trans (by kernel_rfl))

/-! loop.example/g00244/laws.eqJob -/
noncomputable def laws_eqJob : Nat → T → T → T → T → T → T → T → T → (T → An) → An
  | 0, _, _, _, _, _, _, _, _, _ => .bad
  | m + 1, x0, x1, x2, x3, x4, x5, x6, x7, k0 =>
    cond (x0.int != x4.int)
    (k0 (T.b false))
    (laws_eqOpS m (T.l x1.rows) (T.l x5.rows)
    (fun y0 => cond (!y0.bool)
    (k0 (T.b false))
    (cond (x2.int != x6.int)
    (k0 (T.b false))
    (laws_eqIntS m (T.l x3.rows) (T.l x7.rows)
    (fun y1 => cond (!y1.bool)
    (k0 (T.b false))
    (k0 (T.b true)))))))
noncomputable def laws_eqJob_a : List Arg := [.agg [.sc (.int .i64) (.l []), .fz [.sc (.int .i64), .sc (.str), .sc (.str)] [], .sc (.int .i64) (.l []), .fz [.sc (.int .i64)] []], .agg [.sc (.int .i64) (.l []), .fz [.sc (.int .i64), .sc (.str), .sc (.str)] [], .sc (.int .i64) (.l []), .fz [.sc (.int .i64)] []]]
noncomputable def laws_eqJob_w (m : Nat) (vs : List T) (k : Ret → An) : An := laws_eqJob m (vs.headD dflt) (vs.tail.headD dflt) (vs.tail.tail.headD dflt) (vs.tail.tail.tail.headD dflt) (vs.tail.tail.tail.tail.headD dflt) (vs.tail.tail.tail.tail.tail.headD dflt) (vs.tail.tail.tail.tail.tail.tail.headD dflt) (vs.tail.tail.tail.tail.tail.tail.tail.headD dflt) (fun z0 => k ⟨[.one (.sc (.bool) z0)], [[none, none, none, none], [none, none, none, none]]⟩)
theorem laws_eqJob_cf (m : Nat) : callK CX prims m = (patC 141 laws_eqOpS_a (laws_eqOpS_w m) (patC 164 laws_eqIntS_a (laws_eqIntS_w m) (callK CX prims m))) := by
  rw [← patC_eq (fun vs k => laws_eqIntS_eq m vs k), ← patC_eq (fun vs k => laws_eqOpS_eq m vs k)]
noncomputable def laws_eqJob_c : Code := (Try.f138.body).getD .skip
noncomputable def laws_eqJob_fi : Fi := ⟨138, 2, 27, 16⟩
theorem laws_eqJob_eq (m : Nat) : ∀ vs k, callK CX prims m 138 (fArgs laws_eqJob_a vs) k = laws_eqJob_w m vs k := by
  cases m with
  | zero => exact fun vs k => rfl
  | succ m => exact fun vs k => Eq.trans (b := bodyK CX (callK CX prims m) (loopK CX (callK CX prims m) laws_eqJob_fi laws_eqJob_c m) 138 Try.f138 laws_eqJob_c (fArgs laws_eqJob_a vs) k) (by kernel_rfl) ((bodyK_congr (laws_eqJob_cf m) rfl 138 Try.f138 laws_eqJob_c (fArgs laws_eqJob_a vs) k).trans (by kernel_rfl))

/-! loop.example/g00244/laws.eqJobS -/
noncomputable def laws_eqJobS_L0_0 (m : Nat) : Nat → T → T → T → (T → An) → An → An
  | 0, _, _, _, _, _ => .bad
  | n + 1, x0, x1, x2, k0, k1 =>
    cond (decide (x2.int < (x0.rows.length : Int)))
    (cond (decide (0 ≤ x2.int ∧ x2.int < (x0.rows.length : Int)))
    (cond (decide (0 ≤ x2.int ∧ x2.int < (x1.rows.length : Int)))
    (laws_eqJob m ((x0.rows.getD (Int.toNat x2.int) []).getD 0 dflt) (T.l ((x0.rows.getD (Int.toNat x2.int) []).getD 1 dflt).rows) ((x0.rows.getD (Int.toNat x2.int) []).getD 2 dflt) (T.l ((x0.rows.getD (Int.toNat x2.int) []).getD 3 dflt).rows) ((x1.rows.getD (Int.toNat x2.int) []).getD 0 dflt) (T.l ((x1.rows.getD (Int.toNat x2.int) []).getD 1 dflt).rows) ((x1.rows.getD (Int.toNat x2.int) []).getD 2 dflt) (T.l ((x1.rows.getD (Int.toNat x2.int) []).getD 3 dflt).rows)
    (fun y0 => cond (!y0.bool)
    (k0 (T.b false))
    (laws_eqJobS_L0_0 m n x0 x1 (T.i (IntKind.i64.wrap (x2.int + 1))) k0 k1)))
    (.bad))
    (.bad))
    (k1 )
noncomputable def laws_eqJobS_s0_0 : Pack := ⟨[(0, .one ⟨.sn [], .sl [.sc (.int .i64), .sl [.sc (.int .i64), .sc (.str), .sc (.str)], .sc (.int .i64), .sl [.sc (.int .i64)]], .l []⟩), (1, .one ⟨.sn [], .sl [.sc (.int .i64), .sl [.sc (.int .i64), .sc (.str), .sc (.str)], .sc (.int .i64), .sl [.sc (.int .i64)]], .l []⟩), (5, .one ⟨.sc, .sc (.int .i64), .l []⟩)], []⟩
noncomputable def laws_eqJobS_e0_0 : Pack := ⟨[(4, .one ⟨.sc, .sc (.bool), .l []⟩)], []⟩
noncomputable def laws_eqJobS_e0_1 : Pack := ⟨[], []⟩
noncomputable def laws_eqJobS_L0_0w (m n : Nat) (vs : List T) (k : Ctl → Pack → An) : An := laws_eqJobS_L0_0 m n (vs.headD dflt) (vs.tail.headD dflt) (vs.tail.tail.headD dflt) (fun z0 => k .ret (fPack laws_eqJobS_e0_0 [z0])) (k (.exit 0) (fPack laws_eqJobS_e0_1 []))
noncomputable def laws_eqJobS : Nat → T → T → (T → An) → An
  | 0, _, _, _ => .bad
  | m + 1, x0, x1, k0 =>
    cond ((x0.rows.length : Int) != (x1.rows.length : Int))
    (k0 (T.b false))
    (laws_eqJobS_L0_0 m m (T.l x0.rows) (T.l x1.rows) (T.i 0)
    (fun y1 => k0 y1)
    (k0 (T.b true)))
noncomputable def laws_eqJobS_a : List Arg := [.one (.fz [.sc (.int .i64), .sl [.sc (.int .i64), .sc (.str), .sc (.str)], .sc (.int .i64), .sl [.sc (.int .i64)]] []), .one (.fz [.sc (.int .i64), .sl [.sc (.int .i64), .sc (.str), .sc (.str)], .sc (.int .i64), .sl [.sc (.int .i64)]] [])]
noncomputable def laws_eqJobS_w (m : Nat) (vs : List T) (k : Ret → An) : An := laws_eqJobS m (vs.headD dflt) (vs.tail.headD dflt) (fun z0 => k ⟨[.one (.sc (.bool) z0)], [[none], [none]]⟩)
theorem laws_eqJobS_cf (m : Nat) : callK CX prims m = (patC 138 laws_eqJob_a (laws_eqJob_w m) (callK CX prims m)) := by
  rw [← patC_eq (fun vs k => laws_eqJob_eq m vs k)]
noncomputable def laws_eqJobS_c : Code := (Try.f99.body).getD .skip
noncomputable def laws_eqJobS_fi : Fi := ⟨99, 2, 27, 16⟩
theorem laws_eqJobS_lf (m : Nat) : ∀ n, (∀ vs k, loopK CX (callK CX prims m) laws_eqJobS_fi laws_eqJobS_c n [0, 1, 0, 1, 1] (fPack laws_eqJobS_s0_0 vs) k = laws_eqJobS_L0_0w m n vs k) ∧ ((loopK CX (callK CX prims m) laws_eqJobS_fi laws_eqJobS_c n) = (patL [0, 1, 0, 1, 1] laws_eqJobS_s0_0 (laws_eqJobS_L0_0w m n) (loopK CX (callK CX prims m) laws_eqJobS_fi laws_eqJobS_c n))) := by
  intro n
  have hl : ∀ n, (∀ vs k, loopK CX (callK CX prims m) laws_eqJobS_fi laws_eqJobS_c n [0, 1, 0, 1, 1] (fPack laws_eqJobS_s0_0 vs) k = laws_eqJobS_L0_0w m n vs k) → ((loopK CX (callK CX prims m) laws_eqJobS_fi laws_eqJobS_c n) = (patL [0, 1, 0, 1, 1] laws_eqJobS_s0_0 (laws_eqJobS_L0_0w m n) (loopK CX (callK CX prims m) laws_eqJobS_fi laws_eqJobS_c n))) := by
    intro n h0
    rw [← patL_eq h0]
  induction n with
  | zero => exact ⟨fun vs k => rfl, hl 0 (fun vs k => rfl)⟩
  | succ n ihn =>
    have hn := ihn.2
    have h0 : ∀ vs k, loopK CX (callK CX prims m) laws_eqJobS_fi laws_eqJobS_c (n + 1) [0, 1, 0, 1, 1] (fPack laws_eqJobS_s0_0 vs) k = laws_eqJobS_L0_0w m (n + 1) vs k := fun vs k =>
      (stepL_congr (laws_eqJobS_cf m) hn [0, 1, 0, 1, 1] _ _).trans (by kernel_rfl)
    exact ⟨h0, hl (n + 1) h0⟩
theorem laws_eqJobS_eq (m : Nat) : ∀ vs k, callK CX prims m 99 (fArgs laws_eqJobS_a vs) k = laws_eqJobS_w m vs k := by
  cases m with
  | zero => exact fun vs k => rfl
  | succ m => exact fun vs k => Eq.trans (b := bodyK CX (callK CX prims m) (loopK CX (callK CX prims m) laws_eqJobS_fi laws_eqJobS_c m) 99 Try.f99 laws_eqJobS_c (fArgs laws_eqJobS_a vs) k) (by kernel_rfl) ((bodyK_congr (laws_eqJobS_cf m) ((laws_eqJobS_lf m m).2) 99 Try.f99 laws_eqJobS_c (fArgs laws_eqJobS_a vs) k).trans (by kernel_rfl))

/-! loop.example/g00244/laws.eqChoice -/
noncomputable def laws_eqChoice : Nat → T → T → T → T → (T → An) → An
  | 0, _, _, _, _, _ => .bad
  | m + 1, x0, x1, x2, x3, k0 =>
    cond (x0.int != x2.int)
    (k0 (T.b false))
    (cond (!(x1.bool == x3.bool))
    (k0 (T.b false))
    (k0 (T.b true)))
noncomputable def laws_eqChoice_a : List Arg := [.agg [.sc (.int .i64) (.l []), .sc (.bool) (.l [])], .agg [.sc (.int .i64) (.l []), .sc (.bool) (.l [])]]
noncomputable def laws_eqChoice_w (m : Nat) (vs : List T) (k : Ret → An) : An := laws_eqChoice m (vs.headD dflt) (vs.tail.headD dflt) (vs.tail.tail.headD dflt) (vs.tail.tail.tail.headD dflt) (fun z0 => k ⟨[.one (.sc (.bool) z0)], [[none, none], [none, none]]⟩)
theorem laws_eqChoice_cf (m : Nat) : callK CX prims m = (callK CX prims m) := by
  rfl
noncomputable def laws_eqChoice_c : Code := (Try.f139.body).getD .skip
noncomputable def laws_eqChoice_fi : Fi := ⟨139, 2, 15, 16⟩
theorem laws_eqChoice_eq (m : Nat) : ∀ vs k, callK CX prims m 139 (fArgs laws_eqChoice_a vs) k = laws_eqChoice_w m vs k := by
  cases m with
  | zero => exact fun vs k => rfl
  | succ m => exact fun vs k => Eq.trans (b := bodyK CX (callK CX prims m) (loopK CX (callK CX prims m) laws_eqChoice_fi laws_eqChoice_c m) 139 Try.f139 laws_eqChoice_c (fArgs laws_eqChoice_a vs) k) (by kernel_rfl) ((bodyK_congr (laws_eqChoice_cf m) rfl 139 Try.f139 laws_eqChoice_c (fArgs laws_eqChoice_a vs) k).trans (by kernel_rfl))

/-! loop.example/g00244/laws.eqChoiceS -/
noncomputable def laws_eqChoiceS_L0_0 (m : Nat) : Nat → T → T → T → (T → An) → An → An
  | 0, _, _, _, _, _ => .bad
  | n + 1, x0, x1, x2, k0, k1 =>
    cond (decide (x2.int < (x0.rows.length : Int)))
    (cond (decide (0 ≤ x2.int ∧ x2.int < (x0.rows.length : Int)))
    (cond (decide (0 ≤ x2.int ∧ x2.int < (x1.rows.length : Int)))
    (laws_eqChoice m ((x0.rows.getD (Int.toNat x2.int) []).getD 0 dflt) ((x0.rows.getD (Int.toNat x2.int) []).getD 1 dflt) ((x1.rows.getD (Int.toNat x2.int) []).getD 0 dflt) ((x1.rows.getD (Int.toNat x2.int) []).getD 1 dflt)
    (fun y0 => cond (!y0.bool)
    (k0 (T.b false))
    (laws_eqChoiceS_L0_0 m n x0 x1 (T.i (IntKind.i64.wrap (x2.int + 1))) k0 k1)))
    (.bad))
    (.bad))
    (k1 )
noncomputable def laws_eqChoiceS_s0_0 : Pack := ⟨[(0, .one ⟨.sn [], .sl [.sc (.int .i64), .sc (.bool)], .l []⟩), (1, .one ⟨.sn [], .sl [.sc (.int .i64), .sc (.bool)], .l []⟩), (5, .one ⟨.sc, .sc (.int .i64), .l []⟩)], []⟩
noncomputable def laws_eqChoiceS_e0_0 : Pack := ⟨[(4, .one ⟨.sc, .sc (.bool), .l []⟩)], []⟩
noncomputable def laws_eqChoiceS_e0_1 : Pack := ⟨[], []⟩
noncomputable def laws_eqChoiceS_L0_0w (m n : Nat) (vs : List T) (k : Ctl → Pack → An) : An := laws_eqChoiceS_L0_0 m n (vs.headD dflt) (vs.tail.headD dflt) (vs.tail.tail.headD dflt) (fun z0 => k .ret (fPack laws_eqChoiceS_e0_0 [z0])) (k (.exit 0) (fPack laws_eqChoiceS_e0_1 []))
noncomputable def laws_eqChoiceS : Nat → T → T → (T → An) → An
  | 0, _, _, _ => .bad
  | m + 1, x0, x1, k0 =>
    cond ((x0.rows.length : Int) != (x1.rows.length : Int))
    (k0 (T.b false))
    (laws_eqChoiceS_L0_0 m m (T.l x0.rows) (T.l x1.rows) (T.i 0)
    (fun y1 => k0 y1)
    (k0 (T.b true)))
noncomputable def laws_eqChoiceS_a : List Arg := [.one (.fz [.sc (.int .i64), .sc (.bool)] []), .one (.fz [.sc (.int .i64), .sc (.bool)] [])]
noncomputable def laws_eqChoiceS_w (m : Nat) (vs : List T) (k : Ret → An) : An := laws_eqChoiceS m (vs.headD dflt) (vs.tail.headD dflt) (fun z0 => k ⟨[.one (.sc (.bool) z0)], [[none], [none]]⟩)
theorem laws_eqChoiceS_cf (m : Nat) : callK CX prims m = (patC 139 laws_eqChoice_a (laws_eqChoice_w m) (callK CX prims m)) := by
  rw [← patC_eq (fun vs k => laws_eqChoice_eq m vs k)]
noncomputable def laws_eqChoiceS_c : Code := (Try.f100.body).getD .skip
noncomputable def laws_eqChoiceS_fi : Fi := ⟨100, 2, 27, 16⟩
theorem laws_eqChoiceS_lf (m : Nat) : ∀ n, (∀ vs k, loopK CX (callK CX prims m) laws_eqChoiceS_fi laws_eqChoiceS_c n [0, 1, 0, 1, 1] (fPack laws_eqChoiceS_s0_0 vs) k = laws_eqChoiceS_L0_0w m n vs k) ∧ ((loopK CX (callK CX prims m) laws_eqChoiceS_fi laws_eqChoiceS_c n) = (patL [0, 1, 0, 1, 1] laws_eqChoiceS_s0_0 (laws_eqChoiceS_L0_0w m n) (loopK CX (callK CX prims m) laws_eqChoiceS_fi laws_eqChoiceS_c n))) := by
  intro n
  have hl : ∀ n, (∀ vs k, loopK CX (callK CX prims m) laws_eqChoiceS_fi laws_eqChoiceS_c n [0, 1, 0, 1, 1] (fPack laws_eqChoiceS_s0_0 vs) k = laws_eqChoiceS_L0_0w m n vs k) → ((loopK CX (callK CX prims m) laws_eqChoiceS_fi laws_eqChoiceS_c n) = (patL [0, 1, 0, 1, 1] laws_eqChoiceS_s0_0 (laws_eqChoiceS_L0_0w m n) (loopK CX (callK CX prims m) laws_eqChoiceS_fi laws_eqChoiceS_c n))) := by
    intro n h0
    rw [← patL_eq h0]
  induction n with
  | zero => exact ⟨fun vs k => rfl, hl 0 (fun vs k => rfl)⟩
  | succ n ihn =>
    have hn := ihn.2
    have h0 : ∀ vs k, loopK CX (callK CX prims m) laws_eqChoiceS_fi laws_eqChoiceS_c (n + 1) [0, 1, 0, 1, 1] (fPack laws_eqChoiceS_s0_0 vs) k = laws_eqChoiceS_L0_0w m (n + 1) vs k := fun vs k =>
      (stepL_congr (laws_eqChoiceS_cf m) hn [0, 1, 0, 1, 1] _ _).trans (by kernel_rfl)
    exact ⟨h0, hl (n + 1) h0⟩
theorem laws_eqChoiceS_eq (m : Nat) : ∀ vs k, callK CX prims m 100 (fArgs laws_eqChoiceS_a vs) k = laws_eqChoiceS_w m vs k := by
  cases m with
  | zero => exact fun vs k => rfl
  | succ m => exact fun vs k => Eq.trans (b := bodyK CX (callK CX prims m) (loopK CX (callK CX prims m) laws_eqChoiceS_fi laws_eqChoiceS_c m) 100 Try.f100 laws_eqChoiceS_c (fArgs laws_eqChoiceS_a vs) k) (by kernel_rfl) ((bodyK_congr (laws_eqChoiceS_cf m) ((laws_eqChoiceS_lf m m).2) 100 Try.f100 laws_eqChoiceS_c (fArgs laws_eqChoiceS_a vs) k).trans (by kernel_rfl))

/-! loop.example/g00244/laws.eqCoord -/
noncomputable def laws_eqCoord : Nat → T → T → T → T → T → T → T → T → T → T → T → T → (T → An) → An
  | 0, _, _, _, _, _, _, _, _, _, _, _, _, _ => .bad
  | m + 1, x0, x1, x2, x3, x4, x5, x6, x7, x8, x9, x10, x11, k0 =>
    cond (x0.int != x6.int)
    (k0 (T.b false))
    (cond (x1.int != x7.int)
    (k0 (T.b false))
    (cond (x2.int != x8.int)
    (k0 (T.b false))
    (laws_eqJobS m (T.l x3.rows) (T.l x9.rows)
    (fun y0 => cond (!y0.bool)
    (k0 (T.b false))
    (laws_eqChoiceS m (T.l x4.rows) (T.l x10.rows)
    (fun y1 => cond (!y1.bool)
    (k0 (T.b false))
    (cond (x5.int != x11.int)
    (k0 (T.b false))
    (k0 (T.b true)))))))))
noncomputable def laws_eqCoord_a : List Arg := [.agg [.sc (.int .i64) (.l []), .sc (.int .i64) (.l []), .sc (.int .i64) (.l []), .fz [.sc (.int .i64), .sl [.sc (.int .i64), .sc (.str), .sc (.str)], .sc (.int .i64), .sl [.sc (.int .i64)]] [], .fz [.sc (.int .i64), .sc (.bool)] [], .sc (.int .i64) (.l [])], .agg [.sc (.int .i64) (.l []), .sc (.int .i64) (.l []), .sc (.int .i64) (.l []), .fz [.sc (.int .i64), .sl [.sc (.int .i64), .sc (.str), .sc (.str)], .sc (.int .i64), .sl [.sc (.int .i64)]] [], .fz [.sc (.int .i64), .sc (.bool)] [], .sc (.int .i64) (.l [])]]
noncomputable def laws_eqCoord_w (m : Nat) (vs : List T) (k : Ret → An) : An := laws_eqCoord m (vs.headD dflt) (vs.tail.headD dflt) (vs.tail.tail.headD dflt) (vs.tail.tail.tail.headD dflt) (vs.tail.tail.tail.tail.headD dflt) (vs.tail.tail.tail.tail.tail.headD dflt) (vs.tail.tail.tail.tail.tail.tail.headD dflt) (vs.tail.tail.tail.tail.tail.tail.tail.headD dflt) (vs.tail.tail.tail.tail.tail.tail.tail.tail.headD dflt) (vs.tail.tail.tail.tail.tail.tail.tail.tail.tail.headD dflt) (vs.tail.tail.tail.tail.tail.tail.tail.tail.tail.tail.headD dflt) (vs.tail.tail.tail.tail.tail.tail.tail.tail.tail.tail.tail.headD dflt) (fun z0 => k ⟨[.one (.sc (.bool) z0)], [[none, none, none, none, none, none], [none, none, none, none, none, none]]⟩)
theorem laws_eqCoord_cf (m : Nat) : callK CX prims m = (patC 99 laws_eqJobS_a (laws_eqJobS_w m) (patC 100 laws_eqChoiceS_a (laws_eqChoiceS_w m) (callK CX prims m))) := by
  rw [← patC_eq (fun vs k => laws_eqChoiceS_eq m vs k), ← patC_eq (fun vs k => laws_eqJobS_eq m vs k)]
noncomputable def laws_eqCoord_c : Code := (Try.f53.body).getD .skip
noncomputable def laws_eqCoord_fi : Fi := ⟨53, 2, 37, 16⟩
theorem laws_eqCoord_eq (m : Nat) : ∀ vs k, callK CX prims m 53 (fArgs laws_eqCoord_a vs) k = laws_eqCoord_w m vs k := by
  cases m with
  | zero => exact fun vs k => rfl
  | succ m => exact fun vs k => Eq.trans (b := bodyK CX (callK CX prims m) (loopK CX (callK CX prims m) laws_eqCoord_fi laws_eqCoord_c m) 53 Try.f53 laws_eqCoord_c (fArgs laws_eqCoord_a vs) k) (by kernel_rfl) ((bodyK_congr (laws_eqCoord_cf m) rfl 53 Try.f53 laws_eqCoord_c (fArgs laws_eqCoord_a vs) k).trans (by kernel_rfl))

/-! loop.example/g00244/laws.eqRec -/
noncomputable def laws_eqRec : Nat → T → T → T → T → T → T → (T → An) → An
  | 0, _, _, _, _, _, _, _ => .bad
  | m + 1, x0, x1, x2, x3, x4, x5, k0 =>
    cond (x0.int != x3.int)
    (k0 (T.b false))
    (cond (x1.int != x4.int)
    (k0 (T.b false))
    (laws_eqOpS m (T.l x2.rows) (T.l x5.rows)
    (fun y0 => cond (!y0.bool)
    (k0 (T.b false))
    (k0 (T.b true)))))
noncomputable def laws_eqRec_a : List Arg := [.agg [.sc (.int .i64) (.l []), .sc (.int .i64) (.l []), .fz [.sc (.int .i64), .sc (.str), .sc (.str)] []], .agg [.sc (.int .i64) (.l []), .sc (.int .i64) (.l []), .fz [.sc (.int .i64), .sc (.str), .sc (.str)] []]]
noncomputable def laws_eqRec_w (m : Nat) (vs : List T) (k : Ret → An) : An := laws_eqRec m (vs.headD dflt) (vs.tail.headD dflt) (vs.tail.tail.headD dflt) (vs.tail.tail.tail.headD dflt) (vs.tail.tail.tail.tail.headD dflt) (vs.tail.tail.tail.tail.tail.headD dflt) (fun z0 => k ⟨[.one (.sc (.bool) z0)], [[none, none, none], [none, none, none]]⟩)
theorem laws_eqRec_cf (m : Nat) : callK CX prims m = (patC 141 laws_eqOpS_a (laws_eqOpS_w m) (callK CX prims m)) := by
  rw [← patC_eq (fun vs k => laws_eqOpS_eq m vs k)]
noncomputable def laws_eqRec_c : Code := (Try.f165.body).getD .skip
noncomputable def laws_eqRec_fi : Fi := ⟨165, 2, 21, 16⟩
theorem laws_eqRec_eq (m : Nat) : ∀ vs k, callK CX prims m 165 (fArgs laws_eqRec_a vs) k = laws_eqRec_w m vs k := by
  cases m with
  | zero => exact fun vs k => rfl
  | succ m => exact fun vs k => Eq.trans (b := bodyK CX (callK CX prims m) (loopK CX (callK CX prims m) laws_eqRec_fi laws_eqRec_c m) 165 Try.f165 laws_eqRec_c (fArgs laws_eqRec_a vs) k) (by kernel_rfl) ((bodyK_congr (laws_eqRec_cf m) rfl 165 Try.f165 laws_eqRec_c (fArgs laws_eqRec_a vs) k).trans (by kernel_rfl))

/-! loop.example/g00244/laws.eqRecS -/
noncomputable def laws_eqRecS_L0_0 (m : Nat) : Nat → T → T → T → (T → An) → An → An
  | 0, _, _, _, _, _ => .bad
  | n + 1, x0, x1, x2, k0, k1 =>
    cond (decide (x2.int < (x0.rows.length : Int)))
    (cond (decide (0 ≤ x2.int ∧ x2.int < (x0.rows.length : Int)))
    (cond (decide (0 ≤ x2.int ∧ x2.int < (x1.rows.length : Int)))
    (laws_eqRec m ((x0.rows.getD (Int.toNat x2.int) []).getD 0 dflt) ((x0.rows.getD (Int.toNat x2.int) []).getD 1 dflt) (T.l ((x0.rows.getD (Int.toNat x2.int) []).getD 2 dflt).rows) ((x1.rows.getD (Int.toNat x2.int) []).getD 0 dflt) ((x1.rows.getD (Int.toNat x2.int) []).getD 1 dflt) (T.l ((x1.rows.getD (Int.toNat x2.int) []).getD 2 dflt).rows)
    (fun y0 => cond (!y0.bool)
    (k0 (T.b false))
    (laws_eqRecS_L0_0 m n x0 x1 (T.i (IntKind.i64.wrap (x2.int + 1))) k0 k1)))
    (.bad))
    (.bad))
    (k1 )
noncomputable def laws_eqRecS_s0_0 : Pack := ⟨[(0, .one ⟨.sn [], .sl [.sc (.int .i64), .sc (.int .i64), .sl [.sc (.int .i64), .sc (.str), .sc (.str)]], .l []⟩), (1, .one ⟨.sn [], .sl [.sc (.int .i64), .sc (.int .i64), .sl [.sc (.int .i64), .sc (.str), .sc (.str)]], .l []⟩), (5, .one ⟨.sc, .sc (.int .i64), .l []⟩)], []⟩
noncomputable def laws_eqRecS_e0_0 : Pack := ⟨[(4, .one ⟨.sc, .sc (.bool), .l []⟩)], []⟩
noncomputable def laws_eqRecS_e0_1 : Pack := ⟨[], []⟩
noncomputable def laws_eqRecS_L0_0w (m n : Nat) (vs : List T) (k : Ctl → Pack → An) : An := laws_eqRecS_L0_0 m n (vs.headD dflt) (vs.tail.headD dflt) (vs.tail.tail.headD dflt) (fun z0 => k .ret (fPack laws_eqRecS_e0_0 [z0])) (k (.exit 0) (fPack laws_eqRecS_e0_1 []))
noncomputable def laws_eqRecS : Nat → T → T → (T → An) → An
  | 0, _, _, _ => .bad
  | m + 1, x0, x1, k0 =>
    cond ((x0.rows.length : Int) != (x1.rows.length : Int))
    (k0 (T.b false))
    (laws_eqRecS_L0_0 m m (T.l x0.rows) (T.l x1.rows) (T.i 0)
    (fun y1 => k0 y1)
    (k0 (T.b true)))
noncomputable def laws_eqRecS_a : List Arg := [.one (.fz [.sc (.int .i64), .sc (.int .i64), .sl [.sc (.int .i64), .sc (.str), .sc (.str)]] []), .one (.fz [.sc (.int .i64), .sc (.int .i64), .sl [.sc (.int .i64), .sc (.str), .sc (.str)]] [])]
noncomputable def laws_eqRecS_w (m : Nat) (vs : List T) (k : Ret → An) : An := laws_eqRecS m (vs.headD dflt) (vs.tail.headD dflt) (fun z0 => k ⟨[.one (.sc (.bool) z0)], [[none], [none]]⟩)
theorem laws_eqRecS_cf (m : Nat) : callK CX prims m = (patC 165 laws_eqRec_a (laws_eqRec_w m) (callK CX prims m)) := by
  rw [← patC_eq (fun vs k => laws_eqRec_eq m vs k)]
noncomputable def laws_eqRecS_c : Code := (Try.f140.body).getD .skip
noncomputable def laws_eqRecS_fi : Fi := ⟨140, 2, 27, 16⟩
theorem laws_eqRecS_lf (m : Nat) : ∀ n, (∀ vs k, loopK CX (callK CX prims m) laws_eqRecS_fi laws_eqRecS_c n [0, 1, 0, 1, 1] (fPack laws_eqRecS_s0_0 vs) k = laws_eqRecS_L0_0w m n vs k) ∧ ((loopK CX (callK CX prims m) laws_eqRecS_fi laws_eqRecS_c n) = (patL [0, 1, 0, 1, 1] laws_eqRecS_s0_0 (laws_eqRecS_L0_0w m n) (loopK CX (callK CX prims m) laws_eqRecS_fi laws_eqRecS_c n))) := by
  intro n
  have hl : ∀ n, (∀ vs k, loopK CX (callK CX prims m) laws_eqRecS_fi laws_eqRecS_c n [0, 1, 0, 1, 1] (fPack laws_eqRecS_s0_0 vs) k = laws_eqRecS_L0_0w m n vs k) → ((loopK CX (callK CX prims m) laws_eqRecS_fi laws_eqRecS_c n) = (patL [0, 1, 0, 1, 1] laws_eqRecS_s0_0 (laws_eqRecS_L0_0w m n) (loopK CX (callK CX prims m) laws_eqRecS_fi laws_eqRecS_c n))) := by
    intro n h0
    rw [← patL_eq h0]
  induction n with
  | zero => exact ⟨fun vs k => rfl, hl 0 (fun vs k => rfl)⟩
  | succ n ihn =>
    have hn := ihn.2
    have h0 : ∀ vs k, loopK CX (callK CX prims m) laws_eqRecS_fi laws_eqRecS_c (n + 1) [0, 1, 0, 1, 1] (fPack laws_eqRecS_s0_0 vs) k = laws_eqRecS_L0_0w m (n + 1) vs k := fun vs k =>
      (stepL_congr (laws_eqRecS_cf m) hn [0, 1, 0, 1, 1] _ _).trans (by kernel_rfl)
    exact ⟨h0, hl (n + 1) h0⟩
theorem laws_eqRecS_eq (m : Nat) : ∀ vs k, callK CX prims m 140 (fArgs laws_eqRecS_a vs) k = laws_eqRecS_w m vs k := by
  cases m with
  | zero => exact fun vs k => rfl
  | succ m => exact fun vs k => Eq.trans (b := bodyK CX (callK CX prims m) (loopK CX (callK CX prims m) laws_eqRecS_fi laws_eqRecS_c m) 140 Try.f140 laws_eqRecS_c (fArgs laws_eqRecS_a vs) k) (by kernel_rfl) ((bodyK_congr (laws_eqRecS_cf m) ((laws_eqRecS_lf m m).2) 140 Try.f140 laws_eqRecS_c (fArgs laws_eqRecS_a vs) k).trans (by kernel_rfl))

/-! loop.example/g00244/laws.eqPair -/
noncomputable def laws_eqPair : Nat → T → T → T → T → (T → An) → An
  | 0, _, _, _, _, _ => .bad
  | m + 1, x0, x1, x2, x3, k0 =>
    cond (!(x0.str.toList == x2.str.toList))
    (k0 (T.b false))
    (cond (!(x1.str.toList == x3.str.toList))
    (k0 (T.b false))
    (k0 (T.b true)))
noncomputable def laws_eqPair_a : List Arg := [.agg [.sc (.str) (.l []), .sc (.str) (.l [])], .agg [.sc (.str) (.l []), .sc (.str) (.l [])]]
noncomputable def laws_eqPair_w (m : Nat) (vs : List T) (k : Ret → An) : An := laws_eqPair m (vs.headD dflt) (vs.tail.headD dflt) (vs.tail.tail.headD dflt) (vs.tail.tail.tail.headD dflt) (fun z0 => k ⟨[.one (.sc (.bool) z0)], [[none, none], [none, none]]⟩)
theorem laws_eqPair_cf (m : Nat) : callK CX prims m = (callK CX prims m) := by
  rfl
noncomputable def laws_eqPair_c : Code := (Try.f63.body).getD .skip
noncomputable def laws_eqPair_fi : Fi := ⟨63, 2, 15, 16⟩
theorem laws_eqPair_eq (m : Nat) : ∀ vs k, callK CX prims m 63 (fArgs laws_eqPair_a vs) k = laws_eqPair_w m vs k := by
  cases m with
  | zero => exact fun vs k => rfl
  | succ m => exact fun vs k => Eq.trans (b := bodyK CX (callK CX prims m) (loopK CX (callK CX prims m) laws_eqPair_fi laws_eqPair_c m) 63 Try.f63 laws_eqPair_c (fArgs laws_eqPair_a vs) k) (by kernel_rfl) ((bodyK_congr (laws_eqPair_cf m) rfl 63 Try.f63 laws_eqPair_c (fArgs laws_eqPair_a vs) k).trans (by kernel_rfl))

/-! loop.example/g00244/laws.eqPairS -/
noncomputable def laws_eqPairS_L0_0 (m : Nat) : Nat → T → T → T → (T → An) → An → An
  | 0, _, _, _, _, _ => .bad
  | n + 1, x0, x1, x2, k0, k1 =>
    cond (decide (x2.int < (x0.rows.length : Int)))
    (cond (decide (0 ≤ x2.int ∧ x2.int < (x0.rows.length : Int)))
    (cond (decide (0 ≤ x2.int ∧ x2.int < (x1.rows.length : Int)))
    (laws_eqPair m ((x0.rows.getD (Int.toNat x2.int) []).getD 0 dflt) ((x0.rows.getD (Int.toNat x2.int) []).getD 1 dflt) ((x1.rows.getD (Int.toNat x2.int) []).getD 0 dflt) ((x1.rows.getD (Int.toNat x2.int) []).getD 1 dflt)
    (fun y0 => cond (!y0.bool)
    (k0 (T.b false))
    (laws_eqPairS_L0_0 m n x0 x1 (T.i (IntKind.i64.wrap (x2.int + 1))) k0 k1)))
    (.bad))
    (.bad))
    (k1 )
noncomputable def laws_eqPairS_s0_0 : Pack := ⟨[(0, .one ⟨.sn [], .sl [.sc (.str), .sc (.str)], .l []⟩), (1, .one ⟨.sn [], .sl [.sc (.str), .sc (.str)], .l []⟩), (5, .one ⟨.sc, .sc (.int .i64), .l []⟩)], []⟩
noncomputable def laws_eqPairS_e0_0 : Pack := ⟨[(4, .one ⟨.sc, .sc (.bool), .l []⟩)], []⟩
noncomputable def laws_eqPairS_e0_1 : Pack := ⟨[], []⟩
noncomputable def laws_eqPairS_L0_0w (m n : Nat) (vs : List T) (k : Ctl → Pack → An) : An := laws_eqPairS_L0_0 m n (vs.headD dflt) (vs.tail.headD dflt) (vs.tail.tail.headD dflt) (fun z0 => k .ret (fPack laws_eqPairS_e0_0 [z0])) (k (.exit 0) (fPack laws_eqPairS_e0_1 []))
noncomputable def laws_eqPairS : Nat → T → T → (T → An) → An
  | 0, _, _, _ => .bad
  | m + 1, x0, x1, k0 =>
    cond ((x0.rows.length : Int) != (x1.rows.length : Int))
    (k0 (T.b false))
    (laws_eqPairS_L0_0 m m (T.l x0.rows) (T.l x1.rows) (T.i 0)
    (fun y1 => k0 y1)
    (k0 (T.b true)))
noncomputable def laws_eqPairS_a : List Arg := [.one (.fz [.sc (.str), .sc (.str)] []), .one (.fz [.sc (.str), .sc (.str)] [])]
noncomputable def laws_eqPairS_w (m : Nat) (vs : List T) (k : Ret → An) : An := laws_eqPairS m (vs.headD dflt) (vs.tail.headD dflt) (fun z0 => k ⟨[.one (.sc (.bool) z0)], [[none], [none]]⟩)
theorem laws_eqPairS_cf (m : Nat) : callK CX prims m = (patC 63 laws_eqPair_a (laws_eqPair_w m) (callK CX prims m)) := by
  rw [← patC_eq (fun vs k => laws_eqPair_eq m vs k)]
noncomputable def laws_eqPairS_c : Code := (Try.f21.body).getD .skip
noncomputable def laws_eqPairS_fi : Fi := ⟨21, 2, 27, 16⟩
theorem laws_eqPairS_lf (m : Nat) : ∀ n, (∀ vs k, loopK CX (callK CX prims m) laws_eqPairS_fi laws_eqPairS_c n [0, 1, 0, 1, 1] (fPack laws_eqPairS_s0_0 vs) k = laws_eqPairS_L0_0w m n vs k) ∧ ((loopK CX (callK CX prims m) laws_eqPairS_fi laws_eqPairS_c n) = (patL [0, 1, 0, 1, 1] laws_eqPairS_s0_0 (laws_eqPairS_L0_0w m n) (loopK CX (callK CX prims m) laws_eqPairS_fi laws_eqPairS_c n))) := by
  intro n
  have hl : ∀ n, (∀ vs k, loopK CX (callK CX prims m) laws_eqPairS_fi laws_eqPairS_c n [0, 1, 0, 1, 1] (fPack laws_eqPairS_s0_0 vs) k = laws_eqPairS_L0_0w m n vs k) → ((loopK CX (callK CX prims m) laws_eqPairS_fi laws_eqPairS_c n) = (patL [0, 1, 0, 1, 1] laws_eqPairS_s0_0 (laws_eqPairS_L0_0w m n) (loopK CX (callK CX prims m) laws_eqPairS_fi laws_eqPairS_c n))) := by
    intro n h0
    rw [← patL_eq h0]
  induction n with
  | zero => exact ⟨fun vs k => rfl, hl 0 (fun vs k => rfl)⟩
  | succ n ihn =>
    have hn := ihn.2
    have h0 : ∀ vs k, loopK CX (callK CX prims m) laws_eqPairS_fi laws_eqPairS_c (n + 1) [0, 1, 0, 1, 1] (fPack laws_eqPairS_s0_0 vs) k = laws_eqPairS_L0_0w m (n + 1) vs k := fun vs k =>
      (stepL_congr (laws_eqPairS_cf m) hn [0, 1, 0, 1, 1] _ _).trans (by kernel_rfl)
    exact ⟨h0, hl (n + 1) h0⟩
theorem laws_eqPairS_eq (m : Nat) : ∀ vs k, callK CX prims m 21 (fArgs laws_eqPairS_a vs) k = laws_eqPairS_w m vs k := by
  cases m with
  | zero => exact fun vs k => rfl
  | succ m => exact fun vs k => Eq.trans (b := bodyK CX (callK CX prims m) (loopK CX (callK CX prims m) laws_eqPairS_fi laws_eqPairS_c m) 21 Try.f21 laws_eqPairS_c (fArgs laws_eqPairS_a vs) k) (by kernel_rfl) ((bodyK_congr (laws_eqPairS_cf m) ((laws_eqPairS_lf m m).2) 21 Try.f21 laws_eqPairS_c (fArgs laws_eqPairS_a vs) k).trans (by kernel_rfl))

/-! loop.example/g00244/laws.eqShard -/
noncomputable def laws_eqShard : Nat → T → T → T → T → T → T → T → T → T → T → (T → An) → An
  | 0, _, _, _, _, _, _, _, _, _, _, _ => .bad
  | m + 1, x0, x1, x2, x3, x4, x5, x6, x7, x8, x9, k0 =>
    cond (x0.int != x5.int)
    (k0 (T.b false))
    (laws_eqRecS m (T.l x1.rows) (T.l x6.rows)
    (fun y0 => cond (!y0.bool)
    (k0 (T.b false))
    (cond (x2.int != x7.int)
    (k0 (T.b false))
    (laws_eqPairS m (T.l x3.rows) (T.l x8.rows)
    (fun y1 => cond (!y1.bool)
    (k0 (T.b false))
    (laws_eqRecS m (T.l x4.rows) (T.l x9.rows)
    (fun y2 => cond (!y2.bool)
    (k0 (T.b false))
    (k0 (T.b true)))))))))
noncomputable def laws_eqShard_a : List Arg := [.agg [.sc (.int .i64) (.l []), .fz [.sc (.int .i64), .sc (.int .i64), .sl [.sc (.int .i64), .sc (.str), .sc (.str)]] [], .sc (.int .i64) (.l []), .fz [.sc (.str), .sc (.str)] [], .fz [.sc (.int .i64), .sc (.int .i64), .sl [.sc (.int .i64), .sc (.str), .sc (.str)]] []], .agg [.sc (.int .i64) (.l []), .fz [.sc (.int .i64), .sc (.int .i64), .sl [.sc (.int .i64), .sc (.str), .sc (.str)]] [], .sc (.int .i64) (.l []), .fz [.sc (.str), .sc (.str)] [], .fz [.sc (.int .i64), .sc (.int .i64), .sl [.sc (.int .i64), .sc (.str), .sc (.str)]] []]]
noncomputable def laws_eqShard_w (m : Nat) (vs : List T) (k : Ret → An) : An := laws_eqShard m (vs.headD dflt) (vs.tail.headD dflt) (vs.tail.tail.headD dflt) (vs.tail.tail.tail.headD dflt) (vs.tail.tail.tail.tail.headD dflt) (vs.tail.tail.tail.tail.tail.headD dflt) (vs.tail.tail.tail.tail.tail.tail.headD dflt) (vs.tail.tail.tail.tail.tail.tail.tail.headD dflt) (vs.tail.tail.tail.tail.tail.tail.tail.tail.headD dflt) (vs.tail.tail.tail.tail.tail.tail.tail.tail.tail.headD dflt) (fun z0 => k ⟨[.one (.sc (.bool) z0)], [[none, none, none, none, none], [none, none, none, none, none]]⟩)
theorem laws_eqShard_cf (m : Nat) : callK CX prims m = (patC 140 laws_eqRecS_a (laws_eqRecS_w m) (patC 21 laws_eqPairS_a (laws_eqPairS_w m) (callK CX prims m))) := by
  rw [← patC_eq (fun vs k => laws_eqPairS_eq m vs k), ← patC_eq (fun vs k => laws_eqRecS_eq m vs k)]
noncomputable def laws_eqShard_c : Code := (Try.f101.body).getD .skip
noncomputable def laws_eqShard_fi : Fi := ⟨101, 2, 33, 16⟩
theorem laws_eqShard_eq (m : Nat) : ∀ vs k, callK CX prims m 101 (fArgs laws_eqShard_a vs) k = laws_eqShard_w m vs k := by
  cases m with
  | zero => exact fun vs k => rfl
  | succ m => exact fun vs k => Eq.trans (b := bodyK CX (callK CX prims m) (loopK CX (callK CX prims m) laws_eqShard_fi laws_eqShard_c m) 101 Try.f101 laws_eqShard_c (fArgs laws_eqShard_a vs) k) (by kernel_rfl) ((bodyK_congr (laws_eqShard_cf m) rfl 101 Try.f101 laws_eqShard_c (fArgs laws_eqShard_a vs) k).trans (by kernel_rfl))

/-! loop.example/g00244/laws.eqShardS -/
noncomputable def laws_eqShardS_L0_0 (m : Nat) : Nat → T → T → T → (T → An) → An → An
  | 0, _, _, _, _, _ => .bad
  | n + 1, x0, x1, x2, k0, k1 =>
    cond (decide (x2.int < (x0.rows.length : Int)))
    (cond (decide (0 ≤ x2.int ∧ x2.int < (x0.rows.length : Int)))
    (cond (decide (0 ≤ x2.int ∧ x2.int < (x1.rows.length : Int)))
    (laws_eqShard m ((x0.rows.getD (Int.toNat x2.int) []).getD 0 dflt) (T.l ((x0.rows.getD (Int.toNat x2.int) []).getD 1 dflt).rows) ((x0.rows.getD (Int.toNat x2.int) []).getD 2 dflt) (T.l ((x0.rows.getD (Int.toNat x2.int) []).getD 3 dflt).rows) (T.l ((x0.rows.getD (Int.toNat x2.int) []).getD 4 dflt).rows) ((x1.rows.getD (Int.toNat x2.int) []).getD 0 dflt) (T.l ((x1.rows.getD (Int.toNat x2.int) []).getD 1 dflt).rows) ((x1.rows.getD (Int.toNat x2.int) []).getD 2 dflt) (T.l ((x1.rows.getD (Int.toNat x2.int) []).getD 3 dflt).rows) (T.l ((x1.rows.getD (Int.toNat x2.int) []).getD 4 dflt).rows)
    (fun y0 => cond (!y0.bool)
    (k0 (T.b false))
    (laws_eqShardS_L0_0 m n x0 x1 (T.i (IntKind.i64.wrap (x2.int + 1))) k0 k1)))
    (.bad))
    (.bad))
    (k1 )
noncomputable def laws_eqShardS_s0_0 : Pack := ⟨[(0, .one ⟨.sn [], .sl [.sc (.int .i64), .sl [.sc (.int .i64), .sc (.int .i64), .sl [.sc (.int .i64), .sc (.str), .sc (.str)]], .sc (.int .i64), .sl [.sc (.str), .sc (.str)], .sl [.sc (.int .i64), .sc (.int .i64), .sl [.sc (.int .i64), .sc (.str), .sc (.str)]]], .l []⟩), (1, .one ⟨.sn [], .sl [.sc (.int .i64), .sl [.sc (.int .i64), .sc (.int .i64), .sl [.sc (.int .i64), .sc (.str), .sc (.str)]], .sc (.int .i64), .sl [.sc (.str), .sc (.str)], .sl [.sc (.int .i64), .sc (.int .i64), .sl [.sc (.int .i64), .sc (.str), .sc (.str)]]], .l []⟩), (5, .one ⟨.sc, .sc (.int .i64), .l []⟩)], []⟩
noncomputable def laws_eqShardS_e0_0 : Pack := ⟨[(4, .one ⟨.sc, .sc (.bool), .l []⟩)], []⟩
noncomputable def laws_eqShardS_e0_1 : Pack := ⟨[], []⟩
noncomputable def laws_eqShardS_L0_0w (m n : Nat) (vs : List T) (k : Ctl → Pack → An) : An := laws_eqShardS_L0_0 m n (vs.headD dflt) (vs.tail.headD dflt) (vs.tail.tail.headD dflt) (fun z0 => k .ret (fPack laws_eqShardS_e0_0 [z0])) (k (.exit 0) (fPack laws_eqShardS_e0_1 []))
noncomputable def laws_eqShardS : Nat → T → T → (T → An) → An
  | 0, _, _, _ => .bad
  | m + 1, x0, x1, k0 =>
    cond ((x0.rows.length : Int) != (x1.rows.length : Int))
    (k0 (T.b false))
    (laws_eqShardS_L0_0 m m (T.l x0.rows) (T.l x1.rows) (T.i 0)
    (fun y1 => k0 y1)
    (k0 (T.b true)))
noncomputable def laws_eqShardS_a : List Arg := [.one (.fz [.sc (.int .i64), .sl [.sc (.int .i64), .sc (.int .i64), .sl [.sc (.int .i64), .sc (.str), .sc (.str)]], .sc (.int .i64), .sl [.sc (.str), .sc (.str)], .sl [.sc (.int .i64), .sc (.int .i64), .sl [.sc (.int .i64), .sc (.str), .sc (.str)]]] []), .one (.fz [.sc (.int .i64), .sl [.sc (.int .i64), .sc (.int .i64), .sl [.sc (.int .i64), .sc (.str), .sc (.str)]], .sc (.int .i64), .sl [.sc (.str), .sc (.str)], .sl [.sc (.int .i64), .sc (.int .i64), .sl [.sc (.int .i64), .sc (.str), .sc (.str)]]] [])]
noncomputable def laws_eqShardS_w (m : Nat) (vs : List T) (k : Ret → An) : An := laws_eqShardS m (vs.headD dflt) (vs.tail.headD dflt) (fun z0 => k ⟨[.one (.sc (.bool) z0)], [[none], [none]]⟩)
theorem laws_eqShardS_cf (m : Nat) : callK CX prims m = (patC 101 laws_eqShard_a (laws_eqShard_w m) (callK CX prims m)) := by
  rw [← patC_eq (fun vs k => laws_eqShard_eq m vs k)]
noncomputable def laws_eqShardS_c : Code := (Try.f54.body).getD .skip
noncomputable def laws_eqShardS_fi : Fi := ⟨54, 2, 27, 16⟩
theorem laws_eqShardS_lf (m : Nat) : ∀ n, (∀ vs k, loopK CX (callK CX prims m) laws_eqShardS_fi laws_eqShardS_c n [0, 1, 0, 1, 1] (fPack laws_eqShardS_s0_0 vs) k = laws_eqShardS_L0_0w m n vs k) ∧ ((loopK CX (callK CX prims m) laws_eqShardS_fi laws_eqShardS_c n) = (patL [0, 1, 0, 1, 1] laws_eqShardS_s0_0 (laws_eqShardS_L0_0w m n) (loopK CX (callK CX prims m) laws_eqShardS_fi laws_eqShardS_c n))) := by
  intro n
  have hl : ∀ n, (∀ vs k, loopK CX (callK CX prims m) laws_eqShardS_fi laws_eqShardS_c n [0, 1, 0, 1, 1] (fPack laws_eqShardS_s0_0 vs) k = laws_eqShardS_L0_0w m n vs k) → ((loopK CX (callK CX prims m) laws_eqShardS_fi laws_eqShardS_c n) = (patL [0, 1, 0, 1, 1] laws_eqShardS_s0_0 (laws_eqShardS_L0_0w m n) (loopK CX (callK CX prims m) laws_eqShardS_fi laws_eqShardS_c n))) := by
    intro n h0
    rw [← patL_eq h0]
  induction n with
  | zero => exact ⟨fun vs k => rfl, hl 0 (fun vs k => rfl)⟩
  | succ n ihn =>
    have hn := ihn.2
    have h0 : ∀ vs k, loopK CX (callK CX prims m) laws_eqShardS_fi laws_eqShardS_c (n + 1) [0, 1, 0, 1, 1] (fPack laws_eqShardS_s0_0 vs) k = laws_eqShardS_L0_0w m (n + 1) vs k := fun vs k =>
      (stepL_congr (laws_eqShardS_cf m) hn [0, 1, 0, 1, 1] _ _).trans (by kernel_rfl)
    exact ⟨h0, hl (n + 1) h0⟩
theorem laws_eqShardS_eq (m : Nat) : ∀ vs k, callK CX prims m 54 (fArgs laws_eqShardS_a vs) k = laws_eqShardS_w m vs k := by
  cases m with
  | zero => exact fun vs k => rfl
  | succ m => exact fun vs k => Eq.trans (b := bodyK CX (callK CX prims m) (loopK CX (callK CX prims m) laws_eqShardS_fi laws_eqShardS_c m) 54 Try.f54 laws_eqShardS_c (fArgs laws_eqShardS_a vs) k) (by kernel_rfl) ((bodyK_congr (laws_eqShardS_cf m) ((laws_eqShardS_lf m m).2) 54 Try.f54 laws_eqShardS_c (fArgs laws_eqShardS_a vs) k).trans (by kernel_rfl))

/-! loop.example/g00244/laws.eqWord -/
noncomputable def laws_eqWord : Nat → T → T → T → T → T → T → T → T → T → T → (T → An) → An
  | 0, _, _, _, _, _, _, _, _, _, _, _ => .bad
  | m + 1, x0, x1, x2, x3, x4, x5, x6, x7, x8, x9, k0 =>
    cond (x0.int != x5.int)
    (k0 (T.b false))
    (cond (x1.int != x6.int)
    (k0 (T.b false))
    (cond (x2.int != x7.int)
    (k0 (T.b false))
    (laws_eqOpS m (T.l x3.rows) (T.l x8.rows)
    (fun y0 => cond (!y0.bool)
    (k0 (T.b false))
    (cond (!(x4.bool == x9.bool))
    (k0 (T.b false))
    (k0 (T.b true)))))))
noncomputable def laws_eqWord_a : List Arg := [.agg [.sc (.int .i64) (.l []), .sc (.int .i64) (.l []), .sc (.int .i64) (.l []), .fz [.sc (.int .i64), .sc (.str), .sc (.str)] [], .sc (.bool) (.l [])], .agg [.sc (.int .i64) (.l []), .sc (.int .i64) (.l []), .sc (.int .i64) (.l []), .fz [.sc (.int .i64), .sc (.str), .sc (.str)] [], .sc (.bool) (.l [])]]
noncomputable def laws_eqWord_w (m : Nat) (vs : List T) (k : Ret → An) : An := laws_eqWord m (vs.headD dflt) (vs.tail.headD dflt) (vs.tail.tail.headD dflt) (vs.tail.tail.tail.headD dflt) (vs.tail.tail.tail.tail.headD dflt) (vs.tail.tail.tail.tail.tail.headD dflt) (vs.tail.tail.tail.tail.tail.tail.headD dflt) (vs.tail.tail.tail.tail.tail.tail.tail.headD dflt) (vs.tail.tail.tail.tail.tail.tail.tail.tail.headD dflt) (vs.tail.tail.tail.tail.tail.tail.tail.tail.tail.headD dflt) (fun z0 => k ⟨[.one (.sc (.bool) z0)], [[none, none, none, none, none], [none, none, none, none, none]]⟩)
theorem laws_eqWord_cf (m : Nat) : callK CX prims m = (patC 141 laws_eqOpS_a (laws_eqOpS_w m) (callK CX prims m)) := by
  rw [← patC_eq (fun vs k => laws_eqOpS_eq m vs k)]
noncomputable def laws_eqWord_c : Code := (Try.f102.body).getD .skip
noncomputable def laws_eqWord_fi : Fi := ⟨102, 2, 31, 16⟩
theorem laws_eqWord_eq (m : Nat) : ∀ vs k, callK CX prims m 102 (fArgs laws_eqWord_a vs) k = laws_eqWord_w m vs k := by
  cases m with
  | zero => exact fun vs k => rfl
  | succ m => exact fun vs k => Eq.trans (b := bodyK CX (callK CX prims m) (loopK CX (callK CX prims m) laws_eqWord_fi laws_eqWord_c m) 102 Try.f102 laws_eqWord_c (fArgs laws_eqWord_a vs) k) (by kernel_rfl) ((bodyK_congr (laws_eqWord_cf m) rfl 102 Try.f102 laws_eqWord_c (fArgs laws_eqWord_a vs) k).trans (by kernel_rfl))

/-! loop.example/g00244/laws.eqWordS -/
noncomputable def laws_eqWordS_L0_0 (m : Nat) : Nat → T → T → T → (T → An) → An → An
  | 0, _, _, _, _, _ => .bad
  | n + 1, x0, x1, x2, k0, k1 =>
    cond (decide (x2.int < (x0.rows.length : Int)))
    (cond (decide (0 ≤ x2.int ∧ x2.int < (x0.rows.length : Int)))
    (cond (decide (0 ≤ x2.int ∧ x2.int < (x1.rows.length : Int)))
    (laws_eqWord m ((x0.rows.getD (Int.toNat x2.int) []).getD 0 dflt) ((x0.rows.getD (Int.toNat x2.int) []).getD 1 dflt) ((x0.rows.getD (Int.toNat x2.int) []).getD 2 dflt) (T.l ((x0.rows.getD (Int.toNat x2.int) []).getD 3 dflt).rows) ((x0.rows.getD (Int.toNat x2.int) []).getD 4 dflt) ((x1.rows.getD (Int.toNat x2.int) []).getD 0 dflt) ((x1.rows.getD (Int.toNat x2.int) []).getD 1 dflt) ((x1.rows.getD (Int.toNat x2.int) []).getD 2 dflt) (T.l ((x1.rows.getD (Int.toNat x2.int) []).getD 3 dflt).rows) ((x1.rows.getD (Int.toNat x2.int) []).getD 4 dflt)
    (fun y0 => cond (!y0.bool)
    (k0 (T.b false))
    (laws_eqWordS_L0_0 m n x0 x1 (T.i (IntKind.i64.wrap (x2.int + 1))) k0 k1)))
    (.bad))
    (.bad))
    (k1 )
noncomputable def laws_eqWordS_s0_0 : Pack := ⟨[(0, .one ⟨.sn [], .sl [.sc (.int .i64), .sc (.int .i64), .sc (.int .i64), .sl [.sc (.int .i64), .sc (.str), .sc (.str)], .sc (.bool)], .l []⟩), (1, .one ⟨.sn [], .sl [.sc (.int .i64), .sc (.int .i64), .sc (.int .i64), .sl [.sc (.int .i64), .sc (.str), .sc (.str)], .sc (.bool)], .l []⟩), (5, .one ⟨.sc, .sc (.int .i64), .l []⟩)], []⟩
noncomputable def laws_eqWordS_e0_0 : Pack := ⟨[(4, .one ⟨.sc, .sc (.bool), .l []⟩)], []⟩
noncomputable def laws_eqWordS_e0_1 : Pack := ⟨[], []⟩
noncomputable def laws_eqWordS_L0_0w (m n : Nat) (vs : List T) (k : Ctl → Pack → An) : An := laws_eqWordS_L0_0 m n (vs.headD dflt) (vs.tail.headD dflt) (vs.tail.tail.headD dflt) (fun z0 => k .ret (fPack laws_eqWordS_e0_0 [z0])) (k (.exit 0) (fPack laws_eqWordS_e0_1 []))
noncomputable def laws_eqWordS : Nat → T → T → (T → An) → An
  | 0, _, _, _ => .bad
  | m + 1, x0, x1, k0 =>
    cond ((x0.rows.length : Int) != (x1.rows.length : Int))
    (k0 (T.b false))
    (laws_eqWordS_L0_0 m m (T.l x0.rows) (T.l x1.rows) (T.i 0)
    (fun y1 => k0 y1)
    (k0 (T.b true)))
noncomputable def laws_eqWordS_a : List Arg := [.one (.fz [.sc (.int .i64), .sc (.int .i64), .sc (.int .i64), .sl [.sc (.int .i64), .sc (.str), .sc (.str)], .sc (.bool)] []), .one (.fz [.sc (.int .i64), .sc (.int .i64), .sc (.int .i64), .sl [.sc (.int .i64), .sc (.str), .sc (.str)], .sc (.bool)] [])]
noncomputable def laws_eqWordS_w (m : Nat) (vs : List T) (k : Ret → An) : An := laws_eqWordS m (vs.headD dflt) (vs.tail.headD dflt) (fun z0 => k ⟨[.one (.sc (.bool) z0)], [[none], [none]]⟩)
theorem laws_eqWordS_cf (m : Nat) : callK CX prims m = (patC 102 laws_eqWord_a (laws_eqWord_w m) (callK CX prims m)) := by
  rw [← patC_eq (fun vs k => laws_eqWord_eq m vs k)]
noncomputable def laws_eqWordS_c : Code := (Try.f55.body).getD .skip
noncomputable def laws_eqWordS_fi : Fi := ⟨55, 2, 27, 16⟩
theorem laws_eqWordS_lf (m : Nat) : ∀ n, (∀ vs k, loopK CX (callK CX prims m) laws_eqWordS_fi laws_eqWordS_c n [0, 1, 0, 1, 1] (fPack laws_eqWordS_s0_0 vs) k = laws_eqWordS_L0_0w m n vs k) ∧ ((loopK CX (callK CX prims m) laws_eqWordS_fi laws_eqWordS_c n) = (patL [0, 1, 0, 1, 1] laws_eqWordS_s0_0 (laws_eqWordS_L0_0w m n) (loopK CX (callK CX prims m) laws_eqWordS_fi laws_eqWordS_c n))) := by
  intro n
  have hl : ∀ n, (∀ vs k, loopK CX (callK CX prims m) laws_eqWordS_fi laws_eqWordS_c n [0, 1, 0, 1, 1] (fPack laws_eqWordS_s0_0 vs) k = laws_eqWordS_L0_0w m n vs k) → ((loopK CX (callK CX prims m) laws_eqWordS_fi laws_eqWordS_c n) = (patL [0, 1, 0, 1, 1] laws_eqWordS_s0_0 (laws_eqWordS_L0_0w m n) (loopK CX (callK CX prims m) laws_eqWordS_fi laws_eqWordS_c n))) := by
    intro n h0
    rw [← patL_eq h0]
  induction n with
  | zero => exact ⟨fun vs k => rfl, hl 0 (fun vs k => rfl)⟩
  | succ n ihn =>
    have hn := ihn.2
    have h0 : ∀ vs k, loopK CX (callK CX prims m) laws_eqWordS_fi laws_eqWordS_c (n + 1) [0, 1, 0, 1, 1] (fPack laws_eqWordS_s0_0 vs) k = laws_eqWordS_L0_0w m (n + 1) vs k := fun vs k =>
      (stepL_congr (laws_eqWordS_cf m) hn [0, 1, 0, 1, 1] _ _).trans (by kernel_rfl)
    exact ⟨h0, hl (n + 1) h0⟩
theorem laws_eqWordS_eq (m : Nat) : ∀ vs k, callK CX prims m 55 (fArgs laws_eqWordS_a vs) k = laws_eqWordS_w m vs k := by
  cases m with
  | zero => exact fun vs k => rfl
  | succ m => exact fun vs k => Eq.trans (b := bodyK CX (callK CX prims m) (loopK CX (callK CX prims m) laws_eqWordS_fi laws_eqWordS_c m) 55 Try.f55 laws_eqWordS_c (fArgs laws_eqWordS_a vs) k) (by kernel_rfl) ((bodyK_congr (laws_eqWordS_cf m) ((laws_eqWordS_lf m m).2) 55 Try.f55 laws_eqWordS_c (fArgs laws_eqWordS_a vs) k).trans (by kernel_rfl))

/-! loop.example/g00244/laws.eqOrder -/
noncomputable def laws_eqOrder : Nat → T → T → T → T → (T → An) → An
  | 0, _, _, _, _, _ => .bad
  | m + 1, x0, x1, x2, x3, k0 =>
    cond (x0.int != x2.int)
    (k0 (T.b false))
    (laws_eqOpS m (T.l x1.rows) (T.l x3.rows)
    (fun y0 => cond (!y0.bool)
    (k0 (T.b false))
    (k0 (T.b true))))
noncomputable def laws_eqOrder_a : List Arg := [.agg [.sc (.int .i64) (.l []), .fz [.sc (.int .i64), .sc (.str), .sc (.str)] []], .agg [.sc (.int .i64) (.l []), .fz [.sc (.int .i64), .sc (.str), .sc (.str)] []]]
noncomputable def laws_eqOrder_w (m : Nat) (vs : List T) (k : Ret → An) : An := laws_eqOrder m (vs.headD dflt) (vs.tail.headD dflt) (vs.tail.tail.headD dflt) (vs.tail.tail.tail.headD dflt) (fun z0 => k ⟨[.one (.sc (.bool) z0)], [[none, none], [none, none]]⟩)
theorem laws_eqOrder_cf (m : Nat) : callK CX prims m = (patC 141 laws_eqOpS_a (laws_eqOpS_w m) (callK CX prims m)) := by
  rw [← patC_eq (fun vs k => laws_eqOpS_eq m vs k)]
noncomputable def laws_eqOrder_c : Code := (Try.f103.body).getD .skip
noncomputable def laws_eqOrder_fi : Fi := ⟨103, 2, 16, 16⟩
theorem laws_eqOrder_eq (m : Nat) : ∀ vs k, callK CX prims m 103 (fArgs laws_eqOrder_a vs) k = laws_eqOrder_w m vs k := by
  cases m with
  | zero => exact fun vs k => rfl
  | succ m => exact fun vs k => Eq.trans (b := bodyK CX (callK CX prims m) (loopK CX (callK CX prims m) laws_eqOrder_fi laws_eqOrder_c m) 103 Try.f103 laws_eqOrder_c (fArgs laws_eqOrder_a vs) k) (by kernel_rfl) ((bodyK_congr (laws_eqOrder_cf m) rfl 103 Try.f103 laws_eqOrder_c (fArgs laws_eqOrder_a vs) k).trans (by kernel_rfl))

/-! loop.example/g00244/laws.eqOrderS -/
noncomputable def laws_eqOrderS_L0_0 (m : Nat) : Nat → T → T → T → (T → An) → An → An
  | 0, _, _, _, _, _ => .bad
  | n + 1, x0, x1, x2, k0, k1 =>
    cond (decide (x2.int < (x0.rows.length : Int)))
    (cond (decide (0 ≤ x2.int ∧ x2.int < (x0.rows.length : Int)))
    (cond (decide (0 ≤ x2.int ∧ x2.int < (x1.rows.length : Int)))
    (laws_eqOrder m ((x0.rows.getD (Int.toNat x2.int) []).getD 0 dflt) (T.l ((x0.rows.getD (Int.toNat x2.int) []).getD 1 dflt).rows) ((x1.rows.getD (Int.toNat x2.int) []).getD 0 dflt) (T.l ((x1.rows.getD (Int.toNat x2.int) []).getD 1 dflt).rows)
    (fun y0 => cond (!y0.bool)
    (k0 (T.b false))
    (laws_eqOrderS_L0_0 m n x0 x1 (T.i (IntKind.i64.wrap (x2.int + 1))) k0 k1)))
    (.bad))
    (.bad))
    (k1 )
noncomputable def laws_eqOrderS_s0_0 : Pack := ⟨[(0, .one ⟨.sn [], .sl [.sc (.int .i64), .sl [.sc (.int .i64), .sc (.str), .sc (.str)]], .l []⟩), (1, .one ⟨.sn [], .sl [.sc (.int .i64), .sl [.sc (.int .i64), .sc (.str), .sc (.str)]], .l []⟩), (5, .one ⟨.sc, .sc (.int .i64), .l []⟩)], []⟩
noncomputable def laws_eqOrderS_e0_0 : Pack := ⟨[(4, .one ⟨.sc, .sc (.bool), .l []⟩)], []⟩
noncomputable def laws_eqOrderS_e0_1 : Pack := ⟨[], []⟩
noncomputable def laws_eqOrderS_L0_0w (m n : Nat) (vs : List T) (k : Ctl → Pack → An) : An := laws_eqOrderS_L0_0 m n (vs.headD dflt) (vs.tail.headD dflt) (vs.tail.tail.headD dflt) (fun z0 => k .ret (fPack laws_eqOrderS_e0_0 [z0])) (k (.exit 0) (fPack laws_eqOrderS_e0_1 []))
noncomputable def laws_eqOrderS : Nat → T → T → (T → An) → An
  | 0, _, _, _ => .bad
  | m + 1, x0, x1, k0 =>
    cond ((x0.rows.length : Int) != (x1.rows.length : Int))
    (k0 (T.b false))
    (laws_eqOrderS_L0_0 m m (T.l x0.rows) (T.l x1.rows) (T.i 0)
    (fun y1 => k0 y1)
    (k0 (T.b true)))
noncomputable def laws_eqOrderS_a : List Arg := [.one (.fz [.sc (.int .i64), .sl [.sc (.int .i64), .sc (.str), .sc (.str)]] []), .one (.fz [.sc (.int .i64), .sl [.sc (.int .i64), .sc (.str), .sc (.str)]] [])]
noncomputable def laws_eqOrderS_w (m : Nat) (vs : List T) (k : Ret → An) : An := laws_eqOrderS m (vs.headD dflt) (vs.tail.headD dflt) (fun z0 => k ⟨[.one (.sc (.bool) z0)], [[none], [none]]⟩)
theorem laws_eqOrderS_cf (m : Nat) : callK CX prims m = (patC 103 laws_eqOrder_a (laws_eqOrder_w m) (callK CX prims m)) := by
  rw [← patC_eq (fun vs k => laws_eqOrder_eq m vs k)]
noncomputable def laws_eqOrderS_c : Code := (Try.f56.body).getD .skip
noncomputable def laws_eqOrderS_fi : Fi := ⟨56, 2, 27, 16⟩
theorem laws_eqOrderS_lf (m : Nat) : ∀ n, (∀ vs k, loopK CX (callK CX prims m) laws_eqOrderS_fi laws_eqOrderS_c n [0, 1, 0, 1, 1] (fPack laws_eqOrderS_s0_0 vs) k = laws_eqOrderS_L0_0w m n vs k) ∧ ((loopK CX (callK CX prims m) laws_eqOrderS_fi laws_eqOrderS_c n) = (patL [0, 1, 0, 1, 1] laws_eqOrderS_s0_0 (laws_eqOrderS_L0_0w m n) (loopK CX (callK CX prims m) laws_eqOrderS_fi laws_eqOrderS_c n))) := by
  intro n
  have hl : ∀ n, (∀ vs k, loopK CX (callK CX prims m) laws_eqOrderS_fi laws_eqOrderS_c n [0, 1, 0, 1, 1] (fPack laws_eqOrderS_s0_0 vs) k = laws_eqOrderS_L0_0w m n vs k) → ((loopK CX (callK CX prims m) laws_eqOrderS_fi laws_eqOrderS_c n) = (patL [0, 1, 0, 1, 1] laws_eqOrderS_s0_0 (laws_eqOrderS_L0_0w m n) (loopK CX (callK CX prims m) laws_eqOrderS_fi laws_eqOrderS_c n))) := by
    intro n h0
    rw [← patL_eq h0]
  induction n with
  | zero => exact ⟨fun vs k => rfl, hl 0 (fun vs k => rfl)⟩
  | succ n ihn =>
    have hn := ihn.2
    have h0 : ∀ vs k, loopK CX (callK CX prims m) laws_eqOrderS_fi laws_eqOrderS_c (n + 1) [0, 1, 0, 1, 1] (fPack laws_eqOrderS_s0_0 vs) k = laws_eqOrderS_L0_0w m (n + 1) vs k := fun vs k =>
      (stepL_congr (laws_eqOrderS_cf m) hn [0, 1, 0, 1, 1] _ _).trans (by kernel_rfl)
    exact ⟨h0, hl (n + 1) h0⟩
theorem laws_eqOrderS_eq (m : Nat) : ∀ vs k, callK CX prims m 56 (fArgs laws_eqOrderS_a vs) k = laws_eqOrderS_w m vs k := by
  cases m with
  | zero => exact fun vs k => rfl
  | succ m => exact fun vs k => Eq.trans (b := bodyK CX (callK CX prims m) (loopK CX (callK CX prims m) laws_eqOrderS_fi laws_eqOrderS_c m) 56 Try.f56 laws_eqOrderS_c (fArgs laws_eqOrderS_a vs) k) (by kernel_rfl) ((bodyK_congr (laws_eqOrderS_cf m) ((laws_eqOrderS_lf m m).2) 56 Try.f56 laws_eqOrderS_c (fArgs laws_eqOrderS_a vs) k).trans (by kernel_rfl))

/-! loop.example/g00244/laws.eqWorld -/
noncomputable def laws_eqWorld : Nat → T → T → T → T → T → T → T → T → T → T → T → T → T → T → T → T → T → T → T → T → (T → An) → An
  | 0, _, _, _, _, _, _, _, _, _, _, _, _, _, _, _, _, _, _, _, _, _ => .bad
  | m + 1, x0, x1, x2, x3, x4, x5, x6, x7, x8, x9, x10, x11, x12, x13, x14, x15, x16, x17, x18, x19, k0 =>
    laws_eqCoord m x0 x1 x2 (T.l x3.rows) (T.l x4.rows) x5 x10 x11 x12 (T.l x13.rows) (T.l x14.rows) x15
    (fun y0 => cond (!y0.bool)
    (k0 (T.b false))
    (laws_eqShardS m (T.l x6.rows) (T.l x16.rows)
    (fun y1 => cond (!y1.bool)
    (k0 (T.b false))
    (laws_eqWordS m (T.l x7.rows) (T.l x17.rows)
    (fun y2 => cond (!y2.bool)
    (k0 (T.b false))
    (laws_eqWordS m (T.l x8.rows) (T.l x18.rows)
    (fun y3 => cond (!y3.bool)
    (k0 (T.b false))
    (laws_eqOrderS m (T.l x9.rows) (T.l x19.rows)
    (fun y4 => cond (!y4.bool)
    (k0 (T.b false))
    (k0 (T.b true)))))))))))
noncomputable def laws_eqWorld_a : List Arg := [.agg [.sc (.int .i64) (.l []), .sc (.int .i64) (.l []), .sc (.int .i64) (.l []), .fz [.sc (.int .i64), .sl [.sc (.int .i64), .sc (.str), .sc (.str)], .sc (.int .i64), .sl [.sc (.int .i64)]] [], .fz [.sc (.int .i64), .sc (.bool)] [], .sc (.int .i64) (.l []), .fz [.sc (.int .i64), .sl [.sc (.int .i64), .sc (.int .i64), .sl [.sc (.int .i64), .sc (.str), .sc (.str)]], .sc (.int .i64), .sl [.sc (.str), .sc (.str)], .sl [.sc (.int .i64), .sc (.int .i64), .sl [.sc (.int .i64), .sc (.str), .sc (.str)]]] [], .fz [.sc (.int .i64), .sc (.int .i64), .sc (.int .i64), .sl [.sc (.int .i64), .sc (.str), .sc (.str)], .sc (.bool)] [], .fz [.sc (.int .i64), .sc (.int .i64), .sc (.int .i64), .sl [.sc (.int .i64), .sc (.str), .sc (.str)], .sc (.bool)] [], .fz [.sc (.int .i64), .sl [.sc (.int .i64), .sc (.str), .sc (.str)]] []], .agg [.sc (.int .i64) (.l []), .sc (.int .i64) (.l []), .sc (.int .i64) (.l []), .fz [.sc (.int .i64), .sl [.sc (.int .i64), .sc (.str), .sc (.str)], .sc (.int .i64), .sl [.sc (.int .i64)]] [], .fz [.sc (.int .i64), .sc (.bool)] [], .sc (.int .i64) (.l []), .fz [.sc (.int .i64), .sl [.sc (.int .i64), .sc (.int .i64), .sl [.sc (.int .i64), .sc (.str), .sc (.str)]], .sc (.int .i64), .sl [.sc (.str), .sc (.str)], .sl [.sc (.int .i64), .sc (.int .i64), .sl [.sc (.int .i64), .sc (.str), .sc (.str)]]] [], .fz [.sc (.int .i64), .sc (.int .i64), .sc (.int .i64), .sl [.sc (.int .i64), .sc (.str), .sc (.str)], .sc (.bool)] [], .fz [.sc (.int .i64), .sc (.int .i64), .sc (.int .i64), .sl [.sc (.int .i64), .sc (.str), .sc (.str)], .sc (.bool)] [], .fz [.sc (.int .i64), .sl [.sc (.int .i64), .sc (.str), .sc (.str)]] []]]
noncomputable def laws_eqWorld_w (m : Nat) (vs : List T) (k : Ret → An) : An := laws_eqWorld m (vs.headD dflt) (vs.tail.headD dflt) (vs.tail.tail.headD dflt) (vs.tail.tail.tail.headD dflt) (vs.tail.tail.tail.tail.headD dflt) (vs.tail.tail.tail.tail.tail.headD dflt) (vs.tail.tail.tail.tail.tail.tail.headD dflt) (vs.tail.tail.tail.tail.tail.tail.tail.headD dflt) (vs.tail.tail.tail.tail.tail.tail.tail.tail.headD dflt) (vs.tail.tail.tail.tail.tail.tail.tail.tail.tail.headD dflt) (vs.tail.tail.tail.tail.tail.tail.tail.tail.tail.tail.headD dflt) (vs.tail.tail.tail.tail.tail.tail.tail.tail.tail.tail.tail.headD dflt) (vs.tail.tail.tail.tail.tail.tail.tail.tail.tail.tail.tail.tail.headD dflt) (vs.tail.tail.tail.tail.tail.tail.tail.tail.tail.tail.tail.tail.tail.headD dflt) (vs.tail.tail.tail.tail.tail.tail.tail.tail.tail.tail.tail.tail.tail.tail.headD dflt) (vs.tail.tail.tail.tail.tail.tail.tail.tail.tail.tail.tail.tail.tail.tail.tail.headD dflt) (vs.tail.tail.tail.tail.tail.tail.tail.tail.tail.tail.tail.tail.tail.tail.tail.tail.headD dflt) (vs.tail.tail.tail.tail.tail.tail.tail.tail.tail.tail.tail.tail.tail.tail.tail.tail.tail.headD dflt) (vs.tail.tail.tail.tail.tail.tail.tail.tail.tail.tail.tail.tail.tail.tail.tail.tail.tail.tail.headD dflt) (vs.tail.tail.tail.tail.tail.tail.tail.tail.tail.tail.tail.tail.tail.tail.tail.tail.tail.tail.tail.headD dflt) (fun z0 => k ⟨[.one (.sc (.bool) z0)], [[none, none, none, none, none, none, none, none, none, none], [none, none, none, none, none, none, none, none, none, none]]⟩)
theorem laws_eqWorld_cf (m : Nat) : callK CX prims m = (patC 53 laws_eqCoord_a (laws_eqCoord_w m) (patC 54 laws_eqShardS_a (laws_eqShardS_w m) (patC 55 laws_eqWordS_a (laws_eqWordS_w m) (patC 56 laws_eqOrderS_a (laws_eqOrderS_w m) (callK CX prims m))))) := by
  rw [← patC_eq (fun vs k => laws_eqOrderS_eq m vs k), ← patC_eq (fun vs k => laws_eqWordS_eq m vs k), ← patC_eq (fun vs k => laws_eqShardS_eq m vs k), ← patC_eq (fun vs k => laws_eqCoord_eq m vs k)]
noncomputable def laws_eqWorld_c : Code := (Try.f14.body).getD .skip
noncomputable def laws_eqWorld_fi : Fi := ⟨14, 2, 35, 16⟩
theorem laws_eqWorld_eq (m : Nat) : ∀ vs k, callK CX prims m 14 (fArgs laws_eqWorld_a vs) k = laws_eqWorld_w m vs k := by
  cases m with
  | zero => exact fun vs k => rfl
  | succ m => exact fun vs k => Eq.trans (b := bodyK CX (callK CX prims m) (loopK CX (callK CX prims m) laws_eqWorld_fi laws_eqWorld_c m) 14 Try.f14 laws_eqWorld_c (fArgs laws_eqWorld_a vs) k) (by kernel_rfl) ((bodyK_congr (laws_eqWorld_cf m) rfl 14 Try.f14 laws_eqWorld_c (fArgs laws_eqWorld_a vs) k).trans (by kernel_rfl))

/-! loop.example/g00244/laws.FnExactOpen -/
noncomputable def laws_FnExactOpen : Nat → T → T → T → T → T → T → T → T → T → T → (T → An) → An
  | 0, _, _, _, _, _, _, _, _, _, _, _ => .bad
  | m + 1, x0, x1, x2, x3, x4, x5, x6, x7, x8, x9, k0 =>
    laws_szWorld m x0 x1 x2 (T.l x3.rows) (T.l x4.rows) x5 (T.l x6.rows) (T.l x7.rows) (T.l x8.rows) (T.l x9.rows) (T.i 1048576)
    (fun y0 => cond (decide (y0.int < 0))
    (k0 (T.b true))
    (laws_toWorld m x0 x1 x2 (T.l x3.rows) (T.l x4.rows) x5 (T.l x6.rows) (T.l x7.rows) (T.l x8.rows) (T.l x9.rows)
    (fun y1 y2 y3 y4 y5 y6 y7 y8 y9 y10 => spec_Open m y1 y2 y3 (T.l y4.rows) (T.l y5.rows) y6 (T.l y7.rows) (T.l y8.rows) (T.l y9.rows) (T.l y10.rows)
    (fun y11 => laws_toWorld m x0 x1 x2 (T.l x3.rows) (T.l x4.rows) x5 (T.l x6.rows) (T.l x7.rows) (T.l x8.rows) (T.l x9.rows)
    (fun y12 y13 y14 y15 y16 y17 y18 y19 y20 y21 => impl_Open m y12 y13 y14 (T.l y15.rows) (T.l y16.rows) y17 (T.l y18.rows) (T.l y19.rows) (T.l y20.rows) (T.l y21.rows)
    (fun y22 => cond (y22.int != y11.int)
    (k0 (T.b false))
    (laws_toWorld m x0 x1 x2 (T.l x3.rows) (T.l x4.rows) x5 (T.l x6.rows) (T.l x7.rows) (T.l x8.rows) (T.l x9.rows)
    (fun y23 y24 y25 y26 y27 y28 y29 y30 y31 y32 => laws_eqWorld m y12 y13 y14 (T.l y15.rows) (T.l y16.rows) y17 (T.l y18.rows) (T.l y19.rows) (T.l y20.rows) (T.l y21.rows) y23 y24 y25 (T.l y26.rows) (T.l y27.rows) y28 (T.l y29.rows) (T.l y30.rows) (T.l y31.rows) (T.l y32.rows)
    (fun y33 => cond (!y33.bool)
    (k0 (T.b false))
    (k0 (T.b true)))))))))))
noncomputable def laws_FnExactOpen_a : List Arg := [.agg [.sc (.int .i64) (.l []), .sc (.int .i64) (.l []), .sc (.int .i64) (.l []), .fz [.sc (.int .i64), .sl [.sc (.int .i64), .sc (.str), .sc (.str)], .sc (.int .i64), .sl [.sc (.int .i64)]] [], .fz [.sc (.int .i64), .sc (.bool)] [], .sc (.int .i64) (.l []), .fz [.sc (.int .i64), .sl [.sc (.int .i64), .sc (.int .i64), .sl [.sc (.int .i64), .sc (.str), .sc (.str)]], .sc (.int .i64), .sl [.sc (.str), .sc (.str)], .sl [.sc (.int .i64), .sc (.int .i64), .sl [.sc (.int .i64), .sc (.str), .sc (.str)]]] [], .fz [.sc (.int .i64), .sc (.int .i64), .sc (.int .i64), .sl [.sc (.int .i64), .sc (.str), .sc (.str)], .sc (.bool)] [], .fz [.sc (.int .i64), .sc (.int .i64), .sc (.int .i64), .sl [.sc (.int .i64), .sc (.str), .sc (.str)], .sc (.bool)] [], .fz [.sc (.int .i64), .sl [.sc (.int .i64), .sc (.str), .sc (.str)]] []]]
noncomputable def laws_FnExactOpen_w (m : Nat) (vs : List T) (k : Ret → An) : An := laws_FnExactOpen m (vs.headD dflt) (vs.tail.headD dflt) (vs.tail.tail.headD dflt) (vs.tail.tail.tail.headD dflt) (vs.tail.tail.tail.tail.headD dflt) (vs.tail.tail.tail.tail.tail.headD dflt) (vs.tail.tail.tail.tail.tail.tail.headD dflt) (vs.tail.tail.tail.tail.tail.tail.tail.headD dflt) (vs.tail.tail.tail.tail.tail.tail.tail.tail.headD dflt) (vs.tail.tail.tail.tail.tail.tail.tail.tail.tail.headD dflt) (fun z0 => k ⟨[.one (.sc (.bool) z0)], [[none, none, none, none, none, none, none, none, none, none]]⟩)
theorem laws_FnExactOpen_cf (m : Nat) : callK CX prims m = (patC 10 laws_szWorld_a (laws_szWorld_w m) (patC 12 laws_toWorld_a (laws_toWorld_w m) (patC 11 spec_Open_a (spec_Open_w m) (patC 13 impl_Open_a (impl_Open_w m) (patC 14 laws_eqWorld_a (laws_eqWorld_w m) (callK CX prims m)))))) := by
  rw [← patC_eq (fun vs k => laws_eqWorld_eq m vs k), ← patC_eq (fun vs k => impl_Open_eq m vs k), ← patC_eq (fun vs k => spec_Open_eq m vs k), ← patC_eq (fun vs k => laws_toWorld_eq m vs k), ← patC_eq (fun vs k => laws_szWorld_eq m vs k)]
noncomputable def laws_FnExactOpen_c : Code := (Try.f3.body).getD .skip
noncomputable def laws_FnExactOpen_fi : Fi := ⟨3, 1, 27, 4⟩
theorem laws_FnExactOpen_eq (m : Nat) : ∀ vs k, callK CX prims m 3 (fArgs laws_FnExactOpen_a vs) k = laws_FnExactOpen_w m vs k := by
  cases m with
  | zero => exact fun vs k => rfl
  | succ m => exact fun vs k => Eq.trans (b := bodyK CX (callK CX prims m) (loopK CX (callK CX prims m) laws_FnExactOpen_fi laws_FnExactOpen_c m) 3 Try.f3 laws_FnExactOpen_c (fArgs laws_FnExactOpen_a vs) k) (by kernel_rfl) ((bodyK_congr (laws_FnExactOpen_cf m) rfl 3 Try.f3 laws_FnExactOpen_c (fArgs laws_FnExactOpen_a vs) k).trans (by kernel_rfl))

/-! loop.example/g00244/spec.Resting -/
noncomputable def spec_Resting_L1_0 (m : Nat) : Nat → T → T → T → T → T → T → T → T → T → T → T → T → (T → An) → (T → T → T → T → T → T → T → T → T → T → T → An) → An
  | 0, _, _, _, _, _, _, _, _, _, _, _, _, _, _ => .bad
  | n + 1, x0, x1, x2, x3, x4, x5, x6, x7, x8, x9, x10, x11, k0, k1 =>
    cond (decide (x1.int < (x5.rows.length : Int)))
    (cond (decide (0 ≤ x1.int ∧ x1.int < (x5.rows.length : Int)))
    (cond ((((x5.rows.getD (Int.toNat x1.int) []).drop 2).getD 0 dflt).int == 1)
    (k0 (T.b false))
    (spec_Resting_L1_0 m n (T.i (x0.int.toNat : Int)) (T.i (IntKind.i64.wrap (x1.int + 1))) x2 x3 x4 x5 x6 x7 x8 x9 x10 x11 k0 k1))
    (.bad))
    (k1 (T.i (x0.int.toNat : Int)) x2 x3 x4 x5 x6 x7 x8 x9 x10 x11)
noncomputable def spec_Resting_s1_0 : Pack := ⟨[(1, .ptr [1000000, 0] 0 0 0), (4, .one ⟨.sc, .sc (.int .i64), .l []⟩)], [([1000000, 0], .box [⟨.sc, .sc (.int .i64), .l []⟩, ⟨.sc, .sc (.int .i64), .l []⟩, ⟨.sc, .sc (.int .i64), .l []⟩, ⟨.sn [], .sl [.sc (.int .i64), .sl [.sc (.int .i64), .sc (.str), .sc (.str)], .sc (.int .i64), .sl [.sc (.int .i64)]], .l []⟩, ⟨.sn [], .sl [.sc (.int .i64), .sc (.bool)], .l []⟩, ⟨.sc, .sc (.int .i64), .l []⟩, ⟨.sn [], .sl [.sc (.int .i64), .sl [.sc (.int .i64), .sc (.int .i64), .sl [.sc (.int .i64), .sc (.str), .sc (.str)]], .sc (.int .i64), .sl [.sc (.str), .sc (.str)], .sl [.sc (.int .i64), .sc (.int .i64), .sl [.sc (.int .i64), .sc (.str), .sc (.str)]]], .l []⟩, ⟨.sn [], .sl [.sc (.int .i64), .sc (.int .i64), .sc (.int .i64), .sl [.sc (.int .i64), .sc (.str), .sc (.str)], .sc (.bool)], .l []⟩, ⟨.sn [], .sl [.sc (.int .i64), .sc (.int .i64), .sc (.int .i64), .sl [.sc (.int .i64), .sc (.str), .sc (.str)], .sc (.bool)], .l []⟩, ⟨.sn [], .sl [.sc (.int .i64), .sl [.sc (.int .i64), .sc (.str), .sc (.str)]], .l []⟩])]⟩
noncomputable def spec_Resting_e1_0 : Pack := ⟨[(2, .one ⟨.sc, .sc (.bool), .l []⟩)], []⟩
noncomputable def spec_Resting_e1_1 : Pack := ⟨[(1, .ptr [1000000, 0] 0 0 0)], [([1000000, 0], .box [⟨.sc, .sc (.int .i64), .l []⟩, ⟨.sc, .sc (.int .i64), .l []⟩, ⟨.sc, .sc (.int .i64), .l []⟩, ⟨.sn [], .sl [.sc (.int .i64), .sl [.sc (.int .i64), .sc (.str), .sc (.str)], .sc (.int .i64), .sl [.sc (.int .i64)]], .l []⟩, ⟨.sn [], .sl [.sc (.int .i64), .sc (.bool)], .l []⟩, ⟨.sc, .sc (.int .i64), .l []⟩, ⟨.sn [], .sl [.sc (.int .i64), .sl [.sc (.int .i64), .sc (.int .i64), .sl [.sc (.int .i64), .sc (.str), .sc (.str)]], .sc (.int .i64), .sl [.sc (.str), .sc (.str)], .sl [.sc (.int .i64), .sc (.int .i64), .sl [.sc (.int .i64), .sc (.str), .sc (.str)]]], .l []⟩, ⟨.sn [], .sl [.sc (.int .i64), .sc (.int .i64), .sc (.int .i64), .sl [.sc (.int .i64), .sc (.str), .sc (.str)], .sc (.bool)], .l []⟩, ⟨.sn [], .sl [.sc (.int .i64), .sc (.int .i64), .sc (.int .i64), .sl [.sc (.int .i64), .sc (.str), .sc (.str)], .sc (.bool)], .l []⟩, ⟨.sn [], .sl [.sc (.int .i64), .sl [.sc (.int .i64), .sc (.str), .sc (.str)]], .l []⟩])]⟩
noncomputable def spec_Resting_L1_0w (m n : Nat) (vs : List T) (k : Ctl → Pack → An) : An := spec_Resting_L1_0 m n (vs.headD dflt) (vs.tail.headD dflt) (vs.tail.tail.headD dflt) (vs.tail.tail.tail.headD dflt) (vs.tail.tail.tail.tail.headD dflt) (vs.tail.tail.tail.tail.tail.headD dflt) (vs.tail.tail.tail.tail.tail.tail.headD dflt) (vs.tail.tail.tail.tail.tail.tail.tail.headD dflt) (vs.tail.tail.tail.tail.tail.tail.tail.tail.headD dflt) (vs.tail.tail.tail.tail.tail.tail.tail.tail.tail.headD dflt) (vs.tail.tail.tail.tail.tail.tail.tail.tail.tail.tail.headD dflt) (vs.tail.tail.tail.tail.tail.tail.tail.tail.tail.tail.tail.headD dflt) (fun z0 => k .ret (fPack spec_Resting_e1_0 [z0])) (fun z0 z1 z2 z3 z4 z5 z6 z7 z8 z9 z10 => k (.exit 2) (fPack spec_Resting_e1_1 [z0, z1, z2, z3, z4, z5, z6, z7, z8, z9, z10]))
noncomputable def spec_Resting_L0_0 (m : Nat) : Nat → T → T → T → T → T → T → T → T → T → T → T → T → (T → An) → (T → T → T → T → T → T → T → T → T → T → T → An) → An
  | 0, _, _, _, _, _, _, _, _, _, _, _, _, _, _ => .bad
  | n + 1, x0, x1, x2, x3, x4, x5, x6, x7, x8, x9, x10, x11, k0, k1 =>
    cond (decide (x1.int < (x8.rows.length : Int)))
    (cond (decide (0 ≤ x1.int ∧ x1.int < (x8.rows.length : Int)))
    (cond (decide (((((x8.rows.getD (Int.toNat x1.int) []).drop 4).getD 0 dflt).rows.length : Int) > 0))
    (k0 (T.b false))
    (spec_Resting_L0_0 m n (T.i (x0.int.toNat : Int)) (T.i (IntKind.i64.wrap (x1.int + 1))) x2 x3 x4 x5 x6 x7 x8 x9 x10 x11 k0 k1))
    (.bad))
    (k1 (T.i (x0.int.toNat : Int)) x2 x3 x4 x5 x6 x7 x8 x9 x10 x11)
noncomputable def spec_Resting_s0_0 : Pack := ⟨[(1, .ptr [1000000, 0] 0 0 0), (3, .one ⟨.sc, .sc (.int .i64), .l []⟩)], [([1000000, 0], .box [⟨.sc, .sc (.int .i64), .l []⟩, ⟨.sc, .sc (.int .i64), .l []⟩, ⟨.sc, .sc (.int .i64), .l []⟩, ⟨.sn [], .sl [.sc (.int .i64), .sl [.sc (.int .i64), .sc (.str), .sc (.str)], .sc (.int .i64), .sl [.sc (.int .i64)]], .l []⟩, ⟨.sn [], .sl [.sc (.int .i64), .sc (.bool)], .l []⟩, ⟨.sc, .sc (.int .i64), .l []⟩, ⟨.sn [], .sl [.sc (.int .i64), .sl [.sc (.int .i64), .sc (.int .i64), .sl [.sc (.int .i64), .sc (.str), .sc (.str)]], .sc (.int .i64), .sl [.sc (.str), .sc (.str)], .sl [.sc (.int .i64), .sc (.int .i64), .sl [.sc (.int .i64), .sc (.str), .sc (.str)]]], .l []⟩, ⟨.sn [], .sl [.sc (.int .i64), .sc (.int .i64), .sc (.int .i64), .sl [.sc (.int .i64), .sc (.str), .sc (.str)], .sc (.bool)], .l []⟩, ⟨.sn [], .sl [.sc (.int .i64), .sc (.int .i64), .sc (.int .i64), .sl [.sc (.int .i64), .sc (.str), .sc (.str)], .sc (.bool)], .l []⟩, ⟨.sn [], .sl [.sc (.int .i64), .sl [.sc (.int .i64), .sc (.str), .sc (.str)]], .l []⟩])]⟩
noncomputable def spec_Resting_e0_0 : Pack := ⟨[(2, .one ⟨.sc, .sc (.bool), .l []⟩)], []⟩
noncomputable def spec_Resting_e0_1 : Pack := ⟨[(1, .ptr [1000000, 0] 0 0 0)], [([1000000, 0], .box [⟨.sc, .sc (.int .i64), .l []⟩, ⟨.sc, .sc (.int .i64), .l []⟩, ⟨.sc, .sc (.int .i64), .l []⟩, ⟨.sn [], .sl [.sc (.int .i64), .sl [.sc (.int .i64), .sc (.str), .sc (.str)], .sc (.int .i64), .sl [.sc (.int .i64)]], .l []⟩, ⟨.sn [], .sl [.sc (.int .i64), .sc (.bool)], .l []⟩, ⟨.sc, .sc (.int .i64), .l []⟩, ⟨.sn [], .sl [.sc (.int .i64), .sl [.sc (.int .i64), .sc (.int .i64), .sl [.sc (.int .i64), .sc (.str), .sc (.str)]], .sc (.int .i64), .sl [.sc (.str), .sc (.str)], .sl [.sc (.int .i64), .sc (.int .i64), .sl [.sc (.int .i64), .sc (.str), .sc (.str)]]], .l []⟩, ⟨.sn [], .sl [.sc (.int .i64), .sc (.int .i64), .sc (.int .i64), .sl [.sc (.int .i64), .sc (.str), .sc (.str)], .sc (.bool)], .l []⟩, ⟨.sn [], .sl [.sc (.int .i64), .sc (.int .i64), .sc (.int .i64), .sl [.sc (.int .i64), .sc (.str), .sc (.str)], .sc (.bool)], .l []⟩, ⟨.sn [], .sl [.sc (.int .i64), .sl [.sc (.int .i64), .sc (.str), .sc (.str)]], .l []⟩])]⟩
noncomputable def spec_Resting_L0_0w (m n : Nat) (vs : List T) (k : Ctl → Pack → An) : An := spec_Resting_L0_0 m n (vs.headD dflt) (vs.tail.headD dflt) (vs.tail.tail.headD dflt) (vs.tail.tail.tail.headD dflt) (vs.tail.tail.tail.tail.headD dflt) (vs.tail.tail.tail.tail.tail.headD dflt) (vs.tail.tail.tail.tail.tail.tail.headD dflt) (vs.tail.tail.tail.tail.tail.tail.tail.headD dflt) (vs.tail.tail.tail.tail.tail.tail.tail.tail.headD dflt) (vs.tail.tail.tail.tail.tail.tail.tail.tail.tail.headD dflt) (vs.tail.tail.tail.tail.tail.tail.tail.tail.tail.tail.headD dflt) (vs.tail.tail.tail.tail.tail.tail.tail.tail.tail.tail.tail.headD dflt) (fun z0 => k .ret (fPack spec_Resting_e0_0 [z0])) (fun z0 z1 z2 z3 z4 z5 z6 z7 z8 z9 z10 => k (.exit 0) (fPack spec_Resting_e0_1 [z0, z1, z2, z3, z4, z5, z6, z7, z8, z9, z10]))
noncomputable def spec_Resting : Nat → T → T → T → T → T → T → T → T → T → T → (T → An) → An
  | 0, _, _, _, _, _, _, _, _, _, _, _ => .bad
  | m + 1, x0, x1, x2, x3, x4, x5, x6, x7, x8, x9, k0 =>
    spec_Resting_L0_0 m m (T.i 0) (T.i 0) x0 x1 x2 (T.l x3.rows) (T.l x4.rows) x5 (T.l x6.rows) (T.l x7.rows) (T.l x8.rows) (T.l x9.rows)
    (fun y0 => k0 y0)
    (fun y1 y2 y3 y4 y5 y6 y7 y8 y9 y10 y11 => spec_Resting_L1_0 m m (T.i (y1.int.toNat : Int)) (T.i 0) y2 y3 y4 y5 y6 y7 y8 y9 y10 y11
    (fun y12 => k0 y12)
    (fun y13 y14 y15 y16 y17 y18 y19 y20 y21 y22 y23 => k0 (T.b (y19.int == (y18.rows.length : Int)))))
noncomputable def spec_Resting_a : List Arg := [.agg [.sc (.int .i64) (.l []), .sc (.int .i64) (.l []), .sc (.int .i64) (.l []), .fz [.sc (.int .i64), .sl [.sc (.int .i64), .sc (.str), .sc (.str)], .sc (.int .i64), .sl [.sc (.int .i64)]] [], .fz [.sc (.int .i64), .sc (.bool)] [], .sc (.int .i64) (.l []), .fz [.sc (.int .i64), .sl [.sc (.int .i64), .sc (.int .i64), .sl [.sc (.int .i64), .sc (.str), .sc (.str)]], .sc (.int .i64), .sl [.sc (.str), .sc (.str)], .sl [.sc (.int .i64), .sc (.int .i64), .sl [.sc (.int .i64), .sc (.str), .sc (.str)]]] [], .fz [.sc (.int .i64), .sc (.int .i64), .sc (.int .i64), .sl [.sc (.int .i64), .sc (.str), .sc (.str)], .sc (.bool)] [], .fz [.sc (.int .i64), .sc (.int .i64), .sc (.int .i64), .sl [.sc (.int .i64), .sc (.str), .sc (.str)], .sc (.bool)] [], .fz [.sc (.int .i64), .sl [.sc (.int .i64), .sc (.str), .sc (.str)]] []]]
noncomputable def spec_Resting_w (m : Nat) (vs : List T) (k : Ret → An) : An := spec_Resting m (vs.headD dflt) (vs.tail.headD dflt) (vs.tail.tail.headD dflt) (vs.tail.tail.tail.headD dflt) (vs.tail.tail.tail.tail.headD dflt) (vs.tail.tail.tail.tail.tail.headD dflt) (vs.tail.tail.tail.tail.tail.tail.headD dflt) (vs.tail.tail.tail.tail.tail.tail.tail.headD dflt) (vs.tail.tail.tail.tail.tail.tail.tail.tail.headD dflt) (vs.tail.tail.tail.tail.tail.tail.tail.tail.tail.headD dflt) (fun z0 => k ⟨[.one (.sc (.bool) z0)], [[none, none, none, none, none, none, none, none, none, none]]⟩)
theorem spec_Resting_cf (m : Nat) : callK CX prims m = (callK CX prims m) := by
  rfl
noncomputable def spec_Resting_c : Code := (Try.f15.body).getD .skip
noncomputable def spec_Resting_fi : Fi := ⟨15, 1, 44, 4⟩
theorem spec_Resting_lf (m : Nat) : ∀ n, (∀ vs k, loopK CX (callK CX prims m) spec_Resting_fi spec_Resting_c n [0, 1, 0, 1] (fPack spec_Resting_s0_0 vs) k = spec_Resting_L0_0w m n vs k) ∧ (∀ vs k, loopK CX (callK CX prims m) spec_Resting_fi spec_Resting_c n [0, 1, 0, 1, 1] (fPack spec_Resting_s1_0 vs) k = spec_Resting_L1_0w m n vs k) ∧ ((loopK CX (callK CX prims m) spec_Resting_fi spec_Resting_c n) = (patL [0, 1, 0, 1] spec_Resting_s0_0 (spec_Resting_L0_0w m n) (patL [0, 1, 0, 1, 1] spec_Resting_s1_0 (spec_Resting_L1_0w m n) (loopK CX (callK CX prims m) spec_Resting_fi spec_Resting_c n)))) := by
  intro n
  have hl : ∀ n, (∀ vs k, loopK CX (callK CX prims m) spec_Resting_fi spec_Resting_c n [0, 1, 0, 1] (fPack spec_Resting_s0_0 vs) k = spec_Resting_L0_0w m n vs k) → (∀ vs k, loopK CX (callK CX prims m) spec_Resting_fi spec_Resting_c n [0, 1, 0, 1, 1] (fPack spec_Resting_s1_0 vs) k = spec_Resting_L1_0w m n vs k) → ((loopK CX (callK CX prims m) spec_Resting_fi spec_Resting_c n) = (patL [0, 1, 0, 1] spec_Resting_s0_0 (spec_Resting_L0_0w m n) (patL [0, 1, 0, 1, 1] spec_Resting_s1_0 (spec_Resting_L1_0w m n) (loopK CX (callK CX prims m) spec_Resting_fi spec_Resting_c n)))) := by
    intro n h0 h1
    rw [← patL_eq h1, ← patL_eq h0]
  induction n with
  | zero => exact ⟨fun vs k => rfl, fun vs k => rfl, hl 0 (fun vs k => rfl) (fun vs k => rfl)⟩
  | succ n ihn =>
    have hn := ihn.2.2
    have h0 : ∀ vs k, loopK CX (callK CX prims m) spec_Resting_fi spec_Resting_c (n + 1) [0, 1, 0, 1] (fPack spec_Resting_s0_0 vs) k = spec_Resting_L0_0w m (n + 1) vs k := fun vs k =>
      (stepL_congr (spec_Resting_cf m) hn [0, 1, 0, 1] _ _).trans (by kernel_rfl)
    have h1 : ∀ vs k, loopK CX (callK CX prims m) spec_Resting_fi spec_Resting_c (n + 1) [0, 1, 0, 1, 1] (fPack spec_Resting_s1_0 vs) k = spec_Resting_L1_0w m (n + 1) vs k := fun vs k =>
      (stepL_congr (spec_Resting_cf m) hn [0, 1, 0, 1, 1] _ _).trans (by kernel_rfl)
    exact ⟨h0, h1, hl (n + 1) h0 h1⟩
theorem spec_Resting_eq (m : Nat) : ∀ vs k, callK CX prims m 15 (fArgs spec_Resting_a vs) k = spec_Resting_w m vs k := by
  cases m with
  | zero => exact fun vs k => rfl
  | succ m => exact fun vs k => Eq.trans (b := bodyK CX (callK CX prims m) (loopK CX (callK CX prims m) spec_Resting_fi spec_Resting_c m) 15 Try.f15 spec_Resting_c (fArgs spec_Resting_a vs) k) (by kernel_rfl) ((bodyK_congr (spec_Resting_cf m) ((spec_Resting_lf m m).2.2) 15 Try.f15 spec_Resting_c (fArgs spec_Resting_a vs) k).trans (by kernel_rfl))

/-! loop.example/g00244/impl.Resting -/
noncomputable def impl_Resting : Nat → T → T → T → T → T → T → T → T → T → T → (T → An) → An
  | 0, _, _, _, _, _, _, _, _, _, _, _ => .bad
  | m + 1, x0, x1, x2, x3, x4, x5, x6, x7, x8, x9, k0 =>
    impl_World_holding m (T.l [[x0, x1, x2, (T.l x3.rows), (T.l x4.rows), x5, (T.l x6.rows), (T.l x7.rows), (T.l x8.rows), (T.l x9.rows)]])
    (fun y0 => cond ((y0.int == 0) == true)
    (impl_World_asking m (T.l [[x0, x1, x2, (T.l x3.rows), (T.l x4.rows), x5, (T.l x6.rows), (T.l x7.rows), (T.l x8.rows), (T.l x9.rows)]])
    (fun y1 => cond ((y1.int == 0) == true)
    (k0 (T.b (x5.int == (x4.rows.length : Int))))
    (k0 (T.b false))))
    (k0 (T.b false)))
noncomputable def impl_Resting_a : List Arg := [.agg [.sc (.int .i64) (.l []), .sc (.int .i64) (.l []), .sc (.int .i64) (.l []), .fz [.sc (.int .i64), .sl [.sc (.int .i64), .sc (.str), .sc (.str)], .sc (.int .i64), .sl [.sc (.int .i64)]] [], .fz [.sc (.int .i64), .sc (.bool)] [], .sc (.int .i64) (.l []), .fz [.sc (.int .i64), .sl [.sc (.int .i64), .sc (.int .i64), .sl [.sc (.int .i64), .sc (.str), .sc (.str)]], .sc (.int .i64), .sl [.sc (.str), .sc (.str)], .sl [.sc (.int .i64), .sc (.int .i64), .sl [.sc (.int .i64), .sc (.str), .sc (.str)]]] [], .fz [.sc (.int .i64), .sc (.int .i64), .sc (.int .i64), .sl [.sc (.int .i64), .sc (.str), .sc (.str)], .sc (.bool)] [], .fz [.sc (.int .i64), .sc (.int .i64), .sc (.int .i64), .sl [.sc (.int .i64), .sc (.str), .sc (.str)], .sc (.bool)] [], .fz [.sc (.int .i64), .sl [.sc (.int .i64), .sc (.str), .sc (.str)]] []]]
noncomputable def impl_Resting_w (m : Nat) (vs : List T) (k : Ret → An) : An := impl_Resting m (vs.headD dflt) (vs.tail.headD dflt) (vs.tail.tail.headD dflt) (vs.tail.tail.tail.headD dflt) (vs.tail.tail.tail.tail.headD dflt) (vs.tail.tail.tail.tail.tail.headD dflt) (vs.tail.tail.tail.tail.tail.tail.headD dflt) (vs.tail.tail.tail.tail.tail.tail.tail.headD dflt) (vs.tail.tail.tail.tail.tail.tail.tail.tail.headD dflt) (vs.tail.tail.tail.tail.tail.tail.tail.tail.tail.headD dflt) (fun z0 => k ⟨[.one (.sc (.bool) z0)], [[none, none, none, none, none, none, none, none, none, none]]⟩)
theorem impl_Resting_cf (m : Nat) : callK CX prims m = (patC 51 impl_World_holding_a (impl_World_holding_w m) (patC 52 impl_World_asking_a (impl_World_asking_w m) (callK CX prims m))) := by
  rw [← patC_eq (fun vs k => impl_World_asking_eq m vs k), ← patC_eq (fun vs k => impl_World_holding_eq m vs k)]
noncomputable def impl_Resting_c : Code := (Try.f16.body).getD .skip
noncomputable def impl_Resting_fi : Fi := ⟨16, 1, 19, 4⟩
theorem impl_Resting_eq (m : Nat) : ∀ vs k, callK CX prims m 16 (fArgs impl_Resting_a vs) k = impl_Resting_w m vs k := by
  cases m with
  | zero => exact fun vs k => rfl
  | succ m => exact fun vs k => Eq.trans (b := bodyK CX (callK CX prims m) (loopK CX (callK CX prims m) impl_Resting_fi impl_Resting_c m) 16 Try.f16 impl_Resting_c (fArgs impl_Resting_a vs) k) (by kernel_rfl) ((bodyK_congr (impl_Resting_cf m) rfl 16 Try.f16 impl_Resting_c (fArgs impl_Resting_a vs) k).trans (by kernel_rfl))

/-! loop.example/g00244/laws.FnExactResting -/
noncomputable def laws_FnExactResting : Nat → T → T → T → T → T → T → T → T → T → T → (T → An) → An
  | 0, _, _, _, _, _, _, _, _, _, _, _ => .bad
  | m + 1, x0, x1, x2, x3, x4, x5, x6, x7, x8, x9, k0 =>
    laws_szWorld m x0 x1 x2 (T.l x3.rows) (T.l x4.rows) x5 (T.l x6.rows) (T.l x7.rows) (T.l x8.rows) (T.l x9.rows) (T.i 1048576)
    (fun y0 => cond (decide (y0.int < 0))
    (k0 (T.b true))
    (laws_toWorld m x0 x1 x2 (T.l x3.rows) (T.l x4.rows) x5 (T.l x6.rows) (T.l x7.rows) (T.l x8.rows) (T.l x9.rows)
    (fun y1 y2 y3 y4 y5 y6 y7 y8 y9 y10 => spec_Resting m y1 y2 y3 (T.l y4.rows) (T.l y5.rows) y6 (T.l y7.rows) (T.l y8.rows) (T.l y9.rows) (T.l y10.rows)
    (fun y11 => laws_toWorld m x0 x1 x2 (T.l x3.rows) (T.l x4.rows) x5 (T.l x6.rows) (T.l x7.rows) (T.l x8.rows) (T.l x9.rows)
    (fun y12 y13 y14 y15 y16 y17 y18 y19 y20 y21 => impl_Resting m y12 y13 y14 (T.l y15.rows) (T.l y16.rows) y17 (T.l y18.rows) (T.l y19.rows) (T.l y20.rows) (T.l y21.rows)
    (fun y22 => cond (!(y22.bool == y11.bool))
    (k0 (T.b false))
    (laws_toWorld m x0 x1 x2 (T.l x3.rows) (T.l x4.rows) x5 (T.l x6.rows) (T.l x7.rows) (T.l x8.rows) (T.l x9.rows)
    (fun y23 y24 y25 y26 y27 y28 y29 y30 y31 y32 => laws_eqWorld m y12 y13 y14 (T.l y15.rows) (T.l y16.rows) y17 (T.l y18.rows) (T.l y19.rows) (T.l y20.rows) (T.l y21.rows) y23 y24 y25 (T.l y26.rows) (T.l y27.rows) y28 (T.l y29.rows) (T.l y30.rows) (T.l y31.rows) (T.l y32.rows)
    (fun y33 => cond (!y33.bool)
    (k0 (T.b false))
    (k0 (T.b true)))))))))))
noncomputable def laws_FnExactResting_a : List Arg := [.agg [.sc (.int .i64) (.l []), .sc (.int .i64) (.l []), .sc (.int .i64) (.l []), .fz [.sc (.int .i64), .sl [.sc (.int .i64), .sc (.str), .sc (.str)], .sc (.int .i64), .sl [.sc (.int .i64)]] [], .fz [.sc (.int .i64), .sc (.bool)] [], .sc (.int .i64) (.l []), .fz [.sc (.int .i64), .sl [.sc (.int .i64), .sc (.int .i64), .sl [.sc (.int .i64), .sc (.str), .sc (.str)]], .sc (.int .i64), .sl [.sc (.str), .sc (.str)], .sl [.sc (.int .i64), .sc (.int .i64), .sl [.sc (.int .i64), .sc (.str), .sc (.str)]]] [], .fz [.sc (.int .i64), .sc (.int .i64), .sc (.int .i64), .sl [.sc (.int .i64), .sc (.str), .sc (.str)], .sc (.bool)] [], .fz [.sc (.int .i64), .sc (.int .i64), .sc (.int .i64), .sl [.sc (.int .i64), .sc (.str), .sc (.str)], .sc (.bool)] [], .fz [.sc (.int .i64), .sl [.sc (.int .i64), .sc (.str), .sc (.str)]] []]]
noncomputable def laws_FnExactResting_w (m : Nat) (vs : List T) (k : Ret → An) : An := laws_FnExactResting m (vs.headD dflt) (vs.tail.headD dflt) (vs.tail.tail.headD dflt) (vs.tail.tail.tail.headD dflt) (vs.tail.tail.tail.tail.headD dflt) (vs.tail.tail.tail.tail.tail.headD dflt) (vs.tail.tail.tail.tail.tail.tail.headD dflt) (vs.tail.tail.tail.tail.tail.tail.tail.headD dflt) (vs.tail.tail.tail.tail.tail.tail.tail.tail.headD dflt) (vs.tail.tail.tail.tail.tail.tail.tail.tail.tail.headD dflt) (fun z0 => k ⟨[.one (.sc (.bool) z0)], [[none, none, none, none, none, none, none, none, none, none]]⟩)
theorem laws_FnExactResting_cf (m : Nat) : callK CX prims m = (patC 10 laws_szWorld_a (laws_szWorld_w m) (patC 12 laws_toWorld_a (laws_toWorld_w m) (patC 15 spec_Resting_a (spec_Resting_w m) (patC 16 impl_Resting_a (impl_Resting_w m) (patC 14 laws_eqWorld_a (laws_eqWorld_w m) (callK CX prims m)))))) := by
  rw [← patC_eq (fun vs k => laws_eqWorld_eq m vs k), ← patC_eq (fun vs k => impl_Resting_eq m vs k), ← patC_eq (fun vs k => spec_Resting_eq m vs k), ← patC_eq (fun vs k => laws_toWorld_eq m vs k), ← patC_eq (fun vs k => laws_szWorld_eq m vs k)]
noncomputable def laws_FnExactResting_c : Code := (Try.f4.body).getD .skip
noncomputable def laws_FnExactResting_fi : Fi := ⟨4, 1, 27, 4⟩
theorem laws_FnExactResting_eq (m : Nat) : ∀ vs k, callK CX prims m 4 (fArgs laws_FnExactResting_a vs) k = laws_FnExactResting_w m vs k := by
  cases m with
  | zero => exact fun vs k => rfl
  | succ m => exact fun vs k => Eq.trans (b := bodyK CX (callK CX prims m) (loopK CX (callK CX prims m) laws_FnExactResting_fi laws_FnExactResting_c m) 4 Try.f4 laws_FnExactResting_c (fArgs laws_FnExactResting_a vs) k) (by kernel_rfl) ((bodyK_congr (laws_FnExactResting_cf m) rfl 4 Try.f4 laws_FnExactResting_c (fArgs laws_FnExactResting_a vs) k).trans (by kernel_rfl))

/-! loop.example/g00244/spec.Hash -/
noncomputable def spec_Hash_L0_0 (m : Nat) : Nat → T → T → T → (T → An) → An
  | 0, _, _, _, _ => .bad
  | n + 1, x0, x1, x2, k0 =>
    cond (decide (x2.int < (x0.str.size : Int)))
    (cond (decide (0 ≤ x2.int ∧ x2.int < (x0.str.size : Int)))
    (spec_Hash_L0_0 m n x0 (bvBack .i64 (BitVec.ofInt IntKind.i64.bits (IntKind.i64.wrap ((bvBack .i64 (BitVec.ofInt IntKind.i64.bits x1.int ^^^ BitVec.ofInt IntKind.i64.bits (IntKind.i64.wrap ((x0.str.data.toList.getD (Int.toNat x2.int) 0).toNat : Int)))).int * 16777619)) &&& BitVec.ofInt IntKind.i64.bits 4294967295)) (T.i (IntKind.i64.wrap (x2.int + 1))) k0)
    (.bad))
    (k0 x1)
noncomputable def spec_Hash_s0_0 : Pack := ⟨[(0, .one ⟨.sc, .sc (.str), .l []⟩), (3, .one ⟨.sc, .sc (.int .i64), .l []⟩), (4, .one ⟨.sc, .sc (.int .i64), .l []⟩)], []⟩
noncomputable def spec_Hash_e0_0 : Pack := ⟨[(3, .one ⟨.sc, .sc (.int .i64), .l []⟩)], []⟩
noncomputable def spec_Hash_L0_0w (m n : Nat) (vs : List T) (k : Ctl → Pack → An) : An := spec_Hash_L0_0 m n (vs.headD dflt) (vs.tail.headD dflt) (vs.tail.tail.headD dflt) (fun z0 => k (.exit 0) (fPack spec_Hash_e0_0 [z0]))
noncomputable def spec_Hash : Nat → T → (T → An) → An
  | 0, _, _ => .bad
  | m + 1, x0, k0 =>
    spec_Hash_L0_0 m m x0 (T.i 2166136261) (T.i 0)
    (fun y0 => k0 y0)
noncomputable def spec_Hash_a : List Arg := [.one (.sc (.str) (.l []))]
noncomputable def spec_Hash_w (m : Nat) (vs : List T) (k : Ret → An) : An := spec_Hash m (vs.headD dflt) (fun z0 => k ⟨[.one (.sc (.int .i64) z0)], [[none]]⟩)
theorem spec_Hash_cf (m : Nat) : callK CX prims m = (callK CX prims m) := by
  rfl
noncomputable def spec_Hash_c : Code := (Try.f104.body).getD .skip
noncomputable def spec_Hash_fi : Fi := ⟨104, 1, 20, 4⟩
theorem spec_Hash_lf (m : Nat) : ∀ n, (∀ vs k, loopK CX (callK CX prims m) spec_Hash_fi spec_Hash_c n [0, 1, 0, 1, 1] (fPack spec_Hash_s0_0 vs) k = spec_Hash_L0_0w m n vs k) ∧ ((loopK CX (callK CX prims m) spec_Hash_fi spec_Hash_c n) = (patL [0, 1, 0, 1, 1] spec_Hash_s0_0 (spec_Hash_L0_0w m n) (loopK CX (callK CX prims m) spec_Hash_fi spec_Hash_c n))) := by
  intro n
  have hl : ∀ n, (∀ vs k, loopK CX (callK CX prims m) spec_Hash_fi spec_Hash_c n [0, 1, 0, 1, 1] (fPack spec_Hash_s0_0 vs) k = spec_Hash_L0_0w m n vs k) → ((loopK CX (callK CX prims m) spec_Hash_fi spec_Hash_c n) = (patL [0, 1, 0, 1, 1] spec_Hash_s0_0 (spec_Hash_L0_0w m n) (loopK CX (callK CX prims m) spec_Hash_fi spec_Hash_c n))) := by
    intro n h0
    rw [← patL_eq h0]
  induction n with
  | zero => exact ⟨fun vs k => rfl, hl 0 (fun vs k => rfl)⟩
  | succ n ihn =>
    have hn := ihn.2
    have h0 : ∀ vs k, loopK CX (callK CX prims m) spec_Hash_fi spec_Hash_c (n + 1) [0, 1, 0, 1, 1] (fPack spec_Hash_s0_0 vs) k = spec_Hash_L0_0w m (n + 1) vs k := fun vs k =>
      (stepL_congr (spec_Hash_cf m) hn [0, 1, 0, 1, 1] _ _).trans (by kernel_rfl)
    exact ⟨h0, hl (n + 1) h0⟩
theorem spec_Hash_eq (m : Nat) : ∀ vs k, callK CX prims m 104 (fArgs spec_Hash_a vs) k = spec_Hash_w m vs k := by
  cases m with
  | zero => exact fun vs k => rfl
  | succ m => exact fun vs k => Eq.trans (b := bodyK CX (callK CX prims m) (loopK CX (callK CX prims m) spec_Hash_fi spec_Hash_c m) 104 Try.f104 spec_Hash_c (fArgs spec_Hash_a vs) k) (by kernel_rfl) ((bodyK_congr (spec_Hash_cf m) ((spec_Hash_lf m m).2) 104 Try.f104 spec_Hash_c (fArgs spec_Hash_a vs) k).trans (by kernel_rfl))

/-! loop.example/g00244/spec.ShardOf -/
noncomputable def spec_ShardOf : Nat → T → T → (T → An) → An
  | 0, _, _, _ => .bad
  | m + 1, x0, x1, k0 =>
    cond (decide (x1.int < 1))
    (k0 (T.i 0))
    (spec_Hash m x0
    (fun y0 => cond (!decide (x1.int = 0))
    (k0 (T.i (Int.tmod y0.int x1.int)))
    (.bad)))
noncomputable def spec_ShardOf_a : List Arg := [.one (.sc (.str) (.l [])), .one (.sc (.int .i64) (.l []))]
noncomputable def spec_ShardOf_w (m : Nat) (vs : List T) (k : Ret → An) : An := spec_ShardOf m (vs.headD dflt) (vs.tail.headD dflt) (fun z0 => k ⟨[.one (.sc (.int .i64) z0)], [[none], [none]]⟩)
theorem spec_ShardOf_cf (m : Nat) : callK CX prims m = (patC 104 spec_Hash_a (spec_Hash_w m) (callK CX prims m)) := by
  rw [← patC_eq (fun vs k => spec_Hash_eq m vs k)]
noncomputable def spec_ShardOf_c : Code := (Try.f57.body).getD .skip
noncomputable def spec_ShardOf_fi : Fi := ⟨57, 2, 11, 16⟩
theorem spec_ShardOf_eq (m : Nat) : ∀ vs k, callK CX prims m 57 (fArgs spec_ShardOf_a vs) k = spec_ShardOf_w m vs k := by
  cases m with
  | zero => exact fun vs k => rfl
  | succ m => exact fun vs k => Eq.trans (b := bodyK CX (callK CX prims m) (loopK CX (callK CX prims m) spec_ShardOf_fi spec_ShardOf_c m) 57 Try.f57 spec_ShardOf_c (fArgs spec_ShardOf_a vs) k) (by kernel_rfl) ((bodyK_congr (spec_ShardOf_cf m) rfl 57 Try.f57 spec_ShardOf_c (fArgs spec_ShardOf_a vs) k).trans (by kernel_rfl))

/-! loop.example/g00244/spec.GetKey -/
noncomputable def spec_GetKey_L0_0 (m : Nat) : Nat → T → T → T → (T → T → An) → An → An
  | 0, _, _, _, _, _ => .bad
  | n + 1, x0, x1, x2, k0, k1 =>
    cond (decide (x2.int < (x0.rows.length : Int)))
    (cond (decide (0 ≤ x2.int ∧ x2.int < (x0.rows.length : Int)))
    (cond (((x0.rows.getD (Int.toNat x2.int) []).getD 0 dflt).str.toList == x1.str.toList)
    (cond (decide (0 ≤ x2.int ∧ x2.int < (x0.rows.length : Int)))
    (k0 (((x0.rows.getD (Int.toNat x2.int) []).drop 1).getD 0 dflt) (T.b true))
    (.bad))
    (spec_GetKey_L0_0 m n x0 x1 (T.i (IntKind.i64.wrap (x2.int + 1))) k0 k1))
    (.bad))
    (k1 )
noncomputable def spec_GetKey_s0_0 : Pack := ⟨[(0, .one ⟨.sn [], .sl [.sc (.str), .sc (.str)], .l []⟩), (1, .one ⟨.sc, .sc (.str), .l []⟩), (6, .one ⟨.sc, .sc (.int .i64), .l []⟩)], []⟩
noncomputable def spec_GetKey_e0_0 : Pack := ⟨[(4, .one ⟨.sc, .sc (.str), .l []⟩), (5, .one ⟨.sc, .sc (.bool), .l []⟩)], []⟩
noncomputable def spec_GetKey_e0_1 : Pack := ⟨[], []⟩
noncomputable def spec_GetKey_L0_0w (m n : Nat) (vs : List T) (k : Ctl → Pack → An) : An := spec_GetKey_L0_0 m n (vs.headD dflt) (vs.tail.headD dflt) (vs.tail.tail.headD dflt) (fun z0 z1 => k .ret (fPack spec_GetKey_e0_0 [z0, z1])) (k (.exit 0) (fPack spec_GetKey_e0_1 []))
noncomputable def spec_GetKey : Nat → T → T → (T → T → An) → An
  | 0, _, _, _ => .bad
  | m + 1, x0, x1, k0 =>
    spec_GetKey_L0_0 m m (T.l x0.rows) x1 (T.i 0)
    (fun y0 y1 => k0 y0 y1)
    (k0 (T.s (⟨#[]⟩ : ByteArray)) (T.b false))
noncomputable def spec_GetKey_a : List Arg := [.one (.fz [.sc (.str), .sc (.str)] []), .one (.sc (.str) (.l []))]
noncomputable def spec_GetKey_w (m : Nat) (vs : List T) (k : Ret → An) : An := spec_GetKey m (vs.headD dflt) (vs.tail.headD dflt) (fun z0 z1 => k ⟨[.one (.sc (.str) z0), .one (.sc (.bool) z1)], [[none], [none]]⟩)
theorem spec_GetKey_cf (m : Nat) : callK CX prims m = (callK CX prims m) := by
  rfl
noncomputable def spec_GetKey_c : Code := (Try.f58.body).getD .skip
noncomputable def spec_GetKey_fi : Fi := ⟨58, 2, 25, 48⟩
theorem spec_GetKey_lf (m : Nat) : ∀ n, (∀ vs k, loopK CX (callK CX prims m) spec_GetKey_fi spec_GetKey_c n [0, 1, 0, 1] (fPack spec_GetKey_s0_0 vs) k = spec_GetKey_L0_0w m n vs k) ∧ ((loopK CX (callK CX prims m) spec_GetKey_fi spec_GetKey_c n) = (patL [0, 1, 0, 1] spec_GetKey_s0_0 (spec_GetKey_L0_0w m n) (loopK CX (callK CX prims m) spec_GetKey_fi spec_GetKey_c n))) := by
  intro n
  have hl : ∀ n, (∀ vs k, loopK CX (callK CX prims m) spec_GetKey_fi spec_GetKey_c n [0, 1, 0, 1] (fPack spec_GetKey_s0_0 vs) k = spec_GetKey_L0_0w m n vs k) → ((loopK CX (callK CX prims m) spec_GetKey_fi spec_GetKey_c n) = (patL [0, 1, 0, 1] spec_GetKey_s0_0 (spec_GetKey_L0_0w m n) (loopK CX (callK CX prims m) spec_GetKey_fi spec_GetKey_c n))) := by
    intro n h0
    rw [← patL_eq h0]
  induction n with
  | zero => exact ⟨fun vs k => rfl, hl 0 (fun vs k => rfl)⟩
  | succ n ihn =>
    have hn := ihn.2
    have h0 : ∀ vs k, loopK CX (callK CX prims m) spec_GetKey_fi spec_GetKey_c (n + 1) [0, 1, 0, 1] (fPack spec_GetKey_s0_0 vs) k = spec_GetKey_L0_0w m (n + 1) vs k := fun vs k =>
      (stepL_congr (spec_GetKey_cf m) hn [0, 1, 0, 1] _ _).trans (by kernel_rfl)
    exact ⟨h0, hl (n + 1) h0⟩
theorem spec_GetKey_eq (m : Nat) : ∀ vs k, callK CX prims m 58 (fArgs spec_GetKey_a vs) k = spec_GetKey_w m vs k := by
  cases m with
  | zero => exact fun vs k => rfl
  | succ m => exact fun vs k => Eq.trans (b := bodyK CX (callK CX prims m) (loopK CX (callK CX prims m) spec_GetKey_fi spec_GetKey_c m) 58 Try.f58 spec_GetKey_c (fArgs spec_GetKey_a vs) k) (by kernel_rfl) ((bodyK_congr (spec_GetKey_cf m) ((spec_GetKey_lf m m).2) 58 Try.f58 spec_GetKey_c (fArgs spec_GetKey_a vs) k).trans (by kernel_rfl))

/-! loop.example/g00244/spec.ReadAt -/
noncomputable def spec_ReadAt : Nat → T → T → T → T → T → T → T → T → T → T → T → (T → T → An) → An
  | 0, _, _, _, _, _, _, _, _, _, _, _, _ => .bad
  | m + 1, x0, x1, x2, x3, x4, x5, x6, x7, x8, x9, x10, k0 =>
    spec_ShardOf m x10 (T.i (x6.rows.length : Int))
    (fun y0 => cond (decide (y0.int ≥ (x6.rows.length : Int)))
    (k0 (T.s (⟨#[]⟩ : ByteArray)) (T.b false))
    (cond (decide (0 ≤ y0.int ∧ y0.int < (x6.rows.length : Int)))
    (spec_GetKey m (T.l (((x6.rows.getD (Int.toNat y0.int) []).drop 3).getD 0 dflt).rows) x10
    (fun y1 y2 => k0 y1 y2))
    (.bad)))
noncomputable def spec_ReadAt_a : List Arg := [.agg [.sc (.int .i64) (.l []), .sc (.int .i64) (.l []), .sc (.int .i64) (.l []), .fz [.sc (.int .i64), .sl [.sc (.int .i64), .sc (.str), .sc (.str)], .sc (.int .i64), .sl [.sc (.int .i64)]] [], .fz [.sc (.int .i64), .sc (.bool)] [], .sc (.int .i64) (.l []), .fz [.sc (.int .i64), .sl [.sc (.int .i64), .sc (.int .i64), .sl [.sc (.int .i64), .sc (.str), .sc (.str)]], .sc (.int .i64), .sl [.sc (.str), .sc (.str)], .sl [.sc (.int .i64), .sc (.int .i64), .sl [.sc (.int .i64), .sc (.str), .sc (.str)]]] [], .fz [.sc (.int .i64), .sc (.int .i64), .sc (.int .i64), .sl [.sc (.int .i64), .sc (.str), .sc (.str)], .sc (.bool)] [], .fz [.sc (.int .i64), .sc (.int .i64), .sc (.int .i64), .sl [.sc (.int .i64), .sc (.str), .sc (.str)], .sc (.bool)] [], .fz [.sc (.int .i64), .sl [.sc (.int .i64), .sc (.str), .sc (.str)]] []], .one (.sc (.str) (.l []))]
noncomputable def spec_ReadAt_w (m : Nat) (vs : List T) (k : Ret → An) : An := spec_ReadAt m (vs.headD dflt) (vs.tail.headD dflt) (vs.tail.tail.headD dflt) (vs.tail.tail.tail.headD dflt) (vs.tail.tail.tail.tail.headD dflt) (vs.tail.tail.tail.tail.tail.headD dflt) (vs.tail.tail.tail.tail.tail.tail.headD dflt) (vs.tail.tail.tail.tail.tail.tail.tail.headD dflt) (vs.tail.tail.tail.tail.tail.tail.tail.tail.headD dflt) (vs.tail.tail.tail.tail.tail.tail.tail.tail.tail.headD dflt) (vs.tail.tail.tail.tail.tail.tail.tail.tail.tail.tail.headD dflt) (fun z0 z1 => k ⟨[.one (.sc (.str) z0), .one (.sc (.bool) z1)], [[none, none, none, none, none, none, none, none, none, none], [none]]⟩)
theorem spec_ReadAt_cf (m : Nat) : callK CX prims m = (patC 57 spec_ShardOf_a (spec_ShardOf_w m) (patC 58 spec_GetKey_a (spec_GetKey_w m) (callK CX prims m))) := by
  rw [← patC_eq (fun vs k => spec_GetKey_eq m vs k), ← patC_eq (fun vs k => spec_ShardOf_eq m vs k)]
noncomputable def spec_ReadAt_c : Code := (Try.f17.body).getD .skip
noncomputable def spec_ReadAt_fi : Fi := ⟨17, 2, 27, 48⟩
theorem spec_ReadAt_eq (m : Nat) : ∀ vs k, callK CX prims m 17 (fArgs spec_ReadAt_a vs) k = spec_ReadAt_w m vs k := by
  cases m with
  | zero => exact fun vs k => rfl
  | succ m => exact fun vs k => Eq.trans (b := bodyK CX (callK CX prims m) (loopK CX (callK CX prims m) spec_ReadAt_fi spec_ReadAt_c m) 17 Try.f17 spec_ReadAt_c (fArgs spec_ReadAt_a vs) k) (by kernel_rfl) ((bodyK_congr (spec_ReadAt_cf m) rfl 17 Try.f17 spec_ReadAt_c (fArgs spec_ReadAt_a vs) k).trans (by kernel_rfl))

/-! loop.example/g00244/impl.Hash -/
noncomputable def impl_Hash_L0_0 (m : Nat) : Nat → T → T → T → (T → An) → An
  | 0, _, _, _, _ => .bad
  | n + 1, x0, x1, x2, k0 =>
    cond (decide (x2.int < (x0.str.size : Int)))
    (cond (decide (0 ≤ x2.int ∧ x2.int < (x0.str.size : Int)))
    (impl_Hash_L0_0 m n x0 (T.i (IntKind.u32.wrap ((bvBack .u32 (BitVec.ofInt IntKind.u32.bits x1.int ^^^ BitVec.ofInt IntKind.u32.bits (IntKind.u32.wrap ((x0.str.data.toList.getD (Int.toNat x2.int) 0).toNat : Int)))).int * 16777619))) (T.i (IntKind.i64.wrap (x2.int + 1))) k0)
    (.bad))
    (k0 x1)
noncomputable def impl_Hash_s0_0 : Pack := ⟨[(0, .one ⟨.sc, .sc (.str), .l []⟩), (3, .one ⟨.sc, .sc (.int .u32), .l []⟩), (4, .one ⟨.sc, .sc (.int .i64), .l []⟩)], []⟩
noncomputable def impl_Hash_e0_0 : Pack := ⟨[(3, .one ⟨.sc, .sc (.int .u32), .l []⟩)], []⟩
noncomputable def impl_Hash_L0_0w (m n : Nat) (vs : List T) (k : Ctl → Pack → An) : An := impl_Hash_L0_0 m n (vs.headD dflt) (vs.tail.headD dflt) (vs.tail.tail.headD dflt) (fun z0 => k (.exit 0) (fPack impl_Hash_e0_0 [z0]))
noncomputable def impl_Hash : Nat → T → (T → An) → An
  | 0, _, _ => .bad
  | m + 1, x0, k0 =>
    impl_Hash_L0_0 m m x0 (T.i 2166136261) (T.i 0)
    (fun y0 => k0 (T.i (IntKind.i64.wrap y0.int)))
noncomputable def impl_Hash_a : List Arg := [.one (.sc (.str) (.l []))]
noncomputable def impl_Hash_w (m : Nat) (vs : List T) (k : Ret → An) : An := impl_Hash m (vs.headD dflt) (fun z0 => k ⟨[.one (.sc (.int .i64) z0)], [[none]]⟩)
theorem impl_Hash_cf (m : Nat) : callK CX prims m = (callK CX prims m) := by
  rfl
noncomputable def impl_Hash_c : Code := (Try.f106.body).getD .skip
noncomputable def impl_Hash_fi : Fi := ⟨106, 1, 21, 4⟩
theorem impl_Hash_lf (m : Nat) : ∀ n, (∀ vs k, loopK CX (callK CX prims m) impl_Hash_fi impl_Hash_c n [0, 1, 0, 1, 1] (fPack impl_Hash_s0_0 vs) k = impl_Hash_L0_0w m n vs k) ∧ ((loopK CX (callK CX prims m) impl_Hash_fi impl_Hash_c n) = (patL [0, 1, 0, 1, 1] impl_Hash_s0_0 (impl_Hash_L0_0w m n) (loopK CX (callK CX prims m) impl_Hash_fi impl_Hash_c n))) := by
  intro n
  have hl : ∀ n, (∀ vs k, loopK CX (callK CX prims m) impl_Hash_fi impl_Hash_c n [0, 1, 0, 1, 1] (fPack impl_Hash_s0_0 vs) k = impl_Hash_L0_0w m n vs k) → ((loopK CX (callK CX prims m) impl_Hash_fi impl_Hash_c n) = (patL [0, 1, 0, 1, 1] impl_Hash_s0_0 (impl_Hash_L0_0w m n) (loopK CX (callK CX prims m) impl_Hash_fi impl_Hash_c n))) := by
    intro n h0
    rw [← patL_eq h0]
  induction n with
  | zero => exact ⟨fun vs k => rfl, hl 0 (fun vs k => rfl)⟩
  | succ n ihn =>
    have hn := ihn.2
    have h0 : ∀ vs k, loopK CX (callK CX prims m) impl_Hash_fi impl_Hash_c (n + 1) [0, 1, 0, 1, 1] (fPack impl_Hash_s0_0 vs) k = impl_Hash_L0_0w m (n + 1) vs k := fun vs k =>
      (stepL_congr (impl_Hash_cf m) hn [0, 1, 0, 1, 1] _ _).trans (by kernel_rfl)
    exact ⟨h0, hl (n + 1) h0⟩
theorem impl_Hash_eq (m : Nat) : ∀ vs k, callK CX prims m 106 (fArgs impl_Hash_a vs) k = impl_Hash_w m vs k := by
  cases m with
  | zero => exact fun vs k => rfl
  | succ m => exact fun vs k => Eq.trans (b := bodyK CX (callK CX prims m) (loopK CX (callK CX prims m) impl_Hash_fi impl_Hash_c m) 106 Try.f106 impl_Hash_c (fArgs impl_Hash_a vs) k) (by kernel_rfl) ((bodyK_congr (impl_Hash_cf m) ((impl_Hash_lf m m).2) 106 Try.f106 impl_Hash_c (fArgs impl_Hash_a vs) k).trans (by kernel_rfl))

/-! loop.example/g00244/impl.ShardOf -/
noncomputable def impl_ShardOf : Nat → T → T → (T → An) → An
  | 0, _, _, _ => .bad
  | m + 1, x0, x1, k0 =>
    cond (decide (x1.int < 1))
    (k0 (T.i 0))
    (impl_Hash m x0
    (fun y0 => cond (!decide (x1.int = 0))
    (k0 (T.i (Int.tmod y0.int x1.int)))
    (.bad)))
noncomputable def impl_ShardOf_a : List Arg := [.one (.sc (.str) (.l [])), .one (.sc (.int .i64) (.l []))]
noncomputable def impl_ShardOf_w (m : Nat) (vs : List T) (k : Ret → An) : An := impl_ShardOf m (vs.headD dflt) (vs.tail.headD dflt) (fun z0 => k ⟨[.one (.sc (.int .i64) z0)], [[none], [none]]⟩)
theorem impl_ShardOf_cf (m : Nat) : callK CX prims m = (patC 106 impl_Hash_a (impl_Hash_w m) (callK CX prims m)) := by
  rw [← patC_eq (fun vs k => impl_Hash_eq m vs k)]
noncomputable def impl_ShardOf_c : Code := (Try.f60.body).getD .skip
noncomputable def impl_ShardOf_fi : Fi := ⟨60, 2, 11, 16⟩
theorem impl_ShardOf_eq (m : Nat) : ∀ vs k, callK CX prims m 60 (fArgs impl_ShardOf_a vs) k = impl_ShardOf_w m vs k := by
  cases m with
  | zero => exact fun vs k => rfl
  | succ m => exact fun vs k => Eq.trans (b := bodyK CX (callK CX prims m) (loopK CX (callK CX prims m) impl_ShardOf_fi impl_ShardOf_c m) 60 Try.f60 impl_ShardOf_c (fArgs impl_ShardOf_a vs) k) (by kernel_rfl) ((bodyK_congr (impl_ShardOf_cf m) rfl 60 Try.f60 impl_ShardOf_c (fArgs impl_ShardOf_a vs) k).trans (by kernel_rfl))

/-! loop.example/g00244/impl.pairAt$1 -/
noncomputable def impl_pairAt_1 : Nat → T → T → T → (T → An) → An
  | 0, _, _, _, _ => .bad
  | m + 1, x0, x1, x2, k0 =>
    k0 (T.b (x0.str.toList == ((row1 x2).getD 0 dflt).str.toList))
noncomputable def impl_pairAt_1_a : List Arg := [.agg [.sc (.str) (.l []), .sc (.str) (.l [])], .rpt [.sc (.str)] []]
noncomputable def impl_pairAt_1_w (m : Nat) (vs : List T) (k : Ret → An) : An := impl_pairAt_1 m (vs.headD dflt) (vs.tail.headD dflt) (vs.tail.tail.headD dflt) (fun z0 => k ⟨[.one (.sc (.bool) z0)], [[none, none], []]⟩)
theorem impl_pairAt_1_cf (m : Nat) : callK CX prims m = (callK CX prims m) := by
  rfl
noncomputable def impl_pairAt_1_c : Code := (Try.f143.body).getD .skip
noncomputable def impl_pairAt_1_fi : Fi := ⟨143, 2, 8, 8⟩
theorem impl_pairAt_1_eq (m : Nat) : ∀ vs k, callK CX prims m 143 (fArgs impl_pairAt_1_a vs) k = impl_pairAt_1_w m vs k := by
  cases m with
  | zero => exact fun vs k => rfl
  | succ m => exact fun vs k => Eq.trans (b := bodyK CX (callK CX prims m) (loopK CX (callK CX prims m) impl_pairAt_1_fi impl_pairAt_1_c m) 143 Try.f143 impl_pairAt_1_c (fArgs impl_pairAt_1_a vs) k) (by kernel_rfl) ((bodyK_congr (impl_pairAt_1_cf m) rfl 143 Try.f143 impl_pairAt_1_c (fArgs impl_pairAt_1_a vs) k).trans (by kernel_rfl))

/-! slices.IndexFunc[[]loop.example/g00244/impl.Pair,loop.example/g00244/impl.Pair] -/
noncomputable def slices_IndexFunc___impl_Pair_impl_Pair__L0_0 (m : Nat) : Nat → T → T → T → T → (T → An) → An → An
  | 0, _, _, _, _, _, _ => .bad
  | n + 1, x0, x1, x2, x3, k0, k1 =>
    cond (decide (x3.int < x2.int))
    (cond (decide (0 ≤ x3.int ∧ x3.int < (x0.rows.length : Int)))
    (impl_pairAt_1 m ((x0.rows.getD (Int.toNat x3.int) []).getD 0 dflt) ((x0.rows.getD (Int.toNat x3.int) []).getD 1 dflt) (T.l [(row1 x1)])
    (fun y0 => cond y0.bool
    (k0 x3)
    (slices_IndexFunc___impl_Pair_impl_Pair__L0_0 m n x0 (T.l [(row1 x1)]) x2 (T.i (IntKind.i64.wrap (x3.int + 1))) k0 k1)))
    (.bad))
    (k1 )
noncomputable def slices_IndexFunc___impl_Pair_impl_Pair__s0_0 : Pack := ⟨[(0, .one ⟨.sn [], .sl [.sc (.str), .sc (.str)], .l []⟩), (1, .fn 143 [.rp [] [.sc (.str)] []]), (7, .one ⟨.sc, .sc (.int .i64), .l []⟩), (8, .one ⟨.sc, .sc (.int .i64), .l []⟩)], []⟩
noncomputable def slices_IndexFunc___impl_Pair_impl_Pair__e0_0 : Pack := ⟨[(4, .one ⟨.sc, .sc (.int .i64), .l []⟩)], []⟩
noncomputable def slices_IndexFunc___impl_Pair_impl_Pair__e0_1 : Pack := ⟨[], []⟩
noncomputable def slices_IndexFunc___impl_Pair_impl_Pair__L0_0w (m n : Nat) (vs : List T) (k : Ctl → Pack → An) : An := slices_IndexFunc___impl_Pair_impl_Pair__L0_0 m n (vs.headD dflt) (vs.tail.headD dflt) (vs.tail.tail.headD dflt) (vs.tail.tail.tail.headD dflt) (fun z0 => k .ret (fPack slices_IndexFunc___impl_Pair_impl_Pair__e0_0 [z0])) (k (.exit 0) (fPack slices_IndexFunc___impl_Pair_impl_Pair__e0_1 []))
noncomputable def slices_IndexFunc___impl_Pair_impl_Pair_ : Nat → T → T → (T → An) → An
  | 0, _, _, _ => .bad
  | m + 1, x0, x1, k0 =>
    slices_IndexFunc___impl_Pair_impl_Pair__L0_0 m m (T.l x0.rows) (T.l [(row1 x1)]) (T.i (x0.rows.length : Int)) (T.i 0)
    (fun y1 => k0 y1)
    (k0 (T.i (-1)))
noncomputable def slices_IndexFunc___impl_Pair_impl_Pair__a : List Arg := [.one (.fz [.sc (.str), .sc (.str)] []), .fn 143 [.rpt [.sc (.str)] []]]
noncomputable def slices_IndexFunc___impl_Pair_impl_Pair__w (m : Nat) (vs : List T) (k : Ret → An) : An := slices_IndexFunc___impl_Pair_impl_Pair_ m (vs.headD dflt) (vs.tail.headD dflt) (fun z0 => k ⟨[.one (.sc (.int .i64) z0)], [[none], []]⟩)
theorem slices_IndexFunc___impl_Pair_impl_Pair__cf (m : Nat) : callK CX prims m = (patC 143 impl_pairAt_1_a (impl_pairAt_1_w m) (callK CX prims m)) := by
  rw [← patC_eq (fun vs k => impl_pairAt_1_eq m vs k)]
noncomputable def slices_IndexFunc___impl_Pair_impl_Pair__c : Code := (Try.f142.body).getD .skip
noncomputable def slices_IndexFunc___impl_Pair_impl_Pair__fi : Fi := ⟨142, 2, 19, 16⟩
theorem slices_IndexFunc___impl_Pair_impl_Pair__lf (m : Nat) : ∀ n, (∀ vs k, loopK CX (callK CX prims m) slices_IndexFunc___impl_Pair_impl_Pair__fi slices_IndexFunc___impl_Pair_impl_Pair__c n [0, 1, 0, 1] (fPack slices_IndexFunc___impl_Pair_impl_Pair__s0_0 vs) k = slices_IndexFunc___impl_Pair_impl_Pair__L0_0w m n vs k) ∧ ((loopK CX (callK CX prims m) slices_IndexFunc___impl_Pair_impl_Pair__fi slices_IndexFunc___impl_Pair_impl_Pair__c n) = (patL [0, 1, 0, 1] slices_IndexFunc___impl_Pair_impl_Pair__s0_0 (slices_IndexFunc___impl_Pair_impl_Pair__L0_0w m n) (loopK CX (callK CX prims m) slices_IndexFunc___impl_Pair_impl_Pair__fi slices_IndexFunc___impl_Pair_impl_Pair__c n))) := by
  intro n
  have hl : ∀ n, (∀ vs k, loopK CX (callK CX prims m) slices_IndexFunc___impl_Pair_impl_Pair__fi slices_IndexFunc___impl_Pair_impl_Pair__c n [0, 1, 0, 1] (fPack slices_IndexFunc___impl_Pair_impl_Pair__s0_0 vs) k = slices_IndexFunc___impl_Pair_impl_Pair__L0_0w m n vs k) → ((loopK CX (callK CX prims m) slices_IndexFunc___impl_Pair_impl_Pair__fi slices_IndexFunc___impl_Pair_impl_Pair__c n) = (patL [0, 1, 0, 1] slices_IndexFunc___impl_Pair_impl_Pair__s0_0 (slices_IndexFunc___impl_Pair_impl_Pair__L0_0w m n) (loopK CX (callK CX prims m) slices_IndexFunc___impl_Pair_impl_Pair__fi slices_IndexFunc___impl_Pair_impl_Pair__c n))) := by
    intro n h0
    rw [← patL_eq h0]
  induction n with
  | zero => exact ⟨fun vs k => rfl, hl 0 (fun vs k => rfl)⟩
  | succ n ihn =>
    have hn := ihn.2
    have h0 : ∀ vs k, loopK CX (callK CX prims m) slices_IndexFunc___impl_Pair_impl_Pair__fi slices_IndexFunc___impl_Pair_impl_Pair__c (n + 1) [0, 1, 0, 1] (fPack slices_IndexFunc___impl_Pair_impl_Pair__s0_0 vs) k = slices_IndexFunc___impl_Pair_impl_Pair__L0_0w m (n + 1) vs k := fun vs k =>
      (stepL_congr (slices_IndexFunc___impl_Pair_impl_Pair__cf m) hn [0, 1, 0, 1] _ _).trans (by kernel_rfl)
    exact ⟨h0, hl (n + 1) h0⟩
theorem slices_IndexFunc___impl_Pair_impl_Pair__eq (m : Nat) : ∀ vs k, callK CX prims m 142 (fArgs slices_IndexFunc___impl_Pair_impl_Pair__a vs) k = slices_IndexFunc___impl_Pair_impl_Pair__w m vs k := by
  cases m with
  | zero => exact fun vs k => rfl
  | succ m => exact fun vs k => Eq.trans (b := bodyK CX (callK CX prims m) (loopK CX (callK CX prims m) slices_IndexFunc___impl_Pair_impl_Pair__fi slices_IndexFunc___impl_Pair_impl_Pair__c m) 142 Try.f142 slices_IndexFunc___impl_Pair_impl_Pair__c (fArgs slices_IndexFunc___impl_Pair_impl_Pair__a vs) k) (by kernel_rfl) ((bodyK_congr (slices_IndexFunc___impl_Pair_impl_Pair__cf m) ((slices_IndexFunc___impl_Pair_impl_Pair__lf m m).2) 142 Try.f142 slices_IndexFunc___impl_Pair_impl_Pair__c (fArgs slices_IndexFunc___impl_Pair_impl_Pair__a vs) k).trans (by kernel_rfl))

/-! loop.example/g00244/impl.pairAt -/
noncomputable def impl_pairAt : Nat → T → T → (T → An) → An
  | 0, _, _, _ => .bad
  | m + 1, x0, x1, k0 =>
    slices_IndexFunc___impl_Pair_impl_Pair_ m (T.l x0.rows) (T.l [[x1]])
    (fun y0 => k0 y0)
noncomputable def impl_pairAt_a : List Arg := [.one (.fz [.sc (.str), .sc (.str)] []), .one (.sc (.str) (.l []))]
noncomputable def impl_pairAt_w (m : Nat) (vs : List T) (k : Ret → An) : An := impl_pairAt m (vs.headD dflt) (vs.tail.headD dflt) (fun z0 => k ⟨[.one (.sc (.int .i64) z0)], [[none], [none]]⟩)
theorem impl_pairAt_cf (m : Nat) : callK CX prims m = (patC 142 slices_IndexFunc___impl_Pair_impl_Pair__a (slices_IndexFunc___impl_Pair_impl_Pair__w m) (callK CX prims m)) := by
  rw [← patC_eq (fun vs k => slices_IndexFunc___impl_Pair_impl_Pair__eq m vs k)]
noncomputable def impl_pairAt_c : Code := (Try.f105.body).getD .skip
noncomputable def impl_pairAt_fi : Fi := ⟨105, 2, 8, 16⟩
theorem impl_pairAt_eq (m : Nat) : ∀ vs k, callK CX prims m 105 (fArgs impl_pairAt_a vs) k = impl_pairAt_w m vs k := by
  cases m with
  | zero => exact fun vs k => rfl
  | succ m => exact fun vs k => Eq.trans (b := bodyK CX (callK CX prims m) (loopK CX (callK CX prims m) impl_pairAt_fi impl_pairAt_c m) 105 Try.f105 impl_pairAt_c (fArgs impl_pairAt_a vs) k) (by kernel_rfl) ((bodyK_congr (impl_pairAt_cf m) rfl 105 Try.f105 impl_pairAt_c (fArgs impl_pairAt_a vs) k).trans (by kernel_rfl))

/-! loop.example/g00244/impl.GetKey -/
noncomputable def impl_GetKey : Nat → T → T → (T → T → An) → An
  | 0, _, _, _ => .bad
  | m + 1, x0, x1, k0 =>
    impl_pairAt m (T.l x0.rows) x1
    (fun y0 => cond (decide (y0.int < 0))
    (k0 (T.s (⟨#[]⟩ : ByteArray)) (T.b false))
    (cond (decide (0 ≤ y0.int ∧ y0.int < (x0.rows.length : Int)))
    (k0 (((x0.rows.getD (Int.toNat y0.int) []).drop 1).getD 0 dflt) (T.b true))
    (.bad)))
noncomputable def impl_GetKey_a : List Arg := [.one (.fz [.sc (.str), .sc (.str)] []), .one (.sc (.str) (.l []))]
noncomputable def impl_GetKey_w (m : Nat) (vs : List T) (k : Ret → An) : An := impl_GetKey m (vs.headD dflt) (vs.tail.headD dflt) (fun z0 z1 => k ⟨[.one (.sc (.str) z0), .one (.sc (.bool) z1)], [[none], [none]]⟩)
theorem impl_GetKey_cf (m : Nat) : callK CX prims m = (patC 105 impl_pairAt_a (impl_pairAt_w m) (callK CX prims m)) := by
  rw [← patC_eq (fun vs k => impl_pairAt_eq m vs k)]
noncomputable def impl_GetKey_c : Code := (Try.f59.body).getD .skip
noncomputable def impl_GetKey_fi : Fi := ⟨59, 2, 17, 48⟩
theorem impl_GetKey_eq (m : Nat) : ∀ vs k, callK CX prims m 59 (fArgs impl_GetKey_a vs) k = impl_GetKey_w m vs k := by
  cases m with
  | zero => exact fun vs k => rfl
  | succ m => exact fun vs k => Eq.trans (b := bodyK CX (callK CX prims m) (loopK CX (callK CX prims m) impl_GetKey_fi impl_GetKey_c m) 59 Try.f59 impl_GetKey_c (fArgs impl_GetKey_a vs) k) (by kernel_rfl) ((bodyK_congr (impl_GetKey_cf m) rfl 59 Try.f59 impl_GetKey_c (fArgs impl_GetKey_a vs) k).trans (by kernel_rfl))

/-! loop.example/g00244/impl.ReadAt -/
noncomputable def impl_ReadAt : Nat → T → T → T → T → T → T → T → T → T → T → T → (T → T → An) → An
  | 0, _, _, _, _, _, _, _, _, _, _, _, _ => .bad
  | m + 1, x0, x1, x2, x3, x4, x5, x6, x7, x8, x9, x10, k0 =>
    cond ((x6.rows.length : Int) == 0)
    (k0 (T.s (⟨#[]⟩ : ByteArray)) (T.b false))
    (impl_ShardOf m x10 (T.i (x6.rows.length : Int))
    (fun y0 => cond (decide (0 ≤ y0.int ∧ y0.int < (x6.rows.length : Int)))
    (impl_GetKey m (T.l (((x6.rows.getD (Int.toNat y0.int) []).drop 3).getD 0 dflt).rows) x10
    (fun y1 y2 => k0 y1 y2))
    (.bad)))
noncomputable def impl_ReadAt_a : List Arg := [.agg [.sc (.int .i64) (.l []), .sc (.int .i64) (.l []), .sc (.int .i64) (.l []), .fz [.sc (.int .i64), .sl [.sc (.int .i64), .sc (.str), .sc (.str)], .sc (.int .i64), .sl [.sc (.int .i64)]] [], .fz [.sc (.int .i64), .sc (.bool)] [], .sc (.int .i64) (.l []), .fz [.sc (.int .i64), .sl [.sc (.int .i64), .sc (.int .i64), .sl [.sc (.int .i64), .sc (.str), .sc (.str)]], .sc (.int .i64), .sl [.sc (.str), .sc (.str)], .sl [.sc (.int .i64), .sc (.int .i64), .sl [.sc (.int .i64), .sc (.str), .sc (.str)]]] [], .fz [.sc (.int .i64), .sc (.int .i64), .sc (.int .i64), .sl [.sc (.int .i64), .sc (.str), .sc (.str)], .sc (.bool)] [], .fz [.sc (.int .i64), .sc (.int .i64), .sc (.int .i64), .sl [.sc (.int .i64), .sc (.str), .sc (.str)], .sc (.bool)] [], .fz [.sc (.int .i64), .sl [.sc (.int .i64), .sc (.str), .sc (.str)]] []], .one (.sc (.str) (.l []))]
noncomputable def impl_ReadAt_w (m : Nat) (vs : List T) (k : Ret → An) : An := impl_ReadAt m (vs.headD dflt) (vs.tail.headD dflt) (vs.tail.tail.headD dflt) (vs.tail.tail.tail.headD dflt) (vs.tail.tail.tail.tail.headD dflt) (vs.tail.tail.tail.tail.tail.headD dflt) (vs.tail.tail.tail.tail.tail.tail.headD dflt) (vs.tail.tail.tail.tail.tail.tail.tail.headD dflt) (vs.tail.tail.tail.tail.tail.tail.tail.tail.headD dflt) (vs.tail.tail.tail.tail.tail.tail.tail.tail.tail.headD dflt) (vs.tail.tail.tail.tail.tail.tail.tail.tail.tail.tail.headD dflt) (fun z0 z1 => k ⟨[.one (.sc (.str) z0), .one (.sc (.bool) z1)], [[none, none, none, none, none, none, none, none, none, none], [none]]⟩)
theorem impl_ReadAt_cf (m : Nat) : callK CX prims m = (patC 60 impl_ShardOf_a (impl_ShardOf_w m) (patC 59 impl_GetKey_a (impl_GetKey_w m) (callK CX prims m))) := by
  rw [← patC_eq (fun vs k => impl_GetKey_eq m vs k), ← patC_eq (fun vs k => impl_ShardOf_eq m vs k)]
noncomputable def impl_ReadAt_c : Code := (Try.f18.body).getD .skip
noncomputable def impl_ReadAt_fi : Fi := ⟨18, 2, 24, 48⟩
theorem impl_ReadAt_eq (m : Nat) : ∀ vs k, callK CX prims m 18 (fArgs impl_ReadAt_a vs) k = impl_ReadAt_w m vs k := by
  cases m with
  | zero => exact fun vs k => rfl
  | succ m => exact fun vs k => Eq.trans (b := bodyK CX (callK CX prims m) (loopK CX (callK CX prims m) impl_ReadAt_fi impl_ReadAt_c m) 18 Try.f18 impl_ReadAt_c (fArgs impl_ReadAt_a vs) k) (by kernel_rfl) ((bodyK_congr (impl_ReadAt_cf m) rfl 18 Try.f18 impl_ReadAt_c (fArgs impl_ReadAt_a vs) k).trans (by kernel_rfl))

/-! loop.example/g00244/laws.FnExactReadAt -/
noncomputable def laws_FnExactReadAt : Nat → T → T → T → T → T → T → T → T → T → T → T → (T → An) → An
  | 0, _, _, _, _, _, _, _, _, _, _, _, _ => .bad
  | m + 1, x0, x1, x2, x3, x4, x5, x6, x7, x8, x9, x10, k0 =>
    cond (decide ((x10.str.size : Int) > 1048576))
    (k0 (T.b true))
    (laws_szWorld m x0 x1 x2 (T.l x3.rows) (T.l x4.rows) x5 (T.l x6.rows) (T.l x7.rows) (T.l x8.rows) (T.l x9.rows) (T.i 1048576)
    (fun y0 => cond (decide (y0.int < 0))
    (k0 (T.b true))
    (laws_toWorld m x0 x1 x2 (T.l x3.rows) (T.l x4.rows) x5 (T.l x6.rows) (T.l x7.rows) (T.l x8.rows) (T.l x9.rows)
    (fun y1 y2 y3 y4 y5 y6 y7 y8 y9 y10 => spec_ReadAt m y1 y2 y3 (T.l y4.rows) (T.l y5.rows) y6 (T.l y7.rows) (T.l y8.rows) (T.l y9.rows) (T.l y10.rows) x10
    (fun y11 y12 => laws_toWorld m x0 x1 x2 (T.l x3.rows) (T.l x4.rows) x5 (T.l x6.rows) (T.l x7.rows) (T.l x8.rows) (T.l x9.rows)
    (fun y13 y14 y15 y16 y17 y18 y19 y20 y21 y22 => impl_ReadAt m y13 y14 y15 (T.l y16.rows) (T.l y17.rows) y18 (T.l y19.rows) (T.l y20.rows) (T.l y21.rows) (T.l y22.rows) x10
    (fun y23 y24 => cond ((!(y23.str.toList == y11.str.toList)) == false)
    (cond (!(y24.bool == y12.bool))
    (k0 (T.b false))
    (laws_toWorld m x0 x1 x2 (T.l x3.rows) (T.l x4.rows) x5 (T.l x6.rows) (T.l x7.rows) (T.l x8.rows) (T.l x9.rows)
    (fun y25 y26 y27 y28 y29 y30 y31 y32 y33 y34 => laws_eqWorld m y13 y14 y15 (T.l y16.rows) (T.l y17.rows) y18 (T.l y19.rows) (T.l y20.rows) (T.l y21.rows) (T.l y22.rows) y25 y26 y27 (T.l y28.rows) (T.l y29.rows) y30 (T.l y31.rows) (T.l y32.rows) (T.l y33.rows) (T.l y34.rows)
    (fun y35 => cond (!y35.bool)
    (k0 (T.b false))
    (k0 (T.b true))))))
    (k0 (T.b false)))))))))
noncomputable def laws_FnExactReadAt_a : List Arg := [.agg [.sc (.int .i64) (.l []), .sc (.int .i64) (.l []), .sc (.int .i64) (.l []), .fz [.sc (.int .i64), .sl [.sc (.int .i64), .sc (.str), .sc (.str)], .sc (.int .i64), .sl [.sc (.int .i64)]] [], .fz [.sc (.int .i64), .sc (.bool)] [], .sc (.int .i64) (.l []), .fz [.sc (.int .i64), .sl [.sc (.int .i64), .sc (.int .i64), .sl [.sc (.int .i64), .sc (.str), .sc (.str)]], .sc (.int .i64), .sl [.sc (.str), .sc (.str)], .sl [.sc (.int .i64), .sc (.int .i64), .sl [.sc (.int .i64), .sc (.str), .sc (.str)]]] [], .fz [.sc (.int .i64), .sc (.int .i64), .sc (.int .i64), .sl [.sc (.int .i64), .sc (.str), .sc (.str)], .sc (.bool)] [], .fz [.sc (.int .i64), .sc (.int .i64), .sc (.int .i64), .sl [.sc (.int .i64), .sc (.str), .sc (.str)], .sc (.bool)] [], .fz [.sc (.int .i64), .sl [.sc (.int .i64), .sc (.str), .sc (.str)]] []], .one (.sc (.str) (.l []))]
noncomputable def laws_FnExactReadAt_w (m : Nat) (vs : List T) (k : Ret → An) : An := laws_FnExactReadAt m (vs.headD dflt) (vs.tail.headD dflt) (vs.tail.tail.headD dflt) (vs.tail.tail.tail.headD dflt) (vs.tail.tail.tail.tail.headD dflt) (vs.tail.tail.tail.tail.tail.headD dflt) (vs.tail.tail.tail.tail.tail.tail.headD dflt) (vs.tail.tail.tail.tail.tail.tail.tail.headD dflt) (vs.tail.tail.tail.tail.tail.tail.tail.tail.headD dflt) (vs.tail.tail.tail.tail.tail.tail.tail.tail.tail.headD dflt) (vs.tail.tail.tail.tail.tail.tail.tail.tail.tail.tail.headD dflt) (fun z0 => k ⟨[.one (.sc (.bool) z0)], [[none, none, none, none, none, none, none, none, none, none], [none]]⟩)
theorem laws_FnExactReadAt_cf (m : Nat) : callK CX prims m = (patC 10 laws_szWorld_a (laws_szWorld_w m) (patC 12 laws_toWorld_a (laws_toWorld_w m) (patC 17 spec_ReadAt_a (spec_ReadAt_w m) (patC 18 impl_ReadAt_a (impl_ReadAt_w m) (patC 14 laws_eqWorld_a (laws_eqWorld_w m) (callK CX prims m)))))) := by
  rw [← patC_eq (fun vs k => laws_eqWorld_eq m vs k), ← patC_eq (fun vs k => impl_ReadAt_eq m vs k), ← patC_eq (fun vs k => spec_ReadAt_eq m vs k), ← patC_eq (fun vs k => laws_toWorld_eq m vs k), ← patC_eq (fun vs k => laws_szWorld_eq m vs k)]
noncomputable def laws_FnExactReadAt_c : Code := (Try.f5.body).getD .skip
noncomputable def laws_FnExactReadAt_fi : Fi := ⟨5, 2, 47, 16⟩
theorem laws_FnExactReadAt_eq (m : Nat) : ∀ vs k, callK CX prims m 5 (fArgs laws_FnExactReadAt_a vs) k = laws_FnExactReadAt_w m vs k := by
  cases m with
  | zero => exact fun vs k => rfl
  | succ m => exact fun vs k => Eq.trans (b := bodyK CX (callK CX prims m) (loopK CX (callK CX prims m) laws_FnExactReadAt_fi laws_FnExactReadAt_c m) 5 Try.f5 laws_FnExactReadAt_c (fArgs laws_FnExactReadAt_a vs) k) (by kernel_rfl) ((bodyK_congr (laws_FnExactReadAt_cf m) rfl 5 Try.f5 laws_FnExactReadAt_c (fArgs laws_FnExactReadAt_a vs) k).trans (by kernel_rfl))

end Go.Proofs.Ytajemijnfpakgaa

