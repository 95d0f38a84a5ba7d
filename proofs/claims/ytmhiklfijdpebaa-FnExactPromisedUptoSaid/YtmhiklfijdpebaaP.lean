/- A part of the proof: texts S3P: see the last part's opening words. -/
import Derived.Test.YtmhiklfijdpebaaH
set_option linter.unusedVariables false
set_option linter.unusedSimpArgs false
set_option linter.unnecessarySimpa false
namespace Go.Proofs.Ytmhiklfijdpebaa
open Go Go.E Go.Proofs
def slices_Sort : Nat → T → (T → An) → An
  | 0, _, _ => .bad
  | m + 1, x0, k0 => k0 (T.l (sortRows x0.rows))
noncomputable def slices_Sort_a : List Arg := [.one (.own [.sc (.int .i64)] [.F] [])]
def slices_Sort_w (m : Nat) (vs : List T) (k : Ret → An) : An := slices_Sort m (vs.headD dflt) (fun z0 => k ⟨[], [[some ([.sc (.int .i64)], [.F], z0.rows)]], []⟩)
theorem slices_Sort_eq (m : Nat) : ∀ vs k, callK CX prims m 111 (fArgs slices_Sort_a vs) k = slices_Sort_w m vs k := by
  intro vs k
  cases m with
  | zero => rfl
  | succ m =>
    refine Eq.trans (b := (primSort (fArgs slices_Sort_a vs)).bind k) (by kernel_rfl) ?_
    rfl

def slices_Compact : Nat → T → (T → An) → An
  | 0, _, _ => .bad
  | m + 1, x0, k0 => k0 (T.l (compactRows x0.rows))
noncomputable def slices_Compact_a : List Arg := [.one (.own [.sc (.int .i64)] [.F] [])]
def slices_Compact_w (m : Nat) (vs : List T) (k : Ret → An) : An := slices_Compact m (vs.headD dflt) (fun z0 => k ⟨[.one (.own [7000000] [.sc (.int .i64)] [.F] z0.rows)], [[none]], []⟩)
theorem slices_Compact_eq (m : Nat) : ∀ vs k, callK CX prims m 113 (fArgs slices_Compact_a vs) k = slices_Compact_w m vs k := by
  intro vs k
  cases m with
  | zero => rfl
  | succ m =>
    refine Eq.trans (b := (primCompact (fArgs slices_Compact_a vs)).bind k) (by kernel_rfl) ?_
    rfl

/-! loop.example/g00244/laws.szOp -/
noncomputable def laws_szOp : Nat → T → T → T → T → (T → An) → An
  | 0, _, _, _, _, _ => .bad
  | m + 1, x0, x1, x2, x3, k0 =>
    cond (decide ((IntKind.i64.wrap (x3.int - (x1.str.size : Int))) < 0))
    (k0 (T.i (-1)))
    (cond (decide ((IntKind.i64.wrap ((IntKind.i64.wrap (x3.int - (x1.str.size : Int))) - (x2.str.size : Int))) < 0))
    (k0 (T.i (-1)))
    (k0 (T.i (IntKind.i64.wrap ((IntKind.i64.wrap (x3.int - (x1.str.size : Int))) - (x2.str.size : Int))))))
noncomputable def laws_szOp_a : List Arg := [.agg [.sc (.int .i64) (.l []), .sc (.str) (.l []), .sc (.str) (.l [])], .one (.sc (.int .i64) (.l []))]
noncomputable def laws_szOp_w (m : Nat) (vs : List T) (k : Ret → An) : An := laws_szOp m (vs.headD dflt) (vs.tail.headD dflt) (vs.tail.tail.headD dflt) (vs.tail.tail.tail.headD dflt) (fun z0 => k ⟨[.one (.sc (.int .i64) z0)], [[none, none, none], [none]], [none, none]⟩)
theorem laws_szOp_cf (m : Nat) : callK CX prims m = (callK CX prims m) := by
  rfl
noncomputable def laws_szOp_c : Code := (Try.f144.body).getD .skip
noncomputable def laws_szOp_fi : Fi := ⟨144, 2, 20, 16⟩
theorem laws_szOp_eq (m : Nat) : ∀ vs k, callK CX prims m 144 (fArgs laws_szOp_a vs) k = laws_szOp_w m vs k := by
  cases m with
  | zero => exact fun vs k => rfl
  | succ m => exact fun vs k => Eq.trans (b := bodyK CX (callK CX prims m) (loopK CX (callK CX prims m) laws_szOp_fi laws_szOp_c m) 144 Try.f144 laws_szOp_c (fArgs laws_szOp_a vs) k) (by kernel_rfl) ((bodyK_congr (laws_szOp_cf m) rfl 144 Try.f144 laws_szOp_c (fArgs laws_szOp_a vs) k).trans (by kernel_rfl))

/-! loop.example/g00244/laws.szOpS -/
noncomputable def laws_szOpS_L0_0 (m : Nat) : Nat → T → T → T → (T → An) → (T → An) → An
  | 0, _, _, _, _, _ => .bad
  | n + 1, x0, x1, x2, k0, k1 =>
    cond (decide (x2.int < (x0.rows.length : Int)))
    (cond (decide ((0 : Int) ≤ x2.int ∧ x2.int < (x0.rows.length : Int)))
    (laws_szOp m ((x0.rows.getD (Int.toNat x2.int) []).getD 0 dflt) ((x0.rows.getD (Int.toNat x2.int) []).getD 1 dflt) ((x0.rows.getD (Int.toNat x2.int) []).getD 2 dflt) x1
    (fun y0 => cond (decide (y0.int < 0))
    (k0 (T.i (-1)))
    (laws_szOpS_L0_0 m n x0 y0 (T.i (IntKind.i64.wrap (x2.int + 1))) k0 k1)))
    (.bad))
    (k1 x1)
noncomputable def laws_szOpS_s0_0 : Pack := ⟨[(0, .one ⟨.sn [([4000000], 0)], .sl [.sc (.int .i64), .sc (.str), .sc (.str)], .l []⟩), (1, .one ⟨.sc, .sc (.int .i64), .l []⟩), (5, .one ⟨.sc, .sc (.int .i64), .l []⟩)], [([4000000], .gone)]⟩
noncomputable def laws_szOpS_e0_0 : Pack := ⟨[(4, .one ⟨.sc, .sc (.int .i64), .l []⟩)], []⟩
noncomputable def laws_szOpS_e0_1 : Pack := ⟨[(1, .one ⟨.sc, .sc (.int .i64), .l []⟩)], []⟩
noncomputable def laws_szOpS_L0_0w (m n : Nat) (vs : List T) (k : Ctl → Pack → An) : An := laws_szOpS_L0_0 m n (vs.headD dflt) (vs.tail.headD dflt) (vs.tail.tail.headD dflt) (fun z0 => k .ret (fPack laws_szOpS_e0_0 [z0])) (fun z0 => k (.exit 0) (fPack laws_szOpS_e0_1 [z0]))
noncomputable def laws_szOpS : Nat → T → T → (T → An) → An
  | 0, _, _, _ => .bad
  | m + 1, x0, x1, k0 =>
    cond (decide ((IntKind.i64.wrap (x1.int - (x0.rows.length : Int))) < 0))
    (k0 (T.i (-1)))
    (laws_szOpS_L0_0 m m (T.l x0.rows) (T.i (IntKind.i64.wrap (x1.int - (x0.rows.length : Int)))) (T.i 0)
    (fun y1 => k0 y1)
    (fun y2 => k0 y2))
noncomputable def laws_szOpS_a : List Arg := [.one (.dz [.sc (.int .i64), .sc (.str), .sc (.str)] []), .one (.sc (.int .i64) (.l []))]
noncomputable def laws_szOpS_w (m : Nat) (vs : List T) (k : Ret → An) : An := laws_szOpS m (vs.headD dflt) (vs.tail.headD dflt) (fun z0 => k ⟨[.one (.sc (.int .i64) z0)], [[none], [none]], [none, none]⟩)
theorem laws_szOpS_cf (m : Nat) : callK CX prims m = (patC 144 laws_szOp_a (laws_szOp_w m) (callK CX prims m)) := by
  rw [← patC_eq (fun vs k => laws_szOp_eq m vs k)]
noncomputable def laws_szOpS_c : Code := (Try.f116.body).getD .skip
noncomputable def laws_szOpS_fi : Fi := ⟨116, 2, 27, 16⟩
theorem laws_szOpS_lf (m : Nat) : ∀ n, (∀ vs k, loopK CX (callK CX prims m) laws_szOpS_fi laws_szOpS_c n [0, 1, 0, 1, 1, 1] (fPack laws_szOpS_s0_0 vs) k = laws_szOpS_L0_0w m n vs k) ∧ ((loopK CX (callK CX prims m) laws_szOpS_fi laws_szOpS_c n) = (patL [0, 1, 0, 1, 1, 1] laws_szOpS_s0_0 (laws_szOpS_L0_0w m n) (loopK CX (callK CX prims m) laws_szOpS_fi laws_szOpS_c n))) := by
  intro n
  have hl : ∀ n, (∀ vs k, loopK CX (callK CX prims m) laws_szOpS_fi laws_szOpS_c n [0, 1, 0, 1, 1, 1] (fPack laws_szOpS_s0_0 vs) k = laws_szOpS_L0_0w m n vs k) → ((loopK CX (callK CX prims m) laws_szOpS_fi laws_szOpS_c n) = (patL [0, 1, 0, 1, 1, 1] laws_szOpS_s0_0 (laws_szOpS_L0_0w m n) (loopK CX (callK CX prims m) laws_szOpS_fi laws_szOpS_c n))) := by
    intro n h0
    rw [← patL_eq h0]
  induction n with
  | zero => exact ⟨fun vs k => rfl, hl 0 (fun vs k => rfl)⟩
  | succ n ihn =>
    have hn := ihn.2
    have h0 : ∀ vs k, loopK CX (callK CX prims m) laws_szOpS_fi laws_szOpS_c (n + 1) [0, 1, 0, 1, 1, 1] (fPack laws_szOpS_s0_0 vs) k = laws_szOpS_L0_0w m (n + 1) vs k := fun vs k =>
      (stepL_congr (laws_szOpS_cf m) hn [0, 1, 0, 1, 1, 1] _ _).trans (by kernel_rfl)
    exact ⟨h0, hl (n + 1) h0⟩
theorem laws_szOpS_eq (m : Nat) : ∀ vs k, callK CX prims m 116 (fArgs laws_szOpS_a vs) k = laws_szOpS_w m vs k := by
  cases m with
  | zero => exact fun vs k => rfl
  | succ m => exact fun vs k => Eq.trans (b := bodyK CX (callK CX prims m) (loopK CX (callK CX prims m) laws_szOpS_fi laws_szOpS_c m) 116 Try.f116 laws_szOpS_c (fArgs laws_szOpS_a vs) k) (by kernel_rfl) ((bodyK_congr (laws_szOpS_cf m) ((laws_szOpS_lf m m).2) 116 Try.f116 laws_szOpS_c (fArgs laws_szOpS_a vs) k).trans (by kernel_rfl))

/-! loop.example/g00244/laws.szIntS -/
noncomputable def laws_szIntS : Nat → T → T → (T → An) → An
  | 0, _, _, _ => .bad
  | m + 1, x0, x1, k0 =>
    cond (decide ((IntKind.i64.wrap (x1.int - (x0.rows.length : Int))) < 0))
    (k0 (T.i (-1)))
    (k0 (T.i (IntKind.i64.wrap (x1.int - (x0.rows.length : Int)))))
noncomputable def laws_szIntS_a : List Arg := [.one (.dz [.sc (.int .i64)] []), .one (.sc (.int .i64) (.l []))]
noncomputable def laws_szIntS_w (m : Nat) (vs : List T) (k : Ret → An) : An := laws_szIntS m (vs.headD dflt) (vs.tail.headD dflt) (fun z0 => k ⟨[.one (.sc (.int .i64) z0)], [[none], [none]], [none, none]⟩)
theorem laws_szIntS_cf (m : Nat) : callK CX prims m = (callK CX prims m) := by
  rfl
noncomputable def laws_szIntS_c : Code := (Try.f142.body).getD .skip
noncomputable def laws_szIntS_fi : Fi := ⟨142, 2, 12, 16⟩
theorem laws_szIntS_eq (m : Nat) : ∀ vs k, callK CX prims m 142 (fArgs laws_szIntS_a vs) k = laws_szIntS_w m vs k := by
  cases m with
  | zero => exact fun vs k => rfl
  | succ m => exact fun vs k => Eq.trans (b := bodyK CX (callK CX prims m) (loopK CX (callK CX prims m) laws_szIntS_fi laws_szIntS_c m) 142 Try.f142 laws_szIntS_c (fArgs laws_szIntS_a vs) k) (by kernel_rfl) ((bodyK_congr (laws_szIntS_cf m) rfl 142 Try.f142 laws_szIntS_c (fArgs laws_szIntS_a vs) k).trans (by kernel_rfl))

/-! loop.example/g00244/laws.szJob -/
noncomputable def laws_szJob : Nat → T → T → T → T → T → (T → An) → An
  | 0, _, _, _, _, _, _ => .bad
  | m + 1, x0, x1, x2, x3, x4, k0 =>
    laws_szOpS m (T.l x1.rows) x4
    (fun y0 => cond (decide (y0.int < 0))
    (k0 (T.i (-1)))
    (laws_szIntS m (T.l x3.rows) y0
    (fun y1 => cond (decide (y1.int < 0))
    (k0 (T.i (-1)))
    (k0 y1))))
noncomputable def laws_szJob_a : List Arg := [.agg [.sc (.int .i64) (.l []), .dz [.sc (.int .i64), .sc (.str), .sc (.str)] [], .sc (.int .i64) (.l []), .dz [.sc (.int .i64)] []], .one (.sc (.int .i64) (.l []))]
noncomputable def laws_szJob_w (m : Nat) (vs : List T) (k : Ret → An) : An := laws_szJob m (vs.headD dflt) (vs.tail.headD dflt) (vs.tail.tail.headD dflt) (vs.tail.tail.tail.headD dflt) (vs.tail.tail.tail.tail.headD dflt) (fun z0 => k ⟨[.one (.sc (.int .i64) z0)], [[none, none, none, none], [none]], [none, none]⟩)
theorem laws_szJob_cf (m : Nat) : callK CX prims m = (patC 116 laws_szOpS_a (laws_szOpS_w m) (patC 142 laws_szIntS_a (laws_szIntS_w m) (callK CX prims m))) := by
  rw [← patC_eq (fun vs k => laws_szIntS_eq m vs k), ← patC_eq (fun vs k => laws_szOpS_eq m vs k)]
noncomputable def laws_szJob_c : Code := (Try.f114.body).getD .skip
noncomputable def laws_szJob_fi : Fi := ⟨114, 2, 18, 16⟩
theorem laws_szJob_eq (m : Nat) : ∀ vs k, callK CX prims m 114 (fArgs laws_szJob_a vs) k = laws_szJob_w m vs k := by
  cases m with
  | zero => exact fun vs k => rfl
  | succ m => exact fun vs k => Eq.trans (b := bodyK CX (callK CX prims m) (loopK CX (callK CX prims m) laws_szJob_fi laws_szJob_c m) 114 Try.f114 laws_szJob_c (fArgs laws_szJob_a vs) k) (by kernel_rfl) ((bodyK_congr (laws_szJob_cf m) rfl 114 Try.f114 laws_szJob_c (fArgs laws_szJob_a vs) k).trans (by kernel_rfl))

/-! loop.example/g00244/laws.szJobS -/
noncomputable def laws_szJobS_L0_0 (m : Nat) : Nat → T → T → T → (T → An) → (T → An) → An
  | 0, _, _, _, _, _ => .bad
  | n + 1, x0, x1, x2, k0, k1 =>
    cond (decide (x2.int < (x0.rows.length : Int)))
    (cond (decide ((0 : Int) ≤ x2.int ∧ x2.int < (x0.rows.length : Int)))
    (laws_szJob m ((x0.rows.getD (Int.toNat x2.int) []).getD 0 dflt) (T.l ((x0.rows.getD (Int.toNat x2.int) []).getD 1 dflt).rows) ((x0.rows.getD (Int.toNat x2.int) []).getD 2 dflt) (T.l ((x0.rows.getD (Int.toNat x2.int) []).getD 3 dflt).rows) x1
    (fun y0 => cond (decide (y0.int < 0))
    (k0 (T.i (-1)))
    (laws_szJobS_L0_0 m n x0 y0 (T.i (IntKind.i64.wrap (x2.int + 1))) k0 k1)))
    (.bad))
    (k1 x1)
noncomputable def laws_szJobS_s0_0 : Pack := ⟨[(0, .one ⟨.sn [([4000000], 0)], .sl [.sc (.int .i64), .sl [.sc (.int .i64), .sc (.str), .sc (.str)], .sc (.int .i64), .sl [.sc (.int .i64)]], .l []⟩), (1, .one ⟨.sc, .sc (.int .i64), .l []⟩), (5, .one ⟨.sc, .sc (.int .i64), .l []⟩)], [([4000000], .gone)]⟩
noncomputable def laws_szJobS_e0_0 : Pack := ⟨[(4, .one ⟨.sc, .sc (.int .i64), .l []⟩)], []⟩
noncomputable def laws_szJobS_e0_1 : Pack := ⟨[(1, .one ⟨.sc, .sc (.int .i64), .l []⟩)], []⟩
noncomputable def laws_szJobS_L0_0w (m n : Nat) (vs : List T) (k : Ctl → Pack → An) : An := laws_szJobS_L0_0 m n (vs.headD dflt) (vs.tail.headD dflt) (vs.tail.tail.headD dflt) (fun z0 => k .ret (fPack laws_szJobS_e0_0 [z0])) (fun z0 => k (.exit 0) (fPack laws_szJobS_e0_1 [z0]))
noncomputable def laws_szJobS : Nat → T → T → (T → An) → An
  | 0, _, _, _ => .bad
  | m + 1, x0, x1, k0 =>
    cond (decide ((IntKind.i64.wrap (x1.int - (x0.rows.length : Int))) < 0))
    (k0 (T.i (-1)))
    (laws_szJobS_L0_0 m m (T.l x0.rows) (T.i (IntKind.i64.wrap (x1.int - (x0.rows.length : Int)))) (T.i 0)
    (fun y1 => k0 y1)
    (fun y2 => k0 y2))
noncomputable def laws_szJobS_a : List Arg := [.one (.dz [.sc (.int .i64), .sl [.sc (.int .i64), .sc (.str), .sc (.str)], .sc (.int .i64), .sl [.sc (.int .i64)]] []), .one (.sc (.int .i64) (.l []))]
noncomputable def laws_szJobS_w (m : Nat) (vs : List T) (k : Ret → An) : An := laws_szJobS m (vs.headD dflt) (vs.tail.headD dflt) (fun z0 => k ⟨[.one (.sc (.int .i64) z0)], [[none], [none]], [none, none]⟩)
theorem laws_szJobS_cf (m : Nat) : callK CX prims m = (patC 114 laws_szJob_a (laws_szJob_w m) (callK CX prims m)) := by
  rw [← patC_eq (fun vs k => laws_szJob_eq m vs k)]
noncomputable def laws_szJobS_c : Code := (Try.f74.body).getD .skip
noncomputable def laws_szJobS_fi : Fi := ⟨74, 2, 27, 16⟩
theorem laws_szJobS_lf (m : Nat) : ∀ n, (∀ vs k, loopK CX (callK CX prims m) laws_szJobS_fi laws_szJobS_c n [0, 1, 0, 1, 1, 1] (fPack laws_szJobS_s0_0 vs) k = laws_szJobS_L0_0w m n vs k) ∧ ((loopK CX (callK CX prims m) laws_szJobS_fi laws_szJobS_c n) = (patL [0, 1, 0, 1, 1, 1] laws_szJobS_s0_0 (laws_szJobS_L0_0w m n) (loopK CX (callK CX prims m) laws_szJobS_fi laws_szJobS_c n))) := by
  intro n
  have hl : ∀ n, (∀ vs k, loopK CX (callK CX prims m) laws_szJobS_fi laws_szJobS_c n [0, 1, 0, 1, 1, 1] (fPack laws_szJobS_s0_0 vs) k = laws_szJobS_L0_0w m n vs k) → ((loopK CX (callK CX prims m) laws_szJobS_fi laws_szJobS_c n) = (patL [0, 1, 0, 1, 1, 1] laws_szJobS_s0_0 (laws_szJobS_L0_0w m n) (loopK CX (callK CX prims m) laws_szJobS_fi laws_szJobS_c n))) := by
    intro n h0
    rw [← patL_eq h0]
  induction n with
  | zero => exact ⟨fun vs k => rfl, hl 0 (fun vs k => rfl)⟩
  | succ n ihn =>
    have hn := ihn.2
    have h0 : ∀ vs k, loopK CX (callK CX prims m) laws_szJobS_fi laws_szJobS_c (n + 1) [0, 1, 0, 1, 1, 1] (fPack laws_szJobS_s0_0 vs) k = laws_szJobS_L0_0w m (n + 1) vs k := fun vs k =>
      (stepL_congr (laws_szJobS_cf m) hn [0, 1, 0, 1, 1, 1] _ _).trans (by kernel_rfl)
    exact ⟨h0, hl (n + 1) h0⟩
theorem laws_szJobS_eq (m : Nat) : ∀ vs k, callK CX prims m 74 (fArgs laws_szJobS_a vs) k = laws_szJobS_w m vs k := by
  cases m with
  | zero => exact fun vs k => rfl
  | succ m => exact fun vs k => Eq.trans (b := bodyK CX (callK CX prims m) (loopK CX (callK CX prims m) laws_szJobS_fi laws_szJobS_c m) 74 Try.f74 laws_szJobS_c (fArgs laws_szJobS_a vs) k) (by kernel_rfl) ((bodyK_congr (laws_szJobS_cf m) ((laws_szJobS_lf m m).2) 74 Try.f74 laws_szJobS_c (fArgs laws_szJobS_a vs) k).trans (by kernel_rfl))

/-! loop.example/g00244/laws.szChoiceS -/
noncomputable def laws_szChoiceS : Nat → T → T → (T → An) → An
  | 0, _, _, _ => .bad
  | m + 1, x0, x1, k0 =>
    cond (decide ((IntKind.i64.wrap (x1.int - (x0.rows.length : Int))) < 0))
    (k0 (T.i (-1)))
    (k0 (T.i (IntKind.i64.wrap (x1.int - (x0.rows.length : Int)))))
noncomputable def laws_szChoiceS_a : List Arg := [.one (.dz [.sc (.int .i64), .sc (.bool)] []), .one (.sc (.int .i64) (.l []))]
noncomputable def laws_szChoiceS_w (m : Nat) (vs : List T) (k : Ret → An) : An := laws_szChoiceS m (vs.headD dflt) (vs.tail.headD dflt) (fun z0 => k ⟨[.one (.sc (.int .i64) z0)], [[none], [none]], [none, none]⟩)
theorem laws_szChoiceS_cf (m : Nat) : callK CX prims m = (callK CX prims m) := by
  rfl
noncomputable def laws_szChoiceS_c : Code := (Try.f75.body).getD .skip
noncomputable def laws_szChoiceS_fi : Fi := ⟨75, 2, 12, 16⟩
theorem laws_szChoiceS_eq (m : Nat) : ∀ vs k, callK CX prims m 75 (fArgs laws_szChoiceS_a vs) k = laws_szChoiceS_w m vs k := by
  cases m with
  | zero => exact fun vs k => rfl
  | succ m => exact fun vs k => Eq.trans (b := bodyK CX (callK CX prims m) (loopK CX (callK CX prims m) laws_szChoiceS_fi laws_szChoiceS_c m) 75 Try.f75 laws_szChoiceS_c (fArgs laws_szChoiceS_a vs) k) (by kernel_rfl) ((bodyK_congr (laws_szChoiceS_cf m) rfl 75 Try.f75 laws_szChoiceS_c (fArgs laws_szChoiceS_a vs) k).trans (by kernel_rfl))

/-! loop.example/g00244/laws.szCoord -/
noncomputable def laws_szCoord : Nat → T → T → T → T → T → T → T → (T → An) → An
  | 0, _, _, _, _, _, _, _, _ => .bad
  | m + 1, x0, x1, x2, x3, x4, x5, x6, k0 =>
    laws_szJobS m (T.l x3.rows) x6
    (fun y0 => cond (decide (y0.int < 0))
    (k0 (T.i (-1)))
    (laws_szChoiceS m (T.l x4.rows) y0
    (fun y1 => cond (decide (y1.int < 0))
    (k0 (T.i (-1)))
    (k0 y1))))
noncomputable def laws_szCoord_a : List Arg := [.agg [.sc (.int .i64) (.l []), .sc (.int .i64) (.l []), .sc (.int .i64) (.l []), .dz [.sc (.int .i64), .sl [.sc (.int .i64), .sc (.str), .sc (.str)], .sc (.int .i64), .sl [.sc (.int .i64)]] [], .dz [.sc (.int .i64), .sc (.bool)] [], .sc (.int .i64) (.l [])], .one (.sc (.int .i64) (.l []))]
noncomputable def laws_szCoord_w (m : Nat) (vs : List T) (k : Ret → An) : An := laws_szCoord m (vs.headD dflt) (vs.tail.headD dflt) (vs.tail.tail.headD dflt) (vs.tail.tail.tail.headD dflt) (vs.tail.tail.tail.tail.headD dflt) (vs.tail.tail.tail.tail.tail.headD dflt) (vs.tail.tail.tail.tail.tail.tail.headD dflt) (fun z0 => k ⟨[.one (.sc (.int .i64) z0)], [[none, none, none, none, none, none], [none]], [none, none]⟩)
theorem laws_szCoord_cf (m : Nat) : callK CX prims m = (patC 74 laws_szJobS_a (laws_szJobS_w m) (patC 75 laws_szChoiceS_a (laws_szChoiceS_w m) (callK CX prims m))) := by
  rw [← patC_eq (fun vs k => laws_szChoiceS_eq m vs k), ← patC_eq (fun vs k => laws_szJobS_eq m vs k)]
noncomputable def laws_szCoord_c : Code := (Try.f34.body).getD .skip
noncomputable def laws_szCoord_fi : Fi := ⟨34, 2, 18, 16⟩
theorem laws_szCoord_eq (m : Nat) : ∀ vs k, callK CX prims m 34 (fArgs laws_szCoord_a vs) k = laws_szCoord_w m vs k := by
  cases m with
  | zero => exact fun vs k => rfl
  | succ m => exact fun vs k => Eq.trans (b := bodyK CX (callK CX prims m) (loopK CX (callK CX prims m) laws_szCoord_fi laws_szCoord_c m) 34 Try.f34 laws_szCoord_c (fArgs laws_szCoord_a vs) k) (by kernel_rfl) ((bodyK_congr (laws_szCoord_cf m) rfl 34 Try.f34 laws_szCoord_c (fArgs laws_szCoord_a vs) k).trans (by kernel_rfl))

/-! loop.example/g00244/laws.szRec -/
noncomputable def laws_szRec : Nat → T → T → T → T → (T → An) → An
  | 0, _, _, _, _, _ => .bad
  | m + 1, x0, x1, x2, x3, k0 =>
    laws_szOpS m (T.l x2.rows) x3
    (fun y0 => cond (decide (y0.int < 0))
    (k0 (T.i (-1)))
    (k0 y0))
noncomputable def laws_szRec_a : List Arg := [.agg [.sc (.int .i64) (.l []), .sc (.int .i64) (.l []), .dz [.sc (.int .i64), .sc (.str), .sc (.str)] []], .one (.sc (.int .i64) (.l []))]
noncomputable def laws_szRec_w (m : Nat) (vs : List T) (k : Ret → An) : An := laws_szRec m (vs.headD dflt) (vs.tail.headD dflt) (vs.tail.tail.headD dflt) (vs.tail.tail.tail.headD dflt) (fun z0 => k ⟨[.one (.sc (.int .i64) z0)], [[none, none, none], [none]], [none, none]⟩)
theorem laws_szRec_cf (m : Nat) : callK CX prims m = (patC 116 laws_szOpS_a (laws_szOpS_w m) (callK CX prims m)) := by
  rw [← patC_eq (fun vs k => laws_szOpS_eq m vs k)]
noncomputable def laws_szRec_c : Code := (Try.f143.body).getD .skip
noncomputable def laws_szRec_fi : Fi := ⟨143, 2, 12, 16⟩
theorem laws_szRec_eq (m : Nat) : ∀ vs k, callK CX prims m 143 (fArgs laws_szRec_a vs) k = laws_szRec_w m vs k := by
  cases m with
  | zero => exact fun vs k => rfl
  | succ m => exact fun vs k => Eq.trans (b := bodyK CX (callK CX prims m) (loopK CX (callK CX prims m) laws_szRec_fi laws_szRec_c m) 143 Try.f143 laws_szRec_c (fArgs laws_szRec_a vs) k) (by kernel_rfl) ((bodyK_congr (laws_szRec_cf m) rfl 143 Try.f143 laws_szRec_c (fArgs laws_szRec_a vs) k).trans (by kernel_rfl))

/-! loop.example/g00244/laws.szRecS -/
noncomputable def laws_szRecS_L0_0 (m : Nat) : Nat → T → T → T → (T → An) → (T → An) → An
  | 0, _, _, _, _, _ => .bad
  | n + 1, x0, x1, x2, k0, k1 =>
    cond (decide (x2.int < (x0.rows.length : Int)))
    (cond (decide ((0 : Int) ≤ x2.int ∧ x2.int < (x0.rows.length : Int)))
    (laws_szRec m ((x0.rows.getD (Int.toNat x2.int) []).getD 0 dflt) ((x0.rows.getD (Int.toNat x2.int) []).getD 1 dflt) (T.l ((x0.rows.getD (Int.toNat x2.int) []).getD 2 dflt).rows) x1
    (fun y0 => cond (decide (y0.int < 0))
    (k0 (T.i (-1)))
    (laws_szRecS_L0_0 m n x0 y0 (T.i (IntKind.i64.wrap (x2.int + 1))) k0 k1)))
    (.bad))
    (k1 x1)
noncomputable def laws_szRecS_s0_0 : Pack := ⟨[(0, .one ⟨.sn [([4000000], 0)], .sl [.sc (.int .i64), .sc (.int .i64), .sl [.sc (.int .i64), .sc (.str), .sc (.str)]], .l []⟩), (1, .one ⟨.sc, .sc (.int .i64), .l []⟩), (5, .one ⟨.sc, .sc (.int .i64), .l []⟩)], [([4000000], .gone)]⟩
noncomputable def laws_szRecS_e0_0 : Pack := ⟨[(4, .one ⟨.sc, .sc (.int .i64), .l []⟩)], []⟩
noncomputable def laws_szRecS_e0_1 : Pack := ⟨[(1, .one ⟨.sc, .sc (.int .i64), .l []⟩)], []⟩
noncomputable def laws_szRecS_L0_0w (m n : Nat) (vs : List T) (k : Ctl → Pack → An) : An := laws_szRecS_L0_0 m n (vs.headD dflt) (vs.tail.headD dflt) (vs.tail.tail.headD dflt) (fun z0 => k .ret (fPack laws_szRecS_e0_0 [z0])) (fun z0 => k (.exit 0) (fPack laws_szRecS_e0_1 [z0]))
noncomputable def laws_szRecS : Nat → T → T → (T → An) → An
  | 0, _, _, _ => .bad
  | m + 1, x0, x1, k0 =>
    cond (decide ((IntKind.i64.wrap (x1.int - (x0.rows.length : Int))) < 0))
    (k0 (T.i (-1)))
    (laws_szRecS_L0_0 m m (T.l x0.rows) (T.i (IntKind.i64.wrap (x1.int - (x0.rows.length : Int)))) (T.i 0)
    (fun y1 => k0 y1)
    (fun y2 => k0 y2))
noncomputable def laws_szRecS_a : List Arg := [.one (.dz [.sc (.int .i64), .sc (.int .i64), .sl [.sc (.int .i64), .sc (.str), .sc (.str)]] []), .one (.sc (.int .i64) (.l []))]
noncomputable def laws_szRecS_w (m : Nat) (vs : List T) (k : Ret → An) : An := laws_szRecS m (vs.headD dflt) (vs.tail.headD dflt) (fun z0 => k ⟨[.one (.sc (.int .i64) z0)], [[none], [none]], [none, none]⟩)
theorem laws_szRecS_cf (m : Nat) : callK CX prims m = (patC 143 laws_szRec_a (laws_szRec_w m) (callK CX prims m)) := by
  rw [← patC_eq (fun vs k => laws_szRec_eq m vs k)]
noncomputable def laws_szRecS_c : Code := (Try.f115.body).getD .skip
noncomputable def laws_szRecS_fi : Fi := ⟨115, 2, 27, 16⟩
theorem laws_szRecS_lf (m : Nat) : ∀ n, (∀ vs k, loopK CX (callK CX prims m) laws_szRecS_fi laws_szRecS_c n [0, 1, 0, 1, 1, 1] (fPack laws_szRecS_s0_0 vs) k = laws_szRecS_L0_0w m n vs k) ∧ ((loopK CX (callK CX prims m) laws_szRecS_fi laws_szRecS_c n) = (patL [0, 1, 0, 1, 1, 1] laws_szRecS_s0_0 (laws_szRecS_L0_0w m n) (loopK CX (callK CX prims m) laws_szRecS_fi laws_szRecS_c n))) := by
  intro n
  have hl : ∀ n, (∀ vs k, loopK CX (callK CX prims m) laws_szRecS_fi laws_szRecS_c n [0, 1, 0, 1, 1, 1] (fPack laws_szRecS_s0_0 vs) k = laws_szRecS_L0_0w m n vs k) → ((loopK CX (callK CX prims m) laws_szRecS_fi laws_szRecS_c n) = (patL [0, 1, 0, 1, 1, 1] laws_szRecS_s0_0 (laws_szRecS_L0_0w m n) (loopK CX (callK CX prims m) laws_szRecS_fi laws_szRecS_c n))) := by
    intro n h0
    rw [← patL_eq h0]
  induction n with
  | zero => exact ⟨fun vs k => rfl, hl 0 (fun vs k => rfl)⟩
  | succ n ihn =>
    have hn := ihn.2
    have h0 : ∀ vs k, loopK CX (callK CX prims m) laws_szRecS_fi laws_szRecS_c (n + 1) [0, 1, 0, 1, 1, 1] (fPack laws_szRecS_s0_0 vs) k = laws_szRecS_L0_0w m (n + 1) vs k := fun vs k =>
      (stepL_congr (laws_szRecS_cf m) hn [0, 1, 0, 1, 1, 1] _ _).trans (by kernel_rfl)
    exact ⟨h0, hl (n + 1) h0⟩
theorem laws_szRecS_eq (m : Nat) : ∀ vs k, callK CX prims m 115 (fArgs laws_szRecS_a vs) k = laws_szRecS_w m vs k := by
  cases m with
  | zero => exact fun vs k => rfl
  | succ m => exact fun vs k => Eq.trans (b := bodyK CX (callK CX prims m) (loopK CX (callK CX prims m) laws_szRecS_fi laws_szRecS_c m) 115 Try.f115 laws_szRecS_c (fArgs laws_szRecS_a vs) k) (by kernel_rfl) ((bodyK_congr (laws_szRecS_cf m) ((laws_szRecS_lf m m).2) 115 Try.f115 laws_szRecS_c (fArgs laws_szRecS_a vs) k).trans (by kernel_rfl))

/-! loop.example/g00244/laws.szPair -/
noncomputable def laws_szPair : Nat → T → T → T → (T → An) → An
  | 0, _, _, _, _ => .bad
  | m + 1, x0, x1, x2, k0 =>
    cond (decide ((IntKind.i64.wrap (x2.int - (x0.str.size : Int))) < 0))
    (k0 (T.i (-1)))
    (cond (decide ((IntKind.i64.wrap ((IntKind.i64.wrap (x2.int - (x0.str.size : Int))) - (x1.str.size : Int))) < 0))
    (k0 (T.i (-1)))
    (k0 (T.i (IntKind.i64.wrap ((IntKind.i64.wrap (x2.int - (x0.str.size : Int))) - (x1.str.size : Int))))))
noncomputable def laws_szPair_a : List Arg := [.agg [.sc (.str) (.l []), .sc (.str) (.l [])], .one (.sc (.int .i64) (.l []))]
noncomputable def laws_szPair_w (m : Nat) (vs : List T) (k : Ret → An) : An := laws_szPair m (vs.headD dflt) (vs.tail.headD dflt) (vs.tail.tail.headD dflt) (fun z0 => k ⟨[.one (.sc (.int .i64) z0)], [[none, none], [none]], [none, none]⟩)
theorem laws_szPair_cf (m : Nat) : callK CX prims m = (callK CX prims m) := by
  rfl
noncomputable def laws_szPair_c : Code := (Try.f128.body).getD .skip
noncomputable def laws_szPair_fi : Fi := ⟨128, 2, 20, 16⟩
theorem laws_szPair_eq (m : Nat) : ∀ vs k, callK CX prims m 128 (fArgs laws_szPair_a vs) k = laws_szPair_w m vs k := by
  cases m with
  | zero => exact fun vs k => rfl
  | succ m => exact fun vs k => Eq.trans (b := bodyK CX (callK CX prims m) (loopK CX (callK CX prims m) laws_szPair_fi laws_szPair_c m) 128 Try.f128 laws_szPair_c (fArgs laws_szPair_a vs) k) (by kernel_rfl) ((bodyK_congr (laws_szPair_cf m) rfl 128 Try.f128 laws_szPair_c (fArgs laws_szPair_a vs) k).trans (by kernel_rfl))

/-! loop.example/g00244/laws.szPairS -/
noncomputable def laws_szPairS_L0_0 (m : Nat) : Nat → T → T → T → (T → An) → (T → An) → An
  | 0, _, _, _, _, _ => .bad
  | n + 1, x0, x1, x2, k0, k1 =>
    cond (decide (x2.int < (x0.rows.length : Int)))
    (cond (decide ((0 : Int) ≤ x2.int ∧ x2.int < (x0.rows.length : Int)))
    (laws_szPair m ((x0.rows.getD (Int.toNat x2.int) []).getD 0 dflt) ((x0.rows.getD (Int.toNat x2.int) []).getD 1 dflt) x1
    (fun y0 => cond (decide (y0.int < 0))
    (k0 (T.i (-1)))
    (laws_szPairS_L0_0 m n x0 y0 (T.i (IntKind.i64.wrap (x2.int + 1))) k0 k1)))
    (.bad))
    (k1 x1)
noncomputable def laws_szPairS_s0_0 : Pack := ⟨[(0, .one ⟨.sn [([4000000], 0)], .sl [.sc (.str), .sc (.str)], .l []⟩), (1, .one ⟨.sc, .sc (.int .i64), .l []⟩), (5, .one ⟨.sc, .sc (.int .i64), .l []⟩)], [([4000000], .gone)]⟩
noncomputable def laws_szPairS_e0_0 : Pack := ⟨[(4, .one ⟨.sc, .sc (.int .i64), .l []⟩)], []⟩
noncomputable def laws_szPairS_e0_1 : Pack := ⟨[(1, .one ⟨.sc, .sc (.int .i64), .l []⟩)], []⟩
noncomputable def laws_szPairS_L0_0w (m n : Nat) (vs : List T) (k : Ctl → Pack → An) : An := laws_szPairS_L0_0 m n (vs.headD dflt) (vs.tail.headD dflt) (vs.tail.tail.headD dflt) (fun z0 => k .ret (fPack laws_szPairS_e0_0 [z0])) (fun z0 => k (.exit 0) (fPack laws_szPairS_e0_1 [z0]))
noncomputable def laws_szPairS : Nat → T → T → (T → An) → An
  | 0, _, _, _ => .bad
  | m + 1, x0, x1, k0 =>
    cond (decide ((IntKind.i64.wrap (x1.int - (x0.rows.length : Int))) < 0))
    (k0 (T.i (-1)))
    (laws_szPairS_L0_0 m m (T.l x0.rows) (T.i (IntKind.i64.wrap (x1.int - (x0.rows.length : Int)))) (T.i 0)
    (fun y1 => k0 y1)
    (fun y2 => k0 y2))
noncomputable def laws_szPairS_a : List Arg := [.one (.dz [.sc (.str), .sc (.str)] []), .one (.sc (.int .i64) (.l []))]
noncomputable def laws_szPairS_w (m : Nat) (vs : List T) (k : Ret → An) : An := laws_szPairS m (vs.headD dflt) (vs.tail.headD dflt) (fun z0 => k ⟨[.one (.sc (.int .i64) z0)], [[none], [none]], [none, none]⟩)
theorem laws_szPairS_cf (m : Nat) : callK CX prims m = (patC 128 laws_szPair_a (laws_szPair_w m) (callK CX prims m)) := by
  rw [← patC_eq (fun vs k => laws_szPair_eq m vs k)]
noncomputable def laws_szPairS_c : Code := (Try.f95.body).getD .skip
noncomputable def laws_szPairS_fi : Fi := ⟨95, 2, 27, 16⟩
theorem laws_szPairS_lf (m : Nat) : ∀ n, (∀ vs k, loopK CX (callK CX prims m) laws_szPairS_fi laws_szPairS_c n [0, 1, 0, 1, 1, 1] (fPack laws_szPairS_s0_0 vs) k = laws_szPairS_L0_0w m n vs k) ∧ ((loopK CX (callK CX prims m) laws_szPairS_fi laws_szPairS_c n) = (patL [0, 1, 0, 1, 1, 1] laws_szPairS_s0_0 (laws_szPairS_L0_0w m n) (loopK CX (callK CX prims m) laws_szPairS_fi laws_szPairS_c n))) := by
  intro n
  have hl : ∀ n, (∀ vs k, loopK CX (callK CX prims m) laws_szPairS_fi laws_szPairS_c n [0, 1, 0, 1, 1, 1] (fPack laws_szPairS_s0_0 vs) k = laws_szPairS_L0_0w m n vs k) → ((loopK CX (callK CX prims m) laws_szPairS_fi laws_szPairS_c n) = (patL [0, 1, 0, 1, 1, 1] laws_szPairS_s0_0 (laws_szPairS_L0_0w m n) (loopK CX (callK CX prims m) laws_szPairS_fi laws_szPairS_c n))) := by
    intro n h0
    rw [← patL_eq h0]
  induction n with
  | zero => exact ⟨fun vs k => rfl, hl 0 (fun vs k => rfl)⟩
  | succ n ihn =>
    have hn := ihn.2
    have h0 : ∀ vs k, loopK CX (callK CX prims m) laws_szPairS_fi laws_szPairS_c (n + 1) [0, 1, 0, 1, 1, 1] (fPack laws_szPairS_s0_0 vs) k = laws_szPairS_L0_0w m (n + 1) vs k := fun vs k =>
      (stepL_congr (laws_szPairS_cf m) hn [0, 1, 0, 1, 1, 1] _ _).trans (by kernel_rfl)
    exact ⟨h0, hl (n + 1) h0⟩
theorem laws_szPairS_eq (m : Nat) : ∀ vs k, callK CX prims m 95 (fArgs laws_szPairS_a vs) k = laws_szPairS_w m vs k := by
  cases m with
  | zero => exact fun vs k => rfl
  | succ m => exact fun vs k => Eq.trans (b := bodyK CX (callK CX prims m) (loopK CX (callK CX prims m) laws_szPairS_fi laws_szPairS_c m) 95 Try.f95 laws_szPairS_c (fArgs laws_szPairS_a vs) k) (by kernel_rfl) ((bodyK_congr (laws_szPairS_cf m) ((laws_szPairS_lf m m).2) 95 Try.f95 laws_szPairS_c (fArgs laws_szPairS_a vs) k).trans (by kernel_rfl))

/-! loop.example/g00244/laws.szShard -/
noncomputable def laws_szShard : Nat → T → T → T → T → T → T → (T → An) → An
  | 0, _, _, _, _, _, _, _ => .bad
  | m + 1, x0, x1, x2, x3, x4, x5, k0 =>
    laws_szRecS m (T.l x1.rows) x5
    (fun y0 => cond (decide (y0.int < 0))
    (k0 (T.i (-1)))
    (laws_szPairS m (T.l x3.rows) y0
    (fun y1 => cond (decide (y1.int < 0))
    (k0 (T.i (-1)))
    (laws_szRecS m (T.l x4.rows) y1
    (fun y2 => cond (decide (y2.int < 0))
    (k0 (T.i (-1)))
    (k0 y2))))))
noncomputable def laws_szShard_a : List Arg := [.agg [.sc (.int .i64) (.l []), .dz [.sc (.int .i64), .sc (.int .i64), .sl [.sc (.int .i64), .sc (.str), .sc (.str)]] [], .sc (.int .i64) (.l []), .dz [.sc (.str), .sc (.str)] [], .dz [.sc (.int .i64), .sc (.int .i64), .sl [.sc (.int .i64), .sc (.str), .sc (.str)]] []], .one (.sc (.int .i64) (.l []))]
noncomputable def laws_szShard_w (m : Nat) (vs : List T) (k : Ret → An) : An := laws_szShard m (vs.headD dflt) (vs.tail.headD dflt) (vs.tail.tail.headD dflt) (vs.tail.tail.tail.headD dflt) (vs.tail.tail.tail.tail.headD dflt) (vs.tail.tail.tail.tail.tail.headD dflt) (fun z0 => k ⟨[.one (.sc (.int .i64) z0)], [[none, none, none, none, none], [none]], [none, none]⟩)
theorem laws_szShard_cf (m : Nat) : callK CX prims m = (patC 115 laws_szRecS_a (laws_szRecS_w m) (patC 95 laws_szPairS_a (laws_szPairS_w m) (callK CX prims m))) := by
  rw [← patC_eq (fun vs k => laws_szPairS_eq m vs k), ← patC_eq (fun vs k => laws_szRecS_eq m vs k)]
noncomputable def laws_szShard_c : Code := (Try.f76.body).getD .skip
noncomputable def laws_szShard_fi : Fi := ⟨76, 2, 24, 16⟩
theorem laws_szShard_eq (m : Nat) : ∀ vs k, callK CX prims m 76 (fArgs laws_szShard_a vs) k = laws_szShard_w m vs k := by
  cases m with
  | zero => exact fun vs k => rfl
  | succ m => exact fun vs k => Eq.trans (b := bodyK CX (callK CX prims m) (loopK CX (callK CX prims m) laws_szShard_fi laws_szShard_c m) 76 Try.f76 laws_szShard_c (fArgs laws_szShard_a vs) k) (by kernel_rfl) ((bodyK_congr (laws_szShard_cf m) rfl 76 Try.f76 laws_szShard_c (fArgs laws_szShard_a vs) k).trans (by kernel_rfl))

/-! loop.example/g00244/laws.szShardS -/
noncomputable def laws_szShardS_L0_0 (m : Nat) : Nat → T → T → T → (T → An) → (T → An) → An
  | 0, _, _, _, _, _ => .bad
  | n + 1, x0, x1, x2, k0, k1 =>
    cond (decide (x2.int < (x0.rows.length : Int)))
    (cond (decide ((0 : Int) ≤ x2.int ∧ x2.int < (x0.rows.length : Int)))
    (laws_szShard m ((x0.rows.getD (Int.toNat x2.int) []).getD 0 dflt) (T.l ((x0.rows.getD (Int.toNat x2.int) []).getD 1 dflt).rows) ((x0.rows.getD (Int.toNat x2.int) []).getD 2 dflt) (T.l ((x0.rows.getD (Int.toNat x2.int) []).getD 3 dflt).rows) (T.l ((x0.rows.getD (Int.toNat x2.int) []).getD 4 dflt).rows) x1
    (fun y0 => cond (decide (y0.int < 0))
    (k0 (T.i (-1)))
    (laws_szShardS_L0_0 m n x0 y0 (T.i (IntKind.i64.wrap (x2.int + 1))) k0 k1)))
    (.bad))
    (k1 x1)
noncomputable def laws_szShardS_s0_0 : Pack := ⟨[(0, .one ⟨.sn [([4000000], 0)], .sl [.sc (.int .i64), .sl [.sc (.int .i64), .sc (.int .i64), .sl [.sc (.int .i64), .sc (.str), .sc (.str)]], .sc (.int .i64), .sl [.sc (.str), .sc (.str)], .sl [.sc (.int .i64), .sc (.int .i64), .sl [.sc (.int .i64), .sc (.str), .sc (.str)]]], .l []⟩), (1, .one ⟨.sc, .sc (.int .i64), .l []⟩), (5, .one ⟨.sc, .sc (.int .i64), .l []⟩)], [([4000000], .gone)]⟩
noncomputable def laws_szShardS_e0_0 : Pack := ⟨[(4, .one ⟨.sc, .sc (.int .i64), .l []⟩)], []⟩
noncomputable def laws_szShardS_e0_1 : Pack := ⟨[(1, .one ⟨.sc, .sc (.int .i64), .l []⟩)], []⟩
noncomputable def laws_szShardS_L0_0w (m n : Nat) (vs : List T) (k : Ctl → Pack → An) : An := laws_szShardS_L0_0 m n (vs.headD dflt) (vs.tail.headD dflt) (vs.tail.tail.headD dflt) (fun z0 => k .ret (fPack laws_szShardS_e0_0 [z0])) (fun z0 => k (.exit 0) (fPack laws_szShardS_e0_1 [z0]))
noncomputable def laws_szShardS : Nat → T → T → (T → An) → An
  | 0, _, _, _ => .bad
  | m + 1, x0, x1, k0 =>
    cond (decide ((IntKind.i64.wrap (x1.int - (x0.rows.length : Int))) < 0))
    (k0 (T.i (-1)))
    (laws_szShardS_L0_0 m m (T.l x0.rows) (T.i (IntKind.i64.wrap (x1.int - (x0.rows.length : Int)))) (T.i 0)
    (fun y1 => k0 y1)
    (fun y2 => k0 y2))
noncomputable def laws_szShardS_a : List Arg := [.one (.dz [.sc (.int .i64), .sl [.sc (.int .i64), .sc (.int .i64), .sl [.sc (.int .i64), .sc (.str), .sc (.str)]], .sc (.int .i64), .sl [.sc (.str), .sc (.str)], .sl [.sc (.int .i64), .sc (.int .i64), .sl [.sc (.int .i64), .sc (.str), .sc (.str)]]] []), .one (.sc (.int .i64) (.l []))]
noncomputable def laws_szShardS_w (m : Nat) (vs : List T) (k : Ret → An) : An := laws_szShardS m (vs.headD dflt) (vs.tail.headD dflt) (fun z0 => k ⟨[.one (.sc (.int .i64) z0)], [[none], [none]], [none, none]⟩)
theorem laws_szShardS_cf (m : Nat) : callK CX prims m = (patC 76 laws_szShard_a (laws_szShard_w m) (callK CX prims m)) := by
  rw [← patC_eq (fun vs k => laws_szShard_eq m vs k)]
noncomputable def laws_szShardS_c : Code := (Try.f35.body).getD .skip
noncomputable def laws_szShardS_fi : Fi := ⟨35, 2, 27, 16⟩
theorem laws_szShardS_lf (m : Nat) : ∀ n, (∀ vs k, loopK CX (callK CX prims m) laws_szShardS_fi laws_szShardS_c n [0, 1, 0, 1, 1, 1] (fPack laws_szShardS_s0_0 vs) k = laws_szShardS_L0_0w m n vs k) ∧ ((loopK CX (callK CX prims m) laws_szShardS_fi laws_szShardS_c n) = (patL [0, 1, 0, 1, 1, 1] laws_szShardS_s0_0 (laws_szShardS_L0_0w m n) (loopK CX (callK CX prims m) laws_szShardS_fi laws_szShardS_c n))) := by
  intro n
  have hl : ∀ n, (∀ vs k, loopK CX (callK CX prims m) laws_szShardS_fi laws_szShardS_c n [0, 1, 0, 1, 1, 1] (fPack laws_szShardS_s0_0 vs) k = laws_szShardS_L0_0w m n vs k) → ((loopK CX (callK CX prims m) laws_szShardS_fi laws_szShardS_c n) = (patL [0, 1, 0, 1, 1, 1] laws_szShardS_s0_0 (laws_szShardS_L0_0w m n) (loopK CX (callK CX prims m) laws_szShardS_fi laws_szShardS_c n))) := by
    intro n h0
    rw [← patL_eq h0]
  induction n with
  | zero => exact ⟨fun vs k => rfl, hl 0 (fun vs k => rfl)⟩
  | succ n ihn =>
    have hn := ihn.2
    have h0 : ∀ vs k, loopK CX (callK CX prims m) laws_szShardS_fi laws_szShardS_c (n + 1) [0, 1, 0, 1, 1, 1] (fPack laws_szShardS_s0_0 vs) k = laws_szShardS_L0_0w m (n + 1) vs k := fun vs k =>
      (stepL_congr (laws_szShardS_cf m) hn [0, 1, 0, 1, 1, 1] _ _).trans (by kernel_rfl)
    exact ⟨h0, hl (n + 1) h0⟩
theorem laws_szShardS_eq (m : Nat) : ∀ vs k, callK CX prims m 35 (fArgs laws_szShardS_a vs) k = laws_szShardS_w m vs k := by
  cases m with
  | zero => exact fun vs k => rfl
  | succ m => exact fun vs k => Eq.trans (b := bodyK CX (callK CX prims m) (loopK CX (callK CX prims m) laws_szShardS_fi laws_szShardS_c m) 35 Try.f35 laws_szShardS_c (fArgs laws_szShardS_a vs) k) (by kernel_rfl) ((bodyK_congr (laws_szShardS_cf m) ((laws_szShardS_lf m m).2) 35 Try.f35 laws_szShardS_c (fArgs laws_szShardS_a vs) k).trans (by kernel_rfl))

/-! loop.example/g00244/laws.szWord -/
noncomputable def laws_szWord : Nat → T → T → T → T → T → T → (T → An) → An
  | 0, _, _, _, _, _, _, _ => .bad
  | m + 1, x0, x1, x2, x3, x4, x5, k0 =>
    laws_szOpS m (T.l x3.rows) x5
    (fun y0 => cond (decide (y0.int < 0))
    (k0 (T.i (-1)))
    (k0 y0))
noncomputable def laws_szWord_a : List Arg := [.agg [.sc (.int .i64) (.l []), .sc (.int .i64) (.l []), .sc (.int .i64) (.l []), .dz [.sc (.int .i64), .sc (.str), .sc (.str)] [], .sc (.bool) (.l [])], .one (.sc (.int .i64) (.l []))]
noncomputable def laws_szWord_w (m : Nat) (vs : List T) (k : Ret → An) : An := laws_szWord m (vs.headD dflt) (vs.tail.headD dflt) (vs.tail.tail.headD dflt) (vs.tail.tail.tail.headD dflt) (vs.tail.tail.tail.tail.headD dflt) (vs.tail.tail.tail.tail.tail.headD dflt) (fun z0 => k ⟨[.one (.sc (.int .i64) z0)], [[none, none, none, none, none], [none]], [none, none]⟩)
theorem laws_szWord_cf (m : Nat) : callK CX prims m = (patC 116 laws_szOpS_a (laws_szOpS_w m) (callK CX prims m)) := by
  rw [← patC_eq (fun vs k => laws_szOpS_eq m vs k)]
noncomputable def laws_szWord_c : Code := (Try.f77.body).getD .skip
noncomputable def laws_szWord_fi : Fi := ⟨77, 2, 12, 16⟩
theorem laws_szWord_eq (m : Nat) : ∀ vs k, callK CX prims m 77 (fArgs laws_szWord_a vs) k = laws_szWord_w m vs k := by
  cases m with
  | zero => exact fun vs k => rfl
  | succ m => exact fun vs k => Eq.trans (b := bodyK CX (callK CX prims m) (loopK CX (callK CX prims m) laws_szWord_fi laws_szWord_c m) 77 Try.f77 laws_szWord_c (fArgs laws_szWord_a vs) k) (by kernel_rfl) ((bodyK_congr (laws_szWord_cf m) rfl 77 Try.f77 laws_szWord_c (fArgs laws_szWord_a vs) k).trans (by kernel_rfl))

/-! loop.example/g00244/laws.szWordS -/
noncomputable def laws_szWordS_L0_0 (m : Nat) : Nat → T → T → T → (T → An) → (T → An) → An
  | 0, _, _, _, _, _ => .bad
  | n + 1, x0, x1, x2, k0, k1 =>
    cond (decide (x2.int < (x0.rows.length : Int)))
    (cond (decide ((0 : Int) ≤ x2.int ∧ x2.int < (x0.rows.length : Int)))
    (laws_szWord m ((x0.rows.getD (Int.toNat x2.int) []).getD 0 dflt) ((x0.rows.getD (Int.toNat x2.int) []).getD 1 dflt) ((x0.rows.getD (Int.toNat x2.int) []).getD 2 dflt) (T.l ((x0.rows.getD (Int.toNat x2.int) []).getD 3 dflt).rows) ((x0.rows.getD (Int.toNat x2.int) []).getD 4 dflt) x1
    (fun y0 => cond (decide (y0.int < 0))
    (k0 (T.i (-1)))
    (laws_szWordS_L0_0 m n x0 y0 (T.i (IntKind.i64.wrap (x2.int + 1))) k0 k1)))
    (.bad))
    (k1 x1)
noncomputable def laws_szWordS_s0_0 : Pack := ⟨[(0, .one ⟨.sn [([4000000], 0)], .sl [.sc (.int .i64), .sc (.int .i64), .sc (.int .i64), .sl [.sc (.int .i64), .sc (.str), .sc (.str)], .sc (.bool)], .l []⟩), (1, .one ⟨.sc, .sc (.int .i64), .l []⟩), (5, .one ⟨.sc, .sc (.int .i64), .l []⟩)], [([4000000], .gone)]⟩
noncomputable def laws_szWordS_e0_0 : Pack := ⟨[(4, .one ⟨.sc, .sc (.int .i64), .l []⟩)], []⟩
noncomputable def laws_szWordS_e0_1 : Pack := ⟨[(1, .one ⟨.sc, .sc (.int .i64), .l []⟩)], []⟩
noncomputable def laws_szWordS_L0_0w (m n : Nat) (vs : List T) (k : Ctl → Pack → An) : An := laws_szWordS_L0_0 m n (vs.headD dflt) (vs.tail.headD dflt) (vs.tail.tail.headD dflt) (fun z0 => k .ret (fPack laws_szWordS_e0_0 [z0])) (fun z0 => k (.exit 0) (fPack laws_szWordS_e0_1 [z0]))
noncomputable def laws_szWordS : Nat → T → T → (T → An) → An
  | 0, _, _, _ => .bad
  | m + 1, x0, x1, k0 =>
    cond (decide ((IntKind.i64.wrap (x1.int - (x0.rows.length : Int))) < 0))
    (k0 (T.i (-1)))
    (laws_szWordS_L0_0 m m (T.l x0.rows) (T.i (IntKind.i64.wrap (x1.int - (x0.rows.length : Int)))) (T.i 0)
    (fun y1 => k0 y1)
    (fun y2 => k0 y2))
noncomputable def laws_szWordS_a : List Arg := [.one (.dz [.sc (.int .i64), .sc (.int .i64), .sc (.int .i64), .sl [.sc (.int .i64), .sc (.str), .sc (.str)], .sc (.bool)] []), .one (.sc (.int .i64) (.l []))]
noncomputable def laws_szWordS_w (m : Nat) (vs : List T) (k : Ret → An) : An := laws_szWordS m (vs.headD dflt) (vs.tail.headD dflt) (fun z0 => k ⟨[.one (.sc (.int .i64) z0)], [[none], [none]], [none, none]⟩)
theorem laws_szWordS_cf (m : Nat) : callK CX prims m = (patC 77 laws_szWord_a (laws_szWord_w m) (callK CX prims m)) := by
  rw [← patC_eq (fun vs k => laws_szWord_eq m vs k)]
noncomputable def laws_szWordS_c : Code := (Try.f36.body).getD .skip
noncomputable def laws_szWordS_fi : Fi := ⟨36, 2, 27, 16⟩
theorem laws_szWordS_lf (m : Nat) : ∀ n, (∀ vs k, loopK CX (callK CX prims m) laws_szWordS_fi laws_szWordS_c n [0, 1, 0, 1, 1, 1] (fPack laws_szWordS_s0_0 vs) k = laws_szWordS_L0_0w m n vs k) ∧ ((loopK CX (callK CX prims m) laws_szWordS_fi laws_szWordS_c n) = (patL [0, 1, 0, 1, 1, 1] laws_szWordS_s0_0 (laws_szWordS_L0_0w m n) (loopK CX (callK CX prims m) laws_szWordS_fi laws_szWordS_c n))) := by
  intro n
  have hl : ∀ n, (∀ vs k, loopK CX (callK CX prims m) laws_szWordS_fi laws_szWordS_c n [0, 1, 0, 1, 1, 1] (fPack laws_szWordS_s0_0 vs) k = laws_szWordS_L0_0w m n vs k) → ((loopK CX (callK CX prims m) laws_szWordS_fi laws_szWordS_c n) = (patL [0, 1, 0, 1, 1, 1] laws_szWordS_s0_0 (laws_szWordS_L0_0w m n) (loopK CX (callK CX prims m) laws_szWordS_fi laws_szWordS_c n))) := by
    intro n h0
    rw [← patL_eq h0]
  induction n with
  | zero => exact ⟨fun vs k => rfl, hl 0 (fun vs k => rfl)⟩
  | succ n ihn =>
    have hn := ihn.2
    have h0 : ∀ vs k, loopK CX (callK CX prims m) laws_szWordS_fi laws_szWordS_c (n + 1) [0, 1, 0, 1, 1, 1] (fPack laws_szWordS_s0_0 vs) k = laws_szWordS_L0_0w m (n + 1) vs k := fun vs k =>
      (stepL_congr (laws_szWordS_cf m) hn [0, 1, 0, 1, 1, 1] _ _).trans (by kernel_rfl)
    exact ⟨h0, hl (n + 1) h0⟩
theorem laws_szWordS_eq (m : Nat) : ∀ vs k, callK CX prims m 36 (fArgs laws_szWordS_a vs) k = laws_szWordS_w m vs k := by
  cases m with
  | zero => exact fun vs k => rfl
  | succ m => exact fun vs k => Eq.trans (b := bodyK CX (callK CX prims m) (loopK CX (callK CX prims m) laws_szWordS_fi laws_szWordS_c m) 36 Try.f36 laws_szWordS_c (fArgs laws_szWordS_a vs) k) (by kernel_rfl) ((bodyK_congr (laws_szWordS_cf m) ((laws_szWordS_lf m m).2) 36 Try.f36 laws_szWordS_c (fArgs laws_szWordS_a vs) k).trans (by kernel_rfl))

/-! loop.example/g00244/laws.szOrder -/
noncomputable def laws_szOrder : Nat → T → T → T → (T → An) → An
  | 0, _, _, _, _ => .bad
  | m + 1, x0, x1, x2, k0 =>
    laws_szOpS m (T.l x1.rows) x2
    (fun y0 => cond (decide (y0.int < 0))
    (k0 (T.i (-1)))
    (k0 y0))
noncomputable def laws_szOrder_a : List Arg := [.agg [.sc (.int .i64) (.l []), .dz [.sc (.int .i64), .sc (.str), .sc (.str)] []], .one (.sc (.int .i64) (.l []))]
noncomputable def laws_szOrder_w (m : Nat) (vs : List T) (k : Ret → An) : An := laws_szOrder m (vs.headD dflt) (vs.tail.headD dflt) (vs.tail.tail.headD dflt) (fun z0 => k ⟨[.one (.sc (.int .i64) z0)], [[none, none], [none]], [none, none]⟩)
theorem laws_szOrder_cf (m : Nat) : callK CX prims m = (patC 116 laws_szOpS_a (laws_szOpS_w m) (callK CX prims m)) := by
  rw [← patC_eq (fun vs k => laws_szOpS_eq m vs k)]
noncomputable def laws_szOrder_c : Code := (Try.f78.body).getD .skip
noncomputable def laws_szOrder_fi : Fi := ⟨78, 2, 12, 16⟩
theorem laws_szOrder_eq (m : Nat) : ∀ vs k, callK CX prims m 78 (fArgs laws_szOrder_a vs) k = laws_szOrder_w m vs k := by
  cases m with
  | zero => exact fun vs k => rfl
  | succ m => exact fun vs k => Eq.trans (b := bodyK CX (callK CX prims m) (loopK CX (callK CX prims m) laws_szOrder_fi laws_szOrder_c m) 78 Try.f78 laws_szOrder_c (fArgs laws_szOrder_a vs) k) (by kernel_rfl) ((bodyK_congr (laws_szOrder_cf m) rfl 78 Try.f78 laws_szOrder_c (fArgs laws_szOrder_a vs) k).trans (by kernel_rfl))

/-! loop.example/g00244/laws.szOrderS -/
noncomputable def laws_szOrderS_L0_0 (m : Nat) : Nat → T → T → T → (T → An) → (T → An) → An
  | 0, _, _, _, _, _ => .bad
  | n + 1, x0, x1, x2, k0, k1 =>
    cond (decide (x2.int < (x0.rows.length : Int)))
    (cond (decide ((0 : Int) ≤ x2.int ∧ x2.int < (x0.rows.length : Int)))
    (laws_szOrder m ((x0.rows.getD (Int.toNat x2.int) []).getD 0 dflt) (T.l ((x0.rows.getD (Int.toNat x2.int) []).getD 1 dflt).rows) x1
    (fun y0 => cond (decide (y0.int < 0))
    (k0 (T.i (-1)))
    (laws_szOrderS_L0_0 m n x0 y0 (T.i (IntKind.i64.wrap (x2.int + 1))) k0 k1)))
    (.bad))
    (k1 x1)
noncomputable def laws_szOrderS_s0_0 : Pack := ⟨[(0, .one ⟨.sn [([4000000], 0)], .sl [.sc (.int .i64), .sl [.sc (.int .i64), .sc (.str), .sc (.str)]], .l []⟩), (1, .one ⟨.sc, .sc (.int .i64), .l []⟩), (5, .one ⟨.sc, .sc (.int .i64), .l []⟩)], [([4000000], .gone)]⟩
noncomputable def laws_szOrderS_e0_0 : Pack := ⟨[(4, .one ⟨.sc, .sc (.int .i64), .l []⟩)], []⟩
noncomputable def laws_szOrderS_e0_1 : Pack := ⟨[(1, .one ⟨.sc, .sc (.int .i64), .l []⟩)], []⟩
noncomputable def laws_szOrderS_L0_0w (m n : Nat) (vs : List T) (k : Ctl → Pack → An) : An := laws_szOrderS_L0_0 m n (vs.headD dflt) (vs.tail.headD dflt) (vs.tail.tail.headD dflt) (fun z0 => k .ret (fPack laws_szOrderS_e0_0 [z0])) (fun z0 => k (.exit 0) (fPack laws_szOrderS_e0_1 [z0]))
noncomputable def laws_szOrderS : Nat → T → T → (T → An) → An
  | 0, _, _, _ => .bad
  | m + 1, x0, x1, k0 =>
    cond (decide ((IntKind.i64.wrap (x1.int - (x0.rows.length : Int))) < 0))
    (k0 (T.i (-1)))
    (laws_szOrderS_L0_0 m m (T.l x0.rows) (T.i (IntKind.i64.wrap (x1.int - (x0.rows.length : Int)))) (T.i 0)
    (fun y1 => k0 y1)
    (fun y2 => k0 y2))
noncomputable def laws_szOrderS_a : List Arg := [.one (.dz [.sc (.int .i64), .sl [.sc (.int .i64), .sc (.str), .sc (.str)]] []), .one (.sc (.int .i64) (.l []))]
noncomputable def laws_szOrderS_w (m : Nat) (vs : List T) (k : Ret → An) : An := laws_szOrderS m (vs.headD dflt) (vs.tail.headD dflt) (fun z0 => k ⟨[.one (.sc (.int .i64) z0)], [[none], [none]], [none, none]⟩)
theorem laws_szOrderS_cf (m : Nat) : callK CX prims m = (patC 78 laws_szOrder_a (laws_szOrder_w m) (callK CX prims m)) := by
  rw [← patC_eq (fun vs k => laws_szOrder_eq m vs k)]
noncomputable def laws_szOrderS_c : Code := (Try.f37.body).getD .skip
noncomputable def laws_szOrderS_fi : Fi := ⟨37, 2, 27, 16⟩
theorem laws_szOrderS_lf (m : Nat) : ∀ n, (∀ vs k, loopK CX (callK CX prims m) laws_szOrderS_fi laws_szOrderS_c n [0, 1, 0, 1, 1, 1] (fPack laws_szOrderS_s0_0 vs) k = laws_szOrderS_L0_0w m n vs k) ∧ ((loopK CX (callK CX prims m) laws_szOrderS_fi laws_szOrderS_c n) = (patL [0, 1, 0, 1, 1, 1] laws_szOrderS_s0_0 (laws_szOrderS_L0_0w m n) (loopK CX (callK CX prims m) laws_szOrderS_fi laws_szOrderS_c n))) := by
  intro n
  have hl : ∀ n, (∀ vs k, loopK CX (callK CX prims m) laws_szOrderS_fi laws_szOrderS_c n [0, 1, 0, 1, 1, 1] (fPack laws_szOrderS_s0_0 vs) k = laws_szOrderS_L0_0w m n vs k) → ((loopK CX (callK CX prims m) laws_szOrderS_fi laws_szOrderS_c n) = (patL [0, 1, 0, 1, 1, 1] laws_szOrderS_s0_0 (laws_szOrderS_L0_0w m n) (loopK CX (callK CX prims m) laws_szOrderS_fi laws_szOrderS_c n))) := by
    intro n h0
    rw [← patL_eq h0]
  induction n with
  | zero => exact ⟨fun vs k => rfl, hl 0 (fun vs k => rfl)⟩
  | succ n ihn =>
    have hn := ihn.2
    have h0 : ∀ vs k, loopK CX (callK CX prims m) laws_szOrderS_fi laws_szOrderS_c (n + 1) [0, 1, 0, 1, 1, 1] (fPack laws_szOrderS_s0_0 vs) k = laws_szOrderS_L0_0w m (n + 1) vs k := fun vs k =>
      (stepL_congr (laws_szOrderS_cf m) hn [0, 1, 0, 1, 1, 1] _ _).trans (by kernel_rfl)
    exact ⟨h0, hl (n + 1) h0⟩
theorem laws_szOrderS_eq (m : Nat) : ∀ vs k, callK CX prims m 37 (fArgs laws_szOrderS_a vs) k = laws_szOrderS_w m vs k := by
  cases m with
  | zero => exact fun vs k => rfl
  | succ m => exact fun vs k => Eq.trans (b := bodyK CX (callK CX prims m) (loopK CX (callK CX prims m) laws_szOrderS_fi laws_szOrderS_c m) 37 Try.f37 laws_szOrderS_c (fArgs laws_szOrderS_a vs) k) (by kernel_rfl) ((bodyK_congr (laws_szOrderS_cf m) ((laws_szOrderS_lf m m).2) 37 Try.f37 laws_szOrderS_c (fArgs laws_szOrderS_a vs) k).trans (by kernel_rfl))

/-! loop.example/g00244/laws.szWorld -/
noncomputable def laws_szWorld : Nat → T → T → T → T → T → T → T → T → T → T → T → (T → An) → An
  | 0, _, _, _, _, _, _, _, _, _, _, _, _ => .bad
  | m + 1, x0, x1, x2, x3, x4, x5, x6, x7, x8, x9, x10, k0 =>
    laws_szCoord m x0 x1 x2 (T.l x3.rows) (T.l x4.rows) x5 x10
    (fun y0 => cond (decide (y0.int < 0))
    (k0 (T.i (-1)))
    (laws_szShardS m (T.l x6.rows) y0
    (fun y1 => cond (decide (y1.int < 0))
    (k0 (T.i (-1)))
    (laws_szWordS m (T.l x7.rows) y1
    (fun y2 => cond (decide (y2.int < 0))
    (k0 (T.i (-1)))
    (laws_szWordS m (T.l x8.rows) y2
    (fun y3 => cond (decide (y3.int < 0))
    (k0 (T.i (-1)))
    (laws_szOrderS m (T.l x9.rows) y3
    (fun y4 => cond (decide (y4.int < 0))
    (k0 (T.i (-1)))
    (k0 y4))))))))))
noncomputable def laws_szWorld_a : List Arg := [.agg [.sc (.int .i64) (.l []), .sc (.int .i64) (.l []), .sc (.int .i64) (.l []), .dz [.sc (.int .i64), .sl [.sc (.int .i64), .sc (.str), .sc (.str)], .sc (.int .i64), .sl [.sc (.int .i64)]] [], .dz [.sc (.int .i64), .sc (.bool)] [], .sc (.int .i64) (.l []), .dz [.sc (.int .i64), .sl [.sc (.int .i64), .sc (.int .i64), .sl [.sc (.int .i64), .sc (.str), .sc (.str)]], .sc (.int .i64), .sl [.sc (.str), .sc (.str)], .sl [.sc (.int .i64), .sc (.int .i64), .sl [.sc (.int .i64), .sc (.str), .sc (.str)]]] [], .dz [.sc (.int .i64), .sc (.int .i64), .sc (.int .i64), .sl [.sc (.int .i64), .sc (.str), .sc (.str)], .sc (.bool)] [], .dz [.sc (.int .i64), .sc (.int .i64), .sc (.int .i64), .sl [.sc (.int .i64), .sc (.str), .sc (.str)], .sc (.bool)] [], .dz [.sc (.int .i64), .sl [.sc (.int .i64), .sc (.str), .sc (.str)]] []], .one (.sc (.int .i64) (.l []))]
noncomputable def laws_szWorld_w (m : Nat) (vs : List T) (k : Ret → An) : An := laws_szWorld m (vs.headD dflt) (vs.tail.headD dflt) (vs.tail.tail.headD dflt) (vs.tail.tail.tail.headD dflt) (vs.tail.tail.tail.tail.headD dflt) (vs.tail.tail.tail.tail.tail.headD dflt) (vs.tail.tail.tail.tail.tail.tail.headD dflt) (vs.tail.tail.tail.tail.tail.tail.tail.headD dflt) (vs.tail.tail.tail.tail.tail.tail.tail.tail.headD dflt) (vs.tail.tail.tail.tail.tail.tail.tail.tail.tail.headD dflt) (vs.tail.tail.tail.tail.tail.tail.tail.tail.tail.tail.headD dflt) (fun z0 => k ⟨[.one (.sc (.int .i64) z0)], [[none, none, none, none, none, none, none, none, none, none], [none]], [none, none]⟩)
theorem laws_szWorld_cf (m : Nat) : callK CX prims m = (patC 34 laws_szCoord_a (laws_szCoord_w m) (patC 35 laws_szShardS_a (laws_szShardS_w m) (patC 36 laws_szWordS_a (laws_szWordS_w m) (patC 37 laws_szOrderS_a (laws_szOrderS_w m) (callK CX prims m))))) := by
  rw [← patC_eq (fun vs k => laws_szOrderS_eq m vs k), ← patC_eq (fun vs k => laws_szWordS_eq m vs k), ← patC_eq (fun vs k => laws_szShardS_eq m vs k), ← patC_eq (fun vs k => laws_szCoord_eq m vs k)]
noncomputable def laws_szWorld_c : Code := (Try.f7.body).getD .skip
noncomputable def laws_szWorld_fi : Fi := ⟨7, 2, 36, 16⟩
theorem laws_szWorld_eq (m : Nat) : ∀ vs k, callK CX prims m 7 (fArgs laws_szWorld_a vs) k = laws_szWorld_w m vs k := by
  cases m with
  | zero => exact fun vs k => rfl
  | succ m => exact fun vs k => Eq.trans (b := bodyK CX (callK CX prims m) (loopK CX (callK CX prims m) laws_szWorld_fi laws_szWorld_c m) 7 Try.f7 laws_szWorld_c (fArgs laws_szWorld_a vs) k) (by kernel_rfl) ((bodyK_congr (laws_szWorld_cf m) rfl 7 Try.f7 laws_szWorld_c (fArgs laws_szWorld_a vs) k).trans (by kernel_rfl))

/-! loop.example/g00244/laws.toOp -/
noncomputable def laws_toOp : Nat → T → T → T → (T → T → T → An) → An
  | 0, _, _, _, _ => .bad
  | m + 1, x0, x1, x2, k0 =>
    k0 x0 x1 x2
noncomputable def laws_toOp_a : List Arg := [.agg [.sc (.int .i64) (.l []), .sc (.str) (.l []), .sc (.str) (.l [])]]
noncomputable def laws_toOp_w (m : Nat) (vs : List T) (k : Ret → An) : An := laws_toOp m (vs.headD dflt) (vs.tail.headD dflt) (vs.tail.tail.headD dflt) (fun z0 z1 z2 => k ⟨[.agg [.sc (.int .i64) z0, .sc (.str) z1, .sc (.str) z2]], [[none, none, none]], [none]⟩)
theorem laws_toOp_cf (m : Nat) : callK CX prims m = (callK CX prims m) := by
  rfl
noncomputable def laws_toOp_c : Code := (Try.f147.body).getD .skip
noncomputable def laws_toOp_fi : Fi := ⟨147, 1, 14, 4⟩
theorem laws_toOp_eq (m : Nat) : ∀ vs k, callK CX prims m 147 (fArgs laws_toOp_a vs) k = laws_toOp_w m vs k := by
  cases m with
  | zero => exact fun vs k => rfl
  | succ m => exact fun vs k => Eq.trans (b := bodyK CX (callK CX prims m) (loopK CX (callK CX prims m) laws_toOp_fi laws_toOp_c m) 147 Try.f147 laws_toOp_c (fArgs laws_toOp_a vs) k) (by kernel_rfl) ((bodyK_congr (laws_toOp_cf m) rfl 147 Try.f147 laws_toOp_c (fArgs laws_toOp_a vs) k).trans (by kernel_rfl))

/-! loop.example/g00244/laws.toOpS -/
noncomputable def laws_toOpS_L0_0 (m : Nat) : Nat → T → T → T → (T → An) → An
  | 0, _, _, _, _ => .bad
  | n + 1, x0, x1, x2, k0 =>
    cond (decide (x1.int < (x0.rows.length : Int)))
    (cond (decide ((0 : Int) ≤ x1.int ∧ x1.int < (x0.rows.length : Int)))
    (laws_toOp m ((x0.rows.getD (Int.toNat x1.int) []).getD 0 dflt) ((x0.rows.getD (Int.toNat x1.int) []).getD 1 dflt) ((x0.rows.getD (Int.toNat x1.int) []).getD 2 dflt)
    (fun y0 y1 y2 => cond (decide ((0 : Int) ≤ x1.int ∧ x1.int < (x2.rows.length : Int)))
    (cond (decide ((Int.toNat x1.int) < x2.rows.length))
    (laws_toOpS_L0_0 m n x0 (T.i (IntKind.i64.wrap (x1.int + 1))) (T.l (x2.rows.set (Int.toNat x1.int) ((((x2.rows.getD (Int.toNat x1.int) []).set 0 y0).set 1 y1).set 2 y2))) k0)
    (.bad))
    (.bad)))
    (.bad))
    (k0 (T.l x2.rows))
noncomputable def laws_toOpS_s0_0 : Pack := ⟨[(0, .one ⟨.sn [([4000000], 0)], .sl [.sc (.int .i64), .sc (.str), .sc (.str)], .l []⟩), (3, .one ⟨.al [1000000, 1] 0, .sl [.sc (.int .i64), .sc (.str), .sc (.str)], .l []⟩), (4, .one ⟨.sc, .sc (.int .i64), .l []⟩)], [([4000000], .gone), ([1000000, 1], .row [.sc (.int .i64), .sc (.str), .sc (.str)] [.F, .F, .F] [])]⟩
noncomputable def laws_toOpS_e0_0 : Pack := ⟨[(3, .one ⟨.al [1000000, 0] 0, .sl [.sc (.int .i64), .sc (.str), .sc (.str)], .l []⟩)], [([1000000, 0], .row [.sc (.int .i64), .sc (.str), .sc (.str)] [.F, .F, .F] [])]⟩
noncomputable def laws_toOpS_L0_0w (m n : Nat) (vs : List T) (k : Ctl → Pack → An) : An := laws_toOpS_L0_0 m n (vs.headD dflt) (vs.tail.headD dflt) (vs.tail.tail.headD dflt) (fun z0 => k (.exit 0) (fPack laws_toOpS_e0_0 [z0]))
noncomputable def laws_toOpS : Nat → T → (T → An) → An
  | 0, _, _ => .bad
  | m + 1, x0, k0 =>
    cond (decide (0 ≤ (x0.rows.length : Int) ∧ (x0.rows.length : Int) ≤ (x0.rows.length : Int)))
    (cond (decide ((x0.rows.length : Int) * ((40 : Nat) : Int) ≤ (maxCells : Int)))
    (laws_toOpS_L0_0 m m (T.l x0.rows) (T.i 0) (T.l (List.replicate (Int.toNat (x0.rows.length : Int)) [(T.i 0), (T.s (⟨#[]⟩ : ByteArray)), (T.s (⟨#[]⟩ : ByteArray))]))
    (fun y3 => k0 (T.l y3.rows)))
    (.bad))
    (.bad)
noncomputable def laws_toOpS_a : List Arg := [.one (.dz [.sc (.int .i64), .sc (.str), .sc (.str)] [])]
noncomputable def laws_toOpS_w (m : Nat) (vs : List T) (k : Ret → An) : An := laws_toOpS m (vs.headD dflt) (fun z0 => k ⟨[.one (.own [1000000, 0] [.sc (.int .i64), .sc (.str), .sc (.str)] [.F, .F, .F] z0.rows)], [[none]], [none]⟩)
theorem laws_toOpS_cf (m : Nat) : callK CX prims m = (patC 147 laws_toOp_a (laws_toOp_w m) (callK CX prims m)) := by
  rw [← patC_eq (fun vs k => laws_toOp_eq m vs k)]
noncomputable def laws_toOpS_c : Code := (Try.f120.body).getD .skip
noncomputable def laws_toOpS_fi : Fi := ⟨120, 1, 23, 4⟩
theorem laws_toOpS_lf (m : Nat) : ∀ n, (∀ vs k, loopK CX (callK CX prims m) laws_toOpS_fi laws_toOpS_c n [0, 1, 0, 1, 1] (fPack laws_toOpS_s0_0 vs) k = laws_toOpS_L0_0w m n vs k) ∧ ((loopK CX (callK CX prims m) laws_toOpS_fi laws_toOpS_c n) = (patL [0, 1, 0, 1, 1] laws_toOpS_s0_0 (laws_toOpS_L0_0w m n) (loopK CX (callK CX prims m) laws_toOpS_fi laws_toOpS_c n))) := by
  intro n
  have hl : ∀ n, (∀ vs k, loopK CX (callK CX prims m) laws_toOpS_fi laws_toOpS_c n [0, 1, 0, 1, 1] (fPack laws_toOpS_s0_0 vs) k = laws_toOpS_L0_0w m n vs k) → ((loopK CX (callK CX prims m) laws_toOpS_fi laws_toOpS_c n) = (patL [0, 1, 0, 1, 1] laws_toOpS_s0_0 (laws_toOpS_L0_0w m n) (loopK CX (callK CX prims m) laws_toOpS_fi laws_toOpS_c n))) := by
    intro n h0
    rw [← patL_eq h0]
  induction n with
  | zero => exact ⟨fun vs k => rfl, hl 0 (fun vs k => rfl)⟩
  | succ n ihn =>
    have hn := ihn.2
    have h0 : ∀ vs k, loopK CX (callK CX prims m) laws_toOpS_fi laws_toOpS_c (n + 1) [0, 1, 0, 1, 1] (fPack laws_toOpS_s0_0 vs) k = laws_toOpS_L0_0w m (n + 1) vs k := fun vs k =>
      (stepL_congr (laws_toOpS_cf m) hn [0, 1, 0, 1, 1] _ _).trans (by kernel_rfl)
    exact ⟨h0, hl (n + 1) h0⟩
theorem laws_toOpS_eq (m : Nat) : ∀ vs k, callK CX prims m 120 (fArgs laws_toOpS_a vs) k = laws_toOpS_w m vs k := by
  cases m with
  | zero => exact fun vs k => rfl
  | succ m => exact fun vs k => Eq.trans (b := bodyK CX (callK CX prims m) (loopK CX (callK CX prims m) laws_toOpS_fi laws_toOpS_c m) 120 Try.f120 laws_toOpS_c (fArgs laws_toOpS_a vs) k) (by kernel_rfl) ((bodyK_congr (laws_toOpS_cf m) ((laws_toOpS_lf m m).2) 120 Try.f120 laws_toOpS_c (fArgs laws_toOpS_a vs) k).trans (by kernel_rfl))

/-! loop.example/g00244/laws.toIntS -/
noncomputable def laws_toIntS_L0_0 (m : Nat) : Nat → T → T → T → (T → An) → An
  | 0, _, _, _, _ => .bad
  | n + 1, x0, x1, x2, k0 =>
    cond (decide (x1.int < (x0.rows.length : Int)))
    (cond (decide ((0 : Int) ≤ x1.int ∧ x1.int < (x0.rows.length : Int)))
    (cond (decide ((0 : Int) ≤ x1.int ∧ x1.int < (x2.rows.length : Int)))
    (cond (decide ((Int.toNat x1.int) < x2.rows.length))
    (laws_toIntS_L0_0 m n x0 (T.i (IntKind.i64.wrap (x1.int + 1))) (T.l (x2.rows.set (Int.toNat x1.int) ((x2.rows.getD (Int.toNat x1.int) []).set 0 ((x0.rows.getD (Int.toNat x1.int) []).getD 0 dflt)))) k0)
    (.bad))
    (.bad))
    (.bad))
    (k0 (T.l x2.rows))
noncomputable def laws_toIntS_s0_0 : Pack := ⟨[(0, .one ⟨.sn [([4000000], 0)], .sl [.sc (.int .i64)], .l []⟩), (3, .one ⟨.al [1000000, 1] 0, .sl [.sc (.int .i64)], .l []⟩), (4, .one ⟨.sc, .sc (.int .i64), .l []⟩)], [([4000000], .gone), ([1000000, 1], .row [.sc (.int .i64)] [.F] [])]⟩
noncomputable def laws_toIntS_e0_0 : Pack := ⟨[(3, .one ⟨.al [1000000, 0] 0, .sl [.sc (.int .i64)], .l []⟩)], [([1000000, 0], .row [.sc (.int .i64)] [.F] [])]⟩
noncomputable def laws_toIntS_L0_0w (m n : Nat) (vs : List T) (k : Ctl → Pack → An) : An := laws_toIntS_L0_0 m n (vs.headD dflt) (vs.tail.headD dflt) (vs.tail.tail.headD dflt) (fun z0 => k (.exit 0) (fPack laws_toIntS_e0_0 [z0]))
noncomputable def laws_toIntS : Nat → T → (T → An) → An
  | 0, _, _ => .bad
  | m + 1, x0, k0 =>
    cond (decide (0 ≤ (x0.rows.length : Int) ∧ (x0.rows.length : Int) ≤ (x0.rows.length : Int)))
    (cond (decide ((x0.rows.length : Int) * ((8 : Nat) : Int) ≤ (maxCells : Int)))
    (laws_toIntS_L0_0 m m (T.l x0.rows) (T.i 0) (T.l (List.replicate (Int.toNat (x0.rows.length : Int)) [(T.i 0)]))
    (fun y0 => k0 (T.l y0.rows)))
    (.bad))
    (.bad)
noncomputable def laws_toIntS_a : List Arg := [.one (.dz [.sc (.int .i64)] [])]
noncomputable def laws_toIntS_w (m : Nat) (vs : List T) (k : Ret → An) : An := laws_toIntS m (vs.headD dflt) (fun z0 => k ⟨[.one (.own [1000000, 0] [.sc (.int .i64)] [.F] z0.rows)], [[none]], [none]⟩)
theorem laws_toIntS_cf (m : Nat) : callK CX prims m = (callK CX prims m) := by
  rfl
noncomputable def laws_toIntS_c : Code := (Try.f145.body).getD .skip
noncomputable def laws_toIntS_fi : Fi := ⟨145, 1, 22, 4⟩
theorem laws_toIntS_lf (m : Nat) : ∀ n, (∀ vs k, loopK CX (callK CX prims m) laws_toIntS_fi laws_toIntS_c n [0, 1, 0, 1, 1] (fPack laws_toIntS_s0_0 vs) k = laws_toIntS_L0_0w m n vs k) ∧ ((loopK CX (callK CX prims m) laws_toIntS_fi laws_toIntS_c n) = (patL [0, 1, 0, 1, 1] laws_toIntS_s0_0 (laws_toIntS_L0_0w m n) (loopK CX (callK CX prims m) laws_toIntS_fi laws_toIntS_c n))) := by
  intro n
  have hl : ∀ n, (∀ vs k, loopK CX (callK CX prims m) laws_toIntS_fi laws_toIntS_c n [0, 1, 0, 1, 1] (fPack laws_toIntS_s0_0 vs) k = laws_toIntS_L0_0w m n vs k) → ((loopK CX (callK CX prims m) laws_toIntS_fi laws_toIntS_c n) = (patL [0, 1, 0, 1, 1] laws_toIntS_s0_0 (laws_toIntS_L0_0w m n) (loopK CX (callK CX prims m) laws_toIntS_fi laws_toIntS_c n))) := by
    intro n h0
    rw [← patL_eq h0]
  induction n with
  | zero => exact ⟨fun vs k => rfl, hl 0 (fun vs k => rfl)⟩
  | succ n ihn =>
    have hn := ihn.2
    have h0 : ∀ vs k, loopK CX (callK CX prims m) laws_toIntS_fi laws_toIntS_c (n + 1) [0, 1, 0, 1, 1] (fPack laws_toIntS_s0_0 vs) k = laws_toIntS_L0_0w m (n + 1) vs k := fun vs k =>
      (stepL_congr (laws_toIntS_cf m) hn [0, 1, 0, 1, 1] _ _).trans (by kernel_rfl)
    exact ⟨h0, hl (n + 1) h0⟩
theorem laws_toIntS_eq (m : Nat) : ∀ vs k, callK CX prims m 145 (fArgs laws_toIntS_a vs) k = laws_toIntS_w m vs k := by
  cases m with
  | zero => exact fun vs k => rfl
  | succ m => exact fun vs k => Eq.trans (b := bodyK CX (callK CX prims m) (loopK CX (callK CX prims m) laws_toIntS_fi laws_toIntS_c m) 145 Try.f145 laws_toIntS_c (fArgs laws_toIntS_a vs) k) (by kernel_rfl) ((bodyK_congr (laws_toIntS_cf m) ((laws_toIntS_lf m m).2) 145 Try.f145 laws_toIntS_c (fArgs laws_toIntS_a vs) k).trans (by kernel_rfl))

/-! loop.example/g00244/laws.toJob -/
noncomputable def laws_toJob : Nat → T → T → T → T → (T → T → T → T → An) → An
  | 0, _, _, _, _, _ => .bad
  | m + 1, x0, x1, x2, x3, k0 =>
    laws_toOpS m (T.l x1.rows)
    (fun y0 => laws_toIntS m (T.l x3.rows)
    (fun y1 => k0 x0 (T.l y0.rows) x2 (T.l y1.rows)))
noncomputable def laws_toJob_a : List Arg := [.agg [.sc (.int .i64) (.l []), .dz [.sc (.int .i64), .sc (.str), .sc (.str)] [], .sc (.int .i64) (.l []), .dz [.sc (.int .i64)] []]]
noncomputable def laws_toJob_w (m : Nat) (vs : List T) (k : Ret → An) : An := laws_toJob m (vs.headD dflt) (vs.tail.headD dflt) (vs.tail.tail.headD dflt) (vs.tail.tail.tail.headD dflt) (fun z0 z1 z2 z3 => k ⟨[.agg [.sc (.int .i64) z0, .own [2000009, 0, 0] [.sc (.int .i64), .sc (.str), .sc (.str)] [.F, .F, .F] z1.rows, .sc (.int .i64) z2, .own [2000016, 0, 0] [.sc (.int .i64)] [.F] z3.rows]], [[none, none, none, none]], [none]⟩)
theorem laws_toJob_cf (m : Nat) : callK CX prims m = (patC 120 laws_toOpS_a (laws_toOpS_w m) (patC 145 laws_toIntS_a (laws_toIntS_w m) (callK CX prims m))) := by
  rw [← patC_eq (fun vs k => laws_toIntS_eq m vs k), ← patC_eq (fun vs k => laws_toOpS_eq m vs k)]
noncomputable def laws_toJob_c : Code := (Try.f117.body).getD .skip
noncomputable def laws_toJob_fi : Fi := ⟨117, 1, 19, 4⟩
theorem laws_toJob_eq (m : Nat) : ∀ vs k, callK CX prims m 117 (fArgs laws_toJob_a vs) k = laws_toJob_w m vs k := by
  cases m with
  | zero => exact fun vs k => rfl
  | succ m => exact fun vs k => Eq.trans (b := bodyK CX (callK CX prims m) (loopK CX (callK CX prims m) laws_toJob_fi laws_toJob_c m) 117 Try.f117 laws_toJob_c (fArgs laws_toJob_a vs) k) (by kernel_rfl) ((bodyK_congr (laws_toJob_cf m) rfl 117 Try.f117 laws_toJob_c (fArgs laws_toJob_a vs) k).trans (by kernel_rfl))

/-! loop.example/g00244/laws.toJobS -/
noncomputable def laws_toJobS_L0_0 (m : Nat) : Nat → T → T → T → (T → An) → An
  | 0, _, _, _, _ => .bad
  | n + 1, x0, x1, x2, k0 =>
    cond (decide (x1.int < (x0.rows.length : Int)))
    (cond (decide ((0 : Int) ≤ x1.int ∧ x1.int < (x0.rows.length : Int)))
    (laws_toJob m ((x0.rows.getD (Int.toNat x1.int) []).getD 0 dflt) (T.l ((x0.rows.getD (Int.toNat x1.int) []).getD 1 dflt).rows) ((x0.rows.getD (Int.toNat x1.int) []).getD 2 dflt) (T.l ((x0.rows.getD (Int.toNat x1.int) []).getD 3 dflt).rows)
    (fun y0 y1 y2 y3 => cond (decide ((0 : Int) ≤ x1.int ∧ x1.int < (x2.rows.length : Int)))
    (cond (decide ((Int.toNat x1.int) < x2.rows.length))
    (laws_toJobS_L0_0 m n x0 (T.i (IntKind.i64.wrap (x1.int + 1))) (T.l (x2.rows.set (Int.toNat x1.int) (((((x2.rows.getD (Int.toNat x1.int) []).set 0 y0).set 1 (T.l y1.rows)).set 2 y2).set 3 (T.l y3.rows)))) k0)
    (.bad))
    (.bad)))
    (.bad))
    (k0 (T.l x2.rows))
noncomputable def laws_toJobS_s0_0 : Pack := ⟨[(0, .one ⟨.sn [([4000000], 0)], .sl [.sc (.int .i64), .sl [.sc (.int .i64), .sc (.str), .sc (.str)], .sc (.int .i64), .sl [.sc (.int .i64)]], .l []⟩), (3, .one ⟨.al [1000000, 1] 0, .sl [.sc (.int .i64), .sl [.sc (.int .i64), .sc (.str), .sc (.str)], .sc (.int .i64), .sl [.sc (.int .i64)]], .l []⟩), (4, .one ⟨.sc, .sc (.int .i64), .l []⟩)], [([4000000], .gone), ([1000000, 1], .row [.sc (.int .i64), .sl [.sc (.int .i64), .sc (.str), .sc (.str)], .sc (.int .i64), .sl [.sc (.int .i64)]] [.F, .O [.F, .F, .F], .F, .O [.F]] [])]⟩
noncomputable def laws_toJobS_e0_0 : Pack := ⟨[(3, .one ⟨.al [1000000, 0] 0, .sl [.sc (.int .i64), .sl [.sc (.int .i64), .sc (.str), .sc (.str)], .sc (.int .i64), .sl [.sc (.int .i64)]], .l []⟩)], [([1000000, 0], .row [.sc (.int .i64), .sl [.sc (.int .i64), .sc (.str), .sc (.str)], .sc (.int .i64), .sl [.sc (.int .i64)]] [.F, .O [.F, .F, .F], .F, .O [.F]] [])]⟩
noncomputable def laws_toJobS_L0_0w (m n : Nat) (vs : List T) (k : Ctl → Pack → An) : An := laws_toJobS_L0_0 m n (vs.headD dflt) (vs.tail.headD dflt) (vs.tail.tail.headD dflt) (fun z0 => k (.exit 0) (fPack laws_toJobS_e0_0 [z0]))
noncomputable def laws_toJobS : Nat → T → (T → An) → An
  | 0, _, _ => .bad
  | m + 1, x0, k0 =>
    cond (decide (0 ≤ (x0.rows.length : Int) ∧ (x0.rows.length : Int) ≤ (x0.rows.length : Int)))
    (cond (decide ((x0.rows.length : Int) * ((64 : Nat) : Int) ≤ (maxCells : Int)))
    (laws_toJobS_L0_0 m m (T.l x0.rows) (T.i 0) (T.l (List.replicate (Int.toNat (x0.rows.length : Int)) [(T.i 0), (T.l []), (T.i 0), (T.l [])]))
    (fun y4 => k0 (T.l y4.rows)))
    (.bad))
    (.bad)
noncomputable def laws_toJobS_a : List Arg := [.one (.dz [.sc (.int .i64), .sl [.sc (.int .i64), .sc (.str), .sc (.str)], .sc (.int .i64), .sl [.sc (.int .i64)]] [])]
noncomputable def laws_toJobS_w (m : Nat) (vs : List T) (k : Ret → An) : An := laws_toJobS m (vs.headD dflt) (fun z0 => k ⟨[.one (.own [1000000, 0] [.sc (.int .i64), .sl [.sc (.int .i64), .sc (.str), .sc (.str)], .sc (.int .i64), .sl [.sc (.int .i64)]] [.F, .O [.F, .F, .F], .F, .O [.F]] z0.rows)], [[none]], [none]⟩)
theorem laws_toJobS_cf (m : Nat) : callK CX prims m = (patC 117 laws_toJob_a (laws_toJob_w m) (callK CX prims m)) := by
  rw [← patC_eq (fun vs k => laws_toJob_eq m vs k)]
noncomputable def laws_toJobS_c : Code := (Try.f80.body).getD .skip
noncomputable def laws_toJobS_fi : Fi := ⟨80, 1, 23, 4⟩
theorem laws_toJobS_lf (m : Nat) : ∀ n, (∀ vs k, loopK CX (callK CX prims m) laws_toJobS_fi laws_toJobS_c n [0, 1, 0, 1, 1] (fPack laws_toJobS_s0_0 vs) k = laws_toJobS_L0_0w m n vs k) ∧ ((loopK CX (callK CX prims m) laws_toJobS_fi laws_toJobS_c n) = (patL [0, 1, 0, 1, 1] laws_toJobS_s0_0 (laws_toJobS_L0_0w m n) (loopK CX (callK CX prims m) laws_toJobS_fi laws_toJobS_c n))) := by
  intro n
  have hl : ∀ n, (∀ vs k, loopK CX (callK CX prims m) laws_toJobS_fi laws_toJobS_c n [0, 1, 0, 1, 1] (fPack laws_toJobS_s0_0 vs) k = laws_toJobS_L0_0w m n vs k) → ((loopK CX (callK CX prims m) laws_toJobS_fi laws_toJobS_c n) = (patL [0, 1, 0, 1, 1] laws_toJobS_s0_0 (laws_toJobS_L0_0w m n) (loopK CX (callK CX prims m) laws_toJobS_fi laws_toJobS_c n))) := by
    intro n h0
    rw [← patL_eq h0]
  induction n with
  | zero => exact ⟨fun vs k => rfl, hl 0 (fun vs k => rfl)⟩
  | succ n ihn =>
    have hn := ihn.2
    have h0 : ∀ vs k, loopK CX (callK CX prims m) laws_toJobS_fi laws_toJobS_c (n + 1) [0, 1, 0, 1, 1] (fPack laws_toJobS_s0_0 vs) k = laws_toJobS_L0_0w m (n + 1) vs k := fun vs k =>
      (stepL_congr (laws_toJobS_cf m) hn [0, 1, 0, 1, 1] _ _).trans (by kernel_rfl)
    exact ⟨h0, hl (n + 1) h0⟩
theorem laws_toJobS_eq (m : Nat) : ∀ vs k, callK CX prims m 80 (fArgs laws_toJobS_a vs) k = laws_toJobS_w m vs k := by
  cases m with
  | zero => exact fun vs k => rfl
  | succ m => exact fun vs k => Eq.trans (b := bodyK CX (callK CX prims m) (loopK CX (callK CX prims m) laws_toJobS_fi laws_toJobS_c m) 80 Try.f80 laws_toJobS_c (fArgs laws_toJobS_a vs) k) (by kernel_rfl) ((bodyK_congr (laws_toJobS_cf m) ((laws_toJobS_lf m m).2) 80 Try.f80 laws_toJobS_c (fArgs laws_toJobS_a vs) k).trans (by kernel_rfl))

/-! loop.example/g00244/laws.toChoice -/
noncomputable def laws_toChoice : Nat → T → T → (T → T → An) → An
  | 0, _, _, _ => .bad
  | m + 1, x0, x1, k0 =>
    k0 x0 x1
noncomputable def laws_toChoice_a : List Arg := [.agg [.sc (.int .i64) (.l []), .sc (.bool) (.l [])]]
noncomputable def laws_toChoice_w (m : Nat) (vs : List T) (k : Ret → An) : An := laws_toChoice m (vs.headD dflt) (vs.tail.headD dflt) (fun z0 z1 => k ⟨[.agg [.sc (.int .i64) z0, .sc (.bool) z1]], [[none, none]], [none]⟩)
theorem laws_toChoice_cf (m : Nat) : callK CX prims m = (callK CX prims m) := by
  rfl
noncomputable def laws_toChoice_c : Code := (Try.f118.body).getD .skip
noncomputable def laws_toChoice_fi : Fi := ⟨118, 1, 11, 4⟩
theorem laws_toChoice_eq (m : Nat) : ∀ vs k, callK CX prims m 118 (fArgs laws_toChoice_a vs) k = laws_toChoice_w m vs k := by
  cases m with
  | zero => exact fun vs k => rfl
  | succ m => exact fun vs k => Eq.trans (b := bodyK CX (callK CX prims m) (loopK CX (callK CX prims m) laws_toChoice_fi laws_toChoice_c m) 118 Try.f118 laws_toChoice_c (fArgs laws_toChoice_a vs) k) (by kernel_rfl) ((bodyK_congr (laws_toChoice_cf m) rfl 118 Try.f118 laws_toChoice_c (fArgs laws_toChoice_a vs) k).trans (by kernel_rfl))

/-! loop.example/g00244/laws.toChoiceS -/
noncomputable def laws_toChoiceS_L0_0 (m : Nat) : Nat → T → T → T → (T → An) → An
  | 0, _, _, _, _ => .bad
  | n + 1, x0, x1, x2, k0 =>
    cond (decide (x1.int < (x0.rows.length : Int)))
    (cond (decide ((0 : Int) ≤ x1.int ∧ x1.int < (x0.rows.length : Int)))
    (laws_toChoice m ((x0.rows.getD (Int.toNat x1.int) []).getD 0 dflt) ((x0.rows.getD (Int.toNat x1.int) []).getD 1 dflt)
    (fun y0 y1 => cond (decide ((0 : Int) ≤ x1.int ∧ x1.int < (x2.rows.length : Int)))
    (cond (decide ((Int.toNat x1.int) < x2.rows.length))
    (laws_toChoiceS_L0_0 m n x0 (T.i (IntKind.i64.wrap (x1.int + 1))) (T.l (x2.rows.set (Int.toNat x1.int) (((x2.rows.getD (Int.toNat x1.int) []).set 0 y0).set 1 y1))) k0)
    (.bad))
    (.bad)))
    (.bad))
    (k0 (T.l x2.rows))
noncomputable def laws_toChoiceS_s0_0 : Pack := ⟨[(0, .one ⟨.sn [([4000000], 0)], .sl [.sc (.int .i64), .sc (.bool)], .l []⟩), (3, .one ⟨.al [1000000, 1] 0, .sl [.sc (.int .i64), .sc (.bool)], .l []⟩), (4, .one ⟨.sc, .sc (.int .i64), .l []⟩)], [([4000000], .gone), ([1000000, 1], .row [.sc (.int .i64), .sc (.bool)] [.F, .F] [])]⟩
noncomputable def laws_toChoiceS_e0_0 : Pack := ⟨[(3, .one ⟨.al [1000000, 0] 0, .sl [.sc (.int .i64), .sc (.bool)], .l []⟩)], [([1000000, 0], .row [.sc (.int .i64), .sc (.bool)] [.F, .F] [])]⟩
noncomputable def laws_toChoiceS_L0_0w (m n : Nat) (vs : List T) (k : Ctl → Pack → An) : An := laws_toChoiceS_L0_0 m n (vs.headD dflt) (vs.tail.headD dflt) (vs.tail.tail.headD dflt) (fun z0 => k (.exit 0) (fPack laws_toChoiceS_e0_0 [z0]))
noncomputable def laws_toChoiceS : Nat → T → (T → An) → An
  | 0, _, _ => .bad
  | m + 1, x0, k0 =>
    cond (decide (0 ≤ (x0.rows.length : Int) ∧ (x0.rows.length : Int) ≤ (x0.rows.length : Int)))
    (cond (decide ((x0.rows.length : Int) * ((16 : Nat) : Int) ≤ (maxCells : Int)))
    (laws_toChoiceS_L0_0 m m (T.l x0.rows) (T.i 0) (T.l (List.replicate (Int.toNat (x0.rows.length : Int)) [(T.i 0), (T.b false)]))
    (fun y2 => k0 (T.l y2.rows)))
    (.bad))
    (.bad)
noncomputable def laws_toChoiceS_a : List Arg := [.one (.dz [.sc (.int .i64), .sc (.bool)] [])]
noncomputable def laws_toChoiceS_w (m : Nat) (vs : List T) (k : Ret → An) : An := laws_toChoiceS m (vs.headD dflt) (fun z0 => k ⟨[.one (.own [1000000, 0] [.sc (.int .i64), .sc (.bool)] [.F, .F] z0.rows)], [[none]], [none]⟩)
theorem laws_toChoiceS_cf (m : Nat) : callK CX prims m = (patC 118 laws_toChoice_a (laws_toChoice_w m) (callK CX prims m)) := by
  rw [← patC_eq (fun vs k => laws_toChoice_eq m vs k)]
noncomputable def laws_toChoiceS_c : Code := (Try.f81.body).getD .skip
noncomputable def laws_toChoiceS_fi : Fi := ⟨81, 1, 23, 4⟩
theorem laws_toChoiceS_lf (m : Nat) : ∀ n, (∀ vs k, loopK CX (callK CX prims m) laws_toChoiceS_fi laws_toChoiceS_c n [0, 1, 0, 1, 1] (fPack laws_toChoiceS_s0_0 vs) k = laws_toChoiceS_L0_0w m n vs k) ∧ ((loopK CX (callK CX prims m) laws_toChoiceS_fi laws_toChoiceS_c n) = (patL [0, 1, 0, 1, 1] laws_toChoiceS_s0_0 (laws_toChoiceS_L0_0w m n) (loopK CX (callK CX prims m) laws_toChoiceS_fi laws_toChoiceS_c n))) := by
  intro n
  have hl : ∀ n, (∀ vs k, loopK CX (callK CX prims m) laws_toChoiceS_fi laws_toChoiceS_c n [0, 1, 0, 1, 1] (fPack laws_toChoiceS_s0_0 vs) k = laws_toChoiceS_L0_0w m n vs k) → ((loopK CX (callK CX prims m) laws_toChoiceS_fi laws_toChoiceS_c n) = (patL [0, 1, 0, 1, 1] laws_toChoiceS_s0_0 (laws_toChoiceS_L0_0w m n) (loopK CX (callK CX prims m) laws_toChoiceS_fi laws_toChoiceS_c n))) := by
    intro n h0
    rw [← patL_eq h0]
  induction n with
  | zero => exact ⟨fun vs k => rfl, hl 0 (fun vs k => rfl)⟩
  | succ n ihn =>
    have hn := ihn.2
    have h0 : ∀ vs k, loopK CX (callK CX prims m) laws_toChoiceS_fi laws_toChoiceS_c (n + 1) [0, 1, 0, 1, 1] (fPack laws_toChoiceS_s0_0 vs) k = laws_toChoiceS_L0_0w m (n + 1) vs k := fun vs k =>
      (stepL_congr (laws_toChoiceS_cf m) hn [0, 1, 0, 1, 1] _ _).trans (by kernel_rfl)
    exact ⟨h0, hl (n + 1) h0⟩
theorem laws_toChoiceS_eq (m : Nat) : ∀ vs k, callK CX prims m 81 (fArgs laws_toChoiceS_a vs) k = laws_toChoiceS_w m vs k := by
  cases m with
  | zero => exact fun vs k => rfl
  | succ m => exact fun vs k => Eq.trans (b := bodyK CX (callK CX prims m) (loopK CX (callK CX prims m) laws_toChoiceS_fi laws_toChoiceS_c m) 81 Try.f81 laws_toChoiceS_c (fArgs laws_toChoiceS_a vs) k) (by kernel_rfl) ((bodyK_congr (laws_toChoiceS_cf m) ((laws_toChoiceS_lf m m).2) 81 Try.f81 laws_toChoiceS_c (fArgs laws_toChoiceS_a vs) k).trans (by kernel_rfl))

/-! loop.example/g00244/laws.toCoord -/
noncomputable def laws_toCoord : Nat → T → T → T → T → T → T → (T → T → T → T → T → T → An) → An
  | 0, _, _, _, _, _, _, _ => .bad
  | m + 1, x0, x1, x2, x3, x4, x5, k0 =>
    laws_toJobS m (T.l x3.rows)
    (fun y0 => laws_toChoiceS m (T.l x4.rows)
    (fun y1 => k0 x0 x1 x2 (T.l y0.rows) (T.l y1.rows) x5))
noncomputable def laws_toCoord_a : List Arg := [.agg [.sc (.int .i64) (.l []), .sc (.int .i64) (.l []), .sc (.int .i64) (.l []), .dz [.sc (.int .i64), .sl [.sc (.int .i64), .sc (.str), .sc (.str)], .sc (.int .i64), .sl [.sc (.int .i64)]] [], .dz [.sc (.int .i64), .sc (.bool)] [], .sc (.int .i64) (.l [])]]
noncomputable def laws_toCoord_w (m : Nat) (vs : List T) (k : Ret → An) : An := laws_toCoord m (vs.headD dflt) (vs.tail.headD dflt) (vs.tail.tail.headD dflt) (vs.tail.tail.tail.headD dflt) (vs.tail.tail.tail.tail.headD dflt) (vs.tail.tail.tail.tail.tail.headD dflt) (fun z0 z1 z2 z3 z4 z5 => k ⟨[.agg [.sc (.int .i64) z0, .sc (.int .i64) z1, .sc (.int .i64) z2, .own [2000015, 0, 0] [.sc (.int .i64), .sl [.sc (.int .i64), .sc (.str), .sc (.str)], .sc (.int .i64), .sl [.sc (.int .i64)]] [.F, .O [.F, .F, .F], .F, .O [.F]] z3.rows, .own [2000019, 0, 0] [.sc (.int .i64), .sc (.bool)] [.F, .F] z4.rows, .sc (.int .i64) z5]], [[none, none, none, none, none, none]], [none]⟩)
theorem laws_toCoord_cf (m : Nat) : callK CX prims m = (patC 80 laws_toJobS_a (laws_toJobS_w m) (patC 81 laws_toChoiceS_a (laws_toChoiceS_w m) (callK CX prims m))) := by
  rw [← patC_eq (fun vs k => laws_toChoiceS_eq m vs k), ← patC_eq (fun vs k => laws_toJobS_eq m vs k)]
noncomputable def laws_toCoord_c : Code := (Try.f39.body).getD .skip
noncomputable def laws_toCoord_fi : Fi := ⟨39, 1, 25, 4⟩
theorem laws_toCoord_eq (m : Nat) : ∀ vs k, callK CX prims m 39 (fArgs laws_toCoord_a vs) k = laws_toCoord_w m vs k := by
  cases m with
  | zero => exact fun vs k => rfl
  | succ m => exact fun vs k => Eq.trans (b := bodyK CX (callK CX prims m) (loopK CX (callK CX prims m) laws_toCoord_fi laws_toCoord_c m) 39 Try.f39 laws_toCoord_c (fArgs laws_toCoord_a vs) k) (by kernel_rfl) ((bodyK_congr (laws_toCoord_cf m) rfl 39 Try.f39 laws_toCoord_c (fArgs laws_toCoord_a vs) k).trans (by kernel_rfl))

/-! loop.example/g00244/laws.toRec -/
noncomputable def laws_toRec : Nat → T → T → T → (T → T → T → An) → An
  | 0, _, _, _, _ => .bad
  | m + 1, x0, x1, x2, k0 =>
    laws_toOpS m (T.l x2.rows)
    (fun y0 => k0 x0 x1 (T.l y0.rows))
noncomputable def laws_toRec_a : List Arg := [.agg [.sc (.int .i64) (.l []), .sc (.int .i64) (.l []), .dz [.sc (.int .i64), .sc (.str), .sc (.str)] []]]
noncomputable def laws_toRec_w (m : Nat) (vs : List T) (k : Ret → An) : An := laws_toRec m (vs.headD dflt) (vs.tail.headD dflt) (vs.tail.tail.headD dflt) (fun z0 z1 z2 => k ⟨[.agg [.sc (.int .i64) z0, .sc (.int .i64) z1, .own [2000012, 0, 0] [.sc (.int .i64), .sc (.str), .sc (.str)] [.F, .F, .F] z2.rows]], [[none, none, none]], [none]⟩)
theorem laws_toRec_cf (m : Nat) : callK CX prims m = (patC 120 laws_toOpS_a (laws_toOpS_w m) (callK CX prims m)) := by
  rw [← patC_eq (fun vs k => laws_toOpS_eq m vs k)]
noncomputable def laws_toRec_c : Code := (Try.f146.body).getD .skip
noncomputable def laws_toRec_fi : Fi := ⟨146, 1, 15, 4⟩
theorem laws_toRec_eq (m : Nat) : ∀ vs k, callK CX prims m 146 (fArgs laws_toRec_a vs) k = laws_toRec_w m vs k := by
  cases m with
  | zero => exact fun vs k => rfl
  | succ m => exact fun vs k => Eq.trans (b := bodyK CX (callK CX prims m) (loopK CX (callK CX prims m) laws_toRec_fi laws_toRec_c m) 146 Try.f146 laws_toRec_c (fArgs laws_toRec_a vs) k) (by kernel_rfl) ((bodyK_congr (laws_toRec_cf m) rfl 146 Try.f146 laws_toRec_c (fArgs laws_toRec_a vs) k).trans (by kernel_rfl))

/-! loop.example/g00244/laws.toRecS -/
noncomputable def laws_toRecS_L0_0 (m : Nat) : Nat → T → T → T → (T → An) → An
  | 0, _, _, _, _ => .bad
  | n + 1, x0, x1, x2, k0 =>
    cond (decide (x1.int < (x0.rows.length : Int)))
    (cond (decide ((0 : Int) ≤ x1.int ∧ x1.int < (x0.rows.length : Int)))
    (laws_toRec m ((x0.rows.getD (Int.toNat x1.int) []).getD 0 dflt) ((x0.rows.getD (Int.toNat x1.int) []).getD 1 dflt) (T.l ((x0.rows.getD (Int.toNat x1.int) []).getD 2 dflt).rows)
    (fun y0 y1 y2 => cond (decide ((0 : Int) ≤ x1.int ∧ x1.int < (x2.rows.length : Int)))
    (cond (decide ((Int.toNat x1.int) < x2.rows.length))
    (laws_toRecS_L0_0 m n x0 (T.i (IntKind.i64.wrap (x1.int + 1))) (T.l (x2.rows.set (Int.toNat x1.int) ((((x2.rows.getD (Int.toNat x1.int) []).set 0 y0).set 1 y1).set 2 (T.l y2.rows)))) k0)
    (.bad))
    (.bad)))
    (.bad))
    (k0 (T.l x2.rows))
noncomputable def laws_toRecS_s0_0 : Pack := ⟨[(0, .one ⟨.sn [([4000000], 0)], .sl [.sc (.int .i64), .sc (.int .i64), .sl [.sc (.int .i64), .sc (.str), .sc (.str)]], .l []⟩), (3, .one ⟨.al [1000000, 1] 0, .sl [.sc (.int .i64), .sc (.int .i64), .sl [.sc (.int .i64), .sc (.str), .sc (.str)]], .l []⟩), (4, .one ⟨.sc, .sc (.int .i64), .l []⟩)], [([4000000], .gone), ([1000000, 1], .row [.sc (.int .i64), .sc (.int .i64), .sl [.sc (.int .i64), .sc (.str), .sc (.str)]] [.F, .F, .O [.F, .F, .F]] [])]⟩
noncomputable def laws_toRecS_e0_0 : Pack := ⟨[(3, .one ⟨.al [1000000, 0] 0, .sl [.sc (.int .i64), .sc (.int .i64), .sl [.sc (.int .i64), .sc (.str), .sc (.str)]], .l []⟩)], [([1000000, 0], .row [.sc (.int .i64), .sc (.int .i64), .sl [.sc (.int .i64), .sc (.str), .sc (.str)]] [.F, .F, .O [.F, .F, .F]] [])]⟩
noncomputable def laws_toRecS_L0_0w (m n : Nat) (vs : List T) (k : Ctl → Pack → An) : An := laws_toRecS_L0_0 m n (vs.headD dflt) (vs.tail.headD dflt) (vs.tail.tail.headD dflt) (fun z0 => k (.exit 0) (fPack laws_toRecS_e0_0 [z0]))
noncomputable def laws_toRecS : Nat → T → (T → An) → An
  | 0, _, _ => .bad
  | m + 1, x0, k0 =>
    cond (decide (0 ≤ (x0.rows.length : Int) ∧ (x0.rows.length : Int) ≤ (x0.rows.length : Int)))
    (cond (decide ((x0.rows.length : Int) * ((40 : Nat) : Int) ≤ (maxCells : Int)))
    (laws_toRecS_L0_0 m m (T.l x0.rows) (T.i 0) (T.l (List.replicate (Int.toNat (x0.rows.length : Int)) [(T.i 0), (T.i 0), (T.l [])]))
    (fun y3 => k0 (T.l y3.rows)))
    (.bad))
    (.bad)
noncomputable def laws_toRecS_a : List Arg := [.one (.dz [.sc (.int .i64), .sc (.int .i64), .sl [.sc (.int .i64), .sc (.str), .sc (.str)]] [])]
noncomputable def laws_toRecS_w (m : Nat) (vs : List T) (k : Ret → An) : An := laws_toRecS m (vs.headD dflt) (fun z0 => k ⟨[.one (.own [1000000, 0] [.sc (.int .i64), .sc (.int .i64), .sl [.sc (.int .i64), .sc (.str), .sc (.str)]] [.F, .F, .O [.F, .F, .F]] z0.rows)], [[none]], [none]⟩)
theorem laws_toRecS_cf (m : Nat) : callK CX prims m = (patC 146 laws_toRec_a (laws_toRec_w m) (callK CX prims m)) := by
  rw [← patC_eq (fun vs k => laws_toRec_eq m vs k)]
noncomputable def laws_toRecS_c : Code := (Try.f119.body).getD .skip
noncomputable def laws_toRecS_fi : Fi := ⟨119, 1, 23, 4⟩
theorem laws_toRecS_lf (m : Nat) : ∀ n, (∀ vs k, loopK CX (callK CX prims m) laws_toRecS_fi laws_toRecS_c n [0, 1, 0, 1, 1] (fPack laws_toRecS_s0_0 vs) k = laws_toRecS_L0_0w m n vs k) ∧ ((loopK CX (callK CX prims m) laws_toRecS_fi laws_toRecS_c n) = (patL [0, 1, 0, 1, 1] laws_toRecS_s0_0 (laws_toRecS_L0_0w m n) (loopK CX (callK CX prims m) laws_toRecS_fi laws_toRecS_c n))) := by
  intro n
  have hl : ∀ n, (∀ vs k, loopK CX (callK CX prims m) laws_toRecS_fi laws_toRecS_c n [0, 1, 0, 1, 1] (fPack laws_toRecS_s0_0 vs) k = laws_toRecS_L0_0w m n vs k) → ((loopK CX (callK CX prims m) laws_toRecS_fi laws_toRecS_c n) = (patL [0, 1, 0, 1, 1] laws_toRecS_s0_0 (laws_toRecS_L0_0w m n) (loopK CX (callK CX prims m) laws_toRecS_fi laws_toRecS_c n))) := by
    intro n h0
    rw [← patL_eq h0]
  induction n with
  | zero => exact ⟨fun vs k => rfl, hl 0 (fun vs k => rfl)⟩
  | succ n ihn =>
    have hn := ihn.2
    have h0 : ∀ vs k, loopK CX (callK CX prims m) laws_toRecS_fi laws_toRecS_c (n + 1) [0, 1, 0, 1, 1] (fPack laws_toRecS_s0_0 vs) k = laws_toRecS_L0_0w m (n + 1) vs k := fun vs k =>
      (stepL_congr (laws_toRecS_cf m) hn [0, 1, 0, 1, 1] _ _).trans (by kernel_rfl)
    exact ⟨h0, hl (n + 1) h0⟩
theorem laws_toRecS_eq (m : Nat) : ∀ vs k, callK CX prims m 119 (fArgs laws_toRecS_a vs) k = laws_toRecS_w m vs k := by
  cases m with
  | zero => exact fun vs k => rfl
  | succ m => exact fun vs k => Eq.trans (b := bodyK CX (callK CX prims m) (loopK CX (callK CX prims m) laws_toRecS_fi laws_toRecS_c m) 119 Try.f119 laws_toRecS_c (fArgs laws_toRecS_a vs) k) (by kernel_rfl) ((bodyK_congr (laws_toRecS_cf m) ((laws_toRecS_lf m m).2) 119 Try.f119 laws_toRecS_c (fArgs laws_toRecS_a vs) k).trans (by kernel_rfl))

/-! loop.example/g00244/laws.toPair -/
noncomputable def laws_toPair : Nat → T → T → (T → T → An) → An
  | 0, _, _, _ => .bad
  | m + 1, x0, x1, k0 =>
    k0 x0 x1
noncomputable def laws_toPair_a : List Arg := [.agg [.sc (.str) (.l []), .sc (.str) (.l [])]]
noncomputable def laws_toPair_w (m : Nat) (vs : List T) (k : Ret → An) : An := laws_toPair m (vs.headD dflt) (vs.tail.headD dflt) (fun z0 z1 => k ⟨[.agg [.sc (.str) z0, .sc (.str) z1]], [[none, none]], [none]⟩)
theorem laws_toPair_cf (m : Nat) : callK CX prims m = (callK CX prims m) := by
  rfl
noncomputable def laws_toPair_c : Code := (Try.f132.body).getD .skip
noncomputable def laws_toPair_fi : Fi := ⟨132, 1, 11, 4⟩
theorem laws_toPair_eq (m : Nat) : ∀ vs k, callK CX prims m 132 (fArgs laws_toPair_a vs) k = laws_toPair_w m vs k := by
  cases m with
  | zero => exact fun vs k => rfl
  | succ m => exact fun vs k => Eq.trans (b := bodyK CX (callK CX prims m) (loopK CX (callK CX prims m) laws_toPair_fi laws_toPair_c m) 132 Try.f132 laws_toPair_c (fArgs laws_toPair_a vs) k) (by kernel_rfl) ((bodyK_congr (laws_toPair_cf m) rfl 132 Try.f132 laws_toPair_c (fArgs laws_toPair_a vs) k).trans (by kernel_rfl))

/-! loop.example/g00244/laws.toPairS -/
noncomputable def laws_toPairS_L0_0 (m : Nat) : Nat → T → T → T → (T → An) → An
  | 0, _, _, _, _ => .bad
  | n + 1, x0, x1, x2, k0 =>
    cond (decide (x1.int < (x0.rows.length : Int)))
    (cond (decide ((0 : Int) ≤ x1.int ∧ x1.int < (x0.rows.length : Int)))
    (laws_toPair m ((x0.rows.getD (Int.toNat x1.int) []).getD 0 dflt) ((x0.rows.getD (Int.toNat x1.int) []).getD 1 dflt)
    (fun y0 y1 => cond (decide ((0 : Int) ≤ x1.int ∧ x1.int < (x2.rows.length : Int)))
    (cond (decide ((Int.toNat x1.int) < x2.rows.length))
    (laws_toPairS_L0_0 m n x0 (T.i (IntKind.i64.wrap (x1.int + 1))) (T.l (x2.rows.set (Int.toNat x1.int) (((x2.rows.getD (Int.toNat x1.int) []).set 0 y0).set 1 y1))) k0)
    (.bad))
    (.bad)))
    (.bad))
    (k0 (T.l x2.rows))
noncomputable def laws_toPairS_s0_0 : Pack := ⟨[(0, .one ⟨.sn [([4000000], 0)], .sl [.sc (.str), .sc (.str)], .l []⟩), (3, .one ⟨.al [1000000, 1] 0, .sl [.sc (.str), .sc (.str)], .l []⟩), (4, .one ⟨.sc, .sc (.int .i64), .l []⟩)], [([4000000], .gone), ([1000000, 1], .row [.sc (.str), .sc (.str)] [.F, .F] [])]⟩
noncomputable def laws_toPairS_e0_0 : Pack := ⟨[(3, .one ⟨.al [1000000, 0] 0, .sl [.sc (.str), .sc (.str)], .l []⟩)], [([1000000, 0], .row [.sc (.str), .sc (.str)] [.F, .F] [])]⟩
noncomputable def laws_toPairS_L0_0w (m n : Nat) (vs : List T) (k : Ctl → Pack → An) : An := laws_toPairS_L0_0 m n (vs.headD dflt) (vs.tail.headD dflt) (vs.tail.tail.headD dflt) (fun z0 => k (.exit 0) (fPack laws_toPairS_e0_0 [z0]))
noncomputable def laws_toPairS : Nat → T → (T → An) → An
  | 0, _, _ => .bad
  | m + 1, x0, k0 =>
    cond (decide (0 ≤ (x0.rows.length : Int) ∧ (x0.rows.length : Int) ≤ (x0.rows.length : Int)))
    (cond (decide ((x0.rows.length : Int) * ((32 : Nat) : Int) ≤ (maxCells : Int)))
    (laws_toPairS_L0_0 m m (T.l x0.rows) (T.i 0) (T.l (List.replicate (Int.toNat (x0.rows.length : Int)) [(T.s (⟨#[]⟩ : ByteArray)), (T.s (⟨#[]⟩ : ByteArray))]))
    (fun y2 => k0 (T.l y2.rows)))
    (.bad))
    (.bad)
noncomputable def laws_toPairS_a : List Arg := [.one (.dz [.sc (.str), .sc (.str)] [])]
noncomputable def laws_toPairS_w (m : Nat) (vs : List T) (k : Ret → An) : An := laws_toPairS m (vs.headD dflt) (fun z0 => k ⟨[.one (.own [1000000, 0] [.sc (.str), .sc (.str)] [.F, .F] z0.rows)], [[none]], [none]⟩)
theorem laws_toPairS_cf (m : Nat) : callK CX prims m = (patC 132 laws_toPair_a (laws_toPair_w m) (callK CX prims m)) := by
  rw [← patC_eq (fun vs k => laws_toPair_eq m vs k)]
noncomputable def laws_toPairS_c : Code := (Try.f99.body).getD .skip
noncomputable def laws_toPairS_fi : Fi := ⟨99, 1, 23, 4⟩
theorem laws_toPairS_lf (m : Nat) : ∀ n, (∀ vs k, loopK CX (callK CX prims m) laws_toPairS_fi laws_toPairS_c n [0, 1, 0, 1, 1] (fPack laws_toPairS_s0_0 vs) k = laws_toPairS_L0_0w m n vs k) ∧ ((loopK CX (callK CX prims m) laws_toPairS_fi laws_toPairS_c n) = (patL [0, 1, 0, 1, 1] laws_toPairS_s0_0 (laws_toPairS_L0_0w m n) (loopK CX (callK CX prims m) laws_toPairS_fi laws_toPairS_c n))) := by
  intro n
  have hl : ∀ n, (∀ vs k, loopK CX (callK CX prims m) laws_toPairS_fi laws_toPairS_c n [0, 1, 0, 1, 1] (fPack laws_toPairS_s0_0 vs) k = laws_toPairS_L0_0w m n vs k) → ((loopK CX (callK CX prims m) laws_toPairS_fi laws_toPairS_c n) = (patL [0, 1, 0, 1, 1] laws_toPairS_s0_0 (laws_toPairS_L0_0w m n) (loopK CX (callK CX prims m) laws_toPairS_fi laws_toPairS_c n))) := by
    intro n h0
    rw [← patL_eq h0]
  induction n with
  | zero => exact ⟨fun vs k => rfl, hl 0 (fun vs k => rfl)⟩
  | succ n ihn =>
    have hn := ihn.2
    have h0 : ∀ vs k, loopK CX (callK CX prims m) laws_toPairS_fi laws_toPairS_c (n + 1) [0, 1, 0, 1, 1] (fPack laws_toPairS_s0_0 vs) k = laws_toPairS_L0_0w m (n + 1) vs k := fun vs k =>
      (stepL_congr (laws_toPairS_cf m) hn [0, 1, 0, 1, 1] _ _).trans (by kernel_rfl)
    exact ⟨h0, hl (n + 1) h0⟩
theorem laws_toPairS_eq (m : Nat) : ∀ vs k, callK CX prims m 99 (fArgs laws_toPairS_a vs) k = laws_toPairS_w m vs k := by
  cases m with
  | zero => exact fun vs k => rfl
  | succ m => exact fun vs k => Eq.trans (b := bodyK CX (callK CX prims m) (loopK CX (callK CX prims m) laws_toPairS_fi laws_toPairS_c m) 99 Try.f99 laws_toPairS_c (fArgs laws_toPairS_a vs) k) (by kernel_rfl) ((bodyK_congr (laws_toPairS_cf m) ((laws_toPairS_lf m m).2) 99 Try.f99 laws_toPairS_c (fArgs laws_toPairS_a vs) k).trans (by kernel_rfl))

/-! loop.example/g00244/laws.toShard -/
noncomputable def laws_toShard : Nat → T → T → T → T → T → (T → T → T → T → T → An) → An
  | 0, _, _, _, _, _, _ => .bad
  | m + 1, x0, x1, x2, x3, x4, k0 =>
    laws_toRecS m (T.l x1.rows)
    (fun y0 => laws_toPairS m (T.l x3.rows)
    (fun y1 => laws_toRecS m (T.l x4.rows)
    (fun y2 => k0 x0 (T.l y0.rows) x2 (T.l y1.rows) (T.l y2.rows))))
noncomputable def laws_toShard_a : List Arg := [.agg [.sc (.int .i64) (.l []), .dz [.sc (.int .i64), .sc (.int .i64), .sl [.sc (.int .i64), .sc (.str), .sc (.str)]] [], .sc (.int .i64) (.l []), .dz [.sc (.str), .sc (.str)] [], .dz [.sc (.int .i64), .sc (.int .i64), .sl [.sc (.int .i64), .sc (.str), .sc (.str)]] []]]
noncomputable def laws_toShard_w (m : Nat) (vs : List T) (k : Ret → An) : An := laws_toShard m (vs.headD dflt) (vs.tail.headD dflt) (vs.tail.tail.headD dflt) (vs.tail.tail.tail.headD dflt) (vs.tail.tail.tail.tail.headD dflt) (fun z0 z1 z2 z3 z4 => k ⟨[.agg [.sc (.int .i64) z0, .own [2000009, 0, 0] [.sc (.int .i64), .sc (.int .i64), .sl [.sc (.int .i64), .sc (.str), .sc (.str)]] [.F, .F, .O [.F, .F, .F]] z1.rows, .sc (.int .i64) z2, .own [2000016, 0, 0] [.sc (.str), .sc (.str)] [.F, .F] z3.rows, .own [2000020, 0, 0] [.sc (.int .i64), .sc (.int .i64), .sl [.sc (.int .i64), .sc (.str), .sc (.str)]] [.F, .F, .O [.F, .F, .F]] z4.rows]], [[none, none, none, none, none]], [none]⟩)
theorem laws_toShard_cf (m : Nat) : callK CX prims m = (patC 119 laws_toRecS_a (laws_toRecS_w m) (patC 99 laws_toPairS_a (laws_toPairS_w m) (callK CX prims m))) := by
  rw [← patC_eq (fun vs k => laws_toPairS_eq m vs k), ← patC_eq (fun vs k => laws_toRecS_eq m vs k)]
noncomputable def laws_toShard_c : Code := (Try.f82.body).getD .skip
noncomputable def laws_toShard_fi : Fi := ⟨82, 1, 23, 4⟩
theorem laws_toShard_eq (m : Nat) : ∀ vs k, callK CX prims m 82 (fArgs laws_toShard_a vs) k = laws_toShard_w m vs k := by
  cases m with
  | zero => exact fun vs k => rfl
  | succ m => exact fun vs k => Eq.trans (b := bodyK CX (callK CX prims m) (loopK CX (callK CX prims m) laws_toShard_fi laws_toShard_c m) 82 Try.f82 laws_toShard_c (fArgs laws_toShard_a vs) k) (by kernel_rfl) ((bodyK_congr (laws_toShard_cf m) rfl 82 Try.f82 laws_toShard_c (fArgs laws_toShard_a vs) k).trans (by kernel_rfl))

/-! loop.example/g00244/laws.toShardS -/
noncomputable def laws_toShardS_L0_0 (m : Nat) : Nat → T → T → T → (T → An) → An
  | 0, _, _, _, _ => .bad
  | n + 1, x0, x1, x2, k0 =>
    cond (decide (x1.int < (x0.rows.length : Int)))
    (cond (decide ((0 : Int) ≤ x1.int ∧ x1.int < (x0.rows.length : Int)))
    (laws_toShard m ((x0.rows.getD (Int.toNat x1.int) []).getD 0 dflt) (T.l ((x0.rows.getD (Int.toNat x1.int) []).getD 1 dflt).rows) ((x0.rows.getD (Int.toNat x1.int) []).getD 2 dflt) (T.l ((x0.rows.getD (Int.toNat x1.int) []).getD 3 dflt).rows) (T.l ((x0.rows.getD (Int.toNat x1.int) []).getD 4 dflt).rows)
    (fun y0 y1 y2 y3 y4 => cond (decide ((0 : Int) ≤ x1.int ∧ x1.int < (x2.rows.length : Int)))
    (cond (decide ((Int.toNat x1.int) < x2.rows.length))
    (laws_toShardS_L0_0 m n x0 (T.i (IntKind.i64.wrap (x1.int + 1))) (T.l (x2.rows.set (Int.toNat x1.int) ((((((x2.rows.getD (Int.toNat x1.int) []).set 0 y0).set 1 (T.l y1.rows)).set 2 y2).set 3 (T.l y3.rows)).set 4 (T.l y4.rows)))) k0)
    (.bad))
    (.bad)))
    (.bad))
    (k0 (T.l x2.rows))
noncomputable def laws_toShardS_s0_0 : Pack := ⟨[(0, .one ⟨.sn [([4000000], 0)], .sl [.sc (.int .i64), .sl [.sc (.int .i64), .sc (.int .i64), .sl [.sc (.int .i64), .sc (.str), .sc (.str)]], .sc (.int .i64), .sl [.sc (.str), .sc (.str)], .sl [.sc (.int .i64), .sc (.int .i64), .sl [.sc (.int .i64), .sc (.str), .sc (.str)]]], .l []⟩), (3, .one ⟨.al [1000000, 1] 0, .sl [.sc (.int .i64), .sl [.sc (.int .i64), .sc (.int .i64), .sl [.sc (.int .i64), .sc (.str), .sc (.str)]], .sc (.int .i64), .sl [.sc (.str), .sc (.str)], .sl [.sc (.int .i64), .sc (.int .i64), .sl [.sc (.int .i64), .sc (.str), .sc (.str)]]], .l []⟩), (4, .one ⟨.sc, .sc (.int .i64), .l []⟩)], [([4000000], .gone), ([1000000, 1], .row [.sc (.int .i64), .sl [.sc (.int .i64), .sc (.int .i64), .sl [.sc (.int .i64), .sc (.str), .sc (.str)]], .sc (.int .i64), .sl [.sc (.str), .sc (.str)], .sl [.sc (.int .i64), .sc (.int .i64), .sl [.sc (.int .i64), .sc (.str), .sc (.str)]]] [.F, .O [.F, .F, .O [.F, .F, .F]], .F, .O [.F, .F], .O [.F, .F, .O [.F, .F, .F]]] [])]⟩
noncomputable def laws_toShardS_e0_0 : Pack := ⟨[(3, .one ⟨.al [1000000, 0] 0, .sl [.sc (.int .i64), .sl [.sc (.int .i64), .sc (.int .i64), .sl [.sc (.int .i64), .sc (.str), .sc (.str)]], .sc (.int .i64), .sl [.sc (.str), .sc (.str)], .sl [.sc (.int .i64), .sc (.int .i64), .sl [.sc (.int .i64), .sc (.str), .sc (.str)]]], .l []⟩)], [([1000000, 0], .row [.sc (.int .i64), .sl [.sc (.int .i64), .sc (.int .i64), .sl [.sc (.int .i64), .sc (.str), .sc (.str)]], .sc (.int .i64), .sl [.sc (.str), .sc (.str)], .sl [.sc (.int .i64), .sc (.int .i64), .sl [.sc (.int .i64), .sc (.str), .sc (.str)]]] [.F, .O [.F, .F, .O [.F, .F, .F]], .F, .O [.F, .F], .O [.F, .F, .O [.F, .F, .F]]] [])]⟩
noncomputable def laws_toShardS_L0_0w (m n : Nat) (vs : List T) (k : Ctl → Pack → An) : An := laws_toShardS_L0_0 m n (vs.headD dflt) (vs.tail.headD dflt) (vs.tail.tail.headD dflt) (fun z0 => k (.exit 0) (fPack laws_toShardS_e0_0 [z0]))
noncomputable def laws_toShardS : Nat → T → (T → An) → An
  | 0, _, _ => .bad
  | m + 1, x0, k0 =>
    cond (decide (0 ≤ (x0.rows.length : Int) ∧ (x0.rows.length : Int) ≤ (x0.rows.length : Int)))
    (cond (decide ((x0.rows.length : Int) * ((88 : Nat) : Int) ≤ (maxCells : Int)))
    (laws_toShardS_L0_0 m m (T.l x0.rows) (T.i 0) (T.l (List.replicate (Int.toNat (x0.rows.length : Int)) [(T.i 0), (T.l []), (T.i 0), (T.l []), (T.l [])]))
    (fun y5 => k0 (T.l y5.rows)))
    (.bad))
    (.bad)
noncomputable def laws_toShardS_a : List Arg := [.one (.dz [.sc (.int .i64), .sl [.sc (.int .i64), .sc (.int .i64), .sl [.sc (.int .i64), .sc (.str), .sc (.str)]], .sc (.int .i64), .sl [.sc (.str), .sc (.str)], .sl [.sc (.int .i64), .sc (.int .i64), .sl [.sc (.int .i64), .sc (.str), .sc (.str)]]] [])]
noncomputable def laws_toShardS_w (m : Nat) (vs : List T) (k : Ret → An) : An := laws_toShardS m (vs.headD dflt) (fun z0 => k ⟨[.one (.own [1000000, 0] [.sc (.int .i64), .sl [.sc (.int .i64), .sc (.int .i64), .sl [.sc (.int .i64), .sc (.str), .sc (.str)]], .sc (.int .i64), .sl [.sc (.str), .sc (.str)], .sl [.sc (.int .i64), .sc (.int .i64), .sl [.sc (.int .i64), .sc (.str), .sc (.str)]]] [.F, .O [.F, .F, .O [.F, .F, .F]], .F, .O [.F, .F], .O [.F, .F, .O [.F, .F, .F]]] z0.rows)], [[none]], [none]⟩)
theorem laws_toShardS_cf (m : Nat) : callK CX prims m = (patC 82 laws_toShard_a (laws_toShard_w m) (callK CX prims m)) := by
  rw [← patC_eq (fun vs k => laws_toShard_eq m vs k)]
noncomputable def laws_toShardS_c : Code := (Try.f40.body).getD .skip
noncomputable def laws_toShardS_fi : Fi := ⟨40, 1, 23, 4⟩
theorem laws_toShardS_lf (m : Nat) : ∀ n, (∀ vs k, loopK CX (callK CX prims m) laws_toShardS_fi laws_toShardS_c n [0, 1, 0, 1, 1] (fPack laws_toShardS_s0_0 vs) k = laws_toShardS_L0_0w m n vs k) ∧ ((loopK CX (callK CX prims m) laws_toShardS_fi laws_toShardS_c n) = (patL [0, 1, 0, 1, 1] laws_toShardS_s0_0 (laws_toShardS_L0_0w m n) (loopK CX (callK CX prims m) laws_toShardS_fi laws_toShardS_c n))) := by
  intro n
  have hl : ∀ n, (∀ vs k, loopK CX (callK CX prims m) laws_toShardS_fi laws_toShardS_c n [0, 1, 0, 1, 1] (fPack laws_toShardS_s0_0 vs) k = laws_toShardS_L0_0w m n vs k) → ((loopK CX (callK CX prims m) laws_toShardS_fi laws_toShardS_c n) = (patL [0, 1, 0, 1, 1] laws_toShardS_s0_0 (laws_toShardS_L0_0w m n) (loopK CX (callK CX prims m) laws_toShardS_fi laws_toShardS_c n))) := by
    intro n h0
    rw [← patL_eq h0]
  induction n with
  | zero => exact ⟨fun vs k => rfl, hl 0 (fun vs k => rfl)⟩
  | succ n ihn =>
    have hn := ihn.2
    have h0 : ∀ vs k, loopK CX (callK CX prims m) laws_toShardS_fi laws_toShardS_c (n + 1) [0, 1, 0, 1, 1] (fPack laws_toShardS_s0_0 vs) k = laws_toShardS_L0_0w m (n + 1) vs k := fun vs k =>
      (stepL_congr (laws_toShardS_cf m) hn [0, 1, 0, 1, 1] _ _).trans (by kernel_rfl)
    exact ⟨h0, hl (n + 1) h0⟩
theorem laws_toShardS_eq (m : Nat) : ∀ vs k, callK CX prims m 40 (fArgs laws_toShardS_a vs) k = laws_toShardS_w m vs k := by
  cases m with
  | zero => exact fun vs k => rfl
  | succ m => exact fun vs k => Eq.trans (b := bodyK CX (callK CX prims m) (loopK CX (callK CX prims m) laws_toShardS_fi laws_toShardS_c m) 40 Try.f40 laws_toShardS_c (fArgs laws_toShardS_a vs) k) (by kernel_rfl) ((bodyK_congr (laws_toShardS_cf m) ((laws_toShardS_lf m m).2) 40 Try.f40 laws_toShardS_c (fArgs laws_toShardS_a vs) k).trans (by kernel_rfl))

/-! loop.example/g00244/laws.toWord -/
noncomputable def laws_toWord : Nat → T → T → T → T → T → (T → T → T → T → T → An) → An
  | 0, _, _, _, _, _, _ => .bad
  | m + 1, x0, x1, x2, x3, x4, k0 =>
    laws_toOpS m (T.l x3.rows)
    (fun y0 => k0 x0 x1 x2 (T.l y0.rows) x4)
noncomputable def laws_toWord_a : List Arg := [.agg [.sc (.int .i64) (.l []), .sc (.int .i64) (.l []), .sc (.int .i64) (.l []), .dz [.sc (.int .i64), .sc (.str), .sc (.str)] [], .sc (.bool) (.l [])]]
noncomputable def laws_toWord_w (m : Nat) (vs : List T) (k : Ret → An) : An := laws_toWord m (vs.headD dflt) (vs.tail.headD dflt) (vs.tail.tail.headD dflt) (vs.tail.tail.tail.headD dflt) (vs.tail.tail.tail.tail.headD dflt) (fun z0 z1 z2 z3 z4 => k ⟨[.agg [.sc (.int .i64) z0, .sc (.int .i64) z1, .sc (.int .i64) z2, .own [2000015, 0, 0] [.sc (.int .i64), .sc (.str), .sc (.str)] [.F, .F, .F] z3.rows, .sc (.bool) z4]], [[none, none, none, none, none]], [none]⟩)
theorem laws_toWord_cf (m : Nat) : callK CX prims m = (patC 120 laws_toOpS_a (laws_toOpS_w m) (callK CX prims m)) := by
  rw [← patC_eq (fun vs k => laws_toOpS_eq m vs k)]
noncomputable def laws_toWord_c : Code := (Try.f83.body).getD .skip
noncomputable def laws_toWord_fi : Fi := ⟨83, 1, 21, 4⟩
theorem laws_toWord_eq (m : Nat) : ∀ vs k, callK CX prims m 83 (fArgs laws_toWord_a vs) k = laws_toWord_w m vs k := by
  cases m with
  | zero => exact fun vs k => rfl
  | succ m => exact fun vs k => Eq.trans (b := bodyK CX (callK CX prims m) (loopK CX (callK CX prims m) laws_toWord_fi laws_toWord_c m) 83 Try.f83 laws_toWord_c (fArgs laws_toWord_a vs) k) (by kernel_rfl) ((bodyK_congr (laws_toWord_cf m) rfl 83 Try.f83 laws_toWord_c (fArgs laws_toWord_a vs) k).trans (by kernel_rfl))

/-! loop.example/g00244/laws.toWordS -/
noncomputable def laws_toWordS_L0_0 (m : Nat) : Nat → T → T → T → (T → An) → An
  | 0, _, _, _, _ => .bad
  | n + 1, x0, x1, x2, k0 =>
    cond (decide (x1.int < (x0.rows.length : Int)))
    (cond (decide ((0 : Int) ≤ x1.int ∧ x1.int < (x0.rows.length : Int)))
    (laws_toWord m ((x0.rows.getD (Int.toNat x1.int) []).getD 0 dflt) ((x0.rows.getD (Int.toNat x1.int) []).getD 1 dflt) ((x0.rows.getD (Int.toNat x1.int) []).getD 2 dflt) (T.l ((x0.rows.getD (Int.toNat x1.int) []).getD 3 dflt).rows) ((x0.rows.getD (Int.toNat x1.int) []).getD 4 dflt)
    (fun y0 y1 y2 y3 y4 => cond (decide ((0 : Int) ≤ x1.int ∧ x1.int < (x2.rows.length : Int)))
    (cond (decide ((Int.toNat x1.int) < x2.rows.length))
    (laws_toWordS_L0_0 m n x0 (T.i (IntKind.i64.wrap (x1.int + 1))) (T.l (x2.rows.set (Int.toNat x1.int) ((((((x2.rows.getD (Int.toNat x1.int) []).set 0 y0).set 1 y1).set 2 y2).set 3 (T.l y3.rows)).set 4 y4))) k0)
    (.bad))
    (.bad)))
    (.bad))
    (k0 (T.l x2.rows))
noncomputable def laws_toWordS_s0_0 : Pack := ⟨[(0, .one ⟨.sn [([4000000], 0)], .sl [.sc (.int .i64), .sc (.int .i64), .sc (.int .i64), .sl [.sc (.int .i64), .sc (.str), .sc (.str)], .sc (.bool)], .l []⟩), (3, .one ⟨.al [1000000, 1] 0, .sl [.sc (.int .i64), .sc (.int .i64), .sc (.int .i64), .sl [.sc (.int .i64), .sc (.str), .sc (.str)], .sc (.bool)], .l []⟩), (4, .one ⟨.sc, .sc (.int .i64), .l []⟩)], [([4000000], .gone), ([1000000, 1], .row [.sc (.int .i64), .sc (.int .i64), .sc (.int .i64), .sl [.sc (.int .i64), .sc (.str), .sc (.str)], .sc (.bool)] [.F, .F, .F, .O [.F, .F, .F], .F] [])]⟩
noncomputable def laws_toWordS_e0_0 : Pack := ⟨[(3, .one ⟨.al [1000000, 0] 0, .sl [.sc (.int .i64), .sc (.int .i64), .sc (.int .i64), .sl [.sc (.int .i64), .sc (.str), .sc (.str)], .sc (.bool)], .l []⟩)], [([1000000, 0], .row [.sc (.int .i64), .sc (.int .i64), .sc (.int .i64), .sl [.sc (.int .i64), .sc (.str), .sc (.str)], .sc (.bool)] [.F, .F, .F, .O [.F, .F, .F], .F] [])]⟩
noncomputable def laws_toWordS_L0_0w (m n : Nat) (vs : List T) (k : Ctl → Pack → An) : An := laws_toWordS_L0_0 m n (vs.headD dflt) (vs.tail.headD dflt) (vs.tail.tail.headD dflt) (fun z0 => k (.exit 0) (fPack laws_toWordS_e0_0 [z0]))
noncomputable def laws_toWordS : Nat → T → (T → An) → An
  | 0, _, _ => .bad
  | m + 1, x0, k0 =>
    cond (decide (0 ≤ (x0.rows.length : Int) ∧ (x0.rows.length : Int) ≤ (x0.rows.length : Int)))
    (cond (decide ((x0.rows.length : Int) * ((56 : Nat) : Int) ≤ (maxCells : Int)))
    (laws_toWordS_L0_0 m m (T.l x0.rows) (T.i 0) (T.l (List.replicate (Int.toNat (x0.rows.length : Int)) [(T.i 0), (T.i 0), (T.i 0), (T.l []), (T.b false)]))
    (fun y5 => k0 (T.l y5.rows)))
    (.bad))
    (.bad)
noncomputable def laws_toWordS_a : List Arg := [.one (.dz [.sc (.int .i64), .sc (.int .i64), .sc (.int .i64), .sl [.sc (.int .i64), .sc (.str), .sc (.str)], .sc (.bool)] [])]
noncomputable def laws_toWordS_w (m : Nat) (vs : List T) (k : Ret → An) : An := laws_toWordS m (vs.headD dflt) (fun z0 => k ⟨[.one (.own [1000000, 0] [.sc (.int .i64), .sc (.int .i64), .sc (.int .i64), .sl [.sc (.int .i64), .sc (.str), .sc (.str)], .sc (.bool)] [.F, .F, .F, .O [.F, .F, .F], .F] z0.rows)], [[none]], [none]⟩)
theorem laws_toWordS_cf (m : Nat) : callK CX prims m = (patC 83 laws_toWord_a (laws_toWord_w m) (callK CX prims m)) := by
  rw [← patC_eq (fun vs k => laws_toWord_eq m vs k)]
noncomputable def laws_toWordS_c : Code := (Try.f41.body).getD .skip
noncomputable def laws_toWordS_fi : Fi := ⟨41, 1, 23, 4⟩
theorem laws_toWordS_lf (m : Nat) : ∀ n, (∀ vs k, loopK CX (callK CX prims m) laws_toWordS_fi laws_toWordS_c n [0, 1, 0, 1, 1] (fPack laws_toWordS_s0_0 vs) k = laws_toWordS_L0_0w m n vs k) ∧ ((loopK CX (callK CX prims m) laws_toWordS_fi laws_toWordS_c n) = (patL [0, 1, 0, 1, 1] laws_toWordS_s0_0 (laws_toWordS_L0_0w m n) (loopK CX (callK CX prims m) laws_toWordS_fi laws_toWordS_c n))) := by
  intro n
  have hl : ∀ n, (∀ vs k, loopK CX (callK CX prims m) laws_toWordS_fi laws_toWordS_c n [0, 1, 0, 1, 1] (fPack laws_toWordS_s0_0 vs) k = laws_toWordS_L0_0w m n vs k) → ((loopK CX (callK CX prims m) laws_toWordS_fi laws_toWordS_c n) = (patL [0, 1, 0, 1, 1] laws_toWordS_s0_0 (laws_toWordS_L0_0w m n) (loopK CX (callK CX prims m) laws_toWordS_fi laws_toWordS_c n))) := by
    intro n h0
    rw [← patL_eq h0]
  induction n with
  | zero => exact ⟨fun vs k => rfl, hl 0 (fun vs k => rfl)⟩
  | succ n ihn =>
    have hn := ihn.2
    have h0 : ∀ vs k, loopK CX (callK CX prims m) laws_toWordS_fi laws_toWordS_c (n + 1) [0, 1, 0, 1, 1] (fPack laws_toWordS_s0_0 vs) k = laws_toWordS_L0_0w m (n + 1) vs k := fun vs k =>
      (stepL_congr (laws_toWordS_cf m) hn [0, 1, 0, 1, 1] _ _).trans (by kernel_rfl)
    exact ⟨h0, hl (n + 1) h0⟩
theorem laws_toWordS_eq (m : Nat) : ∀ vs k, callK CX prims m 41 (fArgs laws_toWordS_a vs) k = laws_toWordS_w m vs k := by
  cases m with
  | zero => exact fun vs k => rfl
  | succ m => exact fun vs k => Eq.trans (b := bodyK CX (callK CX prims m) (loopK CX (callK CX prims m) laws_toWordS_fi laws_toWordS_c m) 41 Try.f41 laws_toWordS_c (fArgs laws_toWordS_a vs) k) (by kernel_rfl) ((bodyK_congr (laws_toWordS_cf m) ((laws_toWordS_lf m m).2) 41 Try.f41 laws_toWordS_c (fArgs laws_toWordS_a vs) k).trans (by kernel_rfl))

/-! loop.example/g00244/laws.toOrder -/
noncomputable def laws_toOrder : Nat → T → T → (T → T → An) → An
  | 0, _, _, _ => .bad
  | m + 1, x0, x1, k0 =>
    laws_toOpS m (T.l x1.rows)
    (fun y0 => k0 x0 (T.l y0.rows))
noncomputable def laws_toOrder_a : List Arg := [.agg [.sc (.int .i64) (.l []), .dz [.sc (.int .i64), .sc (.str), .sc (.str)] []]]
noncomputable def laws_toOrder_w (m : Nat) (vs : List T) (k : Ret → An) : An := laws_toOrder m (vs.headD dflt) (vs.tail.headD dflt) (fun z0 z1 => k ⟨[.agg [.sc (.int .i64) z0, .own [2000009, 0, 0] [.sc (.int .i64), .sc (.str), .sc (.str)] [.F, .F, .F] z1.rows]], [[none, none]], [none]⟩)
theorem laws_toOrder_cf (m : Nat) : callK CX prims m = (patC 120 laws_toOpS_a (laws_toOpS_w m) (callK CX prims m)) := by
  rw [← patC_eq (fun vs k => laws_toOpS_eq m vs k)]
noncomputable def laws_toOrder_c : Code := (Try.f84.body).getD .skip
noncomputable def laws_toOrder_fi : Fi := ⟨84, 1, 12, 4⟩
theorem laws_toOrder_eq (m : Nat) : ∀ vs k, callK CX prims m 84 (fArgs laws_toOrder_a vs) k = laws_toOrder_w m vs k := by
  cases m with
  | zero => exact fun vs k => rfl
  | succ m => exact fun vs k => Eq.trans (b := bodyK CX (callK CX prims m) (loopK CX (callK CX prims m) laws_toOrder_fi laws_toOrder_c m) 84 Try.f84 laws_toOrder_c (fArgs laws_toOrder_a vs) k) (by kernel_rfl) ((bodyK_congr (laws_toOrder_cf m) rfl 84 Try.f84 laws_toOrder_c (fArgs laws_toOrder_a vs) k).trans (by kernel_rfl))

/-! loop.example/g00244/laws.toOrderS -/
noncomputable def laws_toOrderS_L0_0 (m : Nat) : Nat → T → T → T → (T → An) → An
  | 0, _, _, _, _ => .bad
  | n + 1, x0, x1, x2, k0 =>
    cond (decide (x1.int < (x0.rows.length : Int)))
    (cond (decide ((0 : Int) ≤ x1.int ∧ x1.int < (x0.rows.length : Int)))
    (laws_toOrder m ((x0.rows.getD (Int.toNat x1.int) []).getD 0 dflt) (T.l ((x0.rows.getD (Int.toNat x1.int) []).getD 1 dflt).rows)
    (fun y0 y1 => cond (decide ((0 : Int) ≤ x1.int ∧ x1.int < (x2.rows.length : Int)))
    (cond (decide ((Int.toNat x1.int) < x2.rows.length))
    (laws_toOrderS_L0_0 m n x0 (T.i (IntKind.i64.wrap (x1.int + 1))) (T.l (x2.rows.set (Int.toNat x1.int) (((x2.rows.getD (Int.toNat x1.int) []).set 0 y0).set 1 (T.l y1.rows)))) k0)
    (.bad))
    (.bad)))
    (.bad))
    (k0 (T.l x2.rows))
noncomputable def laws_toOrderS_s0_0 : Pack := ⟨[(0, .one ⟨.sn [([4000000], 0)], .sl [.sc (.int .i64), .sl [.sc (.int .i64), .sc (.str), .sc (.str)]], .l []⟩), (3, .one ⟨.al [1000000, 1] 0, .sl [.sc (.int .i64), .sl [.sc (.int .i64), .sc (.str), .sc (.str)]], .l []⟩), (4, .one ⟨.sc, .sc (.int .i64), .l []⟩)], [([4000000], .gone), ([1000000, 1], .row [.sc (.int .i64), .sl [.sc (.int .i64), .sc (.str), .sc (.str)]] [.F, .O [.F, .F, .F]] [])]⟩
noncomputable def laws_toOrderS_e0_0 : Pack := ⟨[(3, .one ⟨.al [1000000, 0] 0, .sl [.sc (.int .i64), .sl [.sc (.int .i64), .sc (.str), .sc (.str)]], .l []⟩)], [([1000000, 0], .row [.sc (.int .i64), .sl [.sc (.int .i64), .sc (.str), .sc (.str)]] [.F, .O [.F, .F, .F]] [])]⟩
noncomputable def laws_toOrderS_L0_0w (m n : Nat) (vs : List T) (k : Ctl → Pack → An) : An := laws_toOrderS_L0_0 m n (vs.headD dflt) (vs.tail.headD dflt) (vs.tail.tail.headD dflt) (fun z0 => k (.exit 0) (fPack laws_toOrderS_e0_0 [z0]))
noncomputable def laws_toOrderS : Nat → T → (T → An) → An
  | 0, _, _ => .bad
  | m + 1, x0, k0 =>
    cond (decide (0 ≤ (x0.rows.length : Int) ∧ (x0.rows.length : Int) ≤ (x0.rows.length : Int)))
    (cond (decide ((x0.rows.length : Int) * ((32 : Nat) : Int) ≤ (maxCells : Int)))
    (laws_toOrderS_L0_0 m m (T.l x0.rows) (T.i 0) (T.l (List.replicate (Int.toNat (x0.rows.length : Int)) [(T.i 0), (T.l [])]))
    (fun y2 => k0 (T.l y2.rows)))
    (.bad))
    (.bad)
noncomputable def laws_toOrderS_a : List Arg := [.one (.dz [.sc (.int .i64), .sl [.sc (.int .i64), .sc (.str), .sc (.str)]] [])]
noncomputable def laws_toOrderS_w (m : Nat) (vs : List T) (k : Ret → An) : An := laws_toOrderS m (vs.headD dflt) (fun z0 => k ⟨[.one (.own [1000000, 0] [.sc (.int .i64), .sl [.sc (.int .i64), .sc (.str), .sc (.str)]] [.F, .O [.F, .F, .F]] z0.rows)], [[none]], [none]⟩)
theorem laws_toOrderS_cf (m : Nat) : callK CX prims m = (patC 84 laws_toOrder_a (laws_toOrder_w m) (callK CX prims m)) := by
  rw [← patC_eq (fun vs k => laws_toOrder_eq m vs k)]
noncomputable def laws_toOrderS_c : Code := (Try.f42.body).getD .skip
noncomputable def laws_toOrderS_fi : Fi := ⟨42, 1, 23, 4⟩
theorem laws_toOrderS_lf (m : Nat) : ∀ n, (∀ vs k, loopK CX (callK CX prims m) laws_toOrderS_fi laws_toOrderS_c n [0, 1, 0, 1, 1] (fPack laws_toOrderS_s0_0 vs) k = laws_toOrderS_L0_0w m n vs k) ∧ ((loopK CX (callK CX prims m) laws_toOrderS_fi laws_toOrderS_c n) = (patL [0, 1, 0, 1, 1] laws_toOrderS_s0_0 (laws_toOrderS_L0_0w m n) (loopK CX (callK CX prims m) laws_toOrderS_fi laws_toOrderS_c n))) := by
  intro n
  have hl : ∀ n, (∀ vs k, loopK CX (callK CX prims m) laws_toOrderS_fi laws_toOrderS_c n [0, 1, 0, 1, 1] (fPack laws_toOrderS_s0_0 vs) k = laws_toOrderS_L0_0w m n vs k) → ((loopK CX (callK CX prims m) laws_toOrderS_fi laws_toOrderS_c n) = (patL [0, 1, 0, 1, 1] laws_toOrderS_s0_0 (laws_toOrderS_L0_0w m n) (loopK CX (callK CX prims m) laws_toOrderS_fi laws_toOrderS_c n))) := by
    intro n h0
    rw [← patL_eq h0]
  induction n with
  | zero => exact ⟨fun vs k => rfl, hl 0 (fun vs k => rfl)⟩
  | succ n ihn =>
    have hn := ihn.2
    have h0 : ∀ vs k, loopK CX (callK CX prims m) laws_toOrderS_fi laws_toOrderS_c (n + 1) [0, 1, 0, 1, 1] (fPack laws_toOrderS_s0_0 vs) k = laws_toOrderS_L0_0w m (n + 1) vs k := fun vs k =>
      (stepL_congr (laws_toOrderS_cf m) hn [0, 1, 0, 1, 1] _ _).trans (by kernel_rfl)
    exact ⟨h0, hl (n + 1) h0⟩
theorem laws_toOrderS_eq (m : Nat) : ∀ vs k, callK CX prims m 42 (fArgs laws_toOrderS_a vs) k = laws_toOrderS_w m vs k := by
  cases m with
  | zero => exact fun vs k => rfl
  | succ m => exact fun vs k => Eq.trans (b := bodyK CX (callK CX prims m) (loopK CX (callK CX prims m) laws_toOrderS_fi laws_toOrderS_c m) 42 Try.f42 laws_toOrderS_c (fArgs laws_toOrderS_a vs) k) (by kernel_rfl) ((bodyK_congr (laws_toOrderS_cf m) ((laws_toOrderS_lf m m).2) 42 Try.f42 laws_toOrderS_c (fArgs laws_toOrderS_a vs) k).trans (by kernel_rfl))

/-! loop.example/g00244/laws.toWorld -/
noncomputable def laws_toWorld : Nat → T → T → T → T → T → T → T → T → T → T → (T → T → T → T → T → T → T → T → T → T → An) → An
  | 0, _, _, _, _, _, _, _, _, _, _, _ => .bad
  | m + 1, x0, x1, x2, x3, x4, x5, x6, x7, x8, x9, k0 =>
    laws_toCoord m x0 x1 x2 (T.l x3.rows) (T.l x4.rows) x5
    (fun y0 y1 y2 y3 y4 y5 => laws_toShardS m (T.l x6.rows)
    (fun y6 => laws_toWordS m (T.l x7.rows)
    (fun y7 => laws_toWordS m (T.l x8.rows)
    (fun y8 => laws_toOrderS m (T.l x9.rows)
    (fun y9 => k0 y0 y1 y2 (T.l y3.rows) (T.l y4.rows) y5 (T.l y6.rows) (T.l y7.rows) (T.l y8.rows) (T.l y9.rows))))))
noncomputable def laws_toWorld_a : List Arg := [.agg [.sc (.int .i64) (.l []), .sc (.int .i64) (.l []), .sc (.int .i64) (.l []), .dz [.sc (.int .i64), .sl [.sc (.int .i64), .sc (.str), .sc (.str)], .sc (.int .i64), .sl [.sc (.int .i64)]] [], .dz [.sc (.int .i64), .sc (.bool)] [], .sc (.int .i64) (.l []), .dz [.sc (.int .i64), .sl [.sc (.int .i64), .sc (.int .i64), .sl [.sc (.int .i64), .sc (.str), .sc (.str)]], .sc (.int .i64), .sl [.sc (.str), .sc (.str)], .sl [.sc (.int .i64), .sc (.int .i64), .sl [.sc (.int .i64), .sc (.str), .sc (.str)]]] [], .dz [.sc (.int .i64), .sc (.int .i64), .sc (.int .i64), .sl [.sc (.int .i64), .sc (.str), .sc (.str)], .sc (.bool)] [], .dz [.sc (.int .i64), .sc (.int .i64), .sc (.int .i64), .sl [.sc (.int .i64), .sc (.str), .sc (.str)], .sc (.bool)] [], .dz [.sc (.int .i64), .sl [.sc (.int .i64), .sc (.str), .sc (.str)]] []]]
noncomputable def laws_toWorld_w (m : Nat) (vs : List T) (k : Ret → An) : An := laws_toWorld m (vs.headD dflt) (vs.tail.headD dflt) (vs.tail.tail.headD dflt) (vs.tail.tail.tail.headD dflt) (vs.tail.tail.tail.tail.headD dflt) (vs.tail.tail.tail.tail.tail.headD dflt) (vs.tail.tail.tail.tail.tail.tail.headD dflt) (vs.tail.tail.tail.tail.tail.tail.tail.headD dflt) (vs.tail.tail.tail.tail.tail.tail.tail.tail.headD dflt) (vs.tail.tail.tail.tail.tail.tail.tail.tail.tail.headD dflt) (fun z0 z1 z2 z3 z4 z5 z6 z7 z8 z9 => k ⟨[.agg [.sc (.int .i64) z0, .sc (.int .i64) z1, .sc (.int .i64) z2, .own [2000006, 0, 3] [.sc (.int .i64), .sl [.sc (.int .i64), .sc (.str), .sc (.str)], .sc (.int .i64), .sl [.sc (.int .i64)]] [.F, .O [.F, .F, .F], .F, .O [.F]] z3.rows, .own [2000006, 0, 4] [.sc (.int .i64), .sc (.bool)] [.F, .F] z4.rows, .sc (.int .i64) z5, .own [2000010, 0, 0] [.sc (.int .i64), .sl [.sc (.int .i64), .sc (.int .i64), .sl [.sc (.int .i64), .sc (.str), .sc (.str)]], .sc (.int .i64), .sl [.sc (.str), .sc (.str)], .sl [.sc (.int .i64), .sc (.int .i64), .sl [.sc (.int .i64), .sc (.str), .sc (.str)]]] [.F, .O [.F, .F, .O [.F, .F, .F]], .F, .O [.F, .F], .O [.F, .F, .O [.F, .F, .F]]] z6.rows, .own [2000014, 0, 0] [.sc (.int .i64), .sc (.int .i64), .sc (.int .i64), .sl [.sc (.int .i64), .sc (.str), .sc (.str)], .sc (.bool)] [.F, .F, .F, .O [.F, .F, .F], .F] z7.rows, .own [2000018, 0, 0] [.sc (.int .i64), .sc (.int .i64), .sc (.int .i64), .sl [.sc (.int .i64), .sc (.str), .sc (.str)], .sc (.bool)] [.F, .F, .F, .O [.F, .F, .F], .F] z8.rows, .own [2000022, 0, 0] [.sc (.int .i64), .sl [.sc (.int .i64), .sc (.str), .sc (.str)]] [.F, .O [.F, .F, .F]] z9.rows]], [[none, none, none, none, none, none, none, none, none, none]], [none]⟩)
theorem laws_toWorld_cf (m : Nat) : callK CX prims m = (patC 39 laws_toCoord_a (laws_toCoord_w m) (patC 40 laws_toShardS_a (laws_toShardS_w m) (patC 41 laws_toWordS_a (laws_toWordS_w m) (patC 42 laws_toOrderS_a (laws_toOrderS_w m) (callK CX prims m))))) := by
  rw [← patC_eq (fun vs k => laws_toOrderS_eq m vs k), ← patC_eq (fun vs k => laws_toWordS_eq m vs k), ← patC_eq (fun vs k => laws_toShardS_eq m vs k), ← patC_eq (fun vs k => laws_toCoord_eq m vs k)]
noncomputable def laws_toWorld_c : Code := (Try.f9.body).getD .skip
noncomputable def laws_toWorld_fi : Fi := ⟨9, 1, 25, 4⟩
theorem laws_toWorld_eq (m : Nat) : ∀ vs k, callK CX prims m 9 (fArgs laws_toWorld_a vs) k = laws_toWorld_w m vs k := by
  cases m with
  | zero => exact fun vs k => rfl
  | succ m => exact fun vs k => Eq.trans (b := bodyK CX (callK CX prims m) (loopK CX (callK CX prims m) laws_toWorld_fi laws_toWorld_c m) 9 Try.f9 laws_toWorld_c (fArgs laws_toWorld_a vs) k) (by kernel_rfl) ((bodyK_congr (laws_toWorld_cf m) rfl 9 Try.f9 laws_toWorld_c (fArgs laws_toWorld_a vs) k).trans (by kernel_rfl))

/-! loop.example/g00244/spec.l12Begun -/
noncomputable def spec_l12Begun_L0_0 (m : Nat) : Nat → T → T → T → T → T → T → T → T → T → T → T → T → T → (T → An) → An → An
  | 0, _, _, _, _, _, _, _, _, _, _, _, _, _, _, _ => .bad
  | n + 1, x0, x1, x2, x3, x4, x5, x6, x7, x8, x9, x10, x11, x12, k0, k1 =>
    cond (decide (x2.int < (x12.rows.length : Int)))
    (cond (decide ((0 : Int) ≤ x2.int ∧ x2.int < (x12.rows.length : Int)))
    (cond (((x12.rows.getD (Int.toNat x2.int) []).getD 0 dflt).int == x0.int)
    (k0 x2)
    (spec_l12Begun_L0_0 m n x0 (T.i (x1.int.toNat : Int)) (T.i (IntKind.i64.wrap (x2.int + 1))) x3 x4 x5 x6 x7 x8 x9 x10 x11 x12 k0 k1))
    (.bad))
    (k1 )
noncomputable def spec_l12Begun_s0_0 : Pack := ⟨[(1, .one ⟨.sc, .sc (.int .i64), .l []⟩), (2, .ptr [1000000, 0] 0 0 0), (5, .one ⟨.sc, .sc (.int .i64), .l []⟩)], [([1000000, 0], .box [⟨.sc, .sc (.int .i64), .l []⟩, ⟨.sc, .sc (.int .i64), .l []⟩, ⟨.sc, .sc (.int .i64), .l []⟩, ⟨.sn [([4000000], 0)], .sl [.sc (.int .i64), .sl [.sc (.int .i64), .sc (.str), .sc (.str)], .sc (.int .i64), .sl [.sc (.int .i64)]], .l []⟩, ⟨.sn [([4000000], 0)], .sl [.sc (.int .i64), .sc (.bool)], .l []⟩, ⟨.sc, .sc (.int .i64), .l []⟩, ⟨.sn [([4000000], 0)], .sl [.sc (.int .i64), .sl [.sc (.int .i64), .sc (.int .i64), .sl [.sc (.int .i64), .sc (.str), .sc (.str)]], .sc (.int .i64), .sl [.sc (.str), .sc (.str)], .sl [.sc (.int .i64), .sc (.int .i64), .sl [.sc (.int .i64), .sc (.str), .sc (.str)]]], .l []⟩, ⟨.sn [([4000000], 0)], .sl [.sc (.int .i64), .sc (.int .i64), .sc (.int .i64), .sl [.sc (.int .i64), .sc (.str), .sc (.str)], .sc (.bool)], .l []⟩, ⟨.sn [([4000000], 0)], .sl [.sc (.int .i64), .sc (.int .i64), .sc (.int .i64), .sl [.sc (.int .i64), .sc (.str), .sc (.str)], .sc (.bool)], .l []⟩, ⟨.sn [([4000000], 0)], .sl [.sc (.int .i64), .sl [.sc (.int .i64), .sc (.str), .sc (.str)]], .l []⟩]), ([4000000], .gone)]⟩
noncomputable def spec_l12Begun_e0_0 : Pack := ⟨[(4, .one ⟨.sc, .sc (.int .i64), .l []⟩)], []⟩
noncomputable def spec_l12Begun_e0_1 : Pack := ⟨[], []⟩
noncomputable def spec_l12Begun_L0_0w (m n : Nat) (vs : List T) (k : Ctl → Pack → An) : An := spec_l12Begun_L0_0 m n (vs.headD dflt) (vs.tail.headD dflt) (vs.tail.tail.headD dflt) (vs.tail.tail.tail.headD dflt) (vs.tail.tail.tail.tail.headD dflt) (vs.tail.tail.tail.tail.tail.headD dflt) (vs.tail.tail.tail.tail.tail.tail.headD dflt) (vs.tail.tail.tail.tail.tail.tail.tail.headD dflt) (vs.tail.tail.tail.tail.tail.tail.tail.tail.headD dflt) (vs.tail.tail.tail.tail.tail.tail.tail.tail.tail.headD dflt) (vs.tail.tail.tail.tail.tail.tail.tail.tail.tail.tail.headD dflt) (vs.tail.tail.tail.tail.tail.tail.tail.tail.tail.tail.tail.headD dflt) (vs.tail.tail.tail.tail.tail.tail.tail.tail.tail.tail.tail.tail.headD dflt) (fun z0 => k .ret (fPack spec_l12Begun_e0_0 [z0])) (k (.exit 0) (fPack spec_l12Begun_e0_1 []))
noncomputable def spec_l12Begun : Nat → T → T → T → T → T → T → T → T → T → T → T → (T → An) → An
  | 0, _, _, _, _, _, _, _, _, _, _, _, _ => .bad
  | m + 1, x0, x1, x2, x3, x4, x5, x6, x7, x8, x9, x10, k0 =>
    spec_l12Begun_L0_0 m m x10 (T.i 0) (T.i 0) x0 x1 x2 (T.l x3.rows) (T.l x4.rows) x5 (T.l x6.rows) (T.l x7.rows) (T.l x8.rows) (T.l x9.rows)
    (fun y0 => k0 y0)
    (k0 (T.i (-1)))
noncomputable def spec_l12Begun_a : List Arg := [.agg [.sc (.int .i64) (.l []), .sc (.int .i64) (.l []), .sc (.int .i64) (.l []), .dz [.sc (.int .i64), .sl [.sc (.int .i64), .sc (.str), .sc (.str)], .sc (.int .i64), .sl [.sc (.int .i64)]] [], .dz [.sc (.int .i64), .sc (.bool)] [], .sc (.int .i64) (.l []), .dz [.sc (.int .i64), .sl [.sc (.int .i64), .sc (.int .i64), .sl [.sc (.int .i64), .sc (.str), .sc (.str)]], .sc (.int .i64), .sl [.sc (.str), .sc (.str)], .sl [.sc (.int .i64), .sc (.int .i64), .sl [.sc (.int .i64), .sc (.str), .sc (.str)]]] [], .dz [.sc (.int .i64), .sc (.int .i64), .sc (.int .i64), .sl [.sc (.int .i64), .sc (.str), .sc (.str)], .sc (.bool)] [], .dz [.sc (.int .i64), .sc (.int .i64), .sc (.int .i64), .sl [.sc (.int .i64), .sc (.str), .sc (.str)], .sc (.bool)] [], .dz [.sc (.int .i64), .sl [.sc (.int .i64), .sc (.str), .sc (.str)]] []], .one (.sc (.int .i64) (.l []))]
noncomputable def spec_l12Begun_w (m : Nat) (vs : List T) (k : Ret → An) : An := spec_l12Begun m (vs.headD dflt) (vs.tail.headD dflt) (vs.tail.tail.headD dflt) (vs.tail.tail.tail.headD dflt) (vs.tail.tail.tail.tail.headD dflt) (vs.tail.tail.tail.tail.tail.headD dflt) (vs.tail.tail.tail.tail.tail.tail.headD dflt) (vs.tail.tail.tail.tail.tail.tail.tail.headD dflt) (vs.tail.tail.tail.tail.tail.tail.tail.tail.headD dflt) (vs.tail.tail.tail.tail.tail.tail.tail.tail.tail.headD dflt) (vs.tail.tail.tail.tail.tail.tail.tail.tail.tail.tail.headD dflt) (fun z0 => k ⟨[.one (.sc (.int .i64) z0)], [[none, none, none, none, none, none, none, none, none, none], [none]], [none, none]⟩)
theorem spec_l12Begun_cf (m : Nat) : callK CX prims m = (callK CX prims m) := by
  rfl
noncomputable def spec_l12Begun_c : Code := (Try.f69.body).getD .skip
noncomputable def spec_l12Begun_fi : Fi := ⟨69, 2, 22, 16⟩
theorem spec_l12Begun_lf (m : Nat) : ∀ n, (∀ vs k, loopK CX (callK CX prims m) spec_l12Begun_fi spec_l12Begun_c n [0, 1, 0, 1] (fPack spec_l12Begun_s0_0 vs) k = spec_l12Begun_L0_0w m n vs k) ∧ ((loopK CX (callK CX prims m) spec_l12Begun_fi spec_l12Begun_c n) = (patL [0, 1, 0, 1] spec_l12Begun_s0_0 (spec_l12Begun_L0_0w m n) (loopK CX (callK CX prims m) spec_l12Begun_fi spec_l12Begun_c n))) := by
  intro n
  have hl : ∀ n, (∀ vs k, loopK CX (callK CX prims m) spec_l12Begun_fi spec_l12Begun_c n [0, 1, 0, 1] (fPack spec_l12Begun_s0_0 vs) k = spec_l12Begun_L0_0w m n vs k) → ((loopK CX (callK CX prims m) spec_l12Begun_fi spec_l12Begun_c n) = (patL [0, 1, 0, 1] spec_l12Begun_s0_0 (spec_l12Begun_L0_0w m n) (loopK CX (callK CX prims m) spec_l12Begun_fi spec_l12Begun_c n))) := by
    intro n h0
    rw [← patL_eq h0]
  induction n with
  | zero => exact ⟨fun vs k => rfl, hl 0 (fun vs k => rfl)⟩
  | succ n ihn =>
    have hn := ihn.2
    have h0 : ∀ vs k, loopK CX (callK CX prims m) spec_l12Begun_fi spec_l12Begun_c (n + 1) [0, 1, 0, 1] (fPack spec_l12Begun_s0_0 vs) k = spec_l12Begun_L0_0w m (n + 1) vs k := fun vs k =>
      (stepL_congr (spec_l12Begun_cf m) hn [0, 1, 0, 1] _ _).trans (by kernel_rfl)
    exact ⟨h0, hl (n + 1) h0⟩
theorem spec_l12Begun_eq (m : Nat) : ∀ vs k, callK CX prims m 69 (fArgs spec_l12Begun_a vs) k = spec_l12Begun_w m vs k := by
  cases m with
  | zero => exact fun vs k => rfl
  | succ m => exact fun vs k => Eq.trans (b := bodyK CX (callK CX prims m) (loopK CX (callK CX prims m) spec_l12Begun_fi spec_l12Begun_c m) 69 Try.f69 spec_l12Begun_c (fArgs spec_l12Begun_a vs) k) (by kernel_rfl) ((bodyK_congr (spec_l12Begun_cf m) ((spec_l12Begun_lf m m).2) 69 Try.f69 spec_l12Begun_c (fArgs spec_l12Begun_a vs) k).trans (by kernel_rfl))

/-! loop.example/g00244/spec.Hash -/
noncomputable def spec_Hash_L0_0 (m : Nat) : Nat → T → T → T → (T → An) → An
  | 0, _, _, _, _ => .bad
  | n + 1, x0, x1, x2, k0 =>
    cond (decide (x2.int < (x0.str.size : Int)))
    (cond (decide ((0 : Int) ≤ x2.int ∧ x2.int < (x0.str.size : Int)))
    (spec_Hash_L0_0 m n x0 (bvBack .i64 (BitVec.ofInt IntKind.i64.bits (IntKind.i64.wrap ((bvBack .i64 (BitVec.ofInt IntKind.i64.bits x1.int ^^^ BitVec.ofInt IntKind.i64.bits (IntKind.i64.wrap ((x0.str.data.toList.getD (Int.toNat x2.int) 0).toNat : Int)))).int * 16777619)) &&& BitVec.ofInt IntKind.i64.bits 4294967295)) (T.i (IntKind.i64.wrap (x2.int + 1))) k0)
    (.bad))
    (k0 x1)
noncomputable def spec_Hash_s0_0 : Pack := ⟨[(0, .one ⟨.sc, .sc (.str), .l []⟩), (3, .one ⟨.sc, .sc (.int .i64), .l []⟩), (4, .one ⟨.sc, .sc (.int .i64), .l []⟩)], []⟩
noncomputable def spec_Hash_e0_0 : Pack := ⟨[(3, .one ⟨.sc, .sc (.int .i64), .l []⟩)], []⟩
noncomputable def spec_Hash_L0_0w (m n : Nat) (vs : List T) (k : Ctl → Pack → An) : An := spec_Hash_L0_0 m n (vs.headD dflt) (vs.tail.headD dflt) (vs.tail.tail.headD dflt) (fun z0 => k (.exit 0) (fPack spec_Hash_e0_0 [z0]))
noncomputable def spec_Hash : Nat → T → (T → An) → An
  | 0, _, _ => .bad
  | m + 1, x0, k0 =>
    spec_Hash_L0_0 m m x0 (T.i 2166136261) (T.i 0)
    (fun y0 => k0 y0)
noncomputable def spec_Hash_a : List Arg := [.one (.sc (.str) (.l []))]
noncomputable def spec_Hash_w (m : Nat) (vs : List T) (k : Ret → An) : An := spec_Hash m (vs.headD dflt) (fun z0 => k ⟨[.one (.sc (.int .i64) z0)], [[none]], [none]⟩)
theorem spec_Hash_cf (m : Nat) : callK CX prims m = (callK CX prims m) := by
  rfl
noncomputable def spec_Hash_c : Code := (Try.f165.body).getD .skip
noncomputable def spec_Hash_fi : Fi := ⟨165, 1, 20, 4⟩
theorem spec_Hash_lf (m : Nat) : ∀ n, (∀ vs k, loopK CX (callK CX prims m) spec_Hash_fi spec_Hash_c n [0, 1, 0, 1, 1] (fPack spec_Hash_s0_0 vs) k = spec_Hash_L0_0w m n vs k) ∧ ((loopK CX (callK CX prims m) spec_Hash_fi spec_Hash_c n) = (patL [0, 1, 0, 1, 1] spec_Hash_s0_0 (spec_Hash_L0_0w m n) (loopK CX (callK CX prims m) spec_Hash_fi spec_Hash_c n))) := by
  intro n
  have hl : ∀ n, (∀ vs k, loopK CX (callK CX prims m) spec_Hash_fi spec_Hash_c n [0, 1, 0, 1, 1] (fPack spec_Hash_s0_0 vs) k = spec_Hash_L0_0w m n vs k) → ((loopK CX (callK CX prims m) spec_Hash_fi spec_Hash_c n) = (patL [0, 1, 0, 1, 1] spec_Hash_s0_0 (spec_Hash_L0_0w m n) (loopK CX (callK CX prims m) spec_Hash_fi spec_Hash_c n))) := by
    intro n h0
    rw [← patL_eq h0]
  induction n with
  | zero => exact ⟨fun vs k => rfl, hl 0 (fun vs k => rfl)⟩
  | succ n ihn =>
    have hn := ihn.2
    have h0 : ∀ vs k, loopK CX (callK CX prims m) spec_Hash_fi spec_Hash_c (n + 1) [0, 1, 0, 1, 1] (fPack spec_Hash_s0_0 vs) k = spec_Hash_L0_0w m (n + 1) vs k := fun vs k =>
      (stepL_congr (spec_Hash_cf m) hn [0, 1, 0, 1, 1] _ _).trans (by kernel_rfl)
    exact ⟨h0, hl (n + 1) h0⟩
theorem spec_Hash_eq (m : Nat) : ∀ vs k, callK CX prims m 165 (fArgs spec_Hash_a vs) k = spec_Hash_w m vs k := by
  cases m with
  | zero => exact fun vs k => rfl
  | succ m => exact fun vs k => Eq.trans (b := bodyK CX (callK CX prims m) (loopK CX (callK CX prims m) spec_Hash_fi spec_Hash_c m) 165 Try.f165 spec_Hash_c (fArgs spec_Hash_a vs) k) (by kernel_rfl) ((bodyK_congr (spec_Hash_cf m) ((spec_Hash_lf m m).2) 165 Try.f165 spec_Hash_c (fArgs spec_Hash_a vs) k).trans (by kernel_rfl))

/-! loop.example/g00244/spec.ShardOf -/
noncomputable def spec_ShardOf : Nat → T → T → (T → An) → An
  | 0, _, _, _ => .bad
  | m + 1, x0, x1, k0 =>
    cond (decide (x1.int < 1))
    (k0 (T.i 0))
    (spec_Hash m x0
    (fun y0 => cond (!decide (x1.int = 0))
    (k0 (T.i (Int.tmod y0.int x1.int)))
    (.bad)))
noncomputable def spec_ShardOf_a : List Arg := [.one (.sc (.str) (.l [])), .one (.sc (.int .i64) (.l []))]
noncomputable def spec_ShardOf_w (m : Nat) (vs : List T) (k : Ret → An) : An := spec_ShardOf m (vs.headD dflt) (vs.tail.headD dflt) (fun z0 => k ⟨[.one (.sc (.int .i64) z0)], [[none], [none]], [none, none]⟩)
theorem spec_ShardOf_cf (m : Nat) : callK CX prims m = (patC 165 spec_Hash_a (spec_Hash_w m) (callK CX prims m)) := by
  rw [← patC_eq (fun vs k => spec_Hash_eq m vs k)]
noncomputable def spec_ShardOf_c : Code := (Try.f138.body).getD .skip
noncomputable def spec_ShardOf_fi : Fi := ⟨138, 2, 11, 16⟩
theorem spec_ShardOf_eq (m : Nat) : ∀ vs k, callK CX prims m 138 (fArgs spec_ShardOf_a vs) k = spec_ShardOf_w m vs k := by
  cases m with
  | zero => exact fun vs k => rfl
  | succ m => exact fun vs k => Eq.trans (b := bodyK CX (callK CX prims m) (loopK CX (callK CX prims m) spec_ShardOf_fi spec_ShardOf_c m) 138 Try.f138 spec_ShardOf_c (fArgs spec_ShardOf_a vs) k) (by kernel_rfl) ((bodyK_congr (spec_ShardOf_cf m) rfl 138 Try.f138 spec_ShardOf_c (fArgs spec_ShardOf_a vs) k).trans (by kernel_rfl))

/-! loop.example/g00244/spec.l7Has -/
noncomputable def spec_l7Has_L0_0 (m : Nat) : Nat → T → T → T → (T → An) → An → An
  | 0, _, _, _, _, _ => .bad
  | n + 1, x0, x1, x2, k0, k1 =>
    cond (decide (x2.int < (x0.rows.length : Int)))
    (cond (decide ((0 : Int) ≤ x2.int ∧ x2.int < (x0.rows.length : Int)))
    (cond (((x0.rows.getD (Int.toNat x2.int) []).getD 0 dflt).int == x1.int)
    (k0 (T.b true))
    (spec_l7Has_L0_0 m n x0 x1 (T.i (IntKind.i64.wrap (x2.int + 1))) k0 k1))
    (.bad))
    (k1 )
noncomputable def spec_l7Has_s0_0 : Pack := ⟨[(0, .one ⟨.sn [([4000000], 0)], .sl [.sc (.int .i64)], .l []⟩), (1, .one ⟨.sc, .sc (.int .i64), .l []⟩), (5, .one ⟨.sc, .sc (.int .i64), .l []⟩)], [([4000000], .gone)]⟩
noncomputable def spec_l7Has_e0_0 : Pack := ⟨[(4, .one ⟨.sc, .sc (.bool), .l []⟩)], []⟩
noncomputable def spec_l7Has_e0_1 : Pack := ⟨[], []⟩
noncomputable def spec_l7Has_L0_0w (m n : Nat) (vs : List T) (k : Ctl → Pack → An) : An := spec_l7Has_L0_0 m n (vs.headD dflt) (vs.tail.headD dflt) (vs.tail.tail.headD dflt) (fun z0 => k .ret (fPack spec_l7Has_e0_0 [z0])) (k (.exit 0) (fPack spec_l7Has_e0_1 []))
noncomputable def spec_l7Has : Nat → T → T → (T → An) → An
  | 0, _, _, _ => .bad
  | m + 1, x0, x1, k0 =>
    spec_l7Has_L0_0 m m (T.l x0.rows) x1 (T.i 0)
    (fun y0 => k0 y0)
    (k0 (T.b false))
noncomputable def spec_l7Has_a : List Arg := [.one (.dz [.sc (.int .i64)] []), .one (.sc (.int .i64) (.l []))]
noncomputable def spec_l7Has_w (m : Nat) (vs : List T) (k : Ret → An) : An := spec_l7Has m (vs.headD dflt) (vs.tail.headD dflt) (fun z0 => k ⟨[.one (.sc (.bool) z0)], [[none], [none]], [none, none]⟩)
theorem spec_l7Has_cf (m : Nat) : callK CX prims m = (callK CX prims m) := by
  rfl
noncomputable def spec_l7Has_c : Code := (Try.f164.body).getD .skip
noncomputable def spec_l7Has_fi : Fi := ⟨164, 2, 18, 16⟩
theorem spec_l7Has_lf (m : Nat) : ∀ n, (∀ vs k, loopK CX (callK CX prims m) spec_l7Has_fi spec_l7Has_c n [0, 1, 0, 1] (fPack spec_l7Has_s0_0 vs) k = spec_l7Has_L0_0w m n vs k) ∧ ((loopK CX (callK CX prims m) spec_l7Has_fi spec_l7Has_c n) = (patL [0, 1, 0, 1] spec_l7Has_s0_0 (spec_l7Has_L0_0w m n) (loopK CX (callK CX prims m) spec_l7Has_fi spec_l7Has_c n))) := by
  intro n
  have hl : ∀ n, (∀ vs k, loopK CX (callK CX prims m) spec_l7Has_fi spec_l7Has_c n [0, 1, 0, 1] (fPack spec_l7Has_s0_0 vs) k = spec_l7Has_L0_0w m n vs k) → ((loopK CX (callK CX prims m) spec_l7Has_fi spec_l7Has_c n) = (patL [0, 1, 0, 1] spec_l7Has_s0_0 (spec_l7Has_L0_0w m n) (loopK CX (callK CX prims m) spec_l7Has_fi spec_l7Has_c n))) := by
    intro n h0
    rw [← patL_eq h0]
  induction n with
  | zero => exact ⟨fun vs k => rfl, hl 0 (fun vs k => rfl)⟩
  | succ n ihn =>
    have hn := ihn.2
    have h0 : ∀ vs k, loopK CX (callK CX prims m) spec_l7Has_fi spec_l7Has_c (n + 1) [0, 1, 0, 1] (fPack spec_l7Has_s0_0 vs) k = spec_l7Has_L0_0w m (n + 1) vs k := fun vs k =>
      (stepL_congr (spec_l7Has_cf m) hn [0, 1, 0, 1] _ _).trans (by kernel_rfl)
    exact ⟨h0, hl (n + 1) h0⟩
theorem spec_l7Has_eq (m : Nat) : ∀ vs k, callK CX prims m 164 (fArgs spec_l7Has_a vs) k = spec_l7Has_w m vs k := by
  cases m with
  | zero => exact fun vs k => rfl
  | succ m => exact fun vs k => Eq.trans (b := bodyK CX (callK CX prims m) (loopK CX (callK CX prims m) spec_l7Has_fi spec_l7Has_c m) 164 Try.f164 spec_l7Has_c (fArgs spec_l7Has_a vs) k) (by kernel_rfl) ((bodyK_congr (spec_l7Has_cf m) ((spec_l7Has_lf m m).2) 164 Try.f164 spec_l7Has_c (fArgs spec_l7Has_a vs) k).trans (by kernel_rfl))

/-! loop.example/g00244/spec.l7Put -/
noncomputable def spec_l7Put_L0_0 (m : Nat) : Nat → T → T → T → (T → T → T → An) → An
  | 0, _, _, _, _ => .bad
  | n + 1, x0, x1, x2, k0 =>
    cond ((decide (x1.int > 0)) == true)
    (cond (decide ((0 : Int) ≤ (IntKind.i64.wrap (x1.int - 1)) ∧ (IntKind.i64.wrap (x1.int - 1)) < (x2.rows.length : Int)))
    (cond (decide ((Int.toNat (IntKind.i64.wrap (x1.int - 1))) < x2.rows.length))
    (cond (decide (((x2.rows.getD (Int.toNat (IntKind.i64.wrap (x1.int - 1))) []).getD 0 dflt).int > x0.int))
    (cond (decide ((0 : Int) ≤ (IntKind.i64.wrap (x1.int - 1)) ∧ (IntKind.i64.wrap (x1.int - 1)) < (x2.rows.length : Int)))
    (cond (decide ((Int.toNat (IntKind.i64.wrap (x1.int - 1))) < x2.rows.length))
    (cond (decide ((0 : Int) ≤ x1.int ∧ x1.int < (x2.rows.length : Int)))
    (cond (decide ((Int.toNat x1.int) < x2.rows.length))
    (spec_l7Put_L0_0 m n x0 (T.i (IntKind.i64.wrap (x1.int - 1))) (T.l (x2.rows.set (Int.toNat x1.int) ((x2.rows.getD (Int.toNat x1.int) []).set 0 ((x2.rows.getD (Int.toNat (IntKind.i64.wrap (x1.int - 1))) []).getD 0 dflt)))) k0)
    (.bad))
    (.bad))
    (.bad))
    (.bad))
    (k0 x0 x1 (T.l x2.rows)))
    (.bad))
    (.bad))
    (k0 x0 x1 (T.l x2.rows))
noncomputable def spec_l7Put_s0_0 : Pack := ⟨[(1, .one ⟨.sc, .sc (.int .i64), .l []⟩), (5, .one ⟨.al [1000000, 0] 0, .sl [.sc (.int .i64)], .l []⟩), (6, .one ⟨.sc, .sc (.int .i64), .l []⟩)], [([1000000, 0], .row [.sc (.int .i64)] [.F] [])]⟩
noncomputable def spec_l7Put_e0_0 : Pack := ⟨[(1, .one ⟨.sc, .sc (.int .i64), .l []⟩), (5, .one ⟨.al [1000000, 0] 0, .sl [.sc (.int .i64)], .l []⟩), (6, .one ⟨.sc, .sc (.int .i64), .l []⟩)], [([1000000, 0], .row [.sc (.int .i64)] [.F] [])]⟩
noncomputable def spec_l7Put_L0_0w (m n : Nat) (vs : List T) (k : Ctl → Pack → An) : An := spec_l7Put_L0_0 m n (vs.headD dflt) (vs.tail.headD dflt) (vs.tail.tail.headD dflt) (fun z0 z1 z2 => k (.exit 0) (fPack spec_l7Put_e0_0 [z0, z1, z2]))
noncomputable def spec_l7Put : Nat → T → T → (T → An) → An
  | 0, _, _, _ => .bad
  | m + 1, x0, x1, k0 =>
    spec_l7Has m (T.l x0.rows) x1
    (fun y0 => cond y0.bool
    (k0 (T.l x0.rows))
    (cond (decide ((0 + x0.rows.length) * 1 ≤ maxRow))
    (cond (decide ((x0.rows.length + 1) * 1 ≤ maxRow))
    (spec_l7Put_L0_0 m m x1 (T.i (IntKind.i64.wrap (((x0.rows ++ [[x1]]).length : Int) - 1))) (T.l (x0.rows ++ [[x1]]))
    (fun y1 y2 y3 => cond (decide ((0 : Int) ≤ y2.int ∧ y2.int < (y3.rows.length : Int)))
    (cond (decide ((Int.toNat y2.int) < y3.rows.length))
    (k0 (T.l (y3.rows.set (Int.toNat y2.int) ((y3.rows.getD (Int.toNat y2.int) []).set 0 y1))))
    (.bad))
    (.bad)))
    (.bad))
    (.bad)))
noncomputable def spec_l7Put_a : List Arg := [.one (.fz [.sc (.int .i64)] []), .one (.sc (.int .i64) (.l []))]
noncomputable def spec_l7Put_w (m : Nat) (vs : List T) (k : Ret → An) : An := spec_l7Put m (vs.headD dflt) (vs.tail.headD dflt) (fun z0 => k ⟨[.one (.fz [.sc (.int .i64)] z0.rows)], [[none], [none]], [none, none]⟩)
theorem spec_l7Put_cf (m : Nat) : callK CX prims m = (patC 164 spec_l7Has_a (spec_l7Has_w m) (callK CX prims m)) := by
  rw [← patC_eq (fun vs k => spec_l7Has_eq m vs k)]
noncomputable def spec_l7Put_c : Code := (Try.f137.body).getD .skip
noncomputable def spec_l7Put_fi : Fi := ⟨137, 2, 46, 16⟩
theorem spec_l7Put_lf (m : Nat) : ∀ n, (∀ vs k, loopK CX (callK CX prims m) spec_l7Put_fi spec_l7Put_c n [0, 0, 1, 1, 1, 1] (fPack spec_l7Put_s0_0 vs) k = spec_l7Put_L0_0w m n vs k) ∧ ((loopK CX (callK CX prims m) spec_l7Put_fi spec_l7Put_c n) = (patL [0, 0, 1, 1, 1, 1] spec_l7Put_s0_0 (spec_l7Put_L0_0w m n) (loopK CX (callK CX prims m) spec_l7Put_fi spec_l7Put_c n))) := by
  intro n
  have hl : ∀ n, (∀ vs k, loopK CX (callK CX prims m) spec_l7Put_fi spec_l7Put_c n [0, 0, 1, 1, 1, 1] (fPack spec_l7Put_s0_0 vs) k = spec_l7Put_L0_0w m n vs k) → ((loopK CX (callK CX prims m) spec_l7Put_fi spec_l7Put_c n) = (patL [0, 0, 1, 1, 1, 1] spec_l7Put_s0_0 (spec_l7Put_L0_0w m n) (loopK CX (callK CX prims m) spec_l7Put_fi spec_l7Put_c n))) := by
    intro n h0
    rw [← patL_eq h0]
  induction n with
  | zero => exact ⟨fun vs k => rfl, hl 0 (fun vs k => rfl)⟩
  | succ n ihn =>
    have hn := ihn.2
    have h0 : ∀ vs k, loopK CX (callK CX prims m) spec_l7Put_fi spec_l7Put_c (n + 1) [0, 0, 1, 1, 1, 1] (fPack spec_l7Put_s0_0 vs) k = spec_l7Put_L0_0w m (n + 1) vs k := fun vs k =>
      (stepL_congr (spec_l7Put_cf m) hn [0, 0, 1, 1, 1, 1] _ _).trans (by kernel_rfl)
    exact ⟨h0, hl (n + 1) h0⟩
theorem spec_l7Put_eq (m : Nat) : ∀ vs k, callK CX prims m 137 (fArgs spec_l7Put_a vs) k = spec_l7Put_w m vs k := by
  cases m with
  | zero => exact fun vs k => rfl
  | succ m => exact fun vs k => Eq.trans (b := bodyK CX (callK CX prims m) (loopK CX (callK CX prims m) spec_l7Put_fi spec_l7Put_c m) 137 Try.f137 spec_l7Put_c (fArgs spec_l7Put_a vs) k) (by kernel_rfl) ((bodyK_congr (spec_l7Put_cf m) ((spec_l7Put_lf m m).2) 137 Try.f137 spec_l7Put_c (fArgs spec_l7Put_a vs) k).trans (by kernel_rfl))

/-! loop.example/g00244/spec.ShardsOf -/
noncomputable def spec_ShardsOf_L0_1 (m : Nat) : Nat → T → T → T → T → (T → An) → (T → An) → An
  | 0, _, _, _, _, _, _ => .bad
  | n + 1, x0, x1, x2, x3, k0, k1 =>
    cond (decide (x3.int < (x0.rows.length : Int)))
    (cond (decide ((0 : Int) ≤ x3.int ∧ x3.int < (x0.rows.length : Int)))
    (spec_ShardOf m (((x0.rows.getD (Int.toNat x3.int) []).drop 1).getD 0 dflt) x1
    (fun y2 => spec_l7Put m (T.l x2.rows) y2
    (fun y3 => spec_ShardsOf_L0_1 m n x0 x1 (T.l y3.rows) (T.i (IntKind.i64.wrap (x3.int + 1))) k0 k1)))
    (.bad))
    (k0 x2)
noncomputable def spec_ShardsOf_s0_1 : Pack := ⟨[(0, .one ⟨.sn [([4000000], 0)], .sl [.sc (.int .i64), .sc (.str), .sc (.str)], .l []⟩), (1, .one ⟨.sc, .sc (.int .i64), .l []⟩), (5, .one ⟨.sn [], .sl [.sc (.int .i64)], .l []⟩), (6, .one ⟨.sc, .sc (.int .i64), .l []⟩)], [([4000000], .gone)]⟩
noncomputable def spec_ShardsOf_L0_0 (m : Nat) : Nat → T → T → T → T → (T → An) → (T → An) → An
  | 0, _, _, _, _, _, _ => .bad
  | n + 1, x0, x1, x2, x3, k0, k1 =>
    cond (decide (x2.int < (x0.rows.length : Int)))
    (cond (decide ((0 : Int) ≤ x2.int ∧ x2.int < (x0.rows.length : Int)))
    (spec_ShardOf m (((x0.rows.getD (Int.toNat x2.int) []).drop 1).getD 0 dflt) x1
    (fun y0 => spec_l7Put m (T.l x3.rows) y0
    (fun y1 => spec_ShardsOf_L0_1 m n x0 x1 (T.l y1.rows) (T.i (IntKind.i64.wrap (x2.int + 1))) k0 k1)))
    (.bad))
    (k1 (T.l x3.rows))
noncomputable def spec_ShardsOf_s0_0 : Pack := ⟨[(0, .one ⟨.sn [([4000000], 0)], .sl [.sc (.int .i64), .sc (.str), .sc (.str)], .l []⟩), (1, .one ⟨.sc, .sc (.int .i64), .l []⟩), (5, .one ⟨.al [1000000, 1] 0, .sl [.sc (.int .i64)], .l []⟩), (6, .one ⟨.sc, .sc (.int .i64), .l []⟩)], [([4000000], .gone), ([1000000, 1], .fz [.sc (.int .i64)] [])]⟩
noncomputable def spec_ShardsOf_e0_0 : Pack := ⟨[(5, .one ⟨.sn [], .sl [.sc (.int .i64)], .l []⟩)], []⟩
noncomputable def spec_ShardsOf_e0_1 : Pack := ⟨[(5, .one ⟨.al [1000000, 0] 0, .sl [.sc (.int .i64)], .l []⟩)], [([1000000, 0], .fz [.sc (.int .i64)] [])]⟩
noncomputable def spec_ShardsOf_L0_1w (m n : Nat) (vs : List T) (k : Ctl → Pack → An) : An := spec_ShardsOf_L0_1 m n (vs.headD dflt) (vs.tail.headD dflt) (vs.tail.tail.headD dflt) (vs.tail.tail.tail.headD dflt) (fun z0 => k (.exit 0) (fPack spec_ShardsOf_e0_0 [z0])) (fun z0 => k (.exit 0) (fPack spec_ShardsOf_e0_1 [z0]))
noncomputable def spec_ShardsOf_L0_0w (m n : Nat) (vs : List T) (k : Ctl → Pack → An) : An := spec_ShardsOf_L0_0 m n (vs.headD dflt) (vs.tail.headD dflt) (vs.tail.tail.headD dflt) (vs.tail.tail.tail.headD dflt) (fun z0 => k (.exit 0) (fPack spec_ShardsOf_e0_0 [z0])) (fun z0 => k (.exit 0) (fPack spec_ShardsOf_e0_1 [z0]))
noncomputable def spec_ShardsOf : Nat → T → T → (T → An) → An
  | 0, _, _, _ => .bad
  | m + 1, x0, x1, k0 =>
    spec_ShardsOf_L0_0 m m (T.l x0.rows) x1 (T.i 0) (T.l [])
    (fun y4 => k0 (T.l y4.rows))
    (fun y5 => k0 (T.l y5.rows))
noncomputable def spec_ShardsOf_a : List Arg := [.one (.dz [.sc (.int .i64), .sc (.str), .sc (.str)] []), .one (.sc (.int .i64) (.l []))]
noncomputable def spec_ShardsOf_w (m : Nat) (vs : List T) (k : Ret → An) : An := spec_ShardsOf m (vs.headD dflt) (vs.tail.headD dflt) (fun z0 => k ⟨[.one (.fz [.sc (.int .i64)] z0.rows)], [[none], [none]], [none, none]⟩)
theorem spec_ShardsOf_cf (m : Nat) : callK CX prims m = (patC 138 spec_ShardOf_a (spec_ShardOf_w m) (patC 137 spec_l7Put_a (spec_l7Put_w m) (callK CX prims m))) := by
  rw [← patC_eq (fun vs k => spec_l7Put_eq m vs k), ← patC_eq (fun vs k => spec_ShardOf_eq m vs k)]
noncomputable def spec_ShardsOf_c : Code := (Try.f106.body).getD .skip
noncomputable def spec_ShardsOf_fi : Fi := ⟨106, 2, 24, 16⟩
theorem spec_ShardsOf_lf (m : Nat) : ∀ n, (∀ vs k, loopK CX (callK CX prims m) spec_ShardsOf_fi spec_ShardsOf_c n [0, 1, 0, 1, 1] (fPack spec_ShardsOf_s0_0 vs) k = spec_ShardsOf_L0_0w m n vs k) ∧ (∀ vs k, loopK CX (callK CX prims m) spec_ShardsOf_fi spec_ShardsOf_c n [0, 1, 0, 1, 1] (fPack spec_ShardsOf_s0_1 vs) k = spec_ShardsOf_L0_1w m n vs k) ∧ ((loopK CX (callK CX prims m) spec_ShardsOf_fi spec_ShardsOf_c n) = (patL [0, 1, 0, 1, 1] spec_ShardsOf_s0_0 (spec_ShardsOf_L0_0w m n) (patL [0, 1, 0, 1, 1] spec_ShardsOf_s0_1 (spec_ShardsOf_L0_1w m n) (loopK CX (callK CX prims m) spec_ShardsOf_fi spec_ShardsOf_c n)))) := by
  intro n
  have hl : ∀ n, (∀ vs k, loopK CX (callK CX prims m) spec_ShardsOf_fi spec_ShardsOf_c n [0, 1, 0, 1, 1] (fPack spec_ShardsOf_s0_0 vs) k = spec_ShardsOf_L0_0w m n vs k) → (∀ vs k, loopK CX (callK CX prims m) spec_ShardsOf_fi spec_ShardsOf_c n [0, 1, 0, 1, 1] (fPack spec_ShardsOf_s0_1 vs) k = spec_ShardsOf_L0_1w m n vs k) → ((loopK CX (callK CX prims m) spec_ShardsOf_fi spec_ShardsOf_c n) = (patL [0, 1, 0, 1, 1] spec_ShardsOf_s0_0 (spec_ShardsOf_L0_0w m n) (patL [0, 1, 0, 1, 1] spec_ShardsOf_s0_1 (spec_ShardsOf_L0_1w m n) (loopK CX (callK CX prims m) spec_ShardsOf_fi spec_ShardsOf_c n)))) := by
    intro n h0 h1
    rw [← patL_eq h1, ← patL_eq h0]
  induction n with
  | zero => exact ⟨fun vs k => rfl, fun vs k => rfl, hl 0 (fun vs k => rfl) (fun vs k => rfl)⟩
  | succ n ihn =>
    have hn := ihn.2.2
    have h0 : ∀ vs k, loopK CX (callK CX prims m) spec_ShardsOf_fi spec_ShardsOf_c (n + 1) [0, 1, 0, 1, 1] (fPack spec_ShardsOf_s0_0 vs) k = spec_ShardsOf_L0_0w m (n + 1) vs k := fun vs k =>
      (stepL_congr (spec_ShardsOf_cf m) hn [0, 1, 0, 1, 1] _ _).trans (by kernel_rfl)
    have h1 : ∀ vs k, loopK CX (callK CX prims m) spec_ShardsOf_fi spec_ShardsOf_c (n + 1) [0, 1, 0, 1, 1] (fPack spec_ShardsOf_s0_1 vs) k = spec_ShardsOf_L0_1w m (n + 1) vs k := fun vs k =>
      (stepL_congr (spec_ShardsOf_cf m) hn [0, 1, 0, 1, 1] _ _).trans (by kernel_rfl)
    exact ⟨h0, h1, hl (n + 1) h0 h1⟩
theorem spec_ShardsOf_eq (m : Nat) : ∀ vs k, callK CX prims m 106 (fArgs spec_ShardsOf_a vs) k = spec_ShardsOf_w m vs k := by
  cases m with
  | zero => exact fun vs k => rfl
  | succ m => exact fun vs k => Eq.trans (b := bodyK CX (callK CX prims m) (loopK CX (callK CX prims m) spec_ShardsOf_fi spec_ShardsOf_c m) 106 Try.f106 spec_ShardsOf_c (fArgs spec_ShardsOf_a vs) k) (by kernel_rfl) ((bodyK_congr (spec_ShardsOf_cf m) ((spec_ShardsOf_lf m m).2.2) 106 Try.f106 spec_ShardsOf_c (fArgs spec_ShardsOf_a vs) k).trans (by kernel_rfl))

/-! loop.example/g00244/spec.l13Says -/
noncomputable def spec_l13Says_L0_0 (m : Nat) : Nat → T → T → T → T → T → (T → An) → An → An
  | 0, _, _, _, _, _, _, _ => .bad
  | n + 1, x0, x1, x2, x3, x4, k0, k1 =>
    cond ((decide (x4.int < x1.int)) == true)
    (cond (decide (x4.int < (x0.rows.length : Int)))
    (cond (decide ((0 : Int) ≤ x4.int ∧ x4.int < (x0.rows.length : Int)))
    (cond ((((x0.rows.getD (Int.toNat x4.int) []).getD 0 dflt).int == x2.int) == true)
    (cond (decide ((0 : Int) ≤ x4.int ∧ x4.int < (x0.rows.length : Int)))
    (cond ((((x0.rows.getD (Int.toNat x4.int) []).drop 1).getD 0 dflt).int == x3.int)
    (k0 (T.b true))
    (spec_l13Says_L0_0 m n x0 x1 x2 x3 (T.i (IntKind.i64.wrap (x4.int + 1))) k0 k1))
    (.bad))
    (spec_l13Says_L0_0 m n x0 x1 x2 x3 (T.i (IntKind.i64.wrap (x4.int + 1))) k0 k1))
    (.bad))
    (k1 ))
    (k1 )
noncomputable def spec_l13Says_s0_0 : Pack := ⟨[(0, .one ⟨.sn [([4000000], 0)], .sl [.sc (.int .i64), .sc (.int .i64), .sl [.sc (.int .i64), .sc (.str), .sc (.str)]], .l []⟩), (1, .one ⟨.sc, .sc (.int .i64), .l []⟩), (2, .one ⟨.sc, .sc (.int .i64), .l []⟩), (3, .one ⟨.sc, .sc (.int .i64), .l []⟩), (9, .one ⟨.sc, .sc (.int .i64), .l []⟩)], [([4000000], .gone)]⟩
noncomputable def spec_l13Says_e0_0 : Pack := ⟨[(8, .one ⟨.sc, .sc (.bool), .l []⟩)], []⟩
noncomputable def spec_l13Says_e0_1 : Pack := ⟨[], []⟩
noncomputable def spec_l13Says_L0_0w (m n : Nat) (vs : List T) (k : Ctl → Pack → An) : An := spec_l13Says_L0_0 m n (vs.headD dflt) (vs.tail.headD dflt) (vs.tail.tail.headD dflt) (vs.tail.tail.tail.headD dflt) (vs.tail.tail.tail.tail.headD dflt) (fun z0 => k .ret (fPack spec_l13Says_e0_0 [z0])) (k (.exit 0) (fPack spec_l13Says_e0_1 []))
noncomputable def spec_l13Says : Nat → T → T → T → T → (T → An) → An
  | 0, _, _, _, _, _ => .bad
  | m + 1, x0, x1, x2, x3, k0 =>
    spec_l13Says_L0_0 m m (T.l x0.rows) x1 x2 x3 (T.i 0)
    (fun y0 => k0 y0)
    (k0 (T.b false))
noncomputable def spec_l13Says_a : List Arg := [.one (.dz [.sc (.int .i64), .sc (.int .i64), .sl [.sc (.int .i64), .sc (.str), .sc (.str)]] []), .one (.sc (.int .i64) (.l [])), .one (.sc (.int .i64) (.l [])), .one (.sc (.int .i64) (.l []))]
noncomputable def spec_l13Says_w (m : Nat) (vs : List T) (k : Ret → An) : An := spec_l13Says m (vs.headD dflt) (vs.tail.headD dflt) (vs.tail.tail.headD dflt) (vs.tail.tail.tail.headD dflt) (fun z0 => k ⟨[.one (.sc (.bool) z0)], [[none], [none], [none], [none]], [none, none, none, none]⟩)
theorem spec_l13Says_cf (m : Nat) : callK CX prims m = (callK CX prims m) := by
  rfl
noncomputable def spec_l13Says_c : Code := (Try.f107.body).getD .skip
noncomputable def spec_l13Says_fi : Fi := ⟨107, 4, 37, 256⟩
theorem spec_l13Says_lf (m : Nat) : ∀ n, (∀ vs k, loopK CX (callK CX prims m) spec_l13Says_fi spec_l13Says_c n [0, 1, 0, 1] (fPack spec_l13Says_s0_0 vs) k = spec_l13Says_L0_0w m n vs k) ∧ ((loopK CX (callK CX prims m) spec_l13Says_fi spec_l13Says_c n) = (patL [0, 1, 0, 1] spec_l13Says_s0_0 (spec_l13Says_L0_0w m n) (loopK CX (callK CX prims m) spec_l13Says_fi spec_l13Says_c n))) := by
  intro n
  have hl : ∀ n, (∀ vs k, loopK CX (callK CX prims m) spec_l13Says_fi spec_l13Says_c n [0, 1, 0, 1] (fPack spec_l13Says_s0_0 vs) k = spec_l13Says_L0_0w m n vs k) → ((loopK CX (callK CX prims m) spec_l13Says_fi spec_l13Says_c n) = (patL [0, 1, 0, 1] spec_l13Says_s0_0 (spec_l13Says_L0_0w m n) (loopK CX (callK CX prims m) spec_l13Says_fi spec_l13Says_c n))) := by
    intro n h0
    rw [← patL_eq h0]
  induction n with
  | zero => exact ⟨fun vs k => rfl, hl 0 (fun vs k => rfl)⟩
  | succ n ihn =>
    have hn := ihn.2
    have h0 : ∀ vs k, loopK CX (callK CX prims m) spec_l13Says_fi spec_l13Says_c (n + 1) [0, 1, 0, 1] (fPack spec_l13Says_s0_0 vs) k = spec_l13Says_L0_0w m (n + 1) vs k := fun vs k =>
      (stepL_congr (spec_l13Says_cf m) hn [0, 1, 0, 1] _ _).trans (by kernel_rfl)
    exact ⟨h0, hl (n + 1) h0⟩
theorem spec_l13Says_eq (m : Nat) : ∀ vs k, callK CX prims m 107 (fArgs spec_l13Says_a vs) k = spec_l13Says_w m vs k := by
  cases m with
  | zero => exact fun vs k => rfl
  | succ m => exact fun vs k => Eq.trans (b := bodyK CX (callK CX prims m) (loopK CX (callK CX prims m) spec_l13Says_fi spec_l13Says_c m) 107 Try.f107 spec_l13Says_c (fArgs spec_l13Says_a vs) k) (by kernel_rfl) ((bodyK_congr (spec_l13Says_cf m) ((spec_l13Says_lf m m).2) 107 Try.f107 spec_l13Says_c (fArgs spec_l13Says_a vs) k).trans (by kernel_rfl))

/-! loop.example/g00244/spec.l13Held -/
noncomputable def spec_l13Held_L0_0 (m : Nat) : Nat → T → T → T → T → T → T → T → T → T → T → T → T → T → T → T → T → (T → An) → An → An
  | 0, _, _, _, _, _, _, _, _, _, _, _, _, _, _, _, _, _, _ => .bad
  | n + 1, x0, x1, x2, x3, x4, x5, x6, x7, x8, x9, x10, x11, x12, x13, x14, x15, k0, k1 =>
    cond (decide (x3.int < (x2.rows.length : Int)))
    (cond (decide ((0 : Int) ≤ x3.int ∧ x3.int < (x2.rows.length : Int)))
    (cond (decide (((x2.rows.getD (Int.toNat x3.int) []).getD 0 dflt).int ≥ (x10.rows.length : Int)))
    (k0 (T.b false))
    (cond (decide ((0 : Int) ≤ x3.int ∧ x3.int < (x2.rows.length : Int)))
    (cond (decide ((0 : Int) ≤ ((x2.rows.getD (Int.toNat x3.int) []).getD 0 dflt).int ∧ ((x2.rows.getD (Int.toNat x3.int) []).getD 0 dflt).int < (x10.rows.length : Int)))
    (spec_l13Says m (T.l ((x10.rows.getD (Int.toNat ((x2.rows.getD (Int.toNat x3.int) []).getD 0 dflt).int) []).getD 1 dflt).rows) ((x10.rows.getD (Int.toNat ((x2.rows.getD (Int.toNat x3.int) []).getD 0 dflt).int) []).getD 2 dflt) (T.i 1) x14
    (fun y1 => cond ((!y1.bool) == true)
    (spec_l13Says m (T.l ((x10.rows.getD (Int.toNat ((x2.rows.getD (Int.toNat x3.int) []).getD 0 dflt).int) []).getD 1 dflt).rows) ((x10.rows.getD (Int.toNat ((x2.rows.getD (Int.toNat x3.int) []).getD 0 dflt).int) []).getD 2 dflt) (T.i 2) x14
    (fun y2 => cond (!y2.bool)
    (k0 (T.b false))
    (spec_l13Held_L0_0 m n (T.i (x0.int.toNat : Int)) (T.i (x1.int.toNat : Int)) x2 (T.i (IntKind.i64.wrap (x3.int + 1))) x4 x5 x6 x7 x8 x9 x10 x11 x12 x13 x14 x15 k0 k1)))
    (spec_l13Held_L0_0 m n (T.i (x0.int.toNat : Int)) (T.i (x1.int.toNat : Int)) x2 (T.i (IntKind.i64.wrap (x3.int + 1))) x4 x5 x6 x7 x8 x9 x10 x11 x12 x13 x14 x15 k0 k1)))
    (.bad))
    (.bad)))
    (.bad))
    (k1 )
noncomputable def spec_l13Held_s0_0 : Pack := ⟨[(2, .ptr [1000000, 0] 0 0 0), (3, .ptr [1000000, 1] 0 0 0), (5, .one ⟨.sn [], .sl [.sc (.int .i64)], .l []⟩), (6, .one ⟨.sc, .sc (.int .i64), .l []⟩)], [([1000000, 0], .box [⟨.sc, .sc (.int .i64), .l []⟩, ⟨.sc, .sc (.int .i64), .l []⟩, ⟨.sc, .sc (.int .i64), .l []⟩, ⟨.sn [([4000000], 0)], .sl [.sc (.int .i64), .sl [.sc (.int .i64), .sc (.str), .sc (.str)], .sc (.int .i64), .sl [.sc (.int .i64)]], .l []⟩, ⟨.sn [([4000000], 0)], .sl [.sc (.int .i64), .sc (.bool)], .l []⟩, ⟨.sc, .sc (.int .i64), .l []⟩, ⟨.sn [([4000000], 0)], .sl [.sc (.int .i64), .sl [.sc (.int .i64), .sc (.int .i64), .sl [.sc (.int .i64), .sc (.str), .sc (.str)]], .sc (.int .i64), .sl [.sc (.str), .sc (.str)], .sl [.sc (.int .i64), .sc (.int .i64), .sl [.sc (.int .i64), .sc (.str), .sc (.str)]]], .l []⟩, ⟨.sn [([4000000], 0)], .sl [.sc (.int .i64), .sc (.int .i64), .sc (.int .i64), .sl [.sc (.int .i64), .sc (.str), .sc (.str)], .sc (.bool)], .l []⟩, ⟨.sn [([4000000], 0)], .sl [.sc (.int .i64), .sc (.int .i64), .sc (.int .i64), .sl [.sc (.int .i64), .sc (.str), .sc (.str)], .sc (.bool)], .l []⟩, ⟨.sn [([4000000], 0)], .sl [.sc (.int .i64), .sl [.sc (.int .i64), .sc (.str), .sc (.str)]], .l []⟩]), ([1000000, 1], .box [⟨.sc, .sc (.int .i64), .l []⟩, ⟨.sn [([4000000], 0)], .sl [.sc (.int .i64), .sc (.str), .sc (.str)], .l []⟩]), ([4000000], .gone)]⟩
noncomputable def spec_l13Held_e0_0 : Pack := ⟨[(4, .one ⟨.sc, .sc (.bool), .l []⟩)], []⟩
noncomputable def spec_l13Held_e0_1 : Pack := ⟨[], []⟩
noncomputable def spec_l13Held_L0_0w (m n : Nat) (vs : List T) (k : Ctl → Pack → An) : An := spec_l13Held_L0_0 m n (vs.headD dflt) (vs.tail.headD dflt) (vs.tail.tail.headD dflt) (vs.tail.tail.tail.headD dflt) (vs.tail.tail.tail.tail.headD dflt) (vs.tail.tail.tail.tail.tail.headD dflt) (vs.tail.tail.tail.tail.tail.tail.headD dflt) (vs.tail.tail.tail.tail.tail.tail.tail.headD dflt) (vs.tail.tail.tail.tail.tail.tail.tail.tail.headD dflt) (vs.tail.tail.tail.tail.tail.tail.tail.tail.tail.headD dflt) (vs.tail.tail.tail.tail.tail.tail.tail.tail.tail.tail.headD dflt) (vs.tail.tail.tail.tail.tail.tail.tail.tail.tail.tail.tail.headD dflt) (vs.tail.tail.tail.tail.tail.tail.tail.tail.tail.tail.tail.tail.headD dflt) (vs.tail.tail.tail.tail.tail.tail.tail.tail.tail.tail.tail.tail.tail.headD dflt) (vs.tail.tail.tail.tail.tail.tail.tail.tail.tail.tail.tail.tail.tail.tail.headD dflt) (vs.tail.tail.tail.tail.tail.tail.tail.tail.tail.tail.tail.tail.tail.tail.tail.headD dflt) (fun z0 => k .ret (fPack spec_l13Held_e0_0 [z0])) (k (.exit 0) (fPack spec_l13Held_e0_1 []))
noncomputable def spec_l13Held : Nat → T → T → T → T → T → T → T → T → T → T → T → T → (T → An) → An
  | 0, _, _, _, _, _, _, _, _, _, _, _, _, _ => .bad
  | m + 1, x0, x1, x2, x3, x4, x5, x6, x7, x8, x9, x10, x11, k0 =>
    spec_ShardsOf m (T.l x11.rows) x0
    (fun y0 => spec_l13Held_L0_0 m m (T.i 0) (T.i 0) (T.l y0.rows) (T.i 0) x0 x1 x2 (T.l x3.rows) (T.l x4.rows) x5 (T.l x6.rows) (T.l x7.rows) (T.l x8.rows) (T.l x9.rows) x10 (T.l x11.rows)
    (fun y3 => k0 y3)
    (k0 (T.b true)))
noncomputable def spec_l13Held_a : List Arg := [.agg [.sc (.int .i64) (.l []), .sc (.int .i64) (.l []), .sc (.int .i64) (.l []), .dz [.sc (.int .i64), .sl [.sc (.int .i64), .sc (.str), .sc (.str)], .sc (.int .i64), .sl [.sc (.int .i64)]] [], .dz [.sc (.int .i64), .sc (.bool)] [], .sc (.int .i64) (.l []), .dz [.sc (.int .i64), .sl [.sc (.int .i64), .sc (.int .i64), .sl [.sc (.int .i64), .sc (.str), .sc (.str)]], .sc (.int .i64), .sl [.sc (.str), .sc (.str)], .sl [.sc (.int .i64), .sc (.int .i64), .sl [.sc (.int .i64), .sc (.str), .sc (.str)]]] [], .dz [.sc (.int .i64), .sc (.int .i64), .sc (.int .i64), .sl [.sc (.int .i64), .sc (.str), .sc (.str)], .sc (.bool)] [], .dz [.sc (.int .i64), .sc (.int .i64), .sc (.int .i64), .sl [.sc (.int .i64), .sc (.str), .sc (.str)], .sc (.bool)] [], .dz [.sc (.int .i64), .sl [.sc (.int .i64), .sc (.str), .sc (.str)]] []], .agg [.sc (.int .i64) (.l []), .dz [.sc (.int .i64), .sc (.str), .sc (.str)] []]]
noncomputable def spec_l13Held_w (m : Nat) (vs : List T) (k : Ret → An) : An := spec_l13Held m (vs.headD dflt) (vs.tail.headD dflt) (vs.tail.tail.headD dflt) (vs.tail.tail.tail.headD dflt) (vs.tail.tail.tail.tail.headD dflt) (vs.tail.tail.tail.tail.tail.headD dflt) (vs.tail.tail.tail.tail.tail.tail.headD dflt) (vs.tail.tail.tail.tail.tail.tail.tail.headD dflt) (vs.tail.tail.tail.tail.tail.tail.tail.tail.headD dflt) (vs.tail.tail.tail.tail.tail.tail.tail.tail.tail.headD dflt) (vs.tail.tail.tail.tail.tail.tail.tail.tail.tail.tail.headD dflt) (vs.tail.tail.tail.tail.tail.tail.tail.tail.tail.tail.tail.headD dflt) (fun z0 => k ⟨[.one (.sc (.bool) z0)], [[none, none, none, none, none, none, none, none, none, none], [none, none]], [none, none]⟩)
theorem spec_l13Held_cf (m : Nat) : callK CX prims m = (patC 106 spec_ShardsOf_a (spec_ShardsOf_w m) (patC 107 spec_l13Says_a (spec_l13Says_w m) (callK CX prims m))) := by
  rw [← patC_eq (fun vs k => spec_l13Says_eq m vs k), ← patC_eq (fun vs k => spec_ShardsOf_eq m vs k)]
noncomputable def spec_l13Held_c : Code := (Try.f70.body).getD .skip
noncomputable def spec_l13Held_fi : Fi := ⟨70, 2, 54, 16⟩
theorem spec_l13Held_lf (m : Nat) : ∀ n, (∀ vs k, loopK CX (callK CX prims m) spec_l13Held_fi spec_l13Held_c n [0, 1, 0, 1, 1] (fPack spec_l13Held_s0_0 vs) k = spec_l13Held_L0_0w m n vs k) ∧ ((loopK CX (callK CX prims m) spec_l13Held_fi spec_l13Held_c n) = (patL [0, 1, 0, 1, 1] spec_l13Held_s0_0 (spec_l13Held_L0_0w m n) (loopK CX (callK CX prims m) spec_l13Held_fi spec_l13Held_c n))) := by
  intro n
  have hl : ∀ n, (∀ vs k, loopK CX (callK CX prims m) spec_l13Held_fi spec_l13Held_c n [0, 1, 0, 1, 1] (fPack spec_l13Held_s0_0 vs) k = spec_l13Held_L0_0w m n vs k) → ((loopK CX (callK CX prims m) spec_l13Held_fi spec_l13Held_c n) = (patL [0, 1, 0, 1, 1] spec_l13Held_s0_0 (spec_l13Held_L0_0w m n) (loopK CX (callK CX prims m) spec_l13Held_fi spec_l13Held_c n))) := by
    intro n h0
    rw [← patL_eq h0]
  induction n with
  | zero => exact ⟨fun vs k => rfl, hl 0 (fun vs k => rfl)⟩
  | succ n ihn =>
    have hn := ihn.2
    have h0 : ∀ vs k, loopK CX (callK CX prims m) spec_l13Held_fi spec_l13Held_c (n + 1) [0, 1, 0, 1, 1] (fPack spec_l13Held_s0_0 vs) k = spec_l13Held_L0_0w m (n + 1) vs k := fun vs k =>
      (stepL_congr (spec_l13Held_cf m) hn [0, 1, 0, 1, 1] _ _).trans (by kernel_rfl)
    exact ⟨h0, hl (n + 1) h0⟩
theorem spec_l13Held_eq (m : Nat) : ∀ vs k, callK CX prims m 70 (fArgs spec_l13Held_a vs) k = spec_l13Held_w m vs k := by
  cases m with
  | zero => exact fun vs k => rfl
  | succ m => exact fun vs k => Eq.trans (b := bodyK CX (callK CX prims m) (loopK CX (callK CX prims m) spec_l13Held_fi spec_l13Held_c m) 70 Try.f70 spec_l13Held_c (fArgs spec_l13Held_a vs) k) (by kernel_rfl) ((bodyK_congr (spec_l13Held_cf m) ((spec_l13Held_lf m m).2) 70 Try.f70 spec_l13Held_c (fArgs spec_l13Held_a vs) k).trans (by kernel_rfl))

/-! loop.example/g00244/spec.Promised -/
noncomputable def spec_Promised_L0_0 (m : Nat) : Nat → T → T → T → T → T → T → T → T → T → T → T → T → (T → An) → An → An
  | 0, _, _, _, _, _, _, _, _, _, _, _, _, _, _ => .bad
  | n + 1, x0, x1, x2, x3, x4, x5, x6, x7, x8, x9, x10, x11, k0, k1 =>
    cond (decide (x1.int < (x6.rows.length : Int)))
    (cond (decide ((0 : Int) ≤ x1.int ∧ x1.int < (x6.rows.length : Int)))
    (cond (!(((x6.rows.getD (Int.toNat x1.int) []).drop 1).getD 0 dflt).bool)
    (spec_Promised_L0_0 m n (T.i (x0.int.toNat : Int)) (T.i (IntKind.i64.wrap (x1.int + 1))) x2 x3 x4 x5 x6 x7 x8 x9 x10 x11 k0 k1)
    (cond (decide ((0 : Int) ≤ x1.int ∧ x1.int < (x6.rows.length : Int)))
    (spec_l12Begun m x2 x3 x4 (T.l x5.rows) (T.l x6.rows) x7 (T.l x8.rows) (T.l x9.rows) (T.l x10.rows) (T.l x11.rows) ((x6.rows.getD (Int.toNat x1.int) []).getD 0 dflt)
    (fun y0 => cond ((decide (y0.int < 0)) == false)
    (cond (decide ((0 : Int) ≤ y0.int ∧ y0.int < (x11.rows.length : Int)))
    (spec_l13Held m x2 x3 x4 (T.l x5.rows) (T.l x6.rows) x7 (T.l x8.rows) (T.l x9.rows) (T.l x10.rows) (T.l x11.rows) ((x11.rows.getD (Int.toNat y0.int) []).getD 0 dflt) (T.l ((x11.rows.getD (Int.toNat y0.int) []).getD 1 dflt).rows)
    (fun y1 => cond (!y1.bool)
    (k0 (T.b false))
    (spec_Promised_L0_0 m n (T.i (x0.int.toNat : Int)) (T.i (IntKind.i64.wrap (x1.int + 1))) x2 x3 x4 x5 x6 x7 x8 x9 x10 x11 k0 k1)))
    (.bad))
    (k0 (T.b false))))
    (.bad)))
    (.bad))
    (k1 )
noncomputable def spec_Promised_s0_0 : Pack := ⟨[(1, .ptr [1000000, 0] 0 0 0), (3, .one ⟨.sc, .sc (.int .i64), .l []⟩)], [([1000000, 0], .box [⟨.sc, .sc (.int .i64), .l []⟩, ⟨.sc, .sc (.int .i64), .l []⟩, ⟨.sc, .sc (.int .i64), .l []⟩, ⟨.sn [([4000000], 0)], .sl [.sc (.int .i64), .sl [.sc (.int .i64), .sc (.str), .sc (.str)], .sc (.int .i64), .sl [.sc (.int .i64)]], .l []⟩, ⟨.sn [([4000000], 0)], .sl [.sc (.int .i64), .sc (.bool)], .l []⟩, ⟨.sc, .sc (.int .i64), .l []⟩, ⟨.sn [([4000000], 0)], .sl [.sc (.int .i64), .sl [.sc (.int .i64), .sc (.int .i64), .sl [.sc (.int .i64), .sc (.str), .sc (.str)]], .sc (.int .i64), .sl [.sc (.str), .sc (.str)], .sl [.sc (.int .i64), .sc (.int .i64), .sl [.sc (.int .i64), .sc (.str), .sc (.str)]]], .l []⟩, ⟨.sn [([4000000], 0)], .sl [.sc (.int .i64), .sc (.int .i64), .sc (.int .i64), .sl [.sc (.int .i64), .sc (.str), .sc (.str)], .sc (.bool)], .l []⟩, ⟨.sn [([4000000], 0)], .sl [.sc (.int .i64), .sc (.int .i64), .sc (.int .i64), .sl [.sc (.int .i64), .sc (.str), .sc (.str)], .sc (.bool)], .l []⟩, ⟨.sn [([4000000], 0)], .sl [.sc (.int .i64), .sl [.sc (.int .i64), .sc (.str), .sc (.str)]], .l []⟩]), ([4000000], .gone)]⟩
noncomputable def spec_Promised_e0_0 : Pack := ⟨[(2, .one ⟨.sc, .sc (.bool), .l []⟩)], []⟩
noncomputable def spec_Promised_e0_1 : Pack := ⟨[], []⟩
noncomputable def spec_Promised_L0_0w (m n : Nat) (vs : List T) (k : Ctl → Pack → An) : An := spec_Promised_L0_0 m n (vs.headD dflt) (vs.tail.headD dflt) (vs.tail.tail.headD dflt) (vs.tail.tail.tail.headD dflt) (vs.tail.tail.tail.tail.headD dflt) (vs.tail.tail.tail.tail.tail.headD dflt) (vs.tail.tail.tail.tail.tail.tail.headD dflt) (vs.tail.tail.tail.tail.tail.tail.tail.headD dflt) (vs.tail.tail.tail.tail.tail.tail.tail.tail.headD dflt) (vs.tail.tail.tail.tail.tail.tail.tail.tail.tail.headD dflt) (vs.tail.tail.tail.tail.tail.tail.tail.tail.tail.tail.headD dflt) (vs.tail.tail.tail.tail.tail.tail.tail.tail.tail.tail.tail.headD dflt) (fun z0 => k .ret (fPack spec_Promised_e0_0 [z0])) (k (.exit 0) (fPack spec_Promised_e0_1 []))
noncomputable def spec_Promised : Nat → T → T → T → T → T → T → T → T → T → T → (T → An) → An
  | 0, _, _, _, _, _, _, _, _, _, _, _ => .bad
  | m + 1, x0, x1, x2, x3, x4, x5, x6, x7, x8, x9, k0 =>
    spec_Promised_L0_0 m m (T.i 0) (T.i 0) x0 x1 x2 (T.l x3.rows) (T.l x4.rows) x5 (T.l x6.rows) (T.l x7.rows) (T.l x8.rows) (T.l x9.rows)
    (fun y2 => k0 y2)
    (k0 (T.b true))
noncomputable def spec_Promised_a : List Arg := [.agg [.sc (.int .i64) (.l []), .sc (.int .i64) (.l []), .sc (.int .i64) (.l []), .dz [.sc (.int .i64), .sl [.sc (.int .i64), .sc (.str), .sc (.str)], .sc (.int .i64), .sl [.sc (.int .i64)]] [], .dz [.sc (.int .i64), .sc (.bool)] [], .sc (.int .i64) (.l []), .dz [.sc (.int .i64), .sl [.sc (.int .i64), .sc (.int .i64), .sl [.sc (.int .i64), .sc (.str), .sc (.str)]], .sc (.int .i64), .sl [.sc (.str), .sc (.str)], .sl [.sc (.int .i64), .sc (.int .i64), .sl [.sc (.int .i64), .sc (.str), .sc (.str)]]] [], .dz [.sc (.int .i64), .sc (.int .i64), .sc (.int .i64), .sl [.sc (.int .i64), .sc (.str), .sc (.str)], .sc (.bool)] [], .dz [.sc (.int .i64), .sc (.int .i64), .sc (.int .i64), .sl [.sc (.int .i64), .sc (.str), .sc (.str)], .sc (.bool)] [], .dz [.sc (.int .i64), .sl [.sc (.int .i64), .sc (.str), .sc (.str)]] []]]
noncomputable def spec_Promised_w (m : Nat) (vs : List T) (k : Ret → An) : An := spec_Promised m (vs.headD dflt) (vs.tail.headD dflt) (vs.tail.tail.headD dflt) (vs.tail.tail.tail.headD dflt) (vs.tail.tail.tail.tail.headD dflt) (vs.tail.tail.tail.tail.tail.headD dflt) (vs.tail.tail.tail.tail.tail.tail.headD dflt) (vs.tail.tail.tail.tail.tail.tail.tail.headD dflt) (vs.tail.tail.tail.tail.tail.tail.tail.tail.headD dflt) (vs.tail.tail.tail.tail.tail.tail.tail.tail.tail.headD dflt) (fun z0 => k ⟨[.one (.sc (.bool) z0)], [[none, none, none, none, none, none, none, none, none, none]], [none]⟩)
theorem spec_Promised_cf (m : Nat) : callK CX prims m = (patC 69 spec_l12Begun_a (spec_l12Begun_w m) (patC 70 spec_l13Held_a (spec_l13Held_w m) (callK CX prims m))) := by
  rw [← patC_eq (fun vs k => spec_l13Held_eq m vs k), ← patC_eq (fun vs k => spec_l12Begun_eq m vs k)]
noncomputable def spec_Promised_c : Code := (Try.f32.body).getD .skip
noncomputable def spec_Promised_fi : Fi := ⟨32, 1, 42, 4⟩
theorem spec_Promised_lf (m : Nat) : ∀ n, (∀ vs k, loopK CX (callK CX prims m) spec_Promised_fi spec_Promised_c n [0, 1, 0, 1] (fPack spec_Promised_s0_0 vs) k = spec_Promised_L0_0w m n vs k) ∧ ((loopK CX (callK CX prims m) spec_Promised_fi spec_Promised_c n) = (patL [0, 1, 0, 1] spec_Promised_s0_0 (spec_Promised_L0_0w m n) (loopK CX (callK CX prims m) spec_Promised_fi spec_Promised_c n))) := by
  intro n
  have hl : ∀ n, (∀ vs k, loopK CX (callK CX prims m) spec_Promised_fi spec_Promised_c n [0, 1, 0, 1] (fPack spec_Promised_s0_0 vs) k = spec_Promised_L0_0w m n vs k) → ((loopK CX (callK CX prims m) spec_Promised_fi spec_Promised_c n) = (patL [0, 1, 0, 1] spec_Promised_s0_0 (spec_Promised_L0_0w m n) (loopK CX (callK CX prims m) spec_Promised_fi spec_Promised_c n))) := by
    intro n h0
    rw [← patL_eq h0]
  induction n with
  | zero => exact ⟨fun vs k => rfl, hl 0 (fun vs k => rfl)⟩
  | succ n ihn =>
    have hn := ihn.2
    have h0 : ∀ vs k, loopK CX (callK CX prims m) spec_Promised_fi spec_Promised_c (n + 1) [0, 1, 0, 1] (fPack spec_Promised_s0_0 vs) k = spec_Promised_L0_0w m (n + 1) vs k := fun vs k =>
      (stepL_congr (spec_Promised_cf m) hn [0, 1, 0, 1] _ _).trans (by kernel_rfl)
    exact ⟨h0, hl (n + 1) h0⟩
theorem spec_Promised_eq (m : Nat) : ∀ vs k, callK CX prims m 32 (fArgs spec_Promised_a vs) k = spec_Promised_w m vs k := by
  cases m with
  | zero => exact fun vs k => rfl
  | succ m => exact fun vs k => Eq.trans (b := bodyK CX (callK CX prims m) (loopK CX (callK CX prims m) spec_Promised_fi spec_Promised_c m) 32 Try.f32 spec_Promised_c (fArgs spec_Promised_a vs) k) (by kernel_rfl) ((bodyK_congr (spec_Promised_cf m) ((spec_Promised_lf m m).2) 32 Try.f32 spec_Promised_c (fArgs spec_Promised_a vs) k).trans (by kernel_rfl))

/-! (*loop.example/g00244/impl.World).orderAt$1 -/
noncomputable def impl_World_orderAt_1 : Nat → T → T → T → (T → An) → An
  | 0, _, _, _, _ => .bad
  | m + 1, x0, x1, x2, k0 =>
    k0 (T.b (x0.int == ((row1 x2).getD 0 dflt).int))
noncomputable def impl_World_orderAt_1_a : List Arg := [.agg [.sc (.int .i64) (.l []), .dz [.sc (.int .i64), .sc (.str), .sc (.str)] []], .rpt [.sc (.int .i64)] []]
noncomputable def impl_World_orderAt_1_w (m : Nat) (vs : List T) (k : Ret → An) : An := impl_World_orderAt_1 m (vs.headD dflt) (vs.tail.headD dflt) (vs.tail.tail.headD dflt) (fun z0 => k ⟨[.one (.sc (.bool) z0)], [[none, none], []], [none, none]⟩)
theorem impl_World_orderAt_1_cf (m : Nat) : callK CX prims m = (callK CX prims m) := by
  rfl
noncomputable def impl_World_orderAt_1_c : Code := (Try.f109.body).getD .skip
noncomputable def impl_World_orderAt_1_fi : Fi := ⟨109, 2, 8, 8⟩
theorem impl_World_orderAt_1_eq (m : Nat) : ∀ vs k, callK CX prims m 109 (fArgs impl_World_orderAt_1_a vs) k = impl_World_orderAt_1_w m vs k := by
  cases m with
  | zero => exact fun vs k => rfl
  | succ m => exact fun vs k => Eq.trans (b := bodyK CX (callK CX prims m) (loopK CX (callK CX prims m) impl_World_orderAt_1_fi impl_World_orderAt_1_c m) 109 Try.f109 impl_World_orderAt_1_c (fArgs impl_World_orderAt_1_a vs) k) (by kernel_rfl) ((bodyK_congr (impl_World_orderAt_1_cf m) rfl 109 Try.f109 impl_World_orderAt_1_c (fArgs impl_World_orderAt_1_a vs) k).trans (by kernel_rfl))

/-! slices.IndexFunc[[]loop.example/g00244/impl.Order,loop.example/g00244/impl.Order] -/
noncomputable def slices_IndexFunc___impl_Order_impl_Order__L0_0 (m : Nat) : Nat → T → T → T → T → (T → An) → An → An
  | 0, _, _, _, _, _, _ => .bad
  | n + 1, x0, x1, x2, x3, k0, k1 =>
    cond (decide (x3.int < x2.int))
    (cond (decide ((0 : Int) ≤ x3.int ∧ x3.int < (x0.rows.length : Int)))
    (impl_World_orderAt_1 m ((x0.rows.getD (Int.toNat x3.int) []).getD 0 dflt) (T.l ((x0.rows.getD (Int.toNat x3.int) []).getD 1 dflt).rows) (T.l [(row1 x1)])
    (fun y0 => cond y0.bool
    (k0 x3)
    (slices_IndexFunc___impl_Order_impl_Order__L0_0 m n x0 (T.l [(row1 x1)]) x2 (T.i (IntKind.i64.wrap (x3.int + 1))) k0 k1)))
    (.bad))
    (k1 )
noncomputable def slices_IndexFunc___impl_Order_impl_Order__s0_0 : Pack := ⟨[(0, .one ⟨.sn [([4000000], 0)], .sl [.sc (.int .i64), .sl [.sc (.int .i64), .sc (.str), .sc (.str)]], .l []⟩), (1, .fn 109 [.rp [([4000000], 0)] [.sc (.int .i64)] []]), (7, .one ⟨.sc, .sc (.int .i64), .l []⟩), (8, .one ⟨.sc, .sc (.int .i64), .l []⟩)], [([4000000], .gone)]⟩
noncomputable def slices_IndexFunc___impl_Order_impl_Order__e0_0 : Pack := ⟨[(4, .one ⟨.sc, .sc (.int .i64), .l []⟩)], []⟩
noncomputable def slices_IndexFunc___impl_Order_impl_Order__e0_1 : Pack := ⟨[], []⟩
noncomputable def slices_IndexFunc___impl_Order_impl_Order__L0_0w (m n : Nat) (vs : List T) (k : Ctl → Pack → An) : An := slices_IndexFunc___impl_Order_impl_Order__L0_0 m n (vs.headD dflt) (vs.tail.headD dflt) (vs.tail.tail.headD dflt) (vs.tail.tail.tail.headD dflt) (fun z0 => k .ret (fPack slices_IndexFunc___impl_Order_impl_Order__e0_0 [z0])) (k (.exit 0) (fPack slices_IndexFunc___impl_Order_impl_Order__e0_1 []))
noncomputable def slices_IndexFunc___impl_Order_impl_Order_ : Nat → T → T → (T → An) → An
  | 0, _, _, _ => .bad
  | m + 1, x0, x1, k0 =>
    slices_IndexFunc___impl_Order_impl_Order__L0_0 m m (T.l x0.rows) (T.l [(row1 x1)]) (T.i (x0.rows.length : Int)) (T.i 0)
    (fun y1 => k0 y1)
    (k0 (T.i (-1)))
noncomputable def slices_IndexFunc___impl_Order_impl_Order__a : List Arg := [.one (.dz [.sc (.int .i64), .sl [.sc (.int .i64), .sc (.str), .sc (.str)]] []), .fn 109 [.rpt [.sc (.int .i64)] []]]
noncomputable def slices_IndexFunc___impl_Order_impl_Order__w (m : Nat) (vs : List T) (k : Ret → An) : An := slices_IndexFunc___impl_Order_impl_Order_ m (vs.headD dflt) (vs.tail.headD dflt) (fun z0 => k ⟨[.one (.sc (.int .i64) z0)], [[none], []], [none, none]⟩)
theorem slices_IndexFunc___impl_Order_impl_Order__cf (m : Nat) : callK CX prims m = (patC 109 impl_World_orderAt_1_a (impl_World_orderAt_1_w m) (callK CX prims m)) := by
  rw [← patC_eq (fun vs k => impl_World_orderAt_1_eq m vs k)]
noncomputable def slices_IndexFunc___impl_Order_impl_Order__c : Code := (Try.f108.body).getD .skip
noncomputable def slices_IndexFunc___impl_Order_impl_Order__fi : Fi := ⟨108, 2, 19, 16⟩
theorem slices_IndexFunc___impl_Order_impl_Order__lf (m : Nat) : ∀ n, (∀ vs k, loopK CX (callK CX prims m) slices_IndexFunc___impl_Order_impl_Order__fi slices_IndexFunc___impl_Order_impl_Order__c n [0, 1, 0, 1] (fPack slices_IndexFunc___impl_Order_impl_Order__s0_0 vs) k = slices_IndexFunc___impl_Order_impl_Order__L0_0w m n vs k) ∧ ((loopK CX (callK CX prims m) slices_IndexFunc___impl_Order_impl_Order__fi slices_IndexFunc___impl_Order_impl_Order__c n) = (patL [0, 1, 0, 1] slices_IndexFunc___impl_Order_impl_Order__s0_0 (slices_IndexFunc___impl_Order_impl_Order__L0_0w m n) (loopK CX (callK CX prims m) slices_IndexFunc___impl_Order_impl_Order__fi slices_IndexFunc___impl_Order_impl_Order__c n))) := by
  intro n
  have hl : ∀ n, (∀ vs k, loopK CX (callK CX prims m) slices_IndexFunc___impl_Order_impl_Order__fi slices_IndexFunc___impl_Order_impl_Order__c n [0, 1, 0, 1] (fPack slices_IndexFunc___impl_Order_impl_Order__s0_0 vs) k = slices_IndexFunc___impl_Order_impl_Order__L0_0w m n vs k) → ((loopK CX (callK CX prims m) slices_IndexFunc___impl_Order_impl_Order__fi slices_IndexFunc___impl_Order_impl_Order__c n) = (patL [0, 1, 0, 1] slices_IndexFunc___impl_Order_impl_Order__s0_0 (slices_IndexFunc___impl_Order_impl_Order__L0_0w m n) (loopK CX (callK CX prims m) slices_IndexFunc___impl_Order_impl_Order__fi slices_IndexFunc___impl_Order_impl_Order__c n))) := by
    intro n h0
    rw [← patL_eq h0]
  induction n with
  | zero => exact ⟨fun vs k => rfl, hl 0 (fun vs k => rfl)⟩
  | succ n ihn =>
    have hn := ihn.2
    have h0 : ∀ vs k, loopK CX (callK CX prims m) slices_IndexFunc___impl_Order_impl_Order__fi slices_IndexFunc___impl_Order_impl_Order__c (n + 1) [0, 1, 0, 1] (fPack slices_IndexFunc___impl_Order_impl_Order__s0_0 vs) k = slices_IndexFunc___impl_Order_impl_Order__L0_0w m (n + 1) vs k := fun vs k =>
      (stepL_congr (slices_IndexFunc___impl_Order_impl_Order__cf m) hn [0, 1, 0, 1] _ _).trans (by kernel_rfl)
    exact ⟨h0, hl (n + 1) h0⟩
theorem slices_IndexFunc___impl_Order_impl_Order__eq (m : Nat) : ∀ vs k, callK CX prims m 108 (fArgs slices_IndexFunc___impl_Order_impl_Order__a vs) k = slices_IndexFunc___impl_Order_impl_Order__w m vs k := by
  cases m with
  | zero => exact fun vs k => rfl
  | succ m => exact fun vs k => Eq.trans (b := bodyK CX (callK CX prims m) (loopK CX (callK CX prims m) slices_IndexFunc___impl_Order_impl_Order__fi slices_IndexFunc___impl_Order_impl_Order__c m) 108 Try.f108 slices_IndexFunc___impl_Order_impl_Order__c (fArgs slices_IndexFunc___impl_Order_impl_Order__a vs) k) (by kernel_rfl) ((bodyK_congr (slices_IndexFunc___impl_Order_impl_Order__cf m) ((slices_IndexFunc___impl_Order_impl_Order__lf m m).2) 108 Try.f108 slices_IndexFunc___impl_Order_impl_Order__c (fArgs slices_IndexFunc___impl_Order_impl_Order__a vs) k).trans (by kernel_rfl))

/-! (*loop.example/g00244/impl.World).orderAt -/
noncomputable def impl_World_orderAt : Nat → T → T → (T → An) → An
  | 0, _, _, _ => .bad
  | m + 1, x0, x1, k0 =>
    slices_IndexFunc___impl_Order_impl_Order_ m (T.l (((row1 x0).drop 9).getD 0 dflt).rows) (T.l [[x1]])
    (fun y0 => k0 y0)
noncomputable def impl_World_orderAt_a : List Arg := [.rpt [.sc (.int .i64), .sc (.int .i64), .sc (.int .i64), .sl [.sc (.int .i64), .sl [.sc (.int .i64), .sc (.str), .sc (.str)], .sc (.int .i64), .sl [.sc (.int .i64)]], .sl [.sc (.int .i64), .sc (.bool)], .sc (.int .i64), .sl [.sc (.int .i64), .sl [.sc (.int .i64), .sc (.int .i64), .sl [.sc (.int .i64), .sc (.str), .sc (.str)]], .sc (.int .i64), .sl [.sc (.str), .sc (.str)], .sl [.sc (.int .i64), .sc (.int .i64), .sl [.sc (.int .i64), .sc (.str), .sc (.str)]]], .sl [.sc (.int .i64), .sc (.int .i64), .sc (.int .i64), .sl [.sc (.int .i64), .sc (.str), .sc (.str)], .sc (.bool)], .sl [.sc (.int .i64), .sc (.int .i64), .sc (.int .i64), .sl [.sc (.int .i64), .sc (.str), .sc (.str)], .sc (.bool)], .sl [.sc (.int .i64), .sl [.sc (.int .i64), .sc (.str), .sc (.str)]]] [], .one (.sc (.int .i64) (.l []))]
noncomputable def impl_World_orderAt_w (m : Nat) (vs : List T) (k : Ret → An) : An := impl_World_orderAt m (vs.headD dflt) (vs.tail.headD dflt) (fun z0 => k ⟨[.one (.sc (.int .i64) z0)], [[], [none]], [none, none]⟩)
theorem impl_World_orderAt_cf (m : Nat) : callK CX prims m = (patC 108 slices_IndexFunc___impl_Order_impl_Order__a (slices_IndexFunc___impl_Order_impl_Order__w m) (callK CX prims m)) := by
  rw [← patC_eq (fun vs k => slices_IndexFunc___impl_Order_impl_Order__eq m vs k)]
noncomputable def impl_World_orderAt_c : Code := (Try.f71.body).getD .skip
noncomputable def impl_World_orderAt_fi : Fi := ⟨71, 2, 11, 16⟩
theorem impl_World_orderAt_eq (m : Nat) : ∀ vs k, callK CX prims m 71 (fArgs impl_World_orderAt_a vs) k = impl_World_orderAt_w m vs k := by
  cases m with
  | zero => exact fun vs k => rfl
  | succ m => exact fun vs k => Eq.trans (b := bodyK CX (callK CX prims m) (loopK CX (callK CX prims m) impl_World_orderAt_fi impl_World_orderAt_c m) 71 Try.f71 impl_World_orderAt_c (fArgs impl_World_orderAt_a vs) k) (by kernel_rfl) ((bodyK_congr (impl_World_orderAt_cf m) rfl 71 Try.f71 impl_World_orderAt_c (fArgs impl_World_orderAt_a vs) k).trans (by kernel_rfl))

/-! loop.example/g00244/impl.Hash -/
noncomputable def impl_Hash_L0_0 (m : Nat) : Nat → T → T → T → (T → An) → An
  | 0, _, _, _, _ => .bad
  | n + 1, x0, x1, x2, k0 =>
    cond (decide (x2.int < (x0.str.size : Int)))
    (cond (decide ((0 : Int) ≤ x2.int ∧ x2.int < (x0.str.size : Int)))
    (impl_Hash_L0_0 m n x0 (T.i (IntKind.u32.wrap ((bvBack .u32 (BitVec.ofInt IntKind.u32.bits x1.int ^^^ BitVec.ofInt IntKind.u32.bits (IntKind.u32.wrap ((x0.str.data.toList.getD (Int.toNat x2.int) 0).toNat : Int)))).int * 16777619))) (T.i (IntKind.i64.wrap (x2.int + 1))) k0)
    (.bad))
    (k0 x1)
noncomputable def impl_Hash_s0_0 : Pack := ⟨[(0, .one ⟨.sc, .sc (.str), .l []⟩), (3, .one ⟨.sc, .sc (.int .u32), .l []⟩), (4, .one ⟨.sc, .sc (.int .i64), .l []⟩)], []⟩
noncomputable def impl_Hash_e0_0 : Pack := ⟨[(3, .one ⟨.sc, .sc (.int .u32), .l []⟩)], []⟩
noncomputable def impl_Hash_L0_0w (m n : Nat) (vs : List T) (k : Ctl → Pack → An) : An := impl_Hash_L0_0 m n (vs.headD dflt) (vs.tail.headD dflt) (vs.tail.tail.headD dflt) (fun z0 => k (.exit 0) (fPack impl_Hash_e0_0 [z0]))
noncomputable def impl_Hash : Nat → T → (T → An) → An
  | 0, _, _ => .bad
  | m + 1, x0, k0 =>
    impl_Hash_L0_0 m m x0 (T.i 2166136261) (T.i 0)
    (fun y0 => k0 (T.i (IntKind.i64.wrap y0.int)))
noncomputable def impl_Hash_a : List Arg := [.one (.sc (.str) (.l []))]
noncomputable def impl_Hash_w (m : Nat) (vs : List T) (k : Ret → An) : An := impl_Hash m (vs.headD dflt) (fun z0 => k ⟨[.one (.sc (.int .i64) z0)], [[none]], [none]⟩)
theorem impl_Hash_cf (m : Nat) : callK CX prims m = (callK CX prims m) := by
  rfl
noncomputable def impl_Hash_c : Code := (Try.f139.body).getD .skip
noncomputable def impl_Hash_fi : Fi := ⟨139, 1, 21, 4⟩
theorem impl_Hash_lf (m : Nat) : ∀ n, (∀ vs k, loopK CX (callK CX prims m) impl_Hash_fi impl_Hash_c n [0, 1, 0, 1, 1] (fPack impl_Hash_s0_0 vs) k = impl_Hash_L0_0w m n vs k) ∧ ((loopK CX (callK CX prims m) impl_Hash_fi impl_Hash_c n) = (patL [0, 1, 0, 1, 1] impl_Hash_s0_0 (impl_Hash_L0_0w m n) (loopK CX (callK CX prims m) impl_Hash_fi impl_Hash_c n))) := by
  intro n
  have hl : ∀ n, (∀ vs k, loopK CX (callK CX prims m) impl_Hash_fi impl_Hash_c n [0, 1, 0, 1, 1] (fPack impl_Hash_s0_0 vs) k = impl_Hash_L0_0w m n vs k) → ((loopK CX (callK CX prims m) impl_Hash_fi impl_Hash_c n) = (patL [0, 1, 0, 1, 1] impl_Hash_s0_0 (impl_Hash_L0_0w m n) (loopK CX (callK CX prims m) impl_Hash_fi impl_Hash_c n))) := by
    intro n h0
    rw [← patL_eq h0]
  induction n with
  | zero => exact ⟨fun vs k => rfl, hl 0 (fun vs k => rfl)⟩
  | succ n ihn =>
    have hn := ihn.2
    have h0 : ∀ vs k, loopK CX (callK CX prims m) impl_Hash_fi impl_Hash_c (n + 1) [0, 1, 0, 1, 1] (fPack impl_Hash_s0_0 vs) k = impl_Hash_L0_0w m (n + 1) vs k := fun vs k =>
      (stepL_congr (impl_Hash_cf m) hn [0, 1, 0, 1, 1] _ _).trans (by kernel_rfl)
    exact ⟨h0, hl (n + 1) h0⟩
theorem impl_Hash_eq (m : Nat) : ∀ vs k, callK CX prims m 139 (fArgs impl_Hash_a vs) k = impl_Hash_w m vs k := by
  cases m with
  | zero => exact fun vs k => rfl
  | succ m => exact fun vs k => Eq.trans (b := bodyK CX (callK CX prims m) (loopK CX (callK CX prims m) impl_Hash_fi impl_Hash_c m) 139 Try.f139 impl_Hash_c (fArgs impl_Hash_a vs) k) (by kernel_rfl) ((bodyK_congr (impl_Hash_cf m) ((impl_Hash_lf m m).2) 139 Try.f139 impl_Hash_c (fArgs impl_Hash_a vs) k).trans (by kernel_rfl))

/-! loop.example/g00244/impl.ShardOf -/
noncomputable def impl_ShardOf : Nat → T → T → (T → An) → An
  | 0, _, _, _ => .bad
  | m + 1, x0, x1, k0 =>
    cond (decide (x1.int < 1))
    (k0 (T.i 0))
    (impl_Hash m x0
    (fun y0 => cond (!decide (x1.int = 0))
    (k0 (T.i (Int.tmod y0.int x1.int)))
    (.bad)))
noncomputable def impl_ShardOf_a : List Arg := [.one (.sc (.str) (.l [])), .one (.sc (.int .i64) (.l []))]
noncomputable def impl_ShardOf_w (m : Nat) (vs : List T) (k : Ret → An) : An := impl_ShardOf m (vs.headD dflt) (vs.tail.headD dflt) (fun z0 => k ⟨[.one (.sc (.int .i64) z0)], [[none], [none]], [none, none]⟩)
theorem impl_ShardOf_cf (m : Nat) : callK CX prims m = (patC 139 impl_Hash_a (impl_Hash_w m) (callK CX prims m)) := by
  rw [← patC_eq (fun vs k => impl_Hash_eq m vs k)]
noncomputable def impl_ShardOf_c : Code := (Try.f110.body).getD .skip
noncomputable def impl_ShardOf_fi : Fi := ⟨110, 2, 11, 16⟩
theorem impl_ShardOf_eq (m : Nat) : ∀ vs k, callK CX prims m 110 (fArgs impl_ShardOf_a vs) k = impl_ShardOf_w m vs k := by
  cases m with
  | zero => exact fun vs k => rfl
  | succ m => exact fun vs k => Eq.trans (b := bodyK CX (callK CX prims m) (loopK CX (callK CX prims m) impl_ShardOf_fi impl_ShardOf_c m) 110 Try.f110 impl_ShardOf_c (fArgs impl_ShardOf_a vs) k) (by kernel_rfl) ((bodyK_congr (impl_ShardOf_cf m) rfl 110 Try.f110 impl_ShardOf_c (fArgs impl_ShardOf_a vs) k).trans (by kernel_rfl))

/-! slices.Clip[[]int,int] -/
noncomputable def slices_Clip___int_int_ : Nat → T → (T → An) → An
  | 0, _, _ => .bad
  | m + 1, x0, k0 =>
    cond (decide ((0 : Int) ≤ (x0.rows.length : Int) ∧ (x0.rows.length : Int) ≤ (x0.rows.length : Int) ∧ (x0.rows.length : Int) ≤ (x0.rows.length : Int)))
    (cond (decide ((0 : Int) ≤ 0 ∧ 0 ≤ (x0.rows.length : Int)))
    (k0 (T.l (x0.rows.take (Int.toNat (x0.rows.length : Int)))))
    (.bad))
    (.bad)
noncomputable def slices_Clip___int_int__a : List Arg := [.one (.fz [.sc (.int .i64)] [])]
noncomputable def slices_Clip___int_int__w (m : Nat) (vs : List T) (k : Ret → An) : An := slices_Clip___int_int_ m (vs.headD dflt) (fun z0 => k ⟨[.one (.fz [.sc (.int .i64)] z0.rows)], [[none]], [none]⟩)
theorem slices_Clip___int_int__cf (m : Nat) : callK CX prims m = (callK CX prims m) := by
  rfl
noncomputable def slices_Clip___int_int__c : Code := (Try.f112.body).getD .skip
noncomputable def slices_Clip___int_int__fi : Fi := ⟨112, 1, 9, 4⟩
theorem slices_Clip___int_int__eq (m : Nat) : ∀ vs k, callK CX prims m 112 (fArgs slices_Clip___int_int__a vs) k = slices_Clip___int_int__w m vs k := by
  cases m with
  | zero => exact fun vs k => rfl
  | succ m => exact fun vs k => Eq.trans (b := bodyK CX (callK CX prims m) (loopK CX (callK CX prims m) slices_Clip___int_int__fi slices_Clip___int_int__c m) 112 Try.f112 slices_Clip___int_int__c (fArgs slices_Clip___int_int__a vs) k) (by kernel_rfl) ((bodyK_congr (slices_Clip___int_int__cf m) rfl 112 Try.f112 slices_Clip___int_int__c (fArgs slices_Clip___int_int__a vs) k).trans (by kernel_rfl))

/-! loop.example/g00244/impl.ShardsOf -/
noncomputable def impl_ShardsOf_L0_0 (m : Nat) : Nat → T → T → T → T → T → (T → An) → An
  | 0, _, _, _, _, _, _ => .bad
  | n + 1, x0, x1, x2, x3, x4, k0 =>
    cond (decide (x3.int < x2.int))
    (cond (decide ((0 : Int) ≤ x3.int ∧ x3.int < (x1.rows.length : Int)))
    (impl_ShardOf m ((x1.rows.getD (Int.toNat x3.int) []).getD 1 dflt) x0
    (fun y0 => cond (decide ((x4.rows.length + 1) * 1 ≤ maxRow))
    (impl_ShardsOf_L0_0 m n x0 x1 x2 (T.i (IntKind.i64.wrap (x3.int + 1))) (T.l (x4.rows ++ [[y0]])) k0)
    (.bad)))
    (.bad))
    (k0 (T.l x4.rows))
noncomputable def impl_ShardsOf_s0_0 : Pack := ⟨[(1, .one ⟨.sc, .sc (.int .i64), .l []⟩), (5, .one ⟨.al [1000000, 0] 0, .sl [.sc (.int .i64)], .l []⟩), (8, .one ⟨.sn [([4000000], 0)], .sl [.sc (.int .i64), .sc (.str), .sc (.str)], .l []⟩), (9, .one ⟨.sc, .sc (.int .i64), .l []⟩), (10, .one ⟨.sc, .sc (.int .i64), .l []⟩)], [([1000000, 0], .row [.sc (.int .i64)] [.F] []), ([4000000], .gone)]⟩
noncomputable def impl_ShardsOf_e0_0 : Pack := ⟨[(5, .one ⟨.al [1000000, 0] 0, .sl [.sc (.int .i64)], .l []⟩)], [([1000000, 0], .row [.sc (.int .i64)] [.F] [])]⟩
noncomputable def impl_ShardsOf_L0_0w (m n : Nat) (vs : List T) (k : Ctl → Pack → An) : An := impl_ShardsOf_L0_0 m n (vs.headD dflt) (vs.tail.headD dflt) (vs.tail.tail.headD dflt) (vs.tail.tail.tail.headD dflt) (vs.tail.tail.tail.tail.headD dflt) (fun z0 => k (.exit 0) (fPack impl_ShardsOf_e0_0 [z0]))
noncomputable def impl_ShardsOf : Nat → T → T → (T → An) → An
  | 0, _, _, _ => .bad
  | m + 1, x0, x1, k0 =>
    impl_ShardsOf_L0_0 m m x1 (T.l x0.rows) (T.i (x0.rows.length : Int)) (T.i 0) (T.l [])
    (fun y1 => slices_Sort m (T.l y1.rows)
    (fun y2 => slices_Compact m (T.l y2.rows)
    (fun y3 => slices_Clip___int_int_ m (T.l y3.rows)
    (fun y4 => k0 (T.l y4.rows)))))
noncomputable def impl_ShardsOf_a : List Arg := [.one (.dz [.sc (.int .i64), .sc (.str), .sc (.str)] []), .one (.sc (.int .i64) (.l []))]
noncomputable def impl_ShardsOf_w (m : Nat) (vs : List T) (k : Ret → An) : An := impl_ShardsOf m (vs.headD dflt) (vs.tail.headD dflt) (fun z0 => k ⟨[.one (.fz [.sc (.int .i64)] z0.rows)], [[none], [none]], [none, none]⟩)
theorem impl_ShardsOf_cf (m : Nat) : callK CX prims m = (patC 110 impl_ShardOf_a (impl_ShardOf_w m) (patC 111 slices_Sort_a (slices_Sort_w m) (patC 113 slices_Compact_a (slices_Compact_w m) (patC 112 slices_Clip___int_int__a (slices_Clip___int_int__w m) (callK CX prims m))))) := by
  rw [← patC_eq (fun vs k => slices_Clip___int_int__eq m vs k), ← patC_eq (fun vs k => slices_Compact_eq m vs k), ← patC_eq (fun vs k => slices_Sort_eq m vs k), ← patC_eq (fun vs k => impl_ShardOf_eq m vs k)]
noncomputable def impl_ShardsOf_c : Code := (Try.f72.body).getD .skip
noncomputable def impl_ShardsOf_fi : Fi := ⟨72, 2, 27, 16⟩
theorem impl_ShardsOf_lf (m : Nat) : ∀ n, (∀ vs k, loopK CX (callK CX prims m) impl_ShardsOf_fi impl_ShardsOf_c n [0, 1, 0, 1, 1] (fPack impl_ShardsOf_s0_0 vs) k = impl_ShardsOf_L0_0w m n vs k) ∧ ((loopK CX (callK CX prims m) impl_ShardsOf_fi impl_ShardsOf_c n) = (patL [0, 1, 0, 1, 1] impl_ShardsOf_s0_0 (impl_ShardsOf_L0_0w m n) (loopK CX (callK CX prims m) impl_ShardsOf_fi impl_ShardsOf_c n))) := by
  intro n
  have hl : ∀ n, (∀ vs k, loopK CX (callK CX prims m) impl_ShardsOf_fi impl_ShardsOf_c n [0, 1, 0, 1, 1] (fPack impl_ShardsOf_s0_0 vs) k = impl_ShardsOf_L0_0w m n vs k) → ((loopK CX (callK CX prims m) impl_ShardsOf_fi impl_ShardsOf_c n) = (patL [0, 1, 0, 1, 1] impl_ShardsOf_s0_0 (impl_ShardsOf_L0_0w m n) (loopK CX (callK CX prims m) impl_ShardsOf_fi impl_ShardsOf_c n))) := by
    intro n h0
    rw [← patL_eq h0]
  induction n with
  | zero => exact ⟨fun vs k => rfl, hl 0 (fun vs k => rfl)⟩
  | succ n ihn =>
    have hn := ihn.2
    have h0 : ∀ vs k, loopK CX (callK CX prims m) impl_ShardsOf_fi impl_ShardsOf_c (n + 1) [0, 1, 0, 1, 1] (fPack impl_ShardsOf_s0_0 vs) k = impl_ShardsOf_L0_0w m (n + 1) vs k := fun vs k =>
      (stepL_congr (impl_ShardsOf_cf m) hn [0, 1, 0, 1, 1] _ _).trans (by kernel_rfl)
    exact ⟨h0, hl (n + 1) h0⟩
theorem impl_ShardsOf_eq (m : Nat) : ∀ vs k, callK CX prims m 72 (fArgs impl_ShardsOf_a vs) k = impl_ShardsOf_w m vs k := by
  cases m with
  | zero => exact fun vs k => rfl
  | succ m => exact fun vs k => Eq.trans (b := bodyK CX (callK CX prims m) (loopK CX (callK CX prims m) impl_ShardsOf_fi impl_ShardsOf_c m) 72 Try.f72 impl_ShardsOf_c (fArgs impl_ShardsOf_a vs) k) (by kernel_rfl) ((bodyK_congr (impl_ShardsOf_cf m) ((impl_ShardsOf_lf m m).2) 72 Try.f72 impl_ShardsOf_c (fArgs impl_ShardsOf_a vs) k).trans (by kernel_rfl))

/-! (*loop.example/g00244/impl.Shard).isPromised -/
noncomputable def impl_Shard_isPromised_L0_0 (m : Nat) : Nat → T → T → T → T → (T → An) → An → An
  | 0, _, _, _, _, _, _ => .bad
  | n + 1, x0, x1, x2, x3, k0, k1 =>
    cond (decide (x3.int < x2.int))
    (cond (decide ((0 : Int) ≤ x3.int ∧ x3.int < (x1.rows.length : Int)))
    (cond ((((x1.rows.getD (Int.toNat x3.int) []).getD 1 dflt).int == x0.int) == true)
    (cond ((((x1.rows.getD (Int.toNat x3.int) []).getD 0 dflt).int == 1) == false)
    (cond (((x1.rows.getD (Int.toNat x3.int) []).getD 0 dflt).int == 2)
    (k0 (T.b true))
    (impl_Shard_isPromised_L0_0 m n x0 x1 x2 (T.i (IntKind.i64.wrap (x3.int + 1))) k0 k1))
    (k0 (T.b true)))
    (impl_Shard_isPromised_L0_0 m n x0 x1 x2 (T.i (IntKind.i64.wrap (x3.int + 1))) k0 k1))
    (.bad))
    (k1 )
noncomputable def impl_Shard_isPromised_s0_0 : Pack := ⟨[(1, .one ⟨.sc, .sc (.int .i64), .l []⟩), (24, .one ⟨.sn [([4000000], 0)], .sl [.sc (.int .i64), .sc (.int .i64), .sl [.sc (.int .i64), .sc (.str), .sc (.str)]], .l []⟩), (25, .one ⟨.sc, .sc (.int .i64), .l []⟩), (26, .one ⟨.sc, .sc (.int .i64), .l []⟩)], [([4000000], .gone)]⟩
noncomputable def impl_Shard_isPromised_e0_0 : Pack := ⟨[(4, .one ⟨.sc, .sc (.bool), .l []⟩)], []⟩
noncomputable def impl_Shard_isPromised_e0_1 : Pack := ⟨[], []⟩
noncomputable def impl_Shard_isPromised_L0_0w (m n : Nat) (vs : List T) (k : Ctl → Pack → An) : An := impl_Shard_isPromised_L0_0 m n (vs.headD dflt) (vs.tail.headD dflt) (vs.tail.tail.headD dflt) (vs.tail.tail.tail.headD dflt) (fun z0 => k .ret (fPack impl_Shard_isPromised_e0_0 [z0])) (k (.exit 0) (fPack impl_Shard_isPromised_e0_1 []))
noncomputable def impl_Shard_isPromised : Nat → T → T → (T → An) → An
  | 0, _, _, _ => .bad
  | m + 1, x0, x1, k0 =>
    cond (decide ((0 : Int) ≤ (maxI 0 (minI (((row1 x0).drop 2).getD 0 dflt).int ((((row1 x0).drop 1).getD 0 dflt).rows.length : Int))) ∧ (maxI 0 (minI (((row1 x0).drop 2).getD 0 dflt).int ((((row1 x0).drop 1).getD 0 dflt).rows.length : Int))) ≤ ((((row1 x0).drop 1).getD 0 dflt).rows.length : Int)))
    (cond (decide ((0 : Int) ≤ 0 ∧ 0 ≤ (maxI 0 (minI (((row1 x0).drop 2).getD 0 dflt).int ((((row1 x0).drop 1).getD 0 dflt).rows.length : Int)))))
    (impl_Shard_isPromised_L0_0 m m x1 (T.l ((((row1 x0).drop 1).getD 0 dflt).rows.take (Int.toNat (maxI 0 (minI (((row1 x0).drop 2).getD 0 dflt).int ((((row1 x0).drop 1).getD 0 dflt).rows.length : Int)))))) (T.i (((((row1 x0).drop 1).getD 0 dflt).rows.take (Int.toNat (maxI 0 (minI (((row1 x0).drop 2).getD 0 dflt).int ((((row1 x0).drop 1).getD 0 dflt).rows.length : Int))))).length : Int)) (T.i 0)
    (fun y0 => k0 y0)
    (k0 (T.b false)))
    (.bad))
    (.bad)
noncomputable def impl_Shard_isPromised_a : List Arg := [.rpt [.sc (.int .i64), .sl [.sc (.int .i64), .sc (.int .i64), .sl [.sc (.int .i64), .sc (.str), .sc (.str)]], .sc (.int .i64), .sl [.sc (.str), .sc (.str)], .sl [.sc (.int .i64), .sc (.int .i64), .sl [.sc (.int .i64), .sc (.str), .sc (.str)]]] [], .one (.sc (.int .i64) (.l []))]
noncomputable def impl_Shard_isPromised_w (m : Nat) (vs : List T) (k : Ret → An) : An := impl_Shard_isPromised m (vs.headD dflt) (vs.tail.headD dflt) (fun z0 => k ⟨[.one (.sc (.bool) z0)], [[], [none]], [none, none]⟩)
theorem impl_Shard_isPromised_cf (m : Nat) : callK CX prims m = (callK CX prims m) := by
  rfl
noncomputable def impl_Shard_isPromised_c : Code := (Try.f73.body).getD .skip
noncomputable def impl_Shard_isPromised_fi : Fi := ⟨73, 2, 45, 16⟩
theorem impl_Shard_isPromised_lf (m : Nat) : ∀ n, (∀ vs k, loopK CX (callK CX prims m) impl_Shard_isPromised_fi impl_Shard_isPromised_c n [0, 1, 0, 1, 1] (fPack impl_Shard_isPromised_s0_0 vs) k = impl_Shard_isPromised_L0_0w m n vs k) ∧ ((loopK CX (callK CX prims m) impl_Shard_isPromised_fi impl_Shard_isPromised_c n) = (patL [0, 1, 0, 1, 1] impl_Shard_isPromised_s0_0 (impl_Shard_isPromised_L0_0w m n) (loopK CX (callK CX prims m) impl_Shard_isPromised_fi impl_Shard_isPromised_c n))) := by
  intro n
  have hl : ∀ n, (∀ vs k, loopK CX (callK CX prims m) impl_Shard_isPromised_fi impl_Shard_isPromised_c n [0, 1, 0, 1, 1] (fPack impl_Shard_isPromised_s0_0 vs) k = impl_Shard_isPromised_L0_0w m n vs k) → ((loopK CX (callK CX prims m) impl_Shard_isPromised_fi impl_Shard_isPromised_c n) = (patL [0, 1, 0, 1, 1] impl_Shard_isPromised_s0_0 (impl_Shard_isPromised_L0_0w m n) (loopK CX (callK CX prims m) impl_Shard_isPromised_fi impl_Shard_isPromised_c n))) := by
    intro n h0
    rw [← patL_eq h0]
  induction n with
  | zero => exact ⟨fun vs k => rfl, hl 0 (fun vs k => rfl)⟩
  | succ n ihn =>
    have hn := ihn.2
    have h0 : ∀ vs k, loopK CX (callK CX prims m) impl_Shard_isPromised_fi impl_Shard_isPromised_c (n + 1) [0, 1, 0, 1, 1] (fPack impl_Shard_isPromised_s0_0 vs) k = impl_Shard_isPromised_L0_0w m (n + 1) vs k := fun vs k =>
      (stepL_congr (impl_Shard_isPromised_cf m) hn [0, 1, 0, 1, 1] _ _).trans (by kernel_rfl)
    exact ⟨h0, hl (n + 1) h0⟩
theorem impl_Shard_isPromised_eq (m : Nat) : ∀ vs k, callK CX prims m 73 (fArgs impl_Shard_isPromised_a vs) k = impl_Shard_isPromised_w m vs k := by
  cases m with
  | zero => exact fun vs k => rfl
  | succ m => exact fun vs k => Eq.trans (b := bodyK CX (callK CX prims m) (loopK CX (callK CX prims m) impl_Shard_isPromised_fi impl_Shard_isPromised_c m) 73 Try.f73 impl_Shard_isPromised_c (fArgs impl_Shard_isPromised_a vs) k) (by kernel_rfl) ((bodyK_congr (impl_Shard_isPromised_cf m) ((impl_Shard_isPromised_lf m m).2) 73 Try.f73 impl_Shard_isPromised_c (fArgs impl_Shard_isPromised_a vs) k).trans (by kernel_rfl))

/-! loop.example/g00244/impl.Promised -/
noncomputable def impl_Promised_L1_0 (m : Nat) : Nat → T → T → T → T → T → T → T → T → T → T → T → T → T → T → T → T → T → T → T → T → (T → An) → (T → T → T → T → T → T → T → T → T → T → T → T → T → T → An) → An
  | 0, _, _, _, _, _, _, _, _, _, _, _, _, _, _, _, _, _, _, _, _, _, _ => .bad
  | n + 1, x0, x1, x2, x3, x4, x5, x6, x7, x8, x9, x10, x11, x12, x13, x14, x15, x16, x17, x18, x19, k0, k1 =>
    cond (decide (x7.int < x6.int))
    (cond (decide ((0 : Int) ≤ x7.int ∧ x7.int < (x5.rows.length : Int)))
    (cond ((decide (((x5.rows.getD (Int.toNat x7.int) []).getD 0 dflt).int ≥ (x14.rows.length : Int))) == false)
    (cond (decide ((0 : Int) ≤ ((x5.rows.getD (Int.toNat x7.int) []).getD 0 dflt).int ∧ ((x5.rows.getD (Int.toNat x7.int) []).getD 0 dflt).int < (x14.rows.length : Int)))
    (impl_Shard_isPromised m (T.l [((x14.rows.getD (Int.toNat ((x5.rows.getD (Int.toNat x7.int) []).getD 0 dflt).int) []).take 5)]) x18
    (fun y2 => cond (!y2.bool)
    (k0 (T.b false))
    (impl_Promised_L1_0 m n (T.i (x0.int.toNat : Int)) (T.i (x1.int.toNat : Int)) x2 x3 x4 x5 x6 (T.i (IntKind.i64.wrap (x7.int + 1))) x8 x9 x10 x11 x12 x13 x14 x15 x16 x17 x18 x19 k0 k1)))
    (.bad))
    (k0 (T.b false)))
    (.bad))
    (k1 (T.i (x0.int.toNat : Int)) x2 x3 x4 x8 x9 x10 x11 x12 x13 x14 x15 x16 x17)
noncomputable def impl_Promised_s1_0 : Pack := ⟨[(1, .ptr [1000000, 0] 0 0 0), (4, .ptr [1000000, 1] 0 0 0), (10, .one ⟨.sn [([4000000], 0)], .sl [.sc (.int .i64), .sc (.bool)], .l []⟩), (11, .one ⟨.sc, .sc (.int .i64), .l []⟩), (12, .one ⟨.sc, .sc (.int .i64), .l []⟩), (33, .one ⟨.sn [], .sl [.sc (.int .i64)], .l []⟩), (34, .one ⟨.sc, .sc (.int .i64), .l []⟩), (35, .one ⟨.sc, .sc (.int .i64), .l []⟩)], [([1000000, 0], .box [⟨.sc, .sc (.int .i64), .l []⟩, ⟨.sc, .sc (.int .i64), .l []⟩, ⟨.sc, .sc (.int .i64), .l []⟩, ⟨.sn [([4000000], 0)], .sl [.sc (.int .i64), .sl [.sc (.int .i64), .sc (.str), .sc (.str)], .sc (.int .i64), .sl [.sc (.int .i64)]], .l []⟩, ⟨.sn [([4000000], 0)], .sl [.sc (.int .i64), .sc (.bool)], .l []⟩, ⟨.sc, .sc (.int .i64), .l []⟩, ⟨.sn [([4000000], 0)], .sl [.sc (.int .i64), .sl [.sc (.int .i64), .sc (.int .i64), .sl [.sc (.int .i64), .sc (.str), .sc (.str)]], .sc (.int .i64), .sl [.sc (.str), .sc (.str)], .sl [.sc (.int .i64), .sc (.int .i64), .sl [.sc (.int .i64), .sc (.str), .sc (.str)]]], .l []⟩, ⟨.sn [([4000000], 0)], .sl [.sc (.int .i64), .sc (.int .i64), .sc (.int .i64), .sl [.sc (.int .i64), .sc (.str), .sc (.str)], .sc (.bool)], .l []⟩, ⟨.sn [([4000000], 0)], .sl [.sc (.int .i64), .sc (.int .i64), .sc (.int .i64), .sl [.sc (.int .i64), .sc (.str), .sc (.str)], .sc (.bool)], .l []⟩, ⟨.sn [([4000000], 0)], .sl [.sc (.int .i64), .sl [.sc (.int .i64), .sc (.str), .sc (.str)]], .l []⟩]), ([1000000, 1], .box [⟨.sc, .sc (.int .i64), .l []⟩, ⟨.sc, .sc (.bool), .l []⟩]), ([4000000], .gone)]⟩
noncomputable def impl_Promised_e1_0 : Pack := ⟨[(2, .one ⟨.sc, .sc (.bool), .l []⟩)], []⟩
noncomputable def impl_Promised_e1_1 : Pack := ⟨[(1, .ptr [1000000, 0] 0 0 0), (10, .one ⟨.sn [([4000000], 0)], .sl [.sc (.int .i64), .sc (.bool)], .l []⟩), (11, .one ⟨.sc, .sc (.int .i64), .l []⟩), (12, .one ⟨.sc, .sc (.int .i64), .l []⟩)], [([1000000, 0], .box [⟨.sc, .sc (.int .i64), .l []⟩, ⟨.sc, .sc (.int .i64), .l []⟩, ⟨.sc, .sc (.int .i64), .l []⟩, ⟨.sn [([4000000], 0)], .sl [.sc (.int .i64), .sl [.sc (.int .i64), .sc (.str), .sc (.str)], .sc (.int .i64), .sl [.sc (.int .i64)]], .l []⟩, ⟨.sn [([4000000], 0)], .sl [.sc (.int .i64), .sc (.bool)], .l []⟩, ⟨.sc, .sc (.int .i64), .l []⟩, ⟨.sn [([4000000], 0)], .sl [.sc (.int .i64), .sl [.sc (.int .i64), .sc (.int .i64), .sl [.sc (.int .i64), .sc (.str), .sc (.str)]], .sc (.int .i64), .sl [.sc (.str), .sc (.str)], .sl [.sc (.int .i64), .sc (.int .i64), .sl [.sc (.int .i64), .sc (.str), .sc (.str)]]], .l []⟩, ⟨.sn [([4000000], 0)], .sl [.sc (.int .i64), .sc (.int .i64), .sc (.int .i64), .sl [.sc (.int .i64), .sc (.str), .sc (.str)], .sc (.bool)], .l []⟩, ⟨.sn [([4000000], 0)], .sl [.sc (.int .i64), .sc (.int .i64), .sc (.int .i64), .sl [.sc (.int .i64), .sc (.str), .sc (.str)], .sc (.bool)], .l []⟩, ⟨.sn [([4000000], 0)], .sl [.sc (.int .i64), .sl [.sc (.int .i64), .sc (.str), .sc (.str)]], .l []⟩]), ([4000000], .gone)]⟩
noncomputable def impl_Promised_L1_0w (m n : Nat) (vs : List T) (k : Ctl → Pack → An) : An := impl_Promised_L1_0 m n (vs.headD dflt) (vs.tail.headD dflt) (vs.tail.tail.headD dflt) (vs.tail.tail.tail.headD dflt) (vs.tail.tail.tail.tail.headD dflt) (vs.tail.tail.tail.tail.tail.headD dflt) (vs.tail.tail.tail.tail.tail.tail.headD dflt) (vs.tail.tail.tail.tail.tail.tail.tail.headD dflt) (vs.tail.tail.tail.tail.tail.tail.tail.tail.headD dflt) (vs.tail.tail.tail.tail.tail.tail.tail.tail.tail.headD dflt) (vs.tail.tail.tail.tail.tail.tail.tail.tail.tail.tail.headD dflt) (vs.tail.tail.tail.tail.tail.tail.tail.tail.tail.tail.tail.headD dflt) (vs.tail.tail.tail.tail.tail.tail.tail.tail.tail.tail.tail.tail.headD dflt) (vs.tail.tail.tail.tail.tail.tail.tail.tail.tail.tail.tail.tail.tail.headD dflt) (vs.tail.tail.tail.tail.tail.tail.tail.tail.tail.tail.tail.tail.tail.tail.headD dflt) (vs.tail.tail.tail.tail.tail.tail.tail.tail.tail.tail.tail.tail.tail.tail.tail.headD dflt) (vs.tail.tail.tail.tail.tail.tail.tail.tail.tail.tail.tail.tail.tail.tail.tail.tail.headD dflt) (vs.tail.tail.tail.tail.tail.tail.tail.tail.tail.tail.tail.tail.tail.tail.tail.tail.tail.headD dflt) (vs.tail.tail.tail.tail.tail.tail.tail.tail.tail.tail.tail.tail.tail.tail.tail.tail.tail.tail.headD dflt) (vs.tail.tail.tail.tail.tail.tail.tail.tail.tail.tail.tail.tail.tail.tail.tail.tail.tail.tail.tail.headD dflt) (fun z0 => k .ret (fPack impl_Promised_e1_0 [z0])) (fun z0 z1 z2 z3 z4 z5 z6 z7 z8 z9 z10 z11 z12 z13 => k (.exit 2) (fPack impl_Promised_e1_1 [z0, z1, z2, z3, z4, z5, z6, z7, z8, z9, z10, z11, z12, z13]))
noncomputable def impl_Promised_L0_0 (m : Nat) : Nat → T → T → T → T → T → T → T → T → T → T → T → T → T → T → (T → An) → An → An
  | 0, _, _, _, _, _, _, _, _, _, _, _, _, _, _, _, _ => .bad
  | n + 1, x0, x1, x2, x3, x4, x5, x6, x7, x8, x9, x10, x11, x12, x13, k0, k1 =>
    cond (decide (x3.int < x2.int))
    (cond (decide ((0 : Int) ≤ x3.int ∧ x3.int < (x1.rows.length : Int)))
    (cond (!((x1.rows.getD (Int.toNat x3.int) []).getD 1 dflt).bool)
    (impl_Promised_L0_0 m n (T.i (x0.int.toNat : Int)) x1 x2 (T.i (IntKind.i64.wrap (x3.int + 1))) x4 x5 x6 x7 x8 x9 x10 x11 x12 x13 k0 k1)
    (impl_World_orderAt m (T.l [[x4, x5, x6, (T.l x7.rows), (T.l x8.rows), x9, (T.l x10.rows), (T.l x11.rows), (T.l x12.rows), (T.l x13.rows)]]) ((x1.rows.getD (Int.toNat x3.int) []).getD 0 dflt)
    (fun y0 => cond (decide (y0.int < 0))
    (k0 (T.b false))
    (cond (decide ((0 : Int) ≤ y0.int ∧ y0.int < (x13.rows.length : Int)))
    (impl_ShardsOf m (T.l (((x13.rows.getD (Int.toNat y0.int) []).drop 1).getD 0 dflt).rows) x4
    (fun y1 => impl_Promised_L1_0 m n (T.i (x0.int.toNat : Int)) (T.i 0) x1 x2 x3 (T.l y1.rows) (T.i (y1.rows.length : Int)) (T.i 0) x4 x5 x6 x7 x8 x9 x10 x11 x12 x13 ((x1.rows.getD (Int.toNat x3.int) []).getD 0 dflt) ((x1.rows.getD (Int.toNat x3.int) []).getD 1 dflt)
    (fun y3 => k0 y3)
    (fun y4 y5 y6 y7 y8 y9 y10 y11 y12 y13 y14 y15 y16 y17 => impl_Promised_L0_0 m n (T.i (y4.int.toNat : Int)) y5 y6 (T.i (IntKind.i64.wrap (y7.int + 1))) y8 y9 y10 y11 y12 y13 y14 y15 y16 y17 k0 k1)))
    (.bad)))))
    (.bad))
    (k1 )
noncomputable def impl_Promised_s0_0 : Pack := ⟨[(1, .ptr [1000000, 0] 0 0 0), (10, .one ⟨.sn [([4000000], 0)], .sl [.sc (.int .i64), .sc (.bool)], .l []⟩), (11, .one ⟨.sc, .sc (.int .i64), .l []⟩), (12, .one ⟨.sc, .sc (.int .i64), .l []⟩)], [([1000000, 0], .box [⟨.sc, .sc (.int .i64), .l []⟩, ⟨.sc, .sc (.int .i64), .l []⟩, ⟨.sc, .sc (.int .i64), .l []⟩, ⟨.sn [([4000000], 0)], .sl [.sc (.int .i64), .sl [.sc (.int .i64), .sc (.str), .sc (.str)], .sc (.int .i64), .sl [.sc (.int .i64)]], .l []⟩, ⟨.sn [([4000000], 0)], .sl [.sc (.int .i64), .sc (.bool)], .l []⟩, ⟨.sc, .sc (.int .i64), .l []⟩, ⟨.sn [([4000000], 0)], .sl [.sc (.int .i64), .sl [.sc (.int .i64), .sc (.int .i64), .sl [.sc (.int .i64), .sc (.str), .sc (.str)]], .sc (.int .i64), .sl [.sc (.str), .sc (.str)], .sl [.sc (.int .i64), .sc (.int .i64), .sl [.sc (.int .i64), .sc (.str), .sc (.str)]]], .l []⟩, ⟨.sn [([4000000], 0)], .sl [.sc (.int .i64), .sc (.int .i64), .sc (.int .i64), .sl [.sc (.int .i64), .sc (.str), .sc (.str)], .sc (.bool)], .l []⟩, ⟨.sn [([4000000], 0)], .sl [.sc (.int .i64), .sc (.int .i64), .sc (.int .i64), .sl [.sc (.int .i64), .sc (.str), .sc (.str)], .sc (.bool)], .l []⟩, ⟨.sn [([4000000], 0)], .sl [.sc (.int .i64), .sl [.sc (.int .i64), .sc (.str), .sc (.str)]], .l []⟩]), ([4000000], .gone)]⟩
noncomputable def impl_Promised_e0_0 : Pack := ⟨[(2, .one ⟨.sc, .sc (.bool), .l []⟩)], []⟩
noncomputable def impl_Promised_e0_1 : Pack := ⟨[], []⟩
noncomputable def impl_Promised_L0_0w (m n : Nat) (vs : List T) (k : Ctl → Pack → An) : An := impl_Promised_L0_0 m n (vs.headD dflt) (vs.tail.headD dflt) (vs.tail.tail.headD dflt) (vs.tail.tail.tail.headD dflt) (vs.tail.tail.tail.tail.headD dflt) (vs.tail.tail.tail.tail.tail.headD dflt) (vs.tail.tail.tail.tail.tail.tail.headD dflt) (vs.tail.tail.tail.tail.tail.tail.tail.headD dflt) (vs.tail.tail.tail.tail.tail.tail.tail.tail.headD dflt) (vs.tail.tail.tail.tail.tail.tail.tail.tail.tail.headD dflt) (vs.tail.tail.tail.tail.tail.tail.tail.tail.tail.tail.headD dflt) (vs.tail.tail.tail.tail.tail.tail.tail.tail.tail.tail.tail.headD dflt) (vs.tail.tail.tail.tail.tail.tail.tail.tail.tail.tail.tail.tail.headD dflt) (vs.tail.tail.tail.tail.tail.tail.tail.tail.tail.tail.tail.tail.tail.headD dflt) (fun z0 => k .ret (fPack impl_Promised_e0_0 [z0])) (k (.exit 0) (fPack impl_Promised_e0_1 []))
noncomputable def impl_Promised : Nat → T → T → T → T → T → T → T → T → T → T → (T → An) → An
  | 0, _, _, _, _, _, _, _, _, _, _, _ => .bad
  | m + 1, x0, x1, x2, x3, x4, x5, x6, x7, x8, x9, k0 =>
    impl_Promised_L0_0 m m (T.i 0) (T.l x4.rows) (T.i (x4.rows.length : Int)) (T.i 0) x0 x1 x2 (T.l x3.rows) (T.l x4.rows) x5 (T.l x6.rows) (T.l x7.rows) (T.l x8.rows) (T.l x9.rows)
    (fun y18 => k0 y18)
    (k0 (T.b true))
noncomputable def impl_Promised_a : List Arg := [.agg [.sc (.int .i64) (.l []), .sc (.int .i64) (.l []), .sc (.int .i64) (.l []), .dz [.sc (.int .i64), .sl [.sc (.int .i64), .sc (.str), .sc (.str)], .sc (.int .i64), .sl [.sc (.int .i64)]] [], .dz [.sc (.int .i64), .sc (.bool)] [], .sc (.int .i64) (.l []), .dz [.sc (.int .i64), .sl [.sc (.int .i64), .sc (.int .i64), .sl [.sc (.int .i64), .sc (.str), .sc (.str)]], .sc (.int .i64), .sl [.sc (.str), .sc (.str)], .sl [.sc (.int .i64), .sc (.int .i64), .sl [.sc (.int .i64), .sc (.str), .sc (.str)]]] [], .dz [.sc (.int .i64), .sc (.int .i64), .sc (.int .i64), .sl [.sc (.int .i64), .sc (.str), .sc (.str)], .sc (.bool)] [], .dz [.sc (.int .i64), .sc (.int .i64), .sc (.int .i64), .sl [.sc (.int .i64), .sc (.str), .sc (.str)], .sc (.bool)] [], .dz [.sc (.int .i64), .sl [.sc (.int .i64), .sc (.str), .sc (.str)]] []]]
noncomputable def impl_Promised_w (m : Nat) (vs : List T) (k : Ret → An) : An := impl_Promised m (vs.headD dflt) (vs.tail.headD dflt) (vs.tail.tail.headD dflt) (vs.tail.tail.tail.headD dflt) (vs.tail.tail.tail.tail.headD dflt) (vs.tail.tail.tail.tail.tail.headD dflt) (vs.tail.tail.tail.tail.tail.tail.headD dflt) (vs.tail.tail.tail.tail.tail.tail.tail.headD dflt) (vs.tail.tail.tail.tail.tail.tail.tail.tail.headD dflt) (vs.tail.tail.tail.tail.tail.tail.tail.tail.tail.headD dflt) (fun z0 => k ⟨[.one (.sc (.bool) z0)], [[none, none, none, none, none, none, none, none, none, none]], [none]⟩)
theorem impl_Promised_cf (m : Nat) : callK CX prims m = (patC 71 impl_World_orderAt_a (impl_World_orderAt_w m) (patC 72 impl_ShardsOf_a (impl_ShardsOf_w m) (patC 73 impl_Shard_isPromised_a (impl_Shard_isPromised_w m) (callK CX prims m)))) := by
  rw [← patC_eq (fun vs k => impl_Shard_isPromised_eq m vs k), ← patC_eq (fun vs k => impl_ShardsOf_eq m vs k), ← patC_eq (fun vs k => impl_World_orderAt_eq m vs k)]
noncomputable def impl_Promised_c : Code := (Try.f33.body).getD .skip
noncomputable def impl_Promised_fi : Fi := ⟨33, 1, 56, 4⟩
theorem impl_Promised_lf (m : Nat) : ∀ n, (∀ vs k, loopK CX (callK CX prims m) impl_Promised_fi impl_Promised_c n [0, 1, 0, 1] (fPack impl_Promised_s0_0 vs) k = impl_Promised_L0_0w m n vs k) ∧ (∀ vs k, loopK CX (callK CX prims m) impl_Promised_fi impl_Promised_c n [0, 1, 1, 1, 1, 1, 0, 0, 1, 1, 0, 0, 1, 0, 1] (fPack impl_Promised_s1_0 vs) k = impl_Promised_L1_0w m n vs k) ∧ ((loopK CX (callK CX prims m) impl_Promised_fi impl_Promised_c n) = (patL [0, 1, 0, 1] impl_Promised_s0_0 (impl_Promised_L0_0w m n) (patL [0, 1, 1, 1, 1, 1, 0, 0, 1, 1, 0, 0, 1, 0, 1] impl_Promised_s1_0 (impl_Promised_L1_0w m n) (loopK CX (callK CX prims m) impl_Promised_fi impl_Promised_c n)))) := by
  intro n
  have hl : ∀ n, (∀ vs k, loopK CX (callK CX prims m) impl_Promised_fi impl_Promised_c n [0, 1, 0, 1] (fPack impl_Promised_s0_0 vs) k = impl_Promised_L0_0w m n vs k) → (∀ vs k, loopK CX (callK CX prims m) impl_Promised_fi impl_Promised_c n [0, 1, 1, 1, 1, 1, 0, 0, 1, 1, 0, 0, 1, 0, 1] (fPack impl_Promised_s1_0 vs) k = impl_Promised_L1_0w m n vs k) → ((loopK CX (callK CX prims m) impl_Promised_fi impl_Promised_c n) = (patL [0, 1, 0, 1] impl_Promised_s0_0 (impl_Promised_L0_0w m n) (patL [0, 1, 1, 1, 1, 1, 0, 0, 1, 1, 0, 0, 1, 0, 1] impl_Promised_s1_0 (impl_Promised_L1_0w m n) (loopK CX (callK CX prims m) impl_Promised_fi impl_Promised_c n)))) := by
    intro n h0 h1
    rw [← patL_eq h1, ← patL_eq h0]
  induction n with
  | zero => exact ⟨fun vs k => rfl, fun vs k => rfl, hl 0 (fun vs k => rfl) (fun vs k => rfl)⟩
  | succ n ihn =>
    have hn := ihn.2.2
    have h0 : ∀ vs k, loopK CX (callK CX prims m) impl_Promised_fi impl_Promised_c (n + 1) [0, 1, 0, 1] (fPack impl_Promised_s0_0 vs) k = impl_Promised_L0_0w m (n + 1) vs k := fun vs k =>
      (stepL_congr (impl_Promised_cf m) hn [0, 1, 0, 1] _ _).trans (by kernel_rfl)
    have h1 : ∀ vs k, loopK CX (callK CX prims m) impl_Promised_fi impl_Promised_c (n + 1) [0, 1, 1, 1, 1, 1, 0, 0, 1, 1, 0, 0, 1, 0, 1] (fPack impl_Promised_s1_0 vs) k = impl_Promised_L1_0w m (n + 1) vs k := fun vs k =>
      (stepL_congr (impl_Promised_cf m) hn [0, 1, 1, 1, 1, 1, 0, 0, 1, 1, 0, 0, 1, 0, 1] _ _).trans (by kernel_rfl)
    exact ⟨h0, h1, hl (n + 1) h0 h1⟩
theorem impl_Promised_eq (m : Nat) : ∀ vs k, callK CX prims m 33 (fArgs impl_Promised_a vs) k = impl_Promised_w m vs k := by
  cases m with
  | zero => exact fun vs k => rfl
  | succ m => exact fun vs k => Eq.trans (b := bodyK CX (callK CX prims m) (loopK CX (callK CX prims m) impl_Promised_fi impl_Promised_c m) 33 Try.f33 impl_Promised_c (fArgs impl_Promised_a vs) k) (by kernel_rfl) ((bodyK_congr (impl_Promised_cf m) ((impl_Promised_lf m m).2.2) 33 Try.f33 impl_Promised_c (fArgs impl_Promised_a vs) k).trans (by kernel_rfl))

/-! loop.example/g00244/laws.eqOp -/
noncomputable def laws_eqOp : Nat → T → T → T → T → T → T → (T → An) → An
  | 0, _, _, _, _, _, _, _ => .bad
  | m + 1, x0, x1, x2, x3, x4, x5, k0 =>
    cond (x0.int != x3.int)
    (k0 (T.b false))
    (cond (!(x1.str.toList == x4.str.toList))
    (k0 (T.b false))
    (cond (!(x2.str.toList == x5.str.toList))
    (k0 (T.b false))
    (k0 (T.b true))))
noncomputable def laws_eqOp_a : List Arg := [.agg [.sc (.int .i64) (.l []), .sc (.str) (.l []), .sc (.str) (.l [])], .agg [.sc (.int .i64) (.l []), .sc (.str) (.l []), .sc (.str) (.l [])]]
noncomputable def laws_eqOp_w (m : Nat) (vs : List T) (k : Ret → An) : An := laws_eqOp m (vs.headD dflt) (vs.tail.headD dflt) (vs.tail.tail.headD dflt) (vs.tail.tail.tail.headD dflt) (vs.tail.tail.tail.tail.headD dflt) (vs.tail.tail.tail.tail.tail.headD dflt) (fun z0 => k ⟨[.one (.sc (.bool) z0)], [[none, none, none], [none, none, none]], [none, none]⟩)
theorem laws_eqOp_cf (m : Nat) : callK CX prims m = (callK CX prims m) := by
  rfl
noncomputable def laws_eqOp_c : Code := (Try.f154.body).getD .skip
noncomputable def laws_eqOp_fi : Fi := ⟨154, 2, 20, 16⟩
theorem laws_eqOp_eq (m : Nat) : ∀ vs k, callK CX prims m 154 (fArgs laws_eqOp_a vs) k = laws_eqOp_w m vs k := by
  cases m with
  | zero => exact fun vs k => rfl
  | succ m => exact fun vs k => Eq.trans (b := bodyK CX (callK CX prims m) (loopK CX (callK CX prims m) laws_eqOp_fi laws_eqOp_c m) 154 Try.f154 laws_eqOp_c (fArgs laws_eqOp_a vs) k) (by kernel_rfl) ((bodyK_congr (laws_eqOp_cf m) rfl 154 Try.f154 laws_eqOp_c (fArgs laws_eqOp_a vs) k).trans (by kernel_rfl))

/-! loop.example/g00244/laws.eqOpS -/
noncomputable def laws_eqOpS_L0_0 (m : Nat) : Nat → T → T → T → (T → An) → An → An
  | 0, _, _, _, _, _ => .bad
  | n + 1, x0, x1, x2, k0, k1 =>
    cond (decide (x2.int < (x0.rows.length : Int)))
    (cond (decide ((0 : Int) ≤ x2.int ∧ x2.int < (x0.rows.length : Int)))
    (cond (decide ((0 : Int) ≤ x2.int ∧ x2.int < (x1.rows.length : Int)))
    (laws_eqOp m ((x0.rows.getD (Int.toNat x2.int) []).getD 0 dflt) ((x0.rows.getD (Int.toNat x2.int) []).getD 1 dflt) ((x0.rows.getD (Int.toNat x2.int) []).getD 2 dflt) ((x1.rows.getD (Int.toNat x2.int) []).getD 0 dflt) ((x1.rows.getD (Int.toNat x2.int) []).getD 1 dflt) ((x1.rows.getD (Int.toNat x2.int) []).getD 2 dflt)
    (fun y0 => cond (!y0.bool)
    (k0 (T.b false))
    (laws_eqOpS_L0_0 m n x0 x1 (T.i (IntKind.i64.wrap (x2.int + 1))) k0 k1)))
    (.bad))
    (.bad))
    (k1 )
noncomputable def laws_eqOpS_s0_0 : Pack := ⟨[(0, .one ⟨.sn [([4000000], 0)], .sl [.sc (.int .i64), .sc (.str), .sc (.str)], .l []⟩), (1, .one ⟨.sn [([4000000], 0)], .sl [.sc (.int .i64), .sc (.str), .sc (.str)], .l []⟩), (5, .one ⟨.sc, .sc (.int .i64), .l []⟩)], [([4000000], .gone)]⟩
noncomputable def laws_eqOpS_e0_0 : Pack := ⟨[(4, .one ⟨.sc, .sc (.bool), .l []⟩)], []⟩
noncomputable def laws_eqOpS_e0_1 : Pack := ⟨[], []⟩
noncomputable def laws_eqOpS_L0_0w (m n : Nat) (vs : List T) (k : Ctl → Pack → An) : An := laws_eqOpS_L0_0 m n (vs.headD dflt) (vs.tail.headD dflt) (vs.tail.tail.headD dflt) (fun z0 => k .ret (fPack laws_eqOpS_e0_0 [z0])) (k (.exit 0) (fPack laws_eqOpS_e0_1 []))
noncomputable def laws_eqOpS : Nat → T → T → (T → An) → An
  | 0, _, _, _ => .bad
  | m + 1, x0, x1, k0 =>
    cond ((x0.rows.length : Int) != (x1.rows.length : Int))
    (k0 (T.b false))
    (laws_eqOpS_L0_0 m m (T.l x0.rows) (T.l x1.rows) (T.i 0)
    (fun y1 => k0 y1)
    (k0 (T.b true)))
noncomputable def laws_eqOpS_a : List Arg := [.one (.dz [.sc (.int .i64), .sc (.str), .sc (.str)] []), .one (.dz [.sc (.int .i64), .sc (.str), .sc (.str)] [])]
noncomputable def laws_eqOpS_w (m : Nat) (vs : List T) (k : Ret → An) : An := laws_eqOpS m (vs.headD dflt) (vs.tail.headD dflt) (fun z0 => k ⟨[.one (.sc (.bool) z0)], [[none], [none]], [none, none]⟩)
theorem laws_eqOpS_cf (m : Nat) : callK CX prims m = (patC 154 laws_eqOp_a (laws_eqOp_w m) (callK CX prims m)) := by
  rw [← patC_eq (fun vs k => laws_eqOp_eq m vs k)]
noncomputable def laws_eqOpS_c : Code := (Try.f126.body).getD .skip
noncomputable def laws_eqOpS_fi : Fi := ⟨126, 2, 27, 16⟩
theorem laws_eqOpS_lf (m : Nat) : ∀ n, (∀ vs k, loopK CX (callK CX prims m) laws_eqOpS_fi laws_eqOpS_c n [0, 1, 0, 1, 1] (fPack laws_eqOpS_s0_0 vs) k = laws_eqOpS_L0_0w m n vs k) ∧ ((loopK CX (callK CX prims m) laws_eqOpS_fi laws_eqOpS_c n) = (patL [0, 1, 0, 1, 1] laws_eqOpS_s0_0 (laws_eqOpS_L0_0w m n) (loopK CX (callK CX prims m) laws_eqOpS_fi laws_eqOpS_c n))) := by
  intro n
  have hl : ∀ n, (∀ vs k, loopK CX (callK CX prims m) laws_eqOpS_fi laws_eqOpS_c n [0, 1, 0, 1, 1] (fPack laws_eqOpS_s0_0 vs) k = laws_eqOpS_L0_0w m n vs k) → ((loopK CX (callK CX prims m) laws_eqOpS_fi laws_eqOpS_c n) = (patL [0, 1, 0, 1, 1] laws_eqOpS_s0_0 (laws_eqOpS_L0_0w m n) (loopK CX (callK CX prims m) laws_eqOpS_fi laws_eqOpS_c n))) := by
    intro n h0
    rw [← patL_eq h0]
  induction n with
  | zero => exact ⟨fun vs k => rfl, hl 0 (fun vs k => rfl)⟩
  | succ n ihn =>
    have hn := ihn.2
    have h0 : ∀ vs k, loopK CX (callK CX prims m) laws_eqOpS_fi laws_eqOpS_c (n + 1) [0, 1, 0, 1, 1] (fPack laws_eqOpS_s0_0 vs) k = laws_eqOpS_L0_0w m (n + 1) vs k := fun vs k =>
      (stepL_congr (laws_eqOpS_cf m) hn [0, 1, 0, 1, 1] _ _).trans (by kernel_rfl)
    exact ⟨h0, hl (n + 1) h0⟩
theorem laws_eqOpS_eq (m : Nat) : ∀ vs k, callK CX prims m 126 (fArgs laws_eqOpS_a vs) k = laws_eqOpS_w m vs k := by
  cases m with
  | zero => exact fun vs k => rfl
  | succ m => exact fun vs k => Eq.trans (b := bodyK CX (callK CX prims m) (loopK CX (callK CX prims m) laws_eqOpS_fi laws_eqOpS_c m) 126 Try.f126 laws_eqOpS_c (fArgs laws_eqOpS_a vs) k) (by kernel_rfl) ((bodyK_congr (laws_eqOpS_cf m) ((laws_eqOpS_lf m m).2) 126 Try.f126 laws_eqOpS_c (fArgs laws_eqOpS_a vs) k).trans (by kernel_rfl))

/-! loop.example/g00244/laws.eqIntS -/
noncomputable def laws_eqIntS_L0_0 (m : Nat) : Nat → T → T → T → (T → An) → An → An
  | 0, _, _, _, _, _ => .bad
  | n + 1, x0, x1, x2, k0, k1 =>
    cond (decide (x2.int < (x0.rows.length : Int)))
    (cond (decide ((0 : Int) ≤ x2.int ∧ x2.int < (x0.rows.length : Int)))
    (cond (decide ((0 : Int) ≤ x2.int ∧ x2.int < (x1.rows.length : Int)))
    (cond (((x0.rows.getD (Int.toNat x2.int) []).getD 0 dflt).int != ((x1.rows.getD (Int.toNat x2.int) []).getD 0 dflt).int)
    (k0 (T.b false))
    (laws_eqIntS_L0_0 m n x0 x1 (T.i (IntKind.i64.wrap (x2.int + 1))) k0 k1))
    (.bad))
    (.bad))
    (k1 )
noncomputable def laws_eqIntS_s0_0 : Pack := ⟨[(0, .one ⟨.sn [([4000000], 0)], .sl [.sc (.int .i64)], .l []⟩), (1, .one ⟨.sn [([4000000], 0)], .sl [.sc (.int .i64)], .l []⟩), (5, .one ⟨.sc, .sc (.int .i64), .l []⟩)], [([4000000], .gone)]⟩
noncomputable def laws_eqIntS_e0_0 : Pack := ⟨[(4, .one ⟨.sc, .sc (.bool), .l []⟩)], []⟩
noncomputable def laws_eqIntS_e0_1 : Pack := ⟨[], []⟩
noncomputable def laws_eqIntS_L0_0w (m n : Nat) (vs : List T) (k : Ctl → Pack → An) : An := laws_eqIntS_L0_0 m n (vs.headD dflt) (vs.tail.headD dflt) (vs.tail.tail.headD dflt) (fun z0 => k .ret (fPack laws_eqIntS_e0_0 [z0])) (k (.exit 0) (fPack laws_eqIntS_e0_1 []))
noncomputable def laws_eqIntS : Nat → T → T → (T → An) → An
  | 0, _, _, _ => .bad
  | m + 1, x0, x1, k0 =>
    cond ((x0.rows.length : Int) != (x1.rows.length : Int))
    (k0 (T.b false))
    (laws_eqIntS_L0_0 m m (T.l x0.rows) (T.l x1.rows) (T.i 0)
    (fun y0 => k0 y0)
    (k0 (T.b true)))
noncomputable def laws_eqIntS_a : List Arg := [.one (.dz [.sc (.int .i64)] []), .one (.dz [.sc (.int .i64)] [])]
noncomputable def laws_eqIntS_w (m : Nat) (vs : List T) (k : Ret → An) : An := laws_eqIntS m (vs.headD dflt) (vs.tail.headD dflt) (fun z0 => k ⟨[.one (.sc (.bool) z0)], [[none], [none]], [none, none]⟩)
theorem laws_eqIntS_cf (m : Nat) : callK CX prims m = (callK CX prims m) := by
  rfl
noncomputable def laws_eqIntS_c : Code := (Try.f152.body).getD .skip
noncomputable def laws_eqIntS_fi : Fi := ⟨152, 2, 26, 16⟩
theorem laws_eqIntS_lf (m : Nat) : ∀ n, (∀ vs k, loopK CX (callK CX prims m) laws_eqIntS_fi laws_eqIntS_c n [0, 1, 0, 1, 1] (fPack laws_eqIntS_s0_0 vs) k = laws_eqIntS_L0_0w m n vs k) ∧ ((loopK CX (callK CX prims m) laws_eqIntS_fi laws_eqIntS_c n) = (patL [0, 1, 0, 1, 1] laws_eqIntS_s0_0 (laws_eqIntS_L0_0w m n) (loopK CX (callK CX prims m) laws_eqIntS_fi laws_eqIntS_c n))) := by
  intro n
  have hl : ∀ n, (∀ vs k, loopK CX (callK CX prims m) laws_eqIntS_fi laws_eqIntS_c n [0, 1, 0, 1, 1] (fPack laws_eqIntS_s0_0 vs) k = laws_eqIntS_L0_0w m n vs k) → ((loopK CX (callK CX prims m) laws_eqIntS_fi laws_eqIntS_c n) = (patL [0, 1, 0, 1, 1] laws_eqIntS_s0_0 (laws_eqIntS_L0_0w m n) (loopK CX (callK CX prims m) laws_eqIntS_fi laws_eqIntS_c n))) := by
    intro n h0
    rw [← patL_eq h0]
  induction n with
  | zero => exact ⟨fun vs k => rfl, hl 0 (fun vs k => rfl)⟩
  | succ n ihn =>
    have hn := ihn.2
    have h0 : ∀ vs k, loopK CX (callK CX prims m) laws_eqIntS_fi laws_eqIntS_c (n + 1) [0, 1, 0, 1, 1] (fPack laws_eqIntS_s0_0 vs) k = laws_eqIntS_L0_0w m (n + 1) vs k := fun vs k =>
      (stepL_congr (laws_eqIntS_cf m) hn [0, 1, 0, 1, 1] _ _).trans (by kernel_rfl)
    exact ⟨h0, hl (n + 1) h0⟩
theorem laws_eqIntS_eq (m : Nat) : ∀ vs k, callK CX prims m 152 (fArgs laws_eqIntS_a vs) k = laws_eqIntS_w m vs k := by
  cases m with
  | zero => exact fun vs k => rfl
  | succ m => exact fun vs k => Eq.trans (b := bodyK CX (callK CX prims m) (loopK CX (callK CX prims m) laws_eqIntS_fi laws_eqIntS_c m) 152 Try.f152 laws_eqIntS_c (fArgs laws_eqIntS_a vs) k) (by kernel_rfl) ((bodyK_congr (laws_eqIntS_cf m) ((laws_eqIntS_lf m m).2) 152 Try.f152 laws_eqIntS_c (fArgs laws_eqIntS_a vs) k).trans (by kernel_rfl))

/-! loop.example/g00244/laws.eqJob -/
noncomputable def laws_eqJob : Nat → T → T → T → T → T → T → T → T → (T → An) → An
  | 0, _, _, _, _, _, _, _, _, _ => .bad
  | m + 1, x0, x1, x2, x3, x4, x5, x6, x7, k0 =>
    cond (x0.int != x4.int)
    (k0 (T.b false))
    (laws_eqOpS m (T.l x1.rows) (T.l x5.rows)
    (fun y0 => cond (!y0.bool)
    (k0 (T.b false))
    (cond (x2.int != x6.int)
    (k0 (T.b false))
    (laws_eqIntS m (T.l x3.rows) (T.l x7.rows)
    (fun y1 => cond (!y1.bool)
    (k0 (T.b false))
    (k0 (T.b true)))))))
noncomputable def laws_eqJob_a : List Arg := [.agg [.sc (.int .i64) (.l []), .dz [.sc (.int .i64), .sc (.str), .sc (.str)] [], .sc (.int .i64) (.l []), .dz [.sc (.int .i64)] []], .agg [.sc (.int .i64) (.l []), .dz [.sc (.int .i64), .sc (.str), .sc (.str)] [], .sc (.int .i64) (.l []), .dz [.sc (.int .i64)] []]]
noncomputable def laws_eqJob_w (m : Nat) (vs : List T) (k : Ret → An) : An := laws_eqJob m (vs.headD dflt) (vs.tail.headD dflt) (vs.tail.tail.headD dflt) (vs.tail.tail.tail.headD dflt) (vs.tail.tail.tail.tail.headD dflt) (vs.tail.tail.tail.tail.tail.headD dflt) (vs.tail.tail.tail.tail.tail.tail.headD dflt) (vs.tail.tail.tail.tail.tail.tail.tail.headD dflt) (fun z0 => k ⟨[.one (.sc (.bool) z0)], [[none, none, none, none], [none, none, none, none]], [none, none]⟩)
theorem laws_eqJob_cf (m : Nat) : callK CX prims m = (patC 126 laws_eqOpS_a (laws_eqOpS_w m) (patC 152 laws_eqIntS_a (laws_eqIntS_w m) (callK CX prims m))) := by
  rw [← patC_eq (fun vs k => laws_eqIntS_eq m vs k), ← patC_eq (fun vs k => laws_eqOpS_eq m vs k)]
noncomputable def laws_eqJob_c : Code := (Try.f123.body).getD .skip
noncomputable def laws_eqJob_fi : Fi := ⟨123, 2, 27, 16⟩
theorem laws_eqJob_eq (m : Nat) : ∀ vs k, callK CX prims m 123 (fArgs laws_eqJob_a vs) k = laws_eqJob_w m vs k := by
  cases m with
  | zero => exact fun vs k => rfl
  | succ m => exact fun vs k => Eq.trans (b := bodyK CX (callK CX prims m) (loopK CX (callK CX prims m) laws_eqJob_fi laws_eqJob_c m) 123 Try.f123 laws_eqJob_c (fArgs laws_eqJob_a vs) k) (by kernel_rfl) ((bodyK_congr (laws_eqJob_cf m) rfl 123 Try.f123 laws_eqJob_c (fArgs laws_eqJob_a vs) k).trans (by kernel_rfl))

/-! loop.example/g00244/laws.eqJobS -/
noncomputable def laws_eqJobS_L0_0 (m : Nat) : Nat → T → T → T → (T → An) → An → An
  | 0, _, _, _, _, _ => .bad
  | n + 1, x0, x1, x2, k0, k1 =>
    cond (decide (x2.int < (x0.rows.length : Int)))
    (cond (decide ((0 : Int) ≤ x2.int ∧ x2.int < (x0.rows.length : Int)))
    (cond (decide ((0 : Int) ≤ x2.int ∧ x2.int < (x1.rows.length : Int)))
    (laws_eqJob m ((x0.rows.getD (Int.toNat x2.int) []).getD 0 dflt) (T.l ((x0.rows.getD (Int.toNat x2.int) []).getD 1 dflt).rows) ((x0.rows.getD (Int.toNat x2.int) []).getD 2 dflt) (T.l ((x0.rows.getD (Int.toNat x2.int) []).getD 3 dflt).rows) ((x1.rows.getD (Int.toNat x2.int) []).getD 0 dflt) (T.l ((x1.rows.getD (Int.toNat x2.int) []).getD 1 dflt).rows) ((x1.rows.getD (Int.toNat x2.int) []).getD 2 dflt) (T.l ((x1.rows.getD (Int.toNat x2.int) []).getD 3 dflt).rows)
    (fun y0 => cond (!y0.bool)
    (k0 (T.b false))
    (laws_eqJobS_L0_0 m n x0 x1 (T.i (IntKind.i64.wrap (x2.int + 1))) k0 k1)))
    (.bad))
    (.bad))
    (k1 )
noncomputable def laws_eqJobS_s0_0 : Pack := ⟨[(0, .one ⟨.sn [([4000000], 0)], .sl [.sc (.int .i64), .sl [.sc (.int .i64), .sc (.str), .sc (.str)], .sc (.int .i64), .sl [.sc (.int .i64)]], .l []⟩), (1, .one ⟨.sn [([4000000], 0)], .sl [.sc (.int .i64), .sl [.sc (.int .i64), .sc (.str), .sc (.str)], .sc (.int .i64), .sl [.sc (.int .i64)]], .l []⟩), (5, .one ⟨.sc, .sc (.int .i64), .l []⟩)], [([4000000], .gone)]⟩
noncomputable def laws_eqJobS_e0_0 : Pack := ⟨[(4, .one ⟨.sc, .sc (.bool), .l []⟩)], []⟩
noncomputable def laws_eqJobS_e0_1 : Pack := ⟨[], []⟩
noncomputable def laws_eqJobS_L0_0w (m n : Nat) (vs : List T) (k : Ctl → Pack → An) : An := laws_eqJobS_L0_0 m n (vs.headD dflt) (vs.tail.headD dflt) (vs.tail.tail.headD dflt) (fun z0 => k .ret (fPack laws_eqJobS_e0_0 [z0])) (k (.exit 0) (fPack laws_eqJobS_e0_1 []))
noncomputable def laws_eqJobS : Nat → T → T → (T → An) → An
  | 0, _, _, _ => .bad
  | m + 1, x0, x1, k0 =>
    cond ((x0.rows.length : Int) != (x1.rows.length : Int))
    (k0 (T.b false))
    (laws_eqJobS_L0_0 m m (T.l x0.rows) (T.l x1.rows) (T.i 0)
    (fun y1 => k0 y1)
    (k0 (T.b true)))
noncomputable def laws_eqJobS_a : List Arg := [.one (.dz [.sc (.int .i64), .sl [.sc (.int .i64), .sc (.str), .sc (.str)], .sc (.int .i64), .sl [.sc (.int .i64)]] []), .one (.dz [.sc (.int .i64), .sl [.sc (.int .i64), .sc (.str), .sc (.str)], .sc (.int .i64), .sl [.sc (.int .i64)]] [])]
noncomputable def laws_eqJobS_w (m : Nat) (vs : List T) (k : Ret → An) : An := laws_eqJobS m (vs.headD dflt) (vs.tail.headD dflt) (fun z0 => k ⟨[.one (.sc (.bool) z0)], [[none], [none]], [none, none]⟩)
theorem laws_eqJobS_cf (m : Nat) : callK CX prims m = (patC 123 laws_eqJob_a (laws_eqJob_w m) (callK CX prims m)) := by
  rw [← patC_eq (fun vs k => laws_eqJob_eq m vs k)]
noncomputable def laws_eqJobS_c : Code := (Try.f86.body).getD .skip
noncomputable def laws_eqJobS_fi : Fi := ⟨86, 2, 27, 16⟩
theorem laws_eqJobS_lf (m : Nat) : ∀ n, (∀ vs k, loopK CX (callK CX prims m) laws_eqJobS_fi laws_eqJobS_c n [0, 1, 0, 1, 1] (fPack laws_eqJobS_s0_0 vs) k = laws_eqJobS_L0_0w m n vs k) ∧ ((loopK CX (callK CX prims m) laws_eqJobS_fi laws_eqJobS_c n) = (patL [0, 1, 0, 1, 1] laws_eqJobS_s0_0 (laws_eqJobS_L0_0w m n) (loopK CX (callK CX prims m) laws_eqJobS_fi laws_eqJobS_c n))) := by
  intro n
  have hl : ∀ n, (∀ vs k, loopK CX (callK CX prims m) laws_eqJobS_fi laws_eqJobS_c n [0, 1, 0, 1, 1] (fPack laws_eqJobS_s0_0 vs) k = laws_eqJobS_L0_0w m n vs k) → ((loopK CX (callK CX prims m) laws_eqJobS_fi laws_eqJobS_c n) = (patL [0, 1, 0, 1, 1] laws_eqJobS_s0_0 (laws_eqJobS_L0_0w m n) (loopK CX (callK CX prims m) laws_eqJobS_fi laws_eqJobS_c n))) := by
    intro n h0
    rw [← patL_eq h0]
  induction n with
  | zero => exact ⟨fun vs k => rfl, hl 0 (fun vs k => rfl)⟩
  | succ n ihn =>
    have hn := ihn.2
    have h0 : ∀ vs k, loopK CX (callK CX prims m) laws_eqJobS_fi laws_eqJobS_c (n + 1) [0, 1, 0, 1, 1] (fPack laws_eqJobS_s0_0 vs) k = laws_eqJobS_L0_0w m (n + 1) vs k := fun vs k =>
      (stepL_congr (laws_eqJobS_cf m) hn [0, 1, 0, 1, 1] _ _).trans (by kernel_rfl)
    exact ⟨h0, hl (n + 1) h0⟩
theorem laws_eqJobS_eq (m : Nat) : ∀ vs k, callK CX prims m 86 (fArgs laws_eqJobS_a vs) k = laws_eqJobS_w m vs k := by
  cases m with
  | zero => exact fun vs k => rfl
  | succ m => exact fun vs k => Eq.trans (b := bodyK CX (callK CX prims m) (loopK CX (callK CX prims m) laws_eqJobS_fi laws_eqJobS_c m) 86 Try.f86 laws_eqJobS_c (fArgs laws_eqJobS_a vs) k) (by kernel_rfl) ((bodyK_congr (laws_eqJobS_cf m) ((laws_eqJobS_lf m m).2) 86 Try.f86 laws_eqJobS_c (fArgs laws_eqJobS_a vs) k).trans (by kernel_rfl))

/-! loop.example/g00244/laws.eqChoice -/
noncomputable def laws_eqChoice : Nat → T → T → T → T → (T → An) → An
  | 0, _, _, _, _, _ => .bad
  | m + 1, x0, x1, x2, x3, k0 =>
    cond (x0.int != x2.int)
    (k0 (T.b false))
    (cond (!(x1.bool == x3.bool))
    (k0 (T.b false))
    (k0 (T.b true)))
noncomputable def laws_eqChoice_a : List Arg := [.agg [.sc (.int .i64) (.l []), .sc (.bool) (.l [])], .agg [.sc (.int .i64) (.l []), .sc (.bool) (.l [])]]
noncomputable def laws_eqChoice_w (m : Nat) (vs : List T) (k : Ret → An) : An := laws_eqChoice m (vs.headD dflt) (vs.tail.headD dflt) (vs.tail.tail.headD dflt) (vs.tail.tail.tail.headD dflt) (fun z0 => k ⟨[.one (.sc (.bool) z0)], [[none, none], [none, none]], [none, none]⟩)
theorem laws_eqChoice_cf (m : Nat) : callK CX prims m = (callK CX prims m) := by
  rfl
noncomputable def laws_eqChoice_c : Code := (Try.f124.body).getD .skip
noncomputable def laws_eqChoice_fi : Fi := ⟨124, 2, 15, 16⟩
theorem laws_eqChoice_eq (m : Nat) : ∀ vs k, callK CX prims m 124 (fArgs laws_eqChoice_a vs) k = laws_eqChoice_w m vs k := by
  cases m with
  | zero => exact fun vs k => rfl
  | succ m => exact fun vs k => Eq.trans (b := bodyK CX (callK CX prims m) (loopK CX (callK CX prims m) laws_eqChoice_fi laws_eqChoice_c m) 124 Try.f124 laws_eqChoice_c (fArgs laws_eqChoice_a vs) k) (by kernel_rfl) ((bodyK_congr (laws_eqChoice_cf m) rfl 124 Try.f124 laws_eqChoice_c (fArgs laws_eqChoice_a vs) k).trans (by kernel_rfl))

/-! loop.example/g00244/laws.eqChoiceS -/
noncomputable def laws_eqChoiceS_L0_0 (m : Nat) : Nat → T → T → T → (T → An) → An → An
  | 0, _, _, _, _, _ => .bad
  | n + 1, x0, x1, x2, k0, k1 =>
    cond (decide (x2.int < (x0.rows.length : Int)))
    (cond (decide ((0 : Int) ≤ x2.int ∧ x2.int < (x0.rows.length : Int)))
    (cond (decide ((0 : Int) ≤ x2.int ∧ x2.int < (x1.rows.length : Int)))
    (laws_eqChoice m ((x0.rows.getD (Int.toNat x2.int) []).getD 0 dflt) ((x0.rows.getD (Int.toNat x2.int) []).getD 1 dflt) ((x1.rows.getD (Int.toNat x2.int) []).getD 0 dflt) ((x1.rows.getD (Int.toNat x2.int) []).getD 1 dflt)
    (fun y0 => cond (!y0.bool)
    (k0 (T.b false))
    (laws_eqChoiceS_L0_0 m n x0 x1 (T.i (IntKind.i64.wrap (x2.int + 1))) k0 k1)))
    (.bad))
    (.bad))
    (k1 )
noncomputable def laws_eqChoiceS_s0_0 : Pack := ⟨[(0, .one ⟨.sn [([4000000], 0)], .sl [.sc (.int .i64), .sc (.bool)], .l []⟩), (1, .one ⟨.sn [([4000000], 0)], .sl [.sc (.int .i64), .sc (.bool)], .l []⟩), (5, .one ⟨.sc, .sc (.int .i64), .l []⟩)], [([4000000], .gone)]⟩
noncomputable def laws_eqChoiceS_e0_0 : Pack := ⟨[(4, .one ⟨.sc, .sc (.bool), .l []⟩)], []⟩
noncomputable def laws_eqChoiceS_e0_1 : Pack := ⟨[], []⟩
noncomputable def laws_eqChoiceS_L0_0w (m n : Nat) (vs : List T) (k : Ctl → Pack → An) : An := laws_eqChoiceS_L0_0 m n (vs.headD dflt) (vs.tail.headD dflt) (vs.tail.tail.headD dflt) (fun z0 => k .ret (fPack laws_eqChoiceS_e0_0 [z0])) (k (.exit 0) (fPack laws_eqChoiceS_e0_1 []))
noncomputable def laws_eqChoiceS : Nat → T → T → (T → An) → An
  | 0, _, _, _ => .bad
  | m + 1, x0, x1, k0 =>
    cond ((x0.rows.length : Int) != (x1.rows.length : Int))
    (k0 (T.b false))
    (laws_eqChoiceS_L0_0 m m (T.l x0.rows) (T.l x1.rows) (T.i 0)
    (fun y1 => k0 y1)
    (k0 (T.b true)))
noncomputable def laws_eqChoiceS_a : List Arg := [.one (.dz [.sc (.int .i64), .sc (.bool)] []), .one (.dz [.sc (.int .i64), .sc (.bool)] [])]
noncomputable def laws_eqChoiceS_w (m : Nat) (vs : List T) (k : Ret → An) : An := laws_eqChoiceS m (vs.headD dflt) (vs.tail.headD dflt) (fun z0 => k ⟨[.one (.sc (.bool) z0)], [[none], [none]], [none, none]⟩)
theorem laws_eqChoiceS_cf (m : Nat) : callK CX prims m = (patC 124 laws_eqChoice_a (laws_eqChoice_w m) (callK CX prims m)) := by
  rw [← patC_eq (fun vs k => laws_eqChoice_eq m vs k)]
noncomputable def laws_eqChoiceS_c : Code := (Try.f87.body).getD .skip
noncomputable def laws_eqChoiceS_fi : Fi := ⟨87, 2, 27, 16⟩
theorem laws_eqChoiceS_lf (m : Nat) : ∀ n, (∀ vs k, loopK CX (callK CX prims m) laws_eqChoiceS_fi laws_eqChoiceS_c n [0, 1, 0, 1, 1] (fPack laws_eqChoiceS_s0_0 vs) k = laws_eqChoiceS_L0_0w m n vs k) ∧ ((loopK CX (callK CX prims m) laws_eqChoiceS_fi laws_eqChoiceS_c n) = (patL [0, 1, 0, 1, 1] laws_eqChoiceS_s0_0 (laws_eqChoiceS_L0_0w m n) (loopK CX (callK CX prims m) laws_eqChoiceS_fi laws_eqChoiceS_c n))) := by
  intro n
  have hl : ∀ n, (∀ vs k, loopK CX (callK CX prims m) laws_eqChoiceS_fi laws_eqChoiceS_c n [0, 1, 0, 1, 1] (fPack laws_eqChoiceS_s0_0 vs) k = laws_eqChoiceS_L0_0w m n vs k) → ((loopK CX (callK CX prims m) laws_eqChoiceS_fi laws_eqChoiceS_c n) = (patL [0, 1, 0, 1, 1] laws_eqChoiceS_s0_0 (laws_eqChoiceS_L0_0w m n) (loopK CX (callK CX prims m) laws_eqChoiceS_fi laws_eqChoiceS_c n))) := by
    intro n h0
    rw [← patL_eq h0]
  induction n with
  | zero => exact ⟨fun vs k => rfl, hl 0 (fun vs k => rfl)⟩
  | succ n ihn =>
    have hn := ihn.2
    have h0 : ∀ vs k, loopK CX (callK CX prims m) laws_eqChoiceS_fi laws_eqChoiceS_c (n + 1) [0, 1, 0, 1, 1] (fPack laws_eqChoiceS_s0_0 vs) k = laws_eqChoiceS_L0_0w m (n + 1) vs k := fun vs k =>
      (stepL_congr (laws_eqChoiceS_cf m) hn [0, 1, 0, 1, 1] _ _).trans (by kernel_rfl)
    exact ⟨h0, hl (n + 1) h0⟩
theorem laws_eqChoiceS_eq (m : Nat) : ∀ vs k, callK CX prims m 87 (fArgs laws_eqChoiceS_a vs) k = laws_eqChoiceS_w m vs k := by
  cases m with
  | zero => exact fun vs k => rfl
  | succ m => exact fun vs k => Eq.trans (b := bodyK CX (callK CX prims m) (loopK CX (callK CX prims m) laws_eqChoiceS_fi laws_eqChoiceS_c m) 87 Try.f87 laws_eqChoiceS_c (fArgs laws_eqChoiceS_a vs) k) (by kernel_rfl) ((bodyK_congr (laws_eqChoiceS_cf m) ((laws_eqChoiceS_lf m m).2) 87 Try.f87 laws_eqChoiceS_c (fArgs laws_eqChoiceS_a vs) k).trans (by kernel_rfl))

/-! loop.example/g00244/laws.eqCoord -/
noncomputable def laws_eqCoord : Nat → T → T → T → T → T → T → T → T → T → T → T → T → (T → An) → An
  | 0, _, _, _, _, _, _, _, _, _, _, _, _, _ => .bad
  | m + 1, x0, x1, x2, x3, x4, x5, x6, x7, x8, x9, x10, x11, k0 =>
    cond (x0.int != x6.int)
    (k0 (T.b false))
    (cond (x1.int != x7.int)
    (k0 (T.b false))
    (cond (x2.int != x8.int)
    (k0 (T.b false))
    (laws_eqJobS m (T.l x3.rows) (T.l x9.rows)
    (fun y0 => cond (!y0.bool)
    (k0 (T.b false))
    (laws_eqChoiceS m (T.l x4.rows) (T.l x10.rows)
    (fun y1 => cond (!y1.bool)
    (k0 (T.b false))
    (cond (x5.int != x11.int)
    (k0 (T.b false))
    (k0 (T.b true)))))))))
noncomputable def laws_eqCoord_a : List Arg := [.agg [.sc (.int .i64) (.l []), .sc (.int .i64) (.l []), .sc (.int .i64) (.l []), .dz [.sc (.int .i64), .sl [.sc (.int .i64), .sc (.str), .sc (.str)], .sc (.int .i64), .sl [.sc (.int .i64)]] [], .dz [.sc (.int .i64), .sc (.bool)] [], .sc (.int .i64) (.l [])], .agg [.sc (.int .i64) (.l []), .sc (.int .i64) (.l []), .sc (.int .i64) (.l []), .dz [.sc (.int .i64), .sl [.sc (.int .i64), .sc (.str), .sc (.str)], .sc (.int .i64), .sl [.sc (.int .i64)]] [], .dz [.sc (.int .i64), .sc (.bool)] [], .sc (.int .i64) (.l [])]]
noncomputable def laws_eqCoord_w (m : Nat) (vs : List T) (k : Ret → An) : An := laws_eqCoord m (vs.headD dflt) (vs.tail.headD dflt) (vs.tail.tail.headD dflt) (vs.tail.tail.tail.headD dflt) (vs.tail.tail.tail.tail.headD dflt) (vs.tail.tail.tail.tail.tail.headD dflt) (vs.tail.tail.tail.tail.tail.tail.headD dflt) (vs.tail.tail.tail.tail.tail.tail.tail.headD dflt) (vs.tail.tail.tail.tail.tail.tail.tail.tail.headD dflt) (vs.tail.tail.tail.tail.tail.tail.tail.tail.tail.headD dflt) (vs.tail.tail.tail.tail.tail.tail.tail.tail.tail.tail.headD dflt) (vs.tail.tail.tail.tail.tail.tail.tail.tail.tail.tail.tail.headD dflt) (fun z0 => k ⟨[.one (.sc (.bool) z0)], [[none, none, none, none, none, none], [none, none, none, none, none, none]], [none, none]⟩)
theorem laws_eqCoord_cf (m : Nat) : callK CX prims m = (patC 86 laws_eqJobS_a (laws_eqJobS_w m) (patC 87 laws_eqChoiceS_a (laws_eqChoiceS_w m) (callK CX prims m))) := by
  rw [← patC_eq (fun vs k => laws_eqChoiceS_eq m vs k), ← patC_eq (fun vs k => laws_eqJobS_eq m vs k)]
noncomputable def laws_eqCoord_c : Code := (Try.f45.body).getD .skip
noncomputable def laws_eqCoord_fi : Fi := ⟨45, 2, 37, 16⟩
theorem laws_eqCoord_eq (m : Nat) : ∀ vs k, callK CX prims m 45 (fArgs laws_eqCoord_a vs) k = laws_eqCoord_w m vs k := by
  cases m with
  | zero => exact fun vs k => rfl
  | succ m => exact fun vs k => Eq.trans (b := bodyK CX (callK CX prims m) (loopK CX (callK CX prims m) laws_eqCoord_fi laws_eqCoord_c m) 45 Try.f45 laws_eqCoord_c (fArgs laws_eqCoord_a vs) k) (by kernel_rfl) ((bodyK_congr (laws_eqCoord_cf m) rfl 45 Try.f45 laws_eqCoord_c (fArgs laws_eqCoord_a vs) k).trans (by kernel_rfl))

/-! loop.example/g00244/laws.eqRec -/
noncomputable def laws_eqRec : Nat → T → T → T → T → T → T → (T → An) → An
  | 0, _, _, _, _, _, _, _ => .bad
  | m + 1, x0, x1, x2, x3, x4, x5, k0 =>
    cond (x0.int != x3.int)
    (k0 (T.b false))
    (cond (x1.int != x4.int)
    (k0 (T.b false))
    (laws_eqOpS m (T.l x2.rows) (T.l x5.rows)
    (fun y0 => cond (!y0.bool)
    (k0 (T.b false))
    (k0 (T.b true)))))
noncomputable def laws_eqRec_a : List Arg := [.agg [.sc (.int .i64) (.l []), .sc (.int .i64) (.l []), .dz [.sc (.int .i64), .sc (.str), .sc (.str)] []], .agg [.sc (.int .i64) (.l []), .sc (.int .i64) (.l []), .dz [.sc (.int .i64), .sc (.str), .sc (.str)] []]]
noncomputable def laws_eqRec_w (m : Nat) (vs : List T) (k : Ret → An) : An := laws_eqRec m (vs.headD dflt) (vs.tail.headD dflt) (vs.tail.tail.headD dflt) (vs.tail.tail.tail.headD dflt) (vs.tail.tail.tail.tail.headD dflt) (vs.tail.tail.tail.tail.tail.headD dflt) (fun z0 => k ⟨[.one (.sc (.bool) z0)], [[none, none, none], [none, none, none]], [none, none]⟩)
theorem laws_eqRec_cf (m : Nat) : callK CX prims m = (patC 126 laws_eqOpS_a (laws_eqOpS_w m) (callK CX prims m)) := by
  rw [← patC_eq (fun vs k => laws_eqOpS_eq m vs k)]
noncomputable def laws_eqRec_c : Code := (Try.f153.body).getD .skip
noncomputable def laws_eqRec_fi : Fi := ⟨153, 2, 21, 16⟩
theorem laws_eqRec_eq (m : Nat) : ∀ vs k, callK CX prims m 153 (fArgs laws_eqRec_a vs) k = laws_eqRec_w m vs k := by
  cases m with
  | zero => exact fun vs k => rfl
  | succ m => exact fun vs k => Eq.trans (b := bodyK CX (callK CX prims m) (loopK CX (callK CX prims m) laws_eqRec_fi laws_eqRec_c m) 153 Try.f153 laws_eqRec_c (fArgs laws_eqRec_a vs) k) (by kernel_rfl) ((bodyK_congr (laws_eqRec_cf m) rfl 153 Try.f153 laws_eqRec_c (fArgs laws_eqRec_a vs) k).trans (by kernel_rfl))

/-! loop.example/g00244/laws.eqRecS -/
noncomputable def laws_eqRecS_L0_0 (m : Nat) : Nat → T → T → T → (T → An) → An → An
  | 0, _, _, _, _, _ => .bad
  | n + 1, x0, x1, x2, k0, k1 =>
    cond (decide (x2.int < (x0.rows.length : Int)))
    (cond (decide ((0 : Int) ≤ x2.int ∧ x2.int < (x0.rows.length : Int)))
    (cond (decide ((0 : Int) ≤ x2.int ∧ x2.int < (x1.rows.length : Int)))
    (laws_eqRec m ((x0.rows.getD (Int.toNat x2.int) []).getD 0 dflt) ((x0.rows.getD (Int.toNat x2.int) []).getD 1 dflt) (T.l ((x0.rows.getD (Int.toNat x2.int) []).getD 2 dflt).rows) ((x1.rows.getD (Int.toNat x2.int) []).getD 0 dflt) ((x1.rows.getD (Int.toNat x2.int) []).getD 1 dflt) (T.l ((x1.rows.getD (Int.toNat x2.int) []).getD 2 dflt).rows)
    (fun y0 => cond (!y0.bool)
    (k0 (T.b false))
    (laws_eqRecS_L0_0 m n x0 x1 (T.i (IntKind.i64.wrap (x2.int + 1))) k0 k1)))
    (.bad))
    (.bad))
    (k1 )
noncomputable def laws_eqRecS_s0_0 : Pack := ⟨[(0, .one ⟨.sn [([4000000], 0)], .sl [.sc (.int .i64), .sc (.int .i64), .sl [.sc (.int .i64), .sc (.str), .sc (.str)]], .l []⟩), (1, .one ⟨.sn [([4000000], 0)], .sl [.sc (.int .i64), .sc (.int .i64), .sl [.sc (.int .i64), .sc (.str), .sc (.str)]], .l []⟩), (5, .one ⟨.sc, .sc (.int .i64), .l []⟩)], [([4000000], .gone)]⟩
noncomputable def laws_eqRecS_e0_0 : Pack := ⟨[(4, .one ⟨.sc, .sc (.bool), .l []⟩)], []⟩
noncomputable def laws_eqRecS_e0_1 : Pack := ⟨[], []⟩
noncomputable def laws_eqRecS_L0_0w (m n : Nat) (vs : List T) (k : Ctl → Pack → An) : An := laws_eqRecS_L0_0 m n (vs.headD dflt) (vs.tail.headD dflt) (vs.tail.tail.headD dflt) (fun z0 => k .ret (fPack laws_eqRecS_e0_0 [z0])) (k (.exit 0) (fPack laws_eqRecS_e0_1 []))
noncomputable def laws_eqRecS : Nat → T → T → (T → An) → An
  | 0, _, _, _ => .bad
  | m + 1, x0, x1, k0 =>
    cond ((x0.rows.length : Int) != (x1.rows.length : Int))
    (k0 (T.b false))
    (laws_eqRecS_L0_0 m m (T.l x0.rows) (T.l x1.rows) (T.i 0)
    (fun y1 => k0 y1)
    (k0 (T.b true)))
noncomputable def laws_eqRecS_a : List Arg := [.one (.dz [.sc (.int .i64), .sc (.int .i64), .sl [.sc (.int .i64), .sc (.str), .sc (.str)]] []), .one (.dz [.sc (.int .i64), .sc (.int .i64), .sl [.sc (.int .i64), .sc (.str), .sc (.str)]] [])]
noncomputable def laws_eqRecS_w (m : Nat) (vs : List T) (k : Ret → An) : An := laws_eqRecS m (vs.headD dflt) (vs.tail.headD dflt) (fun z0 => k ⟨[.one (.sc (.bool) z0)], [[none], [none]], [none, none]⟩)
theorem laws_eqRecS_cf (m : Nat) : callK CX prims m = (patC 153 laws_eqRec_a (laws_eqRec_w m) (callK CX prims m)) := by
  rw [← patC_eq (fun vs k => laws_eqRec_eq m vs k)]
noncomputable def laws_eqRecS_c : Code := (Try.f125.body).getD .skip
noncomputable def laws_eqRecS_fi : Fi := ⟨125, 2, 27, 16⟩
theorem laws_eqRecS_lf (m : Nat) : ∀ n, (∀ vs k, loopK CX (callK CX prims m) laws_eqRecS_fi laws_eqRecS_c n [0, 1, 0, 1, 1] (fPack laws_eqRecS_s0_0 vs) k = laws_eqRecS_L0_0w m n vs k) ∧ ((loopK CX (callK CX prims m) laws_eqRecS_fi laws_eqRecS_c n) = (patL [0, 1, 0, 1, 1] laws_eqRecS_s0_0 (laws_eqRecS_L0_0w m n) (loopK CX (callK CX prims m) laws_eqRecS_fi laws_eqRecS_c n))) := by
  intro n
  have hl : ∀ n, (∀ vs k, loopK CX (callK CX prims m) laws_eqRecS_fi laws_eqRecS_c n [0, 1, 0, 1, 1] (fPack laws_eqRecS_s0_0 vs) k = laws_eqRecS_L0_0w m n vs k) → ((loopK CX (callK CX prims m) laws_eqRecS_fi laws_eqRecS_c n) = (patL [0, 1, 0, 1, 1] laws_eqRecS_s0_0 (laws_eqRecS_L0_0w m n) (loopK CX (callK CX prims m) laws_eqRecS_fi laws_eqRecS_c n))) := by
    intro n h0
    rw [← patL_eq h0]
  induction n with
  | zero => exact ⟨fun vs k => rfl, hl 0 (fun vs k => rfl)⟩
  | succ n ihn =>
    have hn := ihn.2
    have h0 : ∀ vs k, loopK CX (callK CX prims m) laws_eqRecS_fi laws_eqRecS_c (n + 1) [0, 1, 0, 1, 1] (fPack laws_eqRecS_s0_0 vs) k = laws_eqRecS_L0_0w m (n + 1) vs k := fun vs k =>
      (stepL_congr (laws_eqRecS_cf m) hn [0, 1, 0, 1, 1] _ _).trans (by kernel_rfl)
    exact ⟨h0, hl (n + 1) h0⟩
theorem laws_eqRecS_eq (m : Nat) : ∀ vs k, callK CX prims m 125 (fArgs laws_eqRecS_a vs) k = laws_eqRecS_w m vs k := by
  cases m with
  | zero => exact fun vs k => rfl
  | succ m => exact fun vs k => Eq.trans (b := bodyK CX (callK CX prims m) (loopK CX (callK CX prims m) laws_eqRecS_fi laws_eqRecS_c m) 125 Try.f125 laws_eqRecS_c (fArgs laws_eqRecS_a vs) k) (by kernel_rfl) ((bodyK_congr (laws_eqRecS_cf m) ((laws_eqRecS_lf m m).2) 125 Try.f125 laws_eqRecS_c (fArgs laws_eqRecS_a vs) k).trans (by kernel_rfl))

/-! loop.example/g00244/laws.eqPair -/
noncomputable def laws_eqPair : Nat → T → T → T → T → (T → An) → An
  | 0, _, _, _, _, _ => .bad
  | m + 1, x0, x1, x2, x3, k0 =>
    cond (!(x0.str.toList == x2.str.toList))
    (k0 (T.b false))
    (cond (!(x1.str.toList == x3.str.toList))
    (k0 (T.b false))
    (k0 (T.b true)))
noncomputable def laws_eqPair_a : List Arg := [.agg [.sc (.str) (.l []), .sc (.str) (.l [])], .agg [.sc (.str) (.l []), .sc (.str) (.l [])]]
noncomputable def laws_eqPair_w (m : Nat) (vs : List T) (k : Ret → An) : An := laws_eqPair m (vs.headD dflt) (vs.tail.headD dflt) (vs.tail.tail.headD dflt) (vs.tail.tail.tail.headD dflt) (fun z0 => k ⟨[.one (.sc (.bool) z0)], [[none, none], [none, none]], [none, none]⟩)
theorem laws_eqPair_cf (m : Nat) : callK CX prims m = (callK CX prims m) := by
  rfl
noncomputable def laws_eqPair_c : Code := (Try.f44.body).getD .skip
noncomputable def laws_eqPair_fi : Fi := ⟨44, 2, 15, 16⟩
theorem laws_eqPair_eq (m : Nat) : ∀ vs k, callK CX prims m 44 (fArgs laws_eqPair_a vs) k = laws_eqPair_w m vs k := by
  cases m with
  | zero => exact fun vs k => rfl
  | succ m => exact fun vs k => Eq.trans (b := bodyK CX (callK CX prims m) (loopK CX (callK CX prims m) laws_eqPair_fi laws_eqPair_c m) 44 Try.f44 laws_eqPair_c (fArgs laws_eqPair_a vs) k) (by kernel_rfl) ((bodyK_congr (laws_eqPair_cf m) rfl 44 Try.f44 laws_eqPair_c (fArgs laws_eqPair_a vs) k).trans (by kernel_rfl))

/-! loop.example/g00244/laws.eqPairS -/
noncomputable def laws_eqPairS_L0_0 (m : Nat) : Nat → T → T → T → (T → An) → An → An
  | 0, _, _, _, _, _ => .bad
  | n + 1, x0, x1, x2, k0, k1 =>
    cond (decide (x2.int < (x0.rows.length : Int)))
    (cond (decide ((0 : Int) ≤ x2.int ∧ x2.int < (x0.rows.length : Int)))
    (cond (decide ((0 : Int) ≤ x2.int ∧ x2.int < (x1.rows.length : Int)))
    (laws_eqPair m ((x0.rows.getD (Int.toNat x2.int) []).getD 0 dflt) ((x0.rows.getD (Int.toNat x2.int) []).getD 1 dflt) ((x1.rows.getD (Int.toNat x2.int) []).getD 0 dflt) ((x1.rows.getD (Int.toNat x2.int) []).getD 1 dflt)
    (fun y0 => cond (!y0.bool)
    (k0 (T.b false))
    (laws_eqPairS_L0_0 m n x0 x1 (T.i (IntKind.i64.wrap (x2.int + 1))) k0 k1)))
    (.bad))
    (.bad))
    (k1 )
noncomputable def laws_eqPairS_s0_0 : Pack := ⟨[(0, .one ⟨.sn [([4000000], 0)], .sl [.sc (.str), .sc (.str)], .l []⟩), (1, .one ⟨.sn [([4000000], 0)], .sl [.sc (.str), .sc (.str)], .l []⟩), (5, .one ⟨.sc, .sc (.int .i64), .l []⟩)], [([4000000], .gone)]⟩
noncomputable def laws_eqPairS_e0_0 : Pack := ⟨[(4, .one ⟨.sc, .sc (.bool), .l []⟩)], []⟩
noncomputable def laws_eqPairS_e0_1 : Pack := ⟨[], []⟩
noncomputable def laws_eqPairS_L0_0w (m n : Nat) (vs : List T) (k : Ctl → Pack → An) : An := laws_eqPairS_L0_0 m n (vs.headD dflt) (vs.tail.headD dflt) (vs.tail.tail.headD dflt) (fun z0 => k .ret (fPack laws_eqPairS_e0_0 [z0])) (k (.exit 0) (fPack laws_eqPairS_e0_1 []))
noncomputable def laws_eqPairS : Nat → T → T → (T → An) → An
  | 0, _, _, _ => .bad
  | m + 1, x0, x1, k0 =>
    cond ((x0.rows.length : Int) != (x1.rows.length : Int))
    (k0 (T.b false))
    (laws_eqPairS_L0_0 m m (T.l x0.rows) (T.l x1.rows) (T.i 0)
    (fun y1 => k0 y1)
    (k0 (T.b true)))
noncomputable def laws_eqPairS_a : List Arg := [.one (.dz [.sc (.str), .sc (.str)] []), .one (.dz [.sc (.str), .sc (.str)] [])]
noncomputable def laws_eqPairS_w (m : Nat) (vs : List T) (k : Ret → An) : An := laws_eqPairS m (vs.headD dflt) (vs.tail.headD dflt) (fun z0 => k ⟨[.one (.sc (.bool) z0)], [[none], [none]], [none, none]⟩)
theorem laws_eqPairS_cf (m : Nat) : callK CX prims m = (patC 44 laws_eqPair_a (laws_eqPair_w m) (callK CX prims m)) := by
  rw [← patC_eq (fun vs k => laws_eqPair_eq m vs k)]
noncomputable def laws_eqPairS_c : Code := (Try.f11.body).getD .skip
noncomputable def laws_eqPairS_fi : Fi := ⟨11, 2, 27, 16⟩
theorem laws_eqPairS_lf (m : Nat) : ∀ n, (∀ vs k, loopK CX (callK CX prims m) laws_eqPairS_fi laws_eqPairS_c n [0, 1, 0, 1, 1] (fPack laws_eqPairS_s0_0 vs) k = laws_eqPairS_L0_0w m n vs k) ∧ ((loopK CX (callK CX prims m) laws_eqPairS_fi laws_eqPairS_c n) = (patL [0, 1, 0, 1, 1] laws_eqPairS_s0_0 (laws_eqPairS_L0_0w m n) (loopK CX (callK CX prims m) laws_eqPairS_fi laws_eqPairS_c n))) := by
  intro n
  have hl : ∀ n, (∀ vs k, loopK CX (callK CX prims m) laws_eqPairS_fi laws_eqPairS_c n [0, 1, 0, 1, 1] (fPack laws_eqPairS_s0_0 vs) k = laws_eqPairS_L0_0w m n vs k) → ((loopK CX (callK CX prims m) laws_eqPairS_fi laws_eqPairS_c n) = (patL [0, 1, 0, 1, 1] laws_eqPairS_s0_0 (laws_eqPairS_L0_0w m n) (loopK CX (callK CX prims m) laws_eqPairS_fi laws_eqPairS_c n))) := by
    intro n h0
    rw [← patL_eq h0]
  induction n with
  | zero => exact ⟨fun vs k => rfl, hl 0 (fun vs k => rfl)⟩
  | succ n ihn =>
    have hn := ihn.2
    have h0 : ∀ vs k, loopK CX (callK CX prims m) laws_eqPairS_fi laws_eqPairS_c (n + 1) [0, 1, 0, 1, 1] (fPack laws_eqPairS_s0_0 vs) k = laws_eqPairS_L0_0w m (n + 1) vs k := fun vs k =>
      (stepL_congr (laws_eqPairS_cf m) hn [0, 1, 0, 1, 1] _ _).trans (by kernel_rfl)
    exact ⟨h0, hl (n + 1) h0⟩
theorem laws_eqPairS_eq (m : Nat) : ∀ vs k, callK CX prims m 11 (fArgs laws_eqPairS_a vs) k = laws_eqPairS_w m vs k := by
  cases m with
  | zero => exact fun vs k => rfl
  | succ m => exact fun vs k => Eq.trans (b := bodyK CX (callK CX prims m) (loopK CX (callK CX prims m) laws_eqPairS_fi laws_eqPairS_c m) 11 Try.f11 laws_eqPairS_c (fArgs laws_eqPairS_a vs) k) (by kernel_rfl) ((bodyK_congr (laws_eqPairS_cf m) ((laws_eqPairS_lf m m).2) 11 Try.f11 laws_eqPairS_c (fArgs laws_eqPairS_a vs) k).trans (by kernel_rfl))

/-! loop.example/g00244/laws.eqShard -/
noncomputable def laws_eqShard : Nat → T → T → T → T → T → T → T → T → T → T → (T → An) → An
  | 0, _, _, _, _, _, _, _, _, _, _, _ => .bad
  | m + 1, x0, x1, x2, x3, x4, x5, x6, x7, x8, x9, k0 =>
    cond (x0.int != x5.int)
    (k0 (T.b false))
    (laws_eqRecS m (T.l x1.rows) (T.l x6.rows)
    (fun y0 => cond (!y0.bool)
    (k0 (T.b false))
    (cond (x2.int != x7.int)
    (k0 (T.b false))
    (laws_eqPairS m (T.l x3.rows) (T.l x8.rows)
    (fun y1 => cond (!y1.bool)
    (k0 (T.b false))
    (laws_eqRecS m (T.l x4.rows) (T.l x9.rows)
    (fun y2 => cond (!y2.bool)
    (k0 (T.b false))
    (k0 (T.b true)))))))))
noncomputable def laws_eqShard_a : List Arg := [.agg [.sc (.int .i64) (.l []), .dz [.sc (.int .i64), .sc (.int .i64), .sl [.sc (.int .i64), .sc (.str), .sc (.str)]] [], .sc (.int .i64) (.l []), .dz [.sc (.str), .sc (.str)] [], .dz [.sc (.int .i64), .sc (.int .i64), .sl [.sc (.int .i64), .sc (.str), .sc (.str)]] []], .agg [.sc (.int .i64) (.l []), .dz [.sc (.int .i64), .sc (.int .i64), .sl [.sc (.int .i64), .sc (.str), .sc (.str)]] [], .sc (.int .i64) (.l []), .dz [.sc (.str), .sc (.str)] [], .dz [.sc (.int .i64), .sc (.int .i64), .sl [.sc (.int .i64), .sc (.str), .sc (.str)]] []]]
noncomputable def laws_eqShard_w (m : Nat) (vs : List T) (k : Ret → An) : An := laws_eqShard m (vs.headD dflt) (vs.tail.headD dflt) (vs.tail.tail.headD dflt) (vs.tail.tail.tail.headD dflt) (vs.tail.tail.tail.tail.headD dflt) (vs.tail.tail.tail.tail.tail.headD dflt) (vs.tail.tail.tail.tail.tail.tail.headD dflt) (vs.tail.tail.tail.tail.tail.tail.tail.headD dflt) (vs.tail.tail.tail.tail.tail.tail.tail.tail.headD dflt) (vs.tail.tail.tail.tail.tail.tail.tail.tail.tail.headD dflt) (fun z0 => k ⟨[.one (.sc (.bool) z0)], [[none, none, none, none, none], [none, none, none, none, none]], [none, none]⟩)
theorem laws_eqShard_cf (m : Nat) : callK CX prims m = (patC 125 laws_eqRecS_a (laws_eqRecS_w m) (patC 11 laws_eqPairS_a (laws_eqPairS_w m) (callK CX prims m))) := by
  rw [← patC_eq (fun vs k => laws_eqPairS_eq m vs k), ← patC_eq (fun vs k => laws_eqRecS_eq m vs k)]
noncomputable def laws_eqShard_c : Code := (Try.f88.body).getD .skip
noncomputable def laws_eqShard_fi : Fi := ⟨88, 2, 33, 16⟩
theorem laws_eqShard_eq (m : Nat) : ∀ vs k, callK CX prims m 88 (fArgs laws_eqShard_a vs) k = laws_eqShard_w m vs k := by
  cases m with
  | zero => exact fun vs k => rfl
  | succ m => exact fun vs k => Eq.trans (b := bodyK CX (callK CX prims m) (loopK CX (callK CX prims m) laws_eqShard_fi laws_eqShard_c m) 88 Try.f88 laws_eqShard_c (fArgs laws_eqShard_a vs) k) (by kernel_rfl) ((bodyK_congr (laws_eqShard_cf m) rfl 88 Try.f88 laws_eqShard_c (fArgs laws_eqShard_a vs) k).trans (by kernel_rfl))

/-! loop.example/g00244/laws.eqShardS -/
noncomputable def laws_eqShardS_L0_0 (m : Nat) : Nat → T → T → T → (T → An) → An → An
  | 0, _, _, _, _, _ => .bad
  | n + 1, x0, x1, x2, k0, k1 =>
    cond (decide (x2.int < (x0.rows.length : Int)))
    (cond (decide ((0 : Int) ≤ x2.int ∧ x2.int < (x0.rows.length : Int)))
    (cond (decide ((0 : Int) ≤ x2.int ∧ x2.int < (x1.rows.length : Int)))
    (laws_eqShard m ((x0.rows.getD (Int.toNat x2.int) []).getD 0 dflt) (T.l ((x0.rows.getD (Int.toNat x2.int) []).getD 1 dflt).rows) ((x0.rows.getD (Int.toNat x2.int) []).getD 2 dflt) (T.l ((x0.rows.getD (Int.toNat x2.int) []).getD 3 dflt).rows) (T.l ((x0.rows.getD (Int.toNat x2.int) []).getD 4 dflt).rows) ((x1.rows.getD (Int.toNat x2.int) []).getD 0 dflt) (T.l ((x1.rows.getD (Int.toNat x2.int) []).getD 1 dflt).rows) ((x1.rows.getD (Int.toNat x2.int) []).getD 2 dflt) (T.l ((x1.rows.getD (Int.toNat x2.int) []).getD 3 dflt).rows) (T.l ((x1.rows.getD (Int.toNat x2.int) []).getD 4 dflt).rows)
    (fun y0 => cond (!y0.bool)
    (k0 (T.b false))
    (laws_eqShardS_L0_0 m n x0 x1 (T.i (IntKind.i64.wrap (x2.int + 1))) k0 k1)))
    (.bad))
    (.bad))
    (k1 )
noncomputable def laws_eqShardS_s0_0 : Pack := ⟨[(0, .one ⟨.sn [([4000000], 0)], .sl [.sc (.int .i64), .sl [.sc (.int .i64), .sc (.int .i64), .sl [.sc (.int .i64), .sc (.str), .sc (.str)]], .sc (.int .i64), .sl [.sc (.str), .sc (.str)], .sl [.sc (.int .i64), .sc (.int .i64), .sl [.sc (.int .i64), .sc (.str), .sc (.str)]]], .l []⟩), (1, .one ⟨.sn [([4000000], 0)], .sl [.sc (.int .i64), .sl [.sc (.int .i64), .sc (.int .i64), .sl [.sc (.int .i64), .sc (.str), .sc (.str)]], .sc (.int .i64), .sl [.sc (.str), .sc (.str)], .sl [.sc (.int .i64), .sc (.int .i64), .sl [.sc (.int .i64), .sc (.str), .sc (.str)]]], .l []⟩), (5, .one ⟨.sc, .sc (.int .i64), .l []⟩)], [([4000000], .gone)]⟩
noncomputable def laws_eqShardS_e0_0 : Pack := ⟨[(4, .one ⟨.sc, .sc (.bool), .l []⟩)], []⟩
noncomputable def laws_eqShardS_e0_1 : Pack := ⟨[], []⟩
noncomputable def laws_eqShardS_L0_0w (m n : Nat) (vs : List T) (k : Ctl → Pack → An) : An := laws_eqShardS_L0_0 m n (vs.headD dflt) (vs.tail.headD dflt) (vs.tail.tail.headD dflt) (fun z0 => k .ret (fPack laws_eqShardS_e0_0 [z0])) (k (.exit 0) (fPack laws_eqShardS_e0_1 []))
noncomputable def laws_eqShardS : Nat → T → T → (T → An) → An
  | 0, _, _, _ => .bad
  | m + 1, x0, x1, k0 =>
    cond ((x0.rows.length : Int) != (x1.rows.length : Int))
    (k0 (T.b false))
    (laws_eqShardS_L0_0 m m (T.l x0.rows) (T.l x1.rows) (T.i 0)
    (fun y1 => k0 y1)
    (k0 (T.b true)))
noncomputable def laws_eqShardS_a : List Arg := [.one (.dz [.sc (.int .i64), .sl [.sc (.int .i64), .sc (.int .i64), .sl [.sc (.int .i64), .sc (.str), .sc (.str)]], .sc (.int .i64), .sl [.sc (.str), .sc (.str)], .sl [.sc (.int .i64), .sc (.int .i64), .sl [.sc (.int .i64), .sc (.str), .sc (.str)]]] []), .one (.dz [.sc (.int .i64), .sl [.sc (.int .i64), .sc (.int .i64), .sl [.sc (.int .i64), .sc (.str), .sc (.str)]], .sc (.int .i64), .sl [.sc (.str), .sc (.str)], .sl [.sc (.int .i64), .sc (.int .i64), .sl [.sc (.int .i64), .sc (.str), .sc (.str)]]] [])]
noncomputable def laws_eqShardS_w (m : Nat) (vs : List T) (k : Ret → An) : An := laws_eqShardS m (vs.headD dflt) (vs.tail.headD dflt) (fun z0 => k ⟨[.one (.sc (.bool) z0)], [[none], [none]], [none, none]⟩)
theorem laws_eqShardS_cf (m : Nat) : callK CX prims m = (patC 88 laws_eqShard_a (laws_eqShard_w m) (callK CX prims m)) := by
  rw [← patC_eq (fun vs k => laws_eqShard_eq m vs k)]
noncomputable def laws_eqShardS_c : Code := (Try.f46.body).getD .skip
noncomputable def laws_eqShardS_fi : Fi := ⟨46, 2, 27, 16⟩
theorem laws_eqShardS_lf (m : Nat) : ∀ n, (∀ vs k, loopK CX (callK CX prims m) laws_eqShardS_fi laws_eqShardS_c n [0, 1, 0, 1, 1] (fPack laws_eqShardS_s0_0 vs) k = laws_eqShardS_L0_0w m n vs k) ∧ ((loopK CX (callK CX prims m) laws_eqShardS_fi laws_eqShardS_c n) = (patL [0, 1, 0, 1, 1] laws_eqShardS_s0_0 (laws_eqShardS_L0_0w m n) (loopK CX (callK CX prims m) laws_eqShardS_fi laws_eqShardS_c n))) := by
  intro n
  have hl : ∀ n, (∀ vs k, loopK CX (callK CX prims m) laws_eqShardS_fi laws_eqShardS_c n [0, 1, 0, 1, 1] (fPack laws_eqShardS_s0_0 vs) k = laws_eqShardS_L0_0w m n vs k) → ((loopK CX (callK CX prims m) laws_eqShardS_fi laws_eqShardS_c n) = (patL [0, 1, 0, 1, 1] laws_eqShardS_s0_0 (laws_eqShardS_L0_0w m n) (loopK CX (callK CX prims m) laws_eqShardS_fi laws_eqShardS_c n))) := by
    intro n h0
    rw [← patL_eq h0]
  induction n with
  | zero => exact ⟨fun vs k => rfl, hl 0 (fun vs k => rfl)⟩
  | succ n ihn =>
    have hn := ihn.2
    have h0 : ∀ vs k, loopK CX (callK CX prims m) laws_eqShardS_fi laws_eqShardS_c (n + 1) [0, 1, 0, 1, 1] (fPack laws_eqShardS_s0_0 vs) k = laws_eqShardS_L0_0w m (n + 1) vs k := fun vs k =>
      (stepL_congr (laws_eqShardS_cf m) hn [0, 1, 0, 1, 1] _ _).trans (by kernel_rfl)
    exact ⟨h0, hl (n + 1) h0⟩
theorem laws_eqShardS_eq (m : Nat) : ∀ vs k, callK CX prims m 46 (fArgs laws_eqShardS_a vs) k = laws_eqShardS_w m vs k := by
  cases m with
  | zero => exact fun vs k => rfl
  | succ m => exact fun vs k => Eq.trans (b := bodyK CX (callK CX prims m) (loopK CX (callK CX prims m) laws_eqShardS_fi laws_eqShardS_c m) 46 Try.f46 laws_eqShardS_c (fArgs laws_eqShardS_a vs) k) (by kernel_rfl) ((bodyK_congr (laws_eqShardS_cf m) ((laws_eqShardS_lf m m).2) 46 Try.f46 laws_eqShardS_c (fArgs laws_eqShardS_a vs) k).trans (by kernel_rfl))

/-! loop.example/g00244/laws.eqWord -/
noncomputable def laws_eqWord : Nat → T → T → T → T → T → T → T → T → T → T → (T → An) → An
  | 0, _, _, _, _, _, _, _, _, _, _, _ => .bad
  | m + 1, x0, x1, x2, x3, x4, x5, x6, x7, x8, x9, k0 =>
    cond (x0.int != x5.int)
    (k0 (T.b false))
    (cond (x1.int != x6.int)
    (k0 (T.b false))
    (cond (x2.int != x7.int)
    (k0 (T.b false))
    (laws_eqOpS m (T.l x3.rows) (T.l x8.rows)
    (fun y0 => cond (!y0.bool)
    (k0 (T.b false))
    (cond (!(x4.bool == x9.bool))
    (k0 (T.b false))
    (k0 (T.b true)))))))
noncomputable def laws_eqWord_a : List Arg := [.agg [.sc (.int .i64) (.l []), .sc (.int .i64) (.l []), .sc (.int .i64) (.l []), .dz [.sc (.int .i64), .sc (.str), .sc (.str)] [], .sc (.bool) (.l [])], .agg [.sc (.int .i64) (.l []), .sc (.int .i64) (.l []), .sc (.int .i64) (.l []), .dz [.sc (.int .i64), .sc (.str), .sc (.str)] [], .sc (.bool) (.l [])]]
noncomputable def laws_eqWord_w (m : Nat) (vs : List T) (k : Ret → An) : An := laws_eqWord m (vs.headD dflt) (vs.tail.headD dflt) (vs.tail.tail.headD dflt) (vs.tail.tail.tail.headD dflt) (vs.tail.tail.tail.tail.headD dflt) (vs.tail.tail.tail.tail.tail.headD dflt) (vs.tail.tail.tail.tail.tail.tail.headD dflt) (vs.tail.tail.tail.tail.tail.tail.tail.headD dflt) (vs.tail.tail.tail.tail.tail.tail.tail.tail.headD dflt) (vs.tail.tail.tail.tail.tail.tail.tail.tail.tail.headD dflt) (fun z0 => k ⟨[.one (.sc (.bool) z0)], [[none, none, none, none, none], [none, none, none, none, none]], [none, none]⟩)
theorem laws_eqWord_cf (m : Nat) : callK CX prims m = (patC 126 laws_eqOpS_a (laws_eqOpS_w m) (callK CX prims m)) := by
  rw [← patC_eq (fun vs k => laws_eqOpS_eq m vs k)]
noncomputable def laws_eqWord_c : Code := (Try.f89.body).getD .skip
noncomputable def laws_eqWord_fi : Fi := ⟨89, 2, 31, 16⟩
theorem laws_eqWord_eq (m : Nat) : ∀ vs k, callK CX prims m 89 (fArgs laws_eqWord_a vs) k = laws_eqWord_w m vs k := by
  cases m with
  | zero => exact fun vs k => rfl
  | succ m => exact fun vs k => Eq.trans (b := bodyK CX (callK CX prims m) (loopK CX (callK CX prims m) laws_eqWord_fi laws_eqWord_c m) 89 Try.f89 laws_eqWord_c (fArgs laws_eqWord_a vs) k) (by kernel_rfl) ((bodyK_congr (laws_eqWord_cf m) rfl 89 Try.f89 laws_eqWord_c (fArgs laws_eqWord_a vs) k).trans (by kernel_rfl))

/-! loop.example/g00244/laws.eqWordS -/
noncomputable def laws_eqWordS_L0_0 (m : Nat) : Nat → T → T → T → (T → An) → An → An
  | 0, _, _, _, _, _ => .bad
  | n + 1, x0, x1, x2, k0, k1 =>
    cond (decide (x2.int < (x0.rows.length : Int)))
    (cond (decide ((0 : Int) ≤ x2.int ∧ x2.int < (x0.rows.length : Int)))
    (cond (decide ((0 : Int) ≤ x2.int ∧ x2.int < (x1.rows.length : Int)))
    (laws_eqWord m ((x0.rows.getD (Int.toNat x2.int) []).getD 0 dflt) ((x0.rows.getD (Int.toNat x2.int) []).getD 1 dflt) ((x0.rows.getD (Int.toNat x2.int) []).getD 2 dflt) (T.l ((x0.rows.getD (Int.toNat x2.int) []).getD 3 dflt).rows) ((x0.rows.getD (Int.toNat x2.int) []).getD 4 dflt) ((x1.rows.getD (Int.toNat x2.int) []).getD 0 dflt) ((x1.rows.getD (Int.toNat x2.int) []).getD 1 dflt) ((x1.rows.getD (Int.toNat x2.int) []).getD 2 dflt) (T.l ((x1.rows.getD (Int.toNat x2.int) []).getD 3 dflt).rows) ((x1.rows.getD (Int.toNat x2.int) []).getD 4 dflt)
    (fun y0 => cond (!y0.bool)
    (k0 (T.b false))
    (laws_eqWordS_L0_0 m n x0 x1 (T.i (IntKind.i64.wrap (x2.int + 1))) k0 k1)))
    (.bad))
    (.bad))
    (k1 )
noncomputable def laws_eqWordS_s0_0 : Pack := ⟨[(0, .one ⟨.sn [([4000000], 0)], .sl [.sc (.int .i64), .sc (.int .i64), .sc (.int .i64), .sl [.sc (.int .i64), .sc (.str), .sc (.str)], .sc (.bool)], .l []⟩), (1, .one ⟨.sn [([4000000], 0)], .sl [.sc (.int .i64), .sc (.int .i64), .sc (.int .i64), .sl [.sc (.int .i64), .sc (.str), .sc (.str)], .sc (.bool)], .l []⟩), (5, .one ⟨.sc, .sc (.int .i64), .l []⟩)], [([4000000], .gone)]⟩
noncomputable def laws_eqWordS_e0_0 : Pack := ⟨[(4, .one ⟨.sc, .sc (.bool), .l []⟩)], []⟩
noncomputable def laws_eqWordS_e0_1 : Pack := ⟨[], []⟩
noncomputable def laws_eqWordS_L0_0w (m n : Nat) (vs : List T) (k : Ctl → Pack → An) : An := laws_eqWordS_L0_0 m n (vs.headD dflt) (vs.tail.headD dflt) (vs.tail.tail.headD dflt) (fun z0 => k .ret (fPack laws_eqWordS_e0_0 [z0])) (k (.exit 0) (fPack laws_eqWordS_e0_1 []))
noncomputable def laws_eqWordS : Nat → T → T → (T → An) → An
  | 0, _, _, _ => .bad
  | m + 1, x0, x1, k0 =>
    cond ((x0.rows.length : Int) != (x1.rows.length : Int))
    (k0 (T.b false))
    (laws_eqWordS_L0_0 m m (T.l x0.rows) (T.l x1.rows) (T.i 0)
    (fun y1 => k0 y1)
    (k0 (T.b true)))
noncomputable def laws_eqWordS_a : List Arg := [.one (.dz [.sc (.int .i64), .sc (.int .i64), .sc (.int .i64), .sl [.sc (.int .i64), .sc (.str), .sc (.str)], .sc (.bool)] []), .one (.dz [.sc (.int .i64), .sc (.int .i64), .sc (.int .i64), .sl [.sc (.int .i64), .sc (.str), .sc (.str)], .sc (.bool)] [])]
noncomputable def laws_eqWordS_w (m : Nat) (vs : List T) (k : Ret → An) : An := laws_eqWordS m (vs.headD dflt) (vs.tail.headD dflt) (fun z0 => k ⟨[.one (.sc (.bool) z0)], [[none], [none]], [none, none]⟩)
theorem laws_eqWordS_cf (m : Nat) : callK CX prims m = (patC 89 laws_eqWord_a (laws_eqWord_w m) (callK CX prims m)) := by
  rw [← patC_eq (fun vs k => laws_eqWord_eq m vs k)]
noncomputable def laws_eqWordS_c : Code := (Try.f47.body).getD .skip
noncomputable def laws_eqWordS_fi : Fi := ⟨47, 2, 27, 16⟩
theorem laws_eqWordS_lf (m : Nat) : ∀ n, (∀ vs k, loopK CX (callK CX prims m) laws_eqWordS_fi laws_eqWordS_c n [0, 1, 0, 1, 1] (fPack laws_eqWordS_s0_0 vs) k = laws_eqWordS_L0_0w m n vs k) ∧ ((loopK CX (callK CX prims m) laws_eqWordS_fi laws_eqWordS_c n) = (patL [0, 1, 0, 1, 1] laws_eqWordS_s0_0 (laws_eqWordS_L0_0w m n) (loopK CX (callK CX prims m) laws_eqWordS_fi laws_eqWordS_c n))) := by
  intro n
  have hl : ∀ n, (∀ vs k, loopK CX (callK CX prims m) laws_eqWordS_fi laws_eqWordS_c n [0, 1, 0, 1, 1] (fPack laws_eqWordS_s0_0 vs) k = laws_eqWordS_L0_0w m n vs k) → ((loopK CX (callK CX prims m) laws_eqWordS_fi laws_eqWordS_c n) = (patL [0, 1, 0, 1, 1] laws_eqWordS_s0_0 (laws_eqWordS_L0_0w m n) (loopK CX (callK CX prims m) laws_eqWordS_fi laws_eqWordS_c n))) := by
    intro n h0
    rw [← patL_eq h0]
  induction n with
  | zero => exact ⟨fun vs k => rfl, hl 0 (fun vs k => rfl)⟩
  | succ n ihn =>
    have hn := ihn.2
    have h0 : ∀ vs k, loopK CX (callK CX prims m) laws_eqWordS_fi laws_eqWordS_c (n + 1) [0, 1, 0, 1, 1] (fPack laws_eqWordS_s0_0 vs) k = laws_eqWordS_L0_0w m (n + 1) vs k := fun vs k =>
      (stepL_congr (laws_eqWordS_cf m) hn [0, 1, 0, 1, 1] _ _).trans (by kernel_rfl)
    exact ⟨h0, hl (n + 1) h0⟩
theorem laws_eqWordS_eq (m : Nat) : ∀ vs k, callK CX prims m 47 (fArgs laws_eqWordS_a vs) k = laws_eqWordS_w m vs k := by
  cases m with
  | zero => exact fun vs k => rfl
  | succ m => exact fun vs k => Eq.trans (b := bodyK CX (callK CX prims m) (loopK CX (callK CX prims m) laws_eqWordS_fi laws_eqWordS_c m) 47 Try.f47 laws_eqWordS_c (fArgs laws_eqWordS_a vs) k) (by kernel_rfl) ((bodyK_congr (laws_eqWordS_cf m) ((laws_eqWordS_lf m m).2) 47 Try.f47 laws_eqWordS_c (fArgs laws_eqWordS_a vs) k).trans (by kernel_rfl))

/-! loop.example/g00244/laws.eqOrder -/
noncomputable def laws_eqOrder : Nat → T → T → T → T → (T → An) → An
  | 0, _, _, _, _, _ => .bad
  | m + 1, x0, x1, x2, x3, k0 =>
    cond (x0.int != x2.int)
    (k0 (T.b false))
    (laws_eqOpS m (T.l x1.rows) (T.l x3.rows)
    (fun y0 => cond (!y0.bool)
    (k0 (T.b false))
    (k0 (T.b true))))
noncomputable def laws_eqOrder_a : List Arg := [.agg [.sc (.int .i64) (.l []), .dz [.sc (.int .i64), .sc (.str), .sc (.str)] []], .agg [.sc (.int .i64) (.l []), .dz [.sc (.int .i64), .sc (.str), .sc (.str)] []]]
noncomputable def laws_eqOrder_w (m : Nat) (vs : List T) (k : Ret → An) : An := laws_eqOrder m (vs.headD dflt) (vs.tail.headD dflt) (vs.tail.tail.headD dflt) (vs.tail.tail.tail.headD dflt) (fun z0 => k ⟨[.one (.sc (.bool) z0)], [[none, none], [none, none]], [none, none]⟩)
theorem laws_eqOrder_cf (m : Nat) : callK CX prims m = (patC 126 laws_eqOpS_a (laws_eqOpS_w m) (callK CX prims m)) := by
  rw [← patC_eq (fun vs k => laws_eqOpS_eq m vs k)]
noncomputable def laws_eqOrder_c : Code := (Try.f90.body).getD .skip
noncomputable def laws_eqOrder_fi : Fi := ⟨90, 2, 16, 16⟩
theorem laws_eqOrder_eq (m : Nat) : ∀ vs k, callK CX prims m 90 (fArgs laws_eqOrder_a vs) k = laws_eqOrder_w m vs k := by
  cases m with
  | zero => exact fun vs k => rfl
  | succ m => exact fun vs k => Eq.trans (b := bodyK CX (callK CX prims m) (loopK CX (callK CX prims m) laws_eqOrder_fi laws_eqOrder_c m) 90 Try.f90 laws_eqOrder_c (fArgs laws_eqOrder_a vs) k) (by kernel_rfl) ((bodyK_congr (laws_eqOrder_cf m) rfl 90 Try.f90 laws_eqOrder_c (fArgs laws_eqOrder_a vs) k).trans (by kernel_rfl))

/-! loop.example/g00244/laws.eqOrderS -/
noncomputable def laws_eqOrderS_L0_0 (m : Nat) : Nat → T → T → T → (T → An) → An → An
  | 0, _, _, _, _, _ => .bad
  | n + 1, x0, x1, x2, k0, k1 =>
    cond (decide (x2.int < (x0.rows.length : Int)))
    (cond (decide ((0 : Int) ≤ x2.int ∧ x2.int < (x0.rows.length : Int)))
    (cond (decide ((0 : Int) ≤ x2.int ∧ x2.int < (x1.rows.length : Int)))
    (laws_eqOrder m ((x0.rows.getD (Int.toNat x2.int) []).getD 0 dflt) (T.l ((x0.rows.getD (Int.toNat x2.int) []).getD 1 dflt).rows) ((x1.rows.getD (Int.toNat x2.int) []).getD 0 dflt) (T.l ((x1.rows.getD (Int.toNat x2.int) []).getD 1 dflt).rows)
    (fun y0 => cond (!y0.bool)
    (k0 (T.b false))
    (laws_eqOrderS_L0_0 m n x0 x1 (T.i (IntKind.i64.wrap (x2.int + 1))) k0 k1)))
    (.bad))
    (.bad))
    (k1 )
noncomputable def laws_eqOrderS_s0_0 : Pack := ⟨[(0, .one ⟨.sn [([4000000], 0)], .sl [.sc (.int .i64), .sl [.sc (.int .i64), .sc (.str), .sc (.str)]], .l []⟩), (1, .one ⟨.sn [([4000000], 0)], .sl [.sc (.int .i64), .sl [.sc (.int .i64), .sc (.str), .sc (.str)]], .l []⟩), (5, .one ⟨.sc, .sc (.int .i64), .l []⟩)], [([4000000], .gone)]⟩
noncomputable def laws_eqOrderS_e0_0 : Pack := ⟨[(4, .one ⟨.sc, .sc (.bool), .l []⟩)], []⟩
noncomputable def laws_eqOrderS_e0_1 : Pack := ⟨[], []⟩
noncomputable def laws_eqOrderS_L0_0w (m n : Nat) (vs : List T) (k : Ctl → Pack → An) : An := laws_eqOrderS_L0_0 m n (vs.headD dflt) (vs.tail.headD dflt) (vs.tail.tail.headD dflt) (fun z0 => k .ret (fPack laws_eqOrderS_e0_0 [z0])) (k (.exit 0) (fPack laws_eqOrderS_e0_1 []))
noncomputable def laws_eqOrderS : Nat → T → T → (T → An) → An
  | 0, _, _, _ => .bad
  | m + 1, x0, x1, k0 =>
    cond ((x0.rows.length : Int) != (x1.rows.length : Int))
    (k0 (T.b false))
    (laws_eqOrderS_L0_0 m m (T.l x0.rows) (T.l x1.rows) (T.i 0)
    (fun y1 => k0 y1)
    (k0 (T.b true)))
noncomputable def laws_eqOrderS_a : List Arg := [.one (.dz [.sc (.int .i64), .sl [.sc (.int .i64), .sc (.str), .sc (.str)]] []), .one (.dz [.sc (.int .i64), .sl [.sc (.int .i64), .sc (.str), .sc (.str)]] [])]
noncomputable def laws_eqOrderS_w (m : Nat) (vs : List T) (k : Ret → An) : An := laws_eqOrderS m (vs.headD dflt) (vs.tail.headD dflt) (fun z0 => k ⟨[.one (.sc (.bool) z0)], [[none], [none]], [none, none]⟩)
theorem laws_eqOrderS_cf (m : Nat) : callK CX prims m = (patC 90 laws_eqOrder_a (laws_eqOrder_w m) (callK CX prims m)) := by
  rw [← patC_eq (fun vs k => laws_eqOrder_eq m vs k)]
noncomputable def laws_eqOrderS_c : Code := (Try.f48.body).getD .skip
noncomputable def laws_eqOrderS_fi : Fi := ⟨48, 2, 27, 16⟩
theorem laws_eqOrderS_lf (m : Nat) : ∀ n, (∀ vs k, loopK CX (callK CX prims m) laws_eqOrderS_fi laws_eqOrderS_c n [0, 1, 0, 1, 1] (fPack laws_eqOrderS_s0_0 vs) k = laws_eqOrderS_L0_0w m n vs k) ∧ ((loopK CX (callK CX prims m) laws_eqOrderS_fi laws_eqOrderS_c n) = (patL [0, 1, 0, 1, 1] laws_eqOrderS_s0_0 (laws_eqOrderS_L0_0w m n) (loopK CX (callK CX prims m) laws_eqOrderS_fi laws_eqOrderS_c n))) := by
  intro n
  have hl : ∀ n, (∀ vs k, loopK CX (callK CX prims m) laws_eqOrderS_fi laws_eqOrderS_c n [0, 1, 0, 1, 1] (fPack laws_eqOrderS_s0_0 vs) k = laws_eqOrderS_L0_0w m n vs k) → ((loopK CX (callK CX prims m) laws_eqOrderS_fi laws_eqOrderS_c n) = (patL [0, 1, 0, 1, 1] laws_eqOrderS_s0_0 (laws_eqOrderS_L0_0w m n) (loopK CX (callK CX prims m) laws_eqOrderS_fi laws_eqOrderS_c n))) := by
    intro n h0
    rw [← patL_eq h0]
  induction n with
  | zero => exact ⟨fun vs k => rfl, hl 0 (fun vs k => rfl)⟩
  | succ n ihn =>
    have hn := ihn.2
    have h0 : ∀ vs k, loopK CX (callK CX prims m) laws_eqOrderS_fi laws_eqOrderS_c (n + 1) [0, 1, 0, 1, 1] (fPack laws_eqOrderS_s0_0 vs) k = laws_eqOrderS_L0_0w m (n + 1) vs k := fun vs k =>
      (stepL_congr (laws_eqOrderS_cf m) hn [0, 1, 0, 1, 1] _ _).trans (by kernel_rfl)
    exact ⟨h0, hl (n + 1) h0⟩
theorem laws_eqOrderS_eq (m : Nat) : ∀ vs k, callK CX prims m 48 (fArgs laws_eqOrderS_a vs) k = laws_eqOrderS_w m vs k := by
  cases m with
  | zero => exact fun vs k => rfl
  | succ m => exact fun vs k => Eq.trans (b := bodyK CX (callK CX prims m) (loopK CX (callK CX prims m) laws_eqOrderS_fi laws_eqOrderS_c m) 48 Try.f48 laws_eqOrderS_c (fArgs laws_eqOrderS_a vs) k) (by kernel_rfl) ((bodyK_congr (laws_eqOrderS_cf m) ((laws_eqOrderS_lf m m).2) 48 Try.f48 laws_eqOrderS_c (fArgs laws_eqOrderS_a vs) k).trans (by kernel_rfl))

/-! loop.example/g00244/laws.eqWorld -/
noncomputable def laws_eqWorld : Nat → T → T → T → T → T → T → T → T → T → T → T → T → T → T → T → T → T → T → T → T → (T → An) → An
  | 0, _, _, _, _, _, _, _, _, _, _, _, _, _, _, _, _, _, _, _, _, _ => .bad
  | m + 1, x0, x1, x2, x3, x4, x5, x6, x7, x8, x9, x10, x11, x12, x13, x14, x15, x16, x17, x18, x19, k0 =>
    laws_eqCoord m x0 x1 x2 (T.l x3.rows) (T.l x4.rows) x5 x10 x11 x12 (T.l x13.rows) (T.l x14.rows) x15
    (fun y0 => cond (!y0.bool)
    (k0 (T.b false))
    (laws_eqShardS m (T.l x6.rows) (T.l x16.rows)
    (fun y1 => cond (!y1.bool)
    (k0 (T.b false))
    (laws_eqWordS m (T.l x7.rows) (T.l x17.rows)
    (fun y2 => cond (!y2.bool)
    (k0 (T.b false))
    (laws_eqWordS m (T.l x8.rows) (T.l x18.rows)
    (fun y3 => cond (!y3.bool)
    (k0 (T.b false))
    (laws_eqOrderS m (T.l x9.rows) (T.l x19.rows)
    (fun y4 => cond (!y4.bool)
    (k0 (T.b false))
    (k0 (T.b true)))))))))))
noncomputable def laws_eqWorld_a : List Arg := [.agg [.sc (.int .i64) (.l []), .sc (.int .i64) (.l []), .sc (.int .i64) (.l []), .dz [.sc (.int .i64), .sl [.sc (.int .i64), .sc (.str), .sc (.str)], .sc (.int .i64), .sl [.sc (.int .i64)]] [], .dz [.sc (.int .i64), .sc (.bool)] [], .sc (.int .i64) (.l []), .dz [.sc (.int .i64), .sl [.sc (.int .i64), .sc (.int .i64), .sl [.sc (.int .i64), .sc (.str), .sc (.str)]], .sc (.int .i64), .sl [.sc (.str), .sc (.str)], .sl [.sc (.int .i64), .sc (.int .i64), .sl [.sc (.int .i64), .sc (.str), .sc (.str)]]] [], .dz [.sc (.int .i64), .sc (.int .i64), .sc (.int .i64), .sl [.sc (.int .i64), .sc (.str), .sc (.str)], .sc (.bool)] [], .dz [.sc (.int .i64), .sc (.int .i64), .sc (.int .i64), .sl [.sc (.int .i64), .sc (.str), .sc (.str)], .sc (.bool)] [], .dz [.sc (.int .i64), .sl [.sc (.int .i64), .sc (.str), .sc (.str)]] []], .agg [.sc (.int .i64) (.l []), .sc (.int .i64) (.l []), .sc (.int .i64) (.l []), .dz [.sc (.int .i64), .sl [.sc (.int .i64), .sc (.str), .sc (.str)], .sc (.int .i64), .sl [.sc (.int .i64)]] [], .dz [.sc (.int .i64), .sc (.bool)] [], .sc (.int .i64) (.l []), .dz [.sc (.int .i64), .sl [.sc (.int .i64), .sc (.int .i64), .sl [.sc (.int .i64), .sc (.str), .sc (.str)]], .sc (.int .i64), .sl [.sc (.str), .sc (.str)], .sl [.sc (.int .i64), .sc (.int .i64), .sl [.sc (.int .i64), .sc (.str), .sc (.str)]]] [], .dz [.sc (.int .i64), .sc (.int .i64), .sc (.int .i64), .sl [.sc (.int .i64), .sc (.str), .sc (.str)], .sc (.bool)] [], .dz [.sc (.int .i64), .sc (.int .i64), .sc (.int .i64), .sl [.sc (.int .i64), .sc (.str), .sc (.str)], .sc (.bool)] [], .dz [.sc (.int .i64), .sl [.sc (.int .i64), .sc (.str), .sc (.str)]] []]]
noncomputable def laws_eqWorld_w (m : Nat) (vs : List T) (k : Ret → An) : An := laws_eqWorld m (vs.headD dflt) (vs.tail.headD dflt) (vs.tail.tail.headD dflt) (vs.tail.tail.tail.headD dflt) (vs.tail.tail.tail.tail.headD dflt) (vs.tail.tail.tail.tail.tail.headD dflt) (vs.tail.tail.tail.tail.tail.tail.headD dflt) (vs.tail.tail.tail.tail.tail.tail.tail.headD dflt) (vs.tail.tail.tail.tail.tail.tail.tail.tail.headD dflt) (vs.tail.tail.tail.tail.tail.tail.tail.tail.tail.headD dflt) (vs.tail.tail.tail.tail.tail.tail.tail.tail.tail.tail.headD dflt) (vs.tail.tail.tail.tail.tail.tail.tail.tail.tail.tail.tail.headD dflt) (vs.tail.tail.tail.tail.tail.tail.tail.tail.tail.tail.tail.tail.headD dflt) (vs.tail.tail.tail.tail.tail.tail.tail.tail.tail.tail.tail.tail.tail.headD dflt) (vs.tail.tail.tail.tail.tail.tail.tail.tail.tail.tail.tail.tail.tail.tail.headD dflt) (vs.tail.tail.tail.tail.tail.tail.tail.tail.tail.tail.tail.tail.tail.tail.tail.headD dflt) (vs.tail.tail.tail.tail.tail.tail.tail.tail.tail.tail.tail.tail.tail.tail.tail.tail.headD dflt) (vs.tail.tail.tail.tail.tail.tail.tail.tail.tail.tail.tail.tail.tail.tail.tail.tail.tail.headD dflt) (vs.tail.tail.tail.tail.tail.tail.tail.tail.tail.tail.tail.tail.tail.tail.tail.tail.tail.tail.headD dflt) (vs.tail.tail.tail.tail.tail.tail.tail.tail.tail.tail.tail.tail.tail.tail.tail.tail.tail.tail.tail.headD dflt) (fun z0 => k ⟨[.one (.sc (.bool) z0)], [[none, none, none, none, none, none, none, none, none, none], [none, none, none, none, none, none, none, none, none, none]], [none, none]⟩)
theorem laws_eqWorld_cf (m : Nat) : callK CX prims m = (patC 45 laws_eqCoord_a (laws_eqCoord_w m) (patC 46 laws_eqShardS_a (laws_eqShardS_w m) (patC 47 laws_eqWordS_a (laws_eqWordS_w m) (patC 48 laws_eqOrderS_a (laws_eqOrderS_w m) (callK CX prims m))))) := by
  rw [← patC_eq (fun vs k => laws_eqOrderS_eq m vs k), ← patC_eq (fun vs k => laws_eqWordS_eq m vs k), ← patC_eq (fun vs k => laws_eqShardS_eq m vs k), ← patC_eq (fun vs k => laws_eqCoord_eq m vs k)]
noncomputable def laws_eqWorld_c : Code := (Try.f12.body).getD .skip
noncomputable def laws_eqWorld_fi : Fi := ⟨12, 2, 35, 16⟩
theorem laws_eqWorld_eq (m : Nat) : ∀ vs k, callK CX prims m 12 (fArgs laws_eqWorld_a vs) k = laws_eqWorld_w m vs k := by
  cases m with
  | zero => exact fun vs k => rfl
  | succ m => exact fun vs k => Eq.trans (b := bodyK CX (callK CX prims m) (loopK CX (callK CX prims m) laws_eqWorld_fi laws_eqWorld_c m) 12 Try.f12 laws_eqWorld_c (fArgs laws_eqWorld_a vs) k) (by kernel_rfl) ((bodyK_congr (laws_eqWorld_cf m) rfl 12 Try.f12 laws_eqWorld_c (fArgs laws_eqWorld_a vs) k).trans (by kernel_rfl))

/-! loop.example/g00244/laws.FnExactPromised -/
noncomputable def laws_FnExactPromised : Nat → T → T → T → T → T → T → T → T → T → T → (T → An) → An
  | 0, _, _, _, _, _, _, _, _, _, _, _ => .bad
  | m + 1, x0, x1, x2, x3, x4, x5, x6, x7, x8, x9, k0 =>
    laws_szWorld m x0 x1 x2 (T.l x3.rows) (T.l x4.rows) x5 (T.l x6.rows) (T.l x7.rows) (T.l x8.rows) (T.l x9.rows) (T.i 1048576)
    (fun y0 => cond (decide (y0.int < 0))
    (k0 (T.b true))
    (laws_toWorld m x0 x1 x2 (T.l x3.rows) (T.l x4.rows) x5 (T.l x6.rows) (T.l x7.rows) (T.l x8.rows) (T.l x9.rows)
    (fun y1 y2 y3 y4 y5 y6 y7 y8 y9 y10 => spec_Promised m y1 y2 y3 (T.l y4.rows) (T.l y5.rows) y6 (T.l y7.rows) (T.l y8.rows) (T.l y9.rows) (T.l y10.rows)
    (fun y11 => laws_toWorld m x0 x1 x2 (T.l x3.rows) (T.l x4.rows) x5 (T.l x6.rows) (T.l x7.rows) (T.l x8.rows) (T.l x9.rows)
    (fun y12 y13 y14 y15 y16 y17 y18 y19 y20 y21 => impl_Promised m y12 y13 y14 (T.l y15.rows) (T.l y16.rows) y17 (T.l y18.rows) (T.l y19.rows) (T.l y20.rows) (T.l y21.rows)
    (fun y22 => cond (!(y22.bool == y11.bool))
    (k0 (T.b false))
    (laws_toWorld m x0 x1 x2 (T.l x3.rows) (T.l x4.rows) x5 (T.l x6.rows) (T.l x7.rows) (T.l x8.rows) (T.l x9.rows)
    (fun y23 y24 y25 y26 y27 y28 y29 y30 y31 y32 => laws_eqWorld m y12 y13 y14 (T.l y15.rows) (T.l y16.rows) y17 (T.l y18.rows) (T.l y19.rows) (T.l y20.rows) (T.l y21.rows) y23 y24 y25 (T.l y26.rows) (T.l y27.rows) y28 (T.l y29.rows) (T.l y30.rows) (T.l y31.rows) (T.l y32.rows)
    (fun y33 => cond (!y33.bool)
    (k0 (T.b false))
    (k0 (T.b true)))))))))))
noncomputable def laws_FnExactPromised_a : List Arg := [.agg [.sc (.int .i64) (.l []), .sc (.int .i64) (.l []), .sc (.int .i64) (.l []), .fz [.sc (.int .i64), .sl [.sc (.int .i64), .sc (.str), .sc (.str)], .sc (.int .i64), .sl [.sc (.int .i64)]] [], .fz [.sc (.int .i64), .sc (.bool)] [], .sc (.int .i64) (.l []), .fz [.sc (.int .i64), .sl [.sc (.int .i64), .sc (.int .i64), .sl [.sc (.int .i64), .sc (.str), .sc (.str)]], .sc (.int .i64), .sl [.sc (.str), .sc (.str)], .sl [.sc (.int .i64), .sc (.int .i64), .sl [.sc (.int .i64), .sc (.str), .sc (.str)]]] [], .fz [.sc (.int .i64), .sc (.int .i64), .sc (.int .i64), .sl [.sc (.int .i64), .sc (.str), .sc (.str)], .sc (.bool)] [], .fz [.sc (.int .i64), .sc (.int .i64), .sc (.int .i64), .sl [.sc (.int .i64), .sc (.str), .sc (.str)], .sc (.bool)] [], .fz [.sc (.int .i64), .sl [.sc (.int .i64), .sc (.str), .sc (.str)]] []]]
noncomputable def laws_FnExactPromised_w (m : Nat) (vs : List T) (k : Ret → An) : An := laws_FnExactPromised m (vs.headD dflt) (vs.tail.headD dflt) (vs.tail.tail.headD dflt) (vs.tail.tail.tail.headD dflt) (vs.tail.tail.tail.tail.headD dflt) (vs.tail.tail.tail.tail.tail.headD dflt) (vs.tail.tail.tail.tail.tail.tail.headD dflt) (vs.tail.tail.tail.tail.tail.tail.tail.headD dflt) (vs.tail.tail.tail.tail.tail.tail.tail.tail.headD dflt) (vs.tail.tail.tail.tail.tail.tail.tail.tail.tail.headD dflt) (fun z0 => k ⟨[.one (.sc (.bool) z0)], [[none, none, none, none, none, none, none, none, none, none]], [none]⟩)
theorem laws_FnExactPromised_cf (m : Nat) : callK CX prims m = (patC 7 laws_szWorld_a (laws_szWorld_w m) (patC 9 laws_toWorld_a (laws_toWorld_w m) (patC 32 spec_Promised_a (spec_Promised_w m) (patC 33 impl_Promised_a (impl_Promised_w m) (patC 12 laws_eqWorld_a (laws_eqWorld_w m) (callK CX prims m)))))) := by
  rw [← patC_eq (fun vs k => laws_eqWorld_eq m vs k), ← patC_eq (fun vs k => impl_Promised_eq m vs k), ← patC_eq (fun vs k => spec_Promised_eq m vs k), ← patC_eq (fun vs k => laws_toWorld_eq m vs k), ← patC_eq (fun vs k => laws_szWorld_eq m vs k)]
noncomputable def laws_FnExactPromised_c : Code := (Try.f6.body).getD .skip
noncomputable def laws_FnExactPromised_fi : Fi := ⟨6, 1, 27, 4⟩
theorem laws_FnExactPromised_eq (m : Nat) : ∀ vs k, callK CX prims m 6 (fArgs laws_FnExactPromised_a vs) k = laws_FnExactPromised_w m vs k := by
  cases m with
  | zero => exact fun vs k => rfl
  | succ m => exact fun vs k => Eq.trans (b := bodyK CX (callK CX prims m) (loopK CX (callK CX prims m) laws_FnExactPromised_fi laws_FnExactPromised_c m) 6 Try.f6 laws_FnExactPromised_c (fArgs laws_FnExactPromised_a vs) k) (by kernel_rfl) ((bodyK_congr (laws_FnExactPromised_cf m) rfl 6 Try.f6 laws_FnExactPromised_c (fArgs laws_FnExactPromised_a vs) k).trans (by kernel_rfl))

end Go.Proofs.Ytmhiklfijdpebaa

