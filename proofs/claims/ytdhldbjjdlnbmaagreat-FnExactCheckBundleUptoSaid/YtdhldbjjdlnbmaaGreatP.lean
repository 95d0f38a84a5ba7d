/- A part of the proof: texts S7P1: see the last part's opening words. -/
import Derived.Test.YtdhldbjjdlnbmaaGreatH
set_option linter.unusedVariables false
set_option linter.unusedSimpArgs false
set_option linter.unnecessarySimpa false
namespace Go.Proofs.YtdhldbjjdlnbmaaGreat
open Go Go.E Go.Proofs
def M_Digest : Nat → T → (T → An) → An
 | 0, _, _ => .bad
 | m + 1, x0, k0 => cond (decide (x0.rows.length ≤ 1073741824)) (k0 (.s (digestB x0.rows))) .bad
noncomputable def M_Digest_a : List Arg := [.one (.dz [.sc (.int .u8)] [])]
def M_Digest_w (m : Nat) (vs : List T) (k : Ret → An) : An := M_Digest m (vs.headD dflt) (fun z0 => k ⟨[.one (.sc .str z0)], [[none]], []⟩)
theorem M_Digest_eq (m : Nat) : ∀ vs k, callK CX prims m 42 (fArgs M_Digest_a vs) k = M_Digest_w m vs k := by
  intro vs k
  cases m with
  | zero => rfl
  | succ m =>
    refine Eq.trans (b := (primDigest (fArgs M_Digest_a vs)).bind k) (by kernel_rfl) ?_
    refine Eq.trans (b := (cond (decide ((vs.headD dflt).rows.length ≤ 1073741824)) (R3.ok ⟨[.one (.sc .str (.s (digestB (vs.headD dflt).rows)))], [[none]], []⟩) .bad).bind k) (by kernel_rfl) ?_
    rw [cond_bind]; rfl
def M_Digest_nil : Nat → T → (T → An) → An
 | 0, _, _ => .bad
 | m + 1, x0, k0 => cond x0.rows.isEmpty (k0 (.s (digestB []))) .bad
noncomputable def M_Digest_nil_a : List Arg := [.one (.dz [] [])]
def M_Digest_nil_w (m : Nat) (vs : List T) (k : Ret → An) : An := M_Digest_nil m (vs.headD dflt) (fun z0 => k ⟨[.one (.sc .str z0)], [[none]], []⟩)
theorem M_Digest_nil_eq (m : Nat) : ∀ vs k, callK CX prims m 42 (fArgs M_Digest_nil_a vs) k = M_Digest_nil_w m vs k := by
  intro vs k
  cases m with
  | zero => rfl
  | succ m =>
    refine Eq.trans (b := (primDigest (fArgs M_Digest_nil_a vs)).bind k) (by kernel_rfl) ?_
    refine Eq.trans (b := (cond (vs.headD dflt).rows.isEmpty (R3.ok ⟨[.one (.sc .str (.s (digestB [])))], [[none]], []⟩) .bad).bind k) (by kernel_rfl) ?_
    rw [cond_bind]; rfl
def slCl : Nat → T → (T → An) → An
 | 0, _, _ => .bad
 | m + 1, x0, k0 => cond (decide (x0.rows.length * 2 ≤ maxRow)) (k0 (T.l x0.rows)) .bad
noncomputable def slCl_a : List Arg := [.one (.dz [.sc (.str), .sc (.str)] [])]
def slCl_w (m : Nat) (vs : List T) (k : Ret → An) : An := slCl m (vs.headD dflt) (fun z0 => k ⟨[.one (.own [7000000] [.sc (.str), .sc (.str)] [.F, .F] z0.rows)], [[none]], []⟩)
theorem slCl_eq (m : Nat) : ∀ vs k, callK CX prims m 51 (fArgs slCl_a vs) k = slCl_w m vs k := by
  intro vs k
  cases m with
  | zero => rfl
  | succ m =>
    refine Eq.trans (b := ((primClone [.sc (.str), .sc (.str)]) (fArgs slCl_a vs)).bind k) (by kernel_rfl) ?_
    refine Eq.trans (b := (cond (decide ((vs.headD dflt).rows.length * 2 ≤ maxRow)) (R3.ok ⟨[.one (.own [7000000] [.sc (.str), .sc (.str)] [.F, .F] (vs.headD dflt).rows)], [[none]], []⟩) .bad).bind k) (by kernel_rfl) ?_
    rw [cond_bind]; rfl
def slIn : Nat → T → T → T → (T → An) → An
 | 0, _, _, _, _ => .bad
 | m + 1, x0, x1, x2, k0 => cond (decide (0 ≤ x1.int ∧ x1.int ≤ (x0.rows.length : Int)) && decide (0 < x2.rows.length) && decide ((x0.rows.length + x2.rows.length) * 2 ≤ maxRow)) (k0 (T.l (x0.rows.take x1.int.toNat ++ x2.rows ++ x0.rows.drop x1.int.toNat))) .bad
noncomputable def slIn_a : List Arg := [.one (.own [.sc (.str), .sc (.str)] [.F, .F] []), .one (.sc (.int .i64) (.l [])), .one (.own [.sc (.str), .sc (.str)] [.F, .F] [])]
def slIn_w (m : Nat) (vs : List T) (k : Ret → An) : An := slIn m (vs.headD dflt) (vs.tail.headD dflt) (vs.tail.tail.headD dflt) (fun z0 => k ⟨[.one (.own [7000000] [.sc (.str), .sc (.str)] [.F, .F] z0.rows)], [[none], [none], [none]], []⟩)
theorem slIn_eq (m : Nat) : ∀ vs k, callK CX prims m 78 (fArgs slIn_a vs) k = slIn_w m vs k := by
  intro vs k
  cases m with
  | zero => rfl
  | succ m =>
    refine Eq.trans (b := ((primInsert [.sc (.str), .sc (.str)]) (fArgs slIn_a vs)).bind k) (by kernel_rfl) ?_
    refine Eq.trans (b := (cond (decide (0 ≤ (vs.tail.headD dflt).int ∧ (vs.tail.headD dflt).int ≤ ((vs.headD dflt).rows.length : Int)) && decide (0 < (vs.tail.tail.headD dflt).rows.length) && decide (((vs.headD dflt).rows.length + (vs.tail.tail.headD dflt).rows.length) * 2 ≤ maxRow)) (R3.ok ⟨[.one (.own [7000000] [.sc (.str), .sc (.str)] [.F, .F] ((vs.headD dflt).rows.take (vs.tail.headD dflt).int.toNat ++ (vs.tail.tail.headD dflt).rows ++ (vs.headD dflt).rows.drop (vs.tail.headD dflt).int.toNat))], [[none], [none], [none]], []⟩) .bad).bind k) (by kernel_rfl) ?_
    rw [cond_bind]; rfl
noncomputable def W_szStringS_L0_0 (m : Nat) : Nat → T → T → T → (T → An) → (T → An) → An
 | 0, _, _, _, _, _ => .bad
 | n + 1, x0, x1, x2, k0, k1 =>
  cond (decide (x2.int < (x0.rows.length : Int)))
  (cond (decide ((0 : Int) ≤ x2.int ∧ x2.int < (x0.rows.length : Int)))
  (cond (decide ((IntKind.i64.wrap (x1.int - (((x0.rows.getD (Int.toNat x2.int) []).getD 0 dflt).str.size : Int))) < 0))
  (k0 (T.i (-1)))
  (W_szStringS_L0_0 m n x0 (T.i (IntKind.i64.wrap (x1.int - (((x0.rows.getD (Int.toNat x2.int) []).getD 0 dflt).str.size : Int)))) (T.i (IntKind.i64.wrap (x2.int + 1))) k0 k1))
  (.bad))
  (k1 x1)
noncomputable def W_szStringS_s0_0 : Pack := ⟨[(0, .one ⟨.sn [([4000000], 0)], .sl [.sc (.str)], .l []⟩), (1, .one ⟨.sc, .sc (.int .i64), .l []⟩), (5, .one ⟨.sc, .sc (.int .i64), .l []⟩)], [([4000000], .gone)]⟩
noncomputable def W_szStringS_e0_0 : Pack := ⟨[(4, .one ⟨.sc, .sc (.int .i64), .l []⟩)], []⟩
noncomputable def W_szStringS_e0_1 : Pack := ⟨[(1, .one ⟨.sc, .sc (.int .i64), .l []⟩)], []⟩
noncomputable def W_szStringS_L0_0w (m n : Nat) (vs : List T) (k : Ctl → Pack → An) : An := W_szStringS_L0_0 m n (vs.headD dflt) (vs.tail.headD dflt) (vs.tail.tail.headD dflt) (fun z0 => k .ret (fPack W_szStringS_e0_0 [z0])) (fun z0 => k (.exit 0) (fPack W_szStringS_e0_1 [z0]))
noncomputable def W_szStringS : Nat → T → T → (T → An) → An
 | 0, _, _, _ => .bad
 | m + 1, x0, x1, k0 =>
  cond (decide ((IntKind.i64.wrap (x1.int - (x0.rows.length : Int))) < 0))
  (k0 (T.i (-1)))
  (W_szStringS_L0_0 m m (T.l x0.rows) (T.i (IntKind.i64.wrap (x1.int - (x0.rows.length : Int)))) (T.i 0)
  (fun y0 => k0 y0)
  (fun y1 => k0 y1))
noncomputable def W_szStringS_a : List Arg := [.one (.dz [.sc (.str)] []), .one (.sc (.int .i64) (.l []))]
noncomputable def W_szStringS_w (m : Nat) (vs : List T) (k : Ret → An) : An := W_szStringS m (vs.headD dflt) (vs.tail.headD dflt) (fun z0 => k ⟨[.one (.sc (.int .i64) z0)], [[none], [none]], [none, none]⟩)
theorem W_szStringS_cf (m : Nat) : callK CX prims m = (callK CX prims m) := by
  rfl
noncomputable def W_szStringS_c : Code := (Tryz.f13.body).getD .skip
noncomputable def W_szStringS_fi : Fi := ⟨13, 2, 28, 16⟩
theorem W_szStringS_lf (m : Nat) : ∀ n, (∀ vs k, loopK CX (callK CX prims m) W_szStringS_fi W_szStringS_c n [0, 1, 0, 1, 1, 1] (fPack W_szStringS_s0_0 vs) k = W_szStringS_L0_0w m n vs k) ∧ ((loopK CX (callK CX prims m) W_szStringS_fi W_szStringS_c n) = (patL [0, 1, 0, 1, 1, 1] W_szStringS_s0_0 (W_szStringS_L0_0w m n) (loopK CX (callK CX prims m) W_szStringS_fi W_szStringS_c n))) :=
 lf1 (fun n h0 => by rw [← patL_eq h0]) (fun vs k => rfl) fun n hn vs k => (stepL_congr (W_szStringS_cf m) hn [0, 1, 0, 1, 1, 1] _ _).trans (by kernel_rfl)
theorem W_szStringS_eq (m : Nat) : ∀ vs k, callK CX prims m 13 (fArgs W_szStringS_a vs) k = W_szStringS_w m vs k := by
  cases m with
  | zero => exact fun vs k => rfl
  | succ m => exact fun vs k => Eq.trans (b := bodyK CX (callK CX prims m) (loopK CX (callK CX prims m) W_szStringS_fi W_szStringS_c m) 13 Tryz.f13 W_szStringS_c (fArgs W_szStringS_a vs) k) (by kernel_rfl) ((bodyK_congr (W_szStringS_cf m) ((W_szStringS_lf m m).2) 13 Tryz.f13 W_szStringS_c (fArgs W_szStringS_a vs) k).trans (by kernel_rfl))
noncomputable def W_szPair : Nat → T → T → T → (T → An) → An
 | 0, _, _, _, _ => .bad
 | m + 1, x0, x1, x2, k0 =>
  cond (decide ((IntKind.i64.wrap (x2.int - (x0.str.size : Int))) < 0))
  (k0 (T.i (-1)))
  (cond (decide ((IntKind.i64.wrap ((IntKind.i64.wrap (x2.int - (x0.str.size : Int))) - (x1.str.size : Int))) < 0))
  (k0 (T.i (-1)))
  (k0 (T.i (IntKind.i64.wrap ((IntKind.i64.wrap (x2.int - (x0.str.size : Int))) - (x1.str.size : Int))))))
noncomputable def W_szPair_a : List Arg := [.agg [.sc (.str) (.l []), .sc (.str) (.l [])], .one (.sc (.int .i64) (.l []))]
noncomputable def W_szPair_w (m : Nat) (vs : List T) (k : Ret → An) : An := W_szPair m (vs.headD dflt) (vs.tail.headD dflt) (vs.tail.tail.headD dflt) (fun z0 => k ⟨[.one (.sc (.int .i64) z0)], [[none, none], [none]], [none, none]⟩)
theorem W_szPair_cf (m : Nat) : callK CX prims m = (callK CX prims m) := by
  rfl
noncomputable def W_szPair_c : Code := (Tryz.f105.body).getD .skip
noncomputable def W_szPair_fi : Fi := ⟨105, 2, 20, 16⟩
theorem W_szPair_eq (m : Nat) : ∀ vs k, callK CX prims m 105 (fArgs W_szPair_a vs) k = W_szPair_w m vs k := by
  cases m with
  | zero => exact fun vs k => rfl
  | succ m => exact fun vs k => Eq.trans (b := bodyK CX (callK CX prims m) (loopK CX (callK CX prims m) W_szPair_fi W_szPair_c m) 105 Tryz.f105 W_szPair_c (fArgs W_szPair_a vs) k) (by kernel_rfl) ((bodyK_congr (W_szPair_cf m) rfl 105 Tryz.f105 W_szPair_c (fArgs W_szPair_a vs) k).trans (by kernel_rfl))
noncomputable def W_szItem : Nat → T → T → T → T → (T → An) → An
 | 0, _, _, _, _, _ => .bad
 | m + 1, x0, x1, x2, x3, k0 =>
  W_szPair m x0 x1 x3
  (fun y0 => cond (decide (y0.int < 0))
  (k0 (T.i (-1)))
  (W_szStringS m (T.l x2.rows) y0
  (fun y1 => cond (decide (y1.int < 0))
  (k0 (T.i (-1)))
  (k0 y1))))
noncomputable def W_szItem_a : List Arg := [.agg [.sc (.str) (.l []), .sc (.str) (.l []), .dz [.sc (.str)] []], .one (.sc (.int .i64) (.l []))]
noncomputable def W_szItem_w (m : Nat) (vs : List T) (k : Ret → An) : An := W_szItem m (vs.headD dflt) (vs.tail.headD dflt) (vs.tail.tail.headD dflt) (vs.tail.tail.tail.headD dflt) (fun z0 => k ⟨[.one (.sc (.int .i64) z0)], [[none, none, none], [none]], [none, none]⟩)
theorem W_szItem_cf (m : Nat) : callK CX prims m = (patC 105 W_szPair_a (W_szPair_w m) (patC 13 W_szStringS_a (W_szStringS_w m) (callK CX prims m))) := by
  rw [← patC_eq (fun vs k => W_szStringS_eq m vs k), ← patC_eq (fun vs k => W_szPair_eq m vs k)]
noncomputable def W_szItem_c : Code := (Tryz.f80.body).getD .skip
noncomputable def W_szItem_fi : Fi := ⟨80, 2, 18, 16⟩
theorem W_szItem_eq (m : Nat) : ∀ vs k, callK CX prims m 80 (fArgs W_szItem_a vs) k = W_szItem_w m vs k := by
  cases m with
  | zero => exact fun vs k => rfl
  | succ m => exact fun vs k => Eq.trans (b := bodyK CX (callK CX prims m) (loopK CX (callK CX prims m) W_szItem_fi W_szItem_c m) 80 Tryz.f80 W_szItem_c (fArgs W_szItem_a vs) k) (by kernel_rfl) ((bodyK_congr (W_szItem_cf m) rfl 80 Tryz.f80 W_szItem_c (fArgs W_szItem_a vs) k).trans (by kernel_rfl))
noncomputable def W_szItemS_L0_0 (m : Nat) : Nat → T → T → T → (T → An) → (T → An) → An
 | 0, _, _, _, _, _ => .bad
 | n + 1, x0, x1, x2, k0, k1 =>
  cond (decide (x2.int < (x0.rows.length : Int)))
  (cond (decide ((0 : Int) ≤ x2.int ∧ x2.int < (x0.rows.length : Int)))
  (W_szItem m ((x0.rows.getD (Int.toNat x2.int) []).getD 0 dflt) ((x0.rows.getD (Int.toNat x2.int) []).getD 1 dflt) (T.l ((x0.rows.getD (Int.toNat x2.int) []).getD 2 dflt).rows) x1
  (fun y0 => cond (decide (y0.int < 0))
  (k0 (T.i (-1)))
  (W_szItemS_L0_0 m n x0 y0 (T.i (IntKind.i64.wrap (x2.int + 1))) k0 k1)))
  (.bad))
  (k1 x1)
noncomputable def W_szItemS_s0_0 : Pack := ⟨[(0, .one ⟨.sn [([4000000], 0)], .sl [.sc (.str), .sc (.str), .sl [.sc (.str)]], .l []⟩), (1, .one ⟨.sc, .sc (.int .i64), .l []⟩), (5, .one ⟨.sc, .sc (.int .i64), .l []⟩)], [([4000000], .gone)]⟩
noncomputable def W_szItemS_e0_0 : Pack := ⟨[(4, .one ⟨.sc, .sc (.int .i64), .l []⟩)], []⟩
noncomputable def W_szItemS_e0_1 : Pack := ⟨[(1, .one ⟨.sc, .sc (.int .i64), .l []⟩)], []⟩
noncomputable def W_szItemS_L0_0w (m n : Nat) (vs : List T) (k : Ctl → Pack → An) : An := W_szItemS_L0_0 m n (vs.headD dflt) (vs.tail.headD dflt) (vs.tail.tail.headD dflt) (fun z0 => k .ret (fPack W_szItemS_e0_0 [z0])) (fun z0 => k (.exit 0) (fPack W_szItemS_e0_1 [z0]))
noncomputable def W_szItemS : Nat → T → T → (T → An) → An
 | 0, _, _, _ => .bad
 | m + 1, x0, x1, k0 =>
  cond (decide ((IntKind.i64.wrap (x1.int - (x0.rows.length : Int))) < 0))
  (k0 (T.i (-1)))
  (W_szItemS_L0_0 m m (T.l x0.rows) (T.i (IntKind.i64.wrap (x1.int - (x0.rows.length : Int)))) (T.i 0)
  (fun y1 => k0 y1)
  (fun y2 => k0 y2))
noncomputable def W_szItemS_a : List Arg := [.one (.dz [.sc (.str), .sc (.str), .sl [.sc (.str)]] []), .one (.sc (.int .i64) (.l []))]
noncomputable def W_szItemS_w (m : Nat) (vs : List T) (k : Ret → An) : An := W_szItemS m (vs.headD dflt) (vs.tail.headD dflt) (fun z0 => k ⟨[.one (.sc (.int .i64) z0)], [[none], [none]], [none, none]⟩)
theorem W_szItemS_cf (m : Nat) : callK CX prims m = (patC 80 W_szItem_a (W_szItem_w m) (callK CX prims m)) := by
  rw [← patC_eq (fun vs k => W_szItem_eq m vs k)]
noncomputable def W_szItemS_c : Code := (Tryz.f55.body).getD .skip
noncomputable def W_szItemS_fi : Fi := ⟨55, 2, 27, 16⟩
theorem W_szItemS_lf (m : Nat) : ∀ n, (∀ vs k, loopK CX (callK CX prims m) W_szItemS_fi W_szItemS_c n [0, 1, 0, 1, 1, 1] (fPack W_szItemS_s0_0 vs) k = W_szItemS_L0_0w m n vs k) ∧ ((loopK CX (callK CX prims m) W_szItemS_fi W_szItemS_c n) = (patL [0, 1, 0, 1, 1, 1] W_szItemS_s0_0 (W_szItemS_L0_0w m n) (loopK CX (callK CX prims m) W_szItemS_fi W_szItemS_c n))) :=
 lf1 (fun n h0 => by rw [← patL_eq h0]) (fun vs k => rfl) fun n hn vs k => (stepL_congr (W_szItemS_cf m) hn [0, 1, 0, 1, 1, 1] _ _).trans (by kernel_rfl)
theorem W_szItemS_eq (m : Nat) : ∀ vs k, callK CX prims m 55 (fArgs W_szItemS_a vs) k = W_szItemS_w m vs k := by
  cases m with
  | zero => exact fun vs k => rfl
  | succ m => exact fun vs k => Eq.trans (b := bodyK CX (callK CX prims m) (loopK CX (callK CX prims m) W_szItemS_fi W_szItemS_c m) 55 Tryz.f55 W_szItemS_c (fArgs W_szItemS_a vs) k) (by kernel_rfl) ((bodyK_congr (W_szItemS_cf m) ((W_szItemS_lf m m).2) 55 Tryz.f55 W_szItemS_c (fArgs W_szItemS_a vs) k).trans (by kernel_rfl))
noncomputable def W_szProof : Nat → T → T → T → T → (T → An) → An
 | 0, _, _, _, _, _ => .bad
 | m + 1, x0, x1, x2, x3, k0 =>
  W_szItemS m (T.l x2.rows) x3
  (fun y0 => cond (decide (y0.int < 0))
  (k0 (T.i (-1)))
  (k0 y0))
noncomputable def W_szProof_a : List Arg := [.agg [.sc (.int .i64) (.l []), .sc (.int .i64) (.l []), .dz [.sc (.str), .sc (.str), .sl [.sc (.str)]] []], .one (.sc (.int .i64) (.l []))]
noncomputable def W_szProof_w (m : Nat) (vs : List T) (k : Ret → An) : An := W_szProof m (vs.headD dflt) (vs.tail.headD dflt) (vs.tail.tail.headD dflt) (vs.tail.tail.tail.headD dflt) (fun z0 => k ⟨[.one (.sc (.int .i64) z0)], [[none, none, none], [none]], [none, none]⟩)
theorem W_szProof_cf (m : Nat) : callK CX prims m = (patC 55 W_szItemS_a (W_szItemS_w m) (callK CX prims m)) := by
  rw [← patC_eq (fun vs k => W_szItemS_eq m vs k)]
noncomputable def W_szProof_c : Code := (Tryz.f33.body).getD .skip
noncomputable def W_szProof_fi : Fi := ⟨33, 2, 12, 16⟩
theorem W_szProof_eq (m : Nat) : ∀ vs k, callK CX prims m 33 (fArgs W_szProof_a vs) k = W_szProof_w m vs k := by
  cases m with
  | zero => exact fun vs k => rfl
  | succ m => exact fun vs k => Eq.trans (b := bodyK CX (callK CX prims m) (loopK CX (callK CX prims m) W_szProof_fi W_szProof_c m) 33 Tryz.f33 W_szProof_c (fArgs W_szProof_a vs) k) (by kernel_rfl) ((bodyK_congr (W_szProof_cf m) rfl 33 Tryz.f33 W_szProof_c (fArgs W_szProof_a vs) k).trans (by kernel_rfl))
noncomputable def W_szProofS_L0_0 (m : Nat) : Nat → T → T → T → (T → An) → (T → An) → An
 | 0, _, _, _, _, _ => .bad
 | n + 1, x0, x1, x2, k0, k1 =>
  cond (decide (x2.int < (x0.rows.length : Int)))
  (cond (decide ((0 : Int) ≤ x2.int ∧ x2.int < (x0.rows.length : Int)))
  (W_szProof m ((x0.rows.getD (Int.toNat x2.int) []).getD 0 dflt) ((x0.rows.getD (Int.toNat x2.int) []).getD 1 dflt) (T.l ((x0.rows.getD (Int.toNat x2.int) []).getD 2 dflt).rows) x1
  (fun y0 => cond (decide (y0.int < 0))
  (k0 (T.i (-1)))
  (W_szProofS_L0_0 m n x0 y0 (T.i (IntKind.i64.wrap (x2.int + 1))) k0 k1)))
  (.bad))
  (k1 x1)
noncomputable def W_szProofS_s0_0 : Pack := ⟨[(0, .one ⟨.sn [([4000000], 0)], .sl [.sc (.int .i64), .sc (.int .i64), .sl [.sc (.str), .sc (.str), .sl [.sc (.str)]]], .l []⟩), (1, .one ⟨.sc, .sc (.int .i64), .l []⟩), (5, .one ⟨.sc, .sc (.int .i64), .l []⟩)], [([4000000], .gone)]⟩
noncomputable def W_szProofS_e0_0 : Pack := ⟨[(4, .one ⟨.sc, .sc (.int .i64), .l []⟩)], []⟩
noncomputable def W_szProofS_e0_1 : Pack := ⟨[(1, .one ⟨.sc, .sc (.int .i64), .l []⟩)], []⟩
noncomputable def W_szProofS_L0_0w (m n : Nat) (vs : List T) (k : Ctl → Pack → An) : An := W_szProofS_L0_0 m n (vs.headD dflt) (vs.tail.headD dflt) (vs.tail.tail.headD dflt) (fun z0 => k .ret (fPack W_szProofS_e0_0 [z0])) (fun z0 => k (.exit 0) (fPack W_szProofS_e0_1 [z0]))
noncomputable def W_szProofS : Nat → T → T → (T → An) → An
 | 0, _, _, _ => .bad
 | m + 1, x0, x1, k0 =>
  cond (decide ((IntKind.i64.wrap (x1.int - (x0.rows.length : Int))) < 0))
  (k0 (T.i (-1)))
  (W_szProofS_L0_0 m m (T.l x0.rows) (T.i (IntKind.i64.wrap (x1.int - (x0.rows.length : Int)))) (T.i 0)
  (fun y1 => k0 y1)
  (fun y2 => k0 y2))
noncomputable def W_szProofS_a : List Arg := [.one (.dz [.sc (.int .i64), .sc (.int .i64), .sl [.sc (.str), .sc (.str), .sl [.sc (.str)]]] []), .one (.sc (.int .i64) (.l []))]
noncomputable def W_szProofS_w (m : Nat) (vs : List T) (k : Ret → An) : An := W_szProofS m (vs.headD dflt) (vs.tail.headD dflt) (fun z0 => k ⟨[.one (.sc (.int .i64) z0)], [[none], [none]], [none, none]⟩)
theorem W_szProofS_cf (m : Nat) : callK CX prims m = (patC 33 W_szProof_a (W_szProof_w m) (callK CX prims m)) := by
  rw [← patC_eq (fun vs k => W_szProof_eq m vs k)]
noncomputable def W_szProofS_c : Code := (Tryz.f14.body).getD .skip
noncomputable def W_szProofS_fi : Fi := ⟨14, 2, 27, 16⟩
theorem W_szProofS_lf (m : Nat) : ∀ n, (∀ vs k, loopK CX (callK CX prims m) W_szProofS_fi W_szProofS_c n [0, 1, 0, 1, 1, 1] (fPack W_szProofS_s0_0 vs) k = W_szProofS_L0_0w m n vs k) ∧ ((loopK CX (callK CX prims m) W_szProofS_fi W_szProofS_c n) = (patL [0, 1, 0, 1, 1, 1] W_szProofS_s0_0 (W_szProofS_L0_0w m n) (loopK CX (callK CX prims m) W_szProofS_fi W_szProofS_c n))) :=
 lf1 (fun n h0 => by rw [← patL_eq h0]) (fun vs k => rfl) fun n hn vs k => (stepL_congr (W_szProofS_cf m) hn [0, 1, 0, 1, 1, 1] _ _).trans (by kernel_rfl)
theorem W_szProofS_eq (m : Nat) : ∀ vs k, callK CX prims m 14 (fArgs W_szProofS_a vs) k = W_szProofS_w m vs k := by
  cases m with
  | zero => exact fun vs k => rfl
  | succ m => exact fun vs k => Eq.trans (b := bodyK CX (callK CX prims m) (loopK CX (callK CX prims m) W_szProofS_fi W_szProofS_c m) 14 Tryz.f14 W_szProofS_c (fArgs W_szProofS_a vs) k) (by kernel_rfl) ((bodyK_congr (W_szProofS_cf m) ((W_szProofS_lf m m).2) 14 Tryz.f14 W_szProofS_c (fArgs W_szProofS_a vs) k).trans (by kernel_rfl))
noncomputable def W_szBundle : Nat → T → T → T → T → T → (T → An) → An
 | 0, _, _, _, _, _, _ => .bad
 | m + 1, x0, x1, x2, x3, x4, k0 =>
  cond (decide ((IntKind.i64.wrap (x4.int - (x1.str.size : Int))) < 0))
  (k0 (T.i (-1)))
  (W_szStringS m (T.l x2.rows) (T.i (IntKind.i64.wrap (x4.int - (x1.str.size : Int))))
  (fun y0 => cond (decide (y0.int < 0))
  (k0 (T.i (-1)))
  (W_szProofS m (T.l x3.rows) y0
  (fun y1 => cond (decide (y1.int < 0))
  (k0 (T.i (-1)))
  (k0 y1)))))
noncomputable def W_szBundle_a : List Arg := [.agg [.sc (.int .i64) (.l []), .sc (.str) (.l []), .dz [.sc (.str)] [], .dz [.sc (.int .i64), .sc (.int .i64), .sl [.sc (.str), .sc (.str), .sl [.sc (.str)]]] []], .one (.sc (.int .i64) (.l []))]
noncomputable def W_szBundle_w (m : Nat) (vs : List T) (k : Ret → An) : An := W_szBundle m (vs.headD dflt) (vs.tail.headD dflt) (vs.tail.tail.headD dflt) (vs.tail.tail.tail.headD dflt) (vs.tail.tail.tail.tail.headD dflt) (fun z0 => k ⟨[.one (.sc (.int .i64) z0)], [[none, none, none, none], [none]], [none, none]⟩)
theorem W_szBundle_cf (m : Nat) : callK CX prims m = (patC 13 W_szStringS_a (W_szStringS_w m) (patC 14 W_szProofS_a (W_szProofS_w m) (callK CX prims m))) := by
  rw [← patC_eq (fun vs k => W_szProofS_eq m vs k), ← patC_eq (fun vs k => W_szStringS_eq m vs k)]
noncomputable def W_szBundle_c : Code := (Tryz.f4.body).getD .skip
noncomputable def W_szBundle_fi : Fi := ⟨4, 2, 25, 16⟩
theorem W_szBundle_eq (m : Nat) : ∀ vs k, callK CX prims m 4 (fArgs W_szBundle_a vs) k = W_szBundle_w m vs k := by
  cases m with
  | zero => exact fun vs k => rfl
  | succ m => exact fun vs k => Eq.trans (b := bodyK CX (callK CX prims m) (loopK CX (callK CX prims m) W_szBundle_fi W_szBundle_c m) 4 Tryz.f4 W_szBundle_c (fArgs W_szBundle_a vs) k) (by kernel_rfl) ((bodyK_congr (W_szBundle_cf m) rfl 4 Tryz.f4 W_szBundle_c (fArgs W_szBundle_a vs) k).trans (by kernel_rfl))
noncomputable def W_toStringS_L0_0 (m : Nat) : Nat → T → T → T → (T → An) → An
 | 0, _, _, _, _ => .bad
 | n + 1, x0, x1, x2, k0 =>
  cond (decide (x1.int < (x0.rows.length : Int)))
  (cond (decide ((0 : Int) ≤ x1.int ∧ x1.int < (x0.rows.length : Int)))
  (cond (decide ((0 : Int) ≤ x1.int ∧ x1.int < (x2.rows.length : Int)))
  (cond (decide ((Int.toNat x1.int) < x2.rows.length))
  (W_toStringS_L0_0 m n x0 (T.i (IntKind.i64.wrap (x1.int + 1))) (T.l (x2.rows.set (Int.toNat x1.int) ((x2.rows.getD (Int.toNat x1.int) []).set 0 ((x0.rows.getD (Int.toNat x1.int) []).getD 0 dflt)))) k0)
  (.bad))
  (.bad))
  (.bad))
  (k0 (T.l x2.rows))
noncomputable def W_toStringS_s0_0 : Pack := ⟨[(0, .one ⟨.sn [([4000000], 0)], .sl [.sc (.str)], .l []⟩), (3, .one ⟨.al [1000000, 1] 0, .sl [.sc (.str)], .l []⟩), (4, .one ⟨.sc, .sc (.int .i64), .l []⟩)], [([4000000], .gone), ([1000000, 1], .row [.sc (.str)] [.F] [])]⟩
noncomputable def W_toStringS_e0_0 : Pack := ⟨[(3, .one ⟨.al [1000000, 0] 0, .sl [.sc (.str)], .l []⟩)], [([1000000, 0], .row [.sc (.str)] [.F] [])]⟩
noncomputable def W_toStringS_L0_0w (m n : Nat) (vs : List T) (k : Ctl → Pack → An) : An := W_toStringS_L0_0 m n (vs.headD dflt) (vs.tail.headD dflt) (vs.tail.tail.headD dflt) (fun z0 => k (.exit 0) (fPack W_toStringS_e0_0 [z0]))
noncomputable def W_toStringS : Nat → T → (T → An) → An
 | 0, _, _ => .bad
 | m + 1, x0, k0 =>
  cond (decide (0 ≤ (x0.rows.length : Int) ∧ (x0.rows.length : Int) ≤ (x0.rows.length : Int)))
  (cond (decide ((x0.rows.length : Int) * ((16 : Nat) : Int) ≤ (maxCells : Int)))
  (W_toStringS_L0_0 m m (T.l x0.rows) (T.i 0) (T.l (List.replicate (Int.toNat (x0.rows.length : Int)) [(T.s (⟨#[]⟩ : ByteArray))]))
  (fun y0 => k0 (T.l y0.rows)))
  (.bad))
  (.bad)
noncomputable def W_toStringS_a : List Arg := [.one (.dz [.sc (.str)] [])]
noncomputable def W_toStringS_w (m : Nat) (vs : List T) (k : Ret → An) : An := W_toStringS m (vs.headD dflt) (fun z0 => k ⟨[.one (.own [1000000, 0] [.sc (.str)] [.F] z0.rows)], [[none]], [none]⟩)
theorem W_toStringS_cf (m : Nat) : callK CX prims m = (callK CX prims m) := by
  rfl
noncomputable def W_toStringS_c : Code := (Tryz.f20.body).getD .skip
noncomputable def W_toStringS_fi : Fi := ⟨20, 1, 22, 4⟩
theorem W_toStringS_lf (m : Nat) : ∀ n, (∀ vs k, loopK CX (callK CX prims m) W_toStringS_fi W_toStringS_c n [0, 1, 0, 1, 1] (fPack W_toStringS_s0_0 vs) k = W_toStringS_L0_0w m n vs k) ∧ ((loopK CX (callK CX prims m) W_toStringS_fi W_toStringS_c n) = (patL [0, 1, 0, 1, 1] W_toStringS_s0_0 (W_toStringS_L0_0w m n) (loopK CX (callK CX prims m) W_toStringS_fi W_toStringS_c n))) :=
 lf1 (fun n h0 => by rw [← patL_eq h0]) (fun vs k => rfl) fun n hn vs k => (stepL_congr (W_toStringS_cf m) hn [0, 1, 0, 1, 1] _ _).trans (by kernel_rfl)
theorem W_toStringS_eq (m : Nat) : ∀ vs k, callK CX prims m 20 (fArgs W_toStringS_a vs) k = W_toStringS_w m vs k := by
  cases m with
  | zero => exact fun vs k => rfl
  | succ m => exact fun vs k => Eq.trans (b := bodyK CX (callK CX prims m) (loopK CX (callK CX prims m) W_toStringS_fi W_toStringS_c m) 20 Tryz.f20 W_toStringS_c (fArgs W_toStringS_a vs) k) (by kernel_rfl) ((bodyK_congr (W_toStringS_cf m) ((W_toStringS_lf m m).2) 20 Tryz.f20 W_toStringS_c (fArgs W_toStringS_a vs) k).trans (by kernel_rfl))
noncomputable def W_toPair : Nat → T → T → (T → T → An) → An
 | 0, _, _, _ => .bad
 | m + 1, x0, x1, k0 =>
  k0 x0 x1
noncomputable def W_toPair_a : List Arg := [.agg [.sc (.str) (.l []), .sc (.str) (.l [])]]
noncomputable def W_toPair_w (m : Nat) (vs : List T) (k : Ret → An) : An := W_toPair m (vs.headD dflt) (vs.tail.headD dflt) (fun z0 z1 => k ⟨[.agg [.sc (.str) z0, .sc (.str) z1]], [[none, none]], [none]⟩)
theorem W_toPair_cf (m : Nat) : callK CX prims m = (callK CX prims m) := by
  rfl
noncomputable def W_toPair_c : Code := (Tryz.f108.body).getD .skip
noncomputable def W_toPair_fi : Fi := ⟨108, 1, 11, 4⟩
theorem W_toPair_eq (m : Nat) : ∀ vs k, callK CX prims m 108 (fArgs W_toPair_a vs) k = W_toPair_w m vs k := by
  cases m with
  | zero => exact fun vs k => rfl
  | succ m => exact fun vs k => Eq.trans (b := bodyK CX (callK CX prims m) (loopK CX (callK CX prims m) W_toPair_fi W_toPair_c m) 108 Tryz.f108 W_toPair_c (fArgs W_toPair_a vs) k) (by kernel_rfl) ((bodyK_congr (W_toPair_cf m) rfl 108 Tryz.f108 W_toPair_c (fArgs W_toPair_a vs) k).trans (by kernel_rfl))
noncomputable def W_toItem : Nat → T → T → T → (T → T → T → An) → An
 | 0, _, _, _, _ => .bad
 | m + 1, x0, x1, x2, k0 =>
  W_toPair m x0 x1
  (fun y0 y1 => W_toStringS m (T.l x2.rows)
  (fun y2 => k0 y0 y1 (T.l y2.rows)))
noncomputable def W_toItem_a : List Arg := [.agg [.sc (.str) (.l []), .sc (.str) (.l []), .dz [.sc (.str)] []]]
noncomputable def W_toItem_w (m : Nat) (vs : List T) (k : Ret → An) : An := W_toItem m (vs.headD dflt) (vs.tail.headD dflt) (vs.tail.tail.headD dflt) (fun z0 z1 z2 => k ⟨[.agg [.sc (.str) z0, .sc (.str) z1, .own [2000010, 0, 0] [.sc (.str)] [.F] z2.rows]], [[none, none, none]], [none]⟩)
theorem W_toItem_cf (m : Nat) : callK CX prims m = (patC 108 W_toPair_a (W_toPair_w m) (patC 20 W_toStringS_a (W_toStringS_w m) (callK CX prims m))) := by
  rw [← patC_eq (fun vs k => W_toStringS_eq m vs k), ← patC_eq (fun vs k => W_toPair_eq m vs k)]
noncomputable def W_toItem_c : Code := (Tryz.f89.body).getD .skip
noncomputable def W_toItem_fi : Fi := ⟨89, 1, 13, 4⟩
theorem W_toItem_eq (m : Nat) : ∀ vs k, callK CX prims m 89 (fArgs W_toItem_a vs) k = W_toItem_w m vs k := by
  cases m with
  | zero => exact fun vs k => rfl
  | succ m => exact fun vs k => Eq.trans (b := bodyK CX (callK CX prims m) (loopK CX (callK CX prims m) W_toItem_fi W_toItem_c m) 89 Tryz.f89 W_toItem_c (fArgs W_toItem_a vs) k) (by kernel_rfl) ((bodyK_congr (W_toItem_cf m) rfl 89 Tryz.f89 W_toItem_c (fArgs W_toItem_a vs) k).trans (by kernel_rfl))
noncomputable def W_toItemS_L0_0 (m : Nat) : Nat → T → T → T → (T → An) → An
 | 0, _, _, _, _ => .bad
 | n + 1, x0, x1, x2, k0 =>
  cond (decide (x1.int < (x0.rows.length : Int)))
  (cond (decide ((0 : Int) ≤ x1.int ∧ x1.int < (x0.rows.length : Int)))
  (W_toItem m ((x0.rows.getD (Int.toNat x1.int) []).getD 0 dflt) ((x0.rows.getD (Int.toNat x1.int) []).getD 1 dflt) (T.l ((x0.rows.getD (Int.toNat x1.int) []).getD 2 dflt).rows)
  (fun y0 y1 y2 => cond (decide ((0 : Int) ≤ x1.int ∧ x1.int < (x2.rows.length : Int)))
  (cond (decide ((Int.toNat x1.int) < x2.rows.length))
  (W_toItemS_L0_0 m n x0 (T.i (IntKind.i64.wrap (x1.int + 1))) (T.l (x2.rows.set (Int.toNat x1.int) ((((x2.rows.getD (Int.toNat x1.int) []).set 0 y0).set 1 y1).set 2 (T.l y2.rows)))) k0)
  (.bad))
  (.bad)))
  (.bad))
  (k0 (T.l x2.rows))
noncomputable def W_toItemS_s0_0 : Pack := ⟨[(0, .one ⟨.sn [([4000000], 0)], .sl [.sc (.str), .sc (.str), .sl [.sc (.str)]], .l []⟩), (3, .one ⟨.al [1000000, 1] 0, .sl [.sc (.str), .sc (.str), .sl [.sc (.str)]], .l []⟩), (4, .one ⟨.sc, .sc (.int .i64), .l []⟩)], [([4000000], .gone), ([1000000, 1], .row [.sc (.str), .sc (.str), .sl [.sc (.str)]] [.F, .F, .O [.F]] [])]⟩
noncomputable def W_toItemS_e0_0 : Pack := ⟨[(3, .one ⟨.al [1000000, 0] 0, .sl [.sc (.str), .sc (.str), .sl [.sc (.str)]], .l []⟩)], [([1000000, 0], .row [.sc (.str), .sc (.str), .sl [.sc (.str)]] [.F, .F, .O [.F]] [])]⟩
noncomputable def W_toItemS_L0_0w (m n : Nat) (vs : List T) (k : Ctl → Pack → An) : An := W_toItemS_L0_0 m n (vs.headD dflt) (vs.tail.headD dflt) (vs.tail.tail.headD dflt) (fun z0 => k (.exit 0) (fPack W_toItemS_e0_0 [z0]))
noncomputable def W_toItemS : Nat → T → (T → An) → An
 | 0, _, _ => .bad
 | m + 1, x0, k0 =>
  cond (decide (0 ≤ (x0.rows.length : Int) ∧ (x0.rows.length : Int) ≤ (x0.rows.length : Int)))
  (cond (decide ((x0.rows.length : Int) * ((56 : Nat) : Int) ≤ (maxCells : Int)))
  (W_toItemS_L0_0 m m (T.l x0.rows) (T.i 0) (T.l (List.replicate (Int.toNat (x0.rows.length : Int)) [(T.s (⟨#[]⟩ : ByteArray)), (T.s (⟨#[]⟩ : ByteArray)), (T.l [])]))
  (fun y3 => k0 (T.l y3.rows)))
  (.bad))
  (.bad)
noncomputable def W_toItemS_a : List Arg := [.one (.dz [.sc (.str), .sc (.str), .sl [.sc (.str)]] [])]
noncomputable def W_toItemS_w (m : Nat) (vs : List T) (k : Ret → An) : An := W_toItemS m (vs.headD dflt) (fun z0 => k ⟨[.one (.own [1000000, 0] [.sc (.str), .sc (.str), .sl [.sc (.str)]] [.F, .F, .O [.F]] z0.rows)], [[none]], [none]⟩)
theorem W_toItemS_cf (m : Nat) : callK CX prims m = (patC 89 W_toItem_a (W_toItem_w m) (callK CX prims m)) := by
  rw [← patC_eq (fun vs k => W_toItem_eq m vs k)]
noncomputable def W_toItemS_c : Code := (Tryz.f66.body).getD .skip
noncomputable def W_toItemS_fi : Fi := ⟨66, 1, 23, 4⟩
theorem W_toItemS_lf (m : Nat) : ∀ n, (∀ vs k, loopK CX (callK CX prims m) W_toItemS_fi W_toItemS_c n [0, 1, 0, 1, 1] (fPack W_toItemS_s0_0 vs) k = W_toItemS_L0_0w m n vs k) ∧ ((loopK CX (callK CX prims m) W_toItemS_fi W_toItemS_c n) = (patL [0, 1, 0, 1, 1] W_toItemS_s0_0 (W_toItemS_L0_0w m n) (loopK CX (callK CX prims m) W_toItemS_fi W_toItemS_c n))) :=
 lf1 (fun n h0 => by rw [← patL_eq h0]) (fun vs k => rfl) fun n hn vs k => (stepL_congr (W_toItemS_cf m) hn [0, 1, 0, 1, 1] _ _).trans (by kernel_rfl)
theorem W_toItemS_eq (m : Nat) : ∀ vs k, callK CX prims m 66 (fArgs W_toItemS_a vs) k = W_toItemS_w m vs k := by
  cases m with
  | zero => exact fun vs k => rfl
  | succ m => exact fun vs k => Eq.trans (b := bodyK CX (callK CX prims m) (loopK CX (callK CX prims m) W_toItemS_fi W_toItemS_c m) 66 Tryz.f66 W_toItemS_c (fArgs W_toItemS_a vs) k) (by kernel_rfl) ((bodyK_congr (W_toItemS_cf m) ((W_toItemS_lf m m).2) 66 Tryz.f66 W_toItemS_c (fArgs W_toItemS_a vs) k).trans (by kernel_rfl))
noncomputable def W_toProof : Nat → T → T → T → (T → T → T → An) → An
 | 0, _, _, _, _ => .bad
 | m + 1, x0, x1, x2, k0 =>
  W_toItemS m (T.l x2.rows)
  (fun y0 => k0 x0 x1 (T.l y0.rows))
noncomputable def W_toProof_a : List Arg := [.agg [.sc (.int .i64) (.l []), .sc (.int .i64) (.l []), .dz [.sc (.str), .sc (.str), .sl [.sc (.str)]] []]]
noncomputable def W_toProof_w (m : Nat) (vs : List T) (k : Ret → An) : An := W_toProof m (vs.headD dflt) (vs.tail.headD dflt) (vs.tail.tail.headD dflt) (fun z0 z1 z2 => k ⟨[.agg [.sc (.int .i64) z0, .sc (.int .i64) z1, .own [2000012, 0, 0] [.sc (.str), .sc (.str), .sl [.sc (.str)]] [.F, .F, .O [.F]] z2.rows]], [[none, none, none]], [none]⟩)
theorem W_toProof_cf (m : Nat) : callK CX prims m = (patC 66 W_toItemS_a (W_toItemS_w m) (callK CX prims m)) := by
  rw [← patC_eq (fun vs k => W_toItemS_eq m vs k)]
noncomputable def W_toProof_c : Code := (Tryz.f41.body).getD .skip
noncomputable def W_toProof_fi : Fi := ⟨41, 1, 15, 4⟩
theorem W_toProof_eq (m : Nat) : ∀ vs k, callK CX prims m 41 (fArgs W_toProof_a vs) k = W_toProof_w m vs k := by
  cases m with
  | zero => exact fun vs k => rfl
  | succ m => exact fun vs k => Eq.trans (b := bodyK CX (callK CX prims m) (loopK CX (callK CX prims m) W_toProof_fi W_toProof_c m) 41 Tryz.f41 W_toProof_c (fArgs W_toProof_a vs) k) (by kernel_rfl) ((bodyK_congr (W_toProof_cf m) rfl 41 Tryz.f41 W_toProof_c (fArgs W_toProof_a vs) k).trans (by kernel_rfl))
noncomputable def W_toProofS_L0_0 (m : Nat) : Nat → T → T → T → (T → An) → An
 | 0, _, _, _, _ => .bad
 | n + 1, x0, x1, x2, k0 =>
  cond (decide (x1.int < (x0.rows.length : Int)))
  (cond (decide ((0 : Int) ≤ x1.int ∧ x1.int < (x0.rows.length : Int)))
  (W_toProof m ((x0.rows.getD (Int.toNat x1.int) []).getD 0 dflt) ((x0.rows.getD (Int.toNat x1.int) []).getD 1 dflt) (T.l ((x0.rows.getD (Int.toNat x1.int) []).getD 2 dflt).rows)
  (fun y0 y1 y2 => cond (decide ((0 : Int) ≤ x1.int ∧ x1.int < (x2.rows.length : Int)))
  (cond (decide ((Int.toNat x1.int) < x2.rows.length))
  (W_toProofS_L0_0 m n x0 (T.i (IntKind.i64.wrap (x1.int + 1))) (T.l (x2.rows.set (Int.toNat x1.int) ((((x2.rows.getD (Int.toNat x1.int) []).set 0 y0).set 1 y1).set 2 (T.l y2.rows)))) k0)
  (.bad))
  (.bad)))
  (.bad))
  (k0 (T.l x2.rows))
noncomputable def W_toProofS_s0_0 : Pack := ⟨[(0, .one ⟨.sn [([4000000], 0)], .sl [.sc (.int .i64), .sc (.int .i64), .sl [.sc (.str), .sc (.str), .sl [.sc (.str)]]], .l []⟩), (3, .one ⟨.al [1000000, 1] 0, .sl [.sc (.int .i64), .sc (.int .i64), .sl [.sc (.str), .sc (.str), .sl [.sc (.str)]]], .l []⟩), (4, .one ⟨.sc, .sc (.int .i64), .l []⟩)], [([4000000], .gone), ([1000000, 1], .row [.sc (.int .i64), .sc (.int .i64), .sl [.sc (.str), .sc (.str), .sl [.sc (.str)]]] [.F, .F, .O [.F, .F, .O [.F]]] [])]⟩
noncomputable def W_toProofS_e0_0 : Pack := ⟨[(3, .one ⟨.al [1000000, 0] 0, .sl [.sc (.int .i64), .sc (.int .i64), .sl [.sc (.str), .sc (.str), .sl [.sc (.str)]]], .l []⟩)], [([1000000, 0], .row [.sc (.int .i64), .sc (.int .i64), .sl [.sc (.str), .sc (.str), .sl [.sc (.str)]]] [.F, .F, .O [.F, .F, .O [.F]]] [])]⟩
noncomputable def W_toProofS_L0_0w (m n : Nat) (vs : List T) (k : Ctl → Pack → An) : An := W_toProofS_L0_0 m n (vs.headD dflt) (vs.tail.headD dflt) (vs.tail.tail.headD dflt) (fun z0 => k (.exit 0) (fPack W_toProofS_e0_0 [z0]))
noncomputable def W_toProofS : Nat → T → (T → An) → An
 | 0, _, _ => .bad
 | m + 1, x0, k0 =>
  cond (decide (0 ≤ (x0.rows.length : Int) ∧ (x0.rows.length : Int) ≤ (x0.rows.length : Int)))
  (cond (decide ((x0.rows.length : Int) * ((40 : Nat) : Int) ≤ (maxCells : Int)))
  (W_toProofS_L0_0 m m (T.l x0.rows) (T.i 0) (T.l (List.replicate (Int.toNat (x0.rows.length : Int)) [(T.i 0), (T.i 0), (T.l [])]))
  (fun y3 => k0 (T.l y3.rows)))
  (.bad))
  (.bad)
noncomputable def W_toProofS_a : List Arg := [.one (.dz [.sc (.int .i64), .sc (.int .i64), .sl [.sc (.str), .sc (.str), .sl [.sc (.str)]]] [])]
noncomputable def W_toProofS_w (m : Nat) (vs : List T) (k : Ret → An) : An := W_toProofS m (vs.headD dflt) (fun z0 => k ⟨[.one (.own [1000000, 0] [.sc (.int .i64), .sc (.int .i64), .sl [.sc (.str), .sc (.str), .sl [.sc (.str)]]] [.F, .F, .O [.F, .F, .O [.F]]] z0.rows)], [[none]], [none]⟩)
theorem W_toProofS_cf (m : Nat) : callK CX prims m = (patC 41 W_toProof_a (W_toProof_w m) (callK CX prims m)) := by
  rw [← patC_eq (fun vs k => W_toProof_eq m vs k)]
noncomputable def W_toProofS_c : Code := (Tryz.f21.body).getD .skip
noncomputable def W_toProofS_fi : Fi := ⟨21, 1, 23, 4⟩
theorem W_toProofS_lf (m : Nat) : ∀ n, (∀ vs k, loopK CX (callK CX prims m) W_toProofS_fi W_toProofS_c n [0, 1, 0, 1, 1] (fPack W_toProofS_s0_0 vs) k = W_toProofS_L0_0w m n vs k) ∧ ((loopK CX (callK CX prims m) W_toProofS_fi W_toProofS_c n) = (patL [0, 1, 0, 1, 1] W_toProofS_s0_0 (W_toProofS_L0_0w m n) (loopK CX (callK CX prims m) W_toProofS_fi W_toProofS_c n))) :=
 lf1 (fun n h0 => by rw [← patL_eq h0]) (fun vs k => rfl) fun n hn vs k => (stepL_congr (W_toProofS_cf m) hn [0, 1, 0, 1, 1] _ _).trans (by kernel_rfl)
theorem W_toProofS_eq (m : Nat) : ∀ vs k, callK CX prims m 21 (fArgs W_toProofS_a vs) k = W_toProofS_w m vs k := by
  cases m with
  | zero => exact fun vs k => rfl
  | succ m => exact fun vs k => Eq.trans (b := bodyK CX (callK CX prims m) (loopK CX (callK CX prims m) W_toProofS_fi W_toProofS_c m) 21 Tryz.f21 W_toProofS_c (fArgs W_toProofS_a vs) k) (by kernel_rfl) ((bodyK_congr (W_toProofS_cf m) ((W_toProofS_lf m m).2) 21 Tryz.f21 W_toProofS_c (fArgs W_toProofS_a vs) k).trans (by kernel_rfl))
noncomputable def W_toBundle : Nat → T → T → T → T → (T → T → T → T → An) → An
 | 0, _, _, _, _, _ => .bad
 | m + 1, x0, x1, x2, x3, k0 =>
  W_toStringS m (T.l x2.rows)
  (fun y0 => W_toProofS m (T.l x3.rows)
  (fun y1 => k0 x0 x1 (T.l y0.rows) (T.l y1.rows)))
noncomputable def W_toBundle_a : List Arg := [.agg [.sc (.int .i64) (.l []), .sc (.str) (.l []), .dz [.sc (.str)] [], .dz [.sc (.int .i64), .sc (.int .i64), .sl [.sc (.str), .sc (.str), .sl [.sc (.str)]]] []]]
noncomputable def W_toBundle_w (m : Nat) (vs : List T) (k : Ret → An) : An := W_toBundle m (vs.headD dflt) (vs.tail.headD dflt) (vs.tail.tail.headD dflt) (vs.tail.tail.tail.headD dflt) (fun z0 z1 z2 z3 => k ⟨[.agg [.sc (.int .i64) z0, .sc (.str) z1, .own [2000012, 0, 0] [.sc (.str)] [.F] z2.rows, .own [2000016, 0, 0] [.sc (.int .i64), .sc (.int .i64), .sl [.sc (.str), .sc (.str), .sl [.sc (.str)]]] [.F, .F, .O [.F, .F, .O [.F]]] z3.rows]], [[none, none, none, none]], [none]⟩)
theorem W_toBundle_cf (m : Nat) : callK CX prims m = (patC 20 W_toStringS_a (W_toStringS_w m) (patC 21 W_toProofS_a (W_toProofS_w m) (callK CX prims m))) := by
  rw [← patC_eq (fun vs k => W_toProofS_eq m vs k), ← patC_eq (fun vs k => W_toStringS_eq m vs k)]
noncomputable def W_toBundle_c : Code := (Tryz.f6.body).getD .skip
noncomputable def W_toBundle_fi : Fi := ⟨6, 1, 19, 4⟩
theorem W_toBundle_eq (m : Nat) : ∀ vs k, callK CX prims m 6 (fArgs W_toBundle_a vs) k = W_toBundle_w m vs k := by
  cases m with
  | zero => exact fun vs k => rfl
  | succ m => exact fun vs k => Eq.trans (b := bodyK CX (callK CX prims m) (loopK CX (callK CX prims m) W_toBundle_fi W_toBundle_c m) 6 Tryz.f6 W_toBundle_c (fArgs W_toBundle_a vs) k) (by kernel_rfl) ((bodyK_congr (W_toBundle_cf m) rfl 6 Tryz.f6 W_toBundle_c (fArgs W_toBundle_a vs) k).trans (by kernel_rfl))
noncomputable def S_PutNum_L0_0 (m : Nat) : Nat → T → T → (T → T → An) → An
 | 0, _, _, _ => .bad
 | n + 1, x0, x1, k0 =>
  cond (decide (x0.int > 127))
  (cond (decide ((x1.rows.length + 1) * 1 ≤ maxRow))
  (S_PutNum_L0_0 m n (T.i (Int.fdiv x0.int (2 ^ (min (Int.toNat 7) IntKind.i64.bits)))) (T.l (x1.rows ++ [[(T.i (IntKind.u8.wrap (bvBack .i64 (BitVec.ofInt IntKind.i64.bits (bvBack .i64 (BitVec.ofInt IntKind.i64.bits x0.int &&& BitVec.ofInt IntKind.i64.bits 127)).int ||| BitVec.ofInt IntKind.i64.bits 128)).int))]])) k0)
  (.bad))
  (k0 x0 (T.l x1.rows))
noncomputable def S_PutNum_s0_0 : Pack := ⟨[(1, .one ⟨.sc, .sc (.int .i64), .l []⟩), (5, .one ⟨.al [1000000, 0] 0, .sl [.sc (.int .u8)], .l []⟩)], [([1000000, 0], .row [.sc (.int .u8)] [.F] [])]⟩
noncomputable def S_PutNum_e0_0 : Pack := ⟨[(1, .one ⟨.sc, .sc (.int .i64), .l []⟩), (5, .one ⟨.al [1000000, 0] 0, .sl [.sc (.int .u8)], .l []⟩)], [([1000000, 0], .row [.sc (.int .u8)] [.F] [])]⟩
noncomputable def S_PutNum_L0_0w (m n : Nat) (vs : List T) (k : Ctl → Pack → An) : An := S_PutNum_L0_0 m n (vs.headD dflt) (vs.tail.headD dflt) (fun z0 z1 => k (.exit 0) (fPack S_PutNum_e0_0 [z0, z1]))
noncomputable def S_PutNum : Nat → T → T → (T → An) → An
 | 0, _, _, _ => .bad
 | m + 1, x0, x1, k0 =>
  cond (decide ((0 + x0.rows.length) * 1 ≤ maxRow))
  (cond (decide (x1.int > 1000000000))
  (S_PutNum_L0_0 m m (T.i 1000000000) (T.l x0.rows)
  (fun y0 y1 => cond (decide ((y1.rows.length + 1) * 1 ≤ maxRow))
  (k0 (T.l (y1.rows ++ [[(T.i (IntKind.u8.wrap y0.int))]])))
  (.bad)))
  (cond (decide (x1.int < 0))
  (S_PutNum_L0_0 m m (T.i 0) (T.l x0.rows)
  (fun y2 y3 => cond (decide ((y3.rows.length + 1) * 1 ≤ maxRow))
  (k0 (T.l (y3.rows ++ [[(T.i (IntKind.u8.wrap y2.int))]])))
  (.bad)))
  (S_PutNum_L0_0 m m x1 (T.l x0.rows)
  (fun y4 y5 => cond (decide ((y5.rows.length + 1) * 1 ≤ maxRow))
  (k0 (T.l (y5.rows ++ [[(T.i (IntKind.u8.wrap y4.int))]])))
  (.bad)))))
  (.bad)
noncomputable def S_PutNum_a : List Arg := [.one (.dz [.sc (.int .u8)] []), .one (.sc (.int .i64) (.l []))]
noncomputable def S_PutNum_w (m : Nat) (vs : List T) (k : Ret → An) : An := S_PutNum m (vs.headD dflt) (vs.tail.headD dflt) (fun z0 => k ⟨[.one (.own [2000028] [.sc (.int .u8)] [.F] z0.rows)], [[none], [none]], [none, none]⟩)
theorem S_PutNum_cf (m : Nat) : callK CX prims m = (callK CX prims m) := by
  rfl
noncomputable def S_PutNum_c : Code := (Tryz.f61.body).getD .skip
noncomputable def S_PutNum_fi : Fi := ⟨61, 2, 29, 16⟩
theorem S_PutNum_lf (m : Nat) : ∀ n, (∀ vs k, loopK CX (callK CX prims m) S_PutNum_fi S_PutNum_c n [0, 0, 1, 1, 1, 1] (fPack S_PutNum_s0_0 vs) k = S_PutNum_L0_0w m n vs k) ∧ ((loopK CX (callK CX prims m) S_PutNum_fi S_PutNum_c n) = (patL [0, 0, 1, 1, 1, 1] S_PutNum_s0_0 (S_PutNum_L0_0w m n) (loopK CX (callK CX prims m) S_PutNum_fi S_PutNum_c n))) :=
 lf1 (fun n h0 => by rw [← patL_eq h0]) (fun vs k => rfl) fun n hn vs k => (stepL_congr (S_PutNum_cf m) hn [0, 0, 1, 1, 1, 1] _ _).trans (by kernel_rfl)
theorem S_PutNum_eq (m : Nat) : ∀ vs k, callK CX prims m 61 (fArgs S_PutNum_a vs) k = S_PutNum_w m vs k := by
  cases m with
  | zero => exact fun vs k => rfl
  | succ m => exact fun vs k => Eq.trans (b := bodyK CX (callK CX prims m) (loopK CX (callK CX prims m) S_PutNum_fi S_PutNum_c m) 61 Tryz.f61 S_PutNum_c (fArgs S_PutNum_a vs) k) (by kernel_rfl) ((bodyK_congr (S_PutNum_cf m) ((S_PutNum_lf m m).2) 61 Tryz.f61 S_PutNum_c (fArgs S_PutNum_a vs) k).trans (by kernel_rfl))
noncomputable def S_PutText : Nat → T → T → (T → An) → An
 | 0, _, _, _ => .bad
 | m + 1, x0, x1, k0 =>
  S_PutNum m (T.l x0.rows) (T.i (x1.str.size : Int))
  (fun y0 => cond (decide ((y0.rows.length + (bytesRows x1.str).length) * 1 ≤ maxRow))
  (k0 (T.l (y0.rows ++ (bytesRows x1.str))))
  (.bad))
noncomputable def S_PutText_a : List Arg := [.one (.dz [.sc (.int .u8)] []), .one (.sc (.str) (.l []))]
noncomputable def S_PutText_w (m : Nat) (vs : List T) (k : Ret → An) : An := S_PutText m (vs.headD dflt) (vs.tail.headD dflt) (fun z0 => k ⟨[.one (.own [2000010] [.sc (.int .u8)] [.F] z0.rows)], [[none], [none]], [none, none]⟩)
theorem S_PutText_cf (m : Nat) : callK CX prims m = (patC 61 S_PutNum_a (S_PutNum_w m) (callK CX prims m)) := by
  rw [← patC_eq (fun vs k => S_PutNum_eq m vs k)]
noncomputable def S_PutText_c : Code := (Tryz.f60.body).getD .skip
noncomputable def S_PutText_fi : Fi := ⟨60, 2, 11, 16⟩
theorem S_PutText_eq (m : Nat) : ∀ vs k, callK CX prims m 60 (fArgs S_PutText_a vs) k = S_PutText_w m vs k := by
  cases m with
  | zero => exact fun vs k => rfl
  | succ m => exact fun vs k => Eq.trans (b := bodyK CX (callK CX prims m) (loopK CX (callK CX prims m) S_PutText_fi S_PutText_c m) 60 Tryz.f60 S_PutText_c (fArgs S_PutText_a vs) k) (by kernel_rfl) ((bodyK_congr (S_PutText_cf m) rfl 60 Tryz.f60 S_PutText_c (fArgs S_PutText_a vs) k).trans (by kernel_rfl))
noncomputable def S_PutTexts_L0_0 (m : Nat) : Nat → T → T → T → (T → An) → An
 | 0, _, _, _, _ => .bad
 | n + 1, x0, x1, x2, k0 =>
  cond (decide (x1.int < (x0.rows.length : Int)))
  (cond (decide ((0 : Int) ≤ x1.int ∧ x1.int < (x0.rows.length : Int)))
  (S_PutText m (T.l x2.rows) ((x0.rows.getD (Int.toNat x1.int) []).getD 0 dflt)
  (fun y1 => S_PutTexts_L0_0 m n x0 (T.i (IntKind.i64.wrap (x1.int + 1))) (T.l y1.rows) k0))
  (.bad))
  (k0 (T.l x2.rows))
noncomputable def S_PutTexts_s0_0 : Pack := ⟨[(1, .one ⟨.sn [([4000000], 0)], .sl [.sc (.str)], .l []⟩), (5, .one ⟨.al [1000000, 1] 0, .sl [.sc (.int .u8)], .l []⟩), (6, .one ⟨.sc, .sc (.int .i64), .l []⟩)], [([4000000], .gone), ([1000000, 1], .row [.sc (.int .u8)] [.F] [])]⟩
noncomputable def S_PutTexts_e0_0 : Pack := ⟨[(5, .one ⟨.al [1000000, 0] 0, .sl [.sc (.int .u8)], .l []⟩)], [([1000000, 0], .row [.sc (.int .u8)] [.F] [])]⟩
noncomputable def S_PutTexts_L0_0w (m n : Nat) (vs : List T) (k : Ctl → Pack → An) : An := S_PutTexts_L0_0 m n (vs.headD dflt) (vs.tail.headD dflt) (vs.tail.tail.headD dflt) (fun z0 => k (.exit 0) (fPack S_PutTexts_e0_0 [z0]))
noncomputable def S_PutTexts : Nat → T → T → (T → An) → An
 | 0, _, _, _ => .bad
 | m + 1, x0, x1, k0 =>
  S_PutNum m (T.l x0.rows) (T.i (x1.rows.length : Int))
  (fun y0 => S_PutTexts_L0_0 m m (T.l x1.rows) (T.i 0) (T.l y0.rows)
  (fun y2 => k0 (T.l y2.rows)))
noncomputable def S_PutTexts_a : List Arg := [.one (.dz [.sc (.int .u8)] []), .one (.dz [.sc (.str)] [])]
noncomputable def S_PutTexts_w (m : Nat) (vs : List T) (k : Ret → An) : An := S_PutTexts m (vs.headD dflt) (vs.tail.headD dflt) (fun z0 => k ⟨[.one (.own [1000000, 0] [.sc (.int .u8)] [.F] z0.rows)], [[none], [none]], [none, none]⟩)
theorem S_PutTexts_cf (m : Nat) : callK CX prims m = (patC 61 S_PutNum_a (S_PutNum_w m) (patC 60 S_PutText_a (S_PutText_w m) (callK CX prims m))) := by
  rw [← patC_eq (fun vs k => S_PutText_eq m vs k), ← patC_eq (fun vs k => S_PutNum_eq m vs k)]
noncomputable def S_PutTexts_c : Code := (Tryz.f59.body).getD .skip
noncomputable def S_PutTexts_fi : Fi := ⟨59, 2, 24, 16⟩
theorem S_PutTexts_lf (m : Nat) : ∀ n, (∀ vs k, loopK CX (callK CX prims m) S_PutTexts_fi S_PutTexts_c n [0, 1, 0, 1, 1] (fPack S_PutTexts_s0_0 vs) k = S_PutTexts_L0_0w m n vs k) ∧ ((loopK CX (callK CX prims m) S_PutTexts_fi S_PutTexts_c n) = (patL [0, 1, 0, 1, 1] S_PutTexts_s0_0 (S_PutTexts_L0_0w m n) (loopK CX (callK CX prims m) S_PutTexts_fi S_PutTexts_c n))) :=
 lf1 (fun n h0 => by rw [← patL_eq h0]) (fun vs k => rfl) fun n hn vs k => (stepL_congr (S_PutTexts_cf m) hn [0, 1, 0, 1, 1] _ _).trans (by kernel_rfl)
theorem S_PutTexts_eq (m : Nat) : ∀ vs k, callK CX prims m 59 (fArgs S_PutTexts_a vs) k = S_PutTexts_w m vs k := by
  cases m with
  | zero => exact fun vs k => rfl
  | succ m => exact fun vs k => Eq.trans (b := bodyK CX (callK CX prims m) (loopK CX (callK CX prims m) S_PutTexts_fi S_PutTexts_c m) 59 Tryz.f59 S_PutTexts_c (fArgs S_PutTexts_a vs) k) (by kernel_rfl) ((bodyK_congr (S_PutTexts_cf m) ((S_PutTexts_lf m m).2) 59 Tryz.f59 S_PutTexts_c (fArgs S_PutTexts_a vs) k).trans (by kernel_rfl))
noncomputable def S_l15Super : Nat → T → T → T → (T → An) → An
 | 0, _, _, _, _ => .bad
 | m + 1, x0, x1, x2, k0 =>
  S_PutNum m (T.l [[(T.i 3)]]) x0
  (fun y0 => S_PutText m (T.l y0.rows) x1
  (fun y1 => S_PutTexts m (T.l y1.rows) (T.l x2.rows)
  (fun y2 => k0 (T.l y2.rows))))
noncomputable def S_l15Super_a : List Arg := [.one (.sc (.int .i64) (.l [])), .one (.sc (.str) (.l [])), .one (.dz [.sc (.str)] [])]
noncomputable def S_l15Super_w (m : Nat) (vs : List T) (k : Ret → An) : An := S_l15Super m (vs.headD dflt) (vs.tail.headD dflt) (vs.tail.tail.headD dflt) (fun z0 => k ⟨[.one (.own [2000013, 0, 0] [.sc (.int .u8)] [.F] z0.rows)], [[none], [none], [none]], [none, none, none]⟩)
theorem S_l15Super_cf (m : Nat) : callK CX prims m = (patC 61 S_PutNum_a (S_PutNum_w m) (patC 60 S_PutText_a (S_PutText_w m) (patC 59 S_PutTexts_a (S_PutTexts_w m) (callK CX prims m)))) := by
  rw [← patC_eq (fun vs k => S_PutTexts_eq m vs k), ← patC_eq (fun vs k => S_PutText_eq m vs k), ← patC_eq (fun vs k => S_PutNum_eq m vs k)]
noncomputable def S_l15Super_c : Code := (Tryz.f35.body).getD .skip
noncomputable def S_l15Super_fi : Fi := ⟨35, 3, 14, 64⟩
theorem S_l15Super_eq (m : Nat) : ∀ vs k, callK CX prims m 35 (fArgs S_l15Super_a vs) k = S_l15Super_w m vs k := by
  cases m with
  | zero => exact fun vs k => rfl
  | succ m => exact fun vs k => Eq.trans (b := bodyK CX (callK CX prims m) (loopK CX (callK CX prims m) S_l15Super_fi S_l15Super_c m) 35 Tryz.f35 S_l15Super_c (fArgs S_l15Super_a vs) k) (by kernel_rfl) ((bodyK_congr (S_l15Super_cf m) rfl 35 Tryz.f35 S_l15Super_c (fArgs S_l15Super_a vs) k).trans (by kernel_rfl))
noncomputable def S_Padded_L1_0 (m : Nat) : Nat → T → T → T → (T → An) → An
 | 0, _, _, _, _ => .bad
 | n + 1, x0, x1, x2, k0 =>
  cond (decide (x1.int ≥ 0))
  (cond (decide (0 ≤ (IntKind.u64.wrap x1.int)))
  (cond (decide ((x2.rows.length + 1) * 1 ≤ maxRow))
  (S_Padded_L1_0 m n x0 (T.i (IntKind.i64.wrap (x1.int - 8))) (T.l (x2.rows ++ [[(T.i (IntKind.u8.wrap (Int.fdiv x0.int (2 ^ (min (Int.toNat (IntKind.u64.wrap x1.int)) IntKind.i64.bits)))))]])) k0)
  (.bad))
  (.bad))
  (k0 (T.l x2.rows))
noncomputable def S_Padded_s1_0 : Pack := ⟨[(3, .one ⟨.al [1000000, 0] 0, .sl [.sc (.int .u8)], .l []⟩), (4, .one ⟨.sc, .sc (.int .i64), .l []⟩), (5, .one ⟨.sc, .sc (.int .i64), .l []⟩)], [([1000000, 0], .row [.sc (.int .u8)] [.F] [])]⟩
noncomputable def S_Padded_e1_0 : Pack := ⟨[(3, .one ⟨.al [1000000, 0] 0, .sl [.sc (.int .u8)], .l []⟩)], [([1000000, 0], .row [.sc (.int .u8)] [.F] [])]⟩
noncomputable def S_Padded_L1_0w (m n : Nat) (vs : List T) (k : Ctl → Pack → An) : An := S_Padded_L1_0 m n (vs.headD dflt) (vs.tail.headD dflt) (vs.tail.tail.headD dflt) (fun z0 => k (.exit 2) (fPack S_Padded_e1_0 [z0]))
noncomputable def S_Padded_L0_0 (m : Nat) : Nat → T → T → (T → T → An) → An
 | 0, _, _, _ => .bad
 | n + 1, x0, x1, k0 =>
  cond ((Int.tmod (x1.rows.length : Int) 64) != 56)
  (cond (decide ((x1.rows.length + 1) * 1 ≤ maxRow))
  (S_Padded_L0_0 m n x0 (T.l (x1.rows ++ [[(T.i 0)]])) k0)
  (.bad))
  (k0 x0 (T.l x1.rows))
noncomputable def S_Padded_s0_0 : Pack := ⟨[(0, .one ⟨.sn [([4000000], 0)], .sl [.sc (.int .u8)], .l []⟩), (3, .one ⟨.al [1000000, 1] 0, .sl [.sc (.int .u8)], .l []⟩)], [([4000000], .gone), ([1000000, 1], .row [.sc (.int .u8)] [.F] [])]⟩
noncomputable def S_Padded_e0_0 : Pack := ⟨[(0, .one ⟨.sn [([4000000], 0)], .sl [.sc (.int .u8)], .l []⟩), (3, .one ⟨.al [1000000, 1] 0, .sl [.sc (.int .u8)], .l []⟩)], [([4000000], .gone), ([1000000, 1], .row [.sc (.int .u8)] [.F] [])]⟩
noncomputable def S_Padded_L0_0w (m n : Nat) (vs : List T) (k : Ctl → Pack → An) : An := S_Padded_L0_0 m n (vs.headD dflt) (vs.tail.headD dflt) (fun z0 z1 => k (.exit 0) (fPack S_Padded_e0_0 [z0, z1]))
noncomputable def S_Padded : Nat → T → (T → An) → An
 | 0, _, _ => .bad
 | m + 1, x0, k0 =>
  cond (decide ((0 + x0.rows.length) * 1 ≤ maxRow))
  (cond (decide ((x0.rows.length + 1) * 1 ≤ maxRow))
  (S_Padded_L0_0 m m (T.l x0.rows) (T.l (x0.rows ++ [[(T.i 128)]]))
  (fun y0 y1 => S_Padded_L1_0 m m (T.i (IntKind.i64.wrap ((y0.rows.length : Int) * 8))) (T.i 56) (T.l y1.rows)
  (fun y2 => k0 (T.l y2.rows))))
  (.bad))
  (.bad)
noncomputable def S_Padded_a : List Arg := [.one (.dz [.sc (.int .u8)] [])]
noncomputable def S_Padded_w (m : Nat) (vs : List T) (k : Ret → An) : An := S_Padded m (vs.headD dflt) (fun z0 => k ⟨[.one (.own [1000000, 0] [.sc (.int .u8)] [.F] z0.rows)], [[none]], [none]⟩)
theorem S_Padded_cf (m : Nat) : callK CX prims m = (callK CX prims m) := by
  rfl
noncomputable def S_Padded_c : Code := (Tryz.f56.body).getD .skip
noncomputable def S_Padded_fi : Fi := ⟨56, 1, 34, 4⟩
theorem S_Padded_lf (m : Nat) : ∀ n, (∀ vs k, loopK CX (callK CX prims m) S_Padded_fi S_Padded_c n [0, 0, 1, 1] (fPack S_Padded_s0_0 vs) k = S_Padded_L0_0w m n vs k) ∧ (∀ vs k, loopK CX (callK CX prims m) S_Padded_fi S_Padded_c n [0, 1, 0, 1, 1, 1, 1] (fPack S_Padded_s1_0 vs) k = S_Padded_L1_0w m n vs k) ∧ ((loopK CX (callK CX prims m) S_Padded_fi S_Padded_c n) = (patL [0, 0, 1, 1] S_Padded_s0_0 (S_Padded_L0_0w m n) (patL [0, 1, 0, 1, 1, 1, 1] S_Padded_s1_0 (S_Padded_L1_0w m n) (loopK CX (callK CX prims m) S_Padded_fi S_Padded_c n)))) :=
 lf2 (fun n h0 h1 => by rw [← patL_eq h1, ← patL_eq h0]) (fun vs k => rfl) (fun vs k => rfl) (fun n hn vs k => (stepL_congr (S_Padded_cf m) hn [0, 0, 1, 1] _ _).trans (by kernel_rfl)) fun n hn vs k => (stepL_congr (S_Padded_cf m) hn [0, 1, 0, 1, 1, 1, 1] _ _).trans (by kernel_rfl)
theorem S_Padded_eq (m : Nat) : ∀ vs k, callK CX prims m 56 (fArgs S_Padded_a vs) k = S_Padded_w m vs k := by
  cases m with
  | zero => exact fun vs k => rfl
  | succ m => exact fun vs k => Eq.trans (b := bodyK CX (callK CX prims m) (loopK CX (callK CX prims m) S_Padded_fi S_Padded_c m) 56 Tryz.f56 S_Padded_c (fArgs S_Padded_a vs) k) (by kernel_rfl) ((bodyK_congr (S_Padded_cf m) ((S_Padded_lf m m).2.2) 56 Tryz.f56 S_Padded_c (fArgs S_Padded_a vs) k).trans (by kernel_rfl))
noncomputable def S_l2K : Nat → (T → An) → An
 | 0, _ => .bad
 | m + 1, k0 =>
  k0 (T.l [[(T.i 1116352408)], [(T.i 1899447441)], [(T.i 3049323471)], [(T.i 3921009573)], [(T.i 961987163)], [(T.i 1508970993)], [(T.i 2453635748)], [(T.i 2870763221)], [(T.i 3624381080)], [(T.i 310598401)], [(T.i 607225278)], [(T.i 1426881987)], [(T.i 1925078388)], [(T.i 2162078206)], [(T.i 2614888103)], [(T.i 3248222580)], [(T.i 3835390401)], [(T.i 4022224774)], [(T.i 264347078)], [(T.i 604807628)], [(T.i 770255983)], [(T.i 1249150122)], [(T.i 1555081692)], [(T.i 1996064986)], [(T.i 2554220882)], [(T.i 2821834349)], [(T.i 2952996808)], [(T.i 3210313671)], [(T.i 3336571891)], [(T.i 3584528711)], [(T.i 113926993)], [(T.i 338241895)], [(T.i 666307205)], [(T.i 773529912)], [(T.i 1294757372)], [(T.i 1396182291)], [(T.i 1695183700)], [(T.i 1986661051)], [(T.i 2177026350)], [(T.i 2456956037)], [(T.i 2730485921)], [(T.i 2820302411)], [(T.i 3259730800)], [(T.i 3345764771)], [(T.i 3516065817)], [(T.i 3600352804)], [(T.i 4094571909)], [(T.i 275423344)], [(T.i 430227734)], [(T.i 506948616)], [(T.i 659060556)], [(T.i 883997877)], [(T.i 958139571)], [(T.i 1322822218)], [(T.i 1537002063)], [(T.i 1747873779)], [(T.i 1955562222)], [(T.i 2024104815)], [(T.i 2227730452)], [(T.i 2361852424)], [(T.i 2428436474)], [(T.i 2756734187)], [(T.i 3204031479)], [(T.i 3329325298)]])
noncomputable def S_l2K_a : List Arg := []
noncomputable def S_l2K_w (m : Nat) (vs : List T) (k : Ret → An) : An := S_l2K m (fun z0 => k ⟨[.one (.own [2000001] [.sc (.int .i64)] [.F] z0.rows)], [], []⟩)
theorem S_l2K_cf (m : Nat) : callK CX prims m = (callK CX prims m) := by
  rfl
noncomputable def S_l2K_c : Code := (Tryz.f57.body).getD .skip
noncomputable def S_l2K_fi : Fi := ⟨57, 0, 2, 1⟩
theorem S_l2K_eq (m : Nat) : ∀ vs k, callK CX prims m 57 (fArgs S_l2K_a vs) k = S_l2K_w m vs k := by
  cases m with
  | zero => exact fun vs k => rfl
  | succ m => exact fun vs k => Eq.trans (b := bodyK CX (callK CX prims m) (loopK CX (callK CX prims m) S_l2K_fi S_l2K_c m) 57 Tryz.f57 S_l2K_c (fArgs S_l2K_a vs) k) (by kernel_rfl) ((bodyK_congr (S_l2K_cf m) rfl 57 Tryz.f57 S_l2K_c (fArgs S_l2K_a vs) k).trans (by kernel_rfl))
noncomputable def S_l2Turn : Nat → T → T → (T → An) → An
 | 0, _, _, _ => .bad
 | m + 1, x0, x1, k0 =>
  cond (decide (0 ≤ (IntKind.u64.wrap x1.int)))
  (cond (decide (0 ≤ (IntKind.u64.wrap (IntKind.i64.wrap (32 - x1.int)))))
  (k0 (bvBack .i64 (BitVec.ofInt IntKind.i64.bits (bvBack .i64 (BitVec.ofInt IntKind.i64.bits (Int.fdiv x0.int (2 ^ (min (Int.toNat (IntKind.u64.wrap x1.int)) IntKind.i64.bits))) ||| BitVec.ofInt IntKind.i64.bits (IntKind.i64.wrap (x0.int * 2 ^ (min (Int.toNat (IntKind.u64.wrap (IntKind.i64.wrap (32 - x1.int)))) IntKind.i64.bits))))).int &&& BitVec.ofInt IntKind.i64.bits 4294967295)))
  (.bad))
  (.bad)
noncomputable def S_l2Turn_a : List Arg := [.one (.sc (.int .i64) (.l [])), .one (.sc (.int .i64) (.l []))]
noncomputable def S_l2Turn_w (m : Nat) (vs : List T) (k : Ret → An) : An := S_l2Turn m (vs.headD dflt) (vs.tail.headD dflt) (fun z0 => k ⟨[.one (.sc (.int .i64) z0)], [[none], [none]], [none, none]⟩)
theorem S_l2Turn_cf (m : Nat) : callK CX prims m = (callK CX prims m) := by
  rfl
noncomputable def S_l2Turn_c : Code := (Tryz.f82.body).getD .skip
noncomputable def S_l2Turn_fi : Fi := ⟨82, 2, 16, 16⟩
theorem S_l2Turn_eq (m : Nat) : ∀ vs k, callK CX prims m 82 (fArgs S_l2Turn_a vs) k = S_l2Turn_w m vs k := by
  cases m with
  | zero => exact fun vs k => rfl
  | succ m => exact fun vs k => Eq.trans (b := bodyK CX (callK CX prims m) (loopK CX (callK CX prims m) S_l2Turn_fi S_l2Turn_c m) 82 Tryz.f82 S_l2Turn_c (fArgs S_l2Turn_a vs) k) (by kernel_rfl) ((bodyK_congr (S_l2Turn_cf m) rfl 82 Tryz.f82 S_l2Turn_c (fArgs S_l2Turn_a vs) k).trans (by kernel_rfl))
noncomputable def S_l2Words_L1_0 (m : Nat) : Nat → T → T → (T → An) → An
 | 0, _, _, _ => .bad
 | n + 1, x0, x1, k0 =>
  cond (decide (x0.int < 64))
  (cond (decide ((0 : Int) ≤ (IntKind.i64.wrap (x0.int - 15)) ∧ (IntKind.i64.wrap (x0.int - 15)) < (x1.rows.length : Int)))
  (cond (decide ((Int.toNat (IntKind.i64.wrap (x0.int - 15))) < x1.rows.length))
  (cond (decide ((0 : Int) ≤ (IntKind.i64.wrap (x0.int - 2)) ∧ (IntKind.i64.wrap (x0.int - 2)) < (x1.rows.length : Int)))
  (cond (decide ((Int.toNat (IntKind.i64.wrap (x0.int - 2))) < x1.rows.length))
  (S_l2Turn m ((x1.rows.getD (Int.toNat (IntKind.i64.wrap (x0.int - 15))) []).getD 0 dflt) (T.i 7)
  (fun y1 => S_l2Turn m ((x1.rows.getD (Int.toNat (IntKind.i64.wrap (x0.int - 15))) []).getD 0 dflt) (T.i 18)
  (fun y2 => S_l2Turn m ((x1.rows.getD (Int.toNat (IntKind.i64.wrap (x0.int - 2))) []).getD 0 dflt) (T.i 17)
  (fun y3 => S_l2Turn m ((x1.rows.getD (Int.toNat (IntKind.i64.wrap (x0.int - 2))) []).getD 0 dflt) (T.i 19)
  (fun y4 => cond (decide ((0 : Int) ≤ (IntKind.i64.wrap (x0.int - 16)) ∧ (IntKind.i64.wrap (x0.int - 16)) < (x1.rows.length : Int)))
  (cond (decide ((Int.toNat (IntKind.i64.wrap (x0.int - 16))) < x1.rows.length))
  (cond (decide ((0 : Int) ≤ (IntKind.i64.wrap (x0.int - 7)) ∧ (IntKind.i64.wrap (x0.int - 7)) < (x1.rows.length : Int)))
  (cond (decide ((Int.toNat (IntKind.i64.wrap (x0.int - 7))) < x1.rows.length))
  (cond (decide ((x1.rows.length + 1) * 1 ≤ maxRow))
  (S_l2Words_L1_0 m n (T.i (IntKind.i64.wrap (x0.int + 1))) (T.l (x1.rows ++ [[(bvBack .i64 (BitVec.ofInt IntKind.i64.bits (IntKind.i64.wrap ((IntKind.i64.wrap ((IntKind.i64.wrap (((x1.rows.getD (Int.toNat (IntKind.i64.wrap (x0.int - 16))) []).getD 0 dflt).int + (bvBack .i64 (BitVec.ofInt IntKind.i64.bits (bvBack .i64 (BitVec.ofInt IntKind.i64.bits y1.int ^^^ BitVec.ofInt IntKind.i64.bits y2.int)).int ^^^ BitVec.ofInt IntKind.i64.bits (Int.fdiv ((x1.rows.getD (Int.toNat (IntKind.i64.wrap (x0.int - 15))) []).getD 0 dflt).int (2 ^ (min (Int.toNat 3) IntKind.i64.bits))))).int)) + ((x1.rows.getD (Int.toNat (IntKind.i64.wrap (x0.int - 7))) []).getD 0 dflt).int)) + (bvBack .i64 (BitVec.ofInt IntKind.i64.bits (bvBack .i64 (BitVec.ofInt IntKind.i64.bits y3.int ^^^ BitVec.ofInt IntKind.i64.bits y4.int)).int ^^^ BitVec.ofInt IntKind.i64.bits (Int.fdiv ((x1.rows.getD (Int.toNat (IntKind.i64.wrap (x0.int - 2))) []).getD 0 dflt).int (2 ^ (min (Int.toNat 10) IntKind.i64.bits))))).int)) &&& BitVec.ofInt IntKind.i64.bits 4294967295))]])) k0)
  (.bad))
  (.bad))
  (.bad))
  (.bad))
  (.bad))))))
  (.bad))
  (.bad))
  (.bad))
  (.bad))
  (k0 (T.l x1.rows))
noncomputable def S_l2Words_s1_0 : Pack := ⟨[(3, .one ⟨.al [1000000, 0] 0, .sl [.sc (.int .i64)], .l []⟩), (5, .one ⟨.sc, .sc (.int .i64), .l []⟩)], [([1000000, 0], .row [.sc (.int .i64)] [.F] [])]⟩
noncomputable def S_l2Words_e1_0 : Pack := ⟨[(3, .one ⟨.al [1000000, 0] 0, .sl [.sc (.int .i64)], .l []⟩)], [([1000000, 0], .row [.sc (.int .i64)] [.F] [])]⟩
noncomputable def S_l2Words_L1_0w (m n : Nat) (vs : List T) (k : Ctl → Pack → An) : An := S_l2Words_L1_0 m n (vs.headD dflt) (vs.tail.headD dflt) (fun z0 => k (.exit 2) (fPack S_l2Words_e1_0 [z0]))
noncomputable def S_l2Words_L0_0 (m : Nat) : Nat → T → T → T → (T → An) → An
 | 0, _, _, _, _ => .bad
 | n + 1, x0, x1, x2, k0 =>
  cond (decide (x1.int < 16))
  (cond (decide ((0 : Int) ≤ (IntKind.i64.wrap (4 * x1.int)) ∧ (IntKind.i64.wrap (4 * x1.int)) < (x0.rows.length : Int)))
  (cond (decide ((0 : Int) ≤ (IntKind.i64.wrap ((IntKind.i64.wrap (4 * x1.int)) + 1)) ∧ (IntKind.i64.wrap ((IntKind.i64.wrap (4 * x1.int)) + 1)) < (x0.rows.length : Int)))
  (cond (decide ((0 : Int) ≤ (IntKind.i64.wrap ((IntKind.i64.wrap (4 * x1.int)) + 2)) ∧ (IntKind.i64.wrap ((IntKind.i64.wrap (4 * x1.int)) + 2)) < (x0.rows.length : Int)))
  (cond (decide ((0 : Int) ≤ (IntKind.i64.wrap ((IntKind.i64.wrap (4 * x1.int)) + 3)) ∧ (IntKind.i64.wrap ((IntKind.i64.wrap (4 * x1.int)) + 3)) < (x0.rows.length : Int)))
  (cond (decide ((x2.rows.length + 1) * 1 ≤ maxRow))
  (S_l2Words_L0_0 m n x0 (T.i (IntKind.i64.wrap (x1.int + 1))) (T.l (x2.rows ++ [[(bvBack .i64 (BitVec.ofInt IntKind.i64.bits (bvBack .i64 (BitVec.ofInt IntKind.i64.bits (bvBack .i64 (BitVec.ofInt IntKind.i64.bits (IntKind.i64.wrap ((IntKind.i64.wrap ((x0.rows.getD (Int.toNat (IntKind.i64.wrap (4 * x1.int))) []).getD 0 dflt).int) * 2 ^ (min (Int.toNat 24) IntKind.i64.bits))) ||| BitVec.ofInt IntKind.i64.bits (IntKind.i64.wrap ((IntKind.i64.wrap ((x0.rows.getD (Int.toNat (IntKind.i64.wrap ((IntKind.i64.wrap (4 * x1.int)) + 1))) []).getD 0 dflt).int) * 2 ^ (min (Int.toNat 16) IntKind.i64.bits))))).int ||| BitVec.ofInt IntKind.i64.bits (IntKind.i64.wrap ((IntKind.i64.wrap ((x0.rows.getD (Int.toNat (IntKind.i64.wrap ((IntKind.i64.wrap (4 * x1.int)) + 2))) []).getD 0 dflt).int) * 2 ^ (min (Int.toNat 8) IntKind.i64.bits))))).int ||| BitVec.ofInt IntKind.i64.bits (IntKind.i64.wrap ((x0.rows.getD (Int.toNat (IntKind.i64.wrap ((IntKind.i64.wrap (4 * x1.int)) + 3))) []).getD 0 dflt).int)))]])) k0)
  (.bad))
  (.bad))
  (.bad))
  (.bad))
  (.bad))
  (k0 (T.l x2.rows))
noncomputable def S_l2Words_s0_0 : Pack := ⟨[(0, .one ⟨.sn [([4000000], 0)], .sl [.sc (.int .u8)], .l []⟩), (3, .one ⟨.al [1000000, 1] 0, .sl [.sc (.int .i64)], .l []⟩), (4, .one ⟨.sc, .sc (.int .i64), .l []⟩)], [([4000000], .gone), ([1000000, 1], .row [.sc (.int .i64)] [.F] [])]⟩
noncomputable def S_l2Words_e0_0 : Pack := ⟨[(3, .one ⟨.al [1000000, 0] 0, .sl [.sc (.int .i64)], .l []⟩)], [([1000000, 0], .row [.sc (.int .i64)] [.F] [])]⟩
noncomputable def S_l2Words_L0_0w (m n : Nat) (vs : List T) (k : Ctl → Pack → An) : An := S_l2Words_L0_0 m n (vs.headD dflt) (vs.tail.headD dflt) (vs.tail.tail.headD dflt) (fun z0 => k (.exit 0) (fPack S_l2Words_e0_0 [z0]))
noncomputable def S_l2Words : Nat → T → (T → An) → An
 | 0, _, _ => .bad
 | m + 1, x0, k0 =>
  S_l2Words_L0_0 m m (T.l x0.rows) (T.i 0) (T.l [])
  (fun y0 => S_l2Words_L1_0 m m (T.i 16) (T.l y0.rows)
  (fun y5 => k0 (T.l y5.rows)))
noncomputable def S_l2Words_a : List Arg := [.one (.dz [.sc (.int .u8)] [])]
noncomputable def S_l2Words_w (m : Nat) (vs : List T) (k : Ret → An) : An := S_l2Words m (vs.headD dflt) (fun z0 => k ⟨[.one (.own [1000000, 0] [.sc (.int .i64)] [.F] z0.rows)], [[none]], [none]⟩)
theorem S_l2Words_cf (m : Nat) : callK CX prims m = (patC 82 S_l2Turn_a (S_l2Turn_w m) (callK CX prims m)) := by
  rw [← patC_eq (fun vs k => S_l2Turn_eq m vs k)]
noncomputable def S_l2Words_c : Code := (Tryz.f81.body).getD .skip
noncomputable def S_l2Words_fi : Fi := ⟨81, 1, 101, 4⟩
theorem S_l2Words_lf (m : Nat) : ∀ n, (∀ vs k, loopK CX (callK CX prims m) S_l2Words_fi S_l2Words_c n [0, 1, 0, 1, 1] (fPack S_l2Words_s0_0 vs) k = S_l2Words_L0_0w m n vs k) ∧ (∀ vs k, loopK CX (callK CX prims m) S_l2Words_fi S_l2Words_c n [0, 1, 0, 1, 1, 1] (fPack S_l2Words_s1_0 vs) k = S_l2Words_L1_0w m n vs k) ∧ ((loopK CX (callK CX prims m) S_l2Words_fi S_l2Words_c n) = (patL [0, 1, 0, 1, 1] S_l2Words_s0_0 (S_l2Words_L0_0w m n) (patL [0, 1, 0, 1, 1, 1] S_l2Words_s1_0 (S_l2Words_L1_0w m n) (loopK CX (callK CX prims m) S_l2Words_fi S_l2Words_c n)))) :=
 lf2 (fun n h0 h1 => by rw [← patL_eq h1, ← patL_eq h0]) (fun vs k => rfl) (fun vs k => rfl) (fun n hn vs k => (stepL_congr (S_l2Words_cf m) hn [0, 1, 0, 1, 1] _ _).trans (by kernel_rfl)) fun n hn vs k => (stepL_congr (S_l2Words_cf m) hn [0, 1, 0, 1, 1, 1] _ _).trans (by kernel_rfl)
theorem S_l2Words_eq (m : Nat) : ∀ vs k, callK CX prims m 81 (fArgs S_l2Words_a vs) k = S_l2Words_w m vs k := by
  cases m with
  | zero => exact fun vs k => rfl
  | succ m => exact fun vs k => Eq.trans (b := bodyK CX (callK CX prims m) (loopK CX (callK CX prims m) S_l2Words_fi S_l2Words_c m) 81 Tryz.f81 S_l2Words_c (fArgs S_l2Words_a vs) k) (by kernel_rfl) ((bodyK_congr (S_l2Words_cf m) ((S_l2Words_lf m m).2.2) 81 Tryz.f81 S_l2Words_c (fArgs S_l2Words_a vs) k).trans (by kernel_rfl))
noncomputable def S_l2Block_L1_0 (m : Nat) : Nat → T → T → T → (T → An) → An
 | 0, _, _, _, _ => .bad
 | n + 1, x0, x1, x2, k0 =>
  cond (decide (x1.int < 8))
  (cond (decide ((0 : Int) ≤ x1.int ∧ x1.int < (x2.rows.length : Int)))
  (cond (decide ((Int.toNat x1.int) < x2.rows.length))
  (cond (decide ((0 : Int) ≤ x1.int ∧ x1.int < (x0.rows.length : Int)))
  (cond (decide ((0 : Int) ≤ x1.int ∧ x1.int < (x2.rows.length : Int)))
  (cond (decide ((Int.toNat x1.int) < x2.rows.length))
  (S_l2Block_L1_0 m n x0 (T.i (IntKind.i64.wrap (x1.int + 1))) (T.l (x2.rows.set (Int.toNat x1.int) ((x2.rows.getD (Int.toNat x1.int) []).set 0 (bvBack .i64 (BitVec.ofInt IntKind.i64.bits (IntKind.i64.wrap (((x2.rows.getD (Int.toNat x1.int) []).getD 0 dflt).int + ((x0.rows.getD (Int.toNat x1.int) []).getD 0 dflt).int)) &&& BitVec.ofInt IntKind.i64.bits 4294967295))))) k0)
  (.bad))
  (.bad))
  (.bad))
  (.bad))
  (.bad))
  (k0 (T.l x2.rows))
noncomputable def S_l2Block_s1_0 : Pack := ⟨[(0, .one ⟨.sn [([4000000], 0)], .sl [.sc (.int .i64)], .l []⟩), (8, .one ⟨.al [1000000, 1] 0, .sl [.sc (.int .i64)], .l []⟩), (18, .one ⟨.sc, .sc (.int .i64), .l []⟩)], [([4000000], .gone), ([1000000, 1], .row [.sc (.int .i64)] [.F] [])]⟩
noncomputable def S_l2Block_e1_0 : Pack := ⟨[(8, .one ⟨.al [1000000, 0] 0, .sl [.sc (.int .i64)], .l []⟩)], [([1000000, 0], .row [.sc (.int .i64)] [.F] [])]⟩
noncomputable def S_l2Block_L1_0w (m n : Nat) (vs : List T) (k : Ctl → Pack → An) : An := S_l2Block_L1_0 m n (vs.headD dflt) (vs.tail.headD dflt) (vs.tail.tail.headD dflt) (fun z0 => k (.exit 2) (fPack S_l2Block_e1_0 [z0]))
noncomputable def S_l2Block_L0_0 (m : Nat) : Nat → T → T → T → T → T → (T → T → An) → An
 | 0, _, _, _, _, _, _ => .bad
 | n + 1, x0, x1, x2, x3, x4, k0 =>
  cond (decide (x2.int < 64))
  (cond (decide ((0 : Int) ≤ 4 ∧ 4 < (x4.rows.length : Int)))
  (cond (decide (4 < x4.rows.length))
  (S_l2Turn m ((x4.rows.getD 4 []).getD 0 dflt) (T.i 6)
  (fun y1 => S_l2Turn m ((x4.rows.getD 4 []).getD 0 dflt) (T.i 11)
  (fun y2 => S_l2Turn m ((x4.rows.getD 4 []).getD 0 dflt) (T.i 25)
  (fun y3 => cond (decide ((0 : Int) ≤ 5 ∧ 5 < (x4.rows.length : Int)))
  (cond (decide (5 < x4.rows.length))
  (cond (decide ((0 : Int) ≤ 6 ∧ 6 < (x4.rows.length : Int)))
  (cond (decide (6 < x4.rows.length))
  (cond (decide ((0 : Int) ≤ 7 ∧ 7 < (x4.rows.length : Int)))
  (cond (decide (7 < x4.rows.length))
  (cond (decide ((0 : Int) ≤ x2.int ∧ x2.int < (x1.rows.length : Int)))
  (cond (decide ((0 : Int) ≤ x2.int ∧ x2.int < (x3.rows.length : Int)))
  (cond (decide ((Int.toNat x2.int) < x3.rows.length))
  (cond (decide ((0 : Int) ≤ 0 ∧ 0 < (x4.rows.length : Int)))
  (cond (decide (0 < x4.rows.length))
  (S_l2Turn m ((x4.rows.getD 0 []).getD 0 dflt) (T.i 2)
  (fun y4 => S_l2Turn m ((x4.rows.getD 0 []).getD 0 dflt) (T.i 13)
  (fun y5 => S_l2Turn m ((x4.rows.getD 0 []).getD 0 dflt) (T.i 22)
  (fun y6 => cond (decide ((0 : Int) ≤ 1 ∧ 1 < (x4.rows.length : Int)))
  (cond (decide (1 < x4.rows.length))
  (cond (decide ((0 : Int) ≤ 2 ∧ 2 < (x4.rows.length : Int)))
  (cond (decide (2 < x4.rows.length))
  (cond (decide ((0 : Int) ≤ 1 ∧ 1 < (x4.rows.length : Int)))
  (cond (decide (1 < x4.rows.length))
  (cond (decide ((0 : Int) ≤ 2 ∧ 2 < (x4.rows.length : Int)))
  (cond (decide (2 < x4.rows.length))
  (cond (decide ((0 : Int) ≤ 1 ∧ 1 < (x4.rows.length : Int)))
  (cond (decide (1 < x4.rows.length))
  (cond (decide ((0 : Int) ≤ 2 ∧ 2 < (x4.rows.length : Int)))
  (cond (decide (2 < x4.rows.length))
  (cond (decide ((0 : Int) ≤ 3 ∧ 3 < (x4.rows.length : Int)))
  (cond (decide (3 < x4.rows.length))
  (cond (decide ((0 : Int) ≤ 5 ∧ 5 < (x4.rows.length : Int)))
  (cond (decide (5 < x4.rows.length))
  (cond (decide ((0 : Int) ≤ 6 ∧ 6 < (x4.rows.length : Int)))
  (cond (decide (6 < x4.rows.length))
  (S_l2Block_L0_0 m n x0 x1 (T.i (IntKind.i64.wrap (x2.int + 1))) (T.l x3.rows) (T.l [[(bvBack .i64 (BitVec.ofInt IntKind.i64.bits (IntKind.i64.wrap ((IntKind.i64.wrap ((IntKind.i64.wrap ((IntKind.i64.wrap ((IntKind.i64.wrap (((x4.rows.getD 7 []).getD 0 dflt).int + (bvBack .i64 (BitVec.ofInt IntKind.i64.bits (bvBack .i64 (BitVec.ofInt IntKind.i64.bits y1.int ^^^ BitVec.ofInt IntKind.i64.bits y2.int)).int ^^^ BitVec.ofInt IntKind.i64.bits y3.int)).int)) + (bvBack .i64 (BitVec.ofInt IntKind.i64.bits (bvBack .i64 (BitVec.ofInt IntKind.i64.bits ((x4.rows.getD 4 []).getD 0 dflt).int &&& BitVec.ofInt IntKind.i64.bits ((x4.rows.getD 5 []).getD 0 dflt).int)).int ^^^ BitVec.ofInt IntKind.i64.bits (bvBack .i64 (BitVec.ofInt IntKind.i64.bits (bvBack .i64 (BitVec.ofInt IntKind.i64.bits 4294967295 ^^^ BitVec.ofInt IntKind.i64.bits ((x4.rows.getD 4 []).getD 0 dflt).int)).int &&& BitVec.ofInt IntKind.i64.bits ((x4.rows.getD 6 []).getD 0 dflt).int)).int)).int)) + ((x1.rows.getD (Int.toNat x2.int) []).getD 0 dflt).int)) + ((x3.rows.getD (Int.toNat x2.int) []).getD 0 dflt).int)) + (IntKind.i64.wrap ((bvBack .i64 (BitVec.ofInt IntKind.i64.bits (bvBack .i64 (BitVec.ofInt IntKind.i64.bits y4.int ^^^ BitVec.ofInt IntKind.i64.bits y5.int)).int ^^^ BitVec.ofInt IntKind.i64.bits y6.int)).int + (bvBack .i64 (BitVec.ofInt IntKind.i64.bits (bvBack .i64 (BitVec.ofInt IntKind.i64.bits (bvBack .i64 (BitVec.ofInt IntKind.i64.bits ((x4.rows.getD 0 []).getD 0 dflt).int &&& BitVec.ofInt IntKind.i64.bits ((x4.rows.getD 1 []).getD 0 dflt).int)).int ^^^ BitVec.ofInt IntKind.i64.bits (bvBack .i64 (BitVec.ofInt IntKind.i64.bits ((x4.rows.getD 0 []).getD 0 dflt).int &&& BitVec.ofInt IntKind.i64.bits ((x4.rows.getD 2 []).getD 0 dflt).int)).int)).int ^^^ BitVec.ofInt IntKind.i64.bits (bvBack .i64 (BitVec.ofInt IntKind.i64.bits ((x4.rows.getD 1 []).getD 0 dflt).int &&& BitVec.ofInt IntKind.i64.bits ((x4.rows.getD 2 []).getD 0 dflt).int)).int)).int)))) &&& BitVec.ofInt IntKind.i64.bits 4294967295))], [((x4.rows.getD 0 []).getD 0 dflt)], [((x4.rows.getD 1 []).getD 0 dflt)], [((x4.rows.getD 2 []).getD 0 dflt)], [(bvBack .i64 (BitVec.ofInt IntKind.i64.bits (IntKind.i64.wrap (((x4.rows.getD 3 []).getD 0 dflt).int + (IntKind.i64.wrap ((IntKind.i64.wrap ((IntKind.i64.wrap ((IntKind.i64.wrap (((x4.rows.getD 7 []).getD 0 dflt).int + (bvBack .i64 (BitVec.ofInt IntKind.i64.bits (bvBack .i64 (BitVec.ofInt IntKind.i64.bits y1.int ^^^ BitVec.ofInt IntKind.i64.bits y2.int)).int ^^^ BitVec.ofInt IntKind.i64.bits y3.int)).int)) + (bvBack .i64 (BitVec.ofInt IntKind.i64.bits (bvBack .i64 (BitVec.ofInt IntKind.i64.bits ((x4.rows.getD 4 []).getD 0 dflt).int &&& BitVec.ofInt IntKind.i64.bits ((x4.rows.getD 5 []).getD 0 dflt).int)).int ^^^ BitVec.ofInt IntKind.i64.bits (bvBack .i64 (BitVec.ofInt IntKind.i64.bits (bvBack .i64 (BitVec.ofInt IntKind.i64.bits 4294967295 ^^^ BitVec.ofInt IntKind.i64.bits ((x4.rows.getD 4 []).getD 0 dflt).int)).int &&& BitVec.ofInt IntKind.i64.bits ((x4.rows.getD 6 []).getD 0 dflt).int)).int)).int)) + ((x1.rows.getD (Int.toNat x2.int) []).getD 0 dflt).int)) + ((x3.rows.getD (Int.toNat x2.int) []).getD 0 dflt).int)))) &&& BitVec.ofInt IntKind.i64.bits 4294967295))], [((x4.rows.getD 4 []).getD 0 dflt)], [((x4.rows.getD 5 []).getD 0 dflt)], [((x4.rows.getD 6 []).getD 0 dflt)]]) k0)
  (.bad))
  (.bad))
  (.bad))
  (.bad))
  (.bad))
  (.bad))
  (.bad))
  (.bad))
  (.bad))
  (.bad))
  (.bad))
  (.bad))
  (.bad))
  (.bad))
  (.bad))
  (.bad))
  (.bad))
  (.bad)))))
  (.bad))
  (.bad))
  (.bad))
  (.bad))
  (.bad))
  (.bad))
  (.bad))
  (.bad))
  (.bad))
  (.bad))
  (.bad)))))
  (.bad))
  (.bad))
  (k0 x0 (T.l x4.rows))
noncomputable def S_l2Block_s0_0 : Pack := ⟨[(0, .one ⟨.sn [([4000000], 0)], .sl [.sc (.int .i64)], .l []⟩), (2, .one ⟨.sn [([4000000], 0)], .sl [.sc (.int .i64)], .l []⟩), (7, .one ⟨.al [1000000, 1] 0, .sl [.sc (.int .i64)], .l []⟩), (8, .one ⟨.al [1000000, 2] 0, .sl [.sc (.int .i64)], .l []⟩), (9, .one ⟨.sc, .sc (.int .i64), .l []⟩)], [([4000000], .gone), ([1000000, 1], .row [.sc (.int .i64)] [.F] []), ([1000000, 2], .row [.sc (.int .i64)] [.F] [])]⟩
noncomputable def S_l2Block_e0_0 : Pack := ⟨[(0, .one ⟨.sn [([4000000], 0)], .sl [.sc (.int .i64)], .l []⟩), (8, .one ⟨.al [1000000, 1] 0, .sl [.sc (.int .i64)], .l []⟩)], [([4000000], .gone), ([1000000, 1], .row [.sc (.int .i64)] [.F] [])]⟩
noncomputable def S_l2Block_L0_0w (m n : Nat) (vs : List T) (k : Ctl → Pack → An) : An := S_l2Block_L0_0 m n (vs.headD dflt) (vs.tail.headD dflt) (vs.tail.tail.headD dflt) (vs.tail.tail.tail.headD dflt) (vs.tail.tail.tail.tail.headD dflt) (fun z0 z1 => k (.exit 0) (fPack S_l2Block_e0_0 [z0, z1]))
noncomputable def S_l2Block : Nat → T → T → T → (T → An) → An
 | 0, _, _, _, _ => .bad
 | m + 1, x0, x1, x2, k0 =>
  S_l2Words m (T.l x1.rows)
  (fun y0 => cond (decide ((0 + x0.rows.length) * 1 ≤ maxRow))
  (S_l2Block_L0_0 m m (T.l x0.rows) (T.l x2.rows) (T.i 0) (T.l y0.rows) (T.l x0.rows)
  (fun y7 y8 => S_l2Block_L1_0 m m y7 (T.i 0) (T.l y8.rows)
  (fun y9 => k0 (T.l y9.rows))))
  (.bad))
noncomputable def S_l2Block_a : List Arg := [.one (.dz [.sc (.int .i64)] []), .one (.dz [.sc (.int .u8)] []), .one (.dz [.sc (.int .i64)] [])]
noncomputable def S_l2Block_w (m : Nat) (vs : List T) (k : Ret → An) : An := S_l2Block m (vs.headD dflt) (vs.tail.headD dflt) (vs.tail.tail.headD dflt) (fun z0 => k ⟨[.one (.own [1000000, 0] [.sc (.int .i64)] [.F] z0.rows)], [[none], [none], [none]], [none, none, none]⟩)
theorem S_l2Block_cf (m : Nat) : callK CX prims m = (patC 81 S_l2Words_a (S_l2Words_w m) (patC 82 S_l2Turn_a (S_l2Turn_w m) (callK CX prims m))) := by
  rw [← patC_eq (fun vs k => S_l2Turn_eq m vs k), ← patC_eq (fun vs k => S_l2Words_eq m vs k)]
noncomputable def S_l2Block_c : Code := (Tryz.f58.body).getD .skip
noncomputable def S_l2Block_fi : Fi := ⟨58, 3, 144, 64⟩
theorem S_l2Block_lf (m : Nat) : ∀ n, (∀ vs k, loopK CX (callK CX prims m) S_l2Block_fi S_l2Block_c n [0, 1, 0, 1, 1, 1] (fPack S_l2Block_s0_0 vs) k = S_l2Block_L0_0w m n vs k) ∧ (∀ vs k, loopK CX (callK CX prims m) S_l2Block_fi S_l2Block_c n [0, 1, 0, 1, 1, 1, 1] (fPack S_l2Block_s1_0 vs) k = S_l2Block_L1_0w m n vs k) ∧ ((loopK CX (callK CX prims m) S_l2Block_fi S_l2Block_c n) = (patL [0, 1, 0, 1, 1, 1] S_l2Block_s0_0 (S_l2Block_L0_0w m n) (patL [0, 1, 0, 1, 1, 1, 1] S_l2Block_s1_0 (S_l2Block_L1_0w m n) (loopK CX (callK CX prims m) S_l2Block_fi S_l2Block_c n)))) :=
 lf2 (fun n h0 h1 => by rw [← patL_eq h1, ← patL_eq h0]) (fun vs k => rfl) (fun vs k => rfl) (fun n hn vs k => (stepL_congr (S_l2Block_cf m) hn [0, 1, 0, 1, 1, 1] _ _).trans (by kernel_rfl)) fun n hn vs k => (stepL_congr (S_l2Block_cf m) hn [0, 1, 0, 1, 1, 1, 1] _ _).trans (by kernel_rfl)
theorem S_l2Block_eq (m : Nat) : ∀ vs k, callK CX prims m 58 (fArgs S_l2Block_a vs) k = S_l2Block_w m vs k := by
  cases m with
  | zero => exact fun vs k => rfl
  | succ m => exact fun vs k => Eq.trans (b := bodyK CX (callK CX prims m) (loopK CX (callK CX prims m) S_l2Block_fi S_l2Block_c m) 58 Tryz.f58 S_l2Block_c (fArgs S_l2Block_a vs) k) (by kernel_rfl) ((bodyK_congr (S_l2Block_cf m) ((S_l2Block_lf m m).2.2) 58 Tryz.f58 S_l2Block_c (fArgs S_l2Block_a vs) k).trans (by kernel_rfl))
noncomputable def S_Digest_L1_0 (m : Nat) : Nat → T → T → T → (T → An) → An
 | 0, _, _, _, _ => .bad
 | n + 1, x0, x1, x2, k0 =>
  cond (decide (x0.int < 8))
  (cond (decide ((0 : Int) ≤ x0.int ∧ x0.int < (x1.rows.length : Int)))
  (cond (decide ((Int.toNat x0.int) < x1.rows.length))
  (cond (decide ((0 : Int) ≤ x0.int ∧ x0.int < (x1.rows.length : Int)))
  (cond (decide ((Int.toNat x0.int) < x1.rows.length))
  (cond (decide ((0 : Int) ≤ x0.int ∧ x0.int < (x1.rows.length : Int)))
  (cond (decide ((Int.toNat x0.int) < x1.rows.length))
  (cond (decide ((0 : Int) ≤ x0.int ∧ x0.int < (x1.rows.length : Int)))
  (cond (decide ((Int.toNat x0.int) < x1.rows.length))
  (cond (decide ((x2.rows.length + 4) * 1 ≤ maxRow))
  (S_Digest_L1_0 m n (T.i (IntKind.i64.wrap (x0.int + 1))) (T.l x1.rows) (T.l (x2.rows ++ [[(T.i (IntKind.u8.wrap (Int.fdiv ((x1.rows.getD (Int.toNat x0.int) []).getD 0 dflt).int (2 ^ (min (Int.toNat 24) IntKind.i64.bits)))))], [(T.i (IntKind.u8.wrap (Int.fdiv ((x1.rows.getD (Int.toNat x0.int) []).getD 0 dflt).int (2 ^ (min (Int.toNat 16) IntKind.i64.bits)))))], [(T.i (IntKind.u8.wrap (Int.fdiv ((x1.rows.getD (Int.toNat x0.int) []).getD 0 dflt).int (2 ^ (min (Int.toNat 8) IntKind.i64.bits)))))], [(T.i (IntKind.u8.wrap ((x1.rows.getD (Int.toNat x0.int) []).getD 0 dflt).int))]])) k0)
  (.bad))
  (.bad))
  (.bad))
  (.bad))
  (.bad))
  (.bad))
  (.bad))
  (.bad))
  (.bad))
  (k0 (T.l x2.rows))
noncomputable def S_Digest_s1_0 : Pack := ⟨[(4, .one ⟨.al [1000000, 0] 0, .sl [.sc (.int .i64)], .l []⟩), (7, .one ⟨.al [1000000, 1] 0, .sl [.sc (.int .u8)], .l []⟩), (8, .one ⟨.sc, .sc (.int .i64), .l []⟩)], [([1000000, 0], .row [.sc (.int .i64)] [.F] []), ([1000000, 1], .row [.sc (.int .u8)] [.F] [])]⟩
noncomputable def S_Digest_e1_0 : Pack := ⟨[(7, .one ⟨.al [1000000, 0] 0, .sl [.sc (.int .u8)], .l []⟩)], [([1000000, 0], .row [.sc (.int .u8)] [.F] [])]⟩
noncomputable def S_Digest_L1_0w (m n : Nat) (vs : List T) (k : Ctl → Pack → An) : An := S_Digest_L1_0 m n (vs.headD dflt) (vs.tail.headD dflt) (vs.tail.tail.headD dflt) (fun z0 => k (.exit 2) (fPack S_Digest_e1_0 [z0]))
noncomputable def S_Digest_L0_0 (m : Nat) : Nat → T → T → T → T → (T → An) → An
 | 0, _, _, _, _, _ => .bad
 | n + 1, x0, x1, x2, x3, k0 =>
  cond (decide (x0.int < (x1.rows.length : Int)))
  (cond (decide ((0 : Int) ≤ (IntKind.i64.wrap (x0.int + 64)) ∧ (IntKind.i64.wrap (x0.int + 64)) ≤ (x1.rows.length : Int)))
  (cond (decide ((0 : Int) ≤ x0.int ∧ x0.int ≤ (IntKind.i64.wrap (x0.int + 64))))
  (S_l2Block m (T.l x2.rows) (T.l ((x1.rows.take (Int.toNat (IntKind.i64.wrap (x0.int + 64)))).drop (Int.toNat x0.int))) (T.l x3.rows)
  (fun y2 => S_Digest_L0_0 m n (T.i (IntKind.i64.wrap (x0.int + 64))) (T.l x1.rows) (T.l y2.rows) (T.l x3.rows) k0))
  (.bad))
  (.bad))
  (k0 (T.l x2.rows))
noncomputable def S_Digest_s0_0 : Pack := ⟨[(3, .one ⟨.al [1000000, 0] 0, .sl [.sc (.int .u8)], .l []⟩), (4, .one ⟨.al [1000000, 1] 0, .sl [.sc (.int .i64)], .l []⟩), (5, .one ⟨.al [1000000, 2] 0, .sl [.sc (.int .i64)], .l []⟩), (6, .one ⟨.sc, .sc (.int .i64), .l []⟩)], [([1000000, 0], .row [.sc (.int .u8)] [.F] []), ([1000000, 1], .row [.sc (.int .i64)] [.F] []), ([1000000, 2], .row [.sc (.int .i64)] [.F] [])]⟩
noncomputable def S_Digest_e0_0 : Pack := ⟨[(4, .one ⟨.al [1000000, 0] 0, .sl [.sc (.int .i64)], .l []⟩)], [([1000000, 0], .row [.sc (.int .i64)] [.F] [])]⟩
noncomputable def S_Digest_L0_0w (m n : Nat) (vs : List T) (k : Ctl → Pack → An) : An := S_Digest_L0_0 m n (vs.headD dflt) (vs.tail.headD dflt) (vs.tail.tail.headD dflt) (vs.tail.tail.tail.headD dflt) (fun z0 => k (.exit 0) (fPack S_Digest_e0_0 [z0]))
noncomputable def S_Digest : Nat → T → (T → An) → An
 | 0, _, _ => .bad
 | m + 1, x0, k0 =>
  S_Padded m (T.l x0.rows)
  (fun y0 => S_l2K m
  (fun y1 => S_Digest_L0_0 m m (T.i 0) (T.l y0.rows) (T.l [[(T.i 1779033703)], [(T.i 3144134277)], [(T.i 1013904242)], [(T.i 2773480762)], [(T.i 1359893119)], [(T.i 2600822924)], [(T.i 528734635)], [(T.i 1541459225)]]) (T.l y1.rows)
  (fun y3 => S_Digest_L1_0 m m (T.i 0) (T.l y3.rows) (T.l [])
  (fun y4 => k0 (T.s (rowsBytes y4.rows))))))
noncomputable def S_Digest_a : List Arg := [.one (.dz [.sc (.int .u8)] [])]
noncomputable def S_Digest_w (m : Nat) (vs : List T) (k : Ret → An) : An := S_Digest m (vs.headD dflt) (fun z0 => k ⟨[.one (.sc (.str) z0)], [[none]], [none]⟩)
theorem S_Digest_cf (m : Nat) : callK CX prims m = (patC 56 S_Padded_a (S_Padded_w m) (patC 57 S_l2K_a (S_l2K_w m) (patC 58 S_l2Block_a (S_l2Block_w m) (callK CX prims m)))) := by
  rw [← patC_eq (fun vs k => S_l2Block_eq m vs k), ← patC_eq (fun vs k => S_l2K_eq m vs k), ← patC_eq (fun vs k => S_Padded_eq m vs k)]
noncomputable def S_Digest_c : Code := (Tryz.f34.body).getD .skip
noncomputable def S_Digest_fi : Fi := ⟨34, 1, 60, 4⟩
theorem S_Digest_lf (m : Nat) : ∀ n, (∀ vs k, loopK CX (callK CX prims m) S_Digest_fi S_Digest_c n [0, 1, 0, 1, 1, 1, 1] (fPack S_Digest_s0_0 vs) k = S_Digest_L0_0w m n vs k) ∧ (∀ vs k, loopK CX (callK CX prims m) S_Digest_fi S_Digest_c n [0, 1, 0, 1, 1, 1, 1, 1, 1] (fPack S_Digest_s1_0 vs) k = S_Digest_L1_0w m n vs k) ∧ ((loopK CX (callK CX prims m) S_Digest_fi S_Digest_c n) = (patL [0, 1, 0, 1, 1, 1, 1] S_Digest_s0_0 (S_Digest_L0_0w m n) (patL [0, 1, 0, 1, 1, 1, 1, 1, 1] S_Digest_s1_0 (S_Digest_L1_0w m n) (loopK CX (callK CX prims m) S_Digest_fi S_Digest_c n)))) :=
 lf2 (fun n h0 h1 => by rw [← patL_eq h1, ← patL_eq h0]) (fun vs k => rfl) (fun vs k => rfl) (fun n hn vs k => (stepL_congr (S_Digest_cf m) hn [0, 1, 0, 1, 1, 1, 1] _ _).trans (by kernel_rfl)) fun n hn vs k => (stepL_congr (S_Digest_cf m) hn [0, 1, 0, 1, 1, 1, 1, 1, 1] _ _).trans (by kernel_rfl)
theorem S_Digest_eq (m : Nat) : ∀ vs k, callK CX prims m 34 (fArgs S_Digest_a vs) k = S_Digest_w m vs k := by
  cases m with
  | zero => exact fun vs k => rfl
  | succ m => exact fun vs k => Eq.trans (b := bodyK CX (callK CX prims m) (loopK CX (callK CX prims m) S_Digest_fi S_Digest_c m) 34 Tryz.f34 S_Digest_c (fArgs S_Digest_a vs) k) (by kernel_rfl) ((bodyK_congr (S_Digest_cf m) ((S_Digest_lf m m).2.2) 34 Tryz.f34 S_Digest_c (fArgs S_Digest_a vs) k).trans (by kernel_rfl))
noncomputable def S_SuperOf : Nat → T → T → T → (T → An) → An
 | 0, _, _, _, _ => .bad
 | m + 1, x0, x1, x2, k0 =>
  S_l15Super m x0 x1 (T.l x2.rows)
  (fun y0 => S_Digest m (T.l y0.rows)
  (fun y1 => k0 y1))
noncomputable def S_SuperOf_a : List Arg := [.one (.sc (.int .i64) (.l [])), .one (.sc (.str) (.l [])), .one (.dz [.sc (.str)] [])]
noncomputable def S_SuperOf_w (m : Nat) (vs : List T) (k : Ret → An) : An := S_SuperOf m (vs.headD dflt) (vs.tail.headD dflt) (vs.tail.tail.headD dflt) (fun z0 => k ⟨[.one (.sc (.str) z0)], [[none], [none], [none]], [none, none, none]⟩)
theorem S_SuperOf_cf (m : Nat) : callK CX prims m = (patC 35 S_l15Super_a (S_l15Super_w m) (patC 34 S_Digest_a (S_Digest_w m) (callK CX prims m))) := by
  rw [← patC_eq (fun vs k => S_Digest_eq m vs k), ← patC_eq (fun vs k => S_l15Super_eq m vs k)]
noncomputable def S_SuperOf_c : Code := (Tryz.f15.body).getD .skip
noncomputable def S_SuperOf_fi : Fi := ⟨15, 3, 12, 64⟩
theorem S_SuperOf_eq (m : Nat) : ∀ vs k, callK CX prims m 15 (fArgs S_SuperOf_a vs) k = S_SuperOf_w m vs k := by
  cases m with
  | zero => exact fun vs k => rfl
  | succ m => exact fun vs k => Eq.trans (b := bodyK CX (callK CX prims m) (loopK CX (callK CX prims m) S_SuperOf_fi S_SuperOf_c m) 15 Tryz.f15 S_SuperOf_c (fArgs S_SuperOf_a vs) k) (by kernel_rfl) ((bodyK_congr (S_SuperOf_cf m) rfl 15 Tryz.f15 S_SuperOf_c (fArgs S_SuperOf_a vs) k).trans (by kernel_rfl))
noncomputable def S_l1In : Nat → T → T → T → (T → An) → An
 | 0, _, _, _, _ => .bad
 | m + 1, x0, x1, x2, k0 =>
  cond ((decide (x0.int ≥ x1.int)) == true)
  (k0 (T.b (decide (x0.int ≤ x2.int))))
  (k0 (T.b false))
noncomputable def S_l1In_a : List Arg := [.one (.sc (.int .i64) (.l [])), .one (.sc (.int .i64) (.l [])), .one (.sc (.int .i64) (.l []))]
noncomputable def S_l1In_w (m : Nat) (vs : List T) (k : Ret → An) : An := S_l1In m (vs.headD dflt) (vs.tail.headD dflt) (vs.tail.tail.headD dflt) (fun z0 => k ⟨[.one (.sc (.bool) z0)], [[none], [none], [none]], [none, none, none]⟩)
theorem S_l1In_cf (m : Nat) : callK CX prims m = (callK CX prims m) := by
  rfl
noncomputable def S_l1In_c : Code := (Tryz.f16.body).getD .skip
noncomputable def S_l1In_fi : Fi := ⟨16, 3, 15, 64⟩
theorem S_l1In_eq (m : Nat) : ∀ vs k, callK CX prims m 16 (fArgs S_l1In_a vs) k = S_l1In_w m vs k := by
  cases m with
  | zero => exact fun vs k => rfl
  | succ m => exact fun vs k => Eq.trans (b := bodyK CX (callK CX prims m) (loopK CX (callK CX prims m) S_l1In_fi S_l1In_c m) 16 Tryz.f16 S_l1In_c (fArgs S_l1In_a vs) k) (by kernel_rfl) ((bodyK_congr (S_l1In_cf m) rfl 16 Tryz.f16 S_l1In_c (fArgs S_l1In_a vs) k).trans (by kernel_rfl))
noncomputable def S_l4Leaf : Nat → T → T → (T → An) → An
 | 0, _, _, _ => .bad
 | m + 1, x0, x1, k0 =>
  S_PutText m (T.l [[(T.i 0)]]) x0
  (fun y0 => S_PutText m (T.l y0.rows) x1
  (fun y1 => k0 (T.l y1.rows)))
noncomputable def S_l4Leaf_a : List Arg := [.agg [.sc (.str) (.l []), .sc (.str) (.l [])]]
noncomputable def S_l4Leaf_w (m : Nat) (vs : List T) (k : Ret → An) : An := S_l4Leaf m (vs.headD dflt) (vs.tail.headD dflt) (fun z0 => k ⟨[.one (.own [2000009, 0, 0] [.sc (.int .u8)] [.F] z0.rows)], [[none, none]], [none]⟩)
theorem S_l4Leaf_cf (m : Nat) : callK CX prims m = (patC 60 S_PutText_a (S_PutText_w m) (callK CX prims m)) := by
  rw [← patC_eq (fun vs k => S_PutText_eq m vs k)]
noncomputable def S_l4Leaf_c : Code := (Tryz.f88.body).getD .skip
noncomputable def S_l4Leaf_fi : Fi := ⟨88, 1, 10, 4⟩
theorem S_l4Leaf_eq (m : Nat) : ∀ vs k, callK CX prims m 88 (fArgs S_l4Leaf_a vs) k = S_l4Leaf_w m vs k := by
  cases m with
  | zero => exact fun vs k => rfl
  | succ m => exact fun vs k => Eq.trans (b := bodyK CX (callK CX prims m) (loopK CX (callK CX prims m) S_l4Leaf_fi S_l4Leaf_c m) 88 Tryz.f88 S_l4Leaf_c (fArgs S_l4Leaf_a vs) k) (by kernel_rfl) ((bodyK_congr (S_l4Leaf_cf m) rfl 88 Tryz.f88 S_l4Leaf_c (fArgs S_l4Leaf_a vs) k).trans (by kernel_rfl))
noncomputable def S_LeafOf : Nat → T → T → (T → An) → An
 | 0, _, _, _ => .bad
 | m + 1, x0, x1, k0 =>
  S_l4Leaf m x0 x1
  (fun y0 => S_Digest m (T.l y0.rows)
  (fun y1 => k0 y1))
noncomputable def S_LeafOf_a : List Arg := [.agg [.sc (.str) (.l []), .sc (.str) (.l [])]]
noncomputable def S_LeafOf_w (m : Nat) (vs : List T) (k : Ret → An) : An := S_LeafOf m (vs.headD dflt) (vs.tail.headD dflt) (fun z0 => k ⟨[.one (.sc (.str) z0)], [[none, none]], [none]⟩)
theorem S_LeafOf_cf (m : Nat) : callK CX prims m = (patC 88 S_l4Leaf_a (S_l4Leaf_w m) (patC 34 S_Digest_a (S_Digest_w m) (callK CX prims m))) := by
  rw [← patC_eq (fun vs k => S_Digest_eq m vs k), ← patC_eq (fun vs k => S_l4Leaf_eq m vs k)]
noncomputable def S_LeafOf_c : Code := (Tryz.f83.body).getD .skip
noncomputable def S_LeafOf_fi : Fi := ⟨83, 1, 6, 4⟩
theorem S_LeafOf_eq (m : Nat) : ∀ vs k, callK CX prims m 83 (fArgs S_LeafOf_a vs) k = S_LeafOf_w m vs k := by
  cases m with
  | zero => exact fun vs k => rfl
  | succ m => exact fun vs k => Eq.trans (b := bodyK CX (callK CX prims m) (loopK CX (callK CX prims m) S_LeafOf_fi S_LeafOf_c m) 83 Tryz.f83 S_LeafOf_c (fArgs S_LeafOf_a vs) k) (by kernel_rfl) ((bodyK_congr (S_LeafOf_cf m) rfl 83 Tryz.f83 S_LeafOf_c (fArgs S_LeafOf_a vs) k).trans (by kernel_rfl))
noncomputable def S_l4Half_L0_0 (m : Nat) : Nat → T → T → (T → An) → An
 | 0, _, _, _ => .bad
 | n + 1, x0, x1, k0 =>
  cond (decide ((IntKind.i64.wrap (2 * x1.int)) < x0.int))
  (S_l4Half_L0_0 m n x0 (T.i (IntKind.i64.wrap (2 * x1.int))) k0)
  (k0 x1)
noncomputable def S_l4Half_s0_0 : Pack := ⟨[(0, .one ⟨.sc, .sc (.int .i64), .l []⟩), (3, .one ⟨.sc, .sc (.int .i64), .l []⟩)], []⟩
noncomputable def S_l4Half_e0_0 : Pack := ⟨[(3, .one ⟨.sc, .sc (.int .i64), .l []⟩)], []⟩
noncomputable def S_l4Half_L0_0w (m n : Nat) (vs : List T) (k : Ctl → Pack → An) : An := S_l4Half_L0_0 m n (vs.headD dflt) (vs.tail.headD dflt) (fun z0 => k (.exit 0) (fPack S_l4Half_e0_0 [z0]))
noncomputable def S_l4Half : Nat → T → (T → An) → An
 | 0, _, _ => .bad
 | m + 1, x0, k0 =>
  S_l4Half_L0_0 m m x0 (T.i 1)
  (fun y0 => k0 y0)
noncomputable def S_l4Half_a : List Arg := [.one (.sc (.int .i64) (.l []))]
noncomputable def S_l4Half_w (m : Nat) (vs : List T) (k : Ret → An) : An := S_l4Half m (vs.headD dflt) (fun z0 => k ⟨[.one (.sc (.int .i64) z0)], [[none]], [none]⟩)
theorem S_l4Half_cf (m : Nat) : callK CX prims m = (callK CX prims m) := by
  rfl
noncomputable def S_l4Half_c : Code := (Tryz.f84.body).getD .skip
noncomputable def S_l4Half_fi : Fi := ⟨84, 1, 11, 4⟩
theorem S_l4Half_lf (m : Nat) : ∀ n, (∀ vs k, loopK CX (callK CX prims m) S_l4Half_fi S_l4Half_c n [0, 0, 1, 1] (fPack S_l4Half_s0_0 vs) k = S_l4Half_L0_0w m n vs k) ∧ ((loopK CX (callK CX prims m) S_l4Half_fi S_l4Half_c n) = (patL [0, 0, 1, 1] S_l4Half_s0_0 (S_l4Half_L0_0w m n) (loopK CX (callK CX prims m) S_l4Half_fi S_l4Half_c n))) :=
 lf1 (fun n h0 => by rw [← patL_eq h0]) (fun vs k => rfl) fun n hn vs k => (stepL_congr (S_l4Half_cf m) hn [0, 0, 1, 1] _ _).trans (by kernel_rfl)
theorem S_l4Half_eq (m : Nat) : ∀ vs k, callK CX prims m 84 (fArgs S_l4Half_a vs) k = S_l4Half_w m vs k := by
  cases m with
  | zero => exact fun vs k => rfl
  | succ m => exact fun vs k => Eq.trans (b := bodyK CX (callK CX prims m) (loopK CX (callK CX prims m) S_l4Half_fi S_l4Half_c m) 84 Tryz.f84 S_l4Half_c (fArgs S_l4Half_a vs) k) (by kernel_rfl) ((bodyK_congr (S_l4Half_cf m) ((S_l4Half_lf m m).2) 84 Tryz.f84 S_l4Half_c (fArgs S_l4Half_a vs) k).trans (by kernel_rfl))
noncomputable def S_l4Node : Nat → T → T → (T → An) → An
 | 0, _, _, _ => .bad
 | m + 1, x0, x1, k0 =>
  cond (decide ((1 + (bytesRows x0.str).length) * 1 ≤ maxRow))
  (cond (decide ((([[(T.i 1)]] ++ (bytesRows x0.str)).length + (bytesRows x1.str).length) * 1 ≤ maxRow))
  (k0 (T.l (([[(T.i 1)]] ++ (bytesRows x0.str)) ++ (bytesRows x1.str))))
  (.bad))
  (.bad)
noncomputable def S_l4Node_a : List Arg := [.one (.sc (.str) (.l [])), .one (.sc (.str) (.l []))]
noncomputable def S_l4Node_w (m : Nat) (vs : List T) (k : Ret → An) : An := S_l4Node m (vs.headD dflt) (vs.tail.headD dflt) (fun z0 => k ⟨[.one (.own [2000009] [.sc (.int .u8)] [.F] z0.rows)], [[none], [none]], [none, none]⟩)
theorem S_l4Node_cf (m : Nat) : callK CX prims m = (callK CX prims m) := by
  rfl
noncomputable def S_l4Node_c : Code := (Tryz.f106.body).getD .skip
noncomputable def S_l4Node_fi : Fi := ⟨106, 2, 10, 16⟩
theorem S_l4Node_eq (m : Nat) : ∀ vs k, callK CX prims m 106 (fArgs S_l4Node_a vs) k = S_l4Node_w m vs k := by
  cases m with
  | zero => exact fun vs k => rfl
  | succ m => exact fun vs k => Eq.trans (b := bodyK CX (callK CX prims m) (loopK CX (callK CX prims m) S_l4Node_fi S_l4Node_c m) 106 Tryz.f106 S_l4Node_c (fArgs S_l4Node_a vs) k) (by kernel_rfl) ((bodyK_congr (S_l4Node_cf m) rfl 106 Tryz.f106 S_l4Node_c (fArgs S_l4Node_a vs) k).trans (by kernel_rfl))
noncomputable def S_NodeOf : Nat → T → T → (T → An) → An
 | 0, _, _, _ => .bad
 | m + 1, x0, x1, k0 =>
  S_l4Node m x0 x1
  (fun y0 => S_Digest m (T.l y0.rows)
  (fun y1 => k0 y1))
noncomputable def S_NodeOf_a : List Arg := [.one (.sc (.str) (.l [])), .one (.sc (.str) (.l []))]
noncomputable def S_NodeOf_w (m : Nat) (vs : List T) (k : Ret → An) : An := S_NodeOf m (vs.headD dflt) (vs.tail.headD dflt) (fun z0 => k ⟨[.one (.sc (.str) z0)], [[none], [none]], [none, none]⟩)
theorem S_NodeOf_cf (m : Nat) : callK CX prims m = (patC 106 S_l4Node_a (S_l4Node_w m) (patC 34 S_Digest_a (S_Digest_w m) (callK CX prims m))) := by
  rw [← patC_eq (fun vs k => S_Digest_eq m vs k), ← patC_eq (fun vs k => S_l4Node_eq m vs k)]
noncomputable def S_NodeOf_c : Code := (Tryz.f85.body).getD .skip
noncomputable def S_NodeOf_fi : Fi := ⟨85, 2, 9, 16⟩
theorem S_NodeOf_eq (m : Nat) : ∀ vs k, callK CX prims m 85 (fArgs S_NodeOf_a vs) k = S_NodeOf_w m vs k := by
  cases m with
  | zero => exact fun vs k => rfl
  | succ m => exact fun vs k => Eq.trans (b := bodyK CX (callK CX prims m) (loopK CX (callK CX prims m) S_NodeOf_fi S_NodeOf_c m) 85 Tryz.f85 S_NodeOf_c (fArgs S_NodeOf_a vs) k) (by kernel_rfl) ((bodyK_congr (S_NodeOf_cf m) rfl 85 Tryz.f85 S_NodeOf_c (fArgs S_NodeOf_a vs) k).trans (by kernel_rfl))
noncomputable def S_l4Inner : Nat → T → (T → An) → An
 | 0, _, _ => .bad
 | m + 1, x0, k0 =>
  cond ((x0.rows.length : Int) == 0)
  (S_Digest m (T.l [])
  (fun y0 => k0 y0))
  (cond ((x0.rows.length : Int) == 1)
  (cond (decide ((0 : Int) ≤ 0 ∧ 0 < (x0.rows.length : Int)))
  (S_LeafOf m ((x0.rows.getD 0 []).getD 0 dflt) ((x0.rows.getD 0 []).getD 1 dflt)
  (fun y1 => k0 y1))
  (.bad))
  (S_l4Half m (T.i (x0.rows.length : Int))
  (fun y2 => cond (decide ((0 : Int) ≤ y2.int ∧ y2.int ≤ (x0.rows.length : Int)))
  (cond (decide ((0 : Int) ≤ 0 ∧ 0 ≤ y2.int))
  (S_l4Inner m (T.l (x0.rows.take (Int.toNat y2.int)))
  (fun y3 => cond (decide ((0 : Int) ≤ (x0.rows.length : Int) ∧ (x0.rows.length : Int) ≤ (x0.rows.length : Int)))
  (cond (decide ((0 : Int) ≤ y2.int ∧ y2.int ≤ (x0.rows.length : Int)))
  (S_l4Inner m (T.l ((x0.rows.take (Int.toNat (x0.rows.length : Int))).drop (Int.toNat y2.int)))
  (fun y4 => S_NodeOf m y3 y4
  (fun y5 => k0 y5)))
  (.bad))
  (.bad)))
  (.bad))
  (.bad))))
noncomputable def S_l4Inner_a : List Arg := [.one (.dz [.sc (.str), .sc (.str)] [])]
noncomputable def S_l4Inner_w (m : Nat) (vs : List T) (k : Ret → An) : An := S_l4Inner m (vs.headD dflt) (fun z0 => k ⟨[.one (.sc (.str) z0)], [[none]], [none]⟩)
theorem S_l4Inner_cf (m : Nat) (ih : ∀ vs k, callK CX prims m 63 (fArgs S_l4Inner_a vs) k = S_l4Inner_w m vs k) : callK CX prims m = (patC 34 S_Digest_a (S_Digest_w m) (patC 83 S_LeafOf_a (S_LeafOf_w m) (patC 84 S_l4Half_a (S_l4Half_w m) (patC 63 S_l4Inner_a (S_l4Inner_w m) (patC 85 S_NodeOf_a (S_NodeOf_w m) (callK CX prims m)))))) := by
  rw [← patC_eq (fun vs k => S_NodeOf_eq m vs k), ← patC_eq (fun vs k => ih vs k), ← patC_eq (fun vs k => S_l4Half_eq m vs k), ← patC_eq (fun vs k => S_LeafOf_eq m vs k), ← patC_eq (fun vs k => S_Digest_eq m vs k)]
noncomputable def S_l4Inner_c : Code := (Tryz.f63.body).getD .skip
noncomputable def S_l4Inner_fi : Fi := ⟨63, 1, 28, 4⟩
theorem S_l4Inner_eq (m : Nat) : ∀ vs k, callK CX prims m 63 (fArgs S_l4Inner_a vs) k = S_l4Inner_w m vs k := by
  induction m with
  | zero => exact fun vs k => rfl
  | succ m ih => exact fun vs k => Eq.trans (b := bodyK CX (callK CX prims m) (loopK CX (callK CX prims m) S_l4Inner_fi S_l4Inner_c m) 63 Tryz.f63 S_l4Inner_c (fArgs S_l4Inner_a vs) k) (by kernel_rfl) ((bodyK_congr (S_l4Inner_cf m ih) rfl 63 Tryz.f63 S_l4Inner_c (fArgs S_l4Inner_a vs) k).trans (by kernel_rfl))
noncomputable def S_l4Top : Nat → T → T → (T → An) → An
 | 0, _, _, _ => .bad
 | m + 1, x0, x1, k0 =>
  S_PutNum m (T.l [[(T.i 2)]]) x0
  (fun y0 => cond (decide ((y0.rows.length + (bytesRows x1.str).length) * 1 ≤ maxRow))
  (k0 (T.l (y0.rows ++ (bytesRows x1.str))))
  (.bad))
noncomputable def S_l4Top_a : List Arg := [.one (.sc (.int .i64) (.l [])), .one (.sc (.str) (.l []))]
noncomputable def S_l4Top_w (m : Nat) (vs : List T) (k : Ret → An) : An := S_l4Top m (vs.headD dflt) (vs.tail.headD dflt) (fun z0 => k ⟨[.one (.own [2000009] [.sc (.int .u8)] [.F] z0.rows)], [[none], [none]], [none, none]⟩)
theorem S_l4Top_cf (m : Nat) : callK CX prims m = (patC 61 S_PutNum_a (S_PutNum_w m) (callK CX prims m)) := by
  rw [← patC_eq (fun vs k => S_PutNum_eq m vs k)]
noncomputable def S_l4Top_c : Code := (Tryz.f62.body).getD .skip
noncomputable def S_l4Top_fi : Fi := ⟨62, 2, 10, 16⟩
theorem S_l4Top_eq (m : Nat) : ∀ vs k, callK CX prims m 62 (fArgs S_l4Top_a vs) k = S_l4Top_w m vs k := by
  cases m with
  | zero => exact fun vs k => rfl
  | succ m => exact fun vs k => Eq.trans (b := bodyK CX (callK CX prims m) (loopK CX (callK CX prims m) S_l4Top_fi S_l4Top_c m) 62 Tryz.f62 S_l4Top_c (fArgs S_l4Top_a vs) k) (by kernel_rfl) ((bodyK_congr (S_l4Top_cf m) rfl 62 Tryz.f62 S_l4Top_c (fArgs S_l4Top_a vs) k).trans (by kernel_rfl))
noncomputable def S_l4Root : Nat → T → (T → An) → An
 | 0, _, _ => .bad
 | m + 1, x0, k0 =>
  S_l4Inner m (T.l x0.rows)
  (fun y0 => S_l4Top m (T.i (x0.rows.length : Int)) y0
  (fun y1 => S_Digest m (T.l y1.rows)
  (fun y2 => k0 y2)))
noncomputable def S_l4Root_a : List Arg := [.one (.dz [.sc (.str), .sc (.str)] [])]
noncomputable def S_l4Root_w (m : Nat) (vs : List T) (k : Ret → An) : An := S_l4Root m (vs.headD dflt) (fun z0 => k ⟨[.one (.sc (.str) z0)], [[none]], [none]⟩)
theorem S_l4Root_cf (m : Nat) : callK CX prims m = (patC 63 S_l4Inner_a (S_l4Inner_w m) (patC 62 S_l4Top_a (S_l4Top_w m) (patC 34 S_Digest_a (S_Digest_w m) (callK CX prims m)))) := by
  rw [← patC_eq (fun vs k => S_Digest_eq m vs k), ← patC_eq (fun vs k => S_l4Top_eq m vs k), ← patC_eq (fun vs k => S_l4Inner_eq m vs k)]
noncomputable def S_l4Root_c : Code := (Tryz.f36.body).getD .skip
noncomputable def S_l4Root_fi : Fi := ⟨36, 1, 9, 4⟩
theorem S_l4Root_eq (m : Nat) : ∀ vs k, callK CX prims m 36 (fArgs S_l4Root_a vs) k = S_l4Root_w m vs k := by
  cases m with
  | zero => exact fun vs k => rfl
  | succ m => exact fun vs k => Eq.trans (b := bodyK CX (callK CX prims m) (loopK CX (callK CX prims m) S_l4Root_fi S_l4Root_c m) 36 Tryz.f36 S_l4Root_c (fArgs S_l4Root_a vs) k) (by kernel_rfl) ((bodyK_congr (S_l4Root_cf m) rfl 36 Tryz.f36 S_l4Root_c (fArgs S_l4Root_a vs) k).trans (by kernel_rfl))
noncomputable def S_KeyOk_L0_0 (m : Nat) : Nat → T → T → (T → An) → (T → An) → An
 | 0, _, _, _, _ => .bad
 | n + 1, x0, x1, k0, k1 =>
  cond (decide (x1.int < (x0.str.size : Int)))
  (cond (decide ((0 : Int) ≤ x1.int ∧ x1.int < (x0.str.size : Int)))
  (S_l1In m (T.i (IntKind.i64.wrap ((x0.str.data.toList.getD (Int.toNat x1.int) 0).toNat : Int))) (T.i 97) (T.i 122)
  (fun y0 => cond ((!y0.bool) == true)
  (cond (decide ((0 : Int) ≤ x1.int ∧ x1.int < (x0.str.size : Int)))
  (S_l1In m (T.i (IntKind.i64.wrap ((x0.str.data.toList.getD (Int.toNat x1.int) 0).toNat : Int))) (T.i 48) (T.i 57)
  (fun y1 => cond (!y1.bool)
  (k0 (T.b false))
  (S_KeyOk_L0_0 m n x0 (T.i (IntKind.i64.wrap (x1.int + 1))) k0 k1)))
  (.bad))
  (S_KeyOk_L0_0 m n x0 (T.i (IntKind.i64.wrap (x1.int + 1))) k0 k1)))
  (.bad))
  (k1 x0)
noncomputable def S_KeyOk_s0_0 : Pack := ⟨[(0, .one ⟨.sc, .sc (.str), .l []⟩), (3, .one ⟨.sc, .sc (.int .i64), .l []⟩)], []⟩
noncomputable def S_KeyOk_e0_0 : Pack := ⟨[(2, .one ⟨.sc, .sc (.bool), .l []⟩)], []⟩
noncomputable def S_KeyOk_e0_1 : Pack := ⟨[(0, .one ⟨.sc, .sc (.str), .l []⟩)], []⟩
noncomputable def S_KeyOk_L0_0w (m n : Nat) (vs : List T) (k : Ctl → Pack → An) : An := S_KeyOk_L0_0 m n (vs.headD dflt) (vs.tail.headD dflt) (fun z0 => k .ret (fPack S_KeyOk_e0_0 [z0])) (fun z0 => k (.exit 0) (fPack S_KeyOk_e0_1 [z0]))
noncomputable def S_KeyOk : Nat → T → (T → An) → An
 | 0, _, _ => .bad
 | m + 1, x0, k0 =>
  S_KeyOk_L0_0 m m x0 (T.i 0)
  (fun y2 => k0 y2)
  (fun y3 => S_l1In m (T.i (y3.str.size : Int)) (T.i 1) (T.i 12)
  (fun y4 => k0 y4))
noncomputable def S_KeyOk_a : List Arg := [.one (.sc (.str) (.l []))]
noncomputable def S_KeyOk_w (m : Nat) (vs : List T) (k : Ret → An) : An := S_KeyOk m (vs.headD dflt) (fun z0 => k ⟨[.one (.sc (.bool) z0)], [[none]], [none]⟩)
theorem S_KeyOk_cf (m : Nat) : callK CX prims m = (patC 16 S_l1In_a (S_l1In_w m) (callK CX prims m)) := by
  rw [← patC_eq (fun vs k => S_l1In_eq m vs k)]
noncomputable def S_KeyOk_c : Code := (Tryz.f86.body).getD .skip
noncomputable def S_KeyOk_fi : Fi := ⟨86, 1, 27, 4⟩
theorem S_KeyOk_lf (m : Nat) : ∀ n, (∀ vs k, loopK CX (callK CX prims m) S_KeyOk_fi S_KeyOk_c n [0, 1, 0, 1] (fPack S_KeyOk_s0_0 vs) k = S_KeyOk_L0_0w m n vs k) ∧ ((loopK CX (callK CX prims m) S_KeyOk_fi S_KeyOk_c n) = (patL [0, 1, 0, 1] S_KeyOk_s0_0 (S_KeyOk_L0_0w m n) (loopK CX (callK CX prims m) S_KeyOk_fi S_KeyOk_c n))) :=
 lf1 (fun n h0 => by rw [← patL_eq h0]) (fun vs k => rfl) fun n hn vs k => (stepL_congr (S_KeyOk_cf m) hn [0, 1, 0, 1] _ _).trans (by kernel_rfl)
theorem S_KeyOk_eq (m : Nat) : ∀ vs k, callK CX prims m 86 (fArgs S_KeyOk_a vs) k = S_KeyOk_w m vs k := by
  cases m with
  | zero => exact fun vs k => rfl
  | succ m => exact fun vs k => Eq.trans (b := bodyK CX (callK CX prims m) (loopK CX (callK CX prims m) S_KeyOk_fi S_KeyOk_c m) 86 Tryz.f86 S_KeyOk_c (fArgs S_KeyOk_a vs) k) (by kernel_rfl) ((bodyK_congr (S_KeyOk_cf m) ((S_KeyOk_lf m m).2) 86 Tryz.f86 S_KeyOk_c (fArgs S_KeyOk_a vs) k).trans (by kernel_rfl))
noncomputable def S_PairOk : Nat → T → T → (T → An) → An
 | 0, _, _, _ => .bad
 | m + 1, x0, x1, k0 =>
  S_KeyOk m x0
  (fun y0 => cond (y0.bool == true)
  (k0 (T.b (decide ((x1.str.size : Int) ≤ 20))))
  (k0 (T.b false)))
noncomputable def S_PairOk_a : List Arg := [.agg [.sc (.str) (.l []), .sc (.str) (.l [])]]
noncomputable def S_PairOk_w (m : Nat) (vs : List T) (k : Ret → An) : An := S_PairOk m (vs.headD dflt) (vs.tail.headD dflt) (fun z0 => k ⟨[.one (.sc (.bool) z0)], [[none, none]], [none]⟩)
theorem S_PairOk_cf (m : Nat) : callK CX prims m = (patC 86 S_KeyOk_a (S_KeyOk_w m) (callK CX prims m)) := by
  rw [← patC_eq (fun vs k => S_KeyOk_eq m vs k)]
noncomputable def S_PairOk_c : Code := (Tryz.f64.body).getD .skip
noncomputable def S_PairOk_fi : Fi := ⟨64, 1, 12, 4⟩
theorem S_PairOk_eq (m : Nat) : ∀ vs k, callK CX prims m 64 (fArgs S_PairOk_a vs) k = S_PairOk_w m vs k := by
  cases m with
  | zero => exact fun vs k => rfl
  | succ m => exact fun vs k => Eq.trans (b := bodyK CX (callK CX prims m) (loopK CX (callK CX prims m) S_PairOk_fi S_PairOk_c m) 64 Tryz.f64 S_PairOk_c (fArgs S_PairOk_a vs) k) (by kernel_rfl) ((bodyK_congr (S_PairOk_cf m) rfl 64 Tryz.f64 S_PairOk_c (fArgs S_PairOk_a vs) k).trans (by kernel_rfl))
noncomputable def S_l4Hashed : Nat → T → T → T → T → (T → T → An) → (T → T → An) → (T → T → An) → (T → T → An) → (T → T → An) → An
 | 0, _, _, _, _, _, _, _, _, _ => .bad
 | m + 1, x0, x1, x2, x3, k0, k1, k2, k3, k4 =>
  cond (decide (x2.int < 2))
  (k0 (T.l [[(T.s (rowsBytes x0.rows))]]) (T.b ((x3.rows.length : Int) == 0)))
  (cond ((x3.rows.length : Int) == 0)
  (k1 (T.l []) (T.b false))
  (cond (decide ((0 : Int) ≤ (IntKind.i64.wrap ((x3.rows.length : Int) - 1)) ∧ (IntKind.i64.wrap ((x3.rows.length : Int) - 1)) < (x3.rows.length : Int)))
  (S_l4Half m x2
  (fun y0 => cond (decide (x1.int ≥ y0.int))
  (cond (decide ((0 : Int) ≤ (IntKind.i64.wrap ((x3.rows.length : Int) - 1)) ∧ (IntKind.i64.wrap ((x3.rows.length : Int) - 1)) ≤ (x3.rows.length : Int)))
  (cond (decide ((0 : Int) ≤ 0 ∧ 0 ≤ (IntKind.i64.wrap ((x3.rows.length : Int) - 1))))
  (S_l4Hashed m (T.l x0.rows) (T.i (IntKind.i64.wrap (x1.int - y0.int))) (T.i (IntKind.i64.wrap (x2.int - y0.int))) (T.l (x3.rows.take (Int.toNat (IntKind.i64.wrap ((x3.rows.length : Int) - 1)))))
  (fun y1 y2 => cond (!y2.bool)
  (k2 (T.l []) (T.b false))
  (cond (decide ((0 : Int) ≤ (IntKind.i64.wrap ((y1.rows.length : Int) - 1)) ∧ (IntKind.i64.wrap ((y1.rows.length : Int) - 1)) < (y1.rows.length : Int)))
  (cond (decide ((Int.toNat (IntKind.i64.wrap ((y1.rows.length : Int) - 1))) < y1.rows.length))
  (cond (decide (((y1.rows.getD (Int.toNat (IntKind.i64.wrap ((y1.rows.length : Int) - 1))) []).getD 0 dflt).str.size ≤ maxCells))
  (S_Digest m (T.l (bytesRows ((y1.rows.getD (Int.toNat (IntKind.i64.wrap ((y1.rows.length : Int) - 1))) []).getD 0 dflt).str))
  (fun y3 => cond (decide (x1.int < y0.int))
  (S_l4Node m y3 ((x3.rows.getD (Int.toNat (IntKind.i64.wrap ((x3.rows.length : Int) - 1))) []).getD 0 dflt)
  (fun y4 => cond (decide ((y1.rows.length + 1) * 1 ≤ maxRow))
  (k3 (T.l (y1.rows ++ [[(T.s (rowsBytes y4.rows))]])) (T.b true))
  (.bad)))
  (S_l4Node m ((x3.rows.getD (Int.toNat (IntKind.i64.wrap ((x3.rows.length : Int) - 1))) []).getD 0 dflt) y3
  (fun y5 => cond (decide ((y1.rows.length + 1) * 1 ≤ maxRow))
  (k4 (T.l (y1.rows ++ [[(T.s (rowsBytes y5.rows))]])) (T.b true))
  (.bad)))))
  (.bad))
  (.bad))
  (.bad)))
  (fun y6 y7 => cond (!y7.bool)
  (k2 (T.l []) (T.b false))
  (cond (decide ((0 : Int) ≤ (IntKind.i64.wrap ((y6.rows.length : Int) - 1)) ∧ (IntKind.i64.wrap ((y6.rows.length : Int) - 1)) < (y6.rows.length : Int)))
  (cond (decide ((Int.toNat (IntKind.i64.wrap ((y6.rows.length : Int) - 1))) < y6.rows.length))
  (cond (decide (((y6.rows.getD (Int.toNat (IntKind.i64.wrap ((y6.rows.length : Int) - 1))) []).getD 0 dflt).str.size ≤ maxCells))
  (S_Digest m (T.l (bytesRows ((y6.rows.getD (Int.toNat (IntKind.i64.wrap ((y6.rows.length : Int) - 1))) []).getD 0 dflt).str))
  (fun y8 => cond (decide (x1.int < y0.int))
  (S_l4Node m y8 ((x3.rows.getD (Int.toNat (IntKind.i64.wrap ((x3.rows.length : Int) - 1))) []).getD 0 dflt)
  (fun y9 => cond (decide ((y6.rows.length + 1) * 1 ≤ maxRow))
  (k3 (T.l (y6.rows ++ [[(T.s (rowsBytes y9.rows))]])) (T.b true))
  (.bad)))
  (S_l4Node m ((x3.rows.getD (Int.toNat (IntKind.i64.wrap ((x3.rows.length : Int) - 1))) []).getD 0 dflt) y8
  (fun y10 => cond (decide ((y6.rows.length + 1) * 1 ≤ maxRow))
  (k4 (T.l (y6.rows ++ [[(T.s (rowsBytes y10.rows))]])) (T.b true))
  (.bad)))))
  (.bad))
  (.bad))
  (.bad)))
  (fun y11 y12 => cond (!y12.bool)
  (k2 (T.l []) (T.b false))
  (cond (decide ((0 : Int) ≤ (IntKind.i64.wrap ((y11.rows.length : Int) - 1)) ∧ (IntKind.i64.wrap ((y11.rows.length : Int) - 1)) < (y11.rows.length : Int)))
  (cond (decide ((Int.toNat (IntKind.i64.wrap ((y11.rows.length : Int) - 1))) < y11.rows.length))
  (cond (decide (((y11.rows.getD (Int.toNat (IntKind.i64.wrap ((y11.rows.length : Int) - 1))) []).getD 0 dflt).str.size ≤ maxCells))
  (S_Digest m (T.l (bytesRows ((y11.rows.getD (Int.toNat (IntKind.i64.wrap ((y11.rows.length : Int) - 1))) []).getD 0 dflt).str))
  (fun y13 => cond (decide (x1.int < y0.int))
  (S_l4Node m y13 ((x3.rows.getD (Int.toNat (IntKind.i64.wrap ((x3.rows.length : Int) - 1))) []).getD 0 dflt)
  (fun y14 => cond (decide ((y11.rows.length + 1) * 1 ≤ maxRow))
  (k3 (T.l (y11.rows ++ [[(T.s (rowsBytes y14.rows))]])) (T.b true))
  (.bad)))
  (S_l4Node m ((x3.rows.getD (Int.toNat (IntKind.i64.wrap ((x3.rows.length : Int) - 1))) []).getD 0 dflt) y13
  (fun y15 => cond (decide ((y11.rows.length + 1) * 1 ≤ maxRow))
  (k4 (T.l (y11.rows ++ [[(T.s (rowsBytes y15.rows))]])) (T.b true))
  (.bad)))))
  (.bad))
  (.bad))
  (.bad)))
  (fun y16 y17 => cond (!y17.bool)
  (k2 (T.l []) (T.b false))
  (cond (decide ((0 : Int) ≤ (IntKind.i64.wrap ((y16.rows.length : Int) - 1)) ∧ (IntKind.i64.wrap ((y16.rows.length : Int) - 1)) < (y16.rows.length : Int)))
  (cond (decide ((Int.toNat (IntKind.i64.wrap ((y16.rows.length : Int) - 1))) < y16.rows.length))
  (cond (decide (((y16.rows.getD (Int.toNat (IntKind.i64.wrap ((y16.rows.length : Int) - 1))) []).getD 0 dflt).str.size ≤ maxCells))
  (S_Digest m (T.l (bytesRows ((y16.rows.getD (Int.toNat (IntKind.i64.wrap ((y16.rows.length : Int) - 1))) []).getD 0 dflt).str))
  (fun y18 => cond (decide (x1.int < y0.int))
  (S_l4Node m y18 ((x3.rows.getD (Int.toNat (IntKind.i64.wrap ((x3.rows.length : Int) - 1))) []).getD 0 dflt)
  (fun y19 => cond (decide ((y16.rows.length + 1) * 1 ≤ maxRow))
  (k3 (T.l (y16.rows ++ [[(T.s (rowsBytes y19.rows))]])) (T.b true))
  (.bad)))
  (S_l4Node m ((x3.rows.getD (Int.toNat (IntKind.i64.wrap ((x3.rows.length : Int) - 1))) []).getD 0 dflt) y18
  (fun y20 => cond (decide ((y16.rows.length + 1) * 1 ≤ maxRow))
  (k4 (T.l (y16.rows ++ [[(T.s (rowsBytes y20.rows))]])) (T.b true))
  (.bad)))))
  (.bad))
  (.bad))
  (.bad)))
  (fun y21 y22 => cond (!y22.bool)
  (k2 (T.l []) (T.b false))
  (cond (decide ((0 : Int) ≤ (IntKind.i64.wrap ((y21.rows.length : Int) - 1)) ∧ (IntKind.i64.wrap ((y21.rows.length : Int) - 1)) < (y21.rows.length : Int)))
  (cond (decide ((Int.toNat (IntKind.i64.wrap ((y21.rows.length : Int) - 1))) < y21.rows.length))
  (cond (decide (((y21.rows.getD (Int.toNat (IntKind.i64.wrap ((y21.rows.length : Int) - 1))) []).getD 0 dflt).str.size ≤ maxCells))
  (S_Digest m (T.l (bytesRows ((y21.rows.getD (Int.toNat (IntKind.i64.wrap ((y21.rows.length : Int) - 1))) []).getD 0 dflt).str))
  (fun y23 => cond (decide (x1.int < y0.int))
  (S_l4Node m y23 ((x3.rows.getD (Int.toNat (IntKind.i64.wrap ((x3.rows.length : Int) - 1))) []).getD 0 dflt)
  (fun y24 => cond (decide ((y21.rows.length + 1) * 1 ≤ maxRow))
  (k3 (T.l (y21.rows ++ [[(T.s (rowsBytes y24.rows))]])) (T.b true))
  (.bad)))
  (S_l4Node m ((x3.rows.getD (Int.toNat (IntKind.i64.wrap ((x3.rows.length : Int) - 1))) []).getD 0 dflt) y23
  (fun y25 => cond (decide ((y21.rows.length + 1) * 1 ≤ maxRow))
  (k4 (T.l (y21.rows ++ [[(T.s (rowsBytes y25.rows))]])) (T.b true))
  (.bad)))))
  (.bad))
  (.bad))
  (.bad))))
  (.bad))
  (.bad))
  (cond (decide ((0 : Int) ≤ (IntKind.i64.wrap ((x3.rows.length : Int) - 1)) ∧ (IntKind.i64.wrap ((x3.rows.length : Int) - 1)) ≤ (x3.rows.length : Int)))
  (cond (decide ((0 : Int) ≤ 0 ∧ 0 ≤ (IntKind.i64.wrap ((x3.rows.length : Int) - 1))))
  (S_l4Hashed m (T.l x0.rows) x1 y0 (T.l (x3.rows.take (Int.toNat (IntKind.i64.wrap ((x3.rows.length : Int) - 1)))))
  (fun y26 y27 => cond (!y27.bool)
  (k2 (T.l []) (T.b false))
  (cond (decide ((0 : Int) ≤ (IntKind.i64.wrap ((y26.rows.length : Int) - 1)) ∧ (IntKind.i64.wrap ((y26.rows.length : Int) - 1)) < (y26.rows.length : Int)))
  (cond (decide ((Int.toNat (IntKind.i64.wrap ((y26.rows.length : Int) - 1))) < y26.rows.length))
  (cond (decide (((y26.rows.getD (Int.toNat (IntKind.i64.wrap ((y26.rows.length : Int) - 1))) []).getD 0 dflt).str.size ≤ maxCells))
  (S_Digest m (T.l (bytesRows ((y26.rows.getD (Int.toNat (IntKind.i64.wrap ((y26.rows.length : Int) - 1))) []).getD 0 dflt).str))
  (fun y28 => cond (decide (x1.int < y0.int))
  (S_l4Node m y28 ((x3.rows.getD (Int.toNat (IntKind.i64.wrap ((x3.rows.length : Int) - 1))) []).getD 0 dflt)
  (fun y29 => cond (decide ((y26.rows.length + 1) * 1 ≤ maxRow))
  (k3 (T.l (y26.rows ++ [[(T.s (rowsBytes y29.rows))]])) (T.b true))
  (.bad)))
  (S_l4Node m ((x3.rows.getD (Int.toNat (IntKind.i64.wrap ((x3.rows.length : Int) - 1))) []).getD 0 dflt) y28
  (fun y30 => cond (decide ((y26.rows.length + 1) * 1 ≤ maxRow))
  (k4 (T.l (y26.rows ++ [[(T.s (rowsBytes y30.rows))]])) (T.b true))
  (.bad)))))
  (.bad))
  (.bad))
  (.bad)))
  (fun y31 y32 => cond (!y32.bool)
  (k2 (T.l []) (T.b false))
  (cond (decide ((0 : Int) ≤ (IntKind.i64.wrap ((y31.rows.length : Int) - 1)) ∧ (IntKind.i64.wrap ((y31.rows.length : Int) - 1)) < (y31.rows.length : Int)))
  (cond (decide ((Int.toNat (IntKind.i64.wrap ((y31.rows.length : Int) - 1))) < y31.rows.length))
  (cond (decide (((y31.rows.getD (Int.toNat (IntKind.i64.wrap ((y31.rows.length : Int) - 1))) []).getD 0 dflt).str.size ≤ maxCells))
  (S_Digest m (T.l (bytesRows ((y31.rows.getD (Int.toNat (IntKind.i64.wrap ((y31.rows.length : Int) - 1))) []).getD 0 dflt).str))
  (fun y33 => cond (decide (x1.int < y0.int))
  (S_l4Node m y33 ((x3.rows.getD (Int.toNat (IntKind.i64.wrap ((x3.rows.length : Int) - 1))) []).getD 0 dflt)
  (fun y34 => cond (decide ((y31.rows.length + 1) * 1 ≤ maxRow))
  (k3 (T.l (y31.rows ++ [[(T.s (rowsBytes y34.rows))]])) (T.b true))
  (.bad)))
  (S_l4Node m ((x3.rows.getD (Int.toNat (IntKind.i64.wrap ((x3.rows.length : Int) - 1))) []).getD 0 dflt) y33
  (fun y35 => cond (decide ((y31.rows.length + 1) * 1 ≤ maxRow))
  (k4 (T.l (y31.rows ++ [[(T.s (rowsBytes y35.rows))]])) (T.b true))
  (.bad)))))
  (.bad))
  (.bad))
  (.bad)))
  (fun y36 y37 => cond (!y37.bool)
  (k2 (T.l []) (T.b false))
  (cond (decide ((0 : Int) ≤ (IntKind.i64.wrap ((y36.rows.length : Int) - 1)) ∧ (IntKind.i64.wrap ((y36.rows.length : Int) - 1)) < (y36.rows.length : Int)))
  (cond (decide ((Int.toNat (IntKind.i64.wrap ((y36.rows.length : Int) - 1))) < y36.rows.length))
  (cond (decide (((y36.rows.getD (Int.toNat (IntKind.i64.wrap ((y36.rows.length : Int) - 1))) []).getD 0 dflt).str.size ≤ maxCells))
  (S_Digest m (T.l (bytesRows ((y36.rows.getD (Int.toNat (IntKind.i64.wrap ((y36.rows.length : Int) - 1))) []).getD 0 dflt).str))
  (fun y38 => cond (decide (x1.int < y0.int))
  (S_l4Node m y38 ((x3.rows.getD (Int.toNat (IntKind.i64.wrap ((x3.rows.length : Int) - 1))) []).getD 0 dflt)
  (fun y39 => cond (decide ((y36.rows.length + 1) * 1 ≤ maxRow))
  (k3 (T.l (y36.rows ++ [[(T.s (rowsBytes y39.rows))]])) (T.b true))
  (.bad)))
  (S_l4Node m ((x3.rows.getD (Int.toNat (IntKind.i64.wrap ((x3.rows.length : Int) - 1))) []).getD 0 dflt) y38
  (fun y40 => cond (decide ((y36.rows.length + 1) * 1 ≤ maxRow))
  (k4 (T.l (y36.rows ++ [[(T.s (rowsBytes y40.rows))]])) (T.b true))
  (.bad)))))
  (.bad))
  (.bad))
  (.bad)))
  (fun y41 y42 => cond (!y42.bool)
  (k2 (T.l []) (T.b false))
  (cond (decide ((0 : Int) ≤ (IntKind.i64.wrap ((y41.rows.length : Int) - 1)) ∧ (IntKind.i64.wrap ((y41.rows.length : Int) - 1)) < (y41.rows.length : Int)))
  (cond (decide ((Int.toNat (IntKind.i64.wrap ((y41.rows.length : Int) - 1))) < y41.rows.length))
  (cond (decide (((y41.rows.getD (Int.toNat (IntKind.i64.wrap ((y41.rows.length : Int) - 1))) []).getD 0 dflt).str.size ≤ maxCells))
  (S_Digest m (T.l (bytesRows ((y41.rows.getD (Int.toNat (IntKind.i64.wrap ((y41.rows.length : Int) - 1))) []).getD 0 dflt).str))
  (fun y43 => cond (decide (x1.int < y0.int))
  (S_l4Node m y43 ((x3.rows.getD (Int.toNat (IntKind.i64.wrap ((x3.rows.length : Int) - 1))) []).getD 0 dflt)
  (fun y44 => cond (decide ((y41.rows.length + 1) * 1 ≤ maxRow))
  (k3 (T.l (y41.rows ++ [[(T.s (rowsBytes y44.rows))]])) (T.b true))
  (.bad)))
  (S_l4Node m ((x3.rows.getD (Int.toNat (IntKind.i64.wrap ((x3.rows.length : Int) - 1))) []).getD 0 dflt) y43
  (fun y45 => cond (decide ((y41.rows.length + 1) * 1 ≤ maxRow))
  (k4 (T.l (y41.rows ++ [[(T.s (rowsBytes y45.rows))]])) (T.b true))
  (.bad)))))
  (.bad))
  (.bad))
  (.bad)))
  (fun y46 y47 => cond (!y47.bool)
  (k2 (T.l []) (T.b false))
  (cond (decide ((0 : Int) ≤ (IntKind.i64.wrap ((y46.rows.length : Int) - 1)) ∧ (IntKind.i64.wrap ((y46.rows.length : Int) - 1)) < (y46.rows.length : Int)))
  (cond (decide ((Int.toNat (IntKind.i64.wrap ((y46.rows.length : Int) - 1))) < y46.rows.length))
  (cond (decide (((y46.rows.getD (Int.toNat (IntKind.i64.wrap ((y46.rows.length : Int) - 1))) []).getD 0 dflt).str.size ≤ maxCells))
  (S_Digest m (T.l (bytesRows ((y46.rows.getD (Int.toNat (IntKind.i64.wrap ((y46.rows.length : Int) - 1))) []).getD 0 dflt).str))
  (fun y48 => cond (decide (x1.int < y0.int))
  (S_l4Node m y48 ((x3.rows.getD (Int.toNat (IntKind.i64.wrap ((x3.rows.length : Int) - 1))) []).getD 0 dflt)
  (fun y49 => cond (decide ((y46.rows.length + 1) * 1 ≤ maxRow))
  (k3 (T.l (y46.rows ++ [[(T.s (rowsBytes y49.rows))]])) (T.b true))
  (.bad)))
  (S_l4Node m ((x3.rows.getD (Int.toNat (IntKind.i64.wrap ((x3.rows.length : Int) - 1))) []).getD 0 dflt) y48
  (fun y50 => cond (decide ((y46.rows.length + 1) * 1 ≤ maxRow))
  (k4 (T.l (y46.rows ++ [[(T.s (rowsBytes y50.rows))]])) (T.b true))
  (.bad)))))
  (.bad))
  (.bad))
  (.bad))))
  (.bad))
  (.bad))))
  (.bad)))
noncomputable def S_l4Hashed_a : List Arg := [.one (.dz [.sc (.int .u8)] []), .one (.sc (.int .i64) (.l [])), .one (.sc (.int .i64) (.l [])), .one (.dz [.sc (.str)] [])]
noncomputable def S_l4Hashed_w (m : Nat) (vs : List T) (k : Ret → An) : An := S_l4Hashed m (vs.headD dflt) (vs.tail.headD dflt) (vs.tail.tail.headD dflt) (vs.tail.tail.tail.headD dflt) (fun z0 z1 => k ⟨[.one (.own [2000021] [.sc (.str)] [.F] z0.rows), .one (.sc (.bool) z1)], [[none], [none], [none], [none]], [none, none, none, none]⟩) (fun z0 z1 => k ⟨[.one (.own [2000028] [.sc (.str)] [.F] z0.rows), .one (.sc (.bool) z1)], [[none], [none], [none], [none]], [none, none, none, none]⟩) (fun z0 z1 => k ⟨[.one (.own [2000062] [.sc (.str)] [.F] z0.rows), .one (.sc (.bool) z1)], [[none], [none], [none], [none]], [none, none, none, none]⟩) (fun z0 z1 => k ⟨[.one (.own [2000080] [.sc (.str)] [.F] z0.rows), .one (.sc (.bool) z1)], [[none], [none], [none], [none]], [none, none, none, none]⟩) (fun z0 z1 => k ⟨[.one (.own [2000087] [.sc (.str)] [.F] z0.rows), .one (.sc (.bool) z1)], [[none], [none], [none], [none]], [none, none, none, none]⟩)
theorem S_l4Hashed_cf (m : Nat) (ih : ∀ vs k, callK CX prims m 107 (fArgs S_l4Hashed_a vs) k = S_l4Hashed_w m vs k) : callK CX prims m = (patC 84 S_l4Half_a (S_l4Half_w m) (patC 107 S_l4Hashed_a (S_l4Hashed_w m) (patC 34 S_Digest_a (S_Digest_w m) (patC 106 S_l4Node_a (S_l4Node_w m) (callK CX prims m))))) := by
  rw [← patC_eq (fun vs k => S_l4Node_eq m vs k), ← patC_eq (fun vs k => S_Digest_eq m vs k), ← patC_eq (fun vs k => ih vs k), ← patC_eq (fun vs k => S_l4Half_eq m vs k)]
noncomputable def S_l4Hashed_c : Code := (Tryz.f107.body).getD .skip
noncomputable def S_l4Hashed_fi : Fi := ⟨107, 4, 88, 768⟩
theorem S_l4Hashed_eq (m : Nat) : ∀ vs k, callK CX prims m 107 (fArgs S_l4Hashed_a vs) k = S_l4Hashed_w m vs k := by
  induction m with
  | zero => exact fun vs k => rfl
  | succ m ih => exact fun vs k => Eq.trans (b := bodyK CX (callK CX prims m) (loopK CX (callK CX prims m) S_l4Hashed_fi S_l4Hashed_c m) 107 Tryz.f107 S_l4Hashed_c (fArgs S_l4Hashed_a vs) k) (by kernel_rfl) ((bodyK_congr (S_l4Hashed_cf m ih) rfl 107 Tryz.f107 S_l4Hashed_c (fArgs S_l4Hashed_a vs) k).trans (by kernel_rfl))
noncomputable def S_l4All : Nat → T → T → T → T → (T → T → An) → (T → T → An) → An
 | 0, _, _, _, _, _, _ => .bad
 | m + 1, x0, x1, x2, x3, k0, k1 =>
  S_l4Hashed m (T.l x0.rows) x1 x2 (T.l x3.rows)
  (fun y0 y1 => cond (!y1.bool)
  (k0 (T.l []) (T.b false))
  (cond (decide ((0 : Int) ≤ (IntKind.i64.wrap ((y0.rows.length : Int) - 1)) ∧ (IntKind.i64.wrap ((y0.rows.length : Int) - 1)) < (y0.rows.length : Int)))
  (cond (decide ((Int.toNat (IntKind.i64.wrap ((y0.rows.length : Int) - 1))) < y0.rows.length))
  (cond (decide (((y0.rows.getD (Int.toNat (IntKind.i64.wrap ((y0.rows.length : Int) - 1))) []).getD 0 dflt).str.size ≤ maxCells))
  (S_Digest m (T.l (bytesRows ((y0.rows.getD (Int.toNat (IntKind.i64.wrap ((y0.rows.length : Int) - 1))) []).getD 0 dflt).str))
  (fun y2 => S_l4Top m x2 y2
  (fun y3 => cond (decide ((y0.rows.length + 1) * 1 ≤ maxRow))
  (k1 (T.l (y0.rows ++ [[(T.s (rowsBytes y3.rows))]])) (T.b true))
  (.bad))))
  (.bad))
  (.bad))
  (.bad)))
  (fun y4 y5 => cond (!y5.bool)
  (k0 (T.l []) (T.b false))
  (cond (decide ((0 : Int) ≤ (IntKind.i64.wrap ((y4.rows.length : Int) - 1)) ∧ (IntKind.i64.wrap ((y4.rows.length : Int) - 1)) < (y4.rows.length : Int)))
  (cond (decide ((Int.toNat (IntKind.i64.wrap ((y4.rows.length : Int) - 1))) < y4.rows.length))
  (cond (decide (((y4.rows.getD (Int.toNat (IntKind.i64.wrap ((y4.rows.length : Int) - 1))) []).getD 0 dflt).str.size ≤ maxCells))
  (S_Digest m (T.l (bytesRows ((y4.rows.getD (Int.toNat (IntKind.i64.wrap ((y4.rows.length : Int) - 1))) []).getD 0 dflt).str))
  (fun y6 => S_l4Top m x2 y6
  (fun y7 => cond (decide ((y4.rows.length + 1) * 1 ≤ maxRow))
  (k1 (T.l (y4.rows ++ [[(T.s (rowsBytes y7.rows))]])) (T.b true))
  (.bad))))
  (.bad))
  (.bad))
  (.bad)))
  (fun y8 y9 => cond (!y9.bool)
  (k0 (T.l []) (T.b false))
  (cond (decide ((0 : Int) ≤ (IntKind.i64.wrap ((y8.rows.length : Int) - 1)) ∧ (IntKind.i64.wrap ((y8.rows.length : Int) - 1)) < (y8.rows.length : Int)))
  (cond (decide ((Int.toNat (IntKind.i64.wrap ((y8.rows.length : Int) - 1))) < y8.rows.length))
  (cond (decide (((y8.rows.getD (Int.toNat (IntKind.i64.wrap ((y8.rows.length : Int) - 1))) []).getD 0 dflt).str.size ≤ maxCells))
  (S_Digest m (T.l (bytesRows ((y8.rows.getD (Int.toNat (IntKind.i64.wrap ((y8.rows.length : Int) - 1))) []).getD 0 dflt).str))
  (fun y10 => S_l4Top m x2 y10
  (fun y11 => cond (decide ((y8.rows.length + 1) * 1 ≤ maxRow))
  (k1 (T.l (y8.rows ++ [[(T.s (rowsBytes y11.rows))]])) (T.b true))
  (.bad))))
  (.bad))
  (.bad))
  (.bad)))
  (fun y12 y13 => cond (!y13.bool)
  (k0 (T.l []) (T.b false))
  (cond (decide ((0 : Int) ≤ (IntKind.i64.wrap ((y12.rows.length : Int) - 1)) ∧ (IntKind.i64.wrap ((y12.rows.length : Int) - 1)) < (y12.rows.length : Int)))
  (cond (decide ((Int.toNat (IntKind.i64.wrap ((y12.rows.length : Int) - 1))) < y12.rows.length))
  (cond (decide (((y12.rows.getD (Int.toNat (IntKind.i64.wrap ((y12.rows.length : Int) - 1))) []).getD 0 dflt).str.size ≤ maxCells))
  (S_Digest m (T.l (bytesRows ((y12.rows.getD (Int.toNat (IntKind.i64.wrap ((y12.rows.length : Int) - 1))) []).getD 0 dflt).str))
  (fun y14 => S_l4Top m x2 y14
  (fun y15 => cond (decide ((y12.rows.length + 1) * 1 ≤ maxRow))
  (k1 (T.l (y12.rows ++ [[(T.s (rowsBytes y15.rows))]])) (T.b true))
  (.bad))))
  (.bad))
  (.bad))
  (.bad)))
  (fun y16 y17 => cond (!y17.bool)
  (k0 (T.l []) (T.b false))
  (cond (decide ((0 : Int) ≤ (IntKind.i64.wrap ((y16.rows.length : Int) - 1)) ∧ (IntKind.i64.wrap ((y16.rows.length : Int) - 1)) < (y16.rows.length : Int)))
  (cond (decide ((Int.toNat (IntKind.i64.wrap ((y16.rows.length : Int) - 1))) < y16.rows.length))
  (cond (decide (((y16.rows.getD (Int.toNat (IntKind.i64.wrap ((y16.rows.length : Int) - 1))) []).getD 0 dflt).str.size ≤ maxCells))
  (S_Digest m (T.l (bytesRows ((y16.rows.getD (Int.toNat (IntKind.i64.wrap ((y16.rows.length : Int) - 1))) []).getD 0 dflt).str))
  (fun y18 => S_l4Top m x2 y18
  (fun y19 => cond (decide ((y16.rows.length + 1) * 1 ≤ maxRow))
  (k1 (T.l (y16.rows ++ [[(T.s (rowsBytes y19.rows))]])) (T.b true))
  (.bad))))
  (.bad))
  (.bad))
  (.bad)))
noncomputable def S_l4All_a : List Arg := [.one (.dz [.sc (.int .u8)] []), .one (.sc (.int .i64) (.l [])), .one (.sc (.int .i64) (.l [])), .one (.dz [.sc (.str)] [])]
noncomputable def S_l4All_w (m : Nat) (vs : List T) (k : Ret → An) : An := S_l4All m (vs.headD dflt) (vs.tail.headD dflt) (vs.tail.tail.headD dflt) (vs.tail.tail.tail.headD dflt) (fun z0 z1 => k ⟨[.one (.own [2000022] [.sc (.str)] [.F] z0.rows), .one (.sc (.bool) z1)], [[none], [none], [none], [none]], [none, none, none, none]⟩) (fun z0 z1 => k ⟨[.one (.own [2000036] [.sc (.str)] [.F] z0.rows), .one (.sc (.bool) z1)], [[none], [none], [none], [none]], [none, none, none, none]⟩)
theorem S_l4All_cf (m : Nat) : callK CX prims m = (patC 107 S_l4Hashed_a (S_l4Hashed_w m) (patC 34 S_Digest_a (S_Digest_w m) (patC 62 S_l4Top_a (S_l4Top_w m) (callK CX prims m)))) := by
  rw [← patC_eq (fun vs k => S_l4Top_eq m vs k), ← patC_eq (fun vs k => S_Digest_eq m vs k), ← patC_eq (fun vs k => S_l4Hashed_eq m vs k)]
noncomputable def S_l4All_c : Code := (Tryz.f87.body).getD .skip
noncomputable def S_l4All_fi : Fi := ⟨87, 4, 37, 768⟩
theorem S_l4All_eq (m : Nat) : ∀ vs k, callK CX prims m 87 (fArgs S_l4All_a vs) k = S_l4All_w m vs k := by
  cases m with
  | zero => exact fun vs k => rfl
  | succ m => exact fun vs k => Eq.trans (b := bodyK CX (callK CX prims m) (loopK CX (callK CX prims m) S_l4All_fi S_l4All_c m) 87 Tryz.f87 S_l4All_c (fArgs S_l4All_a vs) k) (by kernel_rfl) ((bodyK_congr (S_l4All_cf m) rfl 87 Tryz.f87 S_l4All_c (fArgs S_l4All_a vs) k).trans (by kernel_rfl))
noncomputable def S_CheckPath : Nat → T → T → T → T → T → T → (T → An) → An
 | 0, _, _, _, _, _, _, _ => .bad
 | m + 1, x0, x1, x2, x3, x4, x5, k0 =>
  S_l1In m x3 (T.i 1) (T.i 60)
  (fun y0 => cond ((!y0.bool) == false)
  (S_l1In m x2 (T.i 0) (T.i (IntKind.i64.wrap (x3.int - 1)))
  (fun y1 => cond (!y1.bool)
  (k0 (T.b false))
  (S_l4Leaf m x0 x1
  (fun y2 => S_l4All m (T.l y2.rows) x2 x3 (T.l x4.rows)
  (fun y3 y4 => cond (y4.bool == true)
  (cond (decide ((0 : Int) ≤ (IntKind.i64.wrap ((y3.rows.length : Int) - 1)) ∧ (IntKind.i64.wrap ((y3.rows.length : Int) - 1)) < (y3.rows.length : Int)))
  (cond (decide ((Int.toNat (IntKind.i64.wrap ((y3.rows.length : Int) - 1))) < y3.rows.length))
  (cond (decide (((y3.rows.getD (Int.toNat (IntKind.i64.wrap ((y3.rows.length : Int) - 1))) []).getD 0 dflt).str.size ≤ maxCells))
  (S_Digest m (T.l (bytesRows ((y3.rows.getD (Int.toNat (IntKind.i64.wrap ((y3.rows.length : Int) - 1))) []).getD 0 dflt).str))
  (fun y5 => k0 (T.b (y5.str.toList == x5.str.toList))))
  (.bad))
  (.bad))
  (.bad))
  (k0 (T.b false)))
  (fun y6 y7 => cond (y7.bool == true)
  (cond (decide ((0 : Int) ≤ (IntKind.i64.wrap ((y6.rows.length : Int) - 1)) ∧ (IntKind.i64.wrap ((y6.rows.length : Int) - 1)) < (y6.rows.length : Int)))
  (cond (decide ((Int.toNat (IntKind.i64.wrap ((y6.rows.length : Int) - 1))) < y6.rows.length))
  (cond (decide (((y6.rows.getD (Int.toNat (IntKind.i64.wrap ((y6.rows.length : Int) - 1))) []).getD 0 dflt).str.size ≤ maxCells))
  (S_Digest m (T.l (bytesRows ((y6.rows.getD (Int.toNat (IntKind.i64.wrap ((y6.rows.length : Int) - 1))) []).getD 0 dflt).str))
  (fun y8 => k0 (T.b (y8.str.toList == x5.str.toList))))
  (.bad))
  (.bad))
  (.bad))
  (k0 (T.b false)))))))
  (k0 (T.b false)))
noncomputable def S_CheckPath_a : List Arg := [.agg [.sc (.str) (.l []), .sc (.str) (.l [])], .one (.sc (.int .i64) (.l [])), .one (.sc (.int .i64) (.l [])), .one (.dz [.sc (.str)] []), .one (.sc (.str) (.l []))]
noncomputable def S_CheckPath_w (m : Nat) (vs : List T) (k : Ret → An) : An := S_CheckPath m (vs.headD dflt) (vs.tail.headD dflt) (vs.tail.tail.headD dflt) (vs.tail.tail.tail.headD dflt) (vs.tail.tail.tail.tail.headD dflt) (vs.tail.tail.tail.tail.tail.headD dflt) (fun z0 => k ⟨[.one (.sc (.bool) z0)], [[none, none], [none], [none], [none], [none]], [none, none, none, none, none]⟩)
theorem S_CheckPath_cf (m : Nat) : callK CX prims m = (patC 16 S_l1In_a (S_l1In_w m) (patC 88 S_l4Leaf_a (S_l4Leaf_w m) (patC 87 S_l4All_a (S_l4All_w m) (patC 34 S_Digest_a (S_Digest_w m) (callK CX prims m))))) := by
  rw [← patC_eq (fun vs k => S_Digest_eq m vs k), ← patC_eq (fun vs k => S_l4All_eq m vs k), ← patC_eq (fun vs k => S_l4Leaf_eq m vs k), ← patC_eq (fun vs k => S_l1In_eq m vs k)]
noncomputable def S_CheckPath_c : Code := (Tryz.f65.body).getD .skip
noncomputable def S_CheckPath_fi : Fi := ⟨65, 5, 45, 1024⟩
theorem S_CheckPath_eq (m : Nat) : ∀ vs k, callK CX prims m 65 (fArgs S_CheckPath_a vs) k = S_CheckPath_w m vs k := by
  cases m with
  | zero => exact fun vs k => rfl
  | succ m => exact fun vs k => Eq.trans (b := bodyK CX (callK CX prims m) (loopK CX (callK CX prims m) S_CheckPath_fi S_CheckPath_c m) 65 Tryz.f65 S_CheckPath_c (fArgs S_CheckPath_a vs) k) (by kernel_rfl) ((bodyK_congr (S_CheckPath_cf m) rfl 65 Tryz.f65 S_CheckPath_c (fArgs S_CheckPath_a vs) k).trans (by kernel_rfl))
noncomputable def S_l5Item : Nat → T → T → T → T → T → (T → An) → An
 | 0, _, _, _, _, _, _ => .bad
 | m + 1, x0, x1, x2, x3, x4, k0 =>
  cond (decide ((0 : Int) ≤ x4.int ∧ x4.int < (x3.rows.length : Int)))
  (S_PairOk m ((x3.rows.getD (Int.toNat x4.int) []).getD 0 dflt) ((x3.rows.getD (Int.toNat x4.int) []).getD 1 dflt)
  (fun y0 => cond ((!y0.bool) == false)
  (S_CheckPath m ((x3.rows.getD (Int.toNat x4.int) []).getD 0 dflt) ((x3.rows.getD (Int.toNat x4.int) []).getD 1 dflt) (T.i (IntKind.i64.wrap (x2.int + x4.int))) x1 (T.l ((x3.rows.getD (Int.toNat x4.int) []).getD 2 dflt).rows) x0
  (fun y1 => cond (!y1.bool)
  (k0 (T.b false))
  (cond ((x4.int == 0) == false)
  (cond (decide ((0 : Int) ≤ (IntKind.i64.wrap (x4.int - 1)) ∧ (IntKind.i64.wrap (x4.int - 1)) < (x3.rows.length : Int)))
  (k0 (T.b (Op.bytesLess ((x3.rows.getD (Int.toNat (IntKind.i64.wrap (x4.int - 1))) []).getD 0 dflt).str.toList ((x3.rows.getD (Int.toNat x4.int) []).getD 0 dflt).str.toList)))
  (.bad))
  (k0 (T.b true)))))
  (k0 (T.b false))))
  (.bad)
noncomputable def S_l5Item_a : List Arg := [.one (.sc (.str) (.l [])), .agg [.sc (.int .i64) (.l []), .sc (.int .i64) (.l []), .dz [.sc (.str), .sc (.str), .sl [.sc (.str)]] []], .one (.sc (.int .i64) (.l []))]
noncomputable def S_l5Item_w (m : Nat) (vs : List T) (k : Ret → An) : An := S_l5Item m (vs.headD dflt) (vs.tail.headD dflt) (vs.tail.tail.headD dflt) (vs.tail.tail.tail.headD dflt) (vs.tail.tail.tail.tail.headD dflt) (fun z0 => k ⟨[.one (.sc (.bool) z0)], [[none], [none, none, none], [none]], [none, none, none]⟩)
theorem S_l5Item_cf (m : Nat) : callK CX prims m = (patC 64 S_PairOk_a (S_PairOk_w m) (patC 65 S_CheckPath_a (S_CheckPath_w m) (callK CX prims m))) := by
  rw [← patC_eq (fun vs k => S_CheckPath_eq m vs k), ← patC_eq (fun vs k => S_PairOk_eq m vs k)]
noncomputable def S_l5Item_c : Code := (Tryz.f37.body).getD .skip
noncomputable def S_l5Item_fi : Fi := ⟨37, 3, 48, 64⟩
theorem S_l5Item_eq (m : Nat) : ∀ vs k, callK CX prims m 37 (fArgs S_l5Item_a vs) k = S_l5Item_w m vs k := by
  cases m with
  | zero => exact fun vs k => rfl
  | succ m => exact fun vs k => Eq.trans (b := bodyK CX (callK CX prims m) (loopK CX (callK CX prims m) S_l5Item_fi S_l5Item_c m) 37 Tryz.f37 S_l5Item_c (fArgs S_l5Item_a vs) k) (by kernel_rfl) ((bodyK_congr (S_l5Item_cf m) rfl 37 Tryz.f37 S_l5Item_c (fArgs S_l5Item_a vs) k).trans (by kernel_rfl))
noncomputable def S_l3In : Nat → T → T → T → (T → An) → An
 | 0, _, _, _, _ => .bad
 | m + 1, x0, x1, x2, k0 =>
  cond ((!(Op.bytesLess x0.str.toList x1.str.toList)) == true)
  (cond ((x2.str.toList == (⟨#[]⟩ : ByteArray).toList) == false)
  (k0 (T.b (Op.bytesLess x0.str.toList x2.str.toList)))
  (k0 (T.b true)))
  (k0 (T.b false))
noncomputable def S_l3In_a : List Arg := [.one (.sc (.str) (.l [])), .one (.sc (.str) (.l [])), .one (.sc (.str) (.l []))]
noncomputable def S_l3In_w (m : Nat) (vs : List T) (k : Ret → An) : An := S_l3In m (vs.headD dflt) (vs.tail.headD dflt) (vs.tail.tail.headD dflt) (fun z0 => k ⟨[.one (.sc (.bool) z0)], [[none], [none], [none]], [none, none, none]⟩)
theorem S_l3In_cf (m : Nat) : callK CX prims m = (callK CX prims m) := by
  rfl
noncomputable def S_l3In_c : Code := (Tryz.f38.body).getD .skip
noncomputable def S_l3In_fi : Fi := ⟨38, 3, 19, 64⟩
theorem S_l3In_eq (m : Nat) : ∀ vs k, callK CX prims m 38 (fArgs S_l3In_a vs) k = S_l3In_w m vs k := by
  cases m with
  | zero => exact fun vs k => rfl
  | succ m => exact fun vs k => Eq.trans (b := bodyK CX (callK CX prims m) (loopK CX (callK CX prims m) S_l3In_fi S_l3In_c m) 38 Tryz.f38 S_l3In_c (fArgs S_l3In_a vs) k) (by kernel_rfl) ((bodyK_congr (S_l3In_cf m) rfl 38 Tryz.f38 S_l3In_c (fArgs S_l3In_a vs) k).trans (by kernel_rfl))
noncomputable def S_CheckBetween_L0_0 (m : Nat) : Nat → T → T → T → T → T → T → T → T → T → T → T → (T → T → An) → (T → T → T → T → T → T → T → T → T → An) → An
 | 0, _, _, _, _, _, _, _, _, _, _, _, _, _ => .bad
 | n + 1, x0, x1, x2, x3, x4, x5, x6, x7, x8, x9, x10, k0, k1 =>
  cond (decide (x5.int < x4.int))
  (S_l5Item m x0 x6 x7 (T.l x8.rows) x5
  (fun y3 => cond (!y3.bool)
  (k0 (T.b false) (T.l x9.rows))
  (cond (decide ((0 : Int) ≤ x5.int ∧ x5.int < (x8.rows.length : Int)))
  (S_l3In m ((x8.rows.getD (Int.toNat x5.int) []).getD 0 dflt) x1 x2
  (fun y4 => cond y4.bool
  (cond (decide ((0 : Int) ≤ x5.int ∧ x5.int < (x8.rows.length : Int)))
  (cond (decide ((x10.rows.length + 1) * 2 ≤ maxRow))
  (S_CheckBetween_L0_0 m n x0 x1 x2 (T.i (x3.int.toNat : Int)) x4 (T.i (IntKind.i64.wrap (x5.int + 1))) x6 x7 x8 (T.l x9.rows) (T.l (x10.rows ++ [[((x8.rows.getD (Int.toNat x5.int) []).getD 0 dflt), ((x8.rows.getD (Int.toNat x5.int) []).getD 1 dflt)]])) k0 k1)
  (.bad))
  (.bad))
  (S_CheckBetween_L0_0 m n x0 x1 x2 (T.i (x3.int.toNat : Int)) x4 (T.i (IntKind.i64.wrap (x5.int + 1))) x6 x7 x8 (T.l x9.rows) (T.l x10.rows) k0 k1)))
  (.bad))))
  (k1 x1 x2 (T.i (x3.int.toNat : Int)) x4 x6 x7 x8 (T.l x9.rows) (T.l x10.rows))
noncomputable def S_CheckBetween_s0_0 : Pack := ⟨[(0, .one ⟨.sc, .sc (.str), .l []⟩), (1, .one ⟨.sc, .sc (.str), .l []⟩), (2, .one ⟨.sc, .sc (.str), .l []⟩), (7, .ptr [1000000, 0] 0 0 0), (10, .one ⟨.al [1000000, 1] 0, .sl [.sc (.str), .sc (.str)], .l []⟩), (11, .one ⟨.sc, .sc (.int .i64), .l []⟩), (12, .one ⟨.al [1000000, 2] 0, .sl [.sc (.str), .sc (.str)], .l []⟩), (13, .one ⟨.sc, .sc (.int .i64), .l []⟩)], [([1000000, 0], .box [⟨.sc, .sc (.int .i64), .l []⟩, ⟨.sc, .sc (.int .i64), .l []⟩, ⟨.sn [([4000000], 0)], .sl [.sc (.str), .sc (.str), .sl [.sc (.str)]], .l []⟩]), ([1000000, 1], .row [.sc (.str), .sc (.str)] [.F, .F] []), ([1000000, 2], .row [.sc (.str), .sc (.str)] [.F, .F] []), ([4000000], .gone)]⟩
noncomputable def S_CheckBetween_e0_0 : Pack := ⟨[(8, .one ⟨.al [1000000, 0] 0, .sl [.sc (.str), .sc (.str)], .l []⟩), (9, .one ⟨.sc, .sc (.bool), .l []⟩)], [([1000000, 0], .row [.sc (.str), .sc (.str)] [.F, .F] [])]⟩
noncomputable def S_CheckBetween_e0_1 : Pack := ⟨[(1, .one ⟨.sc, .sc (.str), .l []⟩), (2, .one ⟨.sc, .sc (.str), .l []⟩), (7, .ptr [1000000, 0] 0 0 0), (10, .one ⟨.al [1000000, 1] 0, .sl [.sc (.str), .sc (.str)], .l []⟩), (11, .one ⟨.sc, .sc (.int .i64), .l []⟩), (12, .one ⟨.al [1000000, 2] 0, .sl [.sc (.str), .sc (.str)], .l []⟩)], [([1000000, 0], .box [⟨.sc, .sc (.int .i64), .l []⟩, ⟨.sc, .sc (.int .i64), .l []⟩, ⟨.sn [([4000000], 0)], .sl [.sc (.str), .sc (.str), .sl [.sc (.str)]], .l []⟩]), ([1000000, 1], .row [.sc (.str), .sc (.str)] [.F, .F] []), ([1000000, 2], .row [.sc (.str), .sc (.str)] [.F, .F] []), ([4000000], .gone)]⟩
noncomputable def S_CheckBetween_L0_0w (m n : Nat) (vs : List T) (k : Ctl → Pack → An) : An := S_CheckBetween_L0_0 m n (vs.headD dflt) (vs.tail.headD dflt) (vs.tail.tail.headD dflt) (vs.tail.tail.tail.headD dflt) (vs.tail.tail.tail.tail.headD dflt) (vs.tail.tail.tail.tail.tail.headD dflt) (vs.tail.tail.tail.tail.tail.tail.headD dflt) (vs.tail.tail.tail.tail.tail.tail.tail.headD dflt) (vs.tail.tail.tail.tail.tail.tail.tail.tail.headD dflt) (vs.tail.tail.tail.tail.tail.tail.tail.tail.tail.headD dflt) (vs.tail.tail.tail.tail.tail.tail.tail.tail.tail.tail.headD dflt) (fun z0 z1 => k .ret (fPack S_CheckBetween_e0_0 [z0, z1])) (fun z0 z1 z2 z3 z4 z5 z6 z7 z8 => k (.exit 0) (fPack S_CheckBetween_e0_1 [z0, z1, z2, z3, z4, z5, z6, z7, z8]))
noncomputable def S_CheckBetween : Nat → T → T → T → T → T → T → (T → T → An) → (T → T → An) → (T → T → An) → (T → T → An) → An
 | 0, _, _, _, _, _, _, _, _, _, _ => .bad
 | m + 1, x0, x1, x2, x3, x4, x5, k0, k1, k2, k3 =>
  cond (x3.int == 0)
  (cond (((x5.rows.length : Int) == 0) == true)
  (cond ((x4.int == 0) == true)
  (S_l4Root m (T.l [])
  (fun y0 => k0 (T.l []) (T.b (x0.str.toList == y0.str.toList))))
  (k0 (T.l []) (T.b false)))
  (k0 (T.l []) (T.b false)))
  (S_l1In m x3 (T.i 1) (T.i 60)
  (fun y1 => cond ((!y1.bool) == false)
  (cond (((x5.rows.length : Int) == 0) == false)
  (S_l1In m x4 (T.i 0) (T.i (IntKind.i64.wrap (x3.int - 1)))
  (fun y2 => cond (!y2.bool)
  (k0 (T.l []) (T.b false))
  (S_CheckBetween_L0_0 m m x0 x1 x2 (T.i 0) (T.i (x5.rows.length : Int)) (T.i 0) x3 x4 (T.l x5.rows) (T.l []) (T.l [])
  (fun y5 y6 => k1 (T.l y6.rows) y5)
  (fun y7 y8 y9 y10 y11 y12 y13 y14 y15 => cond (decide ((0 : Int) ≤ 0 ∧ 0 < (y13.rows.length : Int)))
  (cond (decide ((0 : Int) ≤ (IntKind.i64.wrap (y10.int - 1)) ∧ (IntKind.i64.wrap (y10.int - 1)) < (y13.rows.length : Int)))
  (cond ((!(Op.bytesLess ((y13.rows.getD 0 []).getD 0 dflt).str.toList y7.str.toList)) == true)
  (cond ((decide (y12.int > 0)) == false)
  (cond ((y8.str.toList == (⟨#[]⟩ : ByteArray).toList) == false)
  (cond ((Op.bytesLess ((y13.rows.getD (Int.toNat (IntKind.i64.wrap (y10.int - 1))) []).getD 0 dflt).str.toList y8.str.toList) == true)
  (cond (decide ((IntKind.i64.wrap (y12.int + y10.int)) < y11.int))
  (k2 (T.l y14.rows) (T.b false))
  (k3 (T.l y15.rows) (T.b true)))
  (k3 (T.l y15.rows) (T.b true)))
  (cond (decide ((IntKind.i64.wrap (y12.int + y10.int)) < y11.int))
  (k2 (T.l y14.rows) (T.b false))
  (k3 (T.l y15.rows) (T.b true))))
  (k2 (T.l y14.rows) (T.b false)))
  (cond ((y8.str.toList == (⟨#[]⟩ : ByteArray).toList) == false)
  (cond ((Op.bytesLess ((y13.rows.getD (Int.toNat (IntKind.i64.wrap (y10.int - 1))) []).getD 0 dflt).str.toList y8.str.toList) == true)
  (cond (decide ((IntKind.i64.wrap (y12.int + y10.int)) < y11.int))
  (k2 (T.l y14.rows) (T.b false))
  (k3 (T.l y15.rows) (T.b true)))
  (k3 (T.l y15.rows) (T.b true)))
  (cond (decide ((IntKind.i64.wrap (y12.int + y10.int)) < y11.int))
  (k2 (T.l y14.rows) (T.b false))
  (k3 (T.l y15.rows) (T.b true)))))
  (.bad))
  (.bad)))))
  (k0 (T.l []) (T.b false)))
  (k0 (T.l []) (T.b false))))
noncomputable def S_CheckBetween_a : List Arg := [.one (.sc (.str) (.l [])), .one (.sc (.str) (.l [])), .one (.sc (.str) (.l [])), .agg [.sc (.int .i64) (.l []), .sc (.int .i64) (.l []), .dz [.sc (.str), .sc (.str), .sl [.sc (.str)]] []]]
noncomputable def S_CheckBetween_w (m : Nat) (vs : List T) (k : Ret → An) : An := S_CheckBetween m (vs.headD dflt) (vs.tail.headD dflt) (vs.tail.tail.headD dflt) (vs.tail.tail.tail.headD dflt) (vs.tail.tail.tail.tail.headD dflt) (vs.tail.tail.tail.tail.tail.headD dflt) (fun z0 z1 => k ⟨[.one (.own [2000016] [.sc (.str), .sc (.str)] [.F, .F] z0.rows), .one (.sc (.bool) z1)], [[none], [none], [none], [none, none, none]], [none, none, none, none]⟩) (fun z0 z1 => k ⟨[.one (.own [1000000, 0] [.sc (.str), .sc (.str)] [.F, .F] z0.rows), .one (.sc (.bool) z1)], [[none], [none], [none], [none, none, none]], [none, none, none, none]⟩) (fun z0 z1 => k ⟨[.one (.own [1000000, 1] [.sc (.str), .sc (.str)] [.F, .F] z0.rows), .one (.sc (.bool) z1)], [[none], [none], [none], [none, none, none]], [none, none, none, none]⟩) (fun z0 z1 => k ⟨[.one (.own [1000000, 2] [.sc (.str), .sc (.str)] [.F, .F] z0.rows), .one (.sc (.bool) z1)], [[none], [none], [none], [none, none, none]], [none, none, none, none]⟩)
theorem S_CheckBetween_cf (m : Nat) : callK CX prims m = (patC 36 S_l4Root_a (S_l4Root_w m) (patC 16 S_l1In_a (S_l1In_w m) (patC 37 S_l5Item_a (S_l5Item_w m) (patC 38 S_l3In_a (S_l3In_w m) (callK CX prims m))))) := by
  rw [← patC_eq (fun vs k => S_l3In_eq m vs k), ← patC_eq (fun vs k => S_l5Item_eq m vs k), ← patC_eq (fun vs k => S_l1In_eq m vs k), ← patC_eq (fun vs k => S_l4Root_eq m vs k)]
noncomputable def S_CheckBetween_c : Code := (Tryz.f17.body).getD .skip
noncomputable def S_CheckBetween_fi : Fi := ⟨17, 4, 128, 768⟩
theorem S_CheckBetween_lf (m : Nat) : ∀ n, (∀ vs k, loopK CX (callK CX prims m) S_CheckBetween_fi S_CheckBetween_c n [0, 1, 0, 1, 1, 1, 1, 1, 1] (fPack S_CheckBetween_s0_0 vs) k = S_CheckBetween_L0_0w m n vs k) ∧ ((loopK CX (callK CX prims m) S_CheckBetween_fi S_CheckBetween_c n) = (patL [0, 1, 0, 1, 1, 1, 1, 1, 1] S_CheckBetween_s0_0 (S_CheckBetween_L0_0w m n) (loopK CX (callK CX prims m) S_CheckBetween_fi S_CheckBetween_c n))) :=
 lf1 (fun n h0 => by rw [← patL_eq h0]) (fun vs k => rfl) fun n hn vs k => (stepL_congr (S_CheckBetween_cf m) hn [0, 1, 0, 1, 1, 1, 1, 1, 1] _ _).trans (by kernel_rfl)
theorem S_CheckBetween_eq (m : Nat) : ∀ vs k, callK CX prims m 17 (fArgs S_CheckBetween_a vs) k = S_CheckBetween_w m vs k := by
  cases m with
  | zero => exact fun vs k => rfl
  | succ m => exact fun vs k => Eq.trans (b := bodyK CX (callK CX prims m) (loopK CX (callK CX prims m) S_CheckBetween_fi S_CheckBetween_c m) 17 Tryz.f17 S_CheckBetween_c (fArgs S_CheckBetween_a vs) k) (by kernel_rfl) ((bodyK_congr (S_CheckBetween_cf m) ((S_CheckBetween_lf m m).2) 17 Tryz.f17 S_CheckBetween_c (fArgs S_CheckBetween_a vs) k).trans (by kernel_rfl))
noncomputable def S_Hash_L0_0 (m : Nat) : Nat → T → T → T → (T → An) → An
 | 0, _, _, _, _ => .bad
 | n + 1, x0, x1, x2, k0 =>
  cond (decide (x2.int < (x0.str.size : Int)))
  (cond (decide ((0 : Int) ≤ x2.int ∧ x2.int < (x0.str.size : Int)))
  (S_Hash_L0_0 m n x0 (bvBack .i64 (BitVec.ofInt IntKind.i64.bits (IntKind.i64.wrap ((bvBack .i64 (BitVec.ofInt IntKind.i64.bits x1.int ^^^ BitVec.ofInt IntKind.i64.bits (IntKind.i64.wrap ((x0.str.data.toList.getD (Int.toNat x2.int) 0).toNat : Int)))).int * 16777619)) &&& BitVec.ofInt IntKind.i64.bits 4294967295)) (T.i (IntKind.i64.wrap (x2.int + 1))) k0)
  (.bad))
  (k0 x1)
noncomputable def S_Hash_s0_0 : Pack := ⟨[(0, .one ⟨.sc, .sc (.str), .l []⟩), (3, .one ⟨.sc, .sc (.int .i64), .l []⟩), (4, .one ⟨.sc, .sc (.int .i64), .l []⟩)], []⟩
noncomputable def S_Hash_e0_0 : Pack := ⟨[(3, .one ⟨.sc, .sc (.int .i64), .l []⟩)], []⟩
noncomputable def S_Hash_L0_0w (m n : Nat) (vs : List T) (k : Ctl → Pack → An) : An := S_Hash_L0_0 m n (vs.headD dflt) (vs.tail.headD dflt) (vs.tail.tail.headD dflt) (fun z0 => k (.exit 0) (fPack S_Hash_e0_0 [z0]))
noncomputable def S_Hash : Nat → T → (T → An) → An
 | 0, _, _ => .bad
 | m + 1, x0, k0 =>
  S_Hash_L0_0 m m x0 (T.i 2166136261) (T.i 0)
  (fun y0 => k0 y0)
noncomputable def S_Hash_a : List Arg := [.one (.sc (.str) (.l []))]
noncomputable def S_Hash_w (m : Nat) (vs : List T) (k : Ret → An) : An := S_Hash m (vs.headD dflt) (fun z0 => k ⟨[.one (.sc (.int .i64) z0)], [[none]], [none]⟩)
theorem S_Hash_cf (m : Nat) : callK CX prims m = (callK CX prims m) := by
  rfl
noncomputable def S_Hash_c : Code := (Tryz.f39.body).getD .skip
noncomputable def S_Hash_fi : Fi := ⟨39, 1, 20, 4⟩
theorem S_Hash_lf (m : Nat) : ∀ n, (∀ vs k, loopK CX (callK CX prims m) S_Hash_fi S_Hash_c n [0, 1, 0, 1, 1] (fPack S_Hash_s0_0 vs) k = S_Hash_L0_0w m n vs k) ∧ ((loopK CX (callK CX prims m) S_Hash_fi S_Hash_c n) = (patL [0, 1, 0, 1, 1] S_Hash_s0_0 (S_Hash_L0_0w m n) (loopK CX (callK CX prims m) S_Hash_fi S_Hash_c n))) :=
 lf1 (fun n h0 => by rw [← patL_eq h0]) (fun vs k => rfl) fun n hn vs k => (stepL_congr (S_Hash_cf m) hn [0, 1, 0, 1, 1] _ _).trans (by kernel_rfl)
theorem S_Hash_eq (m : Nat) : ∀ vs k, callK CX prims m 39 (fArgs S_Hash_a vs) k = S_Hash_w m vs k := by
  cases m with
  | zero => exact fun vs k => rfl
  | succ m => exact fun vs k => Eq.trans (b := bodyK CX (callK CX prims m) (loopK CX (callK CX prims m) S_Hash_fi S_Hash_c m) 39 Tryz.f39 S_Hash_c (fArgs S_Hash_a vs) k) (by kernel_rfl) ((bodyK_congr (S_Hash_cf m) ((S_Hash_lf m m).2) 39 Tryz.f39 S_Hash_c (fArgs S_Hash_a vs) k).trans (by kernel_rfl))
noncomputable def S_ShardOf : Nat → T → T → (T → An) → An
 | 0, _, _, _ => .bad
 | m + 1, x0, x1, k0 =>
  cond (decide (x1.int < 1))
  (k0 (T.i 0))
  (S_Hash m x0
  (fun y0 => cond (!decide (x1.int = 0))
  (k0 (T.i (Int.tmod y0.int x1.int)))
  (.bad)))
noncomputable def S_ShardOf_a : List Arg := [.one (.sc (.str) (.l [])), .one (.sc (.int .i64) (.l []))]
noncomputable def S_ShardOf_w (m : Nat) (vs : List T) (k : Ret → An) : An := S_ShardOf m (vs.headD dflt) (vs.tail.headD dflt) (fun z0 => k ⟨[.one (.sc (.int .i64) z0)], [[none], [none]], [none, none]⟩)
theorem S_ShardOf_cf (m : Nat) : callK CX prims m = (patC 39 S_Hash_a (S_Hash_w m) (callK CX prims m)) := by
  rw [← patC_eq (fun vs k => S_Hash_eq m vs k)]
noncomputable def S_ShardOf_c : Code := (Tryz.f18.body).getD .skip
noncomputable def S_ShardOf_fi : Fi := ⟨18, 2, 11, 16⟩
theorem S_ShardOf_eq (m : Nat) : ∀ vs k, callK CX prims m 18 (fArgs S_ShardOf_a vs) k = S_ShardOf_w m vs k := by
  cases m with
  | zero => exact fun vs k => rfl
  | succ m => exact fun vs k => Eq.trans (b := bodyK CX (callK CX prims m) (loopK CX (callK CX prims m) S_ShardOf_fi S_ShardOf_c m) 18 Tryz.f18 S_ShardOf_c (fArgs S_ShardOf_a vs) k) (by kernel_rfl) ((bodyK_congr (S_ShardOf_cf m) rfl 18 Tryz.f18 S_ShardOf_c (fArgs S_ShardOf_a vs) k).trans (by kernel_rfl))
noncomputable def S_PutKey_L1_0 (m : Nat) : Nat → T → T → T → T → (T → T → T → T → An) → An
 | 0, _, _, _, _, _ => .bad
 | n + 1, x0, x1, x2, x3, k0 =>
  cond ((decide (x3.int < (x0.rows.length : Int))) == true)
  (cond (decide ((0 : Int) ≤ x3.int ∧ x3.int < (x0.rows.length : Int)))
  (cond ((Op.bytesLess ((x0.rows.getD (Int.toNat x3.int) []).getD 0 dflt).str.toList x1.str.toList) || (((x0.rows.getD (Int.toNat x3.int) []).getD 0 dflt).str.toList == x1.str.toList))
  (S_PutKey_L1_0 m n x0 x1 x2 (T.i (IntKind.i64.wrap (x3.int + 1))) k0)
  (k0 x0 x1 x2 x3))
  (.bad))
  (k0 x0 x1 x2 x3)
noncomputable def S_PutKey_s1_0 : Pack := ⟨[(0, .one ⟨.sn [([4000000], 0)], .sl [.sc (.str), .sc (.str)], .l []⟩), (1, .one ⟨.sc, .sc (.str), .l []⟩), (2, .one ⟨.sc, .sc (.str), .l []⟩), (9, .one ⟨.sc, .sc (.int .i64), .l []⟩)], [([4000000], .gone)]⟩
noncomputable def S_PutKey_e1_0 : Pack := ⟨[(0, .one ⟨.sn [([4000000], 0)], .sl [.sc (.str), .sc (.str)], .l []⟩), (1, .one ⟨.sc, .sc (.str), .l []⟩), (2, .one ⟨.sc, .sc (.str), .l []⟩), (9, .one ⟨.sc, .sc (.int .i64), .l []⟩)], [([4000000], .gone)]⟩
noncomputable def S_PutKey_L1_0w (m n : Nat) (vs : List T) (k : Ctl → Pack → An) : An := S_PutKey_L1_0 m n (vs.headD dflt) (vs.tail.headD dflt) (vs.tail.tail.headD dflt) (vs.tail.tail.tail.headD dflt) (fun z0 z1 z2 z3 => k (.exit 2) (fPack S_PutKey_e1_0 [z0, z1, z2, z3]))
noncomputable def S_PutKey_L0_0 (m : Nat) : Nat → T → T → T → T → T → (T → An) → (T → T → T → An) → An
 | 0, _, _, _, _, _, _, _ => .bad
 | n + 1, x0, x1, x2, x3, x4, k0, k1 =>
  cond (decide (x3.int < (x4.rows.length : Int)))
  (cond (decide ((0 : Int) ≤ x3.int ∧ x3.int < (x4.rows.length : Int)))
  (cond (decide ((Int.toNat x3.int) < x4.rows.length))
  (cond (((x4.rows.getD (Int.toNat x3.int) []).getD 0 dflt).str.toList == x1.str.toList)
  (cond (decide ((0 : Int) ≤ x3.int ∧ x3.int < (x4.rows.length : Int)))
  (cond (decide ((Int.toNat x3.int) < x4.rows.length))
  (k0 (T.l (x4.rows.set (Int.toNat x3.int) ((x4.rows.getD (Int.toNat x3.int) []).set 1 x2))))
  (.bad))
  (.bad))
  (S_PutKey_L0_0 m n x0 x1 x2 (T.i (IntKind.i64.wrap (x3.int + 1))) (T.l x4.rows) k0 k1))
  (.bad))
  (.bad))
  (k1 x0 x1 x2)
noncomputable def S_PutKey_s0_0 : Pack := ⟨[(0, .one ⟨.sn [([4000000], 0)], .sl [.sc (.str), .sc (.str)], .l []⟩), (1, .one ⟨.sc, .sc (.str), .l []⟩), (2, .one ⟨.sc, .sc (.str), .l []⟩), (7, .one ⟨.al [1000000, 1] 0, .sl [.sc (.str), .sc (.str)], .l []⟩), (8, .one ⟨.sc, .sc (.int .i64), .l []⟩)], [([4000000], .gone), ([1000000, 1], .row [.sc (.str), .sc (.str)] [.F, .F] [])]⟩
noncomputable def S_PutKey_e0_0 : Pack := ⟨[(6, .one ⟨.al [1000000, 0] 0, .sl [.sc (.str), .sc (.str)], .l []⟩)], [([1000000, 0], .row [.sc (.str), .sc (.str)] [.F, .F] [])]⟩
noncomputable def S_PutKey_e0_1 : Pack := ⟨[(0, .one ⟨.sn [([4000000], 0)], .sl [.sc (.str), .sc (.str)], .l []⟩), (1, .one ⟨.sc, .sc (.str), .l []⟩), (2, .one ⟨.sc, .sc (.str), .l []⟩)], [([4000000], .gone)]⟩
noncomputable def S_PutKey_L0_0w (m n : Nat) (vs : List T) (k : Ctl → Pack → An) : An := S_PutKey_L0_0 m n (vs.headD dflt) (vs.tail.headD dflt) (vs.tail.tail.headD dflt) (vs.tail.tail.tail.headD dflt) (vs.tail.tail.tail.tail.headD dflt) (fun z0 => k .ret (fPack S_PutKey_e0_0 [z0])) (fun z0 z1 z2 => k (.exit 0) (fPack S_PutKey_e0_1 [z0, z1, z2]))
noncomputable def S_PutKey : Nat → T → T → T → (T → An) → (T → An) → An
 | 0, _, _, _, _, _ => .bad
 | m + 1, x0, x1, x2, k0, k1 =>
  cond (decide ((0 + x0.rows.length) * 2 ≤ maxRow))
  (S_PutKey_L0_0 m m (T.l x0.rows) x1 x2 (T.i 0) (T.l x0.rows)
  (fun y0 => k0 (T.l y0.rows))
  (fun y1 y2 y3 => S_PutKey_L1_0 m m y1 y2 y3 (T.i 0)
  (fun y4 y5 y6 y7 => cond (decide ((0 : Int) ≤ y7.int ∧ y7.int ≤ (y4.rows.length : Int)))
  (cond (decide ((0 : Int) ≤ 0 ∧ 0 ≤ y7.int))
  (cond (decide ((0 + (y4.rows.take (Int.toNat y7.int)).length) * 2 ≤ maxRow))
  (cond (decide (((y4.rows.take (Int.toNat y7.int)).length + 1) * 2 ≤ maxRow))
  (cond (decide ((0 : Int) ≤ (y4.rows.length : Int) ∧ (y4.rows.length : Int) ≤ (y4.rows.length : Int)))
  (cond (decide ((0 : Int) ≤ y7.int ∧ y7.int ≤ (y4.rows.length : Int)))
  (cond (decide ((((y4.rows.take (Int.toNat y7.int)) ++ [[y5, y6]]).length + ((y4.rows.take (Int.toNat (y4.rows.length : Int))).drop (Int.toNat y7.int)).length) * 2 ≤ maxRow))
  (k1 (T.l (((y4.rows.take (Int.toNat y7.int)) ++ [[y5, y6]]) ++ ((y4.rows.take (Int.toNat (y4.rows.length : Int))).drop (Int.toNat y7.int)))))
  (.bad))
  (.bad))
  (.bad))
  (.bad))
  (.bad))
  (.bad))
  (.bad))))
  (.bad)
noncomputable def S_PutKey_a : List Arg := [.one (.dz [.sc (.str), .sc (.str)] []), .one (.sc (.str) (.l [])), .one (.sc (.str) (.l []))]
noncomputable def S_PutKey_w (m : Nat) (vs : List T) (k : Ret → An) : An := S_PutKey m (vs.headD dflt) (vs.tail.headD dflt) (vs.tail.tail.headD dflt) (fun z0 => k ⟨[.one (.own [1000000, 0] [.sc (.str), .sc (.str)] [.F, .F] z0.rows)], [[none], [none], [none]], [none, none, none]⟩) (fun z0 => k ⟨[.one (.own [2000061] [.sc (.str), .sc (.str)] [.F, .F] z0.rows)], [[none], [none], [none]], [none, none, none]⟩)
theorem S_PutKey_cf (m : Nat) : callK CX prims m = (callK CX prims m) := by
  rfl
noncomputable def S_PutKey_c : Code := (Tryz.f40.body).getD .skip
noncomputable def S_PutKey_fi : Fi := ⟨40, 3, 62, 64⟩
theorem S_PutKey_lf (m : Nat) : ∀ n, (∀ vs k, loopK CX (callK CX prims m) S_PutKey_fi S_PutKey_c n [0, 1, 0, 1, 1] (fPack S_PutKey_s0_0 vs) k = S_PutKey_L0_0w m n vs k) ∧ (∀ vs k, loopK CX (callK CX prims m) S_PutKey_fi S_PutKey_c n [0, 0, 1, 1, 1, 1] (fPack S_PutKey_s1_0 vs) k = S_PutKey_L1_0w m n vs k) ∧ ((loopK CX (callK CX prims m) S_PutKey_fi S_PutKey_c n) = (patL [0, 1, 0, 1, 1] S_PutKey_s0_0 (S_PutKey_L0_0w m n) (patL [0, 0, 1, 1, 1, 1] S_PutKey_s1_0 (S_PutKey_L1_0w m n) (loopK CX (callK CX prims m) S_PutKey_fi S_PutKey_c n)))) :=
 lf2 (fun n h0 h1 => by rw [← patL_eq h1, ← patL_eq h0]) (fun vs k => rfl) (fun vs k => rfl) (fun n hn vs k => (stepL_congr (S_PutKey_cf m) hn [0, 1, 0, 1, 1] _ _).trans (by kernel_rfl)) fun n hn vs k => (stepL_congr (S_PutKey_cf m) hn [0, 0, 1, 1, 1, 1] _ _).trans (by kernel_rfl)
theorem S_PutKey_eq (m : Nat) : ∀ vs k, callK CX prims m 40 (fArgs S_PutKey_a vs) k = S_PutKey_w m vs k := by
  cases m with
  | zero => exact fun vs k => rfl
  | succ m => exact fun vs k => Eq.trans (b := bodyK CX (callK CX prims m) (loopK CX (callK CX prims m) S_PutKey_fi S_PutKey_c m) 40 Tryz.f40 S_PutKey_c (fArgs S_PutKey_a vs) k) (by kernel_rfl) ((bodyK_congr (S_PutKey_cf m) ((S_PutKey_lf m m).2.2) 40 Tryz.f40 S_PutKey_c (fArgs S_PutKey_a vs) k).trans (by kernel_rfl))
noncomputable def S_UnionOf_L0_0 (m : Nat) : Nat → T → T → T → (T → An) → An
 | 0, _, _, _, _ => .bad
 | n + 1, x0, x1, x2, k0 =>
  cond (decide (x1.int < (x0.rows.length : Int)))
  (cond (decide ((0 : Int) ≤ x1.int ∧ x1.int < (x0.rows.length : Int)))
  (cond (decide ((0 : Int) ≤ x1.int ∧ x1.int < (x0.rows.length : Int)))
  (S_PutKey m (T.l x2.rows) ((x0.rows.getD (Int.toNat x1.int) []).getD 0 dflt) (((x0.rows.getD (Int.toNat x1.int) []).drop 1).getD 0 dflt)
  (fun y0 => S_UnionOf_L0_0 m n x0 (T.i (IntKind.i64.wrap (x1.int + 1))) (T.l y0.rows) k0)
  (fun y1 => S_UnionOf_L0_0 m n x0 (T.i (IntKind.i64.wrap (x1.int + 1))) (T.l y1.rows) k0))
  (.bad))
  (.bad))
  (k0 (T.l x2.rows))
noncomputable def S_UnionOf_s0_0 : Pack := ⟨[(1, .one ⟨.sn [([4000000], 0)], .sl [.sc (.str), .sc (.str)], .l []⟩), (5, .one ⟨.al [1000000, 1] 0, .sl [.sc (.str), .sc (.str)], .l []⟩), (6, .one ⟨.sc, .sc (.int .i64), .l []⟩)], [([4000000], .gone), ([1000000, 1], .row [.sc (.str), .sc (.str)] [.F, .F] [])]⟩
noncomputable def S_UnionOf_e0_0 : Pack := ⟨[(5, .one ⟨.al [1000000, 0] 0, .sl [.sc (.str), .sc (.str)], .l []⟩)], [([1000000, 0], .row [.sc (.str), .sc (.str)] [.F, .F] [])]⟩
noncomputable def S_UnionOf_L0_0w (m n : Nat) (vs : List T) (k : Ctl → Pack → An) : An := S_UnionOf_L0_0 m n (vs.headD dflt) (vs.tail.headD dflt) (vs.tail.tail.headD dflt) (fun z0 => k (.exit 0) (fPack S_UnionOf_e0_0 [z0]))
noncomputable def S_UnionOf : Nat → T → T → (T → An) → An
 | 0, _, _, _ => .bad
 | m + 1, x0, x1, k0 =>
  cond (decide ((0 + x0.rows.length) * 2 ≤ maxRow))
  (S_UnionOf_L0_0 m m (T.l x1.rows) (T.i 0) (T.l x0.rows)
  (fun y2 => k0 (T.l y2.rows)))
  (.bad)
noncomputable def S_UnionOf_a : List Arg := [.one (.dz [.sc (.str), .sc (.str)] []), .one (.dz [.sc (.str), .sc (.str)] [])]
noncomputable def S_UnionOf_w (m : Nat) (vs : List T) (k : Ret → An) : An := S_UnionOf m (vs.headD dflt) (vs.tail.headD dflt) (fun z0 => k ⟨[.one (.own [1000000, 0] [.sc (.str), .sc (.str)] [.F, .F] z0.rows)], [[none], [none]], [none, none]⟩)
theorem S_UnionOf_cf (m : Nat) : callK CX prims m = (patC 40 S_PutKey_a (S_PutKey_w m) (callK CX prims m)) := by
  rw [← patC_eq (fun vs k => S_PutKey_eq m vs k)]
noncomputable def S_UnionOf_c : Code := (Tryz.f19.body).getD .skip
noncomputable def S_UnionOf_fi : Fi := ⟨19, 2, 29, 16⟩
theorem S_UnionOf_lf (m : Nat) : ∀ n, (∀ vs k, loopK CX (callK CX prims m) S_UnionOf_fi S_UnionOf_c n [0, 1, 0, 1, 1] (fPack S_UnionOf_s0_0 vs) k = S_UnionOf_L0_0w m n vs k) ∧ ((loopK CX (callK CX prims m) S_UnionOf_fi S_UnionOf_c n) = (patL [0, 1, 0, 1, 1] S_UnionOf_s0_0 (S_UnionOf_L0_0w m n) (loopK CX (callK CX prims m) S_UnionOf_fi S_UnionOf_c n))) :=
 lf1 (fun n h0 => by rw [← patL_eq h0]) (fun vs k => rfl) fun n hn vs k => (stepL_congr (S_UnionOf_cf m) hn [0, 1, 0, 1, 1] _ _).trans (by kernel_rfl)
theorem S_UnionOf_eq (m : Nat) : ∀ vs k, callK CX prims m 19 (fArgs S_UnionOf_a vs) k = S_UnionOf_w m vs k := by
  cases m with
  | zero => exact fun vs k => rfl
  | succ m => exact fun vs k => Eq.trans (b := bodyK CX (callK CX prims m) (loopK CX (callK CX prims m) S_UnionOf_fi S_UnionOf_c m) 19 Tryz.f19 S_UnionOf_c (fArgs S_UnionOf_a vs) k) (by kernel_rfl) ((bodyK_congr (S_UnionOf_cf m) ((S_UnionOf_lf m m).2) 19 Tryz.f19 S_UnionOf_c (fArgs S_UnionOf_a vs) k).trans (by kernel_rfl))
noncomputable def S_CheckBundle_L1_0 (m : Nat) : Nat → T → T → T → T → T → T → T → T → T → T → T → T → T → (T → T → An) → (T → T → T → T → T → T → T → T → T → T → T → T → An) → An
 | 0, _, _, _, _, _, _, _, _, _, _, _, _, _, _, _ => .bad
 | n + 1, x0, x1, x2, x3, x4, x5, x6, x7, x8, x9, x10, x11, x12, k0, k1 =>
  cond (decide (x5.int < (x12.rows.length : Int)))
  (cond (decide ((0 : Int) ≤ x5.int ∧ x5.int < (x12.rows.length : Int)))
  (cond (decide ((Int.toNat x5.int) < x12.rows.length))
  (S_ShardOf m ((x12.rows.getD (Int.toNat x5.int) []).getD 0 dflt) x3
  (fun y4 => cond (y4.int != x4.int)
  (k0 (T.b false) (T.l x10.rows))
  (S_CheckBundle_L1_0 m n x0 x1 (T.i (x2.int.toNat : Int)) x3 x4 (T.i (IntKind.i64.wrap (x5.int + 1))) x6 x7 x8 x9 (T.l x10.rows) (T.l x11.rows) (T.l x12.rows) k0 k1)))
  (.bad))
  (.bad))
  (k1 x0 x1 (T.i (x2.int.toNat : Int)) x3 x4 x6 x7 x8 x9 (T.l x10.rows) (T.l x11.rows) (T.l x12.rows))
noncomputable def S_CheckBundle_s1_0 : Pack := ⟨[(1, .one ⟨.sc, .sc (.str), .l []⟩), (2, .one ⟨.sc, .sc (.str), .l []⟩), (7, .ptr [1000000, 0] 0 0 0), (10, .one ⟨.al [1000000, 1] 0, .sl [.sc (.str), .sc (.str)], .l []⟩), (11, .one ⟨.sc, .sc (.int .i64), .l []⟩), (12, .one ⟨.al [1000000, 2] 0, .sl [.sc (.str), .sc (.str)], .l []⟩), (13, .one ⟨.sc, .sc (.int .i64), .l []⟩), (14, .one ⟨.al [1000000, 3] 0, .sl [.sc (.str), .sc (.str)], .l []⟩), (16, .one ⟨.sc, .sc (.int .i64), .l []⟩)], [([1000000, 0], .box [⟨.sc, .sc (.int .i64), .l []⟩, ⟨.sc, .sc (.str), .l []⟩, ⟨.sn [([4000000], 0)], .sl [.sc (.str)], .l []⟩, ⟨.sn [([4000000], 0)], .sl [.sc (.int .i64), .sc (.int .i64), .sl [.sc (.str), .sc (.str), .sl [.sc (.str)]]], .l []⟩]), ([1000000, 1], .row [.sc (.str), .sc (.str)] [.F, .F] []), ([1000000, 2], .row [.sc (.str), .sc (.str)] [.F, .F] []), ([1000000, 3], .row [.sc (.str), .sc (.str)] [.F, .F] []), ([4000000], .gone)]⟩
noncomputable def S_CheckBundle_e1_0 : Pack := ⟨[(8, .one ⟨.al [1000000, 0] 0, .sl [.sc (.str), .sc (.str)], .l []⟩), (9, .one ⟨.sc, .sc (.bool), .l []⟩)], [([1000000, 0], .row [.sc (.str), .sc (.str)] [.F, .F] [])]⟩
noncomputable def S_CheckBundle_e1_1 : Pack := ⟨[(1, .one ⟨.sc, .sc (.str), .l []⟩), (2, .one ⟨.sc, .sc (.str), .l []⟩), (7, .ptr [1000000, 0] 0 0 0), (10, .one ⟨.al [1000000, 1] 0, .sl [.sc (.str), .sc (.str)], .l []⟩), (11, .one ⟨.sc, .sc (.int .i64), .l []⟩), (12, .one ⟨.al [1000000, 2] 0, .sl [.sc (.str), .sc (.str)], .l []⟩), (13, .one ⟨.sc, .sc (.int .i64), .l []⟩), (14, .one ⟨.al [1000000, 3] 0, .sl [.sc (.str), .sc (.str)], .l []⟩)], [([1000000, 0], .box [⟨.sc, .sc (.int .i64), .l []⟩, ⟨.sc, .sc (.str), .l []⟩, ⟨.sn [([4000000], 0)], .sl [.sc (.str)], .l []⟩, ⟨.sn [([4000000], 0)], .sl [.sc (.int .i64), .sc (.int .i64), .sl [.sc (.str), .sc (.str), .sl [.sc (.str)]]], .l []⟩]), ([1000000, 1], .row [.sc (.str), .sc (.str)] [.F, .F] []), ([1000000, 2], .row [.sc (.str), .sc (.str)] [.F, .F] []), ([1000000, 3], .row [.sc (.str), .sc (.str)] [.F, .F] []), ([4000000], .gone)]⟩
noncomputable def S_CheckBundle_L1_0w (m n : Nat) (vs : List T) (k : Ctl → Pack → An) : An := S_CheckBundle_L1_0 m n (vs.headD dflt) (vs.tail.headD dflt) (vs.tail.tail.headD dflt) (vs.tail.tail.tail.headD dflt) (vs.tail.tail.tail.tail.headD dflt) (vs.tail.tail.tail.tail.tail.headD dflt) (vs.tail.tail.tail.tail.tail.tail.headD dflt) (vs.tail.tail.tail.tail.tail.tail.tail.headD dflt) (vs.tail.tail.tail.tail.tail.tail.tail.tail.headD dflt) (vs.tail.tail.tail.tail.tail.tail.tail.tail.tail.headD dflt) (vs.tail.tail.tail.tail.tail.tail.tail.tail.tail.tail.headD dflt) (vs.tail.tail.tail.tail.tail.tail.tail.tail.tail.tail.tail.headD dflt) (vs.tail.tail.tail.tail.tail.tail.tail.tail.tail.tail.tail.tail.headD dflt) (fun z0 z1 => k .ret (fPack S_CheckBundle_e1_0 [z0, z1])) (fun z0 z1 z2 z3 z4 z5 z6 z7 z8 z9 z10 z11 => k (.exit 2) (fPack S_CheckBundle_e1_1 [z0, z1, z2, z3, z4, z5, z6, z7, z8, z9, z10, z11]))
noncomputable def S_CheckBundle_L0_0 (m : Nat) : Nat → T → T → T → T → T → T → T → T → T → T → T → (T → T → An) → (T → An) → An
 | 0, _, _, _, _, _, _, _, _, _, _, _, _, _ => .bad
 | n + 1, x0, x1, x2, x3, x4, x5, x6, x7, x8, x9, x10, k0, k1 =>
  cond (decide (x4.int < x3.int))
  (cond (decide ((0 : Int) ≤ x4.int ∧ x4.int < (x7.rows.length : Int)))
  (cond (decide ((0 : Int) ≤ x4.int ∧ x4.int < (x8.rows.length : Int)))
  (S_CheckBetween m ((x7.rows.getD (Int.toNat x4.int) []).getD 0 dflt) x0 x1 ((x8.rows.getD (Int.toNat x4.int) []).getD 0 dflt) ((x8.rows.getD (Int.toNat x4.int) []).getD 1 dflt) (T.l ((x8.rows.getD (Int.toNat x4.int) []).getD 2 dflt).rows)
  (fun y2 y3 => cond (!y3.bool)
  (k0 (T.b false) (T.l x9.rows))
  (S_CheckBundle_L1_0 m n x0 x1 (T.i (x2.int.toNat : Int)) x3 x4 (T.i 0) x5 x6 x7 x8 (T.l x9.rows) (T.l x10.rows) (T.l y2.rows)
  (fun y5 y6 => k0 y5 (T.l y6.rows))
  (fun y7 y8 y9 y10 y11 y12 y13 y14 y15 y16 y17 y18 => S_UnionOf m (T.l y17.rows) (T.l y18.rows)
  (fun y19 => S_CheckBundle_L0_0 m n y7 y8 (T.i (y9.int.toNat : Int)) y10 (T.i (IntKind.i64.wrap (y11.int + 1))) y12 y13 y14 y15 (T.l y16.rows) (T.l y19.rows) k0 k1))))
  (fun y20 y21 => cond (!y21.bool)
  (k0 (T.b false) (T.l x9.rows))
  (S_CheckBundle_L1_0 m n x0 x1 (T.i (x2.int.toNat : Int)) x3 x4 (T.i 0) x5 x6 x7 x8 (T.l x9.rows) (T.l x10.rows) (T.l y20.rows)
  (fun y22 y23 => k0 y22 (T.l y23.rows))
  (fun y24 y25 y26 y27 y28 y29 y30 y31 y32 y33 y34 y35 => S_UnionOf m (T.l y34.rows) (T.l y35.rows)
  (fun y36 => S_CheckBundle_L0_0 m n y24 y25 (T.i (y26.int.toNat : Int)) y27 (T.i (IntKind.i64.wrap (y28.int + 1))) y29 y30 y31 y32 (T.l y33.rows) (T.l y36.rows) k0 k1))))
  (fun y37 y38 => cond (!y38.bool)
  (k0 (T.b false) (T.l x9.rows))
  (S_CheckBundle_L1_0 m n x0 x1 (T.i (x2.int.toNat : Int)) x3 x4 (T.i 0) x5 x6 x7 x8 (T.l x9.rows) (T.l x10.rows) (T.l y37.rows)
  (fun y39 y40 => k0 y39 (T.l y40.rows))
  (fun y41 y42 y43 y44 y45 y46 y47 y48 y49 y50 y51 y52 => S_UnionOf m (T.l y51.rows) (T.l y52.rows)
  (fun y53 => S_CheckBundle_L0_0 m n y41 y42 (T.i (y43.int.toNat : Int)) y44 (T.i (IntKind.i64.wrap (y45.int + 1))) y46 y47 y48 y49 (T.l y50.rows) (T.l y53.rows) k0 k1))))
  (fun y54 y55 => cond (!y55.bool)
  (k0 (T.b false) (T.l x9.rows))
  (S_CheckBundle_L1_0 m n x0 x1 (T.i (x2.int.toNat : Int)) x3 x4 (T.i 0) x5 x6 x7 x8 (T.l x9.rows) (T.l x10.rows) (T.l y54.rows)
  (fun y56 y57 => k0 y56 (T.l y57.rows))
  (fun y58 y59 y60 y61 y62 y63 y64 y65 y66 y67 y68 y69 => S_UnionOf m (T.l y68.rows) (T.l y69.rows)
  (fun y70 => S_CheckBundle_L0_0 m n y58 y59 (T.i (y60.int.toNat : Int)) y61 (T.i (IntKind.i64.wrap (y62.int + 1))) y63 y64 y65 y66 (T.l y67.rows) (T.l y70.rows) k0 k1)))))
  (.bad))
  (.bad))
  (k1 (T.l x10.rows))
noncomputable def S_CheckBundle_s0_0 : Pack := ⟨[(1, .one ⟨.sc, .sc (.str), .l []⟩), (2, .one ⟨.sc, .sc (.str), .l []⟩), (7, .ptr [1000000, 0] 0 0 0), (10, .one ⟨.al [1000000, 1] 0, .sl [.sc (.str), .sc (.str)], .l []⟩), (11, .one ⟨.sc, .sc (.int .i64), .l []⟩), (12, .one ⟨.al [1000000, 2] 0, .sl [.sc (.str), .sc (.str)], .l []⟩), (13, .one ⟨.sc, .sc (.int .i64), .l []⟩)], [([1000000, 0], .box [⟨.sc, .sc (.int .i64), .l []⟩, ⟨.sc, .sc (.str), .l []⟩, ⟨.sn [([4000000], 0)], .sl [.sc (.str)], .l []⟩, ⟨.sn [([4000000], 0)], .sl [.sc (.int .i64), .sc (.int .i64), .sl [.sc (.str), .sc (.str), .sl [.sc (.str)]]], .l []⟩]), ([1000000, 1], .row [.sc (.str), .sc (.str)] [.F, .F] []), ([1000000, 2], .row [.sc (.str), .sc (.str)] [.F, .F] []), ([4000000], .gone)]⟩
noncomputable def S_CheckBundle_e0_0 : Pack := ⟨[(8, .one ⟨.al [1000000, 0] 0, .sl [.sc (.str), .sc (.str)], .l []⟩), (9, .one ⟨.sc, .sc (.bool), .l []⟩)], [([1000000, 0], .row [.sc (.str), .sc (.str)] [.F, .F] [])]⟩
noncomputable def S_CheckBundle_e0_1 : Pack := ⟨[(12, .one ⟨.al [1000000, 0] 0, .sl [.sc (.str), .sc (.str)], .l []⟩)], [([1000000, 0], .row [.sc (.str), .sc (.str)] [.F, .F] [])]⟩
noncomputable def S_CheckBundle_L0_0w (m n : Nat) (vs : List T) (k : Ctl → Pack → An) : An := S_CheckBundle_L0_0 m n (vs.headD dflt) (vs.tail.headD dflt) (vs.tail.tail.headD dflt) (vs.tail.tail.tail.headD dflt) (vs.tail.tail.tail.tail.headD dflt) (vs.tail.tail.tail.tail.tail.headD dflt) (vs.tail.tail.tail.tail.tail.tail.headD dflt) (vs.tail.tail.tail.tail.tail.tail.tail.headD dflt) (vs.tail.tail.tail.tail.tail.tail.tail.tail.headD dflt) (vs.tail.tail.tail.tail.tail.tail.tail.tail.tail.headD dflt) (vs.tail.tail.tail.tail.tail.tail.tail.tail.tail.tail.headD dflt) (fun z0 z1 => k .ret (fPack S_CheckBundle_e0_0 [z0, z1])) (fun z0 => k (.exit 0) (fPack S_CheckBundle_e0_1 [z0]))
noncomputable def S_CheckBundle : Nat → T → T → T → T → T → T → T → (T → T → An) → (T → T → An) → An
 | 0, _, _, _, _, _, _, _, _, _ => .bad
 | m + 1, x0, x1, x2, x3, x4, x5, x6, k0, k1 =>
  S_SuperOf m x3 x4 (T.l x5.rows)
  (fun y0 => cond ((!(y0.str.toList == x0.str.toList)) == false)
  (S_l1In m (T.i (x5.rows.length : Int)) (T.i 1) (T.i 8)
  (fun y1 => cond ((!y1.bool) == false)
  (cond ((x6.rows.length : Int) != (x5.rows.length : Int))
  (k0 (T.l []) (T.b false))
  (S_CheckBundle_L0_0 m m x1 x2 (T.i 0) (T.i (x5.rows.length : Int)) (T.i 0) x3 x4 (T.l x5.rows) (T.l x6.rows) (T.l []) (T.l [])
  (fun y71 y72 => k1 (T.l y72.rows) y71)
  (fun y73 => k1 (T.l y73.rows) (T.b true))))
  (k0 (T.l []) (T.b false))))
  (k0 (T.l []) (T.b false)))
noncomputable def S_CheckBundle_a : List Arg := [.one (.sc (.str) (.l [])), .one (.sc (.str) (.l [])), .one (.sc (.str) (.l [])), .agg [.sc (.int .i64) (.l []), .sc (.str) (.l []), .dz [.sc (.str)] [], .dz [.sc (.int .i64), .sc (.int .i64), .sl [.sc (.str), .sc (.str), .sl [.sc (.str)]]] []]]
noncomputable def S_CheckBundle_w (m : Nat) (vs : List T) (k : Ret → An) : An := S_CheckBundle m (vs.headD dflt) (vs.tail.headD dflt) (vs.tail.tail.headD dflt) (vs.tail.tail.tail.headD dflt) (vs.tail.tail.tail.tail.headD dflt) (vs.tail.tail.tail.tail.tail.headD dflt) (vs.tail.tail.tail.tail.tail.tail.headD dflt) (fun z0 z1 => k ⟨[.one (.own [2000017] [.sc (.str), .sc (.str)] [.F, .F] z0.rows), .one (.sc (.bool) z1)], [[none], [none], [none], [none, none, none, none]], [none, none, none, none]⟩) (fun z0 z1 => k ⟨[.one (.own [1000000, 0] [.sc (.str), .sc (.str)] [.F, .F] z0.rows), .one (.sc (.bool) z1)], [[none], [none], [none], [none, none, none, none]], [none, none, none, none]⟩)
theorem S_CheckBundle_cf (m : Nat) : callK CX prims m = (patC 15 S_SuperOf_a (S_SuperOf_w m) (patC 16 S_l1In_a (S_l1In_w m) (patC 17 S_CheckBetween_a (S_CheckBetween_w m) (patC 18 S_ShardOf_a (S_ShardOf_w m) (patC 19 S_UnionOf_a (S_UnionOf_w m) (callK CX prims m)))))) := by
  rw [← patC_eq (fun vs k => S_UnionOf_eq m vs k), ← patC_eq (fun vs k => S_ShardOf_eq m vs k), ← patC_eq (fun vs k => S_CheckBetween_eq m vs k), ← patC_eq (fun vs k => S_l1In_eq m vs k), ← patC_eq (fun vs k => S_SuperOf_eq m vs k)]
noncomputable def S_CheckBundle_c : Code := (Tryz.f5.body).getD .skip
noncomputable def S_CheckBundle_fi : Fi := ⟨5, 4, 88, 768⟩
theorem S_CheckBundle_lf (m : Nat) : ∀ n, (∀ vs k, loopK CX (callK CX prims m) S_CheckBundle_fi S_CheckBundle_c n [0, 1, 0, 1, 1, 1, 1, 1] (fPack S_CheckBundle_s0_0 vs) k = S_CheckBundle_L0_0w m n vs k) ∧ (∀ vs k, loopK CX (callK CX prims m) S_CheckBundle_fi S_CheckBundle_c n [0, 1, 0, 1, 1, 0, 0, 1, 0, 0, 1, 0, 1, 1, 1, 1, 1] (fPack S_CheckBundle_s1_0 vs) k = S_CheckBundle_L1_0w m n vs k) ∧ ((loopK CX (callK CX prims m) S_CheckBundle_fi S_CheckBundle_c n) = (patL [0, 1, 0, 1, 1, 1, 1, 1] S_CheckBundle_s0_0 (S_CheckBundle_L0_0w m n) (patL [0, 1, 0, 1, 1, 0, 0, 1, 0, 0, 1, 0, 1, 1, 1, 1, 1] S_CheckBundle_s1_0 (S_CheckBundle_L1_0w m n) (loopK CX (callK CX prims m) S_CheckBundle_fi S_CheckBundle_c n)))) :=
 lf2 (fun n h0 h1 => by rw [← patL_eq h1, ← patL_eq h0]) (fun vs k => rfl) (fun vs k => rfl) (fun n hn vs k => (stepL_congr (S_CheckBundle_cf m) hn [0, 1, 0, 1, 1, 1, 1, 1] _ _).trans (by kernel_rfl)) fun n hn vs k => (stepL_congr (S_CheckBundle_cf m) hn [0, 1, 0, 1, 1, 0, 0, 1, 0, 0, 1, 0, 1, 1, 1, 1, 1] _ _).trans (by kernel_rfl)
theorem S_CheckBundle_eq (m : Nat) : ∀ vs k, callK CX prims m 5 (fArgs S_CheckBundle_a vs) k = S_CheckBundle_w m vs k := by
  cases m with
  | zero => exact fun vs k => rfl
  | succ m => exact fun vs k => Eq.trans (b := bodyK CX (callK CX prims m) (loopK CX (callK CX prims m) S_CheckBundle_fi S_CheckBundle_c m) 5 Tryz.f5 S_CheckBundle_c (fArgs S_CheckBundle_a vs) k) (by kernel_rfl) ((bodyK_congr (S_CheckBundle_cf m) ((S_CheckBundle_lf m m).2.2) 5 Tryz.f5 S_CheckBundle_c (fArgs S_CheckBundle_a vs) k).trans (by kernel_rfl))
end Go.Proofs.YtdhldbjjdlnbmaaGreat

