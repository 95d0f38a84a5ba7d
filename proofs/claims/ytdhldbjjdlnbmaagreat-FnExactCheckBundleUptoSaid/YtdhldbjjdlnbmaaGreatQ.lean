/- A part of the proof: texts S7P2: see the last part's opening words. -/
import Derived.Test.YtdhldbjjdlnbmaaGreatP
set_option linter.unusedVariables false
set_option linter.unusedSimpArgs false
set_option linter.unnecessarySimpa false
namespace Go.Proofs.YtdhldbjjdlnbmaaGreat
open Go Go.E Go.Proofs
noncomputable def M_putNum_L0_1 (m : Nat) : Nat → T → T → (T → T → An) → (T → T → An) → An
 | 0, _, _, _, _ => .bad
 | n + 1, x0, x1, k0, k1 =>
  cond (decide (x0.int > 127))
  (cond (decide ((x1.rows.length + 1) * 1 ≤ maxRow))
  (M_putNum_L0_1 m n (T.i (Int.fdiv x0.int (2 ^ (min (Int.toNat 7) IntKind.i64.bits)))) (T.l (x1.rows ++ [[(T.i (IntKind.u8.wrap (bvBack .i64 (BitVec.ofInt IntKind.i64.bits 128 ||| BitVec.ofInt IntKind.i64.bits (bvBack .i64 (BitVec.ofInt IntKind.i64.bits x0.int &&& BitVec.ofInt IntKind.i64.bits 127)).int)).int))]])) k0 k1)
  (.bad))
  (k0 x0 (T.l x1.rows))
noncomputable def M_putNum_s0_1 : Pack := ⟨[(0, .one ⟨.al [1000000, 0] 0, .sl [.sc (.int .u8)], .l []⟩), (1, .one ⟨.sc, .sc (.int .i64), .l []⟩)], [([1000000, 0], .row [.sc (.int .u8)] [.F] [])]⟩
noncomputable def M_putNum_L0_0 (m : Nat) : Nat → T → T → (T → T → An) → (T → T → An) → An
 | 0, _, _, _, _ => .bad
 | n + 1, x0, x1, k0, k1 =>
  cond (decide (x0.int > 127))
  (cond (decide ((x1.rows.length + 1) * 1 ≤ maxRow))
  (M_putNum_L0_1 m n (T.i (Int.fdiv x0.int (2 ^ (min (Int.toNat 7) IntKind.i64.bits)))) (T.l (x1.rows ++ [[(T.i (IntKind.u8.wrap (bvBack .i64 (BitVec.ofInt IntKind.i64.bits 128 ||| BitVec.ofInt IntKind.i64.bits (bvBack .i64 (BitVec.ofInt IntKind.i64.bits x0.int &&& BitVec.ofInt IntKind.i64.bits 127)).int)).int))]])) k0 k1)
  (.bad))
  (k1 x0 (T.l x1.rows))
noncomputable def M_putNum_s0_0 : Pack := ⟨[(0, .one ⟨.al [0, 0] 0, .sl [.sc (.int .u8)], .l []⟩), (1, .one ⟨.sc, .sc (.int .i64), .l []⟩)], [([0, 0], .row [.sc (.int .u8)] [.F] [])]⟩
noncomputable def M_putNum_e0_0 : Pack := ⟨[(0, .one ⟨.al [1000000, 0] 0, .sl [.sc (.int .u8)], .l []⟩), (1, .one ⟨.sc, .sc (.int .i64), .l []⟩)], [([1000000, 0], .row [.sc (.int .u8)] [.F] [])]⟩
noncomputable def M_putNum_e0_1 : Pack := ⟨[(0, .one ⟨.al [0, 0] 0, .sl [.sc (.int .u8)], .l []⟩), (1, .one ⟨.sc, .sc (.int .i64), .l []⟩)], [([0, 0], .row [.sc (.int .u8)] [.F] [])]⟩
noncomputable def M_putNum_L0_1w (m n : Nat) (vs : List T) (k : Ctl → Pack → An) : An := M_putNum_L0_1 m n (vs.headD dflt) (vs.tail.headD dflt) (fun z0 z1 => k (.exit 0) (fPack M_putNum_e0_0 [z0, z1])) (fun z0 z1 => k (.exit 0) (fPack M_putNum_e0_1 [z0, z1]))
noncomputable def M_putNum_L0_0w (m n : Nat) (vs : List T) (k : Ctl → Pack → An) : An := M_putNum_L0_0 m n (vs.headD dflt) (vs.tail.headD dflt) (fun z0 z1 => k (.exit 0) (fPack M_putNum_e0_0 [z0, z1])) (fun z0 z1 => k (.exit 0) (fPack M_putNum_e0_1 [z0, z1]))
noncomputable def M_putNum : Nat → T → T → (T → An) → An
 | 0, _, _, _ => .bad
 | m + 1, x0, x1, k0 =>
  M_putNum_L0_0 m m (T.i (maxI 0 (minI x1.int 1000000000))) (T.l x0.rows)
  (fun y0 y1 => cond (decide ((y1.rows.length + 1) * 1 ≤ maxRow))
  (k0 (T.l (y1.rows ++ [[(T.i (IntKind.u8.wrap y0.int))]])))
  (.bad))
  (fun y2 y3 => cond (decide ((y3.rows.length + 1) * 1 ≤ maxRow))
  (k0 (T.l (y3.rows ++ [[(T.i (IntKind.u8.wrap y2.int))]])))
  (.bad))
noncomputable def M_putNum_a : List Arg := [.one (.own [.sc (.int .u8)] [.F] []), .one (.sc (.int .i64) (.l []))]
noncomputable def M_putNum_w (m : Nat) (vs : List T) (k : Ret → An) : An := M_putNum m (vs.headD dflt) (vs.tail.headD dflt) (fun z0 => k ⟨[.one (.own [2000023] [.sc (.int .u8)] [.F] z0.rows)], [[none], [none]], [none, none]⟩)
theorem M_putNum_cf (m : Nat) : callK CX prims m = (callK CX prims m) := by
  rfl
noncomputable def M_putNum_c : Code := (Tryz.f45.body).getD .skip
noncomputable def M_putNum_fi : Fi := ⟨45, 2, 24, 17⟩
theorem M_putNum_lf (m : Nat) : ∀ n, (∀ vs k, loopK CX (callK CX prims m) M_putNum_fi M_putNum_c n [0, 0, 1, 1] (fPack M_putNum_s0_0 vs) k = M_putNum_L0_0w m n vs k) ∧ (∀ vs k, loopK CX (callK CX prims m) M_putNum_fi M_putNum_c n [0, 0, 1, 1] (fPack M_putNum_s0_1 vs) k = M_putNum_L0_1w m n vs k) ∧ ((loopK CX (callK CX prims m) M_putNum_fi M_putNum_c n) = (patL [0, 0, 1, 1] M_putNum_s0_0 (M_putNum_L0_0w m n) (patL [0, 0, 1, 1] M_putNum_s0_1 (M_putNum_L0_1w m n) (loopK CX (callK CX prims m) M_putNum_fi M_putNum_c n)))) :=
 lf2 (fun n h0 h1 => by rw [← patL_eq h1, ← patL_eq h0]) (fun vs k => rfl) (fun vs k => rfl) (fun n hn vs k => (stepL_congr (M_putNum_cf m) hn [0, 0, 1, 1] _ _).trans (by kernel_rfl)) fun n hn vs k => (stepL_congr (M_putNum_cf m) hn [0, 0, 1, 1] _ _).trans (by kernel_rfl)
theorem M_putNum_eq (m : Nat) : ∀ vs k, callK CX prims m 45 (fArgs M_putNum_a vs) k = M_putNum_w m vs k := by
  cases m with
  | zero => exact fun vs k => rfl
  | succ m => exact fun vs k => Eq.trans (b := bodyK CX (callK CX prims m) (loopK CX (callK CX prims m) M_putNum_fi M_putNum_c m) 45 Tryz.f45 M_putNum_c (fArgs M_putNum_a vs) k) (by kernel_rfl) ((bodyK_congr (M_putNum_cf m) ((M_putNum_lf m m).2.2) 45 Tryz.f45 M_putNum_c (fArgs M_putNum_a vs) k).trans (by kernel_rfl))
noncomputable def M_putText : Nat → T → T → (T → An) → An
 | 0, _, _, _ => .bad
 | m + 1, x0, x1, k0 =>
  M_putNum m (T.l x0.rows) (T.i (x1.str.size : Int))
  (fun y0 => cond (decide ((y0.rows.length + (bytesRows x1.str).length) * 1 ≤ maxRow))
  (k0 (T.l (y0.rows ++ (bytesRows x1.str))))
  (.bad))
noncomputable def M_putText_a : List Arg := [.one (.own [.sc (.int .u8)] [.F] []), .one (.sc (.str) (.l []))]
noncomputable def M_putText_w (m : Nat) (vs : List T) (k : Ret → An) : An := M_putText m (vs.headD dflt) (vs.tail.headD dflt) (fun z0 => k ⟨[.one (.own [2000010] [.sc (.int .u8)] [.F] z0.rows)], [[none], [none]], [none, none]⟩)
theorem M_putText_cf (m : Nat) : callK CX prims m = (patC 45 M_putNum_a (M_putNum_w m) (callK CX prims m)) := by
  rw [← patC_eq (fun vs k => M_putNum_eq m vs k)]
noncomputable def M_putText_c : Code := (Tryz.f44.body).getD .skip
noncomputable def M_putText_fi : Fi := ⟨44, 2, 11, 17⟩
theorem M_putText_eq (m : Nat) : ∀ vs k, callK CX prims m 44 (fArgs M_putText_a vs) k = M_putText_w m vs k := by
  cases m with
  | zero => exact fun vs k => rfl
  | succ m => exact fun vs k => Eq.trans (b := bodyK CX (callK CX prims m) (loopK CX (callK CX prims m) M_putText_fi M_putText_c m) 44 Tryz.f44 M_putText_c (fArgs M_putText_a vs) k) (by kernel_rfl) ((bodyK_congr (M_putText_cf m) rfl 44 Tryz.f44 M_putText_c (fArgs M_putText_a vs) k).trans (by kernel_rfl))
noncomputable def M_putTexts_L0_0 (m : Nat) : Nat → T → T → T → T → (T → An) → An
 | 0, _, _, _, _, _ => .bad
 | n + 1, x0, x1, x2, x3, k0 =>
  cond (decide (x2.int < x1.int))
  (cond (decide ((0 : Int) ≤ x2.int ∧ x2.int < (x0.rows.length : Int)))
  (M_putText m (T.l x3.rows) ((x0.rows.getD (Int.toNat x2.int) []).getD 0 dflt)
  (fun y1 => M_putTexts_L0_0 m n x0 x1 (T.i (IntKind.i64.wrap (x2.int + 1))) (T.l y1.rows) k0))
  (.bad))
  (k0 (T.l x3.rows))
noncomputable def M_putTexts_s0_0 : Pack := ⟨[(0, .one ⟨.al [1000000, 0] 0, .sl [.sc (.int .u8)], .l []⟩), (11, .one ⟨.sn [([4000000], 0)], .sl [.sc (.str)], .l []⟩), (12, .one ⟨.sc, .sc (.int .i64), .l []⟩), (13, .one ⟨.sc, .sc (.int .i64), .l []⟩)], [([1000000, 0], .row [.sc (.int .u8)] [.F] []), ([4000000], .gone)]⟩
noncomputable def M_putTexts_e0_0 : Pack := ⟨[(0, .one ⟨.al [1000000, 0] 0, .sl [.sc (.int .u8)], .l []⟩)], [([1000000, 0], .row [.sc (.int .u8)] [.F] [])]⟩
noncomputable def M_putTexts_L0_0w (m n : Nat) (vs : List T) (k : Ctl → Pack → An) : An := M_putTexts_L0_0 m n (vs.headD dflt) (vs.tail.headD dflt) (vs.tail.tail.headD dflt) (vs.tail.tail.tail.headD dflt) (fun z0 => k (.exit 0) (fPack M_putTexts_e0_0 [z0]))
noncomputable def M_putTexts : Nat → T → T → (T → An) → An
 | 0, _, _, _ => .bad
 | m + 1, x0, x1, k0 =>
  M_putNum m (T.l x0.rows) (T.i (x1.rows.length : Int))
  (fun y0 => M_putTexts_L0_0 m m (T.l x1.rows) (T.i (x1.rows.length : Int)) (T.i 0) (T.l y0.rows)
  (fun y2 => k0 (T.l y2.rows)))
noncomputable def M_putTexts_a : List Arg := [.one (.own [.sc (.int .u8)] [.F] []), .one (.dz [.sc (.str)] [])]
noncomputable def M_putTexts_w (m : Nat) (vs : List T) (k : Ret → An) : An := M_putTexts m (vs.headD dflt) (vs.tail.headD dflt) (fun z0 => k ⟨[.one (.own [1000000, 0] [.sc (.int .u8)] [.F] z0.rows)], [[none], [none]], [none, none]⟩)
theorem M_putTexts_cf (m : Nat) : callK CX prims m = (patC 45 M_putNum_a (M_putNum_w m) (patC 44 M_putText_a (M_putText_w m) (callK CX prims m))) := by
  rw [← patC_eq (fun vs k => M_putText_eq m vs k), ← patC_eq (fun vs k => M_putNum_eq m vs k)]
noncomputable def M_putTexts_c : Code := (Tryz.f43.body).getD .skip
noncomputable def M_putTexts_fi : Fi := ⟨43, 2, 22, 17⟩
theorem M_putTexts_lf (m : Nat) : ∀ n, (∀ vs k, loopK CX (callK CX prims m) M_putTexts_fi M_putTexts_c n [0, 1, 0, 1, 1] (fPack M_putTexts_s0_0 vs) k = M_putTexts_L0_0w m n vs k) ∧ ((loopK CX (callK CX prims m) M_putTexts_fi M_putTexts_c n) = (patL [0, 1, 0, 1, 1] M_putTexts_s0_0 (M_putTexts_L0_0w m n) (loopK CX (callK CX prims m) M_putTexts_fi M_putTexts_c n))) :=
 lf1 (fun n h0 => by rw [← patL_eq h0]) (fun vs k => rfl) fun n hn vs k => (stepL_congr (M_putTexts_cf m) hn [0, 1, 0, 1, 1] _ _).trans (by kernel_rfl)
theorem M_putTexts_eq (m : Nat) : ∀ vs k, callK CX prims m 43 (fArgs M_putTexts_a vs) k = M_putTexts_w m vs k := by
  cases m with
  | zero => exact fun vs k => rfl
  | succ m => exact fun vs k => Eq.trans (b := bodyK CX (callK CX prims m) (loopK CX (callK CX prims m) M_putTexts_fi M_putTexts_c m) 43 Tryz.f43 M_putTexts_c (fArgs M_putTexts_a vs) k) (by kernel_rfl) ((bodyK_congr (M_putTexts_cf m) ((M_putTexts_lf m m).2) 43 Tryz.f43 M_putTexts_c (fArgs M_putTexts_a vs) k).trans (by kernel_rfl))
noncomputable def M_SuperOf : Nat → T → T → T → (T → An) → An
 | 0, _, _, _, _ => .bad
 | m + 1, x0, x1, x2, k0 =>
  M_putNum m (T.l [[(T.i 3)]]) x0
  (fun y0 => M_putText m (T.l y0.rows) x1
  (fun y1 => M_putTexts m (T.l y1.rows) (T.l x2.rows)
  (fun y2 => M_Digest m (T.l y2.rows)
  (fun y3 => k0 y3))))
noncomputable def M_SuperOf_a : List Arg := [.one (.sc (.int .i64) (.l [])), .one (.sc (.str) (.l [])), .one (.dz [.sc (.str)] [])]
noncomputable def M_SuperOf_w (m : Nat) (vs : List T) (k : Ret → An) : An := M_SuperOf m (vs.headD dflt) (vs.tail.headD dflt) (vs.tail.tail.headD dflt) (fun z0 => k ⟨[.one (.sc (.str) z0)], [[none], [none], [none]], [none, none, none]⟩)
theorem M_SuperOf_cf (m : Nat) : callK CX prims m = (patC 45 M_putNum_a (M_putNum_w m) (patC 44 M_putText_a (M_putText_w m) (patC 43 M_putTexts_a (M_putTexts_w m) (patC 42 M_Digest_a (M_Digest_w m) (callK CX prims m))))) := by
  rw [← patC_eq (fun vs k => M_Digest_eq m vs k), ← patC_eq (fun vs k => M_putTexts_eq m vs k), ← patC_eq (fun vs k => M_putText_eq m vs k), ← patC_eq (fun vs k => M_putNum_eq m vs k)]
noncomputable def M_SuperOf_c : Code := (Tryz.f22.body).getD .skip
noncomputable def M_SuperOf_fi : Fi := ⟨22, 3, 15, 64⟩
theorem M_SuperOf_eq (m : Nat) : ∀ vs k, callK CX prims m 22 (fArgs M_SuperOf_a vs) k = M_SuperOf_w m vs k := by
  cases m with
  | zero => exact fun vs k => rfl
  | succ m => exact fun vs k => Eq.trans (b := bodyK CX (callK CX prims m) (loopK CX (callK CX prims m) M_SuperOf_fi M_SuperOf_c m) 22 Tryz.f22 M_SuperOf_c (fArgs M_SuperOf_a vs) k) (by kernel_rfl) ((bodyK_congr (M_SuperOf_cf m) rfl 22 Tryz.f22 M_SuperOf_c (fArgs M_SuperOf_a vs) k).trans (by kernel_rfl))
noncomputable def M_inRange : Nat → T → T → T → (T → An) → An
 | 0, _, _, _, _ => .bad
 | m + 1, x0, x1, x2, k0 =>
  cond ((decide (x0.int ≥ x1.int)) == true)
  (k0 (T.b (decide (x0.int ≤ x2.int))))
  (k0 (T.b false))
noncomputable def M_inRange_a : List Arg := [.one (.sc (.int .i64) (.l [])), .one (.sc (.int .i64) (.l [])), .one (.sc (.int .i64) (.l []))]
noncomputable def M_inRange_w (m : Nat) (vs : List T) (k : Ret → An) : An := M_inRange m (vs.headD dflt) (vs.tail.headD dflt) (vs.tail.tail.headD dflt) (fun z0 => k ⟨[.one (.sc (.bool) z0)], [[none], [none], [none]], [none, none, none]⟩)
theorem M_inRange_cf (m : Nat) : callK CX prims m = (callK CX prims m) := by
  rfl
noncomputable def M_inRange_c : Code := (Tryz.f23.body).getD .skip
noncomputable def M_inRange_fi : Fi := ⟨23, 3, 15, 64⟩
theorem M_inRange_eq (m : Nat) : ∀ vs k, callK CX prims m 23 (fArgs M_inRange_a vs) k = M_inRange_w m vs k := by
  cases m with
  | zero => exact fun vs k => rfl
  | succ m => exact fun vs k => Eq.trans (b := bodyK CX (callK CX prims m) (loopK CX (callK CX prims m) M_inRange_fi M_inRange_c m) 23 Tryz.f23 M_inRange_c (fArgs M_inRange_a vs) k) (by kernel_rfl) ((bodyK_congr (M_inRange_cf m) rfl 23 Tryz.f23 M_inRange_c (fArgs M_inRange_a vs) k).trans (by kernel_rfl))
noncomputable def M_half_L0_0 (m : Nat) : Nat → T → T → (T → An) → An
 | 0, _, _, _ => .bad
 | n + 1, x0, x1, k0 =>
  cond (decide ((IntKind.i64.wrap (2 * x1.int)) < x0.int))
  (M_half_L0_0 m n x0 (T.i (IntKind.i64.wrap (x1.int * 2))) k0)
  (k0 x1)
noncomputable def M_half_s0_0 : Pack := ⟨[(0, .one ⟨.sc, .sc (.int .i64), .l []⟩), (3, .one ⟨.sc, .sc (.int .i64), .l []⟩)], []⟩
noncomputable def M_half_e0_0 : Pack := ⟨[(3, .one ⟨.sc, .sc (.int .i64), .l []⟩)], []⟩
noncomputable def M_half_L0_0w (m n : Nat) (vs : List T) (k : Ctl → Pack → An) : An := M_half_L0_0 m n (vs.headD dflt) (vs.tail.headD dflt) (fun z0 => k (.exit 0) (fPack M_half_e0_0 [z0]))
noncomputable def M_half : Nat → T → (T → An) → An
 | 0, _, _ => .bad
 | m + 1, x0, k0 =>
  M_half_L0_0 m m x0 (T.i 1)
  (fun y0 => k0 y0)
noncomputable def M_half_a : List Arg := [.one (.sc (.int .i64) (.l []))]
noncomputable def M_half_w (m : Nat) (vs : List T) (k : Ret → An) : An := M_half m (vs.headD dflt) (fun z0 => k ⟨[.one (.sc (.int .i64) z0)], [[none]], [none]⟩)
theorem M_half_cf (m : Nat) : callK CX prims m = (callK CX prims m) := by
  rfl
noncomputable def M_half_c : Code := (Tryz.f95.body).getD .skip
noncomputable def M_half_fi : Fi := ⟨95, 1, 11, 4⟩
theorem M_half_lf (m : Nat) : ∀ n, (∀ vs k, loopK CX (callK CX prims m) M_half_fi M_half_c n [0, 0, 1, 1] (fPack M_half_s0_0 vs) k = M_half_L0_0w m n vs k) ∧ ((loopK CX (callK CX prims m) M_half_fi M_half_c n) = (patL [0, 0, 1, 1] M_half_s0_0 (M_half_L0_0w m n) (loopK CX (callK CX prims m) M_half_fi M_half_c n))) :=
 lf1 (fun n h0 => by rw [← patL_eq h0]) (fun vs k => rfl) fun n hn vs k => (stepL_congr (M_half_cf m) hn [0, 0, 1, 1] _ _).trans (by kernel_rfl)
theorem M_half_eq (m : Nat) : ∀ vs k, callK CX prims m 95 (fArgs M_half_a vs) k = M_half_w m vs k := by
  cases m with
  | zero => exact fun vs k => rfl
  | succ m => exact fun vs k => Eq.trans (b := bodyK CX (callK CX prims m) (loopK CX (callK CX prims m) M_half_fi M_half_c m) 95 Tryz.f95 M_half_c (fArgs M_half_a vs) k) (by kernel_rfl) ((bodyK_congr (M_half_cf m) ((M_half_lf m m).2) 95 Tryz.f95 M_half_c (fArgs M_half_a vs) k).trans (by kernel_rfl))
noncomputable def M_innerOf : Nat → T → (T → An) → An
 | 0, _, _ => .bad
 | m + 1, x0, k0 =>
  cond ((x0.rows.length : Int) == 0)
  (M_Digest_nil m (T.l [])
  (fun y0 => k0 y0))
  (cond ((x0.rows.length : Int) == 1)
  (.bad)
  (M_half m (T.i (x0.rows.length : Int))
  (fun y1 => .bad)))
noncomputable def M_innerOf_a : List Arg := [.one (.dz [] [])]
noncomputable def M_innerOf_w (m : Nat) (vs : List T) (k : Ret → An) : An := M_innerOf m (vs.headD dflt) (fun z0 => k ⟨[.one (.sc (.str) z0)], [[none]], [none]⟩)
theorem M_innerOf_cf (m : Nat) : callK CX prims m = (patC 42 M_Digest_nil_a (M_Digest_nil_w m) (patC 95 M_half_a (M_half_w m) (callK CX prims m))) := by
  rw [← patC_eq (fun vs k => M_half_eq m vs k), ← patC_eq (fun vs k => M_Digest_nil_eq m vs k)]
noncomputable def M_innerOf_c : Code := (Tryz.f72.body).getD .skip
noncomputable def M_innerOf_fi : Fi := ⟨72, 1, 27, 4⟩
theorem M_innerOf_eq (m : Nat) : ∀ vs k, callK CX prims m 72 (fArgs M_innerOf_a vs) k = M_innerOf_w m vs k := by
  cases m with
  | zero => exact fun vs k => rfl
  | succ m => exact fun vs k => Eq.trans (b := bodyK CX (callK CX prims m) (loopK CX (callK CX prims m) M_innerOf_fi M_innerOf_c m) 72 Tryz.f72 M_innerOf_c (fArgs M_innerOf_a vs) k) (by kernel_rfl) ((bodyK_congr (M_innerOf_cf m) rfl 72 Tryz.f72 M_innerOf_c (fArgs M_innerOf_a vs) k).trans (by kernel_rfl))
noncomputable def M_rootBytes : Nat → T → T → (T → An) → An
 | 0, _, _, _ => .bad
 | m + 1, x0, x1, k0 =>
  M_putNum m (T.l [[(T.i 2)]]) x0
  (fun y0 => cond (decide ((y0.rows.length + (bytesRows x1.str).length) * 1 ≤ maxRow))
  (k0 (T.l (y0.rows ++ (bytesRows x1.str))))
  (.bad))
noncomputable def M_rootBytes_a : List Arg := [.one (.sc (.int .i64) (.l [])), .one (.sc (.str) (.l []))]
noncomputable def M_rootBytes_w (m : Nat) (vs : List T) (k : Ret → An) : An := M_rootBytes m (vs.headD dflt) (vs.tail.headD dflt) (fun z0 => k ⟨[.one (.own [2000009] [.sc (.int .u8)] [.F] z0.rows)], [[none], [none]], [none, none]⟩)
theorem M_rootBytes_cf (m : Nat) : callK CX prims m = (patC 45 M_putNum_a (M_putNum_w m) (callK CX prims m)) := by
  rw [← patC_eq (fun vs k => M_putNum_eq m vs k)]
noncomputable def M_rootBytes_c : Code := (Tryz.f71.body).getD .skip
noncomputable def M_rootBytes_fi : Fi := ⟨71, 2, 10, 16⟩
theorem M_rootBytes_eq (m : Nat) : ∀ vs k, callK CX prims m 71 (fArgs M_rootBytes_a vs) k = M_rootBytes_w m vs k := by
  cases m with
  | zero => exact fun vs k => rfl
  | succ m => exact fun vs k => Eq.trans (b := bodyK CX (callK CX prims m) (loopK CX (callK CX prims m) M_rootBytes_fi M_rootBytes_c m) 71 Tryz.f71 M_rootBytes_c (fArgs M_rootBytes_a vs) k) (by kernel_rfl) ((bodyK_congr (M_rootBytes_cf m) rfl 71 Tryz.f71 M_rootBytes_c (fArgs M_rootBytes_a vs) k).trans (by kernel_rfl))
noncomputable def M_rootOf : Nat → T → (T → An) → An
 | 0, _, _ => .bad
 | m + 1, x0, k0 =>
  M_innerOf m (T.l x0.rows)
  (fun y0 => M_rootBytes m (T.i (x0.rows.length : Int)) y0
  (fun y1 => M_Digest m (T.l y1.rows)
  (fun y2 => k0 y2)))
noncomputable def M_rootOf_a : List Arg := [.one (.dz [] [])]
noncomputable def M_rootOf_w (m : Nat) (vs : List T) (k : Ret → An) : An := M_rootOf m (vs.headD dflt) (fun z0 => k ⟨[.one (.sc (.str) z0)], [[none]], [none]⟩)
theorem M_rootOf_cf (m : Nat) : callK CX prims m = (patC 72 M_innerOf_a (M_innerOf_w m) (patC 71 M_rootBytes_a (M_rootBytes_w m) (patC 42 M_Digest_a (M_Digest_w m) (callK CX prims m)))) := by
  rw [← patC_eq (fun vs k => M_Digest_eq m vs k), ← patC_eq (fun vs k => M_rootBytes_eq m vs k), ← patC_eq (fun vs k => M_innerOf_eq m vs k)]
noncomputable def M_rootOf_c : Code := (Tryz.f46.body).getD .skip
noncomputable def M_rootOf_fi : Fi := ⟨46, 1, 9, 4⟩
theorem M_rootOf_eq (m : Nat) : ∀ vs k, callK CX prims m 46 (fArgs M_rootOf_a vs) k = M_rootOf_w m vs k := by
  cases m with
  | zero => exact fun vs k => rfl
  | succ m => exact fun vs k => Eq.trans (b := bodyK CX (callK CX prims m) (loopK CX (callK CX prims m) M_rootOf_fi M_rootOf_c m) 46 Tryz.f46 M_rootOf_c (fArgs M_rootOf_a vs) k) (by kernel_rfl) ((bodyK_congr (M_rootOf_cf m) rfl 46 Tryz.f46 M_rootOf_c (fArgs M_rootOf_a vs) k).trans (by kernel_rfl))
noncomputable def M_isKeyByte : Nat → T → (T → An) → An
 | 0, _, _ => .bad
 | m + 1, x0, k0 =>
  cond ((decide (x0.int ≥ 97)) == true)
  (cond ((decide (x0.int ≤ 122)) == false)
  (cond ((decide (x0.int ≥ 48)) == true)
  (k0 (T.b (decide (x0.int ≤ 57))))
  (k0 (T.b false)))
  (k0 (T.b true)))
  (cond ((decide (x0.int ≥ 48)) == true)
  (k0 (T.b (decide (x0.int ≤ 57))))
  (k0 (T.b false)))
noncomputable def M_isKeyByte_a : List Arg := [.one (.sc (.int .u8) (.l []))]
noncomputable def M_isKeyByte_w (m : Nat) (vs : List T) (k : Ret → An) : An := M_isKeyByte m (vs.headD dflt) (fun z0 => k ⟨[.one (.sc (.bool) z0)], [[none]], [none]⟩)
theorem M_isKeyByte_cf (m : Nat) : callK CX prims m = (callK CX prims m) := by
  rfl
noncomputable def M_isKeyByte_c : Code := (Tryz.f114.body).getD .skip
noncomputable def M_isKeyByte_fi : Fi := ⟨114, 1, 17, 4⟩
theorem M_isKeyByte_eq (m : Nat) : ∀ vs k, callK CX prims m 114 (fArgs M_isKeyByte_a vs) k = M_isKeyByte_w m vs k := by
  cases m with
  | zero => exact fun vs k => rfl
  | succ m => exact fun vs k => Eq.trans (b := bodyK CX (callK CX prims m) (loopK CX (callK CX prims m) M_isKeyByte_fi M_isKeyByte_c m) 114 Tryz.f114 M_isKeyByte_c (fArgs M_isKeyByte_a vs) k) (by kernel_rfl) ((bodyK_congr (M_isKeyByte_cf m) rfl 114 Tryz.f114 M_isKeyByte_c (fArgs M_isKeyByte_a vs) k).trans (by kernel_rfl))
noncomputable def M_isWord_L0_0 (m : Nat) : Nat → T → T → (T → An) → An → An
 | 0, _, _, _, _ => .bad
 | n + 1, x0, x1, k0, k1 =>
  cond (decide (x1.int < (x0.str.size : Int)))
  (cond (decide ((0 : Int) ≤ x1.int ∧ x1.int < (x0.str.size : Int)))
  (M_isKeyByte m (T.i ((x0.str.data.toList.getD (Int.toNat x1.int) 0).toNat : Int))
  (fun y0 => cond (!y0.bool)
  (k0 (T.b false))
  (M_isWord_L0_0 m n x0 (T.i (IntKind.i64.wrap (x1.int + 1))) k0 k1)))
  (.bad))
  (k1 )
noncomputable def M_isWord_s0_0 : Pack := ⟨[(0, .one ⟨.sc, .sc (.str), .l []⟩), (3, .one ⟨.sc, .sc (.int .i64), .l []⟩)], []⟩
noncomputable def M_isWord_e0_0 : Pack := ⟨[(2, .one ⟨.sc, .sc (.bool), .l []⟩)], []⟩
noncomputable def M_isWord_e0_1 : Pack := ⟨[], []⟩
noncomputable def M_isWord_L0_0w (m n : Nat) (vs : List T) (k : Ctl → Pack → An) : An := M_isWord_L0_0 m n (vs.headD dflt) (vs.tail.headD dflt) (fun z0 => k .ret (fPack M_isWord_e0_0 [z0])) (k (.exit 0) (fPack M_isWord_e0_1 []))
noncomputable def M_isWord : Nat → T → (T → An) → An
 | 0, _, _ => .bad
 | m + 1, x0, k0 =>
  M_isWord_L0_0 m m x0 (T.i 0)
  (fun y1 => k0 y1)
  (k0 (T.b true))
noncomputable def M_isWord_a : List Arg := [.one (.sc (.str) (.l []))]
noncomputable def M_isWord_w (m : Nat) (vs : List T) (k : Ret → An) : An := M_isWord m (vs.headD dflt) (fun z0 => k ⟨[.one (.sc (.bool) z0)], [[none]], [none]⟩)
theorem M_isWord_cf (m : Nat) : callK CX prims m = (patC 114 M_isKeyByte_a (M_isKeyByte_w m) (callK CX prims m)) := by
  rw [← patC_eq (fun vs k => M_isKeyByte_eq m vs k)]
noncomputable def M_isWord_c : Code := (Tryz.f111.body).getD .skip
noncomputable def M_isWord_fi : Fi := ⟨111, 1, 15, 4⟩
theorem M_isWord_lf (m : Nat) : ∀ n, (∀ vs k, loopK CX (callK CX prims m) M_isWord_fi M_isWord_c n [0, 1, 0, 1] (fPack M_isWord_s0_0 vs) k = M_isWord_L0_0w m n vs k) ∧ ((loopK CX (callK CX prims m) M_isWord_fi M_isWord_c n) = (patL [0, 1, 0, 1] M_isWord_s0_0 (M_isWord_L0_0w m n) (loopK CX (callK CX prims m) M_isWord_fi M_isWord_c n))) :=
 lf1 (fun n h0 => by rw [← patL_eq h0]) (fun vs k => rfl) fun n hn vs k => (stepL_congr (M_isWord_cf m) hn [0, 1, 0, 1] _ _).trans (by kernel_rfl)
theorem M_isWord_eq (m : Nat) : ∀ vs k, callK CX prims m 111 (fArgs M_isWord_a vs) k = M_isWord_w m vs k := by
  cases m with
  | zero => exact fun vs k => rfl
  | succ m => exact fun vs k => Eq.trans (b := bodyK CX (callK CX prims m) (loopK CX (callK CX prims m) M_isWord_fi M_isWord_c m) 111 Tryz.f111 M_isWord_c (fArgs M_isWord_a vs) k) (by kernel_rfl) ((bodyK_congr (M_isWord_cf m) ((M_isWord_lf m m).2) 111 Tryz.f111 M_isWord_c (fArgs M_isWord_a vs) k).trans (by kernel_rfl))
noncomputable def M_KeyOk : Nat → T → (T → An) → An
 | 0, _, _ => .bad
 | m + 1, x0, k0 =>
  M_inRange m (T.i (x0.str.size : Int)) (T.i 1) (T.i 12)
  (fun y0 => cond (y0.bool == true)
  (M_isWord m x0
  (fun y1 => k0 y1))
  (k0 (T.b false)))
noncomputable def M_KeyOk_a : List Arg := [.one (.sc (.str) (.l []))]
noncomputable def M_KeyOk_w (m : Nat) (vs : List T) (k : Ret → An) : An := M_KeyOk m (vs.headD dflt) (fun z0 => k ⟨[.one (.sc (.bool) z0)], [[none]], [none]⟩)
theorem M_KeyOk_cf (m : Nat) : callK CX prims m = (patC 23 M_inRange_a (M_inRange_w m) (patC 111 M_isWord_a (M_isWord_w m) (callK CX prims m))) := by
  rw [← patC_eq (fun vs k => M_isWord_eq m vs k), ← patC_eq (fun vs k => M_inRange_eq m vs k)]
noncomputable def M_KeyOk_c : Code := (Tryz.f97.body).getD .skip
noncomputable def M_KeyOk_fi : Fi := ⟨97, 1, 10, 4⟩
theorem M_KeyOk_eq (m : Nat) : ∀ vs k, callK CX prims m 97 (fArgs M_KeyOk_a vs) k = M_KeyOk_w m vs k := by
  cases m with
  | zero => exact fun vs k => rfl
  | succ m => exact fun vs k => Eq.trans (b := bodyK CX (callK CX prims m) (loopK CX (callK CX prims m) M_KeyOk_fi M_KeyOk_c m) 97 Tryz.f97 M_KeyOk_c (fArgs M_KeyOk_a vs) k) (by kernel_rfl) ((bodyK_congr (M_KeyOk_cf m) rfl 97 Tryz.f97 M_KeyOk_c (fArgs M_KeyOk_a vs) k).trans (by kernel_rfl))
noncomputable def M_PairOk : Nat → T → T → (T → An) → An
 | 0, _, _, _ => .bad
 | m + 1, x0, x1, k0 =>
  M_KeyOk m x0
  (fun y0 => cond (y0.bool == true)
  (k0 (T.b (decide ((x1.str.size : Int) ≤ 20))))
  (k0 (T.b false)))
noncomputable def M_PairOk_a : List Arg := [.agg [.sc (.str) (.l []), .sc (.str) (.l [])]]
noncomputable def M_PairOk_w (m : Nat) (vs : List T) (k : Ret → An) : An := M_PairOk m (vs.headD dflt) (vs.tail.headD dflt) (fun z0 => k ⟨[.one (.sc (.bool) z0)], [[none, none]], [none]⟩)
theorem M_PairOk_cf (m : Nat) : callK CX prims m = (patC 97 M_KeyOk_a (M_KeyOk_w m) (callK CX prims m)) := by
  rw [← patC_eq (fun vs k => M_KeyOk_eq m vs k)]
noncomputable def M_PairOk_c : Code := (Tryz.f73.body).getD .skip
noncomputable def M_PairOk_fi : Fi := ⟨73, 1, 12, 4⟩
theorem M_PairOk_eq (m : Nat) : ∀ vs k, callK CX prims m 73 (fArgs M_PairOk_a vs) k = M_PairOk_w m vs k := by
  cases m with
  | zero => exact fun vs k => rfl
  | succ m => exact fun vs k => Eq.trans (b := bodyK CX (callK CX prims m) (loopK CX (callK CX prims m) M_PairOk_fi M_PairOk_c m) 73 Tryz.f73 M_PairOk_c (fArgs M_PairOk_a vs) k) (by kernel_rfl) ((bodyK_congr (M_PairOk_cf m) rfl 73 Tryz.f73 M_PairOk_c (fArgs M_PairOk_a vs) k).trans (by kernel_rfl))
noncomputable def M_isPlace : Nat → T → T → (T → An) → An
 | 0, _, _, _ => .bad
 | m + 1, x0, x1, k0 =>
  M_inRange m x1 (T.i 1) (T.i 60)
  (fun y0 => cond (y0.bool == true)
  (M_inRange m x0 (T.i 0) (T.i (IntKind.i64.wrap (x1.int - 1)))
  (fun y1 => k0 y1))
  (k0 (T.b false)))
noncomputable def M_isPlace_a : List Arg := [.one (.sc (.int .i64) (.l [])), .one (.sc (.int .i64) (.l []))]
noncomputable def M_isPlace_w (m : Nat) (vs : List T) (k : Ret → An) : An := M_isPlace m (vs.headD dflt) (vs.tail.headD dflt) (fun z0 => k ⟨[.one (.sc (.bool) z0)], [[none], [none]], [none, none]⟩)
theorem M_isPlace_cf (m : Nat) : callK CX prims m = (patC 23 M_inRange_a (M_inRange_w m) (callK CX prims m)) := by
  rw [← patC_eq (fun vs k => M_inRange_eq m vs k)]
noncomputable def M_isPlace_c : Code := (Tryz.f98.body).getD .skip
noncomputable def M_isPlace_fi : Fi := ⟨98, 2, 13, 16⟩
theorem M_isPlace_eq (m : Nat) : ∀ vs k, callK CX prims m 98 (fArgs M_isPlace_a vs) k = M_isPlace_w m vs k := by
  cases m with
  | zero => exact fun vs k => rfl
  | succ m => exact fun vs k => Eq.trans (b := bodyK CX (callK CX prims m) (loopK CX (callK CX prims m) M_isPlace_fi M_isPlace_c m) 98 Tryz.f98 M_isPlace_c (fArgs M_isPlace_a vs) k) (by kernel_rfl) ((bodyK_congr (M_isPlace_cf m) rfl 98 Tryz.f98 M_isPlace_c (fArgs M_isPlace_a vs) k).trans (by kernel_rfl))
noncomputable def M_leafBytes : Nat → T → T → (T → An) → An
 | 0, _, _, _ => .bad
 | m + 1, x0, x1, k0 =>
  M_putText m (T.l [[(T.i 0)]]) x0
  (fun y0 => M_putText m (T.l y0.rows) x1
  (fun y1 => k0 (T.l y1.rows)))
noncomputable def M_leafBytes_a : List Arg := [.agg [.sc (.str) (.l []), .sc (.str) (.l [])]]
noncomputable def M_leafBytes_w (m : Nat) (vs : List T) (k : Ret → An) : An := M_leafBytes m (vs.headD dflt) (vs.tail.headD dflt) (fun z0 => k ⟨[.one (.own [2000009, 0, 0] [.sc (.int .u8)] [.F] z0.rows)], [[none, none]], [none]⟩)
theorem M_leafBytes_cf (m : Nat) : callK CX prims m = (patC 44 M_putText_a (M_putText_w m) (callK CX prims m)) := by
  rw [← patC_eq (fun vs k => M_putText_eq m vs k)]
noncomputable def M_leafBytes_c : Code := (Tryz.f109.body).getD .skip
noncomputable def M_leafBytes_fi : Fi := ⟨109, 1, 10, 4⟩
theorem M_leafBytes_eq (m : Nat) : ∀ vs k, callK CX prims m 109 (fArgs M_leafBytes_a vs) k = M_leafBytes_w m vs k := by
  cases m with
  | zero => exact fun vs k => rfl
  | succ m => exact fun vs k => Eq.trans (b := bodyK CX (callK CX prims m) (loopK CX (callK CX prims m) M_leafBytes_fi M_leafBytes_c m) 109 Tryz.f109 M_leafBytes_c (fArgs M_leafBytes_a vs) k) (by kernel_rfl) ((bodyK_congr (M_leafBytes_cf m) rfl 109 Tryz.f109 M_leafBytes_c (fArgs M_leafBytes_a vs) k).trans (by kernel_rfl))
noncomputable def M_nodeBytes : Nat → T → T → (T → An) → An
 | 0, _, _, _ => .bad
 | m + 1, x0, x1, k0 =>
  cond (decide ((1 + (bytesRows x0.str).length) * 1 ≤ maxRow))
  (cond (decide ((([[(T.i 1)]] ++ (bytesRows x0.str)).length + (bytesRows x1.str).length) * 1 ≤ maxRow))
  (k0 (T.l (([[(T.i 1)]] ++ (bytesRows x0.str)) ++ (bytesRows x1.str))))
  (.bad))
  (.bad)
noncomputable def M_nodeBytes_a : List Arg := [.one (.sc (.str) (.l [])), .one (.sc (.str) (.l []))]
noncomputable def M_nodeBytes_w (m : Nat) (vs : List T) (k : Ret → An) : An := M_nodeBytes m (vs.headD dflt) (vs.tail.headD dflt) (fun z0 => k ⟨[.one (.own [2000009] [.sc (.int .u8)] [.F] z0.rows)], [[none], [none]], [none, none]⟩)
theorem M_nodeBytes_cf (m : Nat) : callK CX prims m = (callK CX prims m) := by
  rfl
noncomputable def M_nodeBytes_c : Code := (Tryz.f110.body).getD .skip
noncomputable def M_nodeBytes_fi : Fi := ⟨110, 2, 10, 16⟩
theorem M_nodeBytes_eq (m : Nat) : ∀ vs k, callK CX prims m 110 (fArgs M_nodeBytes_a vs) k = M_nodeBytes_w m vs k := by
  cases m with
  | zero => exact fun vs k => rfl
  | succ m => exact fun vs k => Eq.trans (b := bodyK CX (callK CX prims m) (loopK CX (callK CX prims m) M_nodeBytes_fi M_nodeBytes_c m) 110 Tryz.f110 M_nodeBytes_c (fArgs M_nodeBytes_a vs) k) (by kernel_rfl) ((bodyK_congr (M_nodeBytes_cf m) rfl 110 Tryz.f110 M_nodeBytes_c (fArgs M_nodeBytes_a vs) k).trans (by kernel_rfl))
noncomputable def M_climb : Nat → T → T → T → T → T → (T → T → An) → (T → T → An) → (T → T → An) → (T → T → An) → An
 | 0, _, _, _, _, _, _, _, _, _ => .bad
 | m + 1, x0, x1, x2, x3, x4, k0, k1, k2, k3 =>
  cond (x3.int == 1)
  (M_leafBytes m x0 x1
  (fun y0 => k0 (T.l [[(T.l y0.rows)]]) (T.b ((x4.rows.length : Int) == 0))))
  (cond (decide ((IntKind.i64.wrap ((x4.rows.length : Int) - 1)) < 0))
  (k1 (T.l []) (T.b false))
  (M_half m x3
  (fun y1 => cond (decide (x2.int ≥ y1.int))
  (cond (decide ((0 : Int) ≤ (IntKind.i64.wrap ((x4.rows.length : Int) - 1)) ∧ (IntKind.i64.wrap ((x4.rows.length : Int) - 1)) ≤ (x4.rows.length : Int)))
  (cond (decide ((0 : Int) ≤ 0 ∧ 0 ≤ (IntKind.i64.wrap ((x4.rows.length : Int) - 1))))
  (M_climb m x0 x1 (T.i (IntKind.i64.wrap (x2.int - y1.int))) (T.i (IntKind.i64.wrap (x3.int - y1.int))) (T.l (x4.rows.take (Int.toNat (IntKind.i64.wrap ((x4.rows.length : Int) - 1)))))
  (fun y2 y3 => cond (!y3.bool)
  (k1 (T.l []) (T.b false))
  (cond (decide ((0 : Int) ≤ (IntKind.i64.wrap ((y2.rows.length : Int) - 1)) ∧ (IntKind.i64.wrap ((y2.rows.length : Int) - 1)) < (y2.rows.length : Int)))
  (cond (decide ((Int.toNat (IntKind.i64.wrap ((y2.rows.length : Int) - 1))) < y2.rows.length))
  (M_Digest m (T.l ((y2.rows.getD (Int.toNat (IntKind.i64.wrap ((y2.rows.length : Int) - 1))) []).getD 0 dflt).rows)
  (fun y4 => cond (decide (x2.int ≥ y1.int))
  (cond (decide ((0 : Int) ≤ (IntKind.i64.wrap ((x4.rows.length : Int) - 1)) ∧ (IntKind.i64.wrap ((x4.rows.length : Int) - 1)) < (x4.rows.length : Int)))
  (M_nodeBytes m ((x4.rows.getD (Int.toNat (IntKind.i64.wrap ((x4.rows.length : Int) - 1))) []).getD 0 dflt) y4
  (fun y5 => cond (decide ((y2.rows.length + 1) * 1 ≤ maxRow))
  (k2 (T.l (y2.rows ++ [[(T.l y5.rows)]])) (T.b true))
  (.bad)))
  (.bad))
  (cond (decide ((0 : Int) ≤ (IntKind.i64.wrap ((x4.rows.length : Int) - 1)) ∧ (IntKind.i64.wrap ((x4.rows.length : Int) - 1)) < (x4.rows.length : Int)))
  (M_nodeBytes m y4 ((x4.rows.getD (Int.toNat (IntKind.i64.wrap ((x4.rows.length : Int) - 1))) []).getD 0 dflt)
  (fun y6 => cond (decide ((y2.rows.length + 1) * 1 ≤ maxRow))
  (k3 (T.l (y2.rows ++ [[(T.l y6.rows)]])) (T.b true))
  (.bad)))
  (.bad))))
  (.bad))
  (.bad)))
  (fun y7 y8 => cond (!y8.bool)
  (k1 (T.l []) (T.b false))
  (cond (decide ((0 : Int) ≤ (IntKind.i64.wrap ((y7.rows.length : Int) - 1)) ∧ (IntKind.i64.wrap ((y7.rows.length : Int) - 1)) < (y7.rows.length : Int)))
  (cond (decide ((Int.toNat (IntKind.i64.wrap ((y7.rows.length : Int) - 1))) < y7.rows.length))
  (M_Digest m (T.l ((y7.rows.getD (Int.toNat (IntKind.i64.wrap ((y7.rows.length : Int) - 1))) []).getD 0 dflt).rows)
  (fun y9 => cond (decide (x2.int ≥ y1.int))
  (cond (decide ((0 : Int) ≤ (IntKind.i64.wrap ((x4.rows.length : Int) - 1)) ∧ (IntKind.i64.wrap ((x4.rows.length : Int) - 1)) < (x4.rows.length : Int)))
  (M_nodeBytes m ((x4.rows.getD (Int.toNat (IntKind.i64.wrap ((x4.rows.length : Int) - 1))) []).getD 0 dflt) y9
  (fun y10 => cond (decide ((y7.rows.length + 1) * 1 ≤ maxRow))
  (k2 (T.l (y7.rows ++ [[(T.l y10.rows)]])) (T.b true))
  (.bad)))
  (.bad))
  (cond (decide ((0 : Int) ≤ (IntKind.i64.wrap ((x4.rows.length : Int) - 1)) ∧ (IntKind.i64.wrap ((x4.rows.length : Int) - 1)) < (x4.rows.length : Int)))
  (M_nodeBytes m y9 ((x4.rows.getD (Int.toNat (IntKind.i64.wrap ((x4.rows.length : Int) - 1))) []).getD 0 dflt)
  (fun y11 => cond (decide ((y7.rows.length + 1) * 1 ≤ maxRow))
  (k3 (T.l (y7.rows ++ [[(T.l y11.rows)]])) (T.b true))
  (.bad)))
  (.bad))))
  (.bad))
  (.bad)))
  (fun y12 y13 => cond (!y13.bool)
  (k1 (T.l []) (T.b false))
  (cond (decide ((0 : Int) ≤ (IntKind.i64.wrap ((y12.rows.length : Int) - 1)) ∧ (IntKind.i64.wrap ((y12.rows.length : Int) - 1)) < (y12.rows.length : Int)))
  (cond (decide ((Int.toNat (IntKind.i64.wrap ((y12.rows.length : Int) - 1))) < y12.rows.length))
  (M_Digest m (T.l ((y12.rows.getD (Int.toNat (IntKind.i64.wrap ((y12.rows.length : Int) - 1))) []).getD 0 dflt).rows)
  (fun y14 => cond (decide (x2.int ≥ y1.int))
  (cond (decide ((0 : Int) ≤ (IntKind.i64.wrap ((x4.rows.length : Int) - 1)) ∧ (IntKind.i64.wrap ((x4.rows.length : Int) - 1)) < (x4.rows.length : Int)))
  (M_nodeBytes m ((x4.rows.getD (Int.toNat (IntKind.i64.wrap ((x4.rows.length : Int) - 1))) []).getD 0 dflt) y14
  (fun y15 => cond (decide ((y12.rows.length + 1) * 1 ≤ maxRow))
  (k2 (T.l (y12.rows ++ [[(T.l y15.rows)]])) (T.b true))
  (.bad)))
  (.bad))
  (cond (decide ((0 : Int) ≤ (IntKind.i64.wrap ((x4.rows.length : Int) - 1)) ∧ (IntKind.i64.wrap ((x4.rows.length : Int) - 1)) < (x4.rows.length : Int)))
  (M_nodeBytes m y14 ((x4.rows.getD (Int.toNat (IntKind.i64.wrap ((x4.rows.length : Int) - 1))) []).getD 0 dflt)
  (fun y16 => cond (decide ((y12.rows.length + 1) * 1 ≤ maxRow))
  (k3 (T.l (y12.rows ++ [[(T.l y16.rows)]])) (T.b true))
  (.bad)))
  (.bad))))
  (.bad))
  (.bad)))
  (fun y17 y18 => cond (!y18.bool)
  (k1 (T.l []) (T.b false))
  (cond (decide ((0 : Int) ≤ (IntKind.i64.wrap ((y17.rows.length : Int) - 1)) ∧ (IntKind.i64.wrap ((y17.rows.length : Int) - 1)) < (y17.rows.length : Int)))
  (cond (decide ((Int.toNat (IntKind.i64.wrap ((y17.rows.length : Int) - 1))) < y17.rows.length))
  (M_Digest m (T.l ((y17.rows.getD (Int.toNat (IntKind.i64.wrap ((y17.rows.length : Int) - 1))) []).getD 0 dflt).rows)
  (fun y19 => cond (decide (x2.int ≥ y1.int))
  (cond (decide ((0 : Int) ≤ (IntKind.i64.wrap ((x4.rows.length : Int) - 1)) ∧ (IntKind.i64.wrap ((x4.rows.length : Int) - 1)) < (x4.rows.length : Int)))
  (M_nodeBytes m ((x4.rows.getD (Int.toNat (IntKind.i64.wrap ((x4.rows.length : Int) - 1))) []).getD 0 dflt) y19
  (fun y20 => cond (decide ((y17.rows.length + 1) * 1 ≤ maxRow))
  (k2 (T.l (y17.rows ++ [[(T.l y20.rows)]])) (T.b true))
  (.bad)))
  (.bad))
  (cond (decide ((0 : Int) ≤ (IntKind.i64.wrap ((x4.rows.length : Int) - 1)) ∧ (IntKind.i64.wrap ((x4.rows.length : Int) - 1)) < (x4.rows.length : Int)))
  (M_nodeBytes m y19 ((x4.rows.getD (Int.toNat (IntKind.i64.wrap ((x4.rows.length : Int) - 1))) []).getD 0 dflt)
  (fun y21 => cond (decide ((y17.rows.length + 1) * 1 ≤ maxRow))
  (k3 (T.l (y17.rows ++ [[(T.l y21.rows)]])) (T.b true))
  (.bad)))
  (.bad))))
  (.bad))
  (.bad))))
  (.bad))
  (.bad))
  (cond (decide ((0 : Int) ≤ (IntKind.i64.wrap ((x4.rows.length : Int) - 1)) ∧ (IntKind.i64.wrap ((x4.rows.length : Int) - 1)) ≤ (x4.rows.length : Int)))
  (cond (decide ((0 : Int) ≤ 0 ∧ 0 ≤ (IntKind.i64.wrap ((x4.rows.length : Int) - 1))))
  (M_climb m x0 x1 x2 y1 (T.l (x4.rows.take (Int.toNat (IntKind.i64.wrap ((x4.rows.length : Int) - 1)))))
  (fun y22 y23 => cond (!y23.bool)
  (k1 (T.l []) (T.b false))
  (cond (decide ((0 : Int) ≤ (IntKind.i64.wrap ((y22.rows.length : Int) - 1)) ∧ (IntKind.i64.wrap ((y22.rows.length : Int) - 1)) < (y22.rows.length : Int)))
  (cond (decide ((Int.toNat (IntKind.i64.wrap ((y22.rows.length : Int) - 1))) < y22.rows.length))
  (M_Digest m (T.l ((y22.rows.getD (Int.toNat (IntKind.i64.wrap ((y22.rows.length : Int) - 1))) []).getD 0 dflt).rows)
  (fun y24 => cond (decide (x2.int ≥ y1.int))
  (cond (decide ((0 : Int) ≤ (IntKind.i64.wrap ((x4.rows.length : Int) - 1)) ∧ (IntKind.i64.wrap ((x4.rows.length : Int) - 1)) < (x4.rows.length : Int)))
  (M_nodeBytes m ((x4.rows.getD (Int.toNat (IntKind.i64.wrap ((x4.rows.length : Int) - 1))) []).getD 0 dflt) y24
  (fun y25 => cond (decide ((y22.rows.length + 1) * 1 ≤ maxRow))
  (k2 (T.l (y22.rows ++ [[(T.l y25.rows)]])) (T.b true))
  (.bad)))
  (.bad))
  (cond (decide ((0 : Int) ≤ (IntKind.i64.wrap ((x4.rows.length : Int) - 1)) ∧ (IntKind.i64.wrap ((x4.rows.length : Int) - 1)) < (x4.rows.length : Int)))
  (M_nodeBytes m y24 ((x4.rows.getD (Int.toNat (IntKind.i64.wrap ((x4.rows.length : Int) - 1))) []).getD 0 dflt)
  (fun y26 => cond (decide ((y22.rows.length + 1) * 1 ≤ maxRow))
  (k3 (T.l (y22.rows ++ [[(T.l y26.rows)]])) (T.b true))
  (.bad)))
  (.bad))))
  (.bad))
  (.bad)))
  (fun y27 y28 => cond (!y28.bool)
  (k1 (T.l []) (T.b false))
  (cond (decide ((0 : Int) ≤ (IntKind.i64.wrap ((y27.rows.length : Int) - 1)) ∧ (IntKind.i64.wrap ((y27.rows.length : Int) - 1)) < (y27.rows.length : Int)))
  (cond (decide ((Int.toNat (IntKind.i64.wrap ((y27.rows.length : Int) - 1))) < y27.rows.length))
  (M_Digest m (T.l ((y27.rows.getD (Int.toNat (IntKind.i64.wrap ((y27.rows.length : Int) - 1))) []).getD 0 dflt).rows)
  (fun y29 => cond (decide (x2.int ≥ y1.int))
  (cond (decide ((0 : Int) ≤ (IntKind.i64.wrap ((x4.rows.length : Int) - 1)) ∧ (IntKind.i64.wrap ((x4.rows.length : Int) - 1)) < (x4.rows.length : Int)))
  (M_nodeBytes m ((x4.rows.getD (Int.toNat (IntKind.i64.wrap ((x4.rows.length : Int) - 1))) []).getD 0 dflt) y29
  (fun y30 => cond (decide ((y27.rows.length + 1) * 1 ≤ maxRow))
  (k2 (T.l (y27.rows ++ [[(T.l y30.rows)]])) (T.b true))
  (.bad)))
  (.bad))
  (cond (decide ((0 : Int) ≤ (IntKind.i64.wrap ((x4.rows.length : Int) - 1)) ∧ (IntKind.i64.wrap ((x4.rows.length : Int) - 1)) < (x4.rows.length : Int)))
  (M_nodeBytes m y29 ((x4.rows.getD (Int.toNat (IntKind.i64.wrap ((x4.rows.length : Int) - 1))) []).getD 0 dflt)
  (fun y31 => cond (decide ((y27.rows.length + 1) * 1 ≤ maxRow))
  (k3 (T.l (y27.rows ++ [[(T.l y31.rows)]])) (T.b true))
  (.bad)))
  (.bad))))
  (.bad))
  (.bad)))
  (fun y32 y33 => cond (!y33.bool)
  (k1 (T.l []) (T.b false))
  (cond (decide ((0 : Int) ≤ (IntKind.i64.wrap ((y32.rows.length : Int) - 1)) ∧ (IntKind.i64.wrap ((y32.rows.length : Int) - 1)) < (y32.rows.length : Int)))
  (cond (decide ((Int.toNat (IntKind.i64.wrap ((y32.rows.length : Int) - 1))) < y32.rows.length))
  (M_Digest m (T.l ((y32.rows.getD (Int.toNat (IntKind.i64.wrap ((y32.rows.length : Int) - 1))) []).getD 0 dflt).rows)
  (fun y34 => cond (decide (x2.int ≥ y1.int))
  (cond (decide ((0 : Int) ≤ (IntKind.i64.wrap ((x4.rows.length : Int) - 1)) ∧ (IntKind.i64.wrap ((x4.rows.length : Int) - 1)) < (x4.rows.length : Int)))
  (M_nodeBytes m ((x4.rows.getD (Int.toNat (IntKind.i64.wrap ((x4.rows.length : Int) - 1))) []).getD 0 dflt) y34
  (fun y35 => cond (decide ((y32.rows.length + 1) * 1 ≤ maxRow))
  (k2 (T.l (y32.rows ++ [[(T.l y35.rows)]])) (T.b true))
  (.bad)))
  (.bad))
  (cond (decide ((0 : Int) ≤ (IntKind.i64.wrap ((x4.rows.length : Int) - 1)) ∧ (IntKind.i64.wrap ((x4.rows.length : Int) - 1)) < (x4.rows.length : Int)))
  (M_nodeBytes m y34 ((x4.rows.getD (Int.toNat (IntKind.i64.wrap ((x4.rows.length : Int) - 1))) []).getD 0 dflt)
  (fun y36 => cond (decide ((y32.rows.length + 1) * 1 ≤ maxRow))
  (k3 (T.l (y32.rows ++ [[(T.l y36.rows)]])) (T.b true))
  (.bad)))
  (.bad))))
  (.bad))
  (.bad)))
  (fun y37 y38 => cond (!y38.bool)
  (k1 (T.l []) (T.b false))
  (cond (decide ((0 : Int) ≤ (IntKind.i64.wrap ((y37.rows.length : Int) - 1)) ∧ (IntKind.i64.wrap ((y37.rows.length : Int) - 1)) < (y37.rows.length : Int)))
  (cond (decide ((Int.toNat (IntKind.i64.wrap ((y37.rows.length : Int) - 1))) < y37.rows.length))
  (M_Digest m (T.l ((y37.rows.getD (Int.toNat (IntKind.i64.wrap ((y37.rows.length : Int) - 1))) []).getD 0 dflt).rows)
  (fun y39 => cond (decide (x2.int ≥ y1.int))
  (cond (decide ((0 : Int) ≤ (IntKind.i64.wrap ((x4.rows.length : Int) - 1)) ∧ (IntKind.i64.wrap ((x4.rows.length : Int) - 1)) < (x4.rows.length : Int)))
  (M_nodeBytes m ((x4.rows.getD (Int.toNat (IntKind.i64.wrap ((x4.rows.length : Int) - 1))) []).getD 0 dflt) y39
  (fun y40 => cond (decide ((y37.rows.length + 1) * 1 ≤ maxRow))
  (k2 (T.l (y37.rows ++ [[(T.l y40.rows)]])) (T.b true))
  (.bad)))
  (.bad))
  (cond (decide ((0 : Int) ≤ (IntKind.i64.wrap ((x4.rows.length : Int) - 1)) ∧ (IntKind.i64.wrap ((x4.rows.length : Int) - 1)) < (x4.rows.length : Int)))
  (M_nodeBytes m y39 ((x4.rows.getD (Int.toNat (IntKind.i64.wrap ((x4.rows.length : Int) - 1))) []).getD 0 dflt)
  (fun y41 => cond (decide ((y37.rows.length + 1) * 1 ≤ maxRow))
  (k3 (T.l (y37.rows ++ [[(T.l y41.rows)]])) (T.b true))
  (.bad)))
  (.bad))))
  (.bad))
  (.bad))))
  (.bad))
  (.bad)))))
noncomputable def M_climb_a : List Arg := [.agg [.sc (.str) (.l []), .sc (.str) (.l [])], .one (.sc (.int .i64) (.l [])), .one (.sc (.int .i64) (.l [])), .one (.dz [.sc (.str)] [])]
noncomputable def M_climb_w (m : Nat) (vs : List T) (k : Ret → An) : An := M_climb m (vs.headD dflt) (vs.tail.headD dflt) (vs.tail.tail.headD dflt) (vs.tail.tail.tail.headD dflt) (vs.tail.tail.tail.tail.headD dflt) (fun z0 z1 => k ⟨[.one (.own [2000020] [.sl [.sc (.int .u8)]] [.F] z0.rows), .one (.sc (.bool) z1)], [[none, none], [none], [none], [none]], [none, none, none, none]⟩) (fun z0 z1 => k ⟨[.one (.own [2000008] [.sl [.sc (.int .u8)]] [.F] z0.rows), .one (.sc (.bool) z1)], [[none, none], [none], [none], [none]], [none, none, none, none]⟩) (fun z0 z1 => k ⟨[.one (.own [2000070] [.sl [.sc (.int .u8)]] [.F] z0.rows), .one (.sc (.bool) z1)], [[none, none], [none], [none], [none]], [none, none, none, none]⟩) (fun z0 z1 => k ⟨[.one (.own [2000079] [.sl [.sc (.int .u8)]] [.F] z0.rows), .one (.sc (.bool) z1)], [[none, none], [none], [none], [none]], [none, none, none, none]⟩)
theorem M_climb_cf (m : Nat) (ih : ∀ vs k, callK CX prims m 112 (fArgs M_climb_a vs) k = M_climb_w m vs k) : callK CX prims m = (patC 109 M_leafBytes_a (M_leafBytes_w m) (patC 95 M_half_a (M_half_w m) (patC 112 M_climb_a (M_climb_w m) (patC 42 M_Digest_a (M_Digest_w m) (patC 110 M_nodeBytes_a (M_nodeBytes_w m) (callK CX prims m)))))) := by
  rw [← patC_eq (fun vs k => M_nodeBytes_eq m vs k), ← patC_eq (fun vs k => M_Digest_eq m vs k), ← patC_eq (fun vs k => ih vs k), ← patC_eq (fun vs k => M_half_eq m vs k), ← patC_eq (fun vs k => M_leafBytes_eq m vs k)]
noncomputable def M_climb_c : Code := (Tryz.f112.body).getD .skip
noncomputable def M_climb_fi : Fi := ⟨112, 4, 80, 768⟩
theorem M_climb_eq (m : Nat) : ∀ vs k, callK CX prims m 112 (fArgs M_climb_a vs) k = M_climb_w m vs k := by
  induction m with
  | zero => exact fun vs k => rfl
  | succ m ih => exact fun vs k => Eq.trans (b := bodyK CX (callK CX prims m) (loopK CX (callK CX prims m) M_climb_fi M_climb_c m) 112 Tryz.f112 M_climb_c (fArgs M_climb_a vs) k) (by kernel_rfl) ((bodyK_congr (M_climb_cf m ih) rfl 112 Tryz.f112 M_climb_c (fArgs M_climb_a vs) k).trans (by kernel_rfl))
noncomputable def M_wayTo : Nat → T → T → T → T → T → (T → T → An) → (T → T → An) → An
 | 0, _, _, _, _, _, _, _ => .bad
 | m + 1, x0, x1, x2, x3, x4, k0, k1 =>
  M_climb m x0 x1 x2 x3 (T.l x4.rows)
  (fun y0 y1 => cond (!y1.bool)
  (k0 (T.l []) (T.b false))
  (cond (decide ((0 : Int) ≤ (IntKind.i64.wrap ((y0.rows.length : Int) - 1)) ∧ (IntKind.i64.wrap ((y0.rows.length : Int) - 1)) < (y0.rows.length : Int)))
  (cond (decide ((Int.toNat (IntKind.i64.wrap ((y0.rows.length : Int) - 1))) < y0.rows.length))
  (M_Digest m (T.l ((y0.rows.getD (Int.toNat (IntKind.i64.wrap ((y0.rows.length : Int) - 1))) []).getD 0 dflt).rows)
  (fun y2 => M_rootBytes m x3 y2
  (fun y3 => cond (decide ((y0.rows.length + 1) * 1 ≤ maxRow))
  (k1 (T.l (y0.rows ++ [[(T.l y3.rows)]])) (T.b true))
  (.bad))))
  (.bad))
  (.bad)))
  (fun y4 y5 => cond (!y5.bool)
  (k0 (T.l []) (T.b false))
  (cond (decide ((0 : Int) ≤ (IntKind.i64.wrap ((y4.rows.length : Int) - 1)) ∧ (IntKind.i64.wrap ((y4.rows.length : Int) - 1)) < (y4.rows.length : Int)))
  (cond (decide ((Int.toNat (IntKind.i64.wrap ((y4.rows.length : Int) - 1))) < y4.rows.length))
  (M_Digest m (T.l ((y4.rows.getD (Int.toNat (IntKind.i64.wrap ((y4.rows.length : Int) - 1))) []).getD 0 dflt).rows)
  (fun y6 => M_rootBytes m x3 y6
  (fun y7 => cond (decide ((y4.rows.length + 1) * 1 ≤ maxRow))
  (k1 (T.l (y4.rows ++ [[(T.l y7.rows)]])) (T.b true))
  (.bad))))
  (.bad))
  (.bad)))
  (fun y8 y9 => cond (!y9.bool)
  (k0 (T.l []) (T.b false))
  (cond (decide ((0 : Int) ≤ (IntKind.i64.wrap ((y8.rows.length : Int) - 1)) ∧ (IntKind.i64.wrap ((y8.rows.length : Int) - 1)) < (y8.rows.length : Int)))
  (cond (decide ((Int.toNat (IntKind.i64.wrap ((y8.rows.length : Int) - 1))) < y8.rows.length))
  (M_Digest m (T.l ((y8.rows.getD (Int.toNat (IntKind.i64.wrap ((y8.rows.length : Int) - 1))) []).getD 0 dflt).rows)
  (fun y10 => M_rootBytes m x3 y10
  (fun y11 => cond (decide ((y8.rows.length + 1) * 1 ≤ maxRow))
  (k1 (T.l (y8.rows ++ [[(T.l y11.rows)]])) (T.b true))
  (.bad))))
  (.bad))
  (.bad)))
  (fun y12 y13 => cond (!y13.bool)
  (k0 (T.l []) (T.b false))
  (cond (decide ((0 : Int) ≤ (IntKind.i64.wrap ((y12.rows.length : Int) - 1)) ∧ (IntKind.i64.wrap ((y12.rows.length : Int) - 1)) < (y12.rows.length : Int)))
  (cond (decide ((Int.toNat (IntKind.i64.wrap ((y12.rows.length : Int) - 1))) < y12.rows.length))
  (M_Digest m (T.l ((y12.rows.getD (Int.toNat (IntKind.i64.wrap ((y12.rows.length : Int) - 1))) []).getD 0 dflt).rows)
  (fun y14 => M_rootBytes m x3 y14
  (fun y15 => cond (decide ((y12.rows.length + 1) * 1 ≤ maxRow))
  (k1 (T.l (y12.rows ++ [[(T.l y15.rows)]])) (T.b true))
  (.bad))))
  (.bad))
  (.bad)))
noncomputable def M_wayTo_a : List Arg := [.agg [.sc (.str) (.l []), .sc (.str) (.l [])], .one (.sc (.int .i64) (.l [])), .one (.sc (.int .i64) (.l [])), .one (.dz [.sc (.str)] [])]
noncomputable def M_wayTo_w (m : Nat) (vs : List T) (k : Ret → An) : An := M_wayTo m (vs.headD dflt) (vs.tail.headD dflt) (vs.tail.tail.headD dflt) (vs.tail.tail.tail.headD dflt) (vs.tail.tail.tail.tail.headD dflt) (fun z0 z1 => k ⟨[.one (.own [2000008] [.sl [.sc (.int .u8)]] [.F] z0.rows), .one (.sc (.bool) z1)], [[none, none], [none], [none], [none]], [none, none, none, none]⟩) (fun z0 z1 => k ⟨[.one (.own [2000035] [.sl [.sc (.int .u8)]] [.F] z0.rows), .one (.sc (.bool) z1)], [[none, none], [none], [none], [none]], [none, none, none, none]⟩)
theorem M_wayTo_cf (m : Nat) : callK CX prims m = (patC 112 M_climb_a (M_climb_w m) (patC 42 M_Digest_a (M_Digest_w m) (patC 71 M_rootBytes_a (M_rootBytes_w m) (callK CX prims m)))) := by
  rw [← patC_eq (fun vs k => M_rootBytes_eq m vs k), ← patC_eq (fun vs k => M_Digest_eq m vs k), ← patC_eq (fun vs k => M_climb_eq m vs k)]
noncomputable def M_wayTo_c : Code := (Tryz.f99.body).getD .skip
noncomputable def M_wayTo_fi : Fi := ⟨99, 4, 36, 768⟩
theorem M_wayTo_eq (m : Nat) : ∀ vs k, callK CX prims m 99 (fArgs M_wayTo_a vs) k = M_wayTo_w m vs k := by
  cases m with
  | zero => exact fun vs k => rfl
  | succ m => exact fun vs k => Eq.trans (b := bodyK CX (callK CX prims m) (loopK CX (callK CX prims m) M_wayTo_fi M_wayTo_c m) 99 Tryz.f99 M_wayTo_c (fArgs M_wayTo_a vs) k) (by kernel_rfl) ((bodyK_congr (M_wayTo_cf m) rfl 99 Tryz.f99 M_wayTo_c (fArgs M_wayTo_a vs) k).trans (by kernel_rfl))
noncomputable def M_CheckPath : Nat → T → T → T → T → T → T → (T → An) → An
 | 0, _, _, _, _, _, _, _ => .bad
 | m + 1, x0, x1, x2, x3, x4, x5, k0 =>
  M_isPlace m x2 x3
  (fun y0 => cond (!y0.bool)
  (k0 (T.b false))
  (M_wayTo m x0 x1 x2 x3 (T.l x4.rows)
  (fun y1 y2 => cond (y2.bool == true)
  (cond (decide ((0 : Int) ≤ (IntKind.i64.wrap ((y1.rows.length : Int) - 1)) ∧ (IntKind.i64.wrap ((y1.rows.length : Int) - 1)) < (y1.rows.length : Int)))
  (cond (decide ((Int.toNat (IntKind.i64.wrap ((y1.rows.length : Int) - 1))) < y1.rows.length))
  (M_Digest m (T.l ((y1.rows.getD (Int.toNat (IntKind.i64.wrap ((y1.rows.length : Int) - 1))) []).getD 0 dflt).rows)
  (fun y3 => k0 (T.b (y3.str.toList == x5.str.toList))))
  (.bad))
  (.bad))
  (k0 (T.b false)))
  (fun y4 y5 => cond (y5.bool == true)
  (cond (decide ((0 : Int) ≤ (IntKind.i64.wrap ((y4.rows.length : Int) - 1)) ∧ (IntKind.i64.wrap ((y4.rows.length : Int) - 1)) < (y4.rows.length : Int)))
  (cond (decide ((Int.toNat (IntKind.i64.wrap ((y4.rows.length : Int) - 1))) < y4.rows.length))
  (M_Digest m (T.l ((y4.rows.getD (Int.toNat (IntKind.i64.wrap ((y4.rows.length : Int) - 1))) []).getD 0 dflt).rows)
  (fun y6 => k0 (T.b (y6.str.toList == x5.str.toList))))
  (.bad))
  (.bad))
  (k0 (T.b false)))))
noncomputable def M_CheckPath_a : List Arg := [.agg [.sc (.str) (.l []), .sc (.str) (.l [])], .one (.sc (.int .i64) (.l [])), .one (.sc (.int .i64) (.l [])), .one (.dz [.sc (.str)] []), .one (.sc (.str) (.l []))]
noncomputable def M_CheckPath_w (m : Nat) (vs : List T) (k : Ret → An) : An := M_CheckPath m (vs.headD dflt) (vs.tail.headD dflt) (vs.tail.tail.headD dflt) (vs.tail.tail.tail.headD dflt) (vs.tail.tail.tail.tail.headD dflt) (vs.tail.tail.tail.tail.tail.headD dflt) (fun z0 => k ⟨[.one (.sc (.bool) z0)], [[none, none], [none], [none], [none], [none]], [none, none, none, none, none]⟩)
theorem M_CheckPath_cf (m : Nat) : callK CX prims m = (patC 98 M_isPlace_a (M_isPlace_w m) (patC 99 M_wayTo_a (M_wayTo_w m) (patC 42 M_Digest_a (M_Digest_w m) (callK CX prims m)))) := by
  rw [← patC_eq (fun vs k => M_Digest_eq m vs k), ← patC_eq (fun vs k => M_wayTo_eq m vs k), ← patC_eq (fun vs k => M_isPlace_eq m vs k)]
noncomputable def M_CheckPath_c : Code := (Tryz.f74.body).getD .skip
noncomputable def M_CheckPath_fi : Fi := ⟨74, 5, 37, 1024⟩
theorem M_CheckPath_eq (m : Nat) : ∀ vs k, callK CX prims m 74 (fArgs M_CheckPath_a vs) k = M_CheckPath_w m vs k := by
  cases m with
  | zero => exact fun vs k => rfl
  | succ m => exact fun vs k => Eq.trans (b := bodyK CX (callK CX prims m) (loopK CX (callK CX prims m) M_CheckPath_fi M_CheckPath_c m) 74 Tryz.f74 M_CheckPath_c (fArgs M_CheckPath_a vs) k) (by kernel_rfl) ((bodyK_congr (M_CheckPath_cf m) rfl 74 Tryz.f74 M_CheckPath_c (fArgs M_CheckPath_a vs) k).trans (by kernel_rfl))
noncomputable def M_itemsOk_L0_0 (m : Nat) : Nat → T → T → T → T → T → T → T → T → (T → An) → An → An
 | 0, _, _, _, _, _, _, _, _, _, _ => .bad
 | n + 1, x0, x1, x2, x3, x4, x5, x6, x7, k0, k1 =>
  cond (decide (x4.int < x3.int))
  (cond (decide ((0 : Int) ≤ x4.int ∧ x4.int < (x2.rows.length : Int)))
  (M_PairOk m ((x2.rows.getD (Int.toNat x4.int) []).getD 0 dflt) ((x2.rows.getD (Int.toNat x4.int) []).getD 1 dflt)
  (fun y0 => cond ((!y0.bool) == false)
  (cond ((decide (x4.int > 0)) == true)
  (cond (decide ((0 : Int) ≤ (IntKind.i64.wrap (x4.int - 1)) ∧ (IntKind.i64.wrap (x4.int - 1)) < (x7.rows.length : Int)))
  (cond (((Op.bytesLess ((x2.rows.getD (Int.toNat x4.int) []).getD 0 dflt).str.toList ((x7.rows.getD (Int.toNat (IntKind.i64.wrap (x4.int - 1))) []).getD 0 dflt).str.toList) || (((x2.rows.getD (Int.toNat x4.int) []).getD 0 dflt).str.toList == ((x7.rows.getD (Int.toNat (IntKind.i64.wrap (x4.int - 1))) []).getD 0 dflt).str.toList)) == false)
  (M_CheckPath m ((x2.rows.getD (Int.toNat x4.int) []).getD 0 dflt) ((x2.rows.getD (Int.toNat x4.int) []).getD 1 dflt) (T.i (IntKind.i64.wrap (x6.int + x4.int))) x5 (T.l ((x2.rows.getD (Int.toNat x4.int) []).getD 2 dflt).rows) x0
  (fun y1 => cond (!y1.bool)
  (k0 (T.b false))
  (M_itemsOk_L0_0 m n x0 (T.i (x1.int.toNat : Int)) x2 x3 (T.i (IntKind.i64.wrap (x4.int + 1))) x5 x6 x7 k0 k1)))
  (k0 (T.b false)))
  (.bad))
  (M_CheckPath m ((x2.rows.getD (Int.toNat x4.int) []).getD 0 dflt) ((x2.rows.getD (Int.toNat x4.int) []).getD 1 dflt) (T.i (IntKind.i64.wrap (x6.int + x4.int))) x5 (T.l ((x2.rows.getD (Int.toNat x4.int) []).getD 2 dflt).rows) x0
  (fun y2 => cond (!y2.bool)
  (k0 (T.b false))
  (M_itemsOk_L0_0 m n x0 (T.i (x1.int.toNat : Int)) x2 x3 (T.i (IntKind.i64.wrap (x4.int + 1))) x5 x6 x7 k0 k1))))
  (k0 (T.b false))))
  (.bad))
  (k1 )
noncomputable def M_itemsOk_s0_0 : Pack := ⟨[(0, .one ⟨.sc, .sc (.str), .l []⟩), (3, .ptr [1000000, 0] 0 0 0), (8, .one ⟨.sn [([4000000], 0)], .sl [.sc (.str), .sc (.str), .sl [.sc (.str)]], .l []⟩), (9, .one ⟨.sc, .sc (.int .i64), .l []⟩), (10, .one ⟨.sc, .sc (.int .i64), .l []⟩)], [([1000000, 0], .box [⟨.sc, .sc (.int .i64), .l []⟩, ⟨.sc, .sc (.int .i64), .l []⟩, ⟨.sn [([4000000], 0)], .sl [.sc (.str), .sc (.str), .sl [.sc (.str)]], .l []⟩]), ([4000000], .gone)]⟩
noncomputable def M_itemsOk_e0_0 : Pack := ⟨[(4, .one ⟨.sc, .sc (.bool), .l []⟩)], []⟩
noncomputable def M_itemsOk_e0_1 : Pack := ⟨[], []⟩
noncomputable def M_itemsOk_L0_0w (m n : Nat) (vs : List T) (k : Ctl → Pack → An) : An := M_itemsOk_L0_0 m n (vs.headD dflt) (vs.tail.headD dflt) (vs.tail.tail.headD dflt) (vs.tail.tail.tail.headD dflt) (vs.tail.tail.tail.tail.headD dflt) (vs.tail.tail.tail.tail.tail.headD dflt) (vs.tail.tail.tail.tail.tail.tail.headD dflt) (vs.tail.tail.tail.tail.tail.tail.tail.headD dflt) (fun z0 => k .ret (fPack M_itemsOk_e0_0 [z0])) (k (.exit 0) (fPack M_itemsOk_e0_1 []))
noncomputable def M_itemsOk : Nat → T → T → T → T → (T → An) → An
 | 0, _, _, _, _, _ => .bad
 | m + 1, x0, x1, x2, x3, k0 =>
  M_itemsOk_L0_0 m m x0 (T.i 0) (T.l x3.rows) (T.i (x3.rows.length : Int)) (T.i 0) x1 x2 (T.l x3.rows)
  (fun y3 => k0 y3)
  (k0 (T.b true))
noncomputable def M_itemsOk_a : List Arg := [.one (.sc (.str) (.l [])), .agg [.sc (.int .i64) (.l []), .sc (.int .i64) (.l []), .dz [.sc (.str), .sc (.str), .sl [.sc (.str)]] []]]
noncomputable def M_itemsOk_w (m : Nat) (vs : List T) (k : Ret → An) : An := M_itemsOk m (vs.headD dflt) (vs.tail.headD dflt) (vs.tail.tail.headD dflt) (vs.tail.tail.tail.headD dflt) (fun z0 => k ⟨[.one (.sc (.bool) z0)], [[none], [none, none, none]], [none, none]⟩)
theorem M_itemsOk_cf (m : Nat) : callK CX prims m = (patC 73 M_PairOk_a (M_PairOk_w m) (patC 74 M_CheckPath_a (M_CheckPath_w m) (callK CX prims m))) := by
  rw [← patC_eq (fun vs k => M_CheckPath_eq m vs k), ← patC_eq (fun vs k => M_PairOk_eq m vs k)]
noncomputable def M_itemsOk_c : Code := (Tryz.f47.body).getD .skip
noncomputable def M_itemsOk_fi : Fi := ⟨47, 2, 53, 16⟩
theorem M_itemsOk_lf (m : Nat) : ∀ n, (∀ vs k, loopK CX (callK CX prims m) M_itemsOk_fi M_itemsOk_c n [0, 1, 0, 1] (fPack M_itemsOk_s0_0 vs) k = M_itemsOk_L0_0w m n vs k) ∧ ((loopK CX (callK CX prims m) M_itemsOk_fi M_itemsOk_c n) = (patL [0, 1, 0, 1] M_itemsOk_s0_0 (M_itemsOk_L0_0w m n) (loopK CX (callK CX prims m) M_itemsOk_fi M_itemsOk_c n))) :=
 lf1 (fun n h0 => by rw [← patL_eq h0]) (fun vs k => rfl) fun n hn vs k => (stepL_congr (M_itemsOk_cf m) hn [0, 1, 0, 1] _ _).trans (by kernel_rfl)
theorem M_itemsOk_eq (m : Nat) : ∀ vs k, callK CX prims m 47 (fArgs M_itemsOk_a vs) k = M_itemsOk_w m vs k := by
  cases m with
  | zero => exact fun vs k => rfl
  | succ m => exact fun vs k => Eq.trans (b := bodyK CX (callK CX prims m) (loopK CX (callK CX prims m) M_itemsOk_fi M_itemsOk_c m) 47 Tryz.f47 M_itemsOk_c (fArgs M_itemsOk_a vs) k) (by kernel_rfl) ((bodyK_congr (M_itemsOk_cf m) ((M_itemsOk_lf m m).2) 47 Tryz.f47 M_itemsOk_c (fArgs M_itemsOk_a vs) k).trans (by kernel_rfl))
noncomputable def M_reaches : Nat → T → T → T → T → T → (T → An) → An
 | 0, _, _, _, _, _, _ => .bad
 | m + 1, x0, x1, x2, x3, x4, k0 =>
  cond ((x3.int == 0) == false)
  (cond (decide ((0 : Int) ≤ 0 ∧ 0 < (x4.rows.length : Int)))
  (cond ((Op.bytesLess ((x4.rows.getD 0 []).getD 0 dflt).str.toList x0.str.toList) == true)
  (cond (((IntKind.i64.wrap (x3.int + (IntKind.i64.wrap ((x4.rows.length : Int) - 1)))) == (IntKind.i64.wrap (x2.int - 1))) == false)
  (cond ((!(x1.str.toList == (⟨#[]⟩ : ByteArray).toList)) == true)
  (cond (decide ((0 : Int) ≤ (IntKind.i64.wrap ((x4.rows.length : Int) - 1)) ∧ (IntKind.i64.wrap ((x4.rows.length : Int) - 1)) < (x4.rows.length : Int)))
  (k0 (T.b (!(Op.bytesLess ((x4.rows.getD (Int.toNat (IntKind.i64.wrap ((x4.rows.length : Int) - 1))) []).getD 0 dflt).str.toList x1.str.toList))))
  (.bad))
  (k0 (T.b false)))
  (k0 (T.b true)))
  (k0 (T.b false)))
  (.bad))
  (cond (((IntKind.i64.wrap (x3.int + (IntKind.i64.wrap ((x4.rows.length : Int) - 1)))) == (IntKind.i64.wrap (x2.int - 1))) == false)
  (cond ((!(x1.str.toList == (⟨#[]⟩ : ByteArray).toList)) == true)
  (cond (decide ((0 : Int) ≤ (IntKind.i64.wrap ((x4.rows.length : Int) - 1)) ∧ (IntKind.i64.wrap ((x4.rows.length : Int) - 1)) < (x4.rows.length : Int)))
  (k0 (T.b (!(Op.bytesLess ((x4.rows.getD (Int.toNat (IntKind.i64.wrap ((x4.rows.length : Int) - 1))) []).getD 0 dflt).str.toList x1.str.toList))))
  (.bad))
  (k0 (T.b false)))
  (k0 (T.b true)))
noncomputable def M_reaches_a : List Arg := [.one (.sc (.str) (.l [])), .one (.sc (.str) (.l [])), .agg [.sc (.int .i64) (.l []), .sc (.int .i64) (.l []), .dz [.sc (.str), .sc (.str), .sl [.sc (.str)]] []]]
noncomputable def M_reaches_w (m : Nat) (vs : List T) (k : Ret → An) : An := M_reaches m (vs.headD dflt) (vs.tail.headD dflt) (vs.tail.tail.headD dflt) (vs.tail.tail.tail.headD dflt) (vs.tail.tail.tail.tail.headD dflt) (fun z0 => k ⟨[.one (.sc (.bool) z0)], [[none], [none], [none, none, none]], [none, none, none]⟩)
theorem M_reaches_cf (m : Nat) : callK CX prims m = (callK CX prims m) := by
  rfl
noncomputable def M_reaches_c : Code := (Tryz.f48.body).getD .skip
noncomputable def M_reaches_fi : Fi := ⟨48, 3, 52, 64⟩
theorem M_reaches_eq (m : Nat) : ∀ vs k, callK CX prims m 48 (fArgs M_reaches_a vs) k = M_reaches_w m vs k := by
  cases m with
  | zero => exact fun vs k => rfl
  | succ m => exact fun vs k => Eq.trans (b := bodyK CX (callK CX prims m) (loopK CX (callK CX prims m) M_reaches_fi M_reaches_c m) 48 Tryz.f48 M_reaches_c (fArgs M_reaches_a vs) k) (by kernel_rfl) ((bodyK_congr (M_reaches_cf m) rfl 48 Tryz.f48 M_reaches_c (fArgs M_reaches_a vs) k).trans (by kernel_rfl))
noncomputable def M_isBetween : Nat → T → T → T → (T → An) → An
 | 0, _, _, _, _ => .bad
 | m + 1, x0, x1, x2, k0 =>
  cond ((!(Op.bytesLess x0.str.toList x1.str.toList)) == true)
  (cond ((x2.str.toList == (⟨#[]⟩ : ByteArray).toList) == false)
  (k0 (T.b (Op.bytesLess x0.str.toList x2.str.toList)))
  (k0 (T.b true)))
  (k0 (T.b false))
noncomputable def M_isBetween_a : List Arg := [.one (.sc (.str) (.l [])), .one (.sc (.str) (.l [])), .one (.sc (.str) (.l []))]
noncomputable def M_isBetween_w (m : Nat) (vs : List T) (k : Ret → An) : An := M_isBetween m (vs.headD dflt) (vs.tail.headD dflt) (vs.tail.tail.headD dflt) (fun z0 => k ⟨[.one (.sc (.bool) z0)], [[none], [none], [none]], [none, none, none]⟩)
theorem M_isBetween_cf (m : Nat) : callK CX prims m = (callK CX prims m) := by
  rfl
noncomputable def M_isBetween_c : Code := (Tryz.f75.body).getD .skip
noncomputable def M_isBetween_fi : Fi := ⟨75, 3, 19, 64⟩
theorem M_isBetween_eq (m : Nat) : ∀ vs k, callK CX prims m 75 (fArgs M_isBetween_a vs) k = M_isBetween_w m vs k := by
  cases m with
  | zero => exact fun vs k => rfl
  | succ m => exact fun vs k => Eq.trans (b := bodyK CX (callK CX prims m) (loopK CX (callK CX prims m) M_isBetween_fi M_isBetween_c m) 75 Tryz.f75 M_isBetween_c (fArgs M_isBetween_a vs) k) (by kernel_rfl) ((bodyK_congr (M_isBetween_cf m) rfl 75 Tryz.f75 M_isBetween_c (fArgs M_isBetween_a vs) k).trans (by kernel_rfl))
noncomputable def M_Between_L0_0 (m : Nat) : Nat → T → T → T → T → T → T → (T → An) → An
 | 0, _, _, _, _, _, _, _ => .bad
 | n + 1, x0, x1, x2, x3, x4, x5, k0 =>
  cond (decide (x4.int < x3.int))
  (cond (decide ((0 : Int) ≤ x4.int ∧ x4.int < (x2.rows.length : Int)))
  (M_isBetween m ((x2.rows.getD (Int.toNat x4.int) []).getD 0 dflt) x0 x1
  (fun y0 => cond y0.bool
  (cond (decide ((x5.rows.length + 1) * 2 ≤ maxRow))
  (M_Between_L0_0 m n x0 x1 x2 x3 (T.i (IntKind.i64.wrap (x4.int + 1))) (T.l (x5.rows ++ [[((x2.rows.getD (Int.toNat x4.int) []).getD 0 dflt), ((x2.rows.getD (Int.toNat x4.int) []).getD 1 dflt)]])) k0)
  (.bad))
  (M_Between_L0_0 m n x0 x1 x2 x3 (T.i (IntKind.i64.wrap (x4.int + 1))) (T.l x5.rows) k0)))
  (.bad))
  (k0 (T.l x5.rows))
noncomputable def M_Between_s0_0 : Pack := ⟨[(1, .one ⟨.sc, .sc (.str), .l []⟩), (2, .one ⟨.sc, .sc (.str), .l []⟩), (7, .one ⟨.al [1000000, 0] 0, .sl [.sc (.str), .sc (.str)], .l []⟩), (10, .one ⟨.sn [([4000000], 0)], .sl [.sc (.str), .sc (.str)], .l []⟩), (11, .one ⟨.sc, .sc (.int .i64), .l []⟩), (12, .one ⟨.sc, .sc (.int .i64), .l []⟩)], [([1000000, 0], .row [.sc (.str), .sc (.str)] [.F, .F] []), ([4000000], .gone)]⟩
noncomputable def M_Between_e0_0 : Pack := ⟨[(7, .one ⟨.al [1000000, 0] 0, .sl [.sc (.str), .sc (.str)], .l []⟩)], [([1000000, 0], .row [.sc (.str), .sc (.str)] [.F, .F] [])]⟩
noncomputable def M_Between_L0_0w (m n : Nat) (vs : List T) (k : Ctl → Pack → An) : An := M_Between_L0_0 m n (vs.headD dflt) (vs.tail.headD dflt) (vs.tail.tail.headD dflt) (vs.tail.tail.tail.headD dflt) (vs.tail.tail.tail.tail.headD dflt) (vs.tail.tail.tail.tail.tail.headD dflt) (fun z0 => k (.exit 0) (fPack M_Between_e0_0 [z0]))
noncomputable def M_Between : Nat → T → T → T → (T → An) → An
 | 0, _, _, _, _ => .bad
 | m + 1, x0, x1, x2, k0 =>
  M_Between_L0_0 m m x1 x2 (T.l x0.rows) (T.i (x0.rows.length : Int)) (T.i 0) (T.l [])
  (fun y1 => k0 (T.l y1.rows))
noncomputable def M_Between_a : List Arg := [.one (.dz [.sc (.str), .sc (.str)] []), .one (.sc (.str) (.l [])), .one (.sc (.str) (.l []))]
noncomputable def M_Between_w (m : Nat) (vs : List T) (k : Ret → An) : An := M_Between m (vs.headD dflt) (vs.tail.headD dflt) (vs.tail.tail.headD dflt) (fun z0 => k ⟨[.one (.own [1000000, 0] [.sc (.str), .sc (.str)] [.F, .F] z0.rows)], [[none], [none], [none]], [none, none, none]⟩)
theorem M_Between_cf (m : Nat) : callK CX prims m = (patC 75 M_isBetween_a (M_isBetween_w m) (callK CX prims m)) := by
  rw [← patC_eq (fun vs k => M_isBetween_eq m vs k)]
noncomputable def M_Between_c : Code := (Tryz.f49.body).getD .skip
noncomputable def M_Between_fi : Fi := ⟨49, 3, 27, 64⟩
theorem M_Between_lf (m : Nat) : ∀ n, (∀ vs k, loopK CX (callK CX prims m) M_Between_fi M_Between_c n [0, 1, 0, 1, 1] (fPack M_Between_s0_0 vs) k = M_Between_L0_0w m n vs k) ∧ ((loopK CX (callK CX prims m) M_Between_fi M_Between_c n) = (patL [0, 1, 0, 1, 1] M_Between_s0_0 (M_Between_L0_0w m n) (loopK CX (callK CX prims m) M_Between_fi M_Between_c n))) :=
 lf1 (fun n h0 => by rw [← patL_eq h0]) (fun vs k => rfl) fun n hn vs k => (stepL_congr (M_Between_cf m) hn [0, 1, 0, 1, 1] _ _).trans (by kernel_rfl)
theorem M_Between_eq (m : Nat) : ∀ vs k, callK CX prims m 49 (fArgs M_Between_a vs) k = M_Between_w m vs k := by
  cases m with
  | zero => exact fun vs k => rfl
  | succ m => exact fun vs k => Eq.trans (b := bodyK CX (callK CX prims m) (loopK CX (callK CX prims m) M_Between_fi M_Between_c m) 49 Tryz.f49 M_Between_c (fArgs M_Between_a vs) k) (by kernel_rfl) ((bodyK_congr (M_Between_cf m) ((M_Between_lf m m).2) 49 Tryz.f49 M_Between_c (fArgs M_Between_a vs) k).trans (by kernel_rfl))
noncomputable def M_CheckBetween_L0_0 (m : Nat) : Nat → T → T → T → T → T → T → (T → T → T → An) → An
 | 0, _, _, _, _, _, _, _ => .bad
 | n + 1, x0, x1, x2, x3, x4, x5, k0 =>
  cond (decide (x4.int < x3.int))
  (cond (decide ((0 : Int) ≤ x4.int ∧ x4.int < (x2.rows.length : Int)))
  (cond (decide ((x5.rows.length + 1) * 2 ≤ maxRow))
  (M_CheckBetween_L0_0 m n x0 x1 x2 x3 (T.i (IntKind.i64.wrap (x4.int + 1))) (T.l (x5.rows ++ [[((x2.rows.getD (Int.toNat x4.int) []).getD 0 dflt), ((x2.rows.getD (Int.toNat x4.int) []).getD 1 dflt)]])) k0)
  (.bad))
  (.bad))
  (k0 x0 x1 (T.l x5.rows))
noncomputable def M_CheckBetween_s0_0 : Pack := ⟨[(1, .one ⟨.sc, .sc (.str), .l []⟩), (2, .one ⟨.sc, .sc (.str), .l []⟩), (10, .one ⟨.al [1000000, 0] 0, .sl [.sc (.str), .sc (.str)], .l []⟩), (66, .one ⟨.sn [([4000000], 0)], .sl [.sc (.str), .sc (.str), .sl [.sc (.str)]], .l []⟩), (67, .one ⟨.sc, .sc (.int .i64), .l []⟩), (68, .one ⟨.sc, .sc (.int .i64), .l []⟩)], [([1000000, 0], .row [.sc (.str), .sc (.str)] [.F, .F] []), ([4000000], .gone)]⟩
noncomputable def M_CheckBetween_e0_0 : Pack := ⟨[(1, .one ⟨.sc, .sc (.str), .l []⟩), (2, .one ⟨.sc, .sc (.str), .l []⟩), (10, .one ⟨.al [1000000, 0] 0, .sl [.sc (.str), .sc (.str)], .l []⟩)], [([1000000, 0], .row [.sc (.str), .sc (.str)] [.F, .F] [])]⟩
noncomputable def M_CheckBetween_L0_0w (m n : Nat) (vs : List T) (k : Ctl → Pack → An) : An := M_CheckBetween_L0_0 m n (vs.headD dflt) (vs.tail.headD dflt) (vs.tail.tail.headD dflt) (vs.tail.tail.tail.headD dflt) (vs.tail.tail.tail.tail.headD dflt) (vs.tail.tail.tail.tail.tail.headD dflt) (fun z0 z1 z2 => k (.exit 0) (fPack M_CheckBetween_e0_0 [z0, z1, z2]))
noncomputable def M_CheckBetween : Nat → T → T → T → T → T → T → (T → T → An) → (T → T → An) → An
 | 0, _, _, _, _, _, _, _, _ => .bad
 | m + 1, x0, x1, x2, x3, x4, x5, k0, k1 =>
  cond (x3.int == 0)
  (cond (((x5.rows.length : Int) == 0) == true)
  (cond ((x4.int == 0) == true)
  (M_rootOf m (T.l [])
  (fun y0 => k0 (T.l []) (T.b (x0.str.toList == y0.str.toList))))
  (k0 (T.l []) (T.b false)))
  (k0 (T.l []) (T.b false)))
  (M_inRange m x3 (T.i 1) (T.i 60)
  (fun y1 => cond ((!y1.bool) == false)
  (M_inRange m (T.i (x5.rows.length : Int)) (T.i 1) x3
  (fun y2 => cond ((!y2.bool) == false)
  (M_inRange m x4 (T.i 0) (T.i (IntKind.i64.wrap (x3.int - 1)))
  (fun y3 => cond ((!y3.bool) == false)
  (M_itemsOk m x0 x3 x4 (T.l x5.rows)
  (fun y4 => cond ((!y4.bool) == false)
  (M_reaches m x1 x2 x3 x4 (T.l x5.rows)
  (fun y5 => cond (!y5.bool)
  (k0 (T.l []) (T.b false))
  (M_CheckBetween_L0_0 m m x1 x2 (T.l x5.rows) (T.i (x5.rows.length : Int)) (T.i 0) (T.l [])
  (fun y6 y7 y8 => M_Between m (T.l y8.rows) y6 y7
  (fun y9 => k1 (T.l y9.rows) (T.b true))))))
  (k0 (T.l []) (T.b false))))
  (k0 (T.l []) (T.b false))))
  (k0 (T.l []) (T.b false))))
  (k0 (T.l []) (T.b false))))
noncomputable def M_CheckBetween_a : List Arg := [.one (.sc (.str) (.l [])), .one (.sc (.str) (.l [])), .one (.sc (.str) (.l [])), .agg [.sc (.int .i64) (.l []), .sc (.int .i64) (.l []), .dz [.sc (.str), .sc (.str), .sl [.sc (.str)]] []]]
noncomputable def M_CheckBetween_w (m : Nat) (vs : List T) (k : Ret → An) : An := M_CheckBetween m (vs.headD dflt) (vs.tail.headD dflt) (vs.tail.tail.headD dflt) (vs.tail.tail.tail.headD dflt) (vs.tail.tail.tail.tail.headD dflt) (vs.tail.tail.tail.tail.tail.headD dflt) (fun z0 z1 => k ⟨[.one (.own [2000008] [.sc (.str), .sc (.str)] [.F, .F] z0.rows), .one (.sc (.bool) z1)], [[none], [none], [none], [none, none, none]], [none, none, none, none]⟩) (fun z0 z1 => k ⟨[.one (.own [2000081, 0, 0] [.sc (.str), .sc (.str)] [.F, .F] z0.rows), .one (.sc (.bool) z1)], [[none], [none], [none], [none, none, none]], [none, none, none, none]⟩)
theorem M_CheckBetween_cf (m : Nat) : callK CX prims m = (patC 46 M_rootOf_a (M_rootOf_w m) (patC 23 M_inRange_a (M_inRange_w m) (patC 47 M_itemsOk_a (M_itemsOk_w m) (patC 48 M_reaches_a (M_reaches_w m) (patC 49 M_Between_a (M_Between_w m) (callK CX prims m)))))) := by
  rw [← patC_eq (fun vs k => M_Between_eq m vs k), ← patC_eq (fun vs k => M_reaches_eq m vs k), ← patC_eq (fun vs k => M_itemsOk_eq m vs k), ← patC_eq (fun vs k => M_inRange_eq m vs k), ← patC_eq (fun vs k => M_rootOf_eq m vs k)]
noncomputable def M_CheckBetween_c : Code := (Tryz.f24.body).getD .skip
noncomputable def M_CheckBetween_fi : Fi := ⟨24, 4, 82, 768⟩
theorem M_CheckBetween_lf (m : Nat) : ∀ n, (∀ vs k, loopK CX (callK CX prims m) M_CheckBetween_fi M_CheckBetween_c n [0, 1, 0, 1, 1, 1, 1] (fPack M_CheckBetween_s0_0 vs) k = M_CheckBetween_L0_0w m n vs k) ∧ ((loopK CX (callK CX prims m) M_CheckBetween_fi M_CheckBetween_c n) = (patL [0, 1, 0, 1, 1, 1, 1] M_CheckBetween_s0_0 (M_CheckBetween_L0_0w m n) (loopK CX (callK CX prims m) M_CheckBetween_fi M_CheckBetween_c n))) :=
 lf1 (fun n h0 => by rw [← patL_eq h0]) (fun vs k => rfl) fun n hn vs k => (stepL_congr (M_CheckBetween_cf m) hn [0, 1, 0, 1, 1, 1, 1] _ _).trans (by kernel_rfl)
theorem M_CheckBetween_eq (m : Nat) : ∀ vs k, callK CX prims m 24 (fArgs M_CheckBetween_a vs) k = M_CheckBetween_w m vs k := by
  cases m with
  | zero => exact fun vs k => rfl
  | succ m => exact fun vs k => Eq.trans (b := bodyK CX (callK CX prims m) (loopK CX (callK CX prims m) M_CheckBetween_fi M_CheckBetween_c m) 24 Tryz.f24 M_CheckBetween_c (fArgs M_CheckBetween_a vs) k) (by kernel_rfl) ((bodyK_congr (M_CheckBetween_cf m) ((M_CheckBetween_lf m m).2) 24 Tryz.f24 M_CheckBetween_c (fArgs M_CheckBetween_a vs) k).trans (by kernel_rfl))
noncomputable def M_Hash_L0_0 (m : Nat) : Nat → T → T → T → (T → An) → An
 | 0, _, _, _, _ => .bad
 | n + 1, x0, x1, x2, k0 =>
  cond (decide (x2.int < (x0.str.size : Int)))
  (cond (decide ((0 : Int) ≤ x2.int ∧ x2.int < (x0.str.size : Int)))
  (M_Hash_L0_0 m n x0 (T.i (IntKind.u32.wrap ((bvBack .u32 (BitVec.ofInt IntKind.u32.bits x1.int ^^^ BitVec.ofInt IntKind.u32.bits (IntKind.u32.wrap ((x0.str.data.toList.getD (Int.toNat x2.int) 0).toNat : Int)))).int * 16777619))) (T.i (IntKind.i64.wrap (x2.int + 1))) k0)
  (.bad))
  (k0 x1)
noncomputable def M_Hash_s0_0 : Pack := ⟨[(0, .one ⟨.sc, .sc (.str), .l []⟩), (3, .one ⟨.sc, .sc (.int .u32), .l []⟩), (4, .one ⟨.sc, .sc (.int .i64), .l []⟩)], []⟩
noncomputable def M_Hash_e0_0 : Pack := ⟨[(3, .one ⟨.sc, .sc (.int .u32), .l []⟩)], []⟩
noncomputable def M_Hash_L0_0w (m n : Nat) (vs : List T) (k : Ctl → Pack → An) : An := M_Hash_L0_0 m n (vs.headD dflt) (vs.tail.headD dflt) (vs.tail.tail.headD dflt) (fun z0 => k (.exit 0) (fPack M_Hash_e0_0 [z0]))
noncomputable def M_Hash : Nat → T → (T → An) → An
 | 0, _, _ => .bad
 | m + 1, x0, k0 =>
  M_Hash_L0_0 m m x0 (T.i 2166136261) (T.i 0)
  (fun y0 => k0 (T.i (IntKind.i64.wrap y0.int)))
noncomputable def M_Hash_a : List Arg := [.one (.sc (.str) (.l []))]
noncomputable def M_Hash_w (m : Nat) (vs : List T) (k : Ret → An) : An := M_Hash m (vs.headD dflt) (fun z0 => k ⟨[.one (.sc (.int .i64) z0)], [[none]], [none]⟩)
theorem M_Hash_cf (m : Nat) : callK CX prims m = (callK CX prims m) := by
  rfl
noncomputable def M_Hash_c : Code := (Tryz.f76.body).getD .skip
noncomputable def M_Hash_fi : Fi := ⟨76, 1, 21, 4⟩
theorem M_Hash_lf (m : Nat) : ∀ n, (∀ vs k, loopK CX (callK CX prims m) M_Hash_fi M_Hash_c n [0, 1, 0, 1, 1] (fPack M_Hash_s0_0 vs) k = M_Hash_L0_0w m n vs k) ∧ ((loopK CX (callK CX prims m) M_Hash_fi M_Hash_c n) = (patL [0, 1, 0, 1, 1] M_Hash_s0_0 (M_Hash_L0_0w m n) (loopK CX (callK CX prims m) M_Hash_fi M_Hash_c n))) :=
 lf1 (fun n h0 => by rw [← patL_eq h0]) (fun vs k => rfl) fun n hn vs k => (stepL_congr (M_Hash_cf m) hn [0, 1, 0, 1, 1] _ _).trans (by kernel_rfl)
theorem M_Hash_eq (m : Nat) : ∀ vs k, callK CX prims m 76 (fArgs M_Hash_a vs) k = M_Hash_w m vs k := by
  cases m with
  | zero => exact fun vs k => rfl
  | succ m => exact fun vs k => Eq.trans (b := bodyK CX (callK CX prims m) (loopK CX (callK CX prims m) M_Hash_fi M_Hash_c m) 76 Tryz.f76 M_Hash_c (fArgs M_Hash_a vs) k) (by kernel_rfl) ((bodyK_congr (M_Hash_cf m) ((M_Hash_lf m m).2) 76 Tryz.f76 M_Hash_c (fArgs M_Hash_a vs) k).trans (by kernel_rfl))
noncomputable def M_ShardOf : Nat → T → T → (T → An) → An
 | 0, _, _, _ => .bad
 | m + 1, x0, x1, k0 =>
  cond (decide (x1.int < 1))
  (k0 (T.i 0))
  (M_Hash m x0
  (fun y0 => cond (!decide (x1.int = 0))
  (k0 (T.i (Int.tmod y0.int x1.int)))
  (.bad)))
noncomputable def M_ShardOf_a : List Arg := [.one (.sc (.str) (.l [])), .one (.sc (.int .i64) (.l []))]
noncomputable def M_ShardOf_w (m : Nat) (vs : List T) (k : Ret → An) : An := M_ShardOf m (vs.headD dflt) (vs.tail.headD dflt) (fun z0 => k ⟨[.one (.sc (.int .i64) z0)], [[none], [none]], [none, none]⟩)
theorem M_ShardOf_cf (m : Nat) : callK CX prims m = (patC 76 M_Hash_a (M_Hash_w m) (callK CX prims m)) := by
  rw [← patC_eq (fun vs k => M_Hash_eq m vs k)]
noncomputable def M_ShardOf_c : Code := (Tryz.f50.body).getD .skip
noncomputable def M_ShardOf_fi : Fi := ⟨50, 2, 11, 16⟩
theorem M_ShardOf_eq (m : Nat) : ∀ vs k, callK CX prims m 50 (fArgs M_ShardOf_a vs) k = M_ShardOf_w m vs k := by
  cases m with
  | zero => exact fun vs k => rfl
  | succ m => exact fun vs k => Eq.trans (b := bodyK CX (callK CX prims m) (loopK CX (callK CX prims m) M_ShardOf_fi M_ShardOf_c m) 50 Tryz.f50 M_ShardOf_c (fArgs M_ShardOf_a vs) k) (by kernel_rfl) ((bodyK_congr (M_ShardOf_cf m) rfl 50 Tryz.f50 M_ShardOf_c (fArgs M_ShardOf_a vs) k).trans (by kernel_rfl))
noncomputable def M_isOf_L0_0 (m : Nat) : Nat → T → T → T → T → T → (T → An) → An → An
 | 0, _, _, _, _, _, _, _ => .bad
 | n + 1, x0, x1, x2, x3, x4, k0, k1 =>
  cond (decide (x4.int < x3.int))
  (cond (decide ((0 : Int) ≤ x4.int ∧ x4.int < (x2.rows.length : Int)))
  (M_ShardOf m ((x2.rows.getD (Int.toNat x4.int) []).getD 0 dflt) x1
  (fun y0 => cond (y0.int != x0.int)
  (k0 (T.b false))
  (M_isOf_L0_0 m n x0 x1 x2 x3 (T.i (IntKind.i64.wrap (x4.int + 1))) k0 k1)))
  (.bad))
  (k1 )
noncomputable def M_isOf_s0_0 : Pack := ⟨[(1, .one ⟨.sc, .sc (.int .i64), .l []⟩), (2, .one ⟨.sc, .sc (.int .i64), .l []⟩), (9, .one ⟨.sn [([4000000], 0)], .sl [.sc (.str), .sc (.str)], .l []⟩), (10, .one ⟨.sc, .sc (.int .i64), .l []⟩), (11, .one ⟨.sc, .sc (.int .i64), .l []⟩)], [([4000000], .gone)]⟩
noncomputable def M_isOf_e0_0 : Pack := ⟨[(6, .one ⟨.sc, .sc (.bool), .l []⟩)], []⟩
noncomputable def M_isOf_e0_1 : Pack := ⟨[], []⟩
noncomputable def M_isOf_L0_0w (m n : Nat) (vs : List T) (k : Ctl → Pack → An) : An := M_isOf_L0_0 m n (vs.headD dflt) (vs.tail.headD dflt) (vs.tail.tail.headD dflt) (vs.tail.tail.tail.headD dflt) (vs.tail.tail.tail.tail.headD dflt) (fun z0 => k .ret (fPack M_isOf_e0_0 [z0])) (k (.exit 0) (fPack M_isOf_e0_1 []))
noncomputable def M_isOf : Nat → T → T → T → (T → An) → An
 | 0, _, _, _, _ => .bad
 | m + 1, x0, x1, x2, k0 =>
  M_isOf_L0_0 m m x1 x2 (T.l x0.rows) (T.i (x0.rows.length : Int)) (T.i 0)
  (fun y1 => k0 y1)
  (k0 (T.b true))
noncomputable def M_isOf_a : List Arg := [.one (.dz [.sc (.str), .sc (.str)] []), .one (.sc (.int .i64) (.l [])), .one (.sc (.int .i64) (.l []))]
noncomputable def M_isOf_w (m : Nat) (vs : List T) (k : Ret → An) : An := M_isOf m (vs.headD dflt) (vs.tail.headD dflt) (vs.tail.tail.headD dflt) (fun z0 => k ⟨[.one (.sc (.bool) z0)], [[none], [none], [none]], [none, none, none]⟩)
theorem M_isOf_cf (m : Nat) : callK CX prims m = (patC 50 M_ShardOf_a (M_ShardOf_w m) (callK CX prims m)) := by
  rw [← patC_eq (fun vs k => M_ShardOf_eq m vs k)]
noncomputable def M_isOf_c : Code := (Tryz.f25.body).getD .skip
noncomputable def M_isOf_fi : Fi := ⟨25, 3, 22, 64⟩
theorem M_isOf_lf (m : Nat) : ∀ n, (∀ vs k, loopK CX (callK CX prims m) M_isOf_fi M_isOf_c n [0, 1, 0, 1] (fPack M_isOf_s0_0 vs) k = M_isOf_L0_0w m n vs k) ∧ ((loopK CX (callK CX prims m) M_isOf_fi M_isOf_c n) = (patL [0, 1, 0, 1] M_isOf_s0_0 (M_isOf_L0_0w m n) (loopK CX (callK CX prims m) M_isOf_fi M_isOf_c n))) :=
 lf1 (fun n h0 => by rw [← patL_eq h0]) (fun vs k => rfl) fun n hn vs k => (stepL_congr (M_isOf_cf m) hn [0, 1, 0, 1] _ _).trans (by kernel_rfl)
theorem M_isOf_eq (m : Nat) : ∀ vs k, callK CX prims m 25 (fArgs M_isOf_a vs) k = M_isOf_w m vs k := by
  cases m with
  | zero => exact fun vs k => rfl
  | succ m => exact fun vs k => Eq.trans (b := bodyK CX (callK CX prims m) (loopK CX (callK CX prims m) M_isOf_fi M_isOf_c m) 25 Tryz.f25 M_isOf_c (fArgs M_isOf_a vs) k) (by kernel_rfl) ((bodyK_congr (M_isOf_cf m) ((M_isOf_lf m m).2) 25 Tryz.f25 M_isOf_c (fArgs M_isOf_a vs) k).trans (by kernel_rfl))
noncomputable def M_pairAt_1 : Nat → T → T → T → (T → An) → An
 | 0, _, _, _, _ => .bad
 | m + 1, x0, x1, x2, k0 =>
  k0 (T.b (x0.str.toList == ((row1 x2).getD 0 dflt).str.toList))
noncomputable def M_pairAt_1_a : List Arg := [.agg [.sc (.str) (.l []), .sc (.str) (.l [])], .rpt [.sc (.str)] []]
noncomputable def M_pairAt_1_w (m : Nat) (vs : List T) (k : Ret → An) : An := M_pairAt_1 m (vs.headD dflt) (vs.tail.headD dflt) (vs.tail.tail.headD dflt) (fun z0 => k ⟨[.one (.sc (.bool) z0)], [[none, none], []], [none, none]⟩)
theorem M_pairAt_1_cf (m : Nat) : callK CX prims m = (callK CX prims m) := by
  rfl
noncomputable def M_pairAt_1_c : Code := (Tryz.f101.body).getD .skip
noncomputable def M_pairAt_1_fi : Fi := ⟨101, 2, 8, 8⟩
theorem M_pairAt_1_eq (m : Nat) : ∀ vs k, callK CX prims m 101 (fArgs M_pairAt_1_a vs) k = M_pairAt_1_w m vs k := by
  cases m with
  | zero => exact fun vs k => rfl
  | succ m => exact fun vs k => Eq.trans (b := bodyK CX (callK CX prims m) (loopK CX (callK CX prims m) M_pairAt_1_fi M_pairAt_1_c m) 101 Tryz.f101 M_pairAt_1_c (fArgs M_pairAt_1_a vs) k) (by kernel_rfl) ((bodyK_congr (M_pairAt_1_cf m) rfl 101 Tryz.f101 M_pairAt_1_c (fArgs M_pairAt_1_a vs) k).trans (by kernel_rfl))
noncomputable def slIx_L0_0 (m : Nat) : Nat → T → T → T → T → (T → An) → An → An
 | 0, _, _, _, _, _, _ => .bad
 | n + 1, x0, x1, x2, x3, k0, k1 =>
  cond (decide (x3.int < x2.int))
  (cond (decide ((0 : Int) ≤ x3.int ∧ x3.int < (x0.rows.length : Int)))
  (M_pairAt_1 m ((x0.rows.getD (Int.toNat x3.int) []).getD 0 dflt) ((x0.rows.getD (Int.toNat x3.int) []).getD 1 dflt) (T.l [(row1 x1)])
  (fun y0 => cond y0.bool
  (k0 x3)
  (slIx_L0_0 m n x0 (T.l [(row1 x1)]) x2 (T.i (IntKind.i64.wrap (x3.int + 1))) k0 k1)))
  (.bad))
  (k1 )
noncomputable def slIx_s0_0 : Pack := ⟨[(0, .one ⟨.sn [([4000000], 0)], .sl [.sc (.str), .sc (.str)], .l []⟩), (1, .fn 101 [.rp [([4000000], 0)] [.sc (.str)] []]), (7, .one ⟨.sc, .sc (.int .i64), .l []⟩), (8, .one ⟨.sc, .sc (.int .i64), .l []⟩)], [([4000000], .gone)]⟩
noncomputable def slIx_e0_0 : Pack := ⟨[(4, .one ⟨.sc, .sc (.int .i64), .l []⟩)], []⟩
noncomputable def slIx_e0_1 : Pack := ⟨[], []⟩
noncomputable def slIx_L0_0w (m n : Nat) (vs : List T) (k : Ctl → Pack → An) : An := slIx_L0_0 m n (vs.headD dflt) (vs.tail.headD dflt) (vs.tail.tail.headD dflt) (vs.tail.tail.tail.headD dflt) (fun z0 => k .ret (fPack slIx_e0_0 [z0])) (k (.exit 0) (fPack slIx_e0_1 []))
noncomputable def slIx : Nat → T → T → (T → An) → An
 | 0, _, _, _ => .bad
 | m + 1, x0, x1, k0 =>
  slIx_L0_0 m m (T.l x0.rows) (T.l [(row1 x1)]) (T.i (x0.rows.length : Int)) (T.i 0)
  (fun y1 => k0 y1)
  (k0 (T.i (-1)))
noncomputable def slIx_a : List Arg := [.one (.dz [.sc (.str), .sc (.str)] []), .fn 101 [.rpt [.sc (.str)] []]]
noncomputable def slIx_w (m : Nat) (vs : List T) (k : Ret → An) : An := slIx m (vs.headD dflt) (vs.tail.headD dflt) (fun z0 => k ⟨[.one (.sc (.int .i64) z0)], [[none], []], [none, none]⟩)
theorem slIx_cf (m : Nat) : callK CX prims m = (patC 101 M_pairAt_1_a (M_pairAt_1_w m) (callK CX prims m)) := by
  rw [← patC_eq (fun vs k => M_pairAt_1_eq m vs k)]
noncomputable def slIx_c : Code := (Tryz.f100.body).getD .skip
noncomputable def slIx_fi : Fi := ⟨100, 2, 19, 16⟩
theorem slIx_lf (m : Nat) : ∀ n, (∀ vs k, loopK CX (callK CX prims m) slIx_fi slIx_c n [0, 1, 0, 1] (fPack slIx_s0_0 vs) k = slIx_L0_0w m n vs k) ∧ ((loopK CX (callK CX prims m) slIx_fi slIx_c n) = (patL [0, 1, 0, 1] slIx_s0_0 (slIx_L0_0w m n) (loopK CX (callK CX prims m) slIx_fi slIx_c n))) :=
 lf1 (fun n h0 => by rw [← patL_eq h0]) (fun vs k => rfl) fun n hn vs k => (stepL_congr (slIx_cf m) hn [0, 1, 0, 1] _ _).trans (by kernel_rfl)
theorem slIx_eq (m : Nat) : ∀ vs k, callK CX prims m 100 (fArgs slIx_a vs) k = slIx_w m vs k := by
  cases m with
  | zero => exact fun vs k => rfl
  | succ m => exact fun vs k => Eq.trans (b := bodyK CX (callK CX prims m) (loopK CX (callK CX prims m) slIx_fi slIx_c m) 100 Tryz.f100 slIx_c (fArgs slIx_a vs) k) (by kernel_rfl) ((bodyK_congr (slIx_cf m) ((slIx_lf m m).2) 100 Tryz.f100 slIx_c (fArgs slIx_a vs) k).trans (by kernel_rfl))
noncomputable def M_pairAt : Nat → T → T → (T → An) → An
 | 0, _, _, _ => .bad
 | m + 1, x0, x1, k0 =>
  slIx m (T.l x0.rows) (T.l [[x1]])
  (fun y0 => k0 y0)
noncomputable def M_pairAt_a : List Arg := [.one (.dz [.sc (.str), .sc (.str)] []), .one (.sc (.str) (.l []))]
noncomputable def M_pairAt_w (m : Nat) (vs : List T) (k : Ret → An) : An := M_pairAt m (vs.headD dflt) (vs.tail.headD dflt) (fun z0 => k ⟨[.one (.sc (.int .i64) z0)], [[none], [none]], [none, none]⟩)
theorem M_pairAt_cf (m : Nat) : callK CX prims m = (patC 100 slIx_a (slIx_w m) (callK CX prims m)) := by
  rw [← patC_eq (fun vs k => slIx_eq m vs k)]
noncomputable def M_pairAt_c : Code := (Tryz.f77.body).getD .skip
noncomputable def M_pairAt_fi : Fi := ⟨77, 2, 8, 16⟩
theorem M_pairAt_eq (m : Nat) : ∀ vs k, callK CX prims m 77 (fArgs M_pairAt_a vs) k = M_pairAt_w m vs k := by
  cases m with
  | zero => exact fun vs k => rfl
  | succ m => exact fun vs k => Eq.trans (b := bodyK CX (callK CX prims m) (loopK CX (callK CX prims m) M_pairAt_fi M_pairAt_c m) 77 Tryz.f77 M_pairAt_c (fArgs M_pairAt_a vs) k) (by kernel_rfl) ((bodyK_congr (M_pairAt_cf m) rfl 77 Tryz.f77 M_pairAt_c (fArgs M_pairAt_a vs) k).trans (by kernel_rfl))
noncomputable def M_putKey_L0_0 (m : Nat) : Nat → T → T → T → T → (T → T → T → T → An) → An
 | 0, _, _, _, _, _ => .bad
 | n + 1, x0, x1, x2, x3, k0 =>
  cond ((decide (x2.int < (x3.rows.length : Int))) == true)
  (cond (decide ((0 : Int) ≤ x2.int ∧ x2.int < (x3.rows.length : Int)))
  (cond (decide ((Int.toNat x2.int) < x3.rows.length))
  (cond ((Op.bytesLess ((x3.rows.getD (Int.toNat x2.int) []).getD 0 dflt).str.toList x0.str.toList) || (((x3.rows.getD (Int.toNat x2.int) []).getD 0 dflt).str.toList == x0.str.toList))
  (M_putKey_L0_0 m n x0 x1 (T.i (IntKind.i64.wrap (x2.int + 1))) (T.l x3.rows) k0)
  (k0 x0 x1 x2 (T.l x3.rows)))
  (.bad))
  (.bad))
  (k0 x0 x1 x2 (T.l x3.rows))
noncomputable def M_putKey_s0_0 : Pack := ⟨[(0, .one ⟨.al [0, 0] 0, .sl [.sc (.str), .sc (.str)], .l []⟩), (1, .one ⟨.sc, .sc (.str), .l []⟩), (2, .one ⟨.sc, .sc (.str), .l []⟩), (8, .one ⟨.sc, .sc (.int .i64), .l []⟩)], [([0, 0], .row [.sc (.str), .sc (.str)] [.F, .F] [])]⟩
noncomputable def M_putKey_e0_0 : Pack := ⟨[(0, .one ⟨.al [0, 0] 0, .sl [.sc (.str), .sc (.str)], .l []⟩), (1, .one ⟨.sc, .sc (.str), .l []⟩), (2, .one ⟨.sc, .sc (.str), .l []⟩), (8, .one ⟨.sc, .sc (.int .i64), .l []⟩)], [([0, 0], .row [.sc (.str), .sc (.str)] [.F, .F] [])]⟩
noncomputable def M_putKey_L0_0w (m n : Nat) (vs : List T) (k : Ctl → Pack → An) : An := M_putKey_L0_0 m n (vs.headD dflt) (vs.tail.headD dflt) (vs.tail.tail.headD dflt) (vs.tail.tail.tail.headD dflt) (fun z0 z1 z2 z3 => k (.exit 0) (fPack M_putKey_e0_0 [z0, z1, z2, z3]))
noncomputable def M_putKey : Nat → T → T → T → (T → An) → (T → An) → An
 | 0, _, _, _, _, _ => .bad
 | m + 1, x0, x1, x2, k0, k1 =>
  M_pairAt m (T.l x0.rows) x1
  (fun y0 => cond (decide (y0.int ≥ 0))
  (cond (decide ((0 : Int) ≤ y0.int ∧ y0.int < (x0.rows.length : Int)))
  (cond (decide ((Int.toNat y0.int) < x0.rows.length))
  (k0 (T.l (x0.rows.set (Int.toNat y0.int) ((x0.rows.getD (Int.toNat y0.int) []).set 1 x2))))
  (.bad))
  (.bad))
  (M_putKey_L0_0 m m x1 x2 (T.i 0) (T.l x0.rows)
  (fun y1 y2 y3 y4 => slIn m (T.l y4.rows) y3 (T.l [[y1, y2]])
  (fun y5 => k1 (T.l y5.rows)))))
noncomputable def M_putKey_a : List Arg := [.one (.own [.sc (.str), .sc (.str)] [.F, .F] []), .one (.sc (.str) (.l [])), .one (.sc (.str) (.l []))]
noncomputable def M_putKey_w (m : Nat) (vs : List T) (k : Ret → An) : An := M_putKey m (vs.headD dflt) (vs.tail.headD dflt) (vs.tail.tail.headD dflt) (fun z0 => k ⟨[.one (.par 0 0)], [[some ([.sc (.str), .sc (.str)], [.F, .F], z0.rows)], [none], [none]], [none, none, none]⟩) (fun z0 => k ⟨[.one (.own [2000041, 0, 0] [.sc (.str), .sc (.str)] [.F, .F] z0.rows)], [[none], [none], [none]], [none, none, none]⟩)
theorem M_putKey_cf (m : Nat) : callK CX prims m = (patC 77 M_pairAt_a (M_pairAt_w m) (patC 78 slIn_a (slIn_w m) (callK CX prims m))) := by
  rw [← patC_eq (fun vs k => slIn_eq m vs k), ← patC_eq (fun vs k => M_pairAt_eq m vs k)]
noncomputable def M_putKey_c : Code := (Tryz.f52.body).getD .skip
noncomputable def M_putKey_fi : Fi := ⟨52, 3, 42, 65⟩
theorem M_putKey_lf (m : Nat) : ∀ n, (∀ vs k, loopK CX (callK CX prims m) M_putKey_fi M_putKey_c n [0, 0, 1, 1, 1] (fPack M_putKey_s0_0 vs) k = M_putKey_L0_0w m n vs k) ∧ ((loopK CX (callK CX prims m) M_putKey_fi M_putKey_c n) = (patL [0, 0, 1, 1, 1] M_putKey_s0_0 (M_putKey_L0_0w m n) (loopK CX (callK CX prims m) M_putKey_fi M_putKey_c n))) :=
 lf1 (fun n h0 => by rw [← patL_eq h0]) (fun vs k => rfl) fun n hn vs k => (stepL_congr (M_putKey_cf m) hn [0, 0, 1, 1, 1] _ _).trans (by kernel_rfl)
theorem M_putKey_eq (m : Nat) : ∀ vs k, callK CX prims m 52 (fArgs M_putKey_a vs) k = M_putKey_w m vs k := by
  cases m with
  | zero => exact fun vs k => rfl
  | succ m => exact fun vs k => Eq.trans (b := bodyK CX (callK CX prims m) (loopK CX (callK CX prims m) M_putKey_fi M_putKey_c m) 52 Tryz.f52 M_putKey_c (fArgs M_putKey_a vs) k) (by kernel_rfl) ((bodyK_congr (M_putKey_cf m) ((M_putKey_lf m m).2) 52 Tryz.f52 M_putKey_c (fArgs M_putKey_a vs) k).trans (by kernel_rfl))
noncomputable def M_UnionOf_L0_0 (m : Nat) : Nat → T → T → T → T → (T → An) → An
 | 0, _, _, _, _, _ => .bad
 | n + 1, x0, x1, x2, x3, k0 =>
  cond (decide (x2.int < x1.int))
  (cond (decide ((0 : Int) ≤ x2.int ∧ x2.int < (x0.rows.length : Int)))
  (M_putKey m (T.l x3.rows) ((x0.rows.getD (Int.toNat x2.int) []).getD 0 dflt) ((x0.rows.getD (Int.toNat x2.int) []).getD 1 dflt)
  (fun y1 => M_UnionOf_L0_0 m n x0 x1 (T.i (IntKind.i64.wrap (x2.int + 1))) (T.l y1.rows) k0)
  (fun y2 => M_UnionOf_L0_0 m n x0 x1 (T.i (IntKind.i64.wrap (x2.int + 1))) (T.l y2.rows) k0))
  (.bad))
  (k0 (T.l x3.rows))
noncomputable def M_UnionOf_s0_0 : Pack := ⟨[(5, .one ⟨.al [1000000, 0] 0, .sl [.sc (.str), .sc (.str)], .l []⟩), (10, .one ⟨.sn [([4000000], 0)], .sl [.sc (.str), .sc (.str)], .l []⟩), (11, .one ⟨.sc, .sc (.int .i64), .l []⟩), (12, .one ⟨.sc, .sc (.int .i64), .l []⟩)], [([1000000, 0], .row [.sc (.str), .sc (.str)] [.F, .F] []), ([4000000], .gone)]⟩
noncomputable def M_UnionOf_e0_0 : Pack := ⟨[(5, .one ⟨.al [1000000, 0] 0, .sl [.sc (.str), .sc (.str)], .l []⟩)], [([1000000, 0], .row [.sc (.str), .sc (.str)] [.F, .F] [])]⟩
noncomputable def M_UnionOf_L0_0w (m n : Nat) (vs : List T) (k : Ctl → Pack → An) : An := M_UnionOf_L0_0 m n (vs.headD dflt) (vs.tail.headD dflt) (vs.tail.tail.headD dflt) (vs.tail.tail.tail.headD dflt) (fun z0 => k (.exit 0) (fPack M_UnionOf_e0_0 [z0]))
noncomputable def M_UnionOf : Nat → T → T → (T → An) → An
 | 0, _, _, _ => .bad
 | m + 1, x0, x1, k0 =>
  slCl m (T.l x0.rows)
  (fun y0 => M_UnionOf_L0_0 m m (T.l x1.rows) (T.i (x1.rows.length : Int)) (T.i 0) (T.l y0.rows)
  (fun y3 => k0 (T.l y3.rows)))
noncomputable def M_UnionOf_a : List Arg := [.one (.dz [.sc (.str), .sc (.str)] []), .one (.dz [.sc (.str), .sc (.str)] [])]
noncomputable def M_UnionOf_w (m : Nat) (vs : List T) (k : Ret → An) : An := M_UnionOf m (vs.headD dflt) (vs.tail.headD dflt) (fun z0 => k ⟨[.one (.own [1000000, 0] [.sc (.str), .sc (.str)] [.F, .F] z0.rows)], [[none], [none]], [none, none]⟩)
theorem M_UnionOf_cf (m : Nat) : callK CX prims m = (patC 51 slCl_a (slCl_w m) (patC 52 M_putKey_a (M_putKey_w m) (callK CX prims m))) := by
  rw [← patC_eq (fun vs k => M_putKey_eq m vs k), ← patC_eq (fun vs k => slCl_eq m vs k)]
noncomputable def M_UnionOf_c : Code := (Tryz.f26.body).getD .skip
noncomputable def M_UnionOf_fi : Fi := ⟨26, 2, 24, 16⟩
theorem M_UnionOf_lf (m : Nat) : ∀ n, (∀ vs k, loopK CX (callK CX prims m) M_UnionOf_fi M_UnionOf_c n [0, 1, 0, 1, 1] (fPack M_UnionOf_s0_0 vs) k = M_UnionOf_L0_0w m n vs k) ∧ ((loopK CX (callK CX prims m) M_UnionOf_fi M_UnionOf_c n) = (patL [0, 1, 0, 1, 1] M_UnionOf_s0_0 (M_UnionOf_L0_0w m n) (loopK CX (callK CX prims m) M_UnionOf_fi M_UnionOf_c n))) :=
 lf1 (fun n h0 => by rw [← patL_eq h0]) (fun vs k => rfl) fun n hn vs k => (stepL_congr (M_UnionOf_cf m) hn [0, 1, 0, 1, 1] _ _).trans (by kernel_rfl)
theorem M_UnionOf_eq (m : Nat) : ∀ vs k, callK CX prims m 26 (fArgs M_UnionOf_a vs) k = M_UnionOf_w m vs k := by
  cases m with
  | zero => exact fun vs k => rfl
  | succ m => exact fun vs k => Eq.trans (b := bodyK CX (callK CX prims m) (loopK CX (callK CX prims m) M_UnionOf_fi M_UnionOf_c m) 26 Tryz.f26 M_UnionOf_c (fArgs M_UnionOf_a vs) k) (by kernel_rfl) ((bodyK_congr (M_UnionOf_cf m) ((M_UnionOf_lf m m).2) 26 Tryz.f26 M_UnionOf_c (fArgs M_UnionOf_a vs) k).trans (by kernel_rfl))
noncomputable def M_CheckBundle_L0_0 (m : Nat) : Nat → T → T → T → T → T → T → T → T → T → T → T → T → (T → T → An) → (T → An) → An
 | 0, _, _, _, _, _, _, _, _, _, _, _, _, _, _ => .bad
 | n + 1, x0, x1, x2, x3, x4, x5, x6, x7, x8, x9, x10, x11, k0, k1 =>
  cond (decide (x6.int < x5.int))
  (cond (decide ((0 : Int) ≤ x6.int ∧ x6.int < (x4.rows.length : Int)))
  (cond (decide ((0 : Int) ≤ x6.int ∧ x6.int < (x9.rows.length : Int)))
  (M_CheckBetween m ((x9.rows.getD (Int.toNat x6.int) []).getD 0 dflt) x0 x1 ((x4.rows.getD (Int.toNat x6.int) []).getD 0 dflt) ((x4.rows.getD (Int.toNat x6.int) []).getD 1 dflt) (T.l ((x4.rows.getD (Int.toNat x6.int) []).getD 2 dflt).rows)
  (fun y2 y3 => cond ((!y3.bool) == false)
  (M_isOf m (T.l y2.rows) x6 x3
  (fun y4 => cond (!y4.bool)
  (k0 (T.b false) (T.l []))
  (M_UnionOf m (T.l x11.rows) (T.l y2.rows)
  (fun y5 => M_CheckBundle_L0_0 m n x0 x1 (T.i (x2.int.toNat : Int)) x3 x4 x5 (T.i (IntKind.i64.wrap (x6.int + 1))) x7 x8 x9 x10 (T.l y5.rows) k0 k1))))
  (k0 (T.b false) (T.l [])))
  (fun y6 y7 => cond ((!y7.bool) == false)
  (M_isOf m (T.l y6.rows) x6 x3
  (fun y8 => cond (!y8.bool)
  (k0 (T.b false) (T.l []))
  (M_UnionOf m (T.l x11.rows) (T.l y6.rows)
  (fun y9 => M_CheckBundle_L0_0 m n x0 x1 (T.i (x2.int.toNat : Int)) x3 x4 x5 (T.i (IntKind.i64.wrap (x6.int + 1))) x7 x8 x9 x10 (T.l y9.rows) k0 k1))))
  (k0 (T.b false) (T.l []))))
  (.bad))
  (.bad))
  (k1 (T.l x11.rows))
noncomputable def M_CheckBundle_s0_0 : Pack := ⟨[(1, .one ⟨.sc, .sc (.str), .l []⟩), (2, .one ⟨.sc, .sc (.str), .l []⟩), (7, .ptr [1000000, 0] 0 0 0), (10, .one ⟨.sc, .sc (.int .i64), .l []⟩), (11, .one ⟨.al [1000000, 1] 0, .sl [.sc (.str), .sc (.str)], .l []⟩), (41, .one ⟨.sn [([4000000], 0)], .sl [.sc (.int .i64), .sc (.int .i64), .sl [.sc (.str), .sc (.str), .sl [.sc (.str)]]], .l []⟩), (42, .one ⟨.sc, .sc (.int .i64), .l []⟩), (43, .one ⟨.sc, .sc (.int .i64), .l []⟩)], [([1000000, 0], .box [⟨.sc, .sc (.int .i64), .l []⟩, ⟨.sc, .sc (.str), .l []⟩, ⟨.sn [([4000000], 0)], .sl [.sc (.str)], .l []⟩, ⟨.sn [([4000000], 0)], .sl [.sc (.int .i64), .sc (.int .i64), .sl [.sc (.str), .sc (.str), .sl [.sc (.str)]]], .l []⟩]), ([1000000, 1], .row [.sc (.str), .sc (.str)] [.F, .F] []), ([4000000], .gone)]⟩
noncomputable def M_CheckBundle_e0_0 : Pack := ⟨[(8, .one ⟨.al [1000000, 0] 0, .sl [.sc (.str), .sc (.str)], .l []⟩), (9, .one ⟨.sc, .sc (.bool), .l []⟩)], [([1000000, 0], .row [.sc (.str), .sc (.str)] [.F, .F] [])]⟩
noncomputable def M_CheckBundle_e0_1 : Pack := ⟨[(11, .one ⟨.al [1000000, 0] 0, .sl [.sc (.str), .sc (.str)], .l []⟩)], [([1000000, 0], .row [.sc (.str), .sc (.str)] [.F, .F] [])]⟩
noncomputable def M_CheckBundle_L0_0w (m n : Nat) (vs : List T) (k : Ctl → Pack → An) : An := M_CheckBundle_L0_0 m n (vs.headD dflt) (vs.tail.headD dflt) (vs.tail.tail.headD dflt) (vs.tail.tail.tail.headD dflt) (vs.tail.tail.tail.tail.headD dflt) (vs.tail.tail.tail.tail.tail.headD dflt) (vs.tail.tail.tail.tail.tail.tail.headD dflt) (vs.tail.tail.tail.tail.tail.tail.tail.headD dflt) (vs.tail.tail.tail.tail.tail.tail.tail.tail.headD dflt) (vs.tail.tail.tail.tail.tail.tail.tail.tail.tail.headD dflt) (vs.tail.tail.tail.tail.tail.tail.tail.tail.tail.tail.headD dflt) (vs.tail.tail.tail.tail.tail.tail.tail.tail.tail.tail.tail.headD dflt) (fun z0 z1 => k .ret (fPack M_CheckBundle_e0_0 [z0, z1])) (fun z0 => k (.exit 0) (fPack M_CheckBundle_e0_1 [z0]))
noncomputable def M_CheckBundle : Nat → T → T → T → T → T → T → T → (T → T → An) → (T → T → An) → An
 | 0, _, _, _, _, _, _, _, _, _ => .bad
 | m + 1, x0, x1, x2, x3, x4, x5, x6, k0, k1 =>
  M_SuperOf m x3 x4 (T.l x5.rows)
  (fun y0 => cond ((!(y0.str.toList == x0.str.toList)) == false)
  (M_inRange m (T.i (x5.rows.length : Int)) (T.i 1) (T.i 8)
  (fun y1 => cond ((!y1.bool) == false)
  (cond ((x6.rows.length : Int) != (x5.rows.length : Int))
  (k0 (T.l []) (T.b false))
  (M_CheckBundle_L0_0 m m x1 x2 (T.i 0) (T.i (x5.rows.length : Int)) (T.l x6.rows) (T.i (x6.rows.length : Int)) (T.i 0) x3 x4 (T.l x5.rows) (T.l x6.rows) (T.l [])
  (fun y10 y11 => k1 (T.l y11.rows) y10)
  (fun y12 => k1 (T.l y12.rows) (T.b true))))
  (k0 (T.l []) (T.b false))))
  (k0 (T.l []) (T.b false)))
noncomputable def M_CheckBundle_a : List Arg := [.one (.sc (.str) (.l [])), .one (.sc (.str) (.l [])), .one (.sc (.str) (.l [])), .agg [.sc (.int .i64) (.l []), .sc (.str) (.l []), .dz [.sc (.str)] [], .dz [.sc (.int .i64), .sc (.int .i64), .sl [.sc (.str), .sc (.str), .sl [.sc (.str)]]] []]]
noncomputable def M_CheckBundle_w (m : Nat) (vs : List T) (k : Ret → An) : An := M_CheckBundle m (vs.headD dflt) (vs.tail.headD dflt) (vs.tail.tail.headD dflt) (vs.tail.tail.tail.headD dflt) (vs.tail.tail.tail.tail.headD dflt) (vs.tail.tail.tail.tail.tail.headD dflt) (vs.tail.tail.tail.tail.tail.tail.headD dflt) (fun z0 z1 => k ⟨[.one (.own [2000008] [.sc (.str), .sc (.str)] [.F, .F] z0.rows), .one (.sc (.bool) z1)], [[none], [none], [none], [none, none, none, none]], [none, none, none, none]⟩) (fun z0 z1 => k ⟨[.one (.own [1000000, 0] [.sc (.str), .sc (.str)] [.F, .F] z0.rows), .one (.sc (.bool) z1)], [[none], [none], [none], [none, none, none, none]], [none, none, none, none]⟩)
theorem M_CheckBundle_cf (m : Nat) : callK CX prims m = (patC 22 M_SuperOf_a (M_SuperOf_w m) (patC 23 M_inRange_a (M_inRange_w m) (patC 24 M_CheckBetween_a (M_CheckBetween_w m) (patC 25 M_isOf_a (M_isOf_w m) (patC 26 M_UnionOf_a (M_UnionOf_w m) (callK CX prims m)))))) := by
  rw [← patC_eq (fun vs k => M_UnionOf_eq m vs k), ← patC_eq (fun vs k => M_isOf_eq m vs k), ← patC_eq (fun vs k => M_CheckBetween_eq m vs k), ← patC_eq (fun vs k => M_inRange_eq m vs k), ← patC_eq (fun vs k => M_SuperOf_eq m vs k)]
noncomputable def M_CheckBundle_c : Code := (Tryz.f7.body).getD .skip
noncomputable def M_CheckBundle_fi : Fi := ⟨7, 4, 74, 768⟩
theorem M_CheckBundle_lf (m : Nat) : ∀ n, (∀ vs k, loopK CX (callK CX prims m) M_CheckBundle_fi M_CheckBundle_c n [0, 1, 0, 1, 1, 1, 1] (fPack M_CheckBundle_s0_0 vs) k = M_CheckBundle_L0_0w m n vs k) ∧ ((loopK CX (callK CX prims m) M_CheckBundle_fi M_CheckBundle_c n) = (patL [0, 1, 0, 1, 1, 1, 1] M_CheckBundle_s0_0 (M_CheckBundle_L0_0w m n) (loopK CX (callK CX prims m) M_CheckBundle_fi M_CheckBundle_c n))) :=
 lf1 (fun n h0 => by rw [← patL_eq h0]) (fun vs k => rfl) fun n hn vs k => (stepL_congr (M_CheckBundle_cf m) hn [0, 1, 0, 1, 1, 1, 1] _ _).trans (by kernel_rfl)
theorem M_CheckBundle_eq (m : Nat) : ∀ vs k, callK CX prims m 7 (fArgs M_CheckBundle_a vs) k = M_CheckBundle_w m vs k := by
  cases m with
  | zero => exact fun vs k => rfl
  | succ m => exact fun vs k => Eq.trans (b := bodyK CX (callK CX prims m) (loopK CX (callK CX prims m) M_CheckBundle_fi M_CheckBundle_c m) 7 Tryz.f7 M_CheckBundle_c (fArgs M_CheckBundle_a vs) k) (by kernel_rfl) ((bodyK_congr (M_CheckBundle_cf m) ((M_CheckBundle_lf m m).2) 7 Tryz.f7 M_CheckBundle_c (fArgs M_CheckBundle_a vs) k).trans (by kernel_rfl))
noncomputable def W_eqPair : Nat → T → T → T → T → (T → An) → An
 | 0, _, _, _, _, _ => .bad
 | m + 1, x0, x1, x2, x3, k0 =>
  cond (!(x0.str.toList == x2.str.toList))
  (k0 (T.b false))
  (cond (!(x1.str.toList == x3.str.toList))
  (k0 (T.b false))
  (k0 (T.b true)))
noncomputable def W_eqPair_a : List Arg := [.agg [.sc (.str) (.l []), .sc (.str) (.l [])], .agg [.sc (.str) (.l []), .sc (.str) (.l [])]]
noncomputable def W_eqPair_w (m : Nat) (vs : List T) (k : Ret → An) : An := W_eqPair m (vs.headD dflt) (vs.tail.headD dflt) (vs.tail.tail.headD dflt) (vs.tail.tail.tail.headD dflt) (fun z0 => k ⟨[.one (.sc (.bool) z0)], [[none, none], [none, none]], [none, none]⟩)
theorem W_eqPair_cf (m : Nat) : callK CX prims m = (callK CX prims m) := by
  rfl
noncomputable def W_eqPair_c : Code := (Tryz.f27.body).getD .skip
noncomputable def W_eqPair_fi : Fi := ⟨27, 2, 15, 16⟩
theorem W_eqPair_eq (m : Nat) : ∀ vs k, callK CX prims m 27 (fArgs W_eqPair_a vs) k = W_eqPair_w m vs k := by
  cases m with
  | zero => exact fun vs k => rfl
  | succ m => exact fun vs k => Eq.trans (b := bodyK CX (callK CX prims m) (loopK CX (callK CX prims m) W_eqPair_fi W_eqPair_c m) 27 Tryz.f27 W_eqPair_c (fArgs W_eqPair_a vs) k) (by kernel_rfl) ((bodyK_congr (W_eqPair_cf m) rfl 27 Tryz.f27 W_eqPair_c (fArgs W_eqPair_a vs) k).trans (by kernel_rfl))
noncomputable def W_eqPairS_L0_0 (m : Nat) : Nat → T → T → T → (T → An) → An → An
 | 0, _, _, _, _, _ => .bad
 | n + 1, x0, x1, x2, k0, k1 =>
  cond (decide (x2.int < (x0.rows.length : Int)))
  (cond (decide ((0 : Int) ≤ x2.int ∧ x2.int < (x0.rows.length : Int)))
  (cond (decide ((0 : Int) ≤ x2.int ∧ x2.int < (x1.rows.length : Int)))
  (W_eqPair m ((x0.rows.getD (Int.toNat x2.int) []).getD 0 dflt) ((x0.rows.getD (Int.toNat x2.int) []).getD 1 dflt) ((x1.rows.getD (Int.toNat x2.int) []).getD 0 dflt) ((x1.rows.getD (Int.toNat x2.int) []).getD 1 dflt)
  (fun y0 => cond (!y0.bool)
  (k0 (T.b false))
  (W_eqPairS_L0_0 m n x0 x1 (T.i (IntKind.i64.wrap (x2.int + 1))) k0 k1)))
  (.bad))
  (.bad))
  (k1 )
noncomputable def W_eqPairS_s0_0 : Pack := ⟨[(0, .one ⟨.sn [([4000000], 0)], .sl [.sc (.str), .sc (.str)], .l []⟩), (1, .one ⟨.sn [([4000000], 0)], .sl [.sc (.str), .sc (.str)], .l []⟩), (5, .one ⟨.sc, .sc (.int .i64), .l []⟩)], [([4000000], .gone)]⟩
noncomputable def W_eqPairS_e0_0 : Pack := ⟨[(4, .one ⟨.sc, .sc (.bool), .l []⟩)], []⟩
noncomputable def W_eqPairS_e0_1 : Pack := ⟨[], []⟩
noncomputable def W_eqPairS_L0_0w (m n : Nat) (vs : List T) (k : Ctl → Pack → An) : An := W_eqPairS_L0_0 m n (vs.headD dflt) (vs.tail.headD dflt) (vs.tail.tail.headD dflt) (fun z0 => k .ret (fPack W_eqPairS_e0_0 [z0])) (k (.exit 0) (fPack W_eqPairS_e0_1 []))
noncomputable def W_eqPairS : Nat → T → T → (T → An) → An
 | 0, _, _, _ => .bad
 | m + 1, x0, x1, k0 =>
  cond ((x0.rows.length : Int) != (x1.rows.length : Int))
  (k0 (T.b false))
  (W_eqPairS_L0_0 m m (T.l x0.rows) (T.l x1.rows) (T.i 0)
  (fun y1 => k0 y1)
  (k0 (T.b true)))
noncomputable def W_eqPairS_a : List Arg := [.one (.dz [.sc (.str), .sc (.str)] []), .one (.dz [.sc (.str), .sc (.str)] [])]
noncomputable def W_eqPairS_w (m : Nat) (vs : List T) (k : Ret → An) : An := W_eqPairS m (vs.headD dflt) (vs.tail.headD dflt) (fun z0 => k ⟨[.one (.sc (.bool) z0)], [[none], [none]], [none, none]⟩)
theorem W_eqPairS_cf (m : Nat) : callK CX prims m = (patC 27 W_eqPair_a (W_eqPair_w m) (callK CX prims m)) := by
  rw [← patC_eq (fun vs k => W_eqPair_eq m vs k)]
noncomputable def W_eqPairS_c : Code := (Tryz.f8.body).getD .skip
noncomputable def W_eqPairS_fi : Fi := ⟨8, 2, 27, 16⟩
theorem W_eqPairS_lf (m : Nat) : ∀ n, (∀ vs k, loopK CX (callK CX prims m) W_eqPairS_fi W_eqPairS_c n [0, 1, 0, 1, 1] (fPack W_eqPairS_s0_0 vs) k = W_eqPairS_L0_0w m n vs k) ∧ ((loopK CX (callK CX prims m) W_eqPairS_fi W_eqPairS_c n) = (patL [0, 1, 0, 1, 1] W_eqPairS_s0_0 (W_eqPairS_L0_0w m n) (loopK CX (callK CX prims m) W_eqPairS_fi W_eqPairS_c n))) :=
 lf1 (fun n h0 => by rw [← patL_eq h0]) (fun vs k => rfl) fun n hn vs k => (stepL_congr (W_eqPairS_cf m) hn [0, 1, 0, 1, 1] _ _).trans (by kernel_rfl)
theorem W_eqPairS_eq (m : Nat) : ∀ vs k, callK CX prims m 8 (fArgs W_eqPairS_a vs) k = W_eqPairS_w m vs k := by
  cases m with
  | zero => exact fun vs k => rfl
  | succ m => exact fun vs k => Eq.trans (b := bodyK CX (callK CX prims m) (loopK CX (callK CX prims m) W_eqPairS_fi W_eqPairS_c m) 8 Tryz.f8 W_eqPairS_c (fArgs W_eqPairS_a vs) k) (by kernel_rfl) ((bodyK_congr (W_eqPairS_cf m) ((W_eqPairS_lf m m).2) 8 Tryz.f8 W_eqPairS_c (fArgs W_eqPairS_a vs) k).trans (by kernel_rfl))
noncomputable def W_eqStringS_L0_0 (m : Nat) : Nat → T → T → T → (T → An) → An → An
 | 0, _, _, _, _, _ => .bad
 | n + 1, x0, x1, x2, k0, k1 =>
  cond (decide (x2.int < (x0.rows.length : Int)))
  (cond (decide ((0 : Int) ≤ x2.int ∧ x2.int < (x0.rows.length : Int)))
  (cond (decide ((0 : Int) ≤ x2.int ∧ x2.int < (x1.rows.length : Int)))
  (cond (!(((x0.rows.getD (Int.toNat x2.int) []).getD 0 dflt).str.toList == ((x1.rows.getD (Int.toNat x2.int) []).getD 0 dflt).str.toList))
  (k0 (T.b false))
  (W_eqStringS_L0_0 m n x0 x1 (T.i (IntKind.i64.wrap (x2.int + 1))) k0 k1))
  (.bad))
  (.bad))
  (k1 )
noncomputable def W_eqStringS_s0_0 : Pack := ⟨[(0, .one ⟨.sn [([4000000], 0)], .sl [.sc (.str)], .l []⟩), (1, .one ⟨.sn [([4000000], 0)], .sl [.sc (.str)], .l []⟩), (5, .one ⟨.sc, .sc (.int .i64), .l []⟩)], [([4000000], .gone)]⟩
noncomputable def W_eqStringS_e0_0 : Pack := ⟨[(4, .one ⟨.sc, .sc (.bool), .l []⟩)], []⟩
noncomputable def W_eqStringS_e0_1 : Pack := ⟨[], []⟩
noncomputable def W_eqStringS_L0_0w (m n : Nat) (vs : List T) (k : Ctl → Pack → An) : An := W_eqStringS_L0_0 m n (vs.headD dflt) (vs.tail.headD dflt) (vs.tail.tail.headD dflt) (fun z0 => k .ret (fPack W_eqStringS_e0_0 [z0])) (k (.exit 0) (fPack W_eqStringS_e0_1 []))
noncomputable def W_eqStringS : Nat → T → T → (T → An) → An
 | 0, _, _, _ => .bad
 | m + 1, x0, x1, k0 =>
  cond ((x0.rows.length : Int) != (x1.rows.length : Int))
  (k0 (T.b false))
  (W_eqStringS_L0_0 m m (T.l x0.rows) (T.l x1.rows) (T.i 0)
  (fun y0 => k0 y0)
  (k0 (T.b true)))
noncomputable def W_eqStringS_a : List Arg := [.one (.dz [.sc (.str)] []), .one (.dz [.sc (.str)] [])]
noncomputable def W_eqStringS_w (m : Nat) (vs : List T) (k : Ret → An) : An := W_eqStringS m (vs.headD dflt) (vs.tail.headD dflt) (fun z0 => k ⟨[.one (.sc (.bool) z0)], [[none], [none]], [none, none]⟩)
theorem W_eqStringS_cf (m : Nat) : callK CX prims m = (callK CX prims m) := by
  rfl
noncomputable def W_eqStringS_c : Code := (Tryz.f28.body).getD .skip
noncomputable def W_eqStringS_fi : Fi := ⟨28, 2, 26, 16⟩
theorem W_eqStringS_lf (m : Nat) : ∀ n, (∀ vs k, loopK CX (callK CX prims m) W_eqStringS_fi W_eqStringS_c n [0, 1, 0, 1, 1] (fPack W_eqStringS_s0_0 vs) k = W_eqStringS_L0_0w m n vs k) ∧ ((loopK CX (callK CX prims m) W_eqStringS_fi W_eqStringS_c n) = (patL [0, 1, 0, 1, 1] W_eqStringS_s0_0 (W_eqStringS_L0_0w m n) (loopK CX (callK CX prims m) W_eqStringS_fi W_eqStringS_c n))) :=
 lf1 (fun n h0 => by rw [← patL_eq h0]) (fun vs k => rfl) fun n hn vs k => (stepL_congr (W_eqStringS_cf m) hn [0, 1, 0, 1, 1] _ _).trans (by kernel_rfl)
theorem W_eqStringS_eq (m : Nat) : ∀ vs k, callK CX prims m 28 (fArgs W_eqStringS_a vs) k = W_eqStringS_w m vs k := by
  cases m with
  | zero => exact fun vs k => rfl
  | succ m => exact fun vs k => Eq.trans (b := bodyK CX (callK CX prims m) (loopK CX (callK CX prims m) W_eqStringS_fi W_eqStringS_c m) 28 Tryz.f28 W_eqStringS_c (fArgs W_eqStringS_a vs) k) (by kernel_rfl) ((bodyK_congr (W_eqStringS_cf m) ((W_eqStringS_lf m m).2) 28 Tryz.f28 W_eqStringS_c (fArgs W_eqStringS_a vs) k).trans (by kernel_rfl))
noncomputable def W_eqItem : Nat → T → T → T → T → T → T → (T → An) → An
 | 0, _, _, _, _, _, _, _ => .bad
 | m + 1, x0, x1, x2, x3, x4, x5, k0 =>
  W_eqPair m x0 x1 x3 x4
  (fun y0 => cond (!y0.bool)
  (k0 (T.b false))
  (W_eqStringS m (T.l x2.rows) (T.l x5.rows)
  (fun y1 => cond (!y1.bool)
  (k0 (T.b false))
  (k0 (T.b true)))))
noncomputable def W_eqItem_a : List Arg := [.agg [.sc (.str) (.l []), .sc (.str) (.l []), .dz [.sc (.str)] []], .agg [.sc (.str) (.l []), .sc (.str) (.l []), .dz [.sc (.str)] []]]
noncomputable def W_eqItem_w (m : Nat) (vs : List T) (k : Ret → An) : An := W_eqItem m (vs.headD dflt) (vs.tail.headD dflt) (vs.tail.tail.headD dflt) (vs.tail.tail.tail.headD dflt) (vs.tail.tail.tail.tail.headD dflt) (vs.tail.tail.tail.tail.tail.headD dflt) (fun z0 => k ⟨[.one (.sc (.bool) z0)], [[none, none, none], [none, none, none]], [none, none]⟩)
theorem W_eqItem_cf (m : Nat) : callK CX prims m = (patC 27 W_eqPair_a (W_eqPair_w m) (patC 28 W_eqStringS_a (W_eqStringS_w m) (callK CX prims m))) := by
  rw [← patC_eq (fun vs k => W_eqStringS_eq m vs k), ← patC_eq (fun vs k => W_eqPair_eq m vs k)]
noncomputable def W_eqItem_c : Code := (Tryz.f104.body).getD .skip
noncomputable def W_eqItem_fi : Fi := ⟨104, 2, 17, 16⟩
theorem W_eqItem_eq (m : Nat) : ∀ vs k, callK CX prims m 104 (fArgs W_eqItem_a vs) k = W_eqItem_w m vs k := by
  cases m with
  | zero => exact fun vs k => rfl
  | succ m => exact fun vs k => Eq.trans (b := bodyK CX (callK CX prims m) (loopK CX (callK CX prims m) W_eqItem_fi W_eqItem_c m) 104 Tryz.f104 W_eqItem_c (fArgs W_eqItem_a vs) k) (by kernel_rfl) ((bodyK_congr (W_eqItem_cf m) rfl 104 Tryz.f104 W_eqItem_c (fArgs W_eqItem_a vs) k).trans (by kernel_rfl))
noncomputable def W_eqItemS_L0_0 (m : Nat) : Nat → T → T → T → (T → An) → An → An
 | 0, _, _, _, _, _ => .bad
 | n + 1, x0, x1, x2, k0, k1 =>
  cond (decide (x2.int < (x0.rows.length : Int)))
  (cond (decide ((0 : Int) ≤ x2.int ∧ x2.int < (x0.rows.length : Int)))
  (cond (decide ((0 : Int) ≤ x2.int ∧ x2.int < (x1.rows.length : Int)))
  (W_eqItem m ((x0.rows.getD (Int.toNat x2.int) []).getD 0 dflt) ((x0.rows.getD (Int.toNat x2.int) []).getD 1 dflt) (T.l ((x0.rows.getD (Int.toNat x2.int) []).getD 2 dflt).rows) ((x1.rows.getD (Int.toNat x2.int) []).getD 0 dflt) ((x1.rows.getD (Int.toNat x2.int) []).getD 1 dflt) (T.l ((x1.rows.getD (Int.toNat x2.int) []).getD 2 dflt).rows)
  (fun y0 => cond (!y0.bool)
  (k0 (T.b false))
  (W_eqItemS_L0_0 m n x0 x1 (T.i (IntKind.i64.wrap (x2.int + 1))) k0 k1)))
  (.bad))
  (.bad))
  (k1 )
noncomputable def W_eqItemS_s0_0 : Pack := ⟨[(0, .one ⟨.sn [([4000000], 0)], .sl [.sc (.str), .sc (.str), .sl [.sc (.str)]], .l []⟩), (1, .one ⟨.sn [([4000000], 0)], .sl [.sc (.str), .sc (.str), .sl [.sc (.str)]], .l []⟩), (5, .one ⟨.sc, .sc (.int .i64), .l []⟩)], [([4000000], .gone)]⟩
noncomputable def W_eqItemS_e0_0 : Pack := ⟨[(4, .one ⟨.sc, .sc (.bool), .l []⟩)], []⟩
noncomputable def W_eqItemS_e0_1 : Pack := ⟨[], []⟩
noncomputable def W_eqItemS_L0_0w (m n : Nat) (vs : List T) (k : Ctl → Pack → An) : An := W_eqItemS_L0_0 m n (vs.headD dflt) (vs.tail.headD dflt) (vs.tail.tail.headD dflt) (fun z0 => k .ret (fPack W_eqItemS_e0_0 [z0])) (k (.exit 0) (fPack W_eqItemS_e0_1 []))
noncomputable def W_eqItemS : Nat → T → T → (T → An) → An
 | 0, _, _, _ => .bad
 | m + 1, x0, x1, k0 =>
  cond ((x0.rows.length : Int) != (x1.rows.length : Int))
  (k0 (T.b false))
  (W_eqItemS_L0_0 m m (T.l x0.rows) (T.l x1.rows) (T.i 0)
  (fun y1 => k0 y1)
  (k0 (T.b true)))
noncomputable def W_eqItemS_a : List Arg := [.one (.dz [.sc (.str), .sc (.str), .sl [.sc (.str)]] []), .one (.dz [.sc (.str), .sc (.str), .sl [.sc (.str)]] [])]
noncomputable def W_eqItemS_w (m : Nat) (vs : List T) (k : Ret → An) : An := W_eqItemS m (vs.headD dflt) (vs.tail.headD dflt) (fun z0 => k ⟨[.one (.sc (.bool) z0)], [[none], [none]], [none, none]⟩)
theorem W_eqItemS_cf (m : Nat) : callK CX prims m = (patC 104 W_eqItem_a (W_eqItem_w m) (callK CX prims m)) := by
  rw [← patC_eq (fun vs k => W_eqItem_eq m vs k)]
noncomputable def W_eqItemS_c : Code := (Tryz.f79.body).getD .skip
noncomputable def W_eqItemS_fi : Fi := ⟨79, 2, 27, 16⟩
theorem W_eqItemS_lf (m : Nat) : ∀ n, (∀ vs k, loopK CX (callK CX prims m) W_eqItemS_fi W_eqItemS_c n [0, 1, 0, 1, 1] (fPack W_eqItemS_s0_0 vs) k = W_eqItemS_L0_0w m n vs k) ∧ ((loopK CX (callK CX prims m) W_eqItemS_fi W_eqItemS_c n) = (patL [0, 1, 0, 1, 1] W_eqItemS_s0_0 (W_eqItemS_L0_0w m n) (loopK CX (callK CX prims m) W_eqItemS_fi W_eqItemS_c n))) :=
 lf1 (fun n h0 => by rw [← patL_eq h0]) (fun vs k => rfl) fun n hn vs k => (stepL_congr (W_eqItemS_cf m) hn [0, 1, 0, 1, 1] _ _).trans (by kernel_rfl)
theorem W_eqItemS_eq (m : Nat) : ∀ vs k, callK CX prims m 79 (fArgs W_eqItemS_a vs) k = W_eqItemS_w m vs k := by
  cases m with
  | zero => exact fun vs k => rfl
  | succ m => exact fun vs k => Eq.trans (b := bodyK CX (callK CX prims m) (loopK CX (callK CX prims m) W_eqItemS_fi W_eqItemS_c m) 79 Tryz.f79 W_eqItemS_c (fArgs W_eqItemS_a vs) k) (by kernel_rfl) ((bodyK_congr (W_eqItemS_cf m) ((W_eqItemS_lf m m).2) 79 Tryz.f79 W_eqItemS_c (fArgs W_eqItemS_a vs) k).trans (by kernel_rfl))
noncomputable def W_eqProof : Nat → T → T → T → T → T → T → (T → An) → An
 | 0, _, _, _, _, _, _, _ => .bad
 | m + 1, x0, x1, x2, x3, x4, x5, k0 =>
  cond (x0.int != x3.int)
  (k0 (T.b false))
  (cond (x1.int != x4.int)
  (k0 (T.b false))
  (W_eqItemS m (T.l x2.rows) (T.l x5.rows)
  (fun y0 => cond (!y0.bool)
  (k0 (T.b false))
  (k0 (T.b true)))))
noncomputable def W_eqProof_a : List Arg := [.agg [.sc (.int .i64) (.l []), .sc (.int .i64) (.l []), .dz [.sc (.str), .sc (.str), .sl [.sc (.str)]] []], .agg [.sc (.int .i64) (.l []), .sc (.int .i64) (.l []), .dz [.sc (.str), .sc (.str), .sl [.sc (.str)]] []]]
noncomputable def W_eqProof_w (m : Nat) (vs : List T) (k : Ret → An) : An := W_eqProof m (vs.headD dflt) (vs.tail.headD dflt) (vs.tail.tail.headD dflt) (vs.tail.tail.tail.headD dflt) (vs.tail.tail.tail.tail.headD dflt) (vs.tail.tail.tail.tail.tail.headD dflt) (fun z0 => k ⟨[.one (.sc (.bool) z0)], [[none, none, none], [none, none, none]], [none, none]⟩)
theorem W_eqProof_cf (m : Nat) : callK CX prims m = (patC 79 W_eqItemS_a (W_eqItemS_w m) (callK CX prims m)) := by
  rw [← patC_eq (fun vs k => W_eqItemS_eq m vs k)]
noncomputable def W_eqProof_c : Code := (Tryz.f53.body).getD .skip
noncomputable def W_eqProof_fi : Fi := ⟨53, 2, 21, 16⟩
theorem W_eqProof_eq (m : Nat) : ∀ vs k, callK CX prims m 53 (fArgs W_eqProof_a vs) k = W_eqProof_w m vs k := by
  cases m with
  | zero => exact fun vs k => rfl
  | succ m => exact fun vs k => Eq.trans (b := bodyK CX (callK CX prims m) (loopK CX (callK CX prims m) W_eqProof_fi W_eqProof_c m) 53 Tryz.f53 W_eqProof_c (fArgs W_eqProof_a vs) k) (by kernel_rfl) ((bodyK_congr (W_eqProof_cf m) rfl 53 Tryz.f53 W_eqProof_c (fArgs W_eqProof_a vs) k).trans (by kernel_rfl))
noncomputable def W_eqProofS_L0_0 (m : Nat) : Nat → T → T → T → (T → An) → An → An
 | 0, _, _, _, _, _ => .bad
 | n + 1, x0, x1, x2, k0, k1 =>
  cond (decide (x2.int < (x0.rows.length : Int)))
  (cond (decide ((0 : Int) ≤ x2.int ∧ x2.int < (x0.rows.length : Int)))
  (cond (decide ((0 : Int) ≤ x2.int ∧ x2.int < (x1.rows.length : Int)))
  (W_eqProof m ((x0.rows.getD (Int.toNat x2.int) []).getD 0 dflt) ((x0.rows.getD (Int.toNat x2.int) []).getD 1 dflt) (T.l ((x0.rows.getD (Int.toNat x2.int) []).getD 2 dflt).rows) ((x1.rows.getD (Int.toNat x2.int) []).getD 0 dflt) ((x1.rows.getD (Int.toNat x2.int) []).getD 1 dflt) (T.l ((x1.rows.getD (Int.toNat x2.int) []).getD 2 dflt).rows)
  (fun y0 => cond (!y0.bool)
  (k0 (T.b false))
  (W_eqProofS_L0_0 m n x0 x1 (T.i (IntKind.i64.wrap (x2.int + 1))) k0 k1)))
  (.bad))
  (.bad))
  (k1 )
noncomputable def W_eqProofS_s0_0 : Pack := ⟨[(0, .one ⟨.sn [([4000000], 0)], .sl [.sc (.int .i64), .sc (.int .i64), .sl [.sc (.str), .sc (.str), .sl [.sc (.str)]]], .l []⟩), (1, .one ⟨.sn [([4000000], 0)], .sl [.sc (.int .i64), .sc (.int .i64), .sl [.sc (.str), .sc (.str), .sl [.sc (.str)]]], .l []⟩), (5, .one ⟨.sc, .sc (.int .i64), .l []⟩)], [([4000000], .gone)]⟩
noncomputable def W_eqProofS_e0_0 : Pack := ⟨[(4, .one ⟨.sc, .sc (.bool), .l []⟩)], []⟩
noncomputable def W_eqProofS_e0_1 : Pack := ⟨[], []⟩
noncomputable def W_eqProofS_L0_0w (m n : Nat) (vs : List T) (k : Ctl → Pack → An) : An := W_eqProofS_L0_0 m n (vs.headD dflt) (vs.tail.headD dflt) (vs.tail.tail.headD dflt) (fun z0 => k .ret (fPack W_eqProofS_e0_0 [z0])) (k (.exit 0) (fPack W_eqProofS_e0_1 []))
noncomputable def W_eqProofS : Nat → T → T → (T → An) → An
 | 0, _, _, _ => .bad
 | m + 1, x0, x1, k0 =>
  cond ((x0.rows.length : Int) != (x1.rows.length : Int))
  (k0 (T.b false))
  (W_eqProofS_L0_0 m m (T.l x0.rows) (T.l x1.rows) (T.i 0)
  (fun y1 => k0 y1)
  (k0 (T.b true)))
noncomputable def W_eqProofS_a : List Arg := [.one (.dz [.sc (.int .i64), .sc (.int .i64), .sl [.sc (.str), .sc (.str), .sl [.sc (.str)]]] []), .one (.dz [.sc (.int .i64), .sc (.int .i64), .sl [.sc (.str), .sc (.str), .sl [.sc (.str)]]] [])]
noncomputable def W_eqProofS_w (m : Nat) (vs : List T) (k : Ret → An) : An := W_eqProofS m (vs.headD dflt) (vs.tail.headD dflt) (fun z0 => k ⟨[.one (.sc (.bool) z0)], [[none], [none]], [none, none]⟩)
theorem W_eqProofS_cf (m : Nat) : callK CX prims m = (patC 53 W_eqProof_a (W_eqProof_w m) (callK CX prims m)) := by
  rw [← patC_eq (fun vs k => W_eqProof_eq m vs k)]
noncomputable def W_eqProofS_c : Code := (Tryz.f29.body).getD .skip
noncomputable def W_eqProofS_fi : Fi := ⟨29, 2, 27, 16⟩
theorem W_eqProofS_lf (m : Nat) : ∀ n, (∀ vs k, loopK CX (callK CX prims m) W_eqProofS_fi W_eqProofS_c n [0, 1, 0, 1, 1] (fPack W_eqProofS_s0_0 vs) k = W_eqProofS_L0_0w m n vs k) ∧ ((loopK CX (callK CX prims m) W_eqProofS_fi W_eqProofS_c n) = (patL [0, 1, 0, 1, 1] W_eqProofS_s0_0 (W_eqProofS_L0_0w m n) (loopK CX (callK CX prims m) W_eqProofS_fi W_eqProofS_c n))) :=
 lf1 (fun n h0 => by rw [← patL_eq h0]) (fun vs k => rfl) fun n hn vs k => (stepL_congr (W_eqProofS_cf m) hn [0, 1, 0, 1, 1] _ _).trans (by kernel_rfl)
theorem W_eqProofS_eq (m : Nat) : ∀ vs k, callK CX prims m 29 (fArgs W_eqProofS_a vs) k = W_eqProofS_w m vs k := by
  cases m with
  | zero => exact fun vs k => rfl
  | succ m => exact fun vs k => Eq.trans (b := bodyK CX (callK CX prims m) (loopK CX (callK CX prims m) W_eqProofS_fi W_eqProofS_c m) 29 Tryz.f29 W_eqProofS_c (fArgs W_eqProofS_a vs) k) (by kernel_rfl) ((bodyK_congr (W_eqProofS_cf m) ((W_eqProofS_lf m m).2) 29 Tryz.f29 W_eqProofS_c (fArgs W_eqProofS_a vs) k).trans (by kernel_rfl))
noncomputable def W_eqBundle : Nat → T → T → T → T → T → T → T → T → (T → An) → An
 | 0, _, _, _, _, _, _, _, _, _ => .bad
 | m + 1, x0, x1, x2, x3, x4, x5, x6, x7, k0 =>
  cond (x0.int != x4.int)
  (k0 (T.b false))
  (cond (!(x1.str.toList == x5.str.toList))
  (k0 (T.b false))
  (W_eqStringS m (T.l x2.rows) (T.l x6.rows)
  (fun y0 => cond (!y0.bool)
  (k0 (T.b false))
  (W_eqProofS m (T.l x3.rows) (T.l x7.rows)
  (fun y1 => cond (!y1.bool)
  (k0 (T.b false))
  (k0 (T.b true)))))))
noncomputable def W_eqBundle_a : List Arg := [.agg [.sc (.int .i64) (.l []), .sc (.str) (.l []), .dz [.sc (.str)] [], .dz [.sc (.int .i64), .sc (.int .i64), .sl [.sc (.str), .sc (.str), .sl [.sc (.str)]]] []], .agg [.sc (.int .i64) (.l []), .sc (.str) (.l []), .dz [.sc (.str)] [], .dz [.sc (.int .i64), .sc (.int .i64), .sl [.sc (.str), .sc (.str), .sl [.sc (.str)]]] []]]
noncomputable def W_eqBundle_w (m : Nat) (vs : List T) (k : Ret → An) : An := W_eqBundle m (vs.headD dflt) (vs.tail.headD dflt) (vs.tail.tail.headD dflt) (vs.tail.tail.tail.headD dflt) (vs.tail.tail.tail.tail.headD dflt) (vs.tail.tail.tail.tail.tail.headD dflt) (vs.tail.tail.tail.tail.tail.tail.headD dflt) (vs.tail.tail.tail.tail.tail.tail.tail.headD dflt) (fun z0 => k ⟨[.one (.sc (.bool) z0)], [[none, none, none, none], [none, none, none, none]], [none, none]⟩)
theorem W_eqBundle_cf (m : Nat) : callK CX prims m = (patC 28 W_eqStringS_a (W_eqStringS_w m) (patC 29 W_eqProofS_a (W_eqProofS_w m) (callK CX prims m))) := by
  rw [← patC_eq (fun vs k => W_eqProofS_eq m vs k), ← patC_eq (fun vs k => W_eqStringS_eq m vs k)]
noncomputable def W_eqBundle_c : Code := (Tryz.f9.body).getD .skip
noncomputable def W_eqBundle_fi : Fi := ⟨9, 2, 27, 16⟩
theorem W_eqBundle_eq (m : Nat) : ∀ vs k, callK CX prims m 9 (fArgs W_eqBundle_a vs) k = W_eqBundle_w m vs k := by
  cases m with
  | zero => exact fun vs k => rfl
  | succ m => exact fun vs k => Eq.trans (b := bodyK CX (callK CX prims m) (loopK CX (callK CX prims m) W_eqBundle_fi W_eqBundle_c m) 9 Tryz.f9 W_eqBundle_c (fArgs W_eqBundle_a vs) k) (by kernel_rfl) ((bodyK_congr (W_eqBundle_cf m) rfl 9 Tryz.f9 W_eqBundle_c (fArgs W_eqBundle_a vs) k).trans (by kernel_rfl))
noncomputable def W_markText_L0_0 (m : Nat) : Nat → T → T → (T → An) → An
 | 0, _, _, _ => .bad
 | n + 1, x0, x1, k0 =>
  cond (decide (x0.int > 0))
  (cond (decide ((rowsBytes [[(T.i (IntKind.u8.wrap (IntKind.i64.wrap (48 + (Int.tmod x0.int 10)))))]]).size + x1.str.size < 9223372036854775808))
  (W_markText_L0_0 m n (T.i (IntKind.i64.wrap (Int.tdiv x0.int 10))) (T.s ((rowsBytes [[(T.i (IntKind.u8.wrap (IntKind.i64.wrap (48 + (Int.tmod x0.int 10)))))]]) ++ x1.str)) k0)
  (.bad))
  (k0 x1)
noncomputable def W_markText_s0_0 : Pack := ⟨[(0, .one ⟨.sc, .sc (.int .i64), .l []⟩), (3, .one ⟨.sc, .sc (.str), .l []⟩)], []⟩
noncomputable def W_markText_e0_0 : Pack := ⟨[(3, .one ⟨.sc, .sc (.str), .l []⟩)], []⟩
noncomputable def W_markText_L0_0w (m n : Nat) (vs : List T) (k : Ctl → Pack → An) : An := W_markText_L0_0 m n (vs.headD dflt) (vs.tail.headD dflt) (fun z0 => k (.exit 0) (fPack W_markText_e0_0 [z0]))
noncomputable def W_markText : Nat → T → (T → An) → An
 | 0, _, _ => .bad
 | m + 1, x0, k0 =>
  cond (decide (x0.int ≤ 0))
  (k0 (T.s (⟨#[109, 48]⟩ : ByteArray)))
  (W_markText_L0_0 m m x0 (T.s (⟨#[]⟩ : ByteArray))
  (fun y0 => cond (decide ((⟨#[109]⟩ : ByteArray).size + y0.str.size < 9223372036854775808))
  (k0 (T.s ((⟨#[109]⟩ : ByteArray) ++ y0.str)))
  (.bad)))
noncomputable def W_markText_a : List Arg := [.one (.sc (.int .i64) (.l []))]
noncomputable def W_markText_w (m : Nat) (vs : List T) (k : Ret → An) : An := W_markText m (vs.headD dflt) (fun z0 => k ⟨[.one (.sc (.str) z0)], [[none]], [none]⟩)
theorem W_markText_cf (m : Nat) : callK CX prims m = (callK CX prims m) := by
  rfl
noncomputable def W_markText_c : Code := (Tryz.f32.body).getD .skip
noncomputable def W_markText_fi : Fi := ⟨32, 1, 20, 4⟩
theorem W_markText_lf (m : Nat) : ∀ n, (∀ vs k, loopK CX (callK CX prims m) W_markText_fi W_markText_c n [0, 0, 1, 1, 1] (fPack W_markText_s0_0 vs) k = W_markText_L0_0w m n vs k) ∧ ((loopK CX (callK CX prims m) W_markText_fi W_markText_c n) = (patL [0, 0, 1, 1, 1] W_markText_s0_0 (W_markText_L0_0w m n) (loopK CX (callK CX prims m) W_markText_fi W_markText_c n))) :=
 lf1 (fun n h0 => by rw [← patL_eq h0]) (fun vs k => rfl) fun n hn vs k => (stepL_congr (W_markText_cf m) hn [0, 0, 1, 1, 1] _ _).trans (by kernel_rfl)
theorem W_markText_eq (m : Nat) : ∀ vs k, callK CX prims m 32 (fArgs W_markText_a vs) k = W_markText_w m vs k := by
  cases m with
  | zero => exact fun vs k => rfl
  | succ m => exact fun vs k => Eq.trans (b := bodyK CX (callK CX prims m) (loopK CX (callK CX prims m) W_markText_fi W_markText_c m) 32 Tryz.f32 W_markText_c (fArgs W_markText_a vs) k) (by kernel_rfl) ((bodyK_congr (W_markText_cf m) ((W_markText_lf m m).2) 32 Tryz.f32 W_markText_c (fArgs W_markText_a vs) k).trans (by kernel_rfl))
noncomputable def W_markStringS_L0_0 (m : Nat) : Nat → T → T → T → (T → T → An) → An
 | 0, _, _, _, _ => .bad
 | n + 1, x0, x1, x2, k0 =>
  cond (decide (x1.int < (x2.rows.length : Int)))
  (W_markText m x0
  (fun y0 => cond (decide ((0 : Int) ≤ x1.int ∧ x1.int < (x2.rows.length : Int)))
  (cond (decide ((Int.toNat x1.int) < x2.rows.length))
  (W_markStringS_L0_0 m n (T.i (IntKind.i64.wrap (x0.int + 1))) (T.i (IntKind.i64.wrap (x1.int + 1))) (T.l (x2.rows.set (Int.toNat x1.int) ((x2.rows.getD (Int.toNat x1.int) []).set 0 y0))) k0)
  (.bad))
  (.bad)))
  (k0 x0 (T.l x2.rows))
noncomputable def W_markStringS_s0_0 : Pack := ⟨[(0, .one ⟨.al [0, 0] 0, .sl [.sc (.str)], .l []⟩), (1, .one ⟨.sc, .sc (.int .i64), .l []⟩), (5, .one ⟨.sc, .sc (.int .i64), .l []⟩)], [([0, 0], .row [.sc (.str)] [.F] [])]⟩
noncomputable def W_markStringS_e0_0 : Pack := ⟨[(0, .one ⟨.al [0, 0] 0, .sl [.sc (.str)], .l []⟩), (1, .one ⟨.sc, .sc (.int .i64), .l []⟩)], [([0, 0], .row [.sc (.str)] [.F] [])]⟩
noncomputable def W_markStringS_L0_0w (m n : Nat) (vs : List T) (k : Ctl → Pack → An) : An := W_markStringS_L0_0 m n (vs.headD dflt) (vs.tail.headD dflt) (vs.tail.tail.headD dflt) (fun z0 z1 => k (.exit 0) (fPack W_markStringS_e0_0 [z0, z1]))
noncomputable def W_markStringS : Nat → T → T → (T → T → An) → An
 | 0, _, _, _ => .bad
 | m + 1, x0, x1, k0 =>
  W_markStringS_L0_0 m m x1 (T.i 0) (T.l x0.rows)
  (fun y1 y2 => k0 y1 (T.l y2.rows))
noncomputable def W_markStringS_a : List Arg := [.one (.own [.sc (.str)] [.F] []), .one (.sc (.int .i64) (.l []))]
noncomputable def W_markStringS_w (m : Nat) (vs : List T) (k : Ret → An) : An := W_markStringS m (vs.headD dflt) (vs.tail.headD dflt) (fun z0 z1 => k ⟨[.one (.sc (.int .i64) z0)], [[some ([.sc (.str)], [.F], z1.rows)], [none]], [none, none]⟩)
theorem W_markStringS_cf (m : Nat) : callK CX prims m = (patC 32 W_markText_a (W_markText_w m) (callK CX prims m)) := by
  rw [← patC_eq (fun vs k => W_markText_eq m vs k)]
noncomputable def W_markStringS_c : Code := (Tryz.f30.body).getD .skip
noncomputable def W_markStringS_fi : Fi := ⟨30, 2, 20, 17⟩
theorem W_markStringS_lf (m : Nat) : ∀ n, (∀ vs k, loopK CX (callK CX prims m) W_markStringS_fi W_markStringS_c n [0, 1, 0, 1] (fPack W_markStringS_s0_0 vs) k = W_markStringS_L0_0w m n vs k) ∧ ((loopK CX (callK CX prims m) W_markStringS_fi W_markStringS_c n) = (patL [0, 1, 0, 1] W_markStringS_s0_0 (W_markStringS_L0_0w m n) (loopK CX (callK CX prims m) W_markStringS_fi W_markStringS_c n))) :=
 lf1 (fun n h0 => by rw [← patL_eq h0]) (fun vs k => rfl) fun n hn vs k => (stepL_congr (W_markStringS_cf m) hn [0, 1, 0, 1] _ _).trans (by kernel_rfl)
theorem W_markStringS_eq (m : Nat) : ∀ vs k, callK CX prims m 30 (fArgs W_markStringS_a vs) k = W_markStringS_w m vs k := by
  cases m with
  | zero => exact fun vs k => rfl
  | succ m => exact fun vs k => Eq.trans (b := bodyK CX (callK CX prims m) (loopK CX (callK CX prims m) W_markStringS_fi W_markStringS_c m) 30 Tryz.f30 W_markStringS_c (fArgs W_markStringS_a vs) k) (by kernel_rfl) ((bodyK_congr (W_markStringS_cf m) ((W_markStringS_lf m m).2) 30 Tryz.f30 W_markStringS_c (fArgs W_markStringS_a vs) k).trans (by kernel_rfl))
noncomputable def W_markItemS_L0_0 (m : Nat) : Nat → T → T → T → (T → T → An) → An
 | 0, _, _, _, _ => .bad
 | n + 1, x0, x1, x2, k0 =>
  cond (decide (x1.int < (x2.rows.length : Int)))
  (W_markText m x0
  (fun y0 => cond (decide ((0 : Int) ≤ x1.int ∧ x1.int < (x2.rows.length : Int)))
  (cond (decide ((Int.toNat x1.int) < x2.rows.length))
  (W_markText m (T.i (IntKind.i64.wrap (x0.int + 1)))
  (fun y1 => cond (decide ((0 : Int) ≤ x1.int ∧ x1.int < ((x2.rows.set (Int.toNat x1.int) ((x2.rows.getD (Int.toNat x1.int) []).set 0 y0)).length : Int)))
  (cond (decide ((Int.toNat x1.int) < (x2.rows.set (Int.toNat x1.int) ((x2.rows.getD (Int.toNat x1.int) []).set 0 y0)).length))
  (cond (decide ((0 : Int) ≤ x1.int ∧ x1.int < (((x2.rows.set (Int.toNat x1.int) ((x2.rows.getD (Int.toNat x1.int) []).set 0 y0)).set (Int.toNat x1.int) (((x2.rows.set (Int.toNat x1.int) ((x2.rows.getD (Int.toNat x1.int) []).set 0 y0)).getD (Int.toNat x1.int) []).set 1 y1)).length : Int)))
  (cond (decide ((Int.toNat x1.int) < ((x2.rows.set (Int.toNat x1.int) ((x2.rows.getD (Int.toNat x1.int) []).set 0 y0)).set (Int.toNat x1.int) (((x2.rows.set (Int.toNat x1.int) ((x2.rows.getD (Int.toNat x1.int) []).set 0 y0)).getD (Int.toNat x1.int) []).set 1 y1)).length))
  (cond (decide ((Int.toNat x1.int) < ((x2.rows.set (Int.toNat x1.int) ((x2.rows.getD (Int.toNat x1.int) []).set 0 y0)).set (Int.toNat x1.int) (((x2.rows.set (Int.toNat x1.int) ((x2.rows.getD (Int.toNat x1.int) []).set 0 y0)).getD (Int.toNat x1.int) []).set 1 y1)).length))
  (W_markStringS m (T.l ((((x2.rows.set (Int.toNat x1.int) ((x2.rows.getD (Int.toNat x1.int) []).set 0 y0)).set (Int.toNat x1.int) (((x2.rows.set (Int.toNat x1.int) ((x2.rows.getD (Int.toNat x1.int) []).set 0 y0)).getD (Int.toNat x1.int) []).set 1 y1)).getD (Int.toNat x1.int) []).tail.tail.headD dflt).rows) (T.i (IntKind.i64.wrap ((IntKind.i64.wrap (x0.int + 1)) + 1)))
  (fun y2 y3 => W_markItemS_L0_0 m n y2 (T.i (IntKind.i64.wrap (x1.int + 1))) (T.l (((x2.rows.set (Int.toNat x1.int) ((x2.rows.getD (Int.toNat x1.int) []).set 0 y0)).set (Int.toNat x1.int) (((x2.rows.set (Int.toNat x1.int) ((x2.rows.getD (Int.toNat x1.int) []).set 0 y0)).getD (Int.toNat x1.int) []).set 1 y1)).set (Int.toNat x1.int) [((((x2.rows.set (Int.toNat x1.int) ((x2.rows.getD (Int.toNat x1.int) []).set 0 y0)).set (Int.toNat x1.int) (((x2.rows.set (Int.toNat x1.int) ((x2.rows.getD (Int.toNat x1.int) []).set 0 y0)).getD (Int.toNat x1.int) []).set 1 y1)).getD (Int.toNat x1.int) []).headD dflt), ((((x2.rows.set (Int.toNat x1.int) ((x2.rows.getD (Int.toNat x1.int) []).set 0 y0)).set (Int.toNat x1.int) (((x2.rows.set (Int.toNat x1.int) ((x2.rows.getD (Int.toNat x1.int) []).set 0 y0)).getD (Int.toNat x1.int) []).set 1 y1)).getD (Int.toNat x1.int) []).tail.headD dflt), (T.l y3.rows)])) k0))
  (.bad))
  (.bad))
  (.bad))
  (.bad))
  (.bad)))
  (.bad))
  (.bad)))
  (k0 x0 (T.l x2.rows))
noncomputable def W_markItemS_s0_0 : Pack := ⟨[(0, .one ⟨.al [0, 0] 0, .sl [.sc (.str), .sc (.str), .sl [.sc (.str)]], .l []⟩), (1, .one ⟨.sc, .sc (.int .i64), .l []⟩), (5, .one ⟨.sc, .sc (.int .i64), .l []⟩)], [([0, 0], .row [.sc (.str), .sc (.str), .sl [.sc (.str)]] [.F, .F, .O [.F]] [])]⟩
noncomputable def W_markItemS_e0_0 : Pack := ⟨[(0, .one ⟨.al [0, 0] 0, .sl [.sc (.str), .sc (.str), .sl [.sc (.str)]], .l []⟩), (1, .one ⟨.sc, .sc (.int .i64), .l []⟩)], [([0, 0], .row [.sc (.str), .sc (.str), .sl [.sc (.str)]] [.F, .F, .O [.F]] [])]⟩
noncomputable def W_markItemS_L0_0w (m n : Nat) (vs : List T) (k : Ctl → Pack → An) : An := W_markItemS_L0_0 m n (vs.headD dflt) (vs.tail.headD dflt) (vs.tail.tail.headD dflt) (fun z0 z1 => k (.exit 0) (fPack W_markItemS_e0_0 [z0, z1]))
noncomputable def W_markItemS : Nat → T → T → (T → T → An) → An
 | 0, _, _, _ => .bad
 | m + 1, x0, x1, k0 =>
  W_markItemS_L0_0 m m x1 (T.i 0) (T.l x0.rows)
  (fun y4 y5 => k0 y4 (T.l y5.rows))
noncomputable def W_markItemS_a : List Arg := [.one (.own [.sc (.str), .sc (.str), .sl [.sc (.str)]] [.F, .F, .O [.F]] []), .one (.sc (.int .i64) (.l []))]
noncomputable def W_markItemS_w (m : Nat) (vs : List T) (k : Ret → An) : An := W_markItemS m (vs.headD dflt) (vs.tail.headD dflt) (fun z0 z1 => k ⟨[.one (.sc (.int .i64) z0)], [[some ([.sc (.str), .sc (.str), .sl [.sc (.str)]], [.F, .F, .O [.F]], z1.rows)], [none]], [none, none]⟩)
theorem W_markItemS_cf (m : Nat) : callK CX prims m = (patC 32 W_markText_a (W_markText_w m) (patC 30 W_markStringS_a (W_markStringS_w m) (callK CX prims m))) := by
  rw [← patC_eq (fun vs k => W_markStringS_eq m vs k), ← patC_eq (fun vs k => W_markText_eq m vs k)]
noncomputable def W_markItemS_c : Code := (Tryz.f54.body).getD .skip
noncomputable def W_markItemS_fi : Fi := ⟨54, 2, 38, 17⟩
theorem W_markItemS_lf (m : Nat) : ∀ n, (∀ vs k, loopK CX (callK CX prims m) W_markItemS_fi W_markItemS_c n [0, 1, 0, 1] (fPack W_markItemS_s0_0 vs) k = W_markItemS_L0_0w m n vs k) ∧ ((loopK CX (callK CX prims m) W_markItemS_fi W_markItemS_c n) = (patL [0, 1, 0, 1] W_markItemS_s0_0 (W_markItemS_L0_0w m n) (loopK CX (callK CX prims m) W_markItemS_fi W_markItemS_c n))) :=
 lf1 (fun n h0 => by rw [← patL_eq h0]) (fun vs k => rfl) fun n hn vs k => (stepL_congr (W_markItemS_cf m) hn [0, 1, 0, 1] _ _).trans (by kernel_rfl)
theorem W_markItemS_eq (m : Nat) : ∀ vs k, callK CX prims m 54 (fArgs W_markItemS_a vs) k = W_markItemS_w m vs k := by
  cases m with
  | zero => exact fun vs k => rfl
  | succ m => exact fun vs k => Eq.trans (b := bodyK CX (callK CX prims m) (loopK CX (callK CX prims m) W_markItemS_fi W_markItemS_c m) 54 Tryz.f54 W_markItemS_c (fArgs W_markItemS_a vs) k) (by kernel_rfl) ((bodyK_congr (W_markItemS_cf m) ((W_markItemS_lf m m).2) 54 Tryz.f54 W_markItemS_c (fArgs W_markItemS_a vs) k).trans (by kernel_rfl))
noncomputable def W_markProofS_L0_0 (m : Nat) : Nat → T → T → T → (T → T → An) → An
 | 0, _, _, _, _ => .bad
 | n + 1, x0, x1, x2, k0 =>
  cond (decide (x1.int < (x2.rows.length : Int)))
  (cond (decide ((0 : Int) ≤ x1.int ∧ x1.int < (x2.rows.length : Int)))
  (cond (decide ((Int.toNat x1.int) < x2.rows.length))
  (cond (decide ((0 : Int) ≤ x1.int ∧ x1.int < ((x2.rows.set (Int.toNat x1.int) ((x2.rows.getD (Int.toNat x1.int) []).set 0 x0)).length : Int)))
  (cond (decide ((Int.toNat x1.int) < (x2.rows.set (Int.toNat x1.int) ((x2.rows.getD (Int.toNat x1.int) []).set 0 x0)).length))
  (cond (decide ((0 : Int) ≤ x1.int ∧ x1.int < (((x2.rows.set (Int.toNat x1.int) ((x2.rows.getD (Int.toNat x1.int) []).set 0 x0)).set (Int.toNat x1.int) (((x2.rows.set (Int.toNat x1.int) ((x2.rows.getD (Int.toNat x1.int) []).set 0 x0)).getD (Int.toNat x1.int) []).set 1 (T.i (IntKind.i64.wrap (x0.int + 1))))).length : Int)))
  (cond (decide ((Int.toNat x1.int) < ((x2.rows.set (Int.toNat x1.int) ((x2.rows.getD (Int.toNat x1.int) []).set 0 x0)).set (Int.toNat x1.int) (((x2.rows.set (Int.toNat x1.int) ((x2.rows.getD (Int.toNat x1.int) []).set 0 x0)).getD (Int.toNat x1.int) []).set 1 (T.i (IntKind.i64.wrap (x0.int + 1))))).length))
  (cond (decide ((Int.toNat x1.int) < ((x2.rows.set (Int.toNat x1.int) ((x2.rows.getD (Int.toNat x1.int) []).set 0 x0)).set (Int.toNat x1.int) (((x2.rows.set (Int.toNat x1.int) ((x2.rows.getD (Int.toNat x1.int) []).set 0 x0)).getD (Int.toNat x1.int) []).set 1 (T.i (IntKind.i64.wrap (x0.int + 1))))).length))
  (W_markItemS m (T.l ((((x2.rows.set (Int.toNat x1.int) ((x2.rows.getD (Int.toNat x1.int) []).set 0 x0)).set (Int.toNat x1.int) (((x2.rows.set (Int.toNat x1.int) ((x2.rows.getD (Int.toNat x1.int) []).set 0 x0)).getD (Int.toNat x1.int) []).set 1 (T.i (IntKind.i64.wrap (x0.int + 1))))).getD (Int.toNat x1.int) []).tail.tail.headD dflt).rows) (T.i (IntKind.i64.wrap ((IntKind.i64.wrap (x0.int + 1)) + 1)))
  (fun y0 y1 => W_markProofS_L0_0 m n y0 (T.i (IntKind.i64.wrap (x1.int + 1))) (T.l (((x2.rows.set (Int.toNat x1.int) ((x2.rows.getD (Int.toNat x1.int) []).set 0 x0)).set (Int.toNat x1.int) (((x2.rows.set (Int.toNat x1.int) ((x2.rows.getD (Int.toNat x1.int) []).set 0 x0)).getD (Int.toNat x1.int) []).set 1 (T.i (IntKind.i64.wrap (x0.int + 1))))).set (Int.toNat x1.int) [((((x2.rows.set (Int.toNat x1.int) ((x2.rows.getD (Int.toNat x1.int) []).set 0 x0)).set (Int.toNat x1.int) (((x2.rows.set (Int.toNat x1.int) ((x2.rows.getD (Int.toNat x1.int) []).set 0 x0)).getD (Int.toNat x1.int) []).set 1 (T.i (IntKind.i64.wrap (x0.int + 1))))).getD (Int.toNat x1.int) []).headD dflt), ((((x2.rows.set (Int.toNat x1.int) ((x2.rows.getD (Int.toNat x1.int) []).set 0 x0)).set (Int.toNat x1.int) (((x2.rows.set (Int.toNat x1.int) ((x2.rows.getD (Int.toNat x1.int) []).set 0 x0)).getD (Int.toNat x1.int) []).set 1 (T.i (IntKind.i64.wrap (x0.int + 1))))).getD (Int.toNat x1.int) []).tail.headD dflt), (T.l y1.rows)])) k0))
  (.bad))
  (.bad))
  (.bad))
  (.bad))
  (.bad))
  (.bad))
  (.bad))
  (k0 x0 (T.l x2.rows))
noncomputable def W_markProofS_s0_0 : Pack := ⟨[(0, .one ⟨.al [0, 0] 0, .sl [.sc (.int .i64), .sc (.int .i64), .sl [.sc (.str), .sc (.str), .sl [.sc (.str)]]], .l []⟩), (1, .one ⟨.sc, .sc (.int .i64), .l []⟩), (5, .one ⟨.sc, .sc (.int .i64), .l []⟩)], [([0, 0], .row [.sc (.int .i64), .sc (.int .i64), .sl [.sc (.str), .sc (.str), .sl [.sc (.str)]]] [.F, .F, .O [.F, .F, .O [.F]]] [])]⟩
noncomputable def W_markProofS_e0_0 : Pack := ⟨[(0, .one ⟨.al [0, 0] 0, .sl [.sc (.int .i64), .sc (.int .i64), .sl [.sc (.str), .sc (.str), .sl [.sc (.str)]]], .l []⟩), (1, .one ⟨.sc, .sc (.int .i64), .l []⟩)], [([0, 0], .row [.sc (.int .i64), .sc (.int .i64), .sl [.sc (.str), .sc (.str), .sl [.sc (.str)]]] [.F, .F, .O [.F, .F, .O [.F]]] [])]⟩
noncomputable def W_markProofS_L0_0w (m n : Nat) (vs : List T) (k : Ctl → Pack → An) : An := W_markProofS_L0_0 m n (vs.headD dflt) (vs.tail.headD dflt) (vs.tail.tail.headD dflt) (fun z0 z1 => k (.exit 0) (fPack W_markProofS_e0_0 [z0, z1]))
noncomputable def W_markProofS : Nat → T → T → (T → T → An) → An
 | 0, _, _, _ => .bad
 | m + 1, x0, x1, k0 =>
  W_markProofS_L0_0 m m x1 (T.i 0) (T.l x0.rows)
  (fun y2 y3 => k0 y2 (T.l y3.rows))
noncomputable def W_markProofS_a : List Arg := [.one (.own [.sc (.int .i64), .sc (.int .i64), .sl [.sc (.str), .sc (.str), .sl [.sc (.str)]]] [.F, .F, .O [.F, .F, .O [.F]]] []), .one (.sc (.int .i64) (.l []))]
noncomputable def W_markProofS_w (m : Nat) (vs : List T) (k : Ret → An) : An := W_markProofS m (vs.headD dflt) (vs.tail.headD dflt) (fun z0 z1 => k ⟨[.one (.sc (.int .i64) z0)], [[some ([.sc (.int .i64), .sc (.int .i64), .sl [.sc (.str), .sc (.str), .sl [.sc (.str)]]], [.F, .F, .O [.F, .F, .O [.F]]], z1.rows)], [none]], [none, none]⟩)
theorem W_markProofS_cf (m : Nat) : callK CX prims m = (patC 54 W_markItemS_a (W_markItemS_w m) (callK CX prims m)) := by
  rw [← patC_eq (fun vs k => W_markItemS_eq m vs k)]
noncomputable def W_markProofS_c : Code := (Tryz.f31.body).getD .skip
noncomputable def W_markProofS_fi : Fi := ⟨31, 2, 34, 17⟩
theorem W_markProofS_lf (m : Nat) : ∀ n, (∀ vs k, loopK CX (callK CX prims m) W_markProofS_fi W_markProofS_c n [0, 1, 0, 1] (fPack W_markProofS_s0_0 vs) k = W_markProofS_L0_0w m n vs k) ∧ ((loopK CX (callK CX prims m) W_markProofS_fi W_markProofS_c n) = (patL [0, 1, 0, 1] W_markProofS_s0_0 (W_markProofS_L0_0w m n) (loopK CX (callK CX prims m) W_markProofS_fi W_markProofS_c n))) :=
 lf1 (fun n h0 => by rw [← patL_eq h0]) (fun vs k => rfl) fun n hn vs k => (stepL_congr (W_markProofS_cf m) hn [0, 1, 0, 1] _ _).trans (by kernel_rfl)
theorem W_markProofS_eq (m : Nat) : ∀ vs k, callK CX prims m 31 (fArgs W_markProofS_a vs) k = W_markProofS_w m vs k := by
  cases m with
  | zero => exact fun vs k => rfl
  | succ m => exact fun vs k => Eq.trans (b := bodyK CX (callK CX prims m) (loopK CX (callK CX prims m) W_markProofS_fi W_markProofS_c m) 31 Tryz.f31 W_markProofS_c (fArgs W_markProofS_a vs) k) (by kernel_rfl) ((bodyK_congr (W_markProofS_cf m) ((W_markProofS_lf m m).2) 31 Tryz.f31 W_markProofS_c (fArgs W_markProofS_a vs) k).trans (by kernel_rfl))
noncomputable def W_markBundle : Nat → T → T → T → T → T → (T → T → T → An) → An
 | 0, _, _, _, _, _, _ => .bad
 | m + 1, x0, x1, x2, x3, x4, k0 =>
  W_markStringS m (T.l x2.rows) x4
  (fun y0 y1 => W_markProofS m (T.l x3.rows) y0
  (fun y2 y3 => k0 y2 (T.l y1.rows) (T.l y3.rows)))
noncomputable def W_markBundle_a : List Arg := [.agg [.sc (.int .i64) (.l []), .sc (.str) (.l []), .own [.sc (.str)] [.F] [], .own [.sc (.int .i64), .sc (.int .i64), .sl [.sc (.str), .sc (.str), .sl [.sc (.str)]]] [.F, .F, .O [.F, .F, .O [.F]]] []], .one (.sc (.int .i64) (.l []))]
noncomputable def W_markBundle_w (m : Nat) (vs : List T) (k : Ret → An) : An := W_markBundle m (vs.headD dflt) (vs.tail.headD dflt) (vs.tail.tail.headD dflt) (vs.tail.tail.tail.headD dflt) (vs.tail.tail.tail.tail.headD dflt) (fun z0 z1 z2 => k ⟨[.one (.sc (.int .i64) z0)], [[none, none, some ([.sc (.str)], [.F], z1.rows), some ([.sc (.int .i64), .sc (.int .i64), .sl [.sc (.str), .sc (.str), .sl [.sc (.str)]]], [.F, .F, .O [.F, .F, .O [.F]]], z2.rows)], [none]], [none, none]⟩)
theorem W_markBundle_cf (m : Nat) : callK CX prims m = (patC 30 W_markStringS_a (W_markStringS_w m) (patC 31 W_markProofS_a (W_markProofS_w m) (callK CX prims m))) := by
  rw [← patC_eq (fun vs k => W_markProofS_eq m vs k), ← patC_eq (fun vs k => W_markStringS_eq m vs k)]
noncomputable def W_markBundle_c : Code := (Tryz.f10.body).getD .skip
noncomputable def W_markBundle_fi : Fi := ⟨10, 2, 14, 17⟩
theorem W_markBundle_eq (m : Nat) : ∀ vs k, callK CX prims m 10 (fArgs W_markBundle_a vs) k = W_markBundle_w m vs k := by
  cases m with
  | zero => exact fun vs k => rfl
  | succ m => exact fun vs k => Eq.trans (b := bodyK CX (callK CX prims m) (loopK CX (callK CX prims m) W_markBundle_fi W_markBundle_c m) 10 Tryz.f10 W_markBundle_c (fArgs W_markBundle_a vs) k) (by kernel_rfl) ((bodyK_congr (W_markBundle_cf m) rfl 10 Tryz.f10 W_markBundle_c (fArgs W_markBundle_a vs) k).trans (by kernel_rfl))
noncomputable def W_markPairS_L0_0 (m : Nat) : Nat → T → T → T → (T → T → An) → An
 | 0, _, _, _, _ => .bad
 | n + 1, x0, x1, x2, k0 =>
  cond (decide (x1.int < (x2.rows.length : Int)))
  (W_markText m x0
  (fun y0 => cond (decide ((0 : Int) ≤ x1.int ∧ x1.int < (x2.rows.length : Int)))
  (cond (decide ((Int.toNat x1.int) < x2.rows.length))
  (W_markText m (T.i (IntKind.i64.wrap (x0.int + 1)))
  (fun y1 => cond (decide ((0 : Int) ≤ x1.int ∧ x1.int < ((x2.rows.set (Int.toNat x1.int) ((x2.rows.getD (Int.toNat x1.int) []).set 0 y0)).length : Int)))
  (cond (decide ((Int.toNat x1.int) < (x2.rows.set (Int.toNat x1.int) ((x2.rows.getD (Int.toNat x1.int) []).set 0 y0)).length))
  (W_markPairS_L0_0 m n (T.i (IntKind.i64.wrap ((IntKind.i64.wrap (x0.int + 1)) + 1))) (T.i (IntKind.i64.wrap (x1.int + 1))) (T.l ((x2.rows.set (Int.toNat x1.int) ((x2.rows.getD (Int.toNat x1.int) []).set 0 y0)).set (Int.toNat x1.int) (((x2.rows.set (Int.toNat x1.int) ((x2.rows.getD (Int.toNat x1.int) []).set 0 y0)).getD (Int.toNat x1.int) []).set 1 y1))) k0)
  (.bad))
  (.bad)))
  (.bad))
  (.bad)))
  (k0 x0 (T.l x2.rows))
noncomputable def W_markPairS_s0_0 : Pack := ⟨[(0, .one ⟨.al [0, 0] 0, .sl [.sc (.str), .sc (.str)], .l []⟩), (1, .one ⟨.sc, .sc (.int .i64), .l []⟩), (5, .one ⟨.sc, .sc (.int .i64), .l []⟩)], [([0, 0], .row [.sc (.str), .sc (.str)] [.F, .F] [])]⟩
noncomputable def W_markPairS_e0_0 : Pack := ⟨[(0, .one ⟨.al [0, 0] 0, .sl [.sc (.str), .sc (.str)], .l []⟩), (1, .one ⟨.sc, .sc (.int .i64), .l []⟩)], [([0, 0], .row [.sc (.str), .sc (.str)] [.F, .F] [])]⟩
noncomputable def W_markPairS_L0_0w (m n : Nat) (vs : List T) (k : Ctl → Pack → An) : An := W_markPairS_L0_0 m n (vs.headD dflt) (vs.tail.headD dflt) (vs.tail.tail.headD dflt) (fun z0 z1 => k (.exit 0) (fPack W_markPairS_e0_0 [z0, z1]))
noncomputable def W_markPairS : Nat → T → T → (T → T → An) → An
 | 0, _, _, _ => .bad
 | m + 1, x0, x1, k0 =>
  W_markPairS_L0_0 m m x1 (T.i 0) (T.l x0.rows)
  (fun y2 y3 => k0 y2 (T.l y3.rows))
noncomputable def W_markPairS_a : List Arg := [.one (.own [.sc (.str), .sc (.str)] [.F, .F] []), .one (.sc (.int .i64) (.l []))]
noncomputable def W_markPairS_w (m : Nat) (vs : List T) (k : Ret → An) : An := W_markPairS m (vs.headD dflt) (vs.tail.headD dflt) (fun z0 z1 => k ⟨[.one (.sc (.int .i64) z0)], [[some ([.sc (.str), .sc (.str)], [.F, .F], z1.rows)], [none]], [none, none]⟩)
theorem W_markPairS_cf (m : Nat) : callK CX prims m = (patC 32 W_markText_a (W_markText_w m) (callK CX prims m)) := by
  rw [← patC_eq (fun vs k => W_markText_eq m vs k)]
noncomputable def W_markPairS_c : Code := (Tryz.f11.body).getD .skip
noncomputable def W_markPairS_fi : Fi := ⟨11, 2, 29, 17⟩
theorem W_markPairS_lf (m : Nat) : ∀ n, (∀ vs k, loopK CX (callK CX prims m) W_markPairS_fi W_markPairS_c n [0, 1, 0, 1] (fPack W_markPairS_s0_0 vs) k = W_markPairS_L0_0w m n vs k) ∧ ((loopK CX (callK CX prims m) W_markPairS_fi W_markPairS_c n) = (patL [0, 1, 0, 1] W_markPairS_s0_0 (W_markPairS_L0_0w m n) (loopK CX (callK CX prims m) W_markPairS_fi W_markPairS_c n))) :=
 lf1 (fun n h0 => by rw [← patL_eq h0]) (fun vs k => rfl) fun n hn vs k => (stepL_congr (W_markPairS_cf m) hn [0, 1, 0, 1] _ _).trans (by kernel_rfl)
theorem W_markPairS_eq (m : Nat) : ∀ vs k, callK CX prims m 11 (fArgs W_markPairS_a vs) k = W_markPairS_w m vs k := by
  cases m with
  | zero => exact fun vs k => rfl
  | succ m => exact fun vs k => Eq.trans (b := bodyK CX (callK CX prims m) (loopK CX (callK CX prims m) W_markPairS_fi W_markPairS_c m) 11 Tryz.f11 W_markPairS_c (fArgs W_markPairS_a vs) k) (by kernel_rfl) ((bodyK_congr (W_markPairS_cf m) ((W_markPairS_lf m m).2) 11 Tryz.f11 W_markPairS_c (fArgs W_markPairS_a vs) k).trans (by kernel_rfl))
noncomputable def W_heldPairS_L0_0 (m : Nat) : Nat → T → T → T → (T → An) → (T → An) → An
 | 0, _, _, _, _, _ => .bad
 | n + 1, x0, x1, x2, k0, k1 =>
  cond (decide (x2.int < (x0.rows.length : Int)))
  (cond (decide ((0 : Int) ≤ x2.int ∧ x2.int < (x0.rows.length : Int)))
  (W_markText m x1
  (fun y0 => cond (!(((x0.rows.getD (Int.toNat x2.int) []).getD 0 dflt).str.toList == y0.str.toList))
  (k0 (T.i (-1)))
  (cond (decide ((0 : Int) ≤ x2.int ∧ x2.int < (x0.rows.length : Int)))
  (W_markText m (T.i (IntKind.i64.wrap (x1.int + 1)))
  (fun y1 => cond (!((((x0.rows.getD (Int.toNat x2.int) []).drop 1).getD 0 dflt).str.toList == y1.str.toList))
  (k0 (T.i (-1)))
  (W_heldPairS_L0_0 m n x0 (T.i (IntKind.i64.wrap ((IntKind.i64.wrap (x1.int + 1)) + 1))) (T.i (IntKind.i64.wrap (x2.int + 1))) k0 k1)))
  (.bad))))
  (.bad))
  (k1 x1)
noncomputable def W_heldPairS_s0_0 : Pack := ⟨[(0, .one ⟨.sn [([4000000], 0)], .sl [.sc (.str), .sc (.str)], .l []⟩), (1, .one ⟨.sc, .sc (.int .i64), .l []⟩), (5, .one ⟨.sc, .sc (.int .i64), .l []⟩)], [([4000000], .gone)]⟩
noncomputable def W_heldPairS_e0_0 : Pack := ⟨[(4, .one ⟨.sc, .sc (.int .i64), .l []⟩)], []⟩
noncomputable def W_heldPairS_e0_1 : Pack := ⟨[(1, .one ⟨.sc, .sc (.int .i64), .l []⟩)], []⟩
noncomputable def W_heldPairS_L0_0w (m n : Nat) (vs : List T) (k : Ctl → Pack → An) : An := W_heldPairS_L0_0 m n (vs.headD dflt) (vs.tail.headD dflt) (vs.tail.tail.headD dflt) (fun z0 => k .ret (fPack W_heldPairS_e0_0 [z0])) (fun z0 => k (.exit 0) (fPack W_heldPairS_e0_1 [z0]))
noncomputable def W_heldPairS : Nat → T → T → (T → An) → An
 | 0, _, _, _ => .bad
 | m + 1, x0, x1, k0 =>
  W_heldPairS_L0_0 m m (T.l x0.rows) x1 (T.i 0)
  (fun y2 => k0 y2)
  (fun y3 => k0 y3)
noncomputable def W_heldPairS_a : List Arg := [.one (.dz [.sc (.str), .sc (.str)] []), .one (.sc (.int .i64) (.l []))]
noncomputable def W_heldPairS_w (m : Nat) (vs : List T) (k : Ret → An) : An := W_heldPairS m (vs.headD dflt) (vs.tail.headD dflt) (fun z0 => k ⟨[.one (.sc (.int .i64) z0)], [[none], [none]], [none, none]⟩)
theorem W_heldPairS_cf (m : Nat) : callK CX prims m = (patC 32 W_markText_a (W_markText_w m) (callK CX prims m)) := by
  rw [← patC_eq (fun vs k => W_markText_eq m vs k)]
noncomputable def W_heldPairS_c : Code := (Tryz.f12.body).getD .skip
noncomputable def W_heldPairS_fi : Fi := ⟨12, 2, 33, 16⟩
theorem W_heldPairS_lf (m : Nat) : ∀ n, (∀ vs k, loopK CX (callK CX prims m) W_heldPairS_fi W_heldPairS_c n [0, 1, 0, 1] (fPack W_heldPairS_s0_0 vs) k = W_heldPairS_L0_0w m n vs k) ∧ ((loopK CX (callK CX prims m) W_heldPairS_fi W_heldPairS_c n) = (patL [0, 1, 0, 1] W_heldPairS_s0_0 (W_heldPairS_L0_0w m n) (loopK CX (callK CX prims m) W_heldPairS_fi W_heldPairS_c n))) :=
 lf1 (fun n h0 => by rw [← patL_eq h0]) (fun vs k => rfl) fun n hn vs k => (stepL_congr (W_heldPairS_cf m) hn [0, 1, 0, 1] _ _).trans (by kernel_rfl)
theorem W_heldPairS_eq (m : Nat) : ∀ vs k, callK CX prims m 12 (fArgs W_heldPairS_a vs) k = W_heldPairS_w m vs k := by
  cases m with
  | zero => exact fun vs k => rfl
  | succ m => exact fun vs k => Eq.trans (b := bodyK CX (callK CX prims m) (loopK CX (callK CX prims m) W_heldPairS_fi W_heldPairS_c m) 12 Tryz.f12 W_heldPairS_c (fArgs W_heldPairS_a vs) k) (by kernel_rfl) ((bodyK_congr (W_heldPairS_cf m) ((W_heldPairS_lf m m).2) 12 Tryz.f12 W_heldPairS_c (fArgs W_heldPairS_a vs) k).trans (by kernel_rfl))
noncomputable def W_FnExactCheckBundle : Nat → T → T → T → T → T → T → T → (T → An) → An
 | 0, _, _, _, _, _, _, _, _ => .bad
 | m + 1, x0, x1, x2, x3, x4, x5, x6, k0 =>
  cond (decide ((x0.str.size : Int) > 1048576))
  (k0 (T.b true))
  (cond (decide ((x1.str.size : Int) > 1048576))
  (k0 (T.b true))
  (cond (decide ((x2.str.size : Int) > 1048576))
  (k0 (T.b true))
  (W_szBundle m x3 x4 (T.l x5.rows) (T.l x6.rows) (T.i 1048576)
  (fun y0 => cond (decide (y0.int < 0))
  (k0 (T.b true))
  (W_toBundle m x3 x4 (T.l x5.rows) (T.l x6.rows)
  (fun y1 y2 y3 y4 => S_CheckBundle m x0 x1 x2 y1 y2 (T.l y3.rows) (T.l y4.rows)
  (fun y5 y6 => W_toBundle m x3 x4 (T.l x5.rows) (T.l x6.rows)
  (fun y7 y8 y9 y10 => M_CheckBundle m x0 x1 x2 y7 y8 (T.l y9.rows) (T.l y10.rows)
  (fun y11 y12 => W_eqPairS m (T.l y11.rows) (T.l y5.rows)
  (fun y13 => cond ((!y13.bool) == false)
  (cond (!(y12.bool == y6.bool))
  (k0 (T.b false))
  (W_toBundle m x3 x4 (T.l x5.rows) (T.l x6.rows)
  (fun y14 y15 y16 y17 => W_eqBundle m y7 y8 (T.l y9.rows) (T.l y10.rows) y14 y15 (T.l y16.rows) (T.l y17.rows)
  (fun y18 => cond (!y18.bool)
  (k0 (T.b false))
  (W_markBundle m y7 y8 (T.l y9.rows) (T.l y10.rows) (T.i 1)
  (fun y19 y20 y21 => cond ((decide (y19.int < 0)) == false)
  (W_eqPairS m (T.l y11.rows) (T.l y5.rows)
  (fun y22 => cond ((!y22.bool) == false)
  (cond (!(y12.bool == y6.bool))
  (k0 (T.b false))
  (W_markPairS m (T.l y11.rows) (T.i 1)
  (fun y23 y24 => W_heldPairS m (T.l y24.rows) (T.i 1)
  (fun y25 => cond (decide (y25.int < 0))
  (k0 (T.b false))
  (cond (y25.int != y23.int)
  (k0 (T.b false))
  (W_toBundle m x3 x4 (T.l x5.rows) (T.l x6.rows)
  (fun y26 y27 y28 y29 => M_CheckBundle m x0 x1 x2 y26 y27 (T.l y28.rows) (T.l y29.rows)
  (fun y30 y31 => W_eqPairS m (T.l y30.rows) (T.l y5.rows)
  (fun y32 => cond ((!y32.bool) == false)
  (cond (!(y31.bool == y6.bool))
  (k0 (T.b false))
  (W_heldPairS m (T.l y24.rows) (T.i 1)
  (fun y33 => cond (decide (y33.int < 0))
  (k0 (T.b false))
  (cond (y33.int != y23.int)
  (k0 (T.b false))
  (k0 (T.b true))))))
  (k0 (T.b false))))
  (fun y34 y35 => W_eqPairS m (T.l y34.rows) (T.l y5.rows)
  (fun y36 => cond ((!y36.bool) == false)
  (cond (!(y35.bool == y6.bool))
  (k0 (T.b false))
  (W_heldPairS m (T.l y24.rows) (T.i 1)
  (fun y37 => cond (decide (y37.int < 0))
  (k0 (T.b false))
  (cond (y37.int != y23.int)
  (k0 (T.b false))
  (k0 (T.b true))))))
  (k0 (T.b false)))))))))))
  (k0 (T.b false))))
  (k0 (T.b false))))))))
  (k0 (T.b false))))
  (fun y38 y39 => W_eqPairS m (T.l y38.rows) (T.l y5.rows)
  (fun y40 => cond ((!y40.bool) == false)
  (cond (!(y39.bool == y6.bool))
  (k0 (T.b false))
  (W_toBundle m x3 x4 (T.l x5.rows) (T.l x6.rows)
  (fun y41 y42 y43 y44 => W_eqBundle m y7 y8 (T.l y9.rows) (T.l y10.rows) y41 y42 (T.l y43.rows) (T.l y44.rows)
  (fun y45 => cond (!y45.bool)
  (k0 (T.b false))
  (W_markBundle m y7 y8 (T.l y9.rows) (T.l y10.rows) (T.i 1)
  (fun y46 y47 y48 => cond ((decide (y46.int < 0)) == false)
  (W_eqPairS m (T.l y38.rows) (T.l y5.rows)
  (fun y49 => cond ((!y49.bool) == false)
  (cond (!(y39.bool == y6.bool))
  (k0 (T.b false))
  (W_markPairS m (T.l y38.rows) (T.i 1)
  (fun y50 y51 => W_heldPairS m (T.l y51.rows) (T.i 1)
  (fun y52 => cond (decide (y52.int < 0))
  (k0 (T.b false))
  (cond (y52.int != y50.int)
  (k0 (T.b false))
  (W_toBundle m x3 x4 (T.l x5.rows) (T.l x6.rows)
  (fun y53 y54 y55 y56 => M_CheckBundle m x0 x1 x2 y53 y54 (T.l y55.rows) (T.l y56.rows)
  (fun y57 y58 => W_eqPairS m (T.l y57.rows) (T.l y5.rows)
  (fun y59 => cond ((!y59.bool) == false)
  (cond (!(y58.bool == y6.bool))
  (k0 (T.b false))
  (W_heldPairS m (T.l y51.rows) (T.i 1)
  (fun y60 => cond (decide (y60.int < 0))
  (k0 (T.b false))
  (cond (y60.int != y50.int)
  (k0 (T.b false))
  (k0 (T.b true))))))
  (k0 (T.b false))))
  (fun y61 y62 => W_eqPairS m (T.l y61.rows) (T.l y5.rows)
  (fun y63 => cond ((!y63.bool) == false)
  (cond (!(y62.bool == y6.bool))
  (k0 (T.b false))
  (W_heldPairS m (T.l y51.rows) (T.i 1)
  (fun y64 => cond (decide (y64.int < 0))
  (k0 (T.b false))
  (cond (y64.int != y50.int)
  (k0 (T.b false))
  (k0 (T.b true))))))
  (k0 (T.b false)))))))))))
  (k0 (T.b false))))
  (k0 (T.b false))))))))
  (k0 (T.b false))))))
  (fun y65 y66 => W_toBundle m x3 x4 (T.l x5.rows) (T.l x6.rows)
  (fun y67 y68 y69 y70 => M_CheckBundle m x0 x1 x2 y67 y68 (T.l y69.rows) (T.l y70.rows)
  (fun y71 y72 => W_eqPairS m (T.l y71.rows) (T.l y65.rows)
  (fun y73 => cond ((!y73.bool) == false)
  (cond (!(y72.bool == y66.bool))
  (k0 (T.b false))
  (W_toBundle m x3 x4 (T.l x5.rows) (T.l x6.rows)
  (fun y74 y75 y76 y77 => W_eqBundle m y67 y68 (T.l y69.rows) (T.l y70.rows) y74 y75 (T.l y76.rows) (T.l y77.rows)
  (fun y78 => cond (!y78.bool)
  (k0 (T.b false))
  (W_markBundle m y67 y68 (T.l y69.rows) (T.l y70.rows) (T.i 1)
  (fun y79 y80 y81 => cond ((decide (y79.int < 0)) == false)
  (W_eqPairS m (T.l y71.rows) (T.l y65.rows)
  (fun y82 => cond ((!y82.bool) == false)
  (cond (!(y72.bool == y66.bool))
  (k0 (T.b false))
  (W_markPairS m (T.l y71.rows) (T.i 1)
  (fun y83 y84 => W_heldPairS m (T.l y84.rows) (T.i 1)
  (fun y85 => cond (decide (y85.int < 0))
  (k0 (T.b false))
  (cond (y85.int != y83.int)
  (k0 (T.b false))
  (W_toBundle m x3 x4 (T.l x5.rows) (T.l x6.rows)
  (fun y86 y87 y88 y89 => M_CheckBundle m x0 x1 x2 y86 y87 (T.l y88.rows) (T.l y89.rows)
  (fun y90 y91 => W_eqPairS m (T.l y90.rows) (T.l y65.rows)
  (fun y92 => cond ((!y92.bool) == false)
  (cond (!(y91.bool == y66.bool))
  (k0 (T.b false))
  (W_heldPairS m (T.l y84.rows) (T.i 1)
  (fun y93 => cond (decide (y93.int < 0))
  (k0 (T.b false))
  (cond (y93.int != y83.int)
  (k0 (T.b false))
  (k0 (T.b true))))))
  (k0 (T.b false))))
  (fun y94 y95 => W_eqPairS m (T.l y94.rows) (T.l y65.rows)
  (fun y96 => cond ((!y96.bool) == false)
  (cond (!(y95.bool == y66.bool))
  (k0 (T.b false))
  (W_heldPairS m (T.l y84.rows) (T.i 1)
  (fun y97 => cond (decide (y97.int < 0))
  (k0 (T.b false))
  (cond (y97.int != y83.int)
  (k0 (T.b false))
  (k0 (T.b true))))))
  (k0 (T.b false)))))))))))
  (k0 (T.b false))))
  (k0 (T.b false))))))))
  (k0 (T.b false))))
  (fun y98 y99 => W_eqPairS m (T.l y98.rows) (T.l y65.rows)
  (fun y100 => cond ((!y100.bool) == false)
  (cond (!(y99.bool == y66.bool))
  (k0 (T.b false))
  (W_toBundle m x3 x4 (T.l x5.rows) (T.l x6.rows)
  (fun y101 y102 y103 y104 => W_eqBundle m y67 y68 (T.l y69.rows) (T.l y70.rows) y101 y102 (T.l y103.rows) (T.l y104.rows)
  (fun y105 => cond (!y105.bool)
  (k0 (T.b false))
  (W_markBundle m y67 y68 (T.l y69.rows) (T.l y70.rows) (T.i 1)
  (fun y106 y107 y108 => cond ((decide (y106.int < 0)) == false)
  (W_eqPairS m (T.l y98.rows) (T.l y65.rows)
  (fun y109 => cond ((!y109.bool) == false)
  (cond (!(y99.bool == y66.bool))
  (k0 (T.b false))
  (W_markPairS m (T.l y98.rows) (T.i 1)
  (fun y110 y111 => W_heldPairS m (T.l y111.rows) (T.i 1)
  (fun y112 => cond (decide (y112.int < 0))
  (k0 (T.b false))
  (cond (y112.int != y110.int)
  (k0 (T.b false))
  (W_toBundle m x3 x4 (T.l x5.rows) (T.l x6.rows)
  (fun y113 y114 y115 y116 => M_CheckBundle m x0 x1 x2 y113 y114 (T.l y115.rows) (T.l y116.rows)
  (fun y117 y118 => W_eqPairS m (T.l y117.rows) (T.l y65.rows)
  (fun y119 => cond ((!y119.bool) == false)
  (cond (!(y118.bool == y66.bool))
  (k0 (T.b false))
  (W_heldPairS m (T.l y111.rows) (T.i 1)
  (fun y120 => cond (decide (y120.int < 0))
  (k0 (T.b false))
  (cond (y120.int != y110.int)
  (k0 (T.b false))
  (k0 (T.b true))))))
  (k0 (T.b false))))
  (fun y121 y122 => W_eqPairS m (T.l y121.rows) (T.l y65.rows)
  (fun y123 => cond ((!y123.bool) == false)
  (cond (!(y122.bool == y66.bool))
  (k0 (T.b false))
  (W_heldPairS m (T.l y111.rows) (T.i 1)
  (fun y124 => cond (decide (y124.int < 0))
  (k0 (T.b false))
  (cond (y124.int != y110.int)
  (k0 (T.b false))
  (k0 (T.b true))))))
  (k0 (T.b false)))))))))))
  (k0 (T.b false))))
  (k0 (T.b false))))))))
  (k0 (T.b false))))))))))))
noncomputable def W_FnExactCheckBundle_a : List Arg := [.one (.sc (.str) (.l [])), .one (.sc (.str) (.l [])), .one (.sc (.str) (.l [])), .agg [.sc (.int .i64) (.l []), .sc (.str) (.l []), .fz [.sc (.str)] [], .fz [.sc (.int .i64), .sc (.int .i64), .sl [.sc (.str), .sc (.str), .sl [.sc (.str)]]] []]]
noncomputable def W_FnExactCheckBundle_w (m : Nat) (vs : List T) (k : Ret → An) : An := W_FnExactCheckBundle m (vs.headD dflt) (vs.tail.headD dflt) (vs.tail.tail.headD dflt) (vs.tail.tail.tail.headD dflt) (vs.tail.tail.tail.tail.headD dflt) (vs.tail.tail.tail.tail.tail.headD dflt) (vs.tail.tail.tail.tail.tail.tail.headD dflt) (fun z0 => k ⟨[.one (.sc (.bool) z0)], [[none], [none], [none], [none, none, none, none]], [none, none, none, none]⟩)
theorem W_FnExactCheckBundle_cf (m : Nat) : callK CX prims m = (patC 4 W_szBundle_a (W_szBundle_w m) (patC 6 W_toBundle_a (W_toBundle_w m) (patC 5 S_CheckBundle_a (S_CheckBundle_w m) (patC 7 M_CheckBundle_a (M_CheckBundle_w m) (patC 8 W_eqPairS_a (W_eqPairS_w m) (patC 9 W_eqBundle_a (W_eqBundle_w m) (patC 10 W_markBundle_a (W_markBundle_w m) (patC 11 W_markPairS_a (W_markPairS_w m) (patC 12 W_heldPairS_a (W_heldPairS_w m) (callK CX prims m)))))))))) := by
  rw [← patC_eq (fun vs k => W_heldPairS_eq m vs k), ← patC_eq (fun vs k => W_markPairS_eq m vs k), ← patC_eq (fun vs k => W_markBundle_eq m vs k), ← patC_eq (fun vs k => W_eqBundle_eq m vs k), ← patC_eq (fun vs k => W_eqPairS_eq m vs k), ← patC_eq (fun vs k => M_CheckBundle_eq m vs k), ← patC_eq (fun vs k => S_CheckBundle_eq m vs k), ← patC_eq (fun vs k => W_toBundle_eq m vs k), ← patC_eq (fun vs k => W_szBundle_eq m vs k)]
noncomputable def W_FnExactCheckBundle_c : Code := (Tryz.f3.body).getD .skip
noncomputable def W_FnExactCheckBundle_fi : Fi := ⟨3, 4, 120, 256⟩
theorem W_FnExactCheckBundle_eq (m : Nat) : ∀ vs k, callK CX prims m 3 (fArgs W_FnExactCheckBundle_a vs) k = W_FnExactCheckBundle_w m vs k := by
  cases m with
  | zero => exact fun vs k => rfl
  | succ m => exact fun vs k => Eq.trans (b := bodyK CX (callK CX prims m) (loopK CX (callK CX prims m) W_FnExactCheckBundle_fi W_FnExactCheckBundle_c m) 3 Tryz.f3 W_FnExactCheckBundle_c (fArgs W_FnExactCheckBundle_a vs) k) (by kernel_rfl) ((bodyK_congr (W_FnExactCheckBundle_cf m) rfl 3 Tryz.f3 W_FnExactCheckBundle_c (fArgs W_FnExactCheckBundle_a vs) k).trans (by kernel_rfl))
end Go.Proofs.YtdhldbjjdlnbmaaGreat

