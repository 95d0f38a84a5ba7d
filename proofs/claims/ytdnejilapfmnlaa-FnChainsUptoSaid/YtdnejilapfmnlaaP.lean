/- A part of the proof: texts S4P: see the last part's opening words. -/
import Derived.Test.YtdnejilapfmnlaaH
set_option linter.unusedVariables false
set_option linter.unusedSimpArgs false
set_option linter.unnecessarySimpa false
namespace Go.Proofs.Ytdnejilapfmnlaa
open Go Go.E Go.Proofs
def impl_Digest : Nat → T → (T → An) → An
  | 0, _, _ => .bad
  | m + 1, x0, k0 => cond (decide (x0.rows.length ≤ 1073741824)) (k0 (.s (digestB x0.rows))) .bad
noncomputable def impl_Digest_a : List Arg := [.one (.dz [.sc (.int .u8)] [])]
def impl_Digest_w (m : Nat) (vs : List T) (k : Ret → An) : An := impl_Digest m (vs.headD dflt) (fun z0 => k ⟨[.one (.sc .str z0)], [[none]], []⟩)
theorem impl_Digest_eq (m : Nat) : ∀ vs k, callK CX prims m 26 (fArgs impl_Digest_a vs) k = impl_Digest_w m vs k := by
  intro vs k
  cases m with
  | zero => rfl
  | succ m =>
    refine Eq.trans (b := (primDigest (fArgs impl_Digest_a vs)).bind k) (by kernel_rfl) ?_
    refine Eq.trans (b := (cond (decide ((vs.headD dflt).rows.length ≤ 1073741824)) (R3.ok ⟨[.one (.sc .str (.s (digestB (vs.headD dflt).rows)))], [[none]], []⟩) .bad).bind k) (by kernel_rfl) ?_
    rw [cond_bind]; rfl

def impl_Digest_nil : Nat → T → (T → An) → An
  | 0, _, _ => .bad
  | m + 1, x0, k0 => cond x0.rows.isEmpty (k0 (.s (digestB []))) .bad
noncomputable def impl_Digest_nil_a : List Arg := [.one (.dz [] [])]
def impl_Digest_nil_w (m : Nat) (vs : List T) (k : Ret → An) : An := impl_Digest_nil m (vs.headD dflt) (fun z0 => k ⟨[.one (.sc .str z0)], [[none]], []⟩)
theorem impl_Digest_nil_eq (m : Nat) : ∀ vs k, callK CX prims m 26 (fArgs impl_Digest_nil_a vs) k = impl_Digest_nil_w m vs k := by
  intro vs k
  cases m with
  | zero => rfl
  | succ m =>
    refine Eq.trans (b := (primDigest (fArgs impl_Digest_nil_a vs)).bind k) (by kernel_rfl) ?_
    refine Eq.trans (b := (cond (vs.headD dflt).rows.isEmpty (R3.ok ⟨[.one (.sc .str (.s (digestB [])))], [[none]], []⟩) .bad).bind k) (by kernel_rfl) ?_
    rw [cond_bind]; rfl

/-! loop.example/g00244/laws.szStringS -/
noncomputable def laws_szStringS_L0_0 (m : Nat) : Nat → T → T → T → (T → An) → (T → An) → An
  | 0, _, _, _, _, _ => .bad
  | n + 1, x0, x1, x2, k0, k1 =>
    cond (decide (x2.int < (x0.rows.length : Int)))
    (cond (decide ((0 : Int) ≤ x2.int ∧ x2.int < (x0.rows.length : Int)))
    (cond (decide ((IntKind.i64.wrap (x1.int - (((x0.rows.getD (Int.toNat x2.int) []).getD 0 dflt).str.size : Int))) < 0))
    (k0 (T.i (-1)))
    (laws_szStringS_L0_0 m n x0 (T.i (IntKind.i64.wrap (x1.int - (((x0.rows.getD (Int.toNat x2.int) []).getD 0 dflt).str.size : Int)))) (T.i (IntKind.i64.wrap (x2.int + 1))) k0 k1))
    (.bad))
    (k1 x1)
noncomputable def laws_szStringS_s0_0 : Pack := ⟨[(0, .one ⟨.sn [([4000000], 0)], .sl [.sc (.str)], .l []⟩), (1, .one ⟨.sc, .sc (.int .i64), .l []⟩), (5, .one ⟨.sc, .sc (.int .i64), .l []⟩)], [([4000000], .gone)]⟩
noncomputable def laws_szStringS_e0_0 : Pack := ⟨[(4, .one ⟨.sc, .sc (.int .i64), .l []⟩)], []⟩
noncomputable def laws_szStringS_e0_1 : Pack := ⟨[(1, .one ⟨.sc, .sc (.int .i64), .l []⟩)], []⟩
noncomputable def laws_szStringS_L0_0w (m n : Nat) (vs : List T) (k : Ctl → Pack → An) : An := laws_szStringS_L0_0 m n (vs.headD dflt) (vs.tail.headD dflt) (vs.tail.tail.headD dflt) (fun z0 => k .ret (fPack laws_szStringS_e0_0 [z0])) (fun z0 => k (.exit 0) (fPack laws_szStringS_e0_1 [z0]))
noncomputable def laws_szStringS : Nat → T → T → (T → An) → An
  | 0, _, _, _ => .bad
  | m + 1, x0, x1, k0 =>
    cond (decide ((IntKind.i64.wrap (x1.int - (x0.rows.length : Int))) < 0))
    (k0 (T.i (-1)))
    (laws_szStringS_L0_0 m m (T.l x0.rows) (T.i (IntKind.i64.wrap (x1.int - (x0.rows.length : Int)))) (T.i 0)
    (fun y0 => k0 y0)
    (fun y1 => k0 y1))
noncomputable def laws_szStringS_a : List Arg := [.one (.dz [.sc (.str)] []), .one (.sc (.int .i64) (.l []))]
noncomputable def laws_szStringS_w (m : Nat) (vs : List T) (k : Ret → An) : An := laws_szStringS m (vs.headD dflt) (vs.tail.headD dflt) (fun z0 => k ⟨[.one (.sc (.int .i64) z0)], [[none], [none]], [none, none]⟩)
theorem laws_szStringS_cf (m : Nat) : callK CX prims m = (callK CX prims m) := by
  rfl
noncomputable def laws_szStringS_c : Code := (Try.f7.body).getD .skip
noncomputable def laws_szStringS_fi : Fi := ⟨7, 2, 28, 16⟩
theorem laws_szStringS_lf (m : Nat) : ∀ n, (∀ vs k, loopK CX (callK CX prims m) laws_szStringS_fi laws_szStringS_c n [0, 1, 0, 1, 1, 1] (fPack laws_szStringS_s0_0 vs) k = laws_szStringS_L0_0w m n vs k) ∧ ((loopK CX (callK CX prims m) laws_szStringS_fi laws_szStringS_c n) = (patL [0, 1, 0, 1, 1, 1] laws_szStringS_s0_0 (laws_szStringS_L0_0w m n) (loopK CX (callK CX prims m) laws_szStringS_fi laws_szStringS_c n))) := by
  intro n
  have hl : ∀ n, (∀ vs k, loopK CX (callK CX prims m) laws_szStringS_fi laws_szStringS_c n [0, 1, 0, 1, 1, 1] (fPack laws_szStringS_s0_0 vs) k = laws_szStringS_L0_0w m n vs k) → ((loopK CX (callK CX prims m) laws_szStringS_fi laws_szStringS_c n) = (patL [0, 1, 0, 1, 1, 1] laws_szStringS_s0_0 (laws_szStringS_L0_0w m n) (loopK CX (callK CX prims m) laws_szStringS_fi laws_szStringS_c n))) := by
    intro n h0
    rw [← patL_eq h0]
  induction n with
  | zero => exact ⟨fun vs k => rfl, hl 0 (fun vs k => rfl)⟩
  | succ n ihn =>
    have hn := ihn.2
    have h0 : ∀ vs k, loopK CX (callK CX prims m) laws_szStringS_fi laws_szStringS_c (n + 1) [0, 1, 0, 1, 1, 1] (fPack laws_szStringS_s0_0 vs) k = laws_szStringS_L0_0w m (n + 1) vs k := fun vs k =>
      (stepL_congr (laws_szStringS_cf m) hn [0, 1, 0, 1, 1, 1] _ _).trans (by kernel_rfl)
    exact ⟨h0, hl (n + 1) h0⟩
theorem laws_szStringS_eq (m : Nat) : ∀ vs k, callK CX prims m 7 (fArgs laws_szStringS_a vs) k = laws_szStringS_w m vs k := by
  cases m with
  | zero => exact fun vs k => rfl
  | succ m => exact fun vs k => Eq.trans (b := bodyK CX (callK CX prims m) (loopK CX (callK CX prims m) laws_szStringS_fi laws_szStringS_c m) 7 Try.f7 laws_szStringS_c (fArgs laws_szStringS_a vs) k) (by kernel_rfl) ((bodyK_congr (laws_szStringS_cf m) ((laws_szStringS_lf m m).2) 7 Try.f7 laws_szStringS_c (fArgs laws_szStringS_a vs) k).trans (by kernel_rfl))

/-! loop.example/g00244/laws.toStringS -/
noncomputable def laws_toStringS_L0_0 (m : Nat) : Nat → T → T → T → (T → An) → An
  | 0, _, _, _, _ => .bad
  | n + 1, x0, x1, x2, k0 =>
    cond (decide (x1.int < (x0.rows.length : Int)))
    (cond (decide ((0 : Int) ≤ x1.int ∧ x1.int < (x0.rows.length : Int)))
    (cond (decide ((0 : Int) ≤ x1.int ∧ x1.int < (x2.rows.length : Int)))
    (cond (decide ((Int.toNat x1.int) < x2.rows.length))
    (laws_toStringS_L0_0 m n x0 (T.i (IntKind.i64.wrap (x1.int + 1))) (T.l (x2.rows.set (Int.toNat x1.int) ((x2.rows.getD (Int.toNat x1.int) []).set 0 ((x0.rows.getD (Int.toNat x1.int) []).getD 0 dflt)))) k0)
    (.bad))
    (.bad))
    (.bad))
    (k0 (T.l x2.rows))
noncomputable def laws_toStringS_s0_0 : Pack := ⟨[(0, .one ⟨.sn [([4000000], 0)], .sl [.sc (.str)], .l []⟩), (3, .one ⟨.al [1000000, 1] 0, .sl [.sc (.str)], .l []⟩), (4, .one ⟨.sc, .sc (.int .i64), .l []⟩)], [([4000000], .gone), ([1000000, 1], .row [.sc (.str)] [.F] [])]⟩
noncomputable def laws_toStringS_e0_0 : Pack := ⟨[(3, .one ⟨.al [1000000, 0] 0, .sl [.sc (.str)], .l []⟩)], [([1000000, 0], .row [.sc (.str)] [.F] [])]⟩
noncomputable def laws_toStringS_L0_0w (m n : Nat) (vs : List T) (k : Ctl → Pack → An) : An := laws_toStringS_L0_0 m n (vs.headD dflt) (vs.tail.headD dflt) (vs.tail.tail.headD dflt) (fun z0 => k (.exit 0) (fPack laws_toStringS_e0_0 [z0]))
noncomputable def laws_toStringS : Nat → T → (T → An) → An
  | 0, _, _ => .bad
  | m + 1, x0, k0 =>
    cond (decide (0 ≤ (x0.rows.length : Int) ∧ (x0.rows.length : Int) ≤ (x0.rows.length : Int)))
    (cond (decide ((x0.rows.length : Int) * ((16 : Nat) : Int) ≤ (maxCells : Int)))
    (laws_toStringS_L0_0 m m (T.l x0.rows) (T.i 0) (T.l (List.replicate (Int.toNat (x0.rows.length : Int)) [(T.s (⟨#[]⟩ : ByteArray))]))
    (fun y0 => k0 (T.l y0.rows)))
    (.bad))
    (.bad)
noncomputable def laws_toStringS_a : List Arg := [.one (.dz [.sc (.str)] [])]
noncomputable def laws_toStringS_w (m : Nat) (vs : List T) (k : Ret → An) : An := laws_toStringS m (vs.headD dflt) (fun z0 => k ⟨[.one (.own [1000000, 0] [.sc (.str)] [.F] z0.rows)], [[none]], [none]⟩)
theorem laws_toStringS_cf (m : Nat) : callK CX prims m = (callK CX prims m) := by
  rfl
noncomputable def laws_toStringS_c : Code := (Try.f9.body).getD .skip
noncomputable def laws_toStringS_fi : Fi := ⟨9, 1, 22, 4⟩
theorem laws_toStringS_lf (m : Nat) : ∀ n, (∀ vs k, loopK CX (callK CX prims m) laws_toStringS_fi laws_toStringS_c n [0, 1, 0, 1, 1] (fPack laws_toStringS_s0_0 vs) k = laws_toStringS_L0_0w m n vs k) ∧ ((loopK CX (callK CX prims m) laws_toStringS_fi laws_toStringS_c n) = (patL [0, 1, 0, 1, 1] laws_toStringS_s0_0 (laws_toStringS_L0_0w m n) (loopK CX (callK CX prims m) laws_toStringS_fi laws_toStringS_c n))) := by
  intro n
  have hl : ∀ n, (∀ vs k, loopK CX (callK CX prims m) laws_toStringS_fi laws_toStringS_c n [0, 1, 0, 1, 1] (fPack laws_toStringS_s0_0 vs) k = laws_toStringS_L0_0w m n vs k) → ((loopK CX (callK CX prims m) laws_toStringS_fi laws_toStringS_c n) = (patL [0, 1, 0, 1, 1] laws_toStringS_s0_0 (laws_toStringS_L0_0w m n) (loopK CX (callK CX prims m) laws_toStringS_fi laws_toStringS_c n))) := by
    intro n h0
    rw [← patL_eq h0]
  induction n with
  | zero => exact ⟨fun vs k => rfl, hl 0 (fun vs k => rfl)⟩
  | succ n ihn =>
    have hn := ihn.2
    have h0 : ∀ vs k, loopK CX (callK CX prims m) laws_toStringS_fi laws_toStringS_c (n + 1) [0, 1, 0, 1, 1] (fPack laws_toStringS_s0_0 vs) k = laws_toStringS_L0_0w m (n + 1) vs k := fun vs k =>
      (stepL_congr (laws_toStringS_cf m) hn [0, 1, 0, 1, 1] _ _).trans (by kernel_rfl)
    exact ⟨h0, hl (n + 1) h0⟩
theorem laws_toStringS_eq (m : Nat) : ∀ vs k, callK CX prims m 9 (fArgs laws_toStringS_a vs) k = laws_toStringS_w m vs k := by
  cases m with
  | zero => exact fun vs k => rfl
  | succ m => exact fun vs k => Eq.trans (b := bodyK CX (callK CX prims m) (loopK CX (callK CX prims m) laws_toStringS_fi laws_toStringS_c m) 9 Try.f9 laws_toStringS_c (fArgs laws_toStringS_a vs) k) (by kernel_rfl) ((bodyK_congr (laws_toStringS_cf m) ((laws_toStringS_lf m m).2) 9 Try.f9 laws_toStringS_c (fArgs laws_toStringS_a vs) k).trans (by kernel_rfl))

/-! loop.example/g00244/spec.PutNum -/
noncomputable def spec_PutNum_L0_0 (m : Nat) : Nat → T → T → (T → T → An) → An
  | 0, _, _, _ => .bad
  | n + 1, x0, x1, k0 =>
    cond (decide (x0.int > 127))
    (cond (decide ((x1.rows.length + 1) * 1 ≤ maxRow))
    (spec_PutNum_L0_0 m n (T.i (Int.fdiv x0.int (2 ^ (min (Int.toNat 7) IntKind.i64.bits)))) (T.l (x1.rows ++ [[(T.i (IntKind.u8.wrap (bvBack .i64 (BitVec.ofInt IntKind.i64.bits (bvBack .i64 (BitVec.ofInt IntKind.i64.bits x0.int &&& BitVec.ofInt IntKind.i64.bits 127)).int ||| BitVec.ofInt IntKind.i64.bits 128)).int))]])) k0)
    (.bad))
    (k0 x0 (T.l x1.rows))
noncomputable def spec_PutNum_s0_0 : Pack := ⟨[(1, .one ⟨.sc, .sc (.int .i64), .l []⟩), (5, .one ⟨.al [1000000, 0] 0, .sl [.sc (.int .u8)], .l []⟩)], [([1000000, 0], .row [.sc (.int .u8)] [.F] [])]⟩
noncomputable def spec_PutNum_e0_0 : Pack := ⟨[(1, .one ⟨.sc, .sc (.int .i64), .l []⟩), (5, .one ⟨.al [1000000, 0] 0, .sl [.sc (.int .u8)], .l []⟩)], [([1000000, 0], .row [.sc (.int .u8)] [.F] [])]⟩
noncomputable def spec_PutNum_L0_0w (m n : Nat) (vs : List T) (k : Ctl → Pack → An) : An := spec_PutNum_L0_0 m n (vs.headD dflt) (vs.tail.headD dflt) (fun z0 z1 => k (.exit 0) (fPack spec_PutNum_e0_0 [z0, z1]))
noncomputable def spec_PutNum : Nat → T → T → (T → An) → An
  | 0, _, _, _ => .bad
  | m + 1, x0, x1, k0 =>
    cond (decide ((0 + x0.rows.length) * 1 ≤ maxRow))
    (cond (decide (x1.int > 1000000000))
    (spec_PutNum_L0_0 m m (T.i 1000000000) (T.l x0.rows)
    (fun y0 y1 => cond (decide ((y1.rows.length + 1) * 1 ≤ maxRow))
    (k0 (T.l (y1.rows ++ [[(T.i (IntKind.u8.wrap y0.int))]])))
    (.bad)))
    (cond (decide (x1.int < 0))
    (spec_PutNum_L0_0 m m (T.i 0) (T.l x0.rows)
    (fun y2 y3 => cond (decide ((y3.rows.length + 1) * 1 ≤ maxRow))
    (k0 (T.l (y3.rows ++ [[(T.i (IntKind.u8.wrap y2.int))]])))
    (.bad)))
    (spec_PutNum_L0_0 m m x1 (T.l x0.rows)
    (fun y4 y5 => cond (decide ((y5.rows.length + 1) * 1 ≤ maxRow))
    (k0 (T.l (y5.rows ++ [[(T.i (IntKind.u8.wrap y4.int))]])))
    (.bad)))))
    (.bad)
noncomputable def spec_PutNum_a : List Arg := [.one (.dz [.sc (.int .u8)] []), .one (.sc (.int .i64) (.l []))]
noncomputable def spec_PutNum_w (m : Nat) (vs : List T) (k : Ret → An) : An := spec_PutNum m (vs.headD dflt) (vs.tail.headD dflt) (fun z0 => k ⟨[.one (.own [2000028] [.sc (.int .u8)] [.F] z0.rows)], [[none], [none]], [none, none]⟩)
theorem spec_PutNum_cf (m : Nat) : callK CX prims m = (callK CX prims m) := by
  rfl
noncomputable def spec_PutNum_c : Code := (Try.f41.body).getD .skip
noncomputable def spec_PutNum_fi : Fi := ⟨41, 2, 29, 16⟩
theorem spec_PutNum_lf (m : Nat) : ∀ n, (∀ vs k, loopK CX (callK CX prims m) spec_PutNum_fi spec_PutNum_c n [0, 0, 1, 1, 1, 1] (fPack spec_PutNum_s0_0 vs) k = spec_PutNum_L0_0w m n vs k) ∧ ((loopK CX (callK CX prims m) spec_PutNum_fi spec_PutNum_c n) = (patL [0, 0, 1, 1, 1, 1] spec_PutNum_s0_0 (spec_PutNum_L0_0w m n) (loopK CX (callK CX prims m) spec_PutNum_fi spec_PutNum_c n))) := by
  intro n
  have hl : ∀ n, (∀ vs k, loopK CX (callK CX prims m) spec_PutNum_fi spec_PutNum_c n [0, 0, 1, 1, 1, 1] (fPack spec_PutNum_s0_0 vs) k = spec_PutNum_L0_0w m n vs k) → ((loopK CX (callK CX prims m) spec_PutNum_fi spec_PutNum_c n) = (patL [0, 0, 1, 1, 1, 1] spec_PutNum_s0_0 (spec_PutNum_L0_0w m n) (loopK CX (callK CX prims m) spec_PutNum_fi spec_PutNum_c n))) := by
    intro n h0
    rw [← patL_eq h0]
  induction n with
  | zero => exact ⟨fun vs k => rfl, hl 0 (fun vs k => rfl)⟩
  | succ n ihn =>
    have hn := ihn.2
    have h0 : ∀ vs k, loopK CX (callK CX prims m) spec_PutNum_fi spec_PutNum_c (n + 1) [0, 0, 1, 1, 1, 1] (fPack spec_PutNum_s0_0 vs) k = spec_PutNum_L0_0w m (n + 1) vs k := fun vs k =>
      (stepL_congr (spec_PutNum_cf m) hn [0, 0, 1, 1, 1, 1] _ _).trans (by kernel_rfl)
    exact ⟨h0, hl (n + 1) h0⟩
theorem spec_PutNum_eq (m : Nat) : ∀ vs k, callK CX prims m 41 (fArgs spec_PutNum_a vs) k = spec_PutNum_w m vs k := by
  cases m with
  | zero => exact fun vs k => rfl
  | succ m => exact fun vs k => Eq.trans (b := bodyK CX (callK CX prims m) (loopK CX (callK CX prims m) spec_PutNum_fi spec_PutNum_c m) 41 Try.f41 spec_PutNum_c (fArgs spec_PutNum_a vs) k) (by kernel_rfl) ((bodyK_congr (spec_PutNum_cf m) ((spec_PutNum_lf m m).2) 41 Try.f41 spec_PutNum_c (fArgs spec_PutNum_a vs) k).trans (by kernel_rfl))

/-! loop.example/g00244/spec.PutText -/
noncomputable def spec_PutText : Nat → T → T → (T → An) → An
  | 0, _, _, _ => .bad
  | m + 1, x0, x1, k0 =>
    spec_PutNum m (T.l x0.rows) (T.i (x1.str.size : Int))
    (fun y0 => cond (decide ((y0.rows.length + (bytesRows x1.str).length) * 1 ≤ maxRow))
    (k0 (T.l (y0.rows ++ (bytesRows x1.str))))
    (.bad))
noncomputable def spec_PutText_a : List Arg := [.one (.dz [.sc (.int .u8)] []), .one (.sc (.str) (.l []))]
noncomputable def spec_PutText_w (m : Nat) (vs : List T) (k : Ret → An) : An := spec_PutText m (vs.headD dflt) (vs.tail.headD dflt) (fun z0 => k ⟨[.one (.own [2000010] [.sc (.int .u8)] [.F] z0.rows)], [[none], [none]], [none, none]⟩)
theorem spec_PutText_cf (m : Nat) : callK CX prims m = (patC 41 spec_PutNum_a (spec_PutNum_w m) (callK CX prims m)) := by
  rw [← patC_eq (fun vs k => spec_PutNum_eq m vs k)]
noncomputable def spec_PutText_c : Code := (Try.f40.body).getD .skip
noncomputable def spec_PutText_fi : Fi := ⟨40, 2, 11, 16⟩
theorem spec_PutText_eq (m : Nat) : ∀ vs k, callK CX prims m 40 (fArgs spec_PutText_a vs) k = spec_PutText_w m vs k := by
  cases m with
  | zero => exact fun vs k => rfl
  | succ m => exact fun vs k => Eq.trans (b := bodyK CX (callK CX prims m) (loopK CX (callK CX prims m) spec_PutText_fi spec_PutText_c m) 40 Try.f40 spec_PutText_c (fArgs spec_PutText_a vs) k) (by kernel_rfl) ((bodyK_congr (spec_PutText_cf m) rfl 40 Try.f40 spec_PutText_c (fArgs spec_PutText_a vs) k).trans (by kernel_rfl))

/-! loop.example/g00244/spec.PutTexts -/
noncomputable def spec_PutTexts_L0_0 (m : Nat) : Nat → T → T → T → (T → An) → An
  | 0, _, _, _, _ => .bad
  | n + 1, x0, x1, x2, k0 =>
    cond (decide (x1.int < (x0.rows.length : Int)))
    (cond (decide ((0 : Int) ≤ x1.int ∧ x1.int < (x0.rows.length : Int)))
    (spec_PutText m (T.l x2.rows) ((x0.rows.getD (Int.toNat x1.int) []).getD 0 dflt)
    (fun y1 => spec_PutTexts_L0_0 m n x0 (T.i (IntKind.i64.wrap (x1.int + 1))) (T.l y1.rows) k0))
    (.bad))
    (k0 (T.l x2.rows))
noncomputable def spec_PutTexts_s0_0 : Pack := ⟨[(1, .one ⟨.sn [([4000000], 0)], .sl [.sc (.str)], .l []⟩), (5, .one ⟨.al [1000000, 1] 0, .sl [.sc (.int .u8)], .l []⟩), (6, .one ⟨.sc, .sc (.int .i64), .l []⟩)], [([4000000], .gone), ([1000000, 1], .row [.sc (.int .u8)] [.F] [])]⟩
noncomputable def spec_PutTexts_e0_0 : Pack := ⟨[(5, .one ⟨.al [1000000, 0] 0, .sl [.sc (.int .u8)], .l []⟩)], [([1000000, 0], .row [.sc (.int .u8)] [.F] [])]⟩
noncomputable def spec_PutTexts_L0_0w (m n : Nat) (vs : List T) (k : Ctl → Pack → An) : An := spec_PutTexts_L0_0 m n (vs.headD dflt) (vs.tail.headD dflt) (vs.tail.tail.headD dflt) (fun z0 => k (.exit 0) (fPack spec_PutTexts_e0_0 [z0]))
noncomputable def spec_PutTexts : Nat → T → T → (T → An) → An
  | 0, _, _, _ => .bad
  | m + 1, x0, x1, k0 =>
    spec_PutNum m (T.l x0.rows) (T.i (x1.rows.length : Int))
    (fun y0 => spec_PutTexts_L0_0 m m (T.l x1.rows) (T.i 0) (T.l y0.rows)
    (fun y2 => k0 (T.l y2.rows)))
noncomputable def spec_PutTexts_a : List Arg := [.one (.dz [.sc (.int .u8)] []), .one (.dz [.sc (.str)] [])]
noncomputable def spec_PutTexts_w (m : Nat) (vs : List T) (k : Ret → An) : An := spec_PutTexts m (vs.headD dflt) (vs.tail.headD dflt) (fun z0 => k ⟨[.one (.own [1000000, 0] [.sc (.int .u8)] [.F] z0.rows)], [[none], [none]], [none, none]⟩)
theorem spec_PutTexts_cf (m : Nat) : callK CX prims m = (patC 41 spec_PutNum_a (spec_PutNum_w m) (patC 40 spec_PutText_a (spec_PutText_w m) (callK CX prims m))) := by
  rw [← patC_eq (fun vs k => spec_PutText_eq m vs k), ← patC_eq (fun vs k => spec_PutNum_eq m vs k)]
noncomputable def spec_PutTexts_c : Code := (Try.f39.body).getD .skip
noncomputable def spec_PutTexts_fi : Fi := ⟨39, 2, 24, 16⟩
theorem spec_PutTexts_lf (m : Nat) : ∀ n, (∀ vs k, loopK CX (callK CX prims m) spec_PutTexts_fi spec_PutTexts_c n [0, 1, 0, 1, 1] (fPack spec_PutTexts_s0_0 vs) k = spec_PutTexts_L0_0w m n vs k) ∧ ((loopK CX (callK CX prims m) spec_PutTexts_fi spec_PutTexts_c n) = (patL [0, 1, 0, 1, 1] spec_PutTexts_s0_0 (spec_PutTexts_L0_0w m n) (loopK CX (callK CX prims m) spec_PutTexts_fi spec_PutTexts_c n))) := by
  intro n
  have hl : ∀ n, (∀ vs k, loopK CX (callK CX prims m) spec_PutTexts_fi spec_PutTexts_c n [0, 1, 0, 1, 1] (fPack spec_PutTexts_s0_0 vs) k = spec_PutTexts_L0_0w m n vs k) → ((loopK CX (callK CX prims m) spec_PutTexts_fi spec_PutTexts_c n) = (patL [0, 1, 0, 1, 1] spec_PutTexts_s0_0 (spec_PutTexts_L0_0w m n) (loopK CX (callK CX prims m) spec_PutTexts_fi spec_PutTexts_c n))) := by
    intro n h0
    rw [← patL_eq h0]
  induction n with
  | zero => exact ⟨fun vs k => rfl, hl 0 (fun vs k => rfl)⟩
  | succ n ihn =>
    have hn := ihn.2
    have h0 : ∀ vs k, loopK CX (callK CX prims m) spec_PutTexts_fi spec_PutTexts_c (n + 1) [0, 1, 0, 1, 1] (fPack spec_PutTexts_s0_0 vs) k = spec_PutTexts_L0_0w m (n + 1) vs k := fun vs k =>
      (stepL_congr (spec_PutTexts_cf m) hn [0, 1, 0, 1, 1] _ _).trans (by kernel_rfl)
    exact ⟨h0, hl (n + 1) h0⟩
theorem spec_PutTexts_eq (m : Nat) : ∀ vs k, callK CX prims m 39 (fArgs spec_PutTexts_a vs) k = spec_PutTexts_w m vs k := by
  cases m with
  | zero => exact fun vs k => rfl
  | succ m => exact fun vs k => Eq.trans (b := bodyK CX (callK CX prims m) (loopK CX (callK CX prims m) spec_PutTexts_fi spec_PutTexts_c m) 39 Try.f39 spec_PutTexts_c (fArgs spec_PutTexts_a vs) k) (by kernel_rfl) ((bodyK_congr (spec_PutTexts_cf m) ((spec_PutTexts_lf m m).2) 39 Try.f39 spec_PutTexts_c (fArgs spec_PutTexts_a vs) k).trans (by kernel_rfl))

/-! loop.example/g00244/spec.l15Super -/
noncomputable def spec_l15Super : Nat → T → T → T → (T → An) → An
  | 0, _, _, _, _ => .bad
  | m + 1, x0, x1, x2, k0 =>
    spec_PutNum m (T.l [[(T.i 3)]]) x0
    (fun y0 => spec_PutText m (T.l y0.rows) x1
    (fun y1 => spec_PutTexts m (T.l y1.rows) (T.l x2.rows)
    (fun y2 => k0 (T.l y2.rows))))
noncomputable def spec_l15Super_a : List Arg := [.one (.sc (.int .i64) (.l [])), .one (.sc (.str) (.l [])), .one (.dz [.sc (.str)] [])]
noncomputable def spec_l15Super_w (m : Nat) (vs : List T) (k : Ret → An) : An := spec_l15Super m (vs.headD dflt) (vs.tail.headD dflt) (vs.tail.tail.headD dflt) (fun z0 => k ⟨[.one (.own [2000013, 0, 0] [.sc (.int .u8)] [.F] z0.rows)], [[none], [none], [none]], [none, none, none]⟩)
theorem spec_l15Super_cf (m : Nat) : callK CX prims m = (patC 41 spec_PutNum_a (spec_PutNum_w m) (patC 40 spec_PutText_a (spec_PutText_w m) (patC 39 spec_PutTexts_a (spec_PutTexts_w m) (callK CX prims m)))) := by
  rw [← patC_eq (fun vs k => spec_PutTexts_eq m vs k), ← patC_eq (fun vs k => spec_PutText_eq m vs k), ← patC_eq (fun vs k => spec_PutNum_eq m vs k)]
noncomputable def spec_l15Super_c : Code := (Try.f25.body).getD .skip
noncomputable def spec_l15Super_fi : Fi := ⟨25, 3, 14, 64⟩
theorem spec_l15Super_eq (m : Nat) : ∀ vs k, callK CX prims m 25 (fArgs spec_l15Super_a vs) k = spec_l15Super_w m vs k := by
  cases m with
  | zero => exact fun vs k => rfl
  | succ m => exact fun vs k => Eq.trans (b := bodyK CX (callK CX prims m) (loopK CX (callK CX prims m) spec_l15Super_fi spec_l15Super_c m) 25 Try.f25 spec_l15Super_c (fArgs spec_l15Super_a vs) k) (by kernel_rfl) ((bodyK_congr (spec_l15Super_cf m) rfl 25 Try.f25 spec_l15Super_c (fArgs spec_l15Super_a vs) k).trans (by kernel_rfl))

/-! loop.example/g00244/spec.Padded -/
noncomputable def spec_Padded_L1_0 (m : Nat) : Nat → T → T → T → (T → An) → An
  | 0, _, _, _, _ => .bad
  | n + 1, x0, x1, x2, k0 =>
    cond (decide (x1.int ≥ 0))
    (cond (decide (0 ≤ (IntKind.u64.wrap x1.int)))
    (cond (decide ((x2.rows.length + 1) * 1 ≤ maxRow))
    (spec_Padded_L1_0 m n x0 (T.i (IntKind.i64.wrap (x1.int - 8))) (T.l (x2.rows ++ [[(T.i (IntKind.u8.wrap (Int.fdiv x0.int (2 ^ (min (Int.toNat (IntKind.u64.wrap x1.int)) IntKind.i64.bits)))))]])) k0)
    (.bad))
    (.bad))
    (k0 (T.l x2.rows))
noncomputable def spec_Padded_s1_0 : Pack := ⟨[(3, .one ⟨.al [1000000, 0] 0, .sl [.sc (.int .u8)], .l []⟩), (4, .one ⟨.sc, .sc (.int .i64), .l []⟩), (5, .one ⟨.sc, .sc (.int .i64), .l []⟩)], [([1000000, 0], .row [.sc (.int .u8)] [.F] [])]⟩
noncomputable def spec_Padded_e1_0 : Pack := ⟨[(3, .one ⟨.al [1000000, 0] 0, .sl [.sc (.int .u8)], .l []⟩)], [([1000000, 0], .row [.sc (.int .u8)] [.F] [])]⟩
noncomputable def spec_Padded_L1_0w (m n : Nat) (vs : List T) (k : Ctl → Pack → An) : An := spec_Padded_L1_0 m n (vs.headD dflt) (vs.tail.headD dflt) (vs.tail.tail.headD dflt) (fun z0 => k (.exit 2) (fPack spec_Padded_e1_0 [z0]))
noncomputable def spec_Padded_L0_0 (m : Nat) : Nat → T → T → (T → T → An) → An
  | 0, _, _, _ => .bad
  | n + 1, x0, x1, k0 =>
    cond ((Int.tmod (x1.rows.length : Int) 64) != 56)
    (cond (decide ((x1.rows.length + 1) * 1 ≤ maxRow))
    (spec_Padded_L0_0 m n x0 (T.l (x1.rows ++ [[(T.i 0)]])) k0)
    (.bad))
    (k0 x0 (T.l x1.rows))
noncomputable def spec_Padded_s0_0 : Pack := ⟨[(0, .one ⟨.sn [([4000000], 0)], .sl [.sc (.int .u8)], .l []⟩), (3, .one ⟨.al [1000000, 1] 0, .sl [.sc (.int .u8)], .l []⟩)], [([4000000], .gone), ([1000000, 1], .row [.sc (.int .u8)] [.F] [])]⟩
noncomputable def spec_Padded_e0_0 : Pack := ⟨[(0, .one ⟨.sn [([4000000], 0)], .sl [.sc (.int .u8)], .l []⟩), (3, .one ⟨.al [1000000, 1] 0, .sl [.sc (.int .u8)], .l []⟩)], [([4000000], .gone), ([1000000, 1], .row [.sc (.int .u8)] [.F] [])]⟩
noncomputable def spec_Padded_L0_0w (m n : Nat) (vs : List T) (k : Ctl → Pack → An) : An := spec_Padded_L0_0 m n (vs.headD dflt) (vs.tail.headD dflt) (fun z0 z1 => k (.exit 0) (fPack spec_Padded_e0_0 [z0, z1]))
noncomputable def spec_Padded : Nat → T → (T → An) → An
  | 0, _, _ => .bad
  | m + 1, x0, k0 =>
    cond (decide ((0 + x0.rows.length) * 1 ≤ maxRow))
    (cond (decide ((x0.rows.length + 1) * 1 ≤ maxRow))
    (spec_Padded_L0_0 m m (T.l x0.rows) (T.l (x0.rows ++ [[(T.i 128)]]))
    (fun y0 y1 => spec_Padded_L1_0 m m (T.i (IntKind.i64.wrap ((y0.rows.length : Int) * 8))) (T.i 56) (T.l y1.rows)
    (fun y2 => k0 (T.l y2.rows))))
    (.bad))
    (.bad)
noncomputable def spec_Padded_a : List Arg := [.one (.dz [.sc (.int .u8)] [])]
noncomputable def spec_Padded_w (m : Nat) (vs : List T) (k : Ret → An) : An := spec_Padded m (vs.headD dflt) (fun z0 => k ⟨[.one (.own [1000000, 0] [.sc (.int .u8)] [.F] z0.rows)], [[none]], [none]⟩)
theorem spec_Padded_cf (m : Nat) : callK CX prims m = (callK CX prims m) := by
  rfl
noncomputable def spec_Padded_c : Code := (Try.f36.body).getD .skip
noncomputable def spec_Padded_fi : Fi := ⟨36, 1, 34, 4⟩
theorem spec_Padded_lf (m : Nat) : ∀ n, (∀ vs k, loopK CX (callK CX prims m) spec_Padded_fi spec_Padded_c n [0, 0, 1, 1] (fPack spec_Padded_s0_0 vs) k = spec_Padded_L0_0w m n vs k) ∧ (∀ vs k, loopK CX (callK CX prims m) spec_Padded_fi spec_Padded_c n [0, 1, 0, 1, 1, 1, 1] (fPack spec_Padded_s1_0 vs) k = spec_Padded_L1_0w m n vs k) ∧ ((loopK CX (callK CX prims m) spec_Padded_fi spec_Padded_c n) = (patL [0, 0, 1, 1] spec_Padded_s0_0 (spec_Padded_L0_0w m n) (patL [0, 1, 0, 1, 1, 1, 1] spec_Padded_s1_0 (spec_Padded_L1_0w m n) (loopK CX (callK CX prims m) spec_Padded_fi spec_Padded_c n)))) := by
  intro n
  have hl : ∀ n, (∀ vs k, loopK CX (callK CX prims m) spec_Padded_fi spec_Padded_c n [0, 0, 1, 1] (fPack spec_Padded_s0_0 vs) k = spec_Padded_L0_0w m n vs k) → (∀ vs k, loopK CX (callK CX prims m) spec_Padded_fi spec_Padded_c n [0, 1, 0, 1, 1, 1, 1] (fPack spec_Padded_s1_0 vs) k = spec_Padded_L1_0w m n vs k) → ((loopK CX (callK CX prims m) spec_Padded_fi spec_Padded_c n) = (patL [0, 0, 1, 1] spec_Padded_s0_0 (spec_Padded_L0_0w m n) (patL [0, 1, 0, 1, 1, 1, 1] spec_Padded_s1_0 (spec_Padded_L1_0w m n) (loopK CX (callK CX prims m) spec_Padded_fi spec_Padded_c n)))) := by
    intro n h0 h1
    rw [← patL_eq h1, ← patL_eq h0]
  induction n with
  | zero => exact ⟨fun vs k => rfl, fun vs k => rfl, hl 0 (fun vs k => rfl) (fun vs k => rfl)⟩
  | succ n ihn =>
    have hn := ihn.2.2
    have h0 : ∀ vs k, loopK CX (callK CX prims m) spec_Padded_fi spec_Padded_c (n + 1) [0, 0, 1, 1] (fPack spec_Padded_s0_0 vs) k = spec_Padded_L0_0w m (n + 1) vs k := fun vs k =>
      (stepL_congr (spec_Padded_cf m) hn [0, 0, 1, 1] _ _).trans (by kernel_rfl)
    have h1 : ∀ vs k, loopK CX (callK CX prims m) spec_Padded_fi spec_Padded_c (n + 1) [0, 1, 0, 1, 1, 1, 1] (fPack spec_Padded_s1_0 vs) k = spec_Padded_L1_0w m (n + 1) vs k := fun vs k =>
      (stepL_congr (spec_Padded_cf m) hn [0, 1, 0, 1, 1, 1, 1] _ _).trans (by kernel_rfl)
    exact ⟨h0, h1, hl (n + 1) h0 h1⟩
theorem spec_Padded_eq (m : Nat) : ∀ vs k, callK CX prims m 36 (fArgs spec_Padded_a vs) k = spec_Padded_w m vs k := by
  cases m with
  | zero => exact fun vs k => rfl
  | succ m => exact fun vs k => Eq.trans (b := bodyK CX (callK CX prims m) (loopK CX (callK CX prims m) spec_Padded_fi spec_Padded_c m) 36 Try.f36 spec_Padded_c (fArgs spec_Padded_a vs) k) (by kernel_rfl) ((bodyK_congr (spec_Padded_cf m) ((spec_Padded_lf m m).2.2) 36 Try.f36 spec_Padded_c (fArgs spec_Padded_a vs) k).trans (by kernel_rfl))

/-! loop.example/g00244/spec.l2K -/
noncomputable def spec_l2K : Nat → (T → An) → An
  | 0, _ => .bad
  | m + 1, k0 =>
    k0 (T.l [[(T.i 1116352408)], [(T.i 1899447441)], [(T.i 3049323471)], [(T.i 3921009573)], [(T.i 961987163)], [(T.i 1508970993)], [(T.i 2453635748)], [(T.i 2870763221)], [(T.i 3624381080)], [(T.i 310598401)], [(T.i 607225278)], [(T.i 1426881987)], [(T.i 1925078388)], [(T.i 2162078206)], [(T.i 2614888103)], [(T.i 3248222580)], [(T.i 3835390401)], [(T.i 4022224774)], [(T.i 264347078)], [(T.i 604807628)], [(T.i 770255983)], [(T.i 1249150122)], [(T.i 1555081692)], [(T.i 1996064986)], [(T.i 2554220882)], [(T.i 2821834349)], [(T.i 2952996808)], [(T.i 3210313671)], [(T.i 3336571891)], [(T.i 3584528711)], [(T.i 113926993)], [(T.i 338241895)], [(T.i 666307205)], [(T.i 773529912)], [(T.i 1294757372)], [(T.i 1396182291)], [(T.i 1695183700)], [(T.i 1986661051)], [(T.i 2177026350)], [(T.i 2456956037)], [(T.i 2730485921)], [(T.i 2820302411)], [(T.i 3259730800)], [(T.i 3345764771)], [(T.i 3516065817)], [(T.i 3600352804)], [(T.i 4094571909)], [(T.i 275423344)], [(T.i 430227734)], [(T.i 506948616)], [(T.i 659060556)], [(T.i 883997877)], [(T.i 958139571)], [(T.i 1322822218)], [(T.i 1537002063)], [(T.i 1747873779)], [(T.i 1955562222)], [(T.i 2024104815)], [(T.i 2227730452)], [(T.i 2361852424)], [(T.i 2428436474)], [(T.i 2756734187)], [(T.i 3204031479)], [(T.i 3329325298)]])
noncomputable def spec_l2K_a : List Arg := []
noncomputable def spec_l2K_w (m : Nat) (vs : List T) (k : Ret → An) : An := spec_l2K m (fun z0 => k ⟨[.one (.own [2000001] [.sc (.int .i64)] [.F] z0.rows)], [], []⟩)
theorem spec_l2K_cf (m : Nat) : callK CX prims m = (callK CX prims m) := by
  rfl
noncomputable def spec_l2K_c : Code := (Try.f37.body).getD .skip
noncomputable def spec_l2K_fi : Fi := ⟨37, 0, 2, 1⟩
theorem spec_l2K_eq (m : Nat) : ∀ vs k, callK CX prims m 37 (fArgs spec_l2K_a vs) k = spec_l2K_w m vs k := by
  cases m with
  | zero => exact fun vs k => rfl
  | succ m => exact fun vs k => Eq.trans (b := bodyK CX (callK CX prims m) (loopK CX (callK CX prims m) spec_l2K_fi spec_l2K_c m) 37 Try.f37 spec_l2K_c (fArgs spec_l2K_a vs) k) (by kernel_rfl) ((bodyK_congr (spec_l2K_cf m) rfl 37 Try.f37 spec_l2K_c (fArgs spec_l2K_a vs) k).trans (by kernel_rfl))

/-! loop.example/g00244/spec.l2Turn -/
noncomputable def spec_l2Turn : Nat → T → T → (T → An) → An
  | 0, _, _, _ => .bad
  | m + 1, x0, x1, k0 =>
    cond (decide (0 ≤ (IntKind.u64.wrap x1.int)))
    (cond (decide (0 ≤ (IntKind.u64.wrap (IntKind.i64.wrap (32 - x1.int)))))
    (k0 (bvBack .i64 (BitVec.ofInt IntKind.i64.bits (bvBack .i64 (BitVec.ofInt IntKind.i64.bits (Int.fdiv x0.int (2 ^ (min (Int.toNat (IntKind.u64.wrap x1.int)) IntKind.i64.bits))) ||| BitVec.ofInt IntKind.i64.bits (IntKind.i64.wrap (x0.int * 2 ^ (min (Int.toNat (IntKind.u64.wrap (IntKind.i64.wrap (32 - x1.int)))) IntKind.i64.bits))))).int &&& BitVec.ofInt IntKind.i64.bits 4294967295)))
    (.bad))
    (.bad)
noncomputable def spec_l2Turn_a : List Arg := [.one (.sc (.int .i64) (.l [])), .one (.sc (.int .i64) (.l []))]
noncomputable def spec_l2Turn_w (m : Nat) (vs : List T) (k : Ret → An) : An := spec_l2Turn m (vs.headD dflt) (vs.tail.headD dflt) (fun z0 => k ⟨[.one (.sc (.int .i64) z0)], [[none], [none]], [none, none]⟩)
theorem spec_l2Turn_cf (m : Nat) : callK CX prims m = (callK CX prims m) := by
  rfl
noncomputable def spec_l2Turn_c : Code := (Try.f51.body).getD .skip
noncomputable def spec_l2Turn_fi : Fi := ⟨51, 2, 16, 16⟩
theorem spec_l2Turn_eq (m : Nat) : ∀ vs k, callK CX prims m 51 (fArgs spec_l2Turn_a vs) k = spec_l2Turn_w m vs k := by
  cases m with
  | zero => exact fun vs k => rfl
  | succ m => exact fun vs k => Eq.trans (b := bodyK CX (callK CX prims m) (loopK CX (callK CX prims m) spec_l2Turn_fi spec_l2Turn_c m) 51 Try.f51 spec_l2Turn_c (fArgs spec_l2Turn_a vs) k) (by kernel_rfl) ((bodyK_congr (spec_l2Turn_cf m) rfl 51 Try.f51 spec_l2Turn_c (fArgs spec_l2Turn_a vs) k).trans (by kernel_rfl))

/-! loop.example/g00244/spec.l2Words -/
noncomputable def spec_l2Words_L1_0 (m : Nat) : Nat → T → T → (T → An) → An
  | 0, _, _, _ => .bad
  | n + 1, x0, x1, k0 =>
    cond (decide (x0.int < 64))
    (cond (decide ((0 : Int) ≤ (IntKind.i64.wrap (x0.int - 15)) ∧ (IntKind.i64.wrap (x0.int - 15)) < (x1.rows.length : Int)))
    (cond (decide ((Int.toNat (IntKind.i64.wrap (x0.int - 15))) < x1.rows.length))
    (cond (decide ((0 : Int) ≤ (IntKind.i64.wrap (x0.int - 2)) ∧ (IntKind.i64.wrap (x0.int - 2)) < (x1.rows.length : Int)))
    (cond (decide ((Int.toNat (IntKind.i64.wrap (x0.int - 2))) < x1.rows.length))
    (spec_l2Turn m ((x1.rows.getD (Int.toNat (IntKind.i64.wrap (x0.int - 15))) []).getD 0 dflt) (T.i 7)
    (fun y1 => spec_l2Turn m ((x1.rows.getD (Int.toNat (IntKind.i64.wrap (x0.int - 15))) []).getD 0 dflt) (T.i 18)
    (fun y2 => spec_l2Turn m ((x1.rows.getD (Int.toNat (IntKind.i64.wrap (x0.int - 2))) []).getD 0 dflt) (T.i 17)
    (fun y3 => spec_l2Turn m ((x1.rows.getD (Int.toNat (IntKind.i64.wrap (x0.int - 2))) []).getD 0 dflt) (T.i 19)
    (fun y4 => cond (decide ((0 : Int) ≤ (IntKind.i64.wrap (x0.int - 16)) ∧ (IntKind.i64.wrap (x0.int - 16)) < (x1.rows.length : Int)))
    (cond (decide ((Int.toNat (IntKind.i64.wrap (x0.int - 16))) < x1.rows.length))
    (cond (decide ((0 : Int) ≤ (IntKind.i64.wrap (x0.int - 7)) ∧ (IntKind.i64.wrap (x0.int - 7)) < (x1.rows.length : Int)))
    (cond (decide ((Int.toNat (IntKind.i64.wrap (x0.int - 7))) < x1.rows.length))
    (cond (decide ((x1.rows.length + 1) * 1 ≤ maxRow))
    (spec_l2Words_L1_0 m n (T.i (IntKind.i64.wrap (x0.int + 1))) (T.l (x1.rows ++ [[(bvBack .i64 (BitVec.ofInt IntKind.i64.bits (IntKind.i64.wrap ((IntKind.i64.wrap ((IntKind.i64.wrap (((x1.rows.getD (Int.toNat (IntKind.i64.wrap (x0.int - 16))) []).getD 0 dflt).int + (bvBack .i64 (BitVec.ofInt IntKind.i64.bits (bvBack .i64 (BitVec.ofInt IntKind.i64.bits y1.int ^^^ BitVec.ofInt IntKind.i64.bits y2.int)).int ^^^ BitVec.ofInt IntKind.i64.bits (Int.fdiv ((x1.rows.getD (Int.toNat (IntKind.i64.wrap (x0.int - 15))) []).getD 0 dflt).int (2 ^ (min (Int.toNat 3) IntKind.i64.bits))))).int)) + ((x1.rows.getD (Int.toNat (IntKind.i64.wrap (x0.int - 7))) []).getD 0 dflt).int)) + (bvBack .i64 (BitVec.ofInt IntKind.i64.bits (bvBack .i64 (BitVec.ofInt IntKind.i64.bits y3.int ^^^ BitVec.ofInt IntKind.i64.bits y4.int)).int ^^^ BitVec.ofInt IntKind.i64.bits (Int.fdiv ((x1.rows.getD (Int.toNat (IntKind.i64.wrap (x0.int - 2))) []).getD 0 dflt).int (2 ^ (min (Int.toNat 10) IntKind.i64.bits))))).int)) &&& BitVec.ofInt IntKind.i64.bits 4294967295))]])) k0)
    (.bad))
    (.bad))
    (.bad))
    (.bad))
    (.bad))))))
    (.bad))
    (.bad))
    (.bad))
    (.bad))
    (k0 (T.l x1.rows))
noncomputable def spec_l2Words_s1_0 : Pack := ⟨[(3, .one ⟨.al [1000000, 0] 0, .sl [.sc (.int .i64)], .l []⟩), (5, .one ⟨.sc, .sc (.int .i64), .l []⟩)], [([1000000, 0], .row [.sc (.int .i64)] [.F] [])]⟩
noncomputable def spec_l2Words_e1_0 : Pack := ⟨[(3, .one ⟨.al [1000000, 0] 0, .sl [.sc (.int .i64)], .l []⟩)], [([1000000, 0], .row [.sc (.int .i64)] [.F] [])]⟩
noncomputable def spec_l2Words_L1_0w (m n : Nat) (vs : List T) (k : Ctl → Pack → An) : An := spec_l2Words_L1_0 m n (vs.headD dflt) (vs.tail.headD dflt) (fun z0 => k (.exit 2) (fPack spec_l2Words_e1_0 [z0]))
noncomputable def spec_l2Words_L0_0 (m : Nat) : Nat → T → T → T → (T → An) → An
  | 0, _, _, _, _ => .bad
  | n + 1, x0, x1, x2, k0 =>
    cond (decide (x1.int < 16))
    (cond (decide ((0 : Int) ≤ (IntKind.i64.wrap (4 * x1.int)) ∧ (IntKind.i64.wrap (4 * x1.int)) < (x0.rows.length : Int)))
    (cond (decide ((0 : Int) ≤ (IntKind.i64.wrap ((IntKind.i64.wrap (4 * x1.int)) + 1)) ∧ (IntKind.i64.wrap ((IntKind.i64.wrap (4 * x1.int)) + 1)) < (x0.rows.length : Int)))
    (cond (decide ((0 : Int) ≤ (IntKind.i64.wrap ((IntKind.i64.wrap (4 * x1.int)) + 2)) ∧ (IntKind.i64.wrap ((IntKind.i64.wrap (4 * x1.int)) + 2)) < (x0.rows.length : Int)))
    (cond (decide ((0 : Int) ≤ (IntKind.i64.wrap ((IntKind.i64.wrap (4 * x1.int)) + 3)) ∧ (IntKind.i64.wrap ((IntKind.i64.wrap (4 * x1.int)) + 3)) < (x0.rows.length : Int)))
    (cond (decide ((x2.rows.length + 1) * 1 ≤ maxRow))
    (spec_l2Words_L0_0 m n x0 (T.i (IntKind.i64.wrap (x1.int + 1))) (T.l (x2.rows ++ [[(bvBack .i64 (BitVec.ofInt IntKind.i64.bits (bvBack .i64 (BitVec.ofInt IntKind.i64.bits (bvBack .i64 (BitVec.ofInt IntKind.i64.bits (IntKind.i64.wrap ((IntKind.i64.wrap ((x0.rows.getD (Int.toNat (IntKind.i64.wrap (4 * x1.int))) []).getD 0 dflt).int) * 2 ^ (min (Int.toNat 24) IntKind.i64.bits))) ||| BitVec.ofInt IntKind.i64.bits (IntKind.i64.wrap ((IntKind.i64.wrap ((x0.rows.getD (Int.toNat (IntKind.i64.wrap ((IntKind.i64.wrap (4 * x1.int)) + 1))) []).getD 0 dflt).int) * 2 ^ (min (Int.toNat 16) IntKind.i64.bits))))).int ||| BitVec.ofInt IntKind.i64.bits (IntKind.i64.wrap ((IntKind.i64.wrap ((x0.rows.getD (Int.toNat (IntKind.i64.wrap ((IntKind.i64.wrap (4 * x1.int)) + 2))) []).getD 0 dflt).int) * 2 ^ (min (Int.toNat 8) IntKind.i64.bits))))).int ||| BitVec.ofInt IntKind.i64.bits (IntKind.i64.wrap ((x0.rows.getD (Int.toNat (IntKind.i64.wrap ((IntKind.i64.wrap (4 * x1.int)) + 3))) []).getD 0 dflt).int)))]])) k0)
    (.bad))
    (.bad))
    (.bad))
    (.bad))
    (.bad))
    (k0 (T.l x2.rows))
noncomputable def spec_l2Words_s0_0 : Pack := ⟨[(0, .one ⟨.sn [([4000000], 0)], .sl [.sc (.int .u8)], .l []⟩), (3, .one ⟨.al [1000000, 1] 0, .sl [.sc (.int .i64)], .l []⟩), (4, .one ⟨.sc, .sc (.int .i64), .l []⟩)], [([4000000], .gone), ([1000000, 1], .row [.sc (.int .i64)] [.F] [])]⟩
noncomputable def spec_l2Words_e0_0 : Pack := ⟨[(3, .one ⟨.al [1000000, 0] 0, .sl [.sc (.int .i64)], .l []⟩)], [([1000000, 0], .row [.sc (.int .i64)] [.F] [])]⟩
noncomputable def spec_l2Words_L0_0w (m n : Nat) (vs : List T) (k : Ctl → Pack → An) : An := spec_l2Words_L0_0 m n (vs.headD dflt) (vs.tail.headD dflt) (vs.tail.tail.headD dflt) (fun z0 => k (.exit 0) (fPack spec_l2Words_e0_0 [z0]))
noncomputable def spec_l2Words : Nat → T → (T → An) → An
  | 0, _, _ => .bad
  | m + 1, x0, k0 =>
    spec_l2Words_L0_0 m m (T.l x0.rows) (T.i 0) (T.l [])
    (fun y0 => spec_l2Words_L1_0 m m (T.i 16) (T.l y0.rows)
    (fun y5 => k0 (T.l y5.rows)))
noncomputable def spec_l2Words_a : List Arg := [.one (.dz [.sc (.int .u8)] [])]
noncomputable def spec_l2Words_w (m : Nat) (vs : List T) (k : Ret → An) : An := spec_l2Words m (vs.headD dflt) (fun z0 => k ⟨[.one (.own [1000000, 0] [.sc (.int .i64)] [.F] z0.rows)], [[none]], [none]⟩)
theorem spec_l2Words_cf (m : Nat) : callK CX prims m = (patC 51 spec_l2Turn_a (spec_l2Turn_w m) (callK CX prims m)) := by
  rw [← patC_eq (fun vs k => spec_l2Turn_eq m vs k)]
noncomputable def spec_l2Words_c : Code := (Try.f50.body).getD .skip
noncomputable def spec_l2Words_fi : Fi := ⟨50, 1, 101, 4⟩
theorem spec_l2Words_lf (m : Nat) : ∀ n, (∀ vs k, loopK CX (callK CX prims m) spec_l2Words_fi spec_l2Words_c n [0, 1, 0, 1, 1] (fPack spec_l2Words_s0_0 vs) k = spec_l2Words_L0_0w m n vs k) ∧ (∀ vs k, loopK CX (callK CX prims m) spec_l2Words_fi spec_l2Words_c n [0, 1, 0, 1, 1, 1] (fPack spec_l2Words_s1_0 vs) k = spec_l2Words_L1_0w m n vs k) ∧ ((loopK CX (callK CX prims m) spec_l2Words_fi spec_l2Words_c n) = (patL [0, 1, 0, 1, 1] spec_l2Words_s0_0 (spec_l2Words_L0_0w m n) (patL [0, 1, 0, 1, 1, 1] spec_l2Words_s1_0 (spec_l2Words_L1_0w m n) (loopK CX (callK CX prims m) spec_l2Words_fi spec_l2Words_c n)))) := by
  intro n
  have hl : ∀ n, (∀ vs k, loopK CX (callK CX prims m) spec_l2Words_fi spec_l2Words_c n [0, 1, 0, 1, 1] (fPack spec_l2Words_s0_0 vs) k = spec_l2Words_L0_0w m n vs k) → (∀ vs k, loopK CX (callK CX prims m) spec_l2Words_fi spec_l2Words_c n [0, 1, 0, 1, 1, 1] (fPack spec_l2Words_s1_0 vs) k = spec_l2Words_L1_0w m n vs k) → ((loopK CX (callK CX prims m) spec_l2Words_fi spec_l2Words_c n) = (patL [0, 1, 0, 1, 1] spec_l2Words_s0_0 (spec_l2Words_L0_0w m n) (patL [0, 1, 0, 1, 1, 1] spec_l2Words_s1_0 (spec_l2Words_L1_0w m n) (loopK CX (callK CX prims m) spec_l2Words_fi spec_l2Words_c n)))) := by
    intro n h0 h1
    rw [← patL_eq h1, ← patL_eq h0]
  induction n with
  | zero => exact ⟨fun vs k => rfl, fun vs k => rfl, hl 0 (fun vs k => rfl) (fun vs k => rfl)⟩
  | succ n ihn =>
    have hn := ihn.2.2
    have h0 : ∀ vs k, loopK CX (callK CX prims m) spec_l2Words_fi spec_l2Words_c (n + 1) [0, 1, 0, 1, 1] (fPack spec_l2Words_s0_0 vs) k = spec_l2Words_L0_0w m (n + 1) vs k := fun vs k =>
      (stepL_congr (spec_l2Words_cf m) hn [0, 1, 0, 1, 1] _ _).trans (by kernel_rfl)
    have h1 : ∀ vs k, loopK CX (callK CX prims m) spec_l2Words_fi spec_l2Words_c (n + 1) [0, 1, 0, 1, 1, 1] (fPack spec_l2Words_s1_0 vs) k = spec_l2Words_L1_0w m (n + 1) vs k := fun vs k =>
      (stepL_congr (spec_l2Words_cf m) hn [0, 1, 0, 1, 1, 1] _ _).trans (by kernel_rfl)
    exact ⟨h0, h1, hl (n + 1) h0 h1⟩
theorem spec_l2Words_eq (m : Nat) : ∀ vs k, callK CX prims m 50 (fArgs spec_l2Words_a vs) k = spec_l2Words_w m vs k := by
  cases m with
  | zero => exact fun vs k => rfl
  | succ m => exact fun vs k => Eq.trans (b := bodyK CX (callK CX prims m) (loopK CX (callK CX prims m) spec_l2Words_fi spec_l2Words_c m) 50 Try.f50 spec_l2Words_c (fArgs spec_l2Words_a vs) k) (by kernel_rfl) ((bodyK_congr (spec_l2Words_cf m) ((spec_l2Words_lf m m).2.2) 50 Try.f50 spec_l2Words_c (fArgs spec_l2Words_a vs) k).trans (by kernel_rfl))

/-! loop.example/g00244/spec.l2Block -/
noncomputable def spec_l2Block_L1_0 (m : Nat) : Nat → T → T → T → (T → An) → An
  | 0, _, _, _, _ => .bad
  | n + 1, x0, x1, x2, k0 =>
    cond (decide (x1.int < 8))
    (cond (decide ((0 : Int) ≤ x1.int ∧ x1.int < (x2.rows.length : Int)))
    (cond (decide ((Int.toNat x1.int) < x2.rows.length))
    (cond (decide ((0 : Int) ≤ x1.int ∧ x1.int < (x0.rows.length : Int)))
    (cond (decide ((0 : Int) ≤ x1.int ∧ x1.int < (x2.rows.length : Int)))
    (cond (decide ((Int.toNat x1.int) < x2.rows.length))
    (spec_l2Block_L1_0 m n x0 (T.i (IntKind.i64.wrap (x1.int + 1))) (T.l (x2.rows.set (Int.toNat x1.int) ((x2.rows.getD (Int.toNat x1.int) []).set 0 (bvBack .i64 (BitVec.ofInt IntKind.i64.bits (IntKind.i64.wrap (((x2.rows.getD (Int.toNat x1.int) []).getD 0 dflt).int + ((x0.rows.getD (Int.toNat x1.int) []).getD 0 dflt).int)) &&& BitVec.ofInt IntKind.i64.bits 4294967295))))) k0)
    (.bad))
    (.bad))
    (.bad))
    (.bad))
    (.bad))
    (k0 (T.l x2.rows))
noncomputable def spec_l2Block_s1_0 : Pack := ⟨[(0, .one ⟨.sn [([4000000], 0)], .sl [.sc (.int .i64)], .l []⟩), (8, .one ⟨.al [1000000, 1] 0, .sl [.sc (.int .i64)], .l []⟩), (18, .one ⟨.sc, .sc (.int .i64), .l []⟩)], [([4000000], .gone), ([1000000, 1], .row [.sc (.int .i64)] [.F] [])]⟩
noncomputable def spec_l2Block_e1_0 : Pack := ⟨[(8, .one ⟨.al [1000000, 0] 0, .sl [.sc (.int .i64)], .l []⟩)], [([1000000, 0], .row [.sc (.int .i64)] [.F] [])]⟩
noncomputable def spec_l2Block_L1_0w (m n : Nat) (vs : List T) (k : Ctl → Pack → An) : An := spec_l2Block_L1_0 m n (vs.headD dflt) (vs.tail.headD dflt) (vs.tail.tail.headD dflt) (fun z0 => k (.exit 2) (fPack spec_l2Block_e1_0 [z0]))
noncomputable def spec_l2Block_L0_0 (m : Nat) : Nat → T → T → T → T → T → (T → T → An) → An
  | 0, _, _, _, _, _, _ => .bad
  | n + 1, x0, x1, x2, x3, x4, k0 =>
    cond (decide (x2.int < 64))
    (cond (decide ((0 : Int) ≤ 4 ∧ 4 < (x4.rows.length : Int)))
    (cond (decide (4 < x4.rows.length))
    (spec_l2Turn m ((x4.rows.getD 4 []).getD 0 dflt) (T.i 6)
    (fun y1 => spec_l2Turn m ((x4.rows.getD 4 []).getD 0 dflt) (T.i 11)
    (fun y2 => spec_l2Turn m ((x4.rows.getD 4 []).getD 0 dflt) (T.i 25)
    (fun y3 => cond (decide ((0 : Int) ≤ 5 ∧ 5 < (x4.rows.length : Int)))
    (cond (decide (5 < x4.rows.length))
    (cond (decide ((0 : Int) ≤ 6 ∧ 6 < (x4.rows.length : Int)))
    (cond (decide (6 < x4.rows.length))
    (cond (decide ((0 : Int) ≤ 7 ∧ 7 < (x4.rows.length : Int)))
    (cond (decide (7 < x4.rows.length))
    (cond (decide ((0 : Int) ≤ x2.int ∧ x2.int < (x1.rows.length : Int)))
    (cond (decide ((0 : Int) ≤ x2.int ∧ x2.int < (x3.rows.length : Int)))
    (cond (decide ((Int.toNat x2.int) < x3.rows.length))
    (cond (decide ((0 : Int) ≤ 0 ∧ 0 < (x4.rows.length : Int)))
    (cond (decide (0 < x4.rows.length))
    (spec_l2Turn m ((x4.rows.getD 0 []).getD 0 dflt) (T.i 2)
    (fun y4 => spec_l2Turn m ((x4.rows.getD 0 []).getD 0 dflt) (T.i 13)
    (fun y5 => spec_l2Turn m ((x4.rows.getD 0 []).getD 0 dflt) (T.i 22)
    (fun y6 => cond (decide ((0 : Int) ≤ 1 ∧ 1 < (x4.rows.length : Int)))
    (cond (decide (1 < x4.rows.length))
    (cond (decide ((0 : Int) ≤ 2 ∧ 2 < (x4.rows.length : Int)))
    (cond (decide (2 < x4.rows.length))
    (cond (decide ((0 : Int) ≤ 1 ∧ 1 < (x4.rows.length : Int)))
    (cond (decide (1 < x4.rows.length))
    (cond (decide ((0 : Int) ≤ 2 ∧ 2 < (x4.rows.length : Int)))
    (cond (decide (2 < x4.rows.length))
    (cond (decide ((0 : Int) ≤ 1 ∧ 1 < (x4.rows.length : Int)))
    (cond (decide (1 < x4.rows.length))
    (cond (decide ((0 : Int) ≤ 2 ∧ 2 < (x4.rows.length : Int)))
    (cond (decide (2 < x4.rows.length))
    (cond (decide ((0 : Int) ≤ 3 ∧ 3 < (x4.rows.length : Int)))
    (cond (decide (3 < x4.rows.length))
    (cond (decide ((0 : Int) ≤ 5 ∧ 5 < (x4.rows.length : Int)))
    (cond (decide (5 < x4.rows.length))
    (cond (decide ((0 : Int) ≤ 6 ∧ 6 < (x4.rows.length : Int)))
    (cond (decide (6 < x4.rows.length))
    (spec_l2Block_L0_0 m n x0 x1 (T.i (IntKind.i64.wrap (x2.int + 1))) (T.l x3.rows) (T.l [[(bvBack .i64 (BitVec.ofInt IntKind.i64.bits (IntKind.i64.wrap ((IntKind.i64.wrap ((IntKind.i64.wrap ((IntKind.i64.wrap ((IntKind.i64.wrap (((x4.rows.getD 7 []).getD 0 dflt).int + (bvBack .i64 (BitVec.ofInt IntKind.i64.bits (bvBack .i64 (BitVec.ofInt IntKind.i64.bits y1.int ^^^ BitVec.ofInt IntKind.i64.bits y2.int)).int ^^^ BitVec.ofInt IntKind.i64.bits y3.int)).int)) + (bvBack .i64 (BitVec.ofInt IntKind.i64.bits (bvBack .i64 (BitVec.ofInt IntKind.i64.bits ((x4.rows.getD 4 []).getD 0 dflt).int &&& BitVec.ofInt IntKind.i64.bits ((x4.rows.getD 5 []).getD 0 dflt).int)).int ^^^ BitVec.ofInt IntKind.i64.bits (bvBack .i64 (BitVec.ofInt IntKind.i64.bits (bvBack .i64 (BitVec.ofInt IntKind.i64.bits 4294967295 ^^^ BitVec.ofInt IntKind.i64.bits ((x4.rows.getD 4 []).getD 0 dflt).int)).int &&& BitVec.ofInt IntKind.i64.bits ((x4.rows.getD 6 []).getD 0 dflt).int)).int)).int)) + ((x1.rows.getD (Int.toNat x2.int) []).getD 0 dflt).int)) + ((x3.rows.getD (Int.toNat x2.int) []).getD 0 dflt).int)) + (IntKind.i64.wrap ((bvBack .i64 (BitVec.ofInt IntKind.i64.bits (bvBack .i64 (BitVec.ofInt IntKind.i64.bits y4.int ^^^ BitVec.ofInt IntKind.i64.bits y5.int)).int ^^^ BitVec.ofInt IntKind.i64.bits y6.int)).int + (bvBack .i64 (BitVec.ofInt IntKind.i64.bits (bvBack .i64 (BitVec.ofInt IntKind.i64.bits (bvBack .i64 (BitVec.ofInt IntKind.i64.bits ((x4.rows.getD 0 []).getD 0 dflt).int &&& BitVec.ofInt IntKind.i64.bits ((x4.rows.getD 1 []).getD 0 dflt).int)).int ^^^ BitVec.ofInt IntKind.i64.bits (bvBack .i64 (BitVec.ofInt IntKind.i64.bits ((x4.rows.getD 0 []).getD 0 dflt).int &&& BitVec.ofInt IntKind.i64.bits ((x4.rows.getD 2 []).getD 0 dflt).int)).int)).int ^^^ BitVec.ofInt IntKind.i64.bits (bvBack .i64 (BitVec.ofInt IntKind.i64.bits ((x4.rows.getD 1 []).getD 0 dflt).int &&& BitVec.ofInt IntKind.i64.bits ((x4.rows.getD 2 []).getD 0 dflt).int)).int)).int)))) &&& BitVec.ofInt IntKind.i64.bits 4294967295))], [((x4.rows.getD 0 []).getD 0 dflt)], [((x4.rows.getD 1 []).getD 0 dflt)], [((x4.rows.getD 2 []).getD 0 dflt)], [(bvBack .i64 (BitVec.ofInt IntKind.i64.bits (IntKind.i64.wrap (((x4.rows.getD 3 []).getD 0 dflt).int + (IntKind.i64.wrap ((IntKind.i64.wrap ((IntKind.i64.wrap ((IntKind.i64.wrap (((x4.rows.getD 7 []).getD 0 dflt).int + (bvBack .i64 (BitVec.ofInt IntKind.i64.bits (bvBack .i64 (BitVec.ofInt IntKind.i64.bits y1.int ^^^ BitVec.ofInt IntKind.i64.bits y2.int)).int ^^^ BitVec.ofInt IntKind.i64.bits y3.int)).int)) + (bvBack .i64 (BitVec.ofInt IntKind.i64.bits (bvBack .i64 (BitVec.ofInt IntKind.i64.bits ((x4.rows.getD 4 []).getD 0 dflt).int &&& BitVec.ofInt IntKind.i64.bits ((x4.rows.getD 5 []).getD 0 dflt).int)).int ^^^ BitVec.ofInt IntKind.i64.bits (bvBack .i64 (BitVec.ofInt IntKind.i64.bits (bvBack .i64 (BitVec.ofInt IntKind.i64.bits 4294967295 ^^^ BitVec.ofInt IntKind.i64.bits ((x4.rows.getD 4 []).getD 0 dflt).int)).int &&& BitVec.ofInt IntKind.i64.bits ((x4.rows.getD 6 []).getD 0 dflt).int)).int)).int)) + ((x1.rows.getD (Int.toNat x2.int) []).getD 0 dflt).int)) + ((x3.rows.getD (Int.toNat x2.int) []).getD 0 dflt).int)))) &&& BitVec.ofInt IntKind.i64.bits 4294967295))], [((x4.rows.getD 4 []).getD 0 dflt)], [((x4.rows.getD 5 []).getD 0 dflt)], [((x4.rows.getD 6 []).getD 0 dflt)]]) k0)
    (.bad))
    (.bad))
    (.bad))
    (.bad))
    (.bad))
    (.bad))
    (.bad))
    (.bad))
    (.bad))
    (.bad))
    (.bad))
    (.bad))
    (.bad))
    (.bad))
    (.bad))
    (.bad))
    (.bad))
    (.bad)))))
    (.bad))
    (.bad))
    (.bad))
    (.bad))
    (.bad))
    (.bad))
    (.bad))
    (.bad))
    (.bad))
    (.bad))
    (.bad)))))
    (.bad))
    (.bad))
    (k0 x0 (T.l x4.rows))
noncomputable def spec_l2Block_s0_0 : Pack := ⟨[(0, .one ⟨.sn [([4000000], 0)], .sl [.sc (.int .i64)], .l []⟩), (2, .one ⟨.sn [([4000000], 0)], .sl [.sc (.int .i64)], .l []⟩), (7, .one ⟨.al [1000000, 1] 0, .sl [.sc (.int .i64)], .l []⟩), (8, .one ⟨.al [1000000, 2] 0, .sl [.sc (.int .i64)], .l []⟩), (9, .one ⟨.sc, .sc (.int .i64), .l []⟩)], [([4000000], .gone), ([1000000, 1], .row [.sc (.int .i64)] [.F] []), ([1000000, 2], .row [.sc (.int .i64)] [.F] [])]⟩
noncomputable def spec_l2Block_e0_0 : Pack := ⟨[(0, .one ⟨.sn [([4000000], 0)], .sl [.sc (.int .i64)], .l []⟩), (8, .one ⟨.al [1000000, 1] 0, .sl [.sc (.int .i64)], .l []⟩)], [([4000000], .gone), ([1000000, 1], .row [.sc (.int .i64)] [.F] [])]⟩
noncomputable def spec_l2Block_L0_0w (m n : Nat) (vs : List T) (k : Ctl → Pack → An) : An := spec_l2Block_L0_0 m n (vs.headD dflt) (vs.tail.headD dflt) (vs.tail.tail.headD dflt) (vs.tail.tail.tail.headD dflt) (vs.tail.tail.tail.tail.headD dflt) (fun z0 z1 => k (.exit 0) (fPack spec_l2Block_e0_0 [z0, z1]))
noncomputable def spec_l2Block : Nat → T → T → T → (T → An) → An
  | 0, _, _, _, _ => .bad
  | m + 1, x0, x1, x2, k0 =>
    spec_l2Words m (T.l x1.rows)
    (fun y0 => cond (decide ((0 + x0.rows.length) * 1 ≤ maxRow))
    (spec_l2Block_L0_0 m m (T.l x0.rows) (T.l x2.rows) (T.i 0) (T.l y0.rows) (T.l x0.rows)
    (fun y7 y8 => spec_l2Block_L1_0 m m y7 (T.i 0) (T.l y8.rows)
    (fun y9 => k0 (T.l y9.rows))))
    (.bad))
noncomputable def spec_l2Block_a : List Arg := [.one (.dz [.sc (.int .i64)] []), .one (.dz [.sc (.int .u8)] []), .one (.dz [.sc (.int .i64)] [])]
noncomputable def spec_l2Block_w (m : Nat) (vs : List T) (k : Ret → An) : An := spec_l2Block m (vs.headD dflt) (vs.tail.headD dflt) (vs.tail.tail.headD dflt) (fun z0 => k ⟨[.one (.own [1000000, 0] [.sc (.int .i64)] [.F] z0.rows)], [[none], [none], [none]], [none, none, none]⟩)
theorem spec_l2Block_cf (m : Nat) : callK CX prims m = (patC 50 spec_l2Words_a (spec_l2Words_w m) (patC 51 spec_l2Turn_a (spec_l2Turn_w m) (callK CX prims m))) := by
  rw [← patC_eq (fun vs k => spec_l2Turn_eq m vs k), ← patC_eq (fun vs k => spec_l2Words_eq m vs k)]
noncomputable def spec_l2Block_c : Code := (Try.f38.body).getD .skip
noncomputable def spec_l2Block_fi : Fi := ⟨38, 3, 144, 64⟩
theorem spec_l2Block_lf (m : Nat) : ∀ n, (∀ vs k, loopK CX (callK CX prims m) spec_l2Block_fi spec_l2Block_c n [0, 1, 0, 1, 1, 1] (fPack spec_l2Block_s0_0 vs) k = spec_l2Block_L0_0w m n vs k) ∧ (∀ vs k, loopK CX (callK CX prims m) spec_l2Block_fi spec_l2Block_c n [0, 1, 0, 1, 1, 1, 1] (fPack spec_l2Block_s1_0 vs) k = spec_l2Block_L1_0w m n vs k) ∧ ((loopK CX (callK CX prims m) spec_l2Block_fi spec_l2Block_c n) = (patL [0, 1, 0, 1, 1, 1] spec_l2Block_s0_0 (spec_l2Block_L0_0w m n) (patL [0, 1, 0, 1, 1, 1, 1] spec_l2Block_s1_0 (spec_l2Block_L1_0w m n) (loopK CX (callK CX prims m) spec_l2Block_fi spec_l2Block_c n)))) := by
  intro n
  have hl : ∀ n, (∀ vs k, loopK CX (callK CX prims m) spec_l2Block_fi spec_l2Block_c n [0, 1, 0, 1, 1, 1] (fPack spec_l2Block_s0_0 vs) k = spec_l2Block_L0_0w m n vs k) → (∀ vs k, loopK CX (callK CX prims m) spec_l2Block_fi spec_l2Block_c n [0, 1, 0, 1, 1, 1, 1] (fPack spec_l2Block_s1_0 vs) k = spec_l2Block_L1_0w m n vs k) → ((loopK CX (callK CX prims m) spec_l2Block_fi spec_l2Block_c n) = (patL [0, 1, 0, 1, 1, 1] spec_l2Block_s0_0 (spec_l2Block_L0_0w m n) (patL [0, 1, 0, 1, 1, 1, 1] spec_l2Block_s1_0 (spec_l2Block_L1_0w m n) (loopK CX (callK CX prims m) spec_l2Block_fi spec_l2Block_c n)))) := by
    intro n h0 h1
    rw [← patL_eq h1, ← patL_eq h0]
  induction n with
  | zero => exact ⟨fun vs k => rfl, fun vs k => rfl, hl 0 (fun vs k => rfl) (fun vs k => rfl)⟩
  | succ n ihn =>
    have hn := ihn.2.2
    have h0 : ∀ vs k, loopK CX (callK CX prims m) spec_l2Block_fi spec_l2Block_c (n + 1) [0, 1, 0, 1, 1, 1] (fPack spec_l2Block_s0_0 vs) k = spec_l2Block_L0_0w m (n + 1) vs k := fun vs k =>
      (stepL_congr (spec_l2Block_cf m) hn [0, 1, 0, 1, 1, 1] _ _).trans (by kernel_rfl)
    have h1 : ∀ vs k, loopK CX (callK CX prims m) spec_l2Block_fi spec_l2Block_c (n + 1) [0, 1, 0, 1, 1, 1, 1] (fPack spec_l2Block_s1_0 vs) k = spec_l2Block_L1_0w m (n + 1) vs k := fun vs k =>
      (stepL_congr (spec_l2Block_cf m) hn [0, 1, 0, 1, 1, 1, 1] _ _).trans (by kernel_rfl)
    exact ⟨h0, h1, hl (n + 1) h0 h1⟩
theorem spec_l2Block_eq (m : Nat) : ∀ vs k, callK CX prims m 38 (fArgs spec_l2Block_a vs) k = spec_l2Block_w m vs k := by
  cases m with
  | zero => exact fun vs k => rfl
  | succ m => exact fun vs k => Eq.trans (b := bodyK CX (callK CX prims m) (loopK CX (callK CX prims m) spec_l2Block_fi spec_l2Block_c m) 38 Try.f38 spec_l2Block_c (fArgs spec_l2Block_a vs) k) (by kernel_rfl) ((bodyK_congr (spec_l2Block_cf m) ((spec_l2Block_lf m m).2.2) 38 Try.f38 spec_l2Block_c (fArgs spec_l2Block_a vs) k).trans (by kernel_rfl))

/-! loop.example/g00244/spec.Digest -/
noncomputable def spec_Digest_L1_0 (m : Nat) : Nat → T → T → T → (T → An) → An
  | 0, _, _, _, _ => .bad
  | n + 1, x0, x1, x2, k0 =>
    cond (decide (x0.int < 8))
    (cond (decide ((0 : Int) ≤ x0.int ∧ x0.int < (x1.rows.length : Int)))
    (cond (decide ((Int.toNat x0.int) < x1.rows.length))
    (cond (decide ((0 : Int) ≤ x0.int ∧ x0.int < (x1.rows.length : Int)))
    (cond (decide ((Int.toNat x0.int) < x1.rows.length))
    (cond (decide ((0 : Int) ≤ x0.int ∧ x0.int < (x1.rows.length : Int)))
    (cond (decide ((Int.toNat x0.int) < x1.rows.length))
    (cond (decide ((0 : Int) ≤ x0.int ∧ x0.int < (x1.rows.length : Int)))
    (cond (decide ((Int.toNat x0.int) < x1.rows.length))
    (cond (decide ((x2.rows.length + 4) * 1 ≤ maxRow))
    (spec_Digest_L1_0 m n (T.i (IntKind.i64.wrap (x0.int + 1))) (T.l x1.rows) (T.l (x2.rows ++ [[(T.i (IntKind.u8.wrap (Int.fdiv ((x1.rows.getD (Int.toNat x0.int) []).getD 0 dflt).int (2 ^ (min (Int.toNat 24) IntKind.i64.bits)))))], [(T.i (IntKind.u8.wrap (Int.fdiv ((x1.rows.getD (Int.toNat x0.int) []).getD 0 dflt).int (2 ^ (min (Int.toNat 16) IntKind.i64.bits)))))], [(T.i (IntKind.u8.wrap (Int.fdiv ((x1.rows.getD (Int.toNat x0.int) []).getD 0 dflt).int (2 ^ (min (Int.toNat 8) IntKind.i64.bits)))))], [(T.i (IntKind.u8.wrap ((x1.rows.getD (Int.toNat x0.int) []).getD 0 dflt).int))]])) k0)
    (.bad))
    (.bad))
    (.bad))
    (.bad))
    (.bad))
    (.bad))
    (.bad))
    (.bad))
    (.bad))
    (k0 (T.l x2.rows))
noncomputable def spec_Digest_s1_0 : Pack := ⟨[(4, .one ⟨.al [1000000, 0] 0, .sl [.sc (.int .i64)], .l []⟩), (7, .one ⟨.al [1000000, 1] 0, .sl [.sc (.int .u8)], .l []⟩), (8, .one ⟨.sc, .sc (.int .i64), .l []⟩)], [([1000000, 0], .row [.sc (.int .i64)] [.F] []), ([1000000, 1], .row [.sc (.int .u8)] [.F] [])]⟩
noncomputable def spec_Digest_e1_0 : Pack := ⟨[(7, .one ⟨.al [1000000, 0] 0, .sl [.sc (.int .u8)], .l []⟩)], [([1000000, 0], .row [.sc (.int .u8)] [.F] [])]⟩
noncomputable def spec_Digest_L1_0w (m n : Nat) (vs : List T) (k : Ctl → Pack → An) : An := spec_Digest_L1_0 m n (vs.headD dflt) (vs.tail.headD dflt) (vs.tail.tail.headD dflt) (fun z0 => k (.exit 2) (fPack spec_Digest_e1_0 [z0]))
noncomputable def spec_Digest_L0_0 (m : Nat) : Nat → T → T → T → T → (T → An) → An
  | 0, _, _, _, _, _ => .bad
  | n + 1, x0, x1, x2, x3, k0 =>
    cond (decide (x0.int < (x1.rows.length : Int)))
    (cond (decide ((0 : Int) ≤ (IntKind.i64.wrap (x0.int + 64)) ∧ (IntKind.i64.wrap (x0.int + 64)) ≤ (x1.rows.length : Int)))
    (cond (decide ((0 : Int) ≤ x0.int ∧ x0.int ≤ (IntKind.i64.wrap (x0.int + 64))))
    (spec_l2Block m (T.l x2.rows) (T.l ((x1.rows.take (Int.toNat (IntKind.i64.wrap (x0.int + 64)))).drop (Int.toNat x0.int))) (T.l x3.rows)
    (fun y2 => spec_Digest_L0_0 m n (T.i (IntKind.i64.wrap (x0.int + 64))) (T.l x1.rows) (T.l y2.rows) (T.l x3.rows) k0))
    (.bad))
    (.bad))
    (k0 (T.l x2.rows))
noncomputable def spec_Digest_s0_0 : Pack := ⟨[(3, .one ⟨.al [1000000, 0] 0, .sl [.sc (.int .u8)], .l []⟩), (4, .one ⟨.al [1000000, 1] 0, .sl [.sc (.int .i64)], .l []⟩), (5, .one ⟨.al [1000000, 2] 0, .sl [.sc (.int .i64)], .l []⟩), (6, .one ⟨.sc, .sc (.int .i64), .l []⟩)], [([1000000, 0], .row [.sc (.int .u8)] [.F] []), ([1000000, 1], .row [.sc (.int .i64)] [.F] []), ([1000000, 2], .row [.sc (.int .i64)] [.F] [])]⟩
noncomputable def spec_Digest_e0_0 : Pack := ⟨[(4, .one ⟨.al [1000000, 0] 0, .sl [.sc (.int .i64)], .l []⟩)], [([1000000, 0], .row [.sc (.int .i64)] [.F] [])]⟩
noncomputable def spec_Digest_L0_0w (m n : Nat) (vs : List T) (k : Ctl → Pack → An) : An := spec_Digest_L0_0 m n (vs.headD dflt) (vs.tail.headD dflt) (vs.tail.tail.headD dflt) (vs.tail.tail.tail.headD dflt) (fun z0 => k (.exit 0) (fPack spec_Digest_e0_0 [z0]))
noncomputable def spec_Digest : Nat → T → (T → An) → An
  | 0, _, _ => .bad
  | m + 1, x0, k0 =>
    spec_Padded m (T.l x0.rows)
    (fun y0 => spec_l2K m 
    (fun y1 => spec_Digest_L0_0 m m (T.i 0) (T.l y0.rows) (T.l [[(T.i 1779033703)], [(T.i 3144134277)], [(T.i 1013904242)], [(T.i 2773480762)], [(T.i 1359893119)], [(T.i 2600822924)], [(T.i 528734635)], [(T.i 1541459225)]]) (T.l y1.rows)
    (fun y3 => spec_Digest_L1_0 m m (T.i 0) (T.l y3.rows) (T.l [])
    (fun y4 => k0 (T.s (rowsBytes y4.rows))))))
noncomputable def spec_Digest_a : List Arg := [.one (.dz [.sc (.int .u8)] [])]
noncomputable def spec_Digest_w (m : Nat) (vs : List T) (k : Ret → An) : An := spec_Digest m (vs.headD dflt) (fun z0 => k ⟨[.one (.sc (.str) z0)], [[none]], [none]⟩)
theorem spec_Digest_cf (m : Nat) : callK CX prims m = (patC 36 spec_Padded_a (spec_Padded_w m) (patC 37 spec_l2K_a (spec_l2K_w m) (patC 38 spec_l2Block_a (spec_l2Block_w m) (callK CX prims m)))) := by
  rw [← patC_eq (fun vs k => spec_l2Block_eq m vs k), ← patC_eq (fun vs k => spec_l2K_eq m vs k), ← patC_eq (fun vs k => spec_Padded_eq m vs k)]
noncomputable def spec_Digest_c : Code := (Try.f24.body).getD .skip
noncomputable def spec_Digest_fi : Fi := ⟨24, 1, 60, 4⟩
theorem spec_Digest_lf (m : Nat) : ∀ n, (∀ vs k, loopK CX (callK CX prims m) spec_Digest_fi spec_Digest_c n [0, 1, 0, 1, 1, 1, 1] (fPack spec_Digest_s0_0 vs) k = spec_Digest_L0_0w m n vs k) ∧ (∀ vs k, loopK CX (callK CX prims m) spec_Digest_fi spec_Digest_c n [0, 1, 0, 1, 1, 1, 1, 1, 1] (fPack spec_Digest_s1_0 vs) k = spec_Digest_L1_0w m n vs k) ∧ ((loopK CX (callK CX prims m) spec_Digest_fi spec_Digest_c n) = (patL [0, 1, 0, 1, 1, 1, 1] spec_Digest_s0_0 (spec_Digest_L0_0w m n) (patL [0, 1, 0, 1, 1, 1, 1, 1, 1] spec_Digest_s1_0 (spec_Digest_L1_0w m n) (loopK CX (callK CX prims m) spec_Digest_fi spec_Digest_c n)))) := by
  intro n
  have hl : ∀ n, (∀ vs k, loopK CX (callK CX prims m) spec_Digest_fi spec_Digest_c n [0, 1, 0, 1, 1, 1, 1] (fPack spec_Digest_s0_0 vs) k = spec_Digest_L0_0w m n vs k) → (∀ vs k, loopK CX (callK CX prims m) spec_Digest_fi spec_Digest_c n [0, 1, 0, 1, 1, 1, 1, 1, 1] (fPack spec_Digest_s1_0 vs) k = spec_Digest_L1_0w m n vs k) → ((loopK CX (callK CX prims m) spec_Digest_fi spec_Digest_c n) = (patL [0, 1, 0, 1, 1, 1, 1] spec_Digest_s0_0 (spec_Digest_L0_0w m n) (patL [0, 1, 0, 1, 1, 1, 1, 1, 1] spec_Digest_s1_0 (spec_Digest_L1_0w m n) (loopK CX (callK CX prims m) spec_Digest_fi spec_Digest_c n)))) := by
    intro n h0 h1
    rw [← patL_eq h1, ← patL_eq h0]
  induction n with
  | zero => exact ⟨fun vs k => rfl, fun vs k => rfl, hl 0 (fun vs k => rfl) (fun vs k => rfl)⟩
  | succ n ihn =>
    have hn := ihn.2.2
    have h0 : ∀ vs k, loopK CX (callK CX prims m) spec_Digest_fi spec_Digest_c (n + 1) [0, 1, 0, 1, 1, 1, 1] (fPack spec_Digest_s0_0 vs) k = spec_Digest_L0_0w m (n + 1) vs k := fun vs k =>
      (stepL_congr (spec_Digest_cf m) hn [0, 1, 0, 1, 1, 1, 1] _ _).trans (by kernel_rfl)
    have h1 : ∀ vs k, loopK CX (callK CX prims m) spec_Digest_fi spec_Digest_c (n + 1) [0, 1, 0, 1, 1, 1, 1, 1, 1] (fPack spec_Digest_s1_0 vs) k = spec_Digest_L1_0w m (n + 1) vs k := fun vs k =>
      (stepL_congr (spec_Digest_cf m) hn [0, 1, 0, 1, 1, 1, 1, 1, 1] _ _).trans (by kernel_rfl)
    exact ⟨h0, h1, hl (n + 1) h0 h1⟩
theorem spec_Digest_eq (m : Nat) : ∀ vs k, callK CX prims m 24 (fArgs spec_Digest_a vs) k = spec_Digest_w m vs k := by
  cases m with
  | zero => exact fun vs k => rfl
  | succ m => exact fun vs k => Eq.trans (b := bodyK CX (callK CX prims m) (loopK CX (callK CX prims m) spec_Digest_fi spec_Digest_c m) 24 Try.f24 spec_Digest_c (fArgs spec_Digest_a vs) k) (by kernel_rfl) ((bodyK_congr (spec_Digest_cf m) ((spec_Digest_lf m m).2.2) 24 Try.f24 spec_Digest_c (fArgs spec_Digest_a vs) k).trans (by kernel_rfl))

/-! loop.example/g00244/spec.SuperOf -/
noncomputable def spec_SuperOf : Nat → T → T → T → (T → An) → An
  | 0, _, _, _, _ => .bad
  | m + 1, x0, x1, x2, k0 =>
    spec_l15Super m x0 x1 (T.l x2.rows)
    (fun y0 => spec_Digest m (T.l y0.rows)
    (fun y1 => k0 y1))
noncomputable def spec_SuperOf_a : List Arg := [.one (.sc (.int .i64) (.l [])), .one (.sc (.str) (.l [])), .one (.dz [.sc (.str)] [])]
noncomputable def spec_SuperOf_w (m : Nat) (vs : List T) (k : Ret → An) : An := spec_SuperOf m (vs.headD dflt) (vs.tail.headD dflt) (vs.tail.tail.headD dflt) (fun z0 => k ⟨[.one (.sc (.str) z0)], [[none], [none], [none]], [none, none, none]⟩)
theorem spec_SuperOf_cf (m : Nat) : callK CX prims m = (patC 25 spec_l15Super_a (spec_l15Super_w m) (patC 24 spec_Digest_a (spec_Digest_w m) (callK CX prims m))) := by
  rw [← patC_eq (fun vs k => spec_Digest_eq m vs k), ← patC_eq (fun vs k => spec_l15Super_eq m vs k)]
noncomputable def spec_SuperOf_c : Code := (Try.f8.body).getD .skip
noncomputable def spec_SuperOf_fi : Fi := ⟨8, 3, 12, 64⟩
theorem spec_SuperOf_eq (m : Nat) : ∀ vs k, callK CX prims m 8 (fArgs spec_SuperOf_a vs) k = spec_SuperOf_w m vs k := by
  cases m with
  | zero => exact fun vs k => rfl
  | succ m => exact fun vs k => Eq.trans (b := bodyK CX (callK CX prims m) (loopK CX (callK CX prims m) spec_SuperOf_fi spec_SuperOf_c m) 8 Try.f8 spec_SuperOf_c (fArgs spec_SuperOf_a vs) k) (by kernel_rfl) ((bodyK_congr (spec_SuperOf_cf m) rfl 8 Try.f8 spec_SuperOf_c (fArgs spec_SuperOf_a vs) k).trans (by kernel_rfl))

/-! loop.example/g00244/impl.putNum -/
noncomputable def impl_putNum_L0_1 (m : Nat) : Nat → T → T → (T → T → An) → (T → T → An) → An
  | 0, _, _, _, _ => .bad
  | n + 1, x0, x1, k0, k1 =>
    cond (decide (x0.int > 127))
    (cond (decide ((x1.rows.length + 1) * 1 ≤ maxRow))
    (impl_putNum_L0_1 m n (T.i (Int.fdiv x0.int (2 ^ (min (Int.toNat 7) IntKind.i64.bits)))) (T.l (x1.rows ++ [[(T.i (IntKind.u8.wrap (bvBack .i64 (BitVec.ofInt IntKind.i64.bits 128 ||| BitVec.ofInt IntKind.i64.bits (bvBack .i64 (BitVec.ofInt IntKind.i64.bits x0.int &&& BitVec.ofInt IntKind.i64.bits 127)).int)).int))]])) k0 k1)
    (.bad))
    (k0 x0 (T.l x1.rows))
noncomputable def impl_putNum_s0_1 : Pack := ⟨[(0, .one ⟨.al [1000000, 0] 0, .sl [.sc (.int .u8)], .l []⟩), (1, .one ⟨.sc, .sc (.int .i64), .l []⟩)], [([1000000, 0], .row [.sc (.int .u8)] [.F] [])]⟩
noncomputable def impl_putNum_L0_0 (m : Nat) : Nat → T → T → (T → T → An) → (T → T → An) → An
  | 0, _, _, _, _ => .bad
  | n + 1, x0, x1, k0, k1 =>
    cond (decide (x0.int > 127))
    (cond (decide ((x1.rows.length + 1) * 1 ≤ maxRow))
    (impl_putNum_L0_1 m n (T.i (Int.fdiv x0.int (2 ^ (min (Int.toNat 7) IntKind.i64.bits)))) (T.l (x1.rows ++ [[(T.i (IntKind.u8.wrap (bvBack .i64 (BitVec.ofInt IntKind.i64.bits 128 ||| BitVec.ofInt IntKind.i64.bits (bvBack .i64 (BitVec.ofInt IntKind.i64.bits x0.int &&& BitVec.ofInt IntKind.i64.bits 127)).int)).int))]])) k0 k1)
    (.bad))
    (k1 x0 (T.l x1.rows))
noncomputable def impl_putNum_s0_0 : Pack := ⟨[(0, .one ⟨.al [0, 0] 0, .sl [.sc (.int .u8)], .l []⟩), (1, .one ⟨.sc, .sc (.int .i64), .l []⟩)], [([0, 0], .row [.sc (.int .u8)] [.F] [])]⟩
noncomputable def impl_putNum_e0_0 : Pack := ⟨[(0, .one ⟨.al [1000000, 0] 0, .sl [.sc (.int .u8)], .l []⟩), (1, .one ⟨.sc, .sc (.int .i64), .l []⟩)], [([1000000, 0], .row [.sc (.int .u8)] [.F] [])]⟩
noncomputable def impl_putNum_e0_1 : Pack := ⟨[(0, .one ⟨.al [0, 0] 0, .sl [.sc (.int .u8)], .l []⟩), (1, .one ⟨.sc, .sc (.int .i64), .l []⟩)], [([0, 0], .row [.sc (.int .u8)] [.F] [])]⟩
noncomputable def impl_putNum_L0_1w (m n : Nat) (vs : List T) (k : Ctl → Pack → An) : An := impl_putNum_L0_1 m n (vs.headD dflt) (vs.tail.headD dflt) (fun z0 z1 => k (.exit 0) (fPack impl_putNum_e0_0 [z0, z1])) (fun z0 z1 => k (.exit 0) (fPack impl_putNum_e0_1 [z0, z1]))
noncomputable def impl_putNum_L0_0w (m n : Nat) (vs : List T) (k : Ctl → Pack → An) : An := impl_putNum_L0_0 m n (vs.headD dflt) (vs.tail.headD dflt) (fun z0 z1 => k (.exit 0) (fPack impl_putNum_e0_0 [z0, z1])) (fun z0 z1 => k (.exit 0) (fPack impl_putNum_e0_1 [z0, z1]))
noncomputable def impl_putNum : Nat → T → T → (T → An) → An
  | 0, _, _, _ => .bad
  | m + 1, x0, x1, k0 =>
    impl_putNum_L0_0 m m (T.i (maxI 0 (minI x1.int 1000000000))) (T.l x0.rows)
    (fun y0 y1 => cond (decide ((y1.rows.length + 1) * 1 ≤ maxRow))
    (k0 (T.l (y1.rows ++ [[(T.i (IntKind.u8.wrap y0.int))]])))
    (.bad))
    (fun y2 y3 => cond (decide ((y3.rows.length + 1) * 1 ≤ maxRow))
    (k0 (T.l (y3.rows ++ [[(T.i (IntKind.u8.wrap y2.int))]])))
    (.bad))
noncomputable def impl_putNum_a : List Arg := [.one (.own [.sc (.int .u8)] [.F] []), .one (.sc (.int .i64) (.l []))]
noncomputable def impl_putNum_w (m : Nat) (vs : List T) (k : Ret → An) : An := impl_putNum m (vs.headD dflt) (vs.tail.headD dflt) (fun z0 => k ⟨[.one (.own [2000023] [.sc (.int .u8)] [.F] z0.rows)], [[none], [none]], [none, none]⟩)
theorem impl_putNum_cf (m : Nat) : callK CX prims m = (callK CX prims m) := by
  rfl
noncomputable def impl_putNum_c : Code := (Try.f29.body).getD .skip
noncomputable def impl_putNum_fi : Fi := ⟨29, 2, 24, 17⟩
theorem impl_putNum_lf (m : Nat) : ∀ n, (∀ vs k, loopK CX (callK CX prims m) impl_putNum_fi impl_putNum_c n [0, 0, 1, 1] (fPack impl_putNum_s0_0 vs) k = impl_putNum_L0_0w m n vs k) ∧ (∀ vs k, loopK CX (callK CX prims m) impl_putNum_fi impl_putNum_c n [0, 0, 1, 1] (fPack impl_putNum_s0_1 vs) k = impl_putNum_L0_1w m n vs k) ∧ ((loopK CX (callK CX prims m) impl_putNum_fi impl_putNum_c n) = (patL [0, 0, 1, 1] impl_putNum_s0_0 (impl_putNum_L0_0w m n) (patL [0, 0, 1, 1] impl_putNum_s0_1 (impl_putNum_L0_1w m n) (loopK CX (callK CX prims m) impl_putNum_fi impl_putNum_c n)))) := by
  intro n
  have hl : ∀ n, (∀ vs k, loopK CX (callK CX prims m) impl_putNum_fi impl_putNum_c n [0, 0, 1, 1] (fPack impl_putNum_s0_0 vs) k = impl_putNum_L0_0w m n vs k) → (∀ vs k, loopK CX (callK CX prims m) impl_putNum_fi impl_putNum_c n [0, 0, 1, 1] (fPack impl_putNum_s0_1 vs) k = impl_putNum_L0_1w m n vs k) → ((loopK CX (callK CX prims m) impl_putNum_fi impl_putNum_c n) = (patL [0, 0, 1, 1] impl_putNum_s0_0 (impl_putNum_L0_0w m n) (patL [0, 0, 1, 1] impl_putNum_s0_1 (impl_putNum_L0_1w m n) (loopK CX (callK CX prims m) impl_putNum_fi impl_putNum_c n)))) := by
    intro n h0 h1
    rw [← patL_eq h1, ← patL_eq h0]
  induction n with
  | zero => exact ⟨fun vs k => rfl, fun vs k => rfl, hl 0 (fun vs k => rfl) (fun vs k => rfl)⟩
  | succ n ihn =>
    have hn := ihn.2.2
    have h0 : ∀ vs k, loopK CX (callK CX prims m) impl_putNum_fi impl_putNum_c (n + 1) [0, 0, 1, 1] (fPack impl_putNum_s0_0 vs) k = impl_putNum_L0_0w m (n + 1) vs k := fun vs k =>
      (stepL_congr (impl_putNum_cf m) hn [0, 0, 1, 1] _ _).trans (by kernel_rfl)
    have h1 : ∀ vs k, loopK CX (callK CX prims m) impl_putNum_fi impl_putNum_c (n + 1) [0, 0, 1, 1] (fPack impl_putNum_s0_1 vs) k = impl_putNum_L0_1w m (n + 1) vs k := fun vs k =>
      (stepL_congr (impl_putNum_cf m) hn [0, 0, 1, 1] _ _).trans (by kernel_rfl)
    exact ⟨h0, h1, hl (n + 1) h0 h1⟩
theorem impl_putNum_eq (m : Nat) : ∀ vs k, callK CX prims m 29 (fArgs impl_putNum_a vs) k = impl_putNum_w m vs k := by
  cases m with
  | zero => exact fun vs k => rfl
  | succ m => exact fun vs k => Eq.trans (b := bodyK CX (callK CX prims m) (loopK CX (callK CX prims m) impl_putNum_fi impl_putNum_c m) 29 Try.f29 impl_putNum_c (fArgs impl_putNum_a vs) k) (by kernel_rfl) ((bodyK_congr (impl_putNum_cf m) ((impl_putNum_lf m m).2.2) 29 Try.f29 impl_putNum_c (fArgs impl_putNum_a vs) k).trans (by kernel_rfl))

/-! loop.example/g00244/impl.putText -/
noncomputable def impl_putText : Nat → T → T → (T → An) → An
  | 0, _, _, _ => .bad
  | m + 1, x0, x1, k0 =>
    impl_putNum m (T.l x0.rows) (T.i (x1.str.size : Int))
    (fun y0 => cond (decide ((y0.rows.length + (bytesRows x1.str).length) * 1 ≤ maxRow))
    (k0 (T.l (y0.rows ++ (bytesRows x1.str))))
    (.bad))
noncomputable def impl_putText_a : List Arg := [.one (.own [.sc (.int .u8)] [.F] []), .one (.sc (.str) (.l []))]
noncomputable def impl_putText_w (m : Nat) (vs : List T) (k : Ret → An) : An := impl_putText m (vs.headD dflt) (vs.tail.headD dflt) (fun z0 => k ⟨[.one (.own [2000010] [.sc (.int .u8)] [.F] z0.rows)], [[none], [none]], [none, none]⟩)
theorem impl_putText_cf (m : Nat) : callK CX prims m = (patC 29 impl_putNum_a (impl_putNum_w m) (callK CX prims m)) := by
  rw [← patC_eq (fun vs k => impl_putNum_eq m vs k)]
noncomputable def impl_putText_c : Code := (Try.f28.body).getD .skip
noncomputable def impl_putText_fi : Fi := ⟨28, 2, 11, 17⟩
theorem impl_putText_eq (m : Nat) : ∀ vs k, callK CX prims m 28 (fArgs impl_putText_a vs) k = impl_putText_w m vs k := by
  cases m with
  | zero => exact fun vs k => rfl
  | succ m => exact fun vs k => Eq.trans (b := bodyK CX (callK CX prims m) (loopK CX (callK CX prims m) impl_putText_fi impl_putText_c m) 28 Try.f28 impl_putText_c (fArgs impl_putText_a vs) k) (by kernel_rfl) ((bodyK_congr (impl_putText_cf m) rfl 28 Try.f28 impl_putText_c (fArgs impl_putText_a vs) k).trans (by kernel_rfl))

/-! loop.example/g00244/impl.putTexts -/
noncomputable def impl_putTexts_L0_0 (m : Nat) : Nat → T → T → T → T → (T → An) → An
  | 0, _, _, _, _, _ => .bad
  | n + 1, x0, x1, x2, x3, k0 =>
    cond (decide (x2.int < x1.int))
    (cond (decide ((0 : Int) ≤ x2.int ∧ x2.int < (x0.rows.length : Int)))
    (impl_putText m (T.l x3.rows) ((x0.rows.getD (Int.toNat x2.int) []).getD 0 dflt)
    (fun y1 => impl_putTexts_L0_0 m n x0 x1 (T.i (IntKind.i64.wrap (x2.int + 1))) (T.l y1.rows) k0))
    (.bad))
    (k0 (T.l x3.rows))
noncomputable def impl_putTexts_s0_0 : Pack := ⟨[(0, .one ⟨.al [1000000, 0] 0, .sl [.sc (.int .u8)], .l []⟩), (11, .one ⟨.sn [([4000000], 0)], .sl [.sc (.str)], .l []⟩), (12, .one ⟨.sc, .sc (.int .i64), .l []⟩), (13, .one ⟨.sc, .sc (.int .i64), .l []⟩)], [([1000000, 0], .row [.sc (.int .u8)] [.F] []), ([4000000], .gone)]⟩
noncomputable def impl_putTexts_e0_0 : Pack := ⟨[(0, .one ⟨.al [1000000, 0] 0, .sl [.sc (.int .u8)], .l []⟩)], [([1000000, 0], .row [.sc (.int .u8)] [.F] [])]⟩
noncomputable def impl_putTexts_L0_0w (m n : Nat) (vs : List T) (k : Ctl → Pack → An) : An := impl_putTexts_L0_0 m n (vs.headD dflt) (vs.tail.headD dflt) (vs.tail.tail.headD dflt) (vs.tail.tail.tail.headD dflt) (fun z0 => k (.exit 0) (fPack impl_putTexts_e0_0 [z0]))
noncomputable def impl_putTexts : Nat → T → T → (T → An) → An
  | 0, _, _, _ => .bad
  | m + 1, x0, x1, k0 =>
    impl_putNum m (T.l x0.rows) (T.i (x1.rows.length : Int))
    (fun y0 => impl_putTexts_L0_0 m m (T.l x1.rows) (T.i (x1.rows.length : Int)) (T.i 0) (T.l y0.rows)
    (fun y2 => k0 (T.l y2.rows)))
noncomputable def impl_putTexts_a : List Arg := [.one (.own [.sc (.int .u8)] [.F] []), .one (.dz [.sc (.str)] [])]
noncomputable def impl_putTexts_w (m : Nat) (vs : List T) (k : Ret → An) : An := impl_putTexts m (vs.headD dflt) (vs.tail.headD dflt) (fun z0 => k ⟨[.one (.own [1000000, 0] [.sc (.int .u8)] [.F] z0.rows)], [[none], [none]], [none, none]⟩)
theorem impl_putTexts_cf (m : Nat) : callK CX prims m = (patC 29 impl_putNum_a (impl_putNum_w m) (patC 28 impl_putText_a (impl_putText_w m) (callK CX prims m))) := by
  rw [← patC_eq (fun vs k => impl_putText_eq m vs k), ← patC_eq (fun vs k => impl_putNum_eq m vs k)]
noncomputable def impl_putTexts_c : Code := (Try.f27.body).getD .skip
noncomputable def impl_putTexts_fi : Fi := ⟨27, 2, 22, 17⟩
theorem impl_putTexts_lf (m : Nat) : ∀ n, (∀ vs k, loopK CX (callK CX prims m) impl_putTexts_fi impl_putTexts_c n [0, 1, 0, 1, 1] (fPack impl_putTexts_s0_0 vs) k = impl_putTexts_L0_0w m n vs k) ∧ ((loopK CX (callK CX prims m) impl_putTexts_fi impl_putTexts_c n) = (patL [0, 1, 0, 1, 1] impl_putTexts_s0_0 (impl_putTexts_L0_0w m n) (loopK CX (callK CX prims m) impl_putTexts_fi impl_putTexts_c n))) := by
  intro n
  have hl : ∀ n, (∀ vs k, loopK CX (callK CX prims m) impl_putTexts_fi impl_putTexts_c n [0, 1, 0, 1, 1] (fPack impl_putTexts_s0_0 vs) k = impl_putTexts_L0_0w m n vs k) → ((loopK CX (callK CX prims m) impl_putTexts_fi impl_putTexts_c n) = (patL [0, 1, 0, 1, 1] impl_putTexts_s0_0 (impl_putTexts_L0_0w m n) (loopK CX (callK CX prims m) impl_putTexts_fi impl_putTexts_c n))) := by
    intro n h0
    rw [← patL_eq h0]
  induction n with
  | zero => exact ⟨fun vs k => rfl, hl 0 (fun vs k => rfl)⟩
  | succ n ihn =>
    have hn := ihn.2
    have h0 : ∀ vs k, loopK CX (callK CX prims m) impl_putTexts_fi impl_putTexts_c (n + 1) [0, 1, 0, 1, 1] (fPack impl_putTexts_s0_0 vs) k = impl_putTexts_L0_0w m (n + 1) vs k := fun vs k =>
      (stepL_congr (impl_putTexts_cf m) hn [0, 1, 0, 1, 1] _ _).trans (by kernel_rfl)
    exact ⟨h0, hl (n + 1) h0⟩
theorem impl_putTexts_eq (m : Nat) : ∀ vs k, callK CX prims m 27 (fArgs impl_putTexts_a vs) k = impl_putTexts_w m vs k := by
  cases m with
  | zero => exact fun vs k => rfl
  | succ m => exact fun vs k => Eq.trans (b := bodyK CX (callK CX prims m) (loopK CX (callK CX prims m) impl_putTexts_fi impl_putTexts_c m) 27 Try.f27 impl_putTexts_c (fArgs impl_putTexts_a vs) k) (by kernel_rfl) ((bodyK_congr (impl_putTexts_cf m) ((impl_putTexts_lf m m).2) 27 Try.f27 impl_putTexts_c (fArgs impl_putTexts_a vs) k).trans (by kernel_rfl))

/-! loop.example/g00244/impl.SuperOf -/
noncomputable def impl_SuperOf : Nat → T → T → T → (T → An) → An
  | 0, _, _, _, _ => .bad
  | m + 1, x0, x1, x2, k0 =>
    impl_putNum m (T.l [[(T.i 3)]]) x0
    (fun y0 => impl_putText m (T.l y0.rows) x1
    (fun y1 => impl_putTexts m (T.l y1.rows) (T.l x2.rows)
    (fun y2 => impl_Digest m (T.l y2.rows)
    (fun y3 => k0 y3))))
noncomputable def impl_SuperOf_a : List Arg := [.one (.sc (.int .i64) (.l [])), .one (.sc (.str) (.l [])), .one (.dz [.sc (.str)] [])]
noncomputable def impl_SuperOf_w (m : Nat) (vs : List T) (k : Ret → An) : An := impl_SuperOf m (vs.headD dflt) (vs.tail.headD dflt) (vs.tail.tail.headD dflt) (fun z0 => k ⟨[.one (.sc (.str) z0)], [[none], [none], [none]], [none, none, none]⟩)
theorem impl_SuperOf_cf (m : Nat) : callK CX prims m = (patC 29 impl_putNum_a (impl_putNum_w m) (patC 28 impl_putText_a (impl_putText_w m) (patC 27 impl_putTexts_a (impl_putTexts_w m) (patC 26 impl_Digest_a (impl_Digest_w m) (callK CX prims m))))) := by
  rw [← patC_eq (fun vs k => impl_Digest_eq m vs k), ← patC_eq (fun vs k => impl_putTexts_eq m vs k), ← patC_eq (fun vs k => impl_putText_eq m vs k), ← patC_eq (fun vs k => impl_putNum_eq m vs k)]
noncomputable def impl_SuperOf_c : Code := (Try.f10.body).getD .skip
noncomputable def impl_SuperOf_fi : Fi := ⟨10, 3, 15, 64⟩
theorem impl_SuperOf_eq (m : Nat) : ∀ vs k, callK CX prims m 10 (fArgs impl_SuperOf_a vs) k = impl_SuperOf_w m vs k := by
  cases m with
  | zero => exact fun vs k => rfl
  | succ m => exact fun vs k => Eq.trans (b := bodyK CX (callK CX prims m) (loopK CX (callK CX prims m) impl_SuperOf_fi impl_SuperOf_c m) 10 Try.f10 impl_SuperOf_c (fArgs impl_SuperOf_a vs) k) (by kernel_rfl) ((bodyK_congr (impl_SuperOf_cf m) rfl 10 Try.f10 impl_SuperOf_c (fArgs impl_SuperOf_a vs) k).trans (by kernel_rfl))

/-! loop.example/g00244/laws.eqStringS -/
noncomputable def laws_eqStringS_L0_0 (m : Nat) : Nat → T → T → T → (T → An) → An → An
  | 0, _, _, _, _, _ => .bad
  | n + 1, x0, x1, x2, k0, k1 =>
    cond (decide (x2.int < (x0.rows.length : Int)))
    (cond (decide ((0 : Int) ≤ x2.int ∧ x2.int < (x0.rows.length : Int)))
    (cond (decide ((0 : Int) ≤ x2.int ∧ x2.int < (x1.rows.length : Int)))
    (cond (!(((x0.rows.getD (Int.toNat x2.int) []).getD 0 dflt).str.toList == ((x1.rows.getD (Int.toNat x2.int) []).getD 0 dflt).str.toList))
    (k0 (T.b false))
    (laws_eqStringS_L0_0 m n x0 x1 (T.i (IntKind.i64.wrap (x2.int + 1))) k0 k1))
    (.bad))
    (.bad))
    (k1 )
noncomputable def laws_eqStringS_s0_0 : Pack := ⟨[(0, .one ⟨.sn [([4000000], 0)], .sl [.sc (.str)], .l []⟩), (1, .one ⟨.sn [([4000000], 0)], .sl [.sc (.str)], .l []⟩), (5, .one ⟨.sc, .sc (.int .i64), .l []⟩)], [([4000000], .gone)]⟩
noncomputable def laws_eqStringS_e0_0 : Pack := ⟨[(4, .one ⟨.sc, .sc (.bool), .l []⟩)], []⟩
noncomputable def laws_eqStringS_e0_1 : Pack := ⟨[], []⟩
noncomputable def laws_eqStringS_L0_0w (m n : Nat) (vs : List T) (k : Ctl → Pack → An) : An := laws_eqStringS_L0_0 m n (vs.headD dflt) (vs.tail.headD dflt) (vs.tail.tail.headD dflt) (fun z0 => k .ret (fPack laws_eqStringS_e0_0 [z0])) (k (.exit 0) (fPack laws_eqStringS_e0_1 []))
noncomputable def laws_eqStringS : Nat → T → T → (T → An) → An
  | 0, _, _, _ => .bad
  | m + 1, x0, x1, k0 =>
    cond ((x0.rows.length : Int) != (x1.rows.length : Int))
    (k0 (T.b false))
    (laws_eqStringS_L0_0 m m (T.l x0.rows) (T.l x1.rows) (T.i 0)
    (fun y0 => k0 y0)
    (k0 (T.b true)))
noncomputable def laws_eqStringS_a : List Arg := [.one (.dz [.sc (.str)] []), .one (.dz [.sc (.str)] [])]
noncomputable def laws_eqStringS_w (m : Nat) (vs : List T) (k : Ret → An) : An := laws_eqStringS m (vs.headD dflt) (vs.tail.headD dflt) (fun z0 => k ⟨[.one (.sc (.bool) z0)], [[none], [none]], [none, none]⟩)
theorem laws_eqStringS_cf (m : Nat) : callK CX prims m = (callK CX prims m) := by
  rfl
noncomputable def laws_eqStringS_c : Code := (Try.f11.body).getD .skip
noncomputable def laws_eqStringS_fi : Fi := ⟨11, 2, 26, 16⟩
theorem laws_eqStringS_lf (m : Nat) : ∀ n, (∀ vs k, loopK CX (callK CX prims m) laws_eqStringS_fi laws_eqStringS_c n [0, 1, 0, 1, 1] (fPack laws_eqStringS_s0_0 vs) k = laws_eqStringS_L0_0w m n vs k) ∧ ((loopK CX (callK CX prims m) laws_eqStringS_fi laws_eqStringS_c n) = (patL [0, 1, 0, 1, 1] laws_eqStringS_s0_0 (laws_eqStringS_L0_0w m n) (loopK CX (callK CX prims m) laws_eqStringS_fi laws_eqStringS_c n))) := by
  intro n
  have hl : ∀ n, (∀ vs k, loopK CX (callK CX prims m) laws_eqStringS_fi laws_eqStringS_c n [0, 1, 0, 1, 1] (fPack laws_eqStringS_s0_0 vs) k = laws_eqStringS_L0_0w m n vs k) → ((loopK CX (callK CX prims m) laws_eqStringS_fi laws_eqStringS_c n) = (patL [0, 1, 0, 1, 1] laws_eqStringS_s0_0 (laws_eqStringS_L0_0w m n) (loopK CX (callK CX prims m) laws_eqStringS_fi laws_eqStringS_c n))) := by
    intro n h0
    rw [← patL_eq h0]
  induction n with
  | zero => exact ⟨fun vs k => rfl, hl 0 (fun vs k => rfl)⟩
  | succ n ihn =>
    have hn := ihn.2
    have h0 : ∀ vs k, loopK CX (callK CX prims m) laws_eqStringS_fi laws_eqStringS_c (n + 1) [0, 1, 0, 1, 1] (fPack laws_eqStringS_s0_0 vs) k = laws_eqStringS_L0_0w m (n + 1) vs k := fun vs k =>
      (stepL_congr (laws_eqStringS_cf m) hn [0, 1, 0, 1, 1] _ _).trans (by kernel_rfl)
    exact ⟨h0, hl (n + 1) h0⟩
theorem laws_eqStringS_eq (m : Nat) : ∀ vs k, callK CX prims m 11 (fArgs laws_eqStringS_a vs) k = laws_eqStringS_w m vs k := by
  cases m with
  | zero => exact fun vs k => rfl
  | succ m => exact fun vs k => Eq.trans (b := bodyK CX (callK CX prims m) (loopK CX (callK CX prims m) laws_eqStringS_fi laws_eqStringS_c m) 11 Try.f11 laws_eqStringS_c (fArgs laws_eqStringS_a vs) k) (by kernel_rfl) ((bodyK_congr (laws_eqStringS_cf m) ((laws_eqStringS_lf m m).2) 11 Try.f11 laws_eqStringS_c (fArgs laws_eqStringS_a vs) k).trans (by kernel_rfl))

/-! loop.example/g00244/laws.FnExactSuperOf -/
noncomputable def laws_FnExactSuperOf : Nat → T → T → T → (T → An) → An
  | 0, _, _, _, _ => .bad
  | m + 1, x0, x1, x2, k0 =>
    cond (decide ((x1.str.size : Int) > 1048576))
    (k0 (T.b true))
    (laws_szStringS m (T.l x2.rows) (T.i 1048576)
    (fun y0 => cond (decide (y0.int < 0))
    (k0 (T.b true))
    (laws_toStringS m (T.l x2.rows)
    (fun y1 => spec_SuperOf m x0 x1 (T.l y1.rows)
    (fun y2 => laws_toStringS m (T.l x2.rows)
    (fun y3 => impl_SuperOf m x0 x1 (T.l y3.rows)
    (fun y4 => cond (!(y4.str.toList == y2.str.toList))
    (k0 (T.b false))
    (laws_toStringS m (T.l x2.rows)
    (fun y5 => laws_eqStringS m (T.l y3.rows) (T.l y5.rows)
    (fun y6 => cond (!y6.bool)
    (k0 (T.b false))
    (k0 (T.b true))))))))))))
noncomputable def laws_FnExactSuperOf_a : List Arg := [.one (.sc (.int .i64) (.l [])), .one (.sc (.str) (.l [])), .one (.fz [.sc (.str)] [])]
noncomputable def laws_FnExactSuperOf_w (m : Nat) (vs : List T) (k : Ret → An) : An := laws_FnExactSuperOf m (vs.headD dflt) (vs.tail.headD dflt) (vs.tail.tail.headD dflt) (fun z0 => k ⟨[.one (.sc (.bool) z0)], [[none], [none], [none]], [none, none, none]⟩)
theorem laws_FnExactSuperOf_cf (m : Nat) : callK CX prims m = (patC 7 laws_szStringS_a (laws_szStringS_w m) (patC 9 laws_toStringS_a (laws_toStringS_w m) (patC 8 spec_SuperOf_a (spec_SuperOf_w m) (patC 10 impl_SuperOf_a (impl_SuperOf_w m) (patC 11 laws_eqStringS_a (laws_eqStringS_w m) (callK CX prims m)))))) := by
  rw [← patC_eq (fun vs k => laws_eqStringS_eq m vs k), ← patC_eq (fun vs k => impl_SuperOf_eq m vs k), ← patC_eq (fun vs k => spec_SuperOf_eq m vs k), ← patC_eq (fun vs k => laws_toStringS_eq m vs k), ← patC_eq (fun vs k => laws_szStringS_eq m vs k)]
noncomputable def laws_FnExactSuperOf_c : Code := (Try.f3.body).getD .skip
noncomputable def laws_FnExactSuperOf_fi : Fi := ⟨3, 3, 38, 64⟩
theorem laws_FnExactSuperOf_eq (m : Nat) : ∀ vs k, callK CX prims m 3 (fArgs laws_FnExactSuperOf_a vs) k = laws_FnExactSuperOf_w m vs k := by
  cases m with
  | zero => exact fun vs k => rfl
  | succ m => exact fun vs k => Eq.trans (b := bodyK CX (callK CX prims m) (loopK CX (callK CX prims m) laws_FnExactSuperOf_fi laws_FnExactSuperOf_c m) 3 Try.f3 laws_FnExactSuperOf_c (fArgs laws_FnExactSuperOf_a vs) k) (by kernel_rfl) ((bodyK_congr (laws_FnExactSuperOf_cf m) rfl 3 Try.f3 laws_FnExactSuperOf_c (fArgs laws_FnExactSuperOf_a vs) k).trans (by kernel_rfl))

/-! loop.example/g00244/laws.szSeal -/
noncomputable def laws_szSeal : Nat → T → T → T → T → T → (T → An) → An
  | 0, _, _, _, _, _, _ => .bad
  | m + 1, x0, x1, x2, x3, x4, k0 =>
    cond (decide ((IntKind.i64.wrap (x4.int - (x1.str.size : Int))) < 0))
    (k0 (T.i (-1)))
    (cond (decide ((IntKind.i64.wrap ((IntKind.i64.wrap (x4.int - (x1.str.size : Int))) - (x2.str.size : Int))) < 0))
    (k0 (T.i (-1)))
    (laws_szStringS m (T.l x3.rows) (T.i (IntKind.i64.wrap ((IntKind.i64.wrap (x4.int - (x1.str.size : Int))) - (x2.str.size : Int))))
    (fun y0 => cond (decide (y0.int < 0))
    (k0 (T.i (-1)))
    (k0 y0))))
noncomputable def laws_szSeal_a : List Arg := [.agg [.sc (.int .i64) (.l []), .sc (.str) (.l []), .sc (.str) (.l []), .dz [.sc (.str)] []], .one (.sc (.int .i64) (.l []))]
noncomputable def laws_szSeal_w (m : Nat) (vs : List T) (k : Ret → An) : An := laws_szSeal m (vs.headD dflt) (vs.tail.headD dflt) (vs.tail.tail.headD dflt) (vs.tail.tail.tail.headD dflt) (vs.tail.tail.tail.tail.headD dflt) (fun z0 => k ⟨[.one (.sc (.int .i64) z0)], [[none, none, none, none], [none]], [none, none]⟩)
theorem laws_szSeal_cf (m : Nat) : callK CX prims m = (patC 7 laws_szStringS_a (laws_szStringS_w m) (callK CX prims m)) := by
  rw [← patC_eq (fun vs k => laws_szStringS_eq m vs k)]
noncomputable def laws_szSeal_c : Code := (Try.f12.body).getD .skip
noncomputable def laws_szSeal_fi : Fi := ⟨12, 2, 26, 16⟩
theorem laws_szSeal_eq (m : Nat) : ∀ vs k, callK CX prims m 12 (fArgs laws_szSeal_a vs) k = laws_szSeal_w m vs k := by
  cases m with
  | zero => exact fun vs k => rfl
  | succ m => exact fun vs k => Eq.trans (b := bodyK CX (callK CX prims m) (loopK CX (callK CX prims m) laws_szSeal_fi laws_szSeal_c m) 12 Try.f12 laws_szSeal_c (fArgs laws_szSeal_a vs) k) (by kernel_rfl) ((bodyK_congr (laws_szSeal_cf m) rfl 12 Try.f12 laws_szSeal_c (fArgs laws_szSeal_a vs) k).trans (by kernel_rfl))

/-! loop.example/g00244/laws.toSeal -/
noncomputable def laws_toSeal : Nat → T → T → T → T → (T → T → T → T → An) → An
  | 0, _, _, _, _, _ => .bad
  | m + 1, x0, x1, x2, x3, k0 =>
    laws_toStringS m (T.l x3.rows)
    (fun y0 => k0 x0 x1 x2 (T.l y0.rows))
noncomputable def laws_toSeal_a : List Arg := [.agg [.sc (.int .i64) (.l []), .sc (.str) (.l []), .sc (.str) (.l []), .dz [.sc (.str)] []]]
noncomputable def laws_toSeal_w (m : Nat) (vs : List T) (k : Ret → An) : An := laws_toSeal m (vs.headD dflt) (vs.tail.headD dflt) (vs.tail.tail.headD dflt) (vs.tail.tail.tail.headD dflt) (fun z0 z1 z2 z3 => k ⟨[.agg [.sc (.int .i64) z0, .sc (.str) z1, .sc (.str) z2, .own [2000015, 0, 0] [.sc (.str)] [.F] z3.rows]], [[none, none, none, none]], [none]⟩)
theorem laws_toSeal_cf (m : Nat) : callK CX prims m = (patC 9 laws_toStringS_a (laws_toStringS_w m) (callK CX prims m)) := by
  rw [← patC_eq (fun vs k => laws_toStringS_eq m vs k)]
noncomputable def laws_toSeal_c : Code := (Try.f14.body).getD .skip
noncomputable def laws_toSeal_fi : Fi := ⟨14, 1, 18, 4⟩
theorem laws_toSeal_eq (m : Nat) : ∀ vs k, callK CX prims m 14 (fArgs laws_toSeal_a vs) k = laws_toSeal_w m vs k := by
  cases m with
  | zero => exact fun vs k => rfl
  | succ m => exact fun vs k => Eq.trans (b := bodyK CX (callK CX prims m) (loopK CX (callK CX prims m) laws_toSeal_fi laws_toSeal_c m) 14 Try.f14 laws_toSeal_c (fArgs laws_toSeal_a vs) k) (by kernel_rfl) ((bodyK_congr (laws_toSeal_cf m) rfl 14 Try.f14 laws_toSeal_c (fArgs laws_toSeal_a vs) k).trans (by kernel_rfl))

/-! loop.example/g00244/spec.l1In -/
noncomputable def spec_l1In : Nat → T → T → T → (T → An) → An
  | 0, _, _, _, _ => .bad
  | m + 1, x0, x1, x2, k0 =>
    cond ((decide (x0.int ≥ x1.int)) == true)
    (k0 (T.b (decide (x0.int ≤ x2.int))))
    (k0 (T.b false))
noncomputable def spec_l1In_a : List Arg := [.one (.sc (.int .i64) (.l [])), .one (.sc (.int .i64) (.l [])), .one (.sc (.int .i64) (.l []))]
noncomputable def spec_l1In_w (m : Nat) (vs : List T) (k : Ret → An) : An := spec_l1In m (vs.headD dflt) (vs.tail.headD dflt) (vs.tail.tail.headD dflt) (fun z0 => k ⟨[.one (.sc (.bool) z0)], [[none], [none], [none]], [none, none, none]⟩)
theorem spec_l1In_cf (m : Nat) : callK CX prims m = (callK CX prims m) := by
  rfl
noncomputable def spec_l1In_c : Code := (Try.f30.body).getD .skip
noncomputable def spec_l1In_fi : Fi := ⟨30, 3, 15, 64⟩
theorem spec_l1In_eq (m : Nat) : ∀ vs k, callK CX prims m 30 (fArgs spec_l1In_a vs) k = spec_l1In_w m vs k := by
  cases m with
  | zero => exact fun vs k => rfl
  | succ m => exact fun vs k => Eq.trans (b := bodyK CX (callK CX prims m) (loopK CX (callK CX prims m) spec_l1In_fi spec_l1In_c m) 30 Try.f30 spec_l1In_c (fArgs spec_l1In_a vs) k) (by kernel_rfl) ((bodyK_congr (spec_l1In_cf m) rfl 30 Try.f30 spec_l1In_c (fArgs spec_l1In_a vs) k).trans (by kernel_rfl))

/-! loop.example/g00244/spec.SealOk -/
noncomputable def spec_SealOk_L0_0 (m : Nat) : Nat → T → T → T → T → T → T → (T → An) → (T → T → T → T → T → An) → An
  | 0, _, _, _, _, _, _, _, _ => .bad
  | n + 1, x0, x1, x2, x3, x4, x5, k0, k1 =>
    cond (decide (x1.int < (x5.rows.length : Int)))
    (cond (decide ((0 : Int) ≤ x1.int ∧ x1.int < (x5.rows.length : Int)))
    (cond ((((x5.rows.getD (Int.toNat x1.int) []).getD 0 dflt).str.size : Int) != 32)
    (k0 (T.b false))
    (spec_SealOk_L0_0 m n (T.i (x0.int.toNat : Int)) (T.i (IntKind.i64.wrap (x1.int + 1))) x2 x3 x4 x5 k0 k1))
    (.bad))
    (k1 (T.i (x0.int.toNat : Int)) x2 x3 x4 x5)
noncomputable def spec_SealOk_s0_0 : Pack := ⟨[(1, .ptr [1000000, 0] 0 0 0), (3, .one ⟨.sc, .sc (.int .i64), .l []⟩)], [([1000000, 0], .box [⟨.sc, .sc (.int .i64), .l []⟩, ⟨.sc, .sc (.str), .l []⟩, ⟨.sc, .sc (.str), .l []⟩, ⟨.sn [([4000000], 0)], .sl [.sc (.str)], .l []⟩]), ([4000000], .gone)]⟩
noncomputable def spec_SealOk_e0_0 : Pack := ⟨[(2, .one ⟨.sc, .sc (.bool), .l []⟩)], []⟩
noncomputable def spec_SealOk_e0_1 : Pack := ⟨[(1, .ptr [1000000, 0] 0 0 0)], [([1000000, 0], .box [⟨.sc, .sc (.int .i64), .l []⟩, ⟨.sc, .sc (.str), .l []⟩, ⟨.sc, .sc (.str), .l []⟩, ⟨.sn [([4000000], 0)], .sl [.sc (.str)], .l []⟩]), ([4000000], .gone)]⟩
noncomputable def spec_SealOk_L0_0w (m n : Nat) (vs : List T) (k : Ctl → Pack → An) : An := spec_SealOk_L0_0 m n (vs.headD dflt) (vs.tail.headD dflt) (vs.tail.tail.headD dflt) (vs.tail.tail.tail.headD dflt) (vs.tail.tail.tail.tail.headD dflt) (vs.tail.tail.tail.tail.tail.headD dflt) (fun z0 => k .ret (fPack spec_SealOk_e0_0 [z0])) (fun z0 z1 z2 z3 z4 => k (.exit 0) (fPack spec_SealOk_e0_1 [z0, z1, z2, z3, z4]))
noncomputable def spec_SealOk : Nat → T → T → T → T → (T → An) → An
  | 0, _, _, _, _, _ => .bad
  | m + 1, x0, x1, x2, x3, k0 =>
    spec_l1In m x0 (T.i 1) (T.i 1000)
    (fun y0 => cond ((!y0.bool) == false)
    (cond (((x1.str.size : Int) != 32) == false)
    (spec_l1In m (T.i (x3.rows.length : Int)) (T.i 1) (T.i 8)
    (fun y1 => cond (!y1.bool)
    (k0 (T.b false))
    (spec_SealOk_L0_0 m m (T.i 0) (T.i 0) x0 x1 x2 (T.l x3.rows)
    (fun y2 => k0 y2)
    (fun y3 y4 y5 y6 y7 => spec_SuperOf m y4 y5 (T.l y7.rows)
    (fun y8 => k0 (T.b (y6.str.toList == y8.str.toList)))))))
    (k0 (T.b false)))
    (k0 (T.b false)))
noncomputable def spec_SealOk_a : List Arg := [.agg [.sc (.int .i64) (.l []), .sc (.str) (.l []), .sc (.str) (.l []), .dz [.sc (.str)] []]]
noncomputable def spec_SealOk_w (m : Nat) (vs : List T) (k : Ret → An) : An := spec_SealOk m (vs.headD dflt) (vs.tail.headD dflt) (vs.tail.tail.headD dflt) (vs.tail.tail.tail.headD dflt) (fun z0 => k ⟨[.one (.sc (.bool) z0)], [[none, none, none, none]], [none]⟩)
theorem spec_SealOk_cf (m : Nat) : callK CX prims m = (patC 30 spec_l1In_a (spec_l1In_w m) (patC 8 spec_SuperOf_a (spec_SuperOf_w m) (callK CX prims m))) := by
  rw [← patC_eq (fun vs k => spec_SuperOf_eq m vs k), ← patC_eq (fun vs k => spec_l1In_eq m vs k)]
noncomputable def spec_SealOk_c : Code := (Try.f13.body).getD .skip
noncomputable def spec_SealOk_fi : Fi := ⟨13, 1, 45, 4⟩
theorem spec_SealOk_lf (m : Nat) : ∀ n, (∀ vs k, loopK CX (callK CX prims m) spec_SealOk_fi spec_SealOk_c n [0, 1, 0, 1, 1] (fPack spec_SealOk_s0_0 vs) k = spec_SealOk_L0_0w m n vs k) ∧ ((loopK CX (callK CX prims m) spec_SealOk_fi spec_SealOk_c n) = (patL [0, 1, 0, 1, 1] spec_SealOk_s0_0 (spec_SealOk_L0_0w m n) (loopK CX (callK CX prims m) spec_SealOk_fi spec_SealOk_c n))) := by
  intro n
  have hl : ∀ n, (∀ vs k, loopK CX (callK CX prims m) spec_SealOk_fi spec_SealOk_c n [0, 1, 0, 1, 1] (fPack spec_SealOk_s0_0 vs) k = spec_SealOk_L0_0w m n vs k) → ((loopK CX (callK CX prims m) spec_SealOk_fi spec_SealOk_c n) = (patL [0, 1, 0, 1, 1] spec_SealOk_s0_0 (spec_SealOk_L0_0w m n) (loopK CX (callK CX prims m) spec_SealOk_fi spec_SealOk_c n))) := by
    intro n h0
    rw [← patL_eq h0]
  induction n with
  | zero => exact ⟨fun vs k => rfl, hl 0 (fun vs k => rfl)⟩
  | succ n ihn =>
    have hn := ihn.2
    have h0 : ∀ vs k, loopK CX (callK CX prims m) spec_SealOk_fi spec_SealOk_c (n + 1) [0, 1, 0, 1, 1] (fPack spec_SealOk_s0_0 vs) k = spec_SealOk_L0_0w m (n + 1) vs k := fun vs k =>
      (stepL_congr (spec_SealOk_cf m) hn [0, 1, 0, 1, 1] _ _).trans (by kernel_rfl)
    exact ⟨h0, hl (n + 1) h0⟩
theorem spec_SealOk_eq (m : Nat) : ∀ vs k, callK CX prims m 13 (fArgs spec_SealOk_a vs) k = spec_SealOk_w m vs k := by
  cases m with
  | zero => exact fun vs k => rfl
  | succ m => exact fun vs k => Eq.trans (b := bodyK CX (callK CX prims m) (loopK CX (callK CX prims m) spec_SealOk_fi spec_SealOk_c m) 13 Try.f13 spec_SealOk_c (fArgs spec_SealOk_a vs) k) (by kernel_rfl) ((bodyK_congr (spec_SealOk_cf m) ((spec_SealOk_lf m m).2) 13 Try.f13 spec_SealOk_c (fArgs spec_SealOk_a vs) k).trans (by kernel_rfl))

/-! loop.example/g00244/impl.inRange -/
noncomputable def impl_inRange : Nat → T → T → T → (T → An) → An
  | 0, _, _, _, _ => .bad
  | m + 1, x0, x1, x2, k0 =>
    cond ((decide (x0.int ≥ x1.int)) == true)
    (k0 (T.b (decide (x0.int ≤ x2.int))))
    (k0 (T.b false))
noncomputable def impl_inRange_a : List Arg := [.one (.sc (.int .i64) (.l [])), .one (.sc (.int .i64) (.l [])), .one (.sc (.int .i64) (.l []))]
noncomputable def impl_inRange_w (m : Nat) (vs : List T) (k : Ret → An) : An := impl_inRange m (vs.headD dflt) (vs.tail.headD dflt) (vs.tail.tail.headD dflt) (fun z0 => k ⟨[.one (.sc (.bool) z0)], [[none], [none], [none]], [none, none, none]⟩)
theorem impl_inRange_cf (m : Nat) : callK CX prims m = (callK CX prims m) := by
  rfl
noncomputable def impl_inRange_c : Code := (Try.f31.body).getD .skip
noncomputable def impl_inRange_fi : Fi := ⟨31, 3, 15, 64⟩
theorem impl_inRange_eq (m : Nat) : ∀ vs k, callK CX prims m 31 (fArgs impl_inRange_a vs) k = impl_inRange_w m vs k := by
  cases m with
  | zero => exact fun vs k => rfl
  | succ m => exact fun vs k => Eq.trans (b := bodyK CX (callK CX prims m) (loopK CX (callK CX prims m) impl_inRange_fi impl_inRange_c m) 31 Try.f31 impl_inRange_c (fArgs impl_inRange_a vs) k) (by kernel_rfl) ((bodyK_congr (impl_inRange_cf m) rfl 31 Try.f31 impl_inRange_c (fArgs impl_inRange_a vs) k).trans (by kernel_rfl))

/-! loop.example/g00244/impl.SealOk -/
noncomputable def impl_SealOk_L0_0 (m : Nat) : Nat → T → T → T → T → T → T → T → T → (T → An) → (T → T → T → T → T → An) → An
  | 0, _, _, _, _, _, _, _, _, _, _ => .bad
  | n + 1, x0, x1, x2, x3, x4, x5, x6, x7, k0, k1 =>
    cond (decide (x3.int < x2.int))
    (cond (decide ((0 : Int) ≤ x3.int ∧ x3.int < (x1.rows.length : Int)))
    (cond ((((x1.rows.getD (Int.toNat x3.int) []).getD 0 dflt).str.size : Int) != 32)
    (k0 (T.b false))
    (impl_SealOk_L0_0 m n (T.i (x0.int.toNat : Int)) x1 x2 (T.i (IntKind.i64.wrap (x3.int + 1))) x4 x5 x6 x7 k0 k1))
    (.bad))
    (k1 (T.i (x0.int.toNat : Int)) x4 x5 x6 x7)
noncomputable def impl_SealOk_s0_0 : Pack := ⟨[(1, .ptr [1000000, 0] 0 0 0), (6, .one ⟨.sn [([4000000], 0)], .sl [.sc (.str)], .l []⟩), (7, .one ⟨.sc, .sc (.int .i64), .l []⟩), (8, .one ⟨.sc, .sc (.int .i64), .l []⟩)], [([1000000, 0], .box [⟨.sc, .sc (.int .i64), .l []⟩, ⟨.sc, .sc (.str), .l []⟩, ⟨.sc, .sc (.str), .l []⟩, ⟨.sn [([4000000], 0)], .sl [.sc (.str)], .l []⟩]), ([4000000], .gone)]⟩
noncomputable def impl_SealOk_e0_0 : Pack := ⟨[(2, .one ⟨.sc, .sc (.bool), .l []⟩)], []⟩
noncomputable def impl_SealOk_e0_1 : Pack := ⟨[(1, .ptr [1000000, 0] 0 0 0)], [([1000000, 0], .box [⟨.sc, .sc (.int .i64), .l []⟩, ⟨.sc, .sc (.str), .l []⟩, ⟨.sc, .sc (.str), .l []⟩, ⟨.sn [([4000000], 0)], .sl [.sc (.str)], .l []⟩]), ([4000000], .gone)]⟩
noncomputable def impl_SealOk_L0_0w (m n : Nat) (vs : List T) (k : Ctl → Pack → An) : An := impl_SealOk_L0_0 m n (vs.headD dflt) (vs.tail.headD dflt) (vs.tail.tail.headD dflt) (vs.tail.tail.tail.headD dflt) (vs.tail.tail.tail.tail.headD dflt) (vs.tail.tail.tail.tail.tail.headD dflt) (vs.tail.tail.tail.tail.tail.tail.headD dflt) (vs.tail.tail.tail.tail.tail.tail.tail.headD dflt) (fun z0 => k .ret (fPack impl_SealOk_e0_0 [z0])) (fun z0 z1 z2 z3 z4 => k (.exit 0) (fPack impl_SealOk_e0_1 [z0, z1, z2, z3, z4]))
noncomputable def impl_SealOk : Nat → T → T → T → T → (T → An) → An
  | 0, _, _, _, _, _ => .bad
  | m + 1, x0, x1, x2, x3, k0 =>
    impl_SealOk_L0_0 m m (T.i 0) (T.l x3.rows) (T.i (x3.rows.length : Int)) (T.i 0) x0 x1 x2 (T.l x3.rows)
    (fun y0 => k0 y0)
    (fun y1 y2 y3 y4 y5 => impl_inRange m y2 (T.i 1) (T.i 1000)
    (fun y6 => cond ((!y6.bool) == false)
    (cond (((y3.str.size : Int) != 32) == false)
    (impl_inRange m (T.i (y5.rows.length : Int)) (T.i 1) (T.i 8)
    (fun y7 => cond (!y7.bool)
    (k0 (T.b false))
    (impl_SuperOf m y2 y3 (T.l y5.rows)
    (fun y8 => k0 (T.b (y4.str.toList == y8.str.toList))))))
    (k0 (T.b false)))
    (k0 (T.b false))))
noncomputable def impl_SealOk_a : List Arg := [.agg [.sc (.int .i64) (.l []), .sc (.str) (.l []), .sc (.str) (.l []), .dz [.sc (.str)] []]]
noncomputable def impl_SealOk_w (m : Nat) (vs : List T) (k : Ret → An) : An := impl_SealOk m (vs.headD dflt) (vs.tail.headD dflt) (vs.tail.tail.headD dflt) (vs.tail.tail.tail.headD dflt) (fun z0 => k ⟨[.one (.sc (.bool) z0)], [[none, none, none, none]], [none]⟩)
theorem impl_SealOk_cf (m : Nat) : callK CX prims m = (patC 31 impl_inRange_a (impl_inRange_w m) (patC 10 impl_SuperOf_a (impl_SuperOf_w m) (callK CX prims m))) := by
  rw [← patC_eq (fun vs k => impl_SuperOf_eq m vs k), ← patC_eq (fun vs k => impl_inRange_eq m vs k)]
noncomputable def impl_SealOk_c : Code := (Try.f15.body).getD .skip
noncomputable def impl_SealOk_fi : Fi := ⟨15, 1, 43, 4⟩
theorem impl_SealOk_lf (m : Nat) : ∀ n, (∀ vs k, loopK CX (callK CX prims m) impl_SealOk_fi impl_SealOk_c n [0, 1, 0, 1] (fPack impl_SealOk_s0_0 vs) k = impl_SealOk_L0_0w m n vs k) ∧ ((loopK CX (callK CX prims m) impl_SealOk_fi impl_SealOk_c n) = (patL [0, 1, 0, 1] impl_SealOk_s0_0 (impl_SealOk_L0_0w m n) (loopK CX (callK CX prims m) impl_SealOk_fi impl_SealOk_c n))) := by
  intro n
  have hl : ∀ n, (∀ vs k, loopK CX (callK CX prims m) impl_SealOk_fi impl_SealOk_c n [0, 1, 0, 1] (fPack impl_SealOk_s0_0 vs) k = impl_SealOk_L0_0w m n vs k) → ((loopK CX (callK CX prims m) impl_SealOk_fi impl_SealOk_c n) = (patL [0, 1, 0, 1] impl_SealOk_s0_0 (impl_SealOk_L0_0w m n) (loopK CX (callK CX prims m) impl_SealOk_fi impl_SealOk_c n))) := by
    intro n h0
    rw [← patL_eq h0]
  induction n with
  | zero => exact ⟨fun vs k => rfl, hl 0 (fun vs k => rfl)⟩
  | succ n ihn =>
    have hn := ihn.2
    have h0 : ∀ vs k, loopK CX (callK CX prims m) impl_SealOk_fi impl_SealOk_c (n + 1) [0, 1, 0, 1] (fPack impl_SealOk_s0_0 vs) k = impl_SealOk_L0_0w m (n + 1) vs k := fun vs k =>
      (stepL_congr (impl_SealOk_cf m) hn [0, 1, 0, 1] _ _).trans (by kernel_rfl)
    exact ⟨h0, hl (n + 1) h0⟩
theorem impl_SealOk_eq (m : Nat) : ∀ vs k, callK CX prims m 15 (fArgs impl_SealOk_a vs) k = impl_SealOk_w m vs k := by
  cases m with
  | zero => exact fun vs k => rfl
  | succ m => exact fun vs k => Eq.trans (b := bodyK CX (callK CX prims m) (loopK CX (callK CX prims m) impl_SealOk_fi impl_SealOk_c m) 15 Try.f15 impl_SealOk_c (fArgs impl_SealOk_a vs) k) (by kernel_rfl) ((bodyK_congr (impl_SealOk_cf m) ((impl_SealOk_lf m m).2) 15 Try.f15 impl_SealOk_c (fArgs impl_SealOk_a vs) k).trans (by kernel_rfl))

/-! loop.example/g00244/laws.eqSeal -/
noncomputable def laws_eqSeal : Nat → T → T → T → T → T → T → T → T → (T → An) → An
  | 0, _, _, _, _, _, _, _, _, _ => .bad
  | m + 1, x0, x1, x2, x3, x4, x5, x6, x7, k0 =>
    cond (x0.int != x4.int)
    (k0 (T.b false))
    (cond (!(x1.str.toList == x5.str.toList))
    (k0 (T.b false))
    (cond (!(x2.str.toList == x6.str.toList))
    (k0 (T.b false))
    (laws_eqStringS m (T.l x3.rows) (T.l x7.rows)
    (fun y0 => cond (!y0.bool)
    (k0 (T.b false))
    (k0 (T.b true))))))
noncomputable def laws_eqSeal_a : List Arg := [.agg [.sc (.int .i64) (.l []), .sc (.str) (.l []), .sc (.str) (.l []), .dz [.sc (.str)] []], .agg [.sc (.int .i64) (.l []), .sc (.str) (.l []), .sc (.str) (.l []), .dz [.sc (.str)] []]]
noncomputable def laws_eqSeal_w (m : Nat) (vs : List T) (k : Ret → An) : An := laws_eqSeal m (vs.headD dflt) (vs.tail.headD dflt) (vs.tail.tail.headD dflt) (vs.tail.tail.tail.headD dflt) (vs.tail.tail.tail.tail.headD dflt) (vs.tail.tail.tail.tail.tail.headD dflt) (vs.tail.tail.tail.tail.tail.tail.headD dflt) (vs.tail.tail.tail.tail.tail.tail.tail.headD dflt) (fun z0 => k ⟨[.one (.sc (.bool) z0)], [[none, none, none, none], [none, none, none, none]], [none, none]⟩)
theorem laws_eqSeal_cf (m : Nat) : callK CX prims m = (patC 11 laws_eqStringS_a (laws_eqStringS_w m) (callK CX prims m)) := by
  rw [← patC_eq (fun vs k => laws_eqStringS_eq m vs k)]
noncomputable def laws_eqSeal_c : Code := (Try.f16.body).getD .skip
noncomputable def laws_eqSeal_fi : Fi := ⟨16, 2, 26, 16⟩
theorem laws_eqSeal_eq (m : Nat) : ∀ vs k, callK CX prims m 16 (fArgs laws_eqSeal_a vs) k = laws_eqSeal_w m vs k := by
  cases m with
  | zero => exact fun vs k => rfl
  | succ m => exact fun vs k => Eq.trans (b := bodyK CX (callK CX prims m) (loopK CX (callK CX prims m) laws_eqSeal_fi laws_eqSeal_c m) 16 Try.f16 laws_eqSeal_c (fArgs laws_eqSeal_a vs) k) (by kernel_rfl) ((bodyK_congr (laws_eqSeal_cf m) rfl 16 Try.f16 laws_eqSeal_c (fArgs laws_eqSeal_a vs) k).trans (by kernel_rfl))

/-! loop.example/g00244/laws.FnExactSealOk -/
noncomputable def laws_FnExactSealOk : Nat → T → T → T → T → (T → An) → An
  | 0, _, _, _, _, _ => .bad
  | m + 1, x0, x1, x2, x3, k0 =>
    laws_szSeal m x0 x1 x2 (T.l x3.rows) (T.i 1048576)
    (fun y0 => cond (decide (y0.int < 0))
    (k0 (T.b true))
    (laws_toSeal m x0 x1 x2 (T.l x3.rows)
    (fun y1 y2 y3 y4 => spec_SealOk m y1 y2 y3 (T.l y4.rows)
    (fun y5 => laws_toSeal m x0 x1 x2 (T.l x3.rows)
    (fun y6 y7 y8 y9 => impl_SealOk m y6 y7 y8 (T.l y9.rows)
    (fun y10 => cond (!(y10.bool == y5.bool))
    (k0 (T.b false))
    (laws_toSeal m x0 x1 x2 (T.l x3.rows)
    (fun y11 y12 y13 y14 => laws_eqSeal m y6 y7 y8 (T.l y9.rows) y11 y12 y13 (T.l y14.rows)
    (fun y15 => cond (!y15.bool)
    (k0 (T.b false))
    (k0 (T.b true)))))))))))
noncomputable def laws_FnExactSealOk_a : List Arg := [.agg [.sc (.int .i64) (.l []), .sc (.str) (.l []), .sc (.str) (.l []), .fz [.sc (.str)] []]]
noncomputable def laws_FnExactSealOk_w (m : Nat) (vs : List T) (k : Ret → An) : An := laws_FnExactSealOk m (vs.headD dflt) (vs.tail.headD dflt) (vs.tail.tail.headD dflt) (vs.tail.tail.tail.headD dflt) (fun z0 => k ⟨[.one (.sc (.bool) z0)], [[none, none, none, none]], [none]⟩)
theorem laws_FnExactSealOk_cf (m : Nat) : callK CX prims m = (patC 12 laws_szSeal_a (laws_szSeal_w m) (patC 14 laws_toSeal_a (laws_toSeal_w m) (patC 13 spec_SealOk_a (spec_SealOk_w m) (patC 15 impl_SealOk_a (impl_SealOk_w m) (patC 16 laws_eqSeal_a (laws_eqSeal_w m) (callK CX prims m)))))) := by
  rw [← patC_eq (fun vs k => laws_eqSeal_eq m vs k), ← patC_eq (fun vs k => impl_SealOk_eq m vs k), ← patC_eq (fun vs k => spec_SealOk_eq m vs k), ← patC_eq (fun vs k => laws_toSeal_eq m vs k), ← patC_eq (fun vs k => laws_szSeal_eq m vs k)]
noncomputable def laws_FnExactSealOk_c : Code := (Try.f4.body).getD .skip
noncomputable def laws_FnExactSealOk_fi : Fi := ⟨4, 1, 27, 4⟩
theorem laws_FnExactSealOk_eq (m : Nat) : ∀ vs k, callK CX prims m 4 (fArgs laws_FnExactSealOk_a vs) k = laws_FnExactSealOk_w m vs k := by
  cases m with
  | zero => exact fun vs k => rfl
  | succ m => exact fun vs k => Eq.trans (b := bodyK CX (callK CX prims m) (loopK CX (callK CX prims m) laws_FnExactSealOk_fi laws_FnExactSealOk_c m) 4 Try.f4 laws_FnExactSealOk_c (fArgs laws_FnExactSealOk_a vs) k) (by kernel_rfl) ((bodyK_congr (laws_FnExactSealOk_cf m) rfl 4 Try.f4 laws_FnExactSealOk_c (fArgs laws_FnExactSealOk_a vs) k).trans (by kernel_rfl))

/-! loop.example/g00244/laws.big -/
noncomputable def laws_big : Nat → T → (T → An) → An
  | 0, _, _ => .bad
  | m + 1, x0, k0 =>
    k0 (T.b (decide ((x0.rows.length : Int) > 1048576)))
noncomputable def laws_big_a : List Arg := [.one (.dz [.sc (.int .u8)] [])]
noncomputable def laws_big_w (m : Nat) (vs : List T) (k : Ret → An) : An := laws_big m (vs.headD dflt) (fun z0 => k ⟨[.one (.sc (.bool) z0)], [[none]], [none]⟩)
theorem laws_big_cf (m : Nat) : callK CX prims m = (callK CX prims m) := by
  rfl
noncomputable def laws_big_c : Code := (Try.f17.body).getD .skip
noncomputable def laws_big_fi : Fi := ⟨17, 1, 6, 4⟩
theorem laws_big_eq (m : Nat) : ∀ vs k, callK CX prims m 17 (fArgs laws_big_a vs) k = laws_big_w m vs k := by
  cases m with
  | zero => exact fun vs k => rfl
  | succ m => exact fun vs k => Eq.trans (b := bodyK CX (callK CX prims m) (loopK CX (callK CX prims m) laws_big_fi laws_big_c m) 17 Try.f17 laws_big_c (fArgs laws_big_a vs) k) (by kernel_rfl) ((bodyK_congr (laws_big_cf m) rfl 17 Try.f17 laws_big_c (fArgs laws_big_a vs) k).trans (by kernel_rfl))

/-! loop.example/g00244/spec.l1New -/
noncomputable def spec_l1New_L0_0 (m : Nat) : Nat → T → T → T → (T → T → An) → An
  | 0, _, _, _, _ => .bad
  | n + 1, x0, x1, x2, k0 =>
    cond ((decide (x2.int < (x0.rows.length : Int))) == true)
    (cond (decide (x2.int < 4000))
    (cond (decide ((0 : Int) ≤ x2.int ∧ x2.int < (x0.rows.length : Int)))
    (spec_l1New_L0_0 m n x0 (bvBack .i64 (BitVec.ofInt IntKind.i64.bits (IntKind.i64.wrap ((IntKind.i64.wrap ((IntKind.i64.wrap (x1.int * 137)) + (IntKind.i64.wrap ((x0.rows.getD (Int.toNat x2.int) []).getD 0 dflt).int))) + 11)) &&& BitVec.ofInt IntKind.i64.bits 1073741823)) (T.i (IntKind.i64.wrap (x2.int + 1))) k0)
    (.bad))
    (k0 x0 x1))
    (k0 x0 x1)
noncomputable def spec_l1New_s0_0 : Pack := ⟨[(0, .one ⟨.sn [], .sl [.sc (.int .u8)], .l []⟩), (3, .one ⟨.sc, .sc (.int .i64), .l []⟩), (4, .one ⟨.sc, .sc (.int .i64), .l []⟩)], []⟩
noncomputable def spec_l1New_e0_0 : Pack := ⟨[(0, .one ⟨.sn [], .sl [.sc (.int .u8)], .l []⟩), (3, .one ⟨.sc, .sc (.int .i64), .l []⟩)], []⟩
noncomputable def spec_l1New_L0_0w (m n : Nat) (vs : List T) (k : Ctl → Pack → An) : An := spec_l1New_L0_0 m n (vs.headD dflt) (vs.tail.headD dflt) (vs.tail.tail.headD dflt) (fun z0 z1 => k (.exit 0) (fPack spec_l1New_e0_0 [z0, z1]))
noncomputable def spec_l1New : Nat → T → (T → T → T → An) → An
  | 0, _, _ => .bad
  | m + 1, x0, k0 =>
    spec_l1New_L0_0 m m (T.l x0.rows) (T.i (IntKind.i64.wrap (381381 + (x0.rows.length : Int)))) (T.i 0)
    (fun y0 y1 => k0 (T.l y0.rows) (T.i 0) y1)
noncomputable def spec_l1New_a : List Arg := [.one (.fz [.sc (.int .u8)] [])]
noncomputable def spec_l1New_w (m : Nat) (vs : List T) (k : Ret → An) : An := spec_l1New m (vs.headD dflt) (fun z0 z1 z2 => k ⟨[.bx [2000031] [.fz [.sc (.int .u8)] z0.rows, .sc (.int .i64) z1, .sc (.int .i64) z2]], [[none]], [none]⟩)
theorem spec_l1New_cf (m : Nat) : callK CX prims m = (callK CX prims m) := by
  rfl
noncomputable def spec_l1New_c : Code := (Try.f32.body).getD .skip
noncomputable def spec_l1New_fi : Fi := ⟨32, 1, 32, 4⟩
theorem spec_l1New_lf (m : Nat) : ∀ n, (∀ vs k, loopK CX (callK CX prims m) spec_l1New_fi spec_l1New_c n [0, 1, 0, 1, 1] (fPack spec_l1New_s0_0 vs) k = spec_l1New_L0_0w m n vs k) ∧ ((loopK CX (callK CX prims m) spec_l1New_fi spec_l1New_c n) = (patL [0, 1, 0, 1, 1] spec_l1New_s0_0 (spec_l1New_L0_0w m n) (loopK CX (callK CX prims m) spec_l1New_fi spec_l1New_c n))) := by
  intro n
  have hl : ∀ n, (∀ vs k, loopK CX (callK CX prims m) spec_l1New_fi spec_l1New_c n [0, 1, 0, 1, 1] (fPack spec_l1New_s0_0 vs) k = spec_l1New_L0_0w m n vs k) → ((loopK CX (callK CX prims m) spec_l1New_fi spec_l1New_c n) = (patL [0, 1, 0, 1, 1] spec_l1New_s0_0 (spec_l1New_L0_0w m n) (loopK CX (callK CX prims m) spec_l1New_fi spec_l1New_c n))) := by
    intro n h0
    rw [← patL_eq h0]
  induction n with
  | zero => exact ⟨fun vs k => rfl, hl 0 (fun vs k => rfl)⟩
  | succ n ihn =>
    have hn := ihn.2
    have h0 : ∀ vs k, loopK CX (callK CX prims m) spec_l1New_fi spec_l1New_c (n + 1) [0, 1, 0, 1, 1] (fPack spec_l1New_s0_0 vs) k = spec_l1New_L0_0w m (n + 1) vs k := fun vs k =>
      (stepL_congr (spec_l1New_cf m) hn [0, 1, 0, 1, 1] _ _).trans (by kernel_rfl)
    exact ⟨h0, hl (n + 1) h0⟩
theorem spec_l1New_eq (m : Nat) : ∀ vs k, callK CX prims m 32 (fArgs spec_l1New_a vs) k = spec_l1New_w m vs k := by
  cases m with
  | zero => exact fun vs k => rfl
  | succ m => exact fun vs k => Eq.trans (b := bodyK CX (callK CX prims m) (loopK CX (callK CX prims m) spec_l1New_fi spec_l1New_c m) 32 Try.f32 spec_l1New_c (fArgs spec_l1New_a vs) k) (by kernel_rfl) ((bodyK_congr (spec_l1New_cf m) ((spec_l1New_lf m m).2) 32 Try.f32 spec_l1New_c (fArgs spec_l1New_a vs) k).trans (by kernel_rfl))

/-! loop.example/g00244/spec.l1Byte -/
noncomputable def spec_l1Byte : Nat → T → T → T → (T → T → T → T → An) → An
  | 0, _, _, _, _ => .bad
  | m + 1, x0, x1, x2, k0 =>
    cond (decide (x1.int < (x0.rows.length : Int)))
    (cond (decide ((0 : Int) ≤ x1.int ∧ x1.int < (x0.rows.length : Int)))
    (k0 (bvBack .i64 (BitVec.ofInt IntKind.i64.bits (IntKind.i64.wrap ((bvBack .i64 (BitVec.ofInt IntKind.i64.bits (bvBack .i64 (BitVec.ofInt IntKind.i64.bits (Int.fdiv (IntKind.i64.wrap ((IntKind.i64.wrap (x2.int * 6364136223846793005)) + 1442695040888963407)) (2 ^ (min (Int.toNat 33) IntKind.i64.bits))) ^^^ BitVec.ofInt IntKind.i64.bits (Int.fdiv (IntKind.i64.wrap ((IntKind.i64.wrap (x2.int * 6364136223846793005)) + 1442695040888963407)) (2 ^ (min (Int.toNat 47) IntKind.i64.bits))))).int &&& BitVec.ofInt IntKind.i64.bits 255)).int + (IntKind.i64.wrap ((x0.rows.getD (Int.toNat x1.int) []).getD 0 dflt).int))) &&& BitVec.ofInt IntKind.i64.bits 255)) (T.l x0.rows) (T.i (IntKind.i64.wrap (x1.int + 1))) (T.i (IntKind.i64.wrap ((IntKind.i64.wrap (x2.int * 6364136223846793005)) + 1442695040888963407))))
    (.bad))
    (k0 (bvBack .i64 (BitVec.ofInt IntKind.i64.bits (bvBack .i64 (BitVec.ofInt IntKind.i64.bits (Int.fdiv (IntKind.i64.wrap ((IntKind.i64.wrap (x2.int * 6364136223846793005)) + 1442695040888963407)) (2 ^ (min (Int.toNat 33) IntKind.i64.bits))) ^^^ BitVec.ofInt IntKind.i64.bits (Int.fdiv (IntKind.i64.wrap ((IntKind.i64.wrap (x2.int * 6364136223846793005)) + 1442695040888963407)) (2 ^ (min (Int.toNat 47) IntKind.i64.bits))))).int &&& BitVec.ofInt IntKind.i64.bits 255)) (T.l x0.rows) x1 (T.i (IntKind.i64.wrap ((IntKind.i64.wrap (x2.int * 6364136223846793005)) + 1442695040888963407))))
noncomputable def spec_l1Byte_a : List Arg := [.bx [.fz [.sc (.int .u8)] [], .sc (.int .i64) (.l []), .sc (.int .i64) (.l [])]]
noncomputable def spec_l1Byte_w (m : Nat) (vs : List T) (k : Ret → An) : An := spec_l1Byte m (vs.headD dflt) (vs.tail.headD dflt) (vs.tail.tail.headD dflt) (fun z0 z1 z2 z3 => k ⟨[.one (.sc (.int .i64) z0)], [[none, none, none]], [some [.fz [.sc (.int .u8)] z1.rows, .sc (.int .i64) z2, .sc (.int .i64) z3]]⟩)
theorem spec_l1Byte_cf (m : Nat) : callK CX prims m = (callK CX prims m) := by
  rfl
noncomputable def spec_l1Byte_c : Code := (Try.f57.body).getD .skip
noncomputable def spec_l1Byte_fi : Fi := ⟨57, 1, 58, 5⟩
theorem spec_l1Byte_eq (m : Nat) : ∀ vs k, callK CX prims m 57 (fArgs spec_l1Byte_a vs) k = spec_l1Byte_w m vs k := by
  cases m with
  | zero => exact fun vs k => rfl
  | succ m => exact fun vs k => Eq.trans (b := bodyK CX (callK CX prims m) (loopK CX (callK CX prims m) spec_l1Byte_fi spec_l1Byte_c m) 57 Try.f57 spec_l1Byte_c (fArgs spec_l1Byte_a vs) k) (by kernel_rfl) ((bodyK_congr (spec_l1Byte_cf m) rfl 57 Try.f57 spec_l1Byte_c (fArgs spec_l1Byte_a vs) k).trans (by kernel_rfl))

/-! loop.example/g00244/spec.l1Below -/
noncomputable def spec_l1Below : Nat → T → T → T → T → (T → T → T → T → An) → An
  | 0, _, _, _, _, _ => .bad
  | m + 1, x0, x1, x2, x3, k0 =>
    cond (decide (x3.int ≤ 0))
    (k0 (T.i 0) (T.l x0.rows) x1 x2)
    (cond (decide (x3.int ≤ 256))
    (spec_l1Byte m (T.l x0.rows) x1 x2
    (fun y0 y1 y2 y3 => cond (!decide (x3.int = 0))
    (k0 (T.i (Int.tmod y0.int x3.int)) (T.l y1.rows) y2 y3)
    (.bad)))
    (spec_l1Byte m (T.l x0.rows) x1 x2
    (fun y4 y5 y6 y7 => spec_l1Byte m (T.l y5.rows) y6 y7
    (fun y8 y9 y10 y11 => spec_l1Byte m (T.l y9.rows) y10 y11
    (fun y12 y13 y14 y15 => cond (!decide (x3.int = 0))
    (k0 (T.i (Int.tmod (IntKind.i64.wrap ((IntKind.i64.wrap ((IntKind.i64.wrap (y4.int * 65536)) + (IntKind.i64.wrap (y8.int * 256)))) + y12.int)) x3.int)) (T.l y13.rows) y14 y15)
    (.bad))))))
noncomputable def spec_l1Below_a : List Arg := [.bx [.fz [.sc (.int .u8)] [], .sc (.int .i64) (.l []), .sc (.int .i64) (.l [])], .one (.sc (.int .i64) (.l []))]
noncomputable def spec_l1Below_w (m : Nat) (vs : List T) (k : Ret → An) : An := spec_l1Below m (vs.headD dflt) (vs.tail.headD dflt) (vs.tail.tail.headD dflt) (vs.tail.tail.tail.headD dflt) (fun z0 z1 z2 z3 => k ⟨[.one (.sc (.int .i64) z0)], [[none, none, none], [none]], [some [.fz [.sc (.int .u8)] z1.rows, .sc (.int .i64) z2, .sc (.int .i64) z3], none]⟩)
theorem spec_l1Below_cf (m : Nat) : callK CX prims m = (patC 57 spec_l1Byte_a (spec_l1Byte_w m) (callK CX prims m)) := by
  rw [← patC_eq (fun vs k => spec_l1Byte_eq m vs k)]
noncomputable def spec_l1Below_c : Code := (Try.f48.body).getD .skip
noncomputable def spec_l1Below_fi : Fi := ⟨48, 2, 31, 17⟩
theorem spec_l1Below_eq (m : Nat) : ∀ vs k, callK CX prims m 48 (fArgs spec_l1Below_a vs) k = spec_l1Below_w m vs k := by
  cases m with
  | zero => exact fun vs k => rfl
  | succ m => exact fun vs k => Eq.trans (b := bodyK CX (callK CX prims m) (loopK CX (callK CX prims m) spec_l1Below_fi spec_l1Below_c m) 48 Try.f48 spec_l1Below_c (fArgs spec_l1Below_a vs) k) (by kernel_rfl) ((bodyK_congr (spec_l1Below_cf m) rfl 48 Try.f48 spec_l1Below_c (fArgs spec_l1Below_a vs) k).trans (by kernel_rfl))

/-! loop.example/g00244/spec.l15Prev -/
noncomputable def spec_l15Prev : Nat → T → (T → An) → An
  | 0, _, _ => .bad
  | m + 1, x0, k0 =>
    cond ((x0.rows.length : Int) == 0)
    (spec_Digest m (T.l [])
    (fun y0 => k0 y0))
    (cond (decide ((0 : Int) ≤ (IntKind.i64.wrap ((x0.rows.length : Int) - 1)) ∧ (IntKind.i64.wrap ((x0.rows.length : Int) - 1)) < (x0.rows.length : Int)))
    (k0 (((x0.rows.getD (Int.toNat (IntKind.i64.wrap ((x0.rows.length : Int) - 1))) []).drop 2).getD 0 dflt))
    (.bad))
noncomputable def spec_l15Prev_a : List Arg := [.one (.dz [.sc (.int .i64), .sc (.str), .sc (.str), .sl [.sc (.str)]] [])]
noncomputable def spec_l15Prev_w (m : Nat) (vs : List T) (k : Ret → An) : An := spec_l15Prev m (vs.headD dflt) (fun z0 => k ⟨[.one (.sc (.str) z0)], [[none]], [none]⟩)
theorem spec_l15Prev_cf (m : Nat) : callK CX prims m = (patC 24 spec_Digest_a (spec_Digest_w m) (callK CX prims m)) := by
  rw [← patC_eq (fun vs k => spec_Digest_eq m vs k)]
noncomputable def spec_l15Prev_c : Code := (Try.f35.body).getD .skip
noncomputable def spec_l15Prev_fi : Fi := ⟨35, 1, 15, 4⟩
theorem spec_l15Prev_eq (m : Nat) : ∀ vs k, callK CX prims m 35 (fArgs spec_l15Prev_a vs) k = spec_l15Prev_w m vs k := by
  cases m with
  | zero => exact fun vs k => rfl
  | succ m => exact fun vs k => Eq.trans (b := bodyK CX (callK CX prims m) (loopK CX (callK CX prims m) spec_l15Prev_fi spec_l15Prev_c m) 35 Try.f35 spec_l15Prev_c (fArgs spec_l15Prev_a vs) k) (by kernel_rfl) ((bodyK_congr (spec_l15Prev_cf m) rfl 35 Try.f35 spec_l15Prev_c (fArgs spec_l15Prev_a vs) k).trans (by kernel_rfl))

/-! loop.example/g00244/spec.l1Int -/
noncomputable def spec_l1Int : Nat → T → T → T → T → (T → T → T → T → An) → An
  | 0, _, _, _, _, _ => .bad
  | m + 1, x0, x1, x2, x3, k0 =>
    spec_l1Below m (T.l x0.rows) x1 x2 (T.i (x3.rows.length : Int))
    (fun y0 y1 y2 y3 => cond (decide ((0 : Int) ≤ y0.int ∧ y0.int < (x3.rows.length : Int)))
    (k0 ((x3.rows.getD (Int.toNat y0.int) []).getD 0 dflt) (T.l y1.rows) y2 y3)
    (.bad))
noncomputable def spec_l1Int_a : List Arg := [.bx [.fz [.sc (.int .u8)] [], .sc (.int .i64) (.l []), .sc (.int .i64) (.l [])], .one (.dz [.sc (.int .i64)] [])]
noncomputable def spec_l1Int_w (m : Nat) (vs : List T) (k : Ret → An) : An := spec_l1Int m (vs.headD dflt) (vs.tail.headD dflt) (vs.tail.tail.headD dflt) (vs.tail.tail.tail.headD dflt) (fun z0 z1 z2 z3 => k ⟨[.one (.sc (.int .i64) z0)], [[none, none, none], [none]], [some [.fz [.sc (.int .u8)] z1.rows, .sc (.int .i64) z2, .sc (.int .i64) z3], none]⟩)
theorem spec_l1Int_cf (m : Nat) : callK CX prims m = (patC 48 spec_l1Below_a (spec_l1Below_w m) (callK CX prims m)) := by
  rw [← patC_eq (fun vs k => spec_l1Below_eq m vs k)]
noncomputable def spec_l1Int_c : Code := (Try.f58.body).getD .skip
noncomputable def spec_l1Int_fi : Fi := ⟨58, 2, 12, 17⟩
theorem spec_l1Int_eq (m : Nat) : ∀ vs k, callK CX prims m 58 (fArgs spec_l1Int_a vs) k = spec_l1Int_w m vs k := by
  cases m with
  | zero => exact fun vs k => rfl
  | succ m => exact fun vs k => Eq.trans (b := bodyK CX (callK CX prims m) (loopK CX (callK CX prims m) spec_l1Int_fi spec_l1Int_c m) 58 Try.f58 spec_l1Int_c (fArgs spec_l1Int_a vs) k) (by kernel_rfl) ((bodyK_congr (spec_l1Int_cf m) rfl 58 Try.f58 spec_l1Int_c (fArgs spec_l1Int_a vs) k).trans (by kernel_rfl))

/-! loop.example/g00244/spec.l1Bytes -/
noncomputable def spec_l1Bytes_L0_0 (m : Nat) : Nat → T → T → T → T → T → T → T → (T → T → T → T → T → An) → An
  | 0, _, _, _, _, _, _, _, _ => .bad
  | n + 1, x0, x1, x2, x3, x4, x5, x6, k0 =>
    cond (decide (x2.int < x1.int))
    (spec_l1Byte m (T.l x3.rows) x4 x5
    (fun y0 y1 y2 y3 => cond (decide ((x6.rows.length + 1) * 1 ≤ maxRow))
    (spec_l1Bytes_L0_0 m n (T.i (x0.int.toNat : Int)) x1 (T.i (IntKind.i64.wrap (x2.int + 1))) (T.l y1.rows) y2 y3 (T.l (x6.rows ++ [[(T.i (IntKind.u8.wrap y0.int))]])) k0)
    (.bad)))
    (k0 (T.i (x0.int.toNat : Int)) x3 x4 x5 (T.l x6.rows))
noncomputable def spec_l1Bytes_s0_0 : Pack := ⟨[(0, .ptr [0, 999999] 0 0 0), (1, .one ⟨.sc, .sc (.int .i64), .l []⟩), (5, .one ⟨.al [1000000, 1] 0, .sl [.sc (.int .u8)], .l []⟩), (6, .one ⟨.sc, .sc (.int .i64), .l []⟩)], [([0, 999999], .box [⟨.sn [], .sl [.sc (.int .u8)], .l []⟩, ⟨.sc, .sc (.int .i64), .l []⟩, ⟨.sc, .sc (.int .i64), .l []⟩]), ([1000000, 1], .row [.sc (.int .u8)] [.F] [])]⟩
noncomputable def spec_l1Bytes_e0_0 : Pack := ⟨[(0, .ptr [0, 999999] 0 0 0), (5, .one ⟨.al [1000000, 1] 0, .sl [.sc (.int .u8)], .l []⟩)], [([0, 999999], .box [⟨.sn [], .sl [.sc (.int .u8)], .l []⟩, ⟨.sc, .sc (.int .i64), .l []⟩, ⟨.sc, .sc (.int .i64), .l []⟩]), ([1000000, 1], .row [.sc (.int .u8)] [.F] [])]⟩
noncomputable def spec_l1Bytes_L0_0w (m n : Nat) (vs : List T) (k : Ctl → Pack → An) : An := spec_l1Bytes_L0_0 m n (vs.headD dflt) (vs.tail.headD dflt) (vs.tail.tail.headD dflt) (vs.tail.tail.tail.headD dflt) (vs.tail.tail.tail.tail.headD dflt) (vs.tail.tail.tail.tail.tail.headD dflt) (vs.tail.tail.tail.tail.tail.tail.headD dflt) (fun z0 z1 z2 z3 z4 => k (.exit 0) (fPack spec_l1Bytes_e0_0 [z0, z1, z2, z3, z4]))
noncomputable def spec_l1Bytes : Nat → T → T → T → T → (T → T → T → T → An) → An
  | 0, _, _, _, _, _ => .bad
  | m + 1, x0, x1, x2, x3, k0 =>
    spec_l1Bytes_L0_0 m m (T.i 0) x3 (T.i 0) (T.l x0.rows) x1 x2 (T.l [])
    (fun y4 y5 y6 y7 y8 => k0 (T.l y8.rows) (T.l y5.rows) y6 y7)
noncomputable def spec_l1Bytes_a : List Arg := [.bx [.fz [.sc (.int .u8)] [], .sc (.int .i64) (.l []), .sc (.int .i64) (.l [])], .one (.sc (.int .i64) (.l []))]
noncomputable def spec_l1Bytes_w (m : Nat) (vs : List T) (k : Ret → An) : An := spec_l1Bytes m (vs.headD dflt) (vs.tail.headD dflt) (vs.tail.tail.headD dflt) (vs.tail.tail.tail.headD dflt) (fun z0 z1 z2 z3 => k ⟨[.one (.own [1000000, 1] [.sc (.int .u8)] [.F] z0.rows)], [[none, none, none], [none]], [some [.fz [.sc (.int .u8)] z1.rows, .sc (.int .i64) z2, .sc (.int .i64) z3], none]⟩)
theorem spec_l1Bytes_cf (m : Nat) : callK CX prims m = (patC 57 spec_l1Byte_a (spec_l1Byte_w m) (callK CX prims m)) := by
  rw [← patC_eq (fun vs k => spec_l1Byte_eq m vs k)]
noncomputable def spec_l1Bytes_c : Code := (Try.f61.body).getD .skip
noncomputable def spec_l1Bytes_fi : Fi := ⟨61, 2, 20, 17⟩
theorem spec_l1Bytes_lf (m : Nat) : ∀ n, (∀ vs k, loopK CX (callK CX prims m) spec_l1Bytes_fi spec_l1Bytes_c n [0, 1, 0, 1, 1] (fPack spec_l1Bytes_s0_0 vs) k = spec_l1Bytes_L0_0w m n vs k) ∧ ((loopK CX (callK CX prims m) spec_l1Bytes_fi spec_l1Bytes_c n) = (patL [0, 1, 0, 1, 1] spec_l1Bytes_s0_0 (spec_l1Bytes_L0_0w m n) (loopK CX (callK CX prims m) spec_l1Bytes_fi spec_l1Bytes_c n))) := by
  intro n
  have hl : ∀ n, (∀ vs k, loopK CX (callK CX prims m) spec_l1Bytes_fi spec_l1Bytes_c n [0, 1, 0, 1, 1] (fPack spec_l1Bytes_s0_0 vs) k = spec_l1Bytes_L0_0w m n vs k) → ((loopK CX (callK CX prims m) spec_l1Bytes_fi spec_l1Bytes_c n) = (patL [0, 1, 0, 1, 1] spec_l1Bytes_s0_0 (spec_l1Bytes_L0_0w m n) (loopK CX (callK CX prims m) spec_l1Bytes_fi spec_l1Bytes_c n))) := by
    intro n h0
    rw [← patL_eq h0]
  induction n with
  | zero => exact ⟨fun vs k => rfl, hl 0 (fun vs k => rfl)⟩
  | succ n ihn =>
    have hn := ihn.2
    have h0 : ∀ vs k, loopK CX (callK CX prims m) spec_l1Bytes_fi spec_l1Bytes_c (n + 1) [0, 1, 0, 1, 1] (fPack spec_l1Bytes_s0_0 vs) k = spec_l1Bytes_L0_0w m (n + 1) vs k := fun vs k =>
      (stepL_congr (spec_l1Bytes_cf m) hn [0, 1, 0, 1, 1] _ _).trans (by kernel_rfl)
    exact ⟨h0, hl (n + 1) h0⟩
theorem spec_l1Bytes_eq (m : Nat) : ∀ vs k, callK CX prims m 61 (fArgs spec_l1Bytes_a vs) k = spec_l1Bytes_w m vs k := by
  cases m with
  | zero => exact fun vs k => rfl
  | succ m => exact fun vs k => Eq.trans (b := bodyK CX (callK CX prims m) (loopK CX (callK CX prims m) spec_l1Bytes_fi spec_l1Bytes_c m) 61 Try.f61 spec_l1Bytes_c (fArgs spec_l1Bytes_a vs) k) (by kernel_rfl) ((bodyK_congr (spec_l1Bytes_cf m) ((spec_l1Bytes_lf m m).2) 61 Try.f61 spec_l1Bytes_c (fArgs spec_l1Bytes_a vs) k).trans (by kernel_rfl))

/-! loop.example/g00244/spec.l1Some -/
noncomputable def spec_l1Some : Nat → T → T → T → (T → T → T → T → An) → An
  | 0, _, _, _, _ => .bad
  | m + 1, x0, x1, x2, k0 =>
    spec_l1Int m (T.l x0.rows) x1 x2 (T.l [[(T.i 0)], [(T.i 1)], [(T.i 2)], [(T.i 5)], [(T.i 9)]])
    (fun y0 y1 y2 y3 => spec_l1Bytes m (T.l y1.rows) y2 y3 y0
    (fun y4 y5 y6 y7 => k0 (T.l y4.rows) (T.l y5.rows) y6 y7))
noncomputable def spec_l1Some_a : List Arg := [.bx [.fz [.sc (.int .u8)] [], .sc (.int .i64) (.l []), .sc (.int .i64) (.l [])]]
noncomputable def spec_l1Some_w (m : Nat) (vs : List T) (k : Ret → An) : An := spec_l1Some m (vs.headD dflt) (vs.tail.headD dflt) (vs.tail.tail.headD dflt) (fun z0 z1 z2 z3 => k ⟨[.one (.own [2000007, 0, 0] [.sc (.int .u8)] [.F] z0.rows)], [[none, none, none]], [some [.fz [.sc (.int .u8)] z1.rows, .sc (.int .i64) z2, .sc (.int .i64) z3]]⟩)
theorem spec_l1Some_cf (m : Nat) : callK CX prims m = (patC 58 spec_l1Int_a (spec_l1Int_w m) (patC 61 spec_l1Bytes_a (spec_l1Bytes_w m) (callK CX prims m))) := by
  rw [← patC_eq (fun vs k => spec_l1Bytes_eq m vs k), ← patC_eq (fun vs k => spec_l1Int_eq m vs k)]
noncomputable def spec_l1Some_c : Code := (Try.f60.body).getD .skip
noncomputable def spec_l1Some_fi : Fi := ⟨60, 1, 8, 5⟩
theorem spec_l1Some_eq (m : Nat) : ∀ vs k, callK CX prims m 60 (fArgs spec_l1Some_a vs) k = spec_l1Some_w m vs k := by
  cases m with
  | zero => exact fun vs k => rfl
  | succ m => exact fun vs k => Eq.trans (b := bodyK CX (callK CX prims m) (loopK CX (callK CX prims m) spec_l1Some_fi spec_l1Some_c m) 60 Try.f60 spec_l1Some_c (fArgs spec_l1Some_a vs) k) (by kernel_rfl) ((bodyK_congr (spec_l1Some_cf m) rfl 60 Try.f60 spec_l1Some_c (fArgs spec_l1Some_a vs) k).trans (by kernel_rfl))

/-! loop.example/g00244/spec.l15Roots -/
noncomputable def spec_l15Roots_L0_0 (m : Nat) : Nat → T → T → T → T → T → T → (T → T → T → T → T → An) → An
  | 0, _, _, _, _, _, _, _ => .bad
  | n + 1, x0, x1, x2, x3, x4, x5, k0 =>
    cond (decide (x1.int > 0))
    (spec_l1Some m (T.l x2.rows) x3 x4
    (fun y4 y5 y6 y7 => spec_Digest m (T.l y4.rows)
    (fun y8 => cond (decide ((x5.rows.length + 1) * 1 ≤ maxRow))
    (spec_l15Roots_L0_0 m n (T.i (x0.int.toNat : Int)) (T.i (IntKind.i64.wrap (x1.int - 1))) (T.l y5.rows) y6 y7 (T.l (x5.rows ++ [[y8]])) k0)
    (.bad))))
    (k0 (T.i (x0.int.toNat : Int)) x2 x3 x4 (T.l x5.rows))
noncomputable def spec_l15Roots_s0_0 : Pack := ⟨[(0, .ptr [0, 999999] 0 0 0), (3, .one ⟨.al [1000000, 1] 0, .sl [.sc (.str)], .l []⟩), (4, .one ⟨.sc, .sc (.int .i64), .l []⟩)], [([0, 999999], .box [⟨.sn [], .sl [.sc (.int .u8)], .l []⟩, ⟨.sc, .sc (.int .i64), .l []⟩, ⟨.sc, .sc (.int .i64), .l []⟩]), ([1000000, 1], .row [.sc (.str)] [.F] [])]⟩
noncomputable def spec_l15Roots_e0_0 : Pack := ⟨[(0, .ptr [0, 999999] 0 0 0), (3, .one ⟨.al [1000000, 1] 0, .sl [.sc (.str)], .l []⟩)], [([0, 999999], .box [⟨.sn [], .sl [.sc (.int .u8)], .l []⟩, ⟨.sc, .sc (.int .i64), .l []⟩, ⟨.sc, .sc (.int .i64), .l []⟩]), ([1000000, 1], .row [.sc (.str)] [.F] [])]⟩
noncomputable def spec_l15Roots_L0_0w (m n : Nat) (vs : List T) (k : Ctl → Pack → An) : An := spec_l15Roots_L0_0 m n (vs.headD dflt) (vs.tail.headD dflt) (vs.tail.tail.headD dflt) (vs.tail.tail.tail.headD dflt) (vs.tail.tail.tail.tail.headD dflt) (vs.tail.tail.tail.tail.tail.headD dflt) (fun z0 z1 z2 z3 z4 => k (.exit 0) (fPack spec_l15Roots_e0_0 [z0, z1, z2, z3, z4]))
noncomputable def spec_l15Roots : Nat → T → T → T → (T → T → T → T → An) → An
  | 0, _, _, _, _ => .bad
  | m + 1, x0, x1, x2, k0 =>
    spec_l1Below m (T.l x0.rows) x1 x2 (T.i 3)
    (fun y0 y1 y2 y3 => spec_l15Roots_L0_0 m m (T.i 0) (T.i (IntKind.i64.wrap (1 + y0.int))) (T.l y1.rows) y2 y3 (T.l [])
    (fun y9 y10 y11 y12 y13 => k0 (T.l y13.rows) (T.l y10.rows) y11 y12))
noncomputable def spec_l15Roots_a : List Arg := [.bx [.fz [.sc (.int .u8)] [], .sc (.int .i64) (.l []), .sc (.int .i64) (.l [])]]
noncomputable def spec_l15Roots_w (m : Nat) (vs : List T) (k : Ret → An) : An := spec_l15Roots m (vs.headD dflt) (vs.tail.headD dflt) (vs.tail.tail.headD dflt) (fun z0 z1 z2 z3 => k ⟨[.one (.own [1000000, 1] [.sc (.str)] [.F] z0.rows)], [[none, none, none]], [some [.fz [.sc (.int .u8)] z1.rows, .sc (.int .i64) z2, .sc (.int .i64) z3]]⟩)
theorem spec_l15Roots_cf (m : Nat) : callK CX prims m = (patC 48 spec_l1Below_a (spec_l1Below_w m) (patC 60 spec_l1Some_a (spec_l1Some_w m) (patC 24 spec_Digest_a (spec_Digest_w m) (callK CX prims m)))) := by
  rw [← patC_eq (fun vs k => spec_Digest_eq m vs k), ← patC_eq (fun vs k => spec_l1Some_eq m vs k), ← patC_eq (fun vs k => spec_l1Below_eq m vs k)]
noncomputable def spec_l15Roots_c : Code := (Try.f56.body).getD .skip
noncomputable def spec_l15Roots_fi : Fi := ⟨56, 1, 20, 5⟩
theorem spec_l15Roots_lf (m : Nat) : ∀ n, (∀ vs k, loopK CX (callK CX prims m) spec_l15Roots_fi spec_l15Roots_c n [0, 1, 0, 1, 1] (fPack spec_l15Roots_s0_0 vs) k = spec_l15Roots_L0_0w m n vs k) ∧ ((loopK CX (callK CX prims m) spec_l15Roots_fi spec_l15Roots_c n) = (patL [0, 1, 0, 1, 1] spec_l15Roots_s0_0 (spec_l15Roots_L0_0w m n) (loopK CX (callK CX prims m) spec_l15Roots_fi spec_l15Roots_c n))) := by
  intro n
  have hl : ∀ n, (∀ vs k, loopK CX (callK CX prims m) spec_l15Roots_fi spec_l15Roots_c n [0, 1, 0, 1, 1] (fPack spec_l15Roots_s0_0 vs) k = spec_l15Roots_L0_0w m n vs k) → ((loopK CX (callK CX prims m) spec_l15Roots_fi spec_l15Roots_c n) = (patL [0, 1, 0, 1, 1] spec_l15Roots_s0_0 (spec_l15Roots_L0_0w m n) (loopK CX (callK CX prims m) spec_l15Roots_fi spec_l15Roots_c n))) := by
    intro n h0
    rw [← patL_eq h0]
  induction n with
  | zero => exact ⟨fun vs k => rfl, hl 0 (fun vs k => rfl)⟩
  | succ n ihn =>
    have hn := ihn.2
    have h0 : ∀ vs k, loopK CX (callK CX prims m) spec_l15Roots_fi spec_l15Roots_c (n + 1) [0, 1, 0, 1, 1] (fPack spec_l15Roots_s0_0 vs) k = spec_l15Roots_L0_0w m (n + 1) vs k := fun vs k =>
      (stepL_congr (spec_l15Roots_cf m) hn [0, 1, 0, 1, 1] _ _).trans (by kernel_rfl)
    exact ⟨h0, hl (n + 1) h0⟩
theorem spec_l15Roots_eq (m : Nat) : ∀ vs k, callK CX prims m 56 (fArgs spec_l15Roots_a vs) k = spec_l15Roots_w m vs k := by
  cases m with
  | zero => exact fun vs k => rfl
  | succ m => exact fun vs k => Eq.trans (b := bodyK CX (callK CX prims m) (loopK CX (callK CX prims m) spec_l15Roots_fi spec_l15Roots_c m) 56 Try.f56 spec_l15Roots_c (fArgs spec_l15Roots_a vs) k) (by kernel_rfl) ((bodyK_congr (spec_l15Roots_cf m) ((spec_l15Roots_lf m m).2) 56 Try.f56 spec_l15Roots_c (fArgs spec_l15Roots_a vs) k).trans (by kernel_rfl))

/-! loop.example/g00244/spec.l15Draw -/
noncomputable def spec_l15Draw_L0_0 (m : Nat) : Nat → T → T → T → T → T → T → (T → T → T → T → T → An) → An
  | 0, _, _, _, _, _, _, _ => .bad
  | n + 1, x0, x1, x2, x3, x4, x5, k0 =>
    cond (decide (x1.int > 0))
    (spec_l15Prev m (T.l x5.rows)
    (fun y4 => spec_l15Roots m (T.l x2.rows) x3 x4
    (fun y5 y6 y7 y8 => spec_SuperOf m (T.i (IntKind.i64.wrap ((x5.rows.length : Int) + 1))) y4 (T.l y5.rows)
    (fun y9 => cond (decide ((x5.rows.length + 1) * 4 ≤ maxRow))
    (spec_l15Draw_L0_0 m n (T.i (x0.int.toNat : Int)) (T.i (IntKind.i64.wrap (x1.int - 1))) (T.l y6.rows) y7 y8 (T.l (x5.rows ++ [[(T.i (IntKind.i64.wrap ((x5.rows.length : Int) + 1))), y4, y9, (T.l y5.rows)]])) k0)
    (.bad)))))
    (k0 (T.i (x0.int.toNat : Int)) x2 x3 x4 (T.l x5.rows))
noncomputable def spec_l15Draw_s0_0 : Pack := ⟨[(0, .ptr [0, 999999] 0 0 0), (3, .one ⟨.al [1000000, 1] 0, .sl [.sc (.int .i64), .sc (.str), .sc (.str), .sl [.sc (.str)]], .l []⟩), (4, .one ⟨.sc, .sc (.int .i64), .l []⟩)], [([0, 999999], .box [⟨.sn [], .sl [.sc (.int .u8)], .l []⟩, ⟨.sc, .sc (.int .i64), .l []⟩, ⟨.sc, .sc (.int .i64), .l []⟩]), ([1000000, 1], .row [.sc (.int .i64), .sc (.str), .sc (.str), .sl [.sc (.str)]] [.F, .F, .F, .F] [])]⟩
noncomputable def spec_l15Draw_e0_0 : Pack := ⟨[(0, .ptr [0, 999999] 0 0 0), (3, .one ⟨.al [1000000, 1] 0, .sl [.sc (.int .i64), .sc (.str), .sc (.str), .sl [.sc (.str)]], .l []⟩)], [([0, 999999], .box [⟨.sn [], .sl [.sc (.int .u8)], .l []⟩, ⟨.sc, .sc (.int .i64), .l []⟩, ⟨.sc, .sc (.int .i64), .l []⟩]), ([1000000, 1], .row [.sc (.int .i64), .sc (.str), .sc (.str), .sl [.sc (.str)]] [.F, .F, .F, .F] [])]⟩
noncomputable def spec_l15Draw_L0_0w (m n : Nat) (vs : List T) (k : Ctl → Pack → An) : An := spec_l15Draw_L0_0 m n (vs.headD dflt) (vs.tail.headD dflt) (vs.tail.tail.headD dflt) (vs.tail.tail.tail.headD dflt) (vs.tail.tail.tail.tail.headD dflt) (vs.tail.tail.tail.tail.tail.headD dflt) (fun z0 z1 z2 z3 z4 => k (.exit 0) (fPack spec_l15Draw_e0_0 [z0, z1, z2, z3, z4]))
noncomputable def spec_l15Draw : Nat → T → T → T → (T → T → T → T → An) → An
  | 0, _, _, _, _ => .bad
  | m + 1, x0, x1, x2, k0 =>
    spec_l1Below m (T.l x0.rows) x1 x2 (T.i 4)
    (fun y0 y1 y2 y3 => spec_l15Draw_L0_0 m m (T.i 0) y0 (T.l y1.rows) y2 y3 (T.l [])
    (fun y10 y11 y12 y13 y14 => k0 (T.l y14.rows) (T.l y11.rows) y12 y13))
noncomputable def spec_l15Draw_a : List Arg := [.bx [.fz [.sc (.int .u8)] [], .sc (.int .i64) (.l []), .sc (.int .i64) (.l [])]]
noncomputable def spec_l15Draw_w (m : Nat) (vs : List T) (k : Ret → An) : An := spec_l15Draw m (vs.headD dflt) (vs.tail.headD dflt) (vs.tail.tail.headD dflt) (fun z0 z1 z2 z3 => k ⟨[.one (.own [1000000, 1] [.sc (.int .i64), .sc (.str), .sc (.str), .sl [.sc (.str)]] [.F, .F, .F, .F] z0.rows)], [[none, none, none]], [some [.fz [.sc (.int .u8)] z1.rows, .sc (.int .i64) z2, .sc (.int .i64) z3]]⟩)
theorem spec_l15Draw_cf (m : Nat) : callK CX prims m = (patC 48 spec_l1Below_a (spec_l1Below_w m) (patC 35 spec_l15Prev_a (spec_l15Prev_w m) (patC 56 spec_l15Roots_a (spec_l15Roots_w m) (patC 8 spec_SuperOf_a (spec_SuperOf_w m) (callK CX prims m))))) := by
  rw [← patC_eq (fun vs k => spec_SuperOf_eq m vs k), ← patC_eq (fun vs k => spec_l15Roots_eq m vs k), ← patC_eq (fun vs k => spec_l15Prev_eq m vs k), ← patC_eq (fun vs k => spec_l1Below_eq m vs k)]
noncomputable def spec_l15Draw_c : Code := (Try.f46.body).getD .skip
noncomputable def spec_l15Draw_fi : Fi := ⟨46, 1, 34, 5⟩
theorem spec_l15Draw_lf (m : Nat) : ∀ n, (∀ vs k, loopK CX (callK CX prims m) spec_l15Draw_fi spec_l15Draw_c n [0, 1, 0, 1, 1] (fPack spec_l15Draw_s0_0 vs) k = spec_l15Draw_L0_0w m n vs k) ∧ ((loopK CX (callK CX prims m) spec_l15Draw_fi spec_l15Draw_c n) = (patL [0, 1, 0, 1, 1] spec_l15Draw_s0_0 (spec_l15Draw_L0_0w m n) (loopK CX (callK CX prims m) spec_l15Draw_fi spec_l15Draw_c n))) := by
  intro n
  have hl : ∀ n, (∀ vs k, loopK CX (callK CX prims m) spec_l15Draw_fi spec_l15Draw_c n [0, 1, 0, 1, 1] (fPack spec_l15Draw_s0_0 vs) k = spec_l15Draw_L0_0w m n vs k) → ((loopK CX (callK CX prims m) spec_l15Draw_fi spec_l15Draw_c n) = (patL [0, 1, 0, 1, 1] spec_l15Draw_s0_0 (spec_l15Draw_L0_0w m n) (loopK CX (callK CX prims m) spec_l15Draw_fi spec_l15Draw_c n))) := by
    intro n h0
    rw [← patL_eq h0]
  induction n with
  | zero => exact ⟨fun vs k => rfl, hl 0 (fun vs k => rfl)⟩
  | succ n ihn =>
    have hn := ihn.2
    have h0 : ∀ vs k, loopK CX (callK CX prims m) spec_l15Draw_fi spec_l15Draw_c (n + 1) [0, 1, 0, 1, 1] (fPack spec_l15Draw_s0_0 vs) k = spec_l15Draw_L0_0w m (n + 1) vs k := fun vs k =>
      (stepL_congr (spec_l15Draw_cf m) hn [0, 1, 0, 1, 1] _ _).trans (by kernel_rfl)
    exact ⟨h0, hl (n + 1) h0⟩
theorem spec_l15Draw_eq (m : Nat) : ∀ vs k, callK CX prims m 46 (fArgs spec_l15Draw_a vs) k = spec_l15Draw_w m vs k := by
  cases m with
  | zero => exact fun vs k => rfl
  | succ m => exact fun vs k => Eq.trans (b := bodyK CX (callK CX prims m) (loopK CX (callK CX prims m) spec_l15Draw_fi spec_l15Draw_c m) 46 Try.f46 spec_l15Draw_c (fArgs spec_l15Draw_a vs) k) (by kernel_rfl) ((bodyK_congr (spec_l15Draw_cf m) ((spec_l15Draw_lf m m).2) 46 Try.f46 spec_l15Draw_c (fArgs spec_l15Draw_a vs) k).trans (by kernel_rfl))

/-! loop.example/g00244/spec.l1Once -/
noncomputable def spec_l1Once : Nat → T → T → T → T → (T → T → T → T → An) → An
  | 0, _, _, _, _, _ => .bad
  | m + 1, x0, x1, x2, x3, k0 =>
    spec_l1Below m (T.l x0.rows) x1 x2 x3
    (fun y0 y1 y2 y3 => k0 (T.b (y0.int == 0)) (T.l y1.rows) y2 y3)
noncomputable def spec_l1Once_a : List Arg := [.bx [.fz [.sc (.int .u8)] [], .sc (.int .i64) (.l []), .sc (.int .i64) (.l [])], .one (.sc (.int .i64) (.l []))]
noncomputable def spec_l1Once_w (m : Nat) (vs : List T) (k : Ret → An) : An := spec_l1Once m (vs.headD dflt) (vs.tail.headD dflt) (vs.tail.tail.headD dflt) (vs.tail.tail.tail.headD dflt) (fun z0 z1 z2 z3 => k ⟨[.one (.sc (.bool) z0)], [[none, none, none], [none]], [some [.fz [.sc (.int .u8)] z1.rows, .sc (.int .i64) z2, .sc (.int .i64) z3], none]⟩)
theorem spec_l1Once_cf (m : Nat) : callK CX prims m = (patC 48 spec_l1Below_a (spec_l1Below_w m) (callK CX prims m)) := by
  rw [← patC_eq (fun vs k => spec_l1Below_eq m vs k)]
noncomputable def spec_l1Once_c : Code := (Try.f47.body).getD .skip
noncomputable def spec_l1Once_fi : Fi := ⟨47, 2, 9, 17⟩
theorem spec_l1Once_eq (m : Nat) : ∀ vs k, callK CX prims m 47 (fArgs spec_l1Once_a vs) k = spec_l1Once_w m vs k := by
  cases m with
  | zero => exact fun vs k => rfl
  | succ m => exact fun vs k => Eq.trans (b := bodyK CX (callK CX prims m) (loopK CX (callK CX prims m) spec_l1Once_fi spec_l1Once_c m) 47 Try.f47 spec_l1Once_c (fArgs spec_l1Once_a vs) k) (by kernel_rfl) ((bodyK_congr (spec_l1Once_cf m) rfl 47 Try.f47 spec_l1Once_c (fArgs spec_l1Once_a vs) k).trans (by kernel_rfl))

/-! loop.example/g00244/spec.l1Str -/
noncomputable def spec_l1Str : Nat → T → T → T → T → (T → T → T → T → An) → An
  | 0, _, _, _, _, _ => .bad
  | m + 1, x0, x1, x2, x3, k0 =>
    spec_l1Below m (T.l x0.rows) x1 x2 (T.i (x3.rows.length : Int))
    (fun y0 y1 y2 y3 => cond (decide ((0 : Int) ≤ y0.int ∧ y0.int < (x3.rows.length : Int)))
    (k0 ((x3.rows.getD (Int.toNat y0.int) []).getD 0 dflt) (T.l y1.rows) y2 y3)
    (.bad))
noncomputable def spec_l1Str_a : List Arg := [.bx [.fz [.sc (.int .u8)] [], .sc (.int .i64) (.l []), .sc (.int .i64) (.l [])], .one (.dz [.sc (.str)] [])]
noncomputable def spec_l1Str_w (m : Nat) (vs : List T) (k : Ret → An) : An := spec_l1Str m (vs.headD dflt) (vs.tail.headD dflt) (vs.tail.tail.headD dflt) (vs.tail.tail.tail.headD dflt) (fun z0 z1 z2 z3 => k ⟨[.one (.sc (.str) z0)], [[none, none, none], [none]], [some [.fz [.sc (.int .u8)] z1.rows, .sc (.int .i64) z2, .sc (.int .i64) z3], none]⟩)
theorem spec_l1Str_cf (m : Nat) : callK CX prims m = (patC 48 spec_l1Below_a (spec_l1Below_w m) (callK CX prims m)) := by
  rw [← patC_eq (fun vs k => spec_l1Below_eq m vs k)]
noncomputable def spec_l1Str_c : Code := (Try.f59.body).getD .skip
noncomputable def spec_l1Str_fi : Fi := ⟨59, 2, 12, 17⟩
theorem spec_l1Str_eq (m : Nat) : ∀ vs k, callK CX prims m 59 (fArgs spec_l1Str_a vs) k = spec_l1Str_w m vs k := by
  cases m with
  | zero => exact fun vs k => rfl
  | succ m => exact fun vs k => Eq.trans (b := bodyK CX (callK CX prims m) (loopK CX (callK CX prims m) spec_l1Str_fi spec_l1Str_c m) 59 Try.f59 spec_l1Str_c (fArgs spec_l1Str_a vs) k) (by kernel_rfl) ((bodyK_congr (spec_l1Str_cf m) rfl 59 Try.f59 spec_l1Str_c (fArgs spec_l1Str_a vs) k).trans (by kernel_rfl))

/-! loop.example/g00244/spec.l15Bend -/
noncomputable def spec_l15Bend : Nat → T → T → T → T → T → T → T → (T → T → T → T → T → T → T → An) → (T → T → T → T → T → T → T → An) → An
  | 0, _, _, _, _, _, _, _, _, _ => .bad
  | m + 1, x0, x1, x2, x3, x4, x5, x6, k0, k1 =>
    cond (decide ((0 + x6.rows.length) * 1 ≤ maxRow))
    (spec_l1Below m (T.l x0.rows) x1 x2 (T.i 5)
    (fun y0 y1 y2 y3 => cond (y0.int == 0)
    (spec_l1Int m (T.l y1.rows) y2 y3 (T.l [[(T.i 0)], [(T.i (IntKind.i64.wrap (x3.int + 1)))], [(T.i 1001)]])
    (fun y4 y5 y6 y7 => k0 y4 x4 x5 (T.l x6.rows) (T.l y5.rows) y6 y7))
    (cond (y0.int == 1)
    (spec_l1Str m (T.l y1.rows) y2 y3 (T.l [[(T.s (⟨#[]⟩ : ByteArray))], [(T.s (⟨#[120]⟩ : ByteArray))]])
    (fun y8 y9 y10 y11 => k0 x3 y8 x5 (T.l x6.rows) (T.l y9.rows) y10 y11))
    (cond (y0.int == 2)
    (spec_Digest m (T.l [[(T.i 9)]])
    (fun y12 => k0 x3 x4 y12 (T.l x6.rows) (T.l y1.rows) y2 y3))
    (cond (y0.int == 3)
    (spec_Digest m (T.l [[(T.i 1)]])
    (fun y13 => spec_l1Str m (T.l y1.rows) y2 y3 (T.l [[(T.s (⟨#[]⟩ : ByteArray))], [y13]])
    (fun y14 y15 y16 y17 => cond (decide ((x6.rows.length + 1) * 1 ≤ maxRow))
    (k1 x3 x4 x5 (T.l (x6.rows ++ [[y14]])) (T.l y15.rows) y16 y17)
    (.bad))))
    (k0 x3 x4 x5 (T.l x6.rows) (T.l y1.rows) y2 y3))))))
    (.bad)
noncomputable def spec_l15Bend_a : List Arg := [.bx [.fz [.sc (.int .u8)] [], .sc (.int .i64) (.l []), .sc (.int .i64) (.l [])], .agg [.sc (.int .i64) (.l []), .sc (.str) (.l []), .sc (.str) (.l []), .dz [.sc (.str)] []]]
noncomputable def spec_l15Bend_w (m : Nat) (vs : List T) (k : Ret → An) : An := spec_l15Bend m (vs.headD dflt) (vs.tail.headD dflt) (vs.tail.tail.headD dflt) (vs.tail.tail.tail.headD dflt) (vs.tail.tail.tail.tail.headD dflt) (vs.tail.tail.tail.tail.tail.headD dflt) (vs.tail.tail.tail.tail.tail.tail.headD dflt) (fun z0 z1 z2 z3 z4 z5 z6 => k ⟨[.agg [.sc (.int .i64) z0, .sc (.str) z1, .sc (.str) z2, .own [2000008] [.sc (.str)] [.F] z3.rows]], [[none, none, none], [none, none, none, none]], [some [.fz [.sc (.int .u8)] z4.rows, .sc (.int .i64) z5, .sc (.int .i64) z6], none]⟩) (fun z0 z1 z2 z3 z4 z5 z6 => k ⟨[.agg [.sc (.int .i64) z0, .sc (.str) z1, .sc (.str) z2, .own [2000042] [.sc (.str)] [.F] z3.rows]], [[none, none, none], [none, none, none, none]], [some [.fz [.sc (.int .u8)] z4.rows, .sc (.int .i64) z5, .sc (.int .i64) z6], none]⟩)
theorem spec_l15Bend_cf (m : Nat) : callK CX prims m = (patC 48 spec_l1Below_a (spec_l1Below_w m) (patC 58 spec_l1Int_a (spec_l1Int_w m) (patC 59 spec_l1Str_a (spec_l1Str_w m) (patC 24 spec_Digest_a (spec_Digest_w m) (callK CX prims m))))) := by
  rw [← patC_eq (fun vs k => spec_Digest_eq m vs k), ← patC_eq (fun vs k => spec_l1Str_eq m vs k), ← patC_eq (fun vs k => spec_l1Int_eq m vs k), ← patC_eq (fun vs k => spec_l1Below_eq m vs k)]
noncomputable def spec_l15Bend_c : Code := (Try.f49.body).getD .skip
noncomputable def spec_l15Bend_fi : Fi := ⟨49, 2, 45, 17⟩
theorem spec_l15Bend_eq (m : Nat) : ∀ vs k, callK CX prims m 49 (fArgs spec_l15Bend_a vs) k = spec_l15Bend_w m vs k := by
  cases m with
  | zero => exact fun vs k => rfl
  | succ m => exact fun vs k => Eq.trans (b := bodyK CX (callK CX prims m) (loopK CX (callK CX prims m) spec_l15Bend_fi spec_l15Bend_c m) 49 Try.f49 spec_l15Bend_c (fArgs spec_l15Bend_a vs) k) (by kernel_rfl) ((bodyK_congr (spec_l15Bend_cf m) rfl 49 Try.f49 spec_l15Bend_c (fArgs spec_l15Bend_a vs) k).trans (by kernel_rfl))

/-! loop.example/g00244/spec.l15Any -/
noncomputable def spec_l15Any : Nat → T → T → T → (T → T → T → T → An) → An
  | 0, _, _, _, _ => .bad
  | m + 1, x0, x1, x2, k0 =>
    spec_l15Draw m (T.l x0.rows) x1 x2
    (fun y0 y1 y2 y3 => cond ((decide ((y0.rows.length : Int) > 0)) == true)
    (spec_l1Once m (T.l y1.rows) y2 y3 (T.i 3)
    (fun y4 y5 y6 y7 => cond y4.bool
    (spec_l1Below m (T.l y5.rows) y6 y7 (T.i (y0.rows.length : Int))
    (fun y8 y9 y10 y11 => cond (decide ((0 : Int) ≤ y8.int ∧ y8.int < (y0.rows.length : Int)))
    (cond (decide ((Int.toNat y8.int) < y0.rows.length))
    (spec_l15Bend m (T.l y9.rows) y10 y11 ((y0.rows.getD (Int.toNat y8.int) []).getD 0 dflt) ((y0.rows.getD (Int.toNat y8.int) []).getD 1 dflt) ((y0.rows.getD (Int.toNat y8.int) []).getD 2 dflt) (T.l ((y0.rows.getD (Int.toNat y8.int) []).getD 3 dflt).rows)
    (fun y12 y13 y14 y15 y16 y17 y18 => cond (decide ((0 : Int) ≤ y8.int ∧ y8.int < (y0.rows.length : Int)))
    (cond (decide ((Int.toNat y8.int) < y0.rows.length))
    (k0 (T.l (y0.rows.set (Int.toNat y8.int) (((((y0.rows.getD (Int.toNat y8.int) []).set 0 y12).set 1 y13).set 2 y14).set 3 (T.l y15.rows)))) (T.l y16.rows) y17 y18)
    (.bad))
    (.bad))
    (fun y19 y20 y21 y22 y23 y24 y25 => cond (decide ((0 : Int) ≤ y8.int ∧ y8.int < (y0.rows.length : Int)))
    (cond (decide ((Int.toNat y8.int) < y0.rows.length))
    (k0 (T.l (y0.rows.set (Int.toNat y8.int) (((((y0.rows.getD (Int.toNat y8.int) []).set 0 y19).set 1 y20).set 2 y21).set 3 (T.l y22.rows)))) (T.l y23.rows) y24 y25)
    (.bad))
    (.bad)))
    (.bad))
    (.bad)))
    (k0 (T.l y0.rows) (T.l y5.rows) y6 y7)))
    (k0 (T.l y0.rows) (T.l y1.rows) y2 y3))
noncomputable def spec_l15Any_a : List Arg := [.bx [.fz [.sc (.int .u8)] [], .sc (.int .i64) (.l []), .sc (.int .i64) (.l [])]]
noncomputable def spec_l15Any_w (m : Nat) (vs : List T) (k : Ret → An) : An := spec_l15Any m (vs.headD dflt) (vs.tail.headD dflt) (vs.tail.tail.headD dflt) (fun z0 z1 z2 z3 => k ⟨[.one (.own [2000006, 0, 0] [.sc (.int .i64), .sc (.str), .sc (.str), .sl [.sc (.str)]] [.F, .F, .F, .F] z0.rows)], [[none, none, none]], [some [.fz [.sc (.int .u8)] z1.rows, .sc (.int .i64) z2, .sc (.int .i64) z3]]⟩)
theorem spec_l15Any_cf (m : Nat) : callK CX prims m = (patC 46 spec_l15Draw_a (spec_l15Draw_w m) (patC 47 spec_l1Once_a (spec_l1Once_w m) (patC 48 spec_l1Below_a (spec_l1Below_w m) (patC 49 spec_l15Bend_a (spec_l15Bend_w m) (callK CX prims m))))) := by
  rw [← patC_eq (fun vs k => spec_l15Bend_eq m vs k), ← patC_eq (fun vs k => spec_l1Below_eq m vs k), ← patC_eq (fun vs k => spec_l1Once_eq m vs k), ← patC_eq (fun vs k => spec_l15Draw_eq m vs k)]
noncomputable def spec_l15Any_c : Code := (Try.f33.body).getD .skip
noncomputable def spec_l15Any_fi : Fi := ⟨33, 1, 28, 5⟩
theorem spec_l15Any_eq (m : Nat) : ∀ vs k, callK CX prims m 33 (fArgs spec_l15Any_a vs) k = spec_l15Any_w m vs k := by
  cases m with
  | zero => exact fun vs k => rfl
  | succ m => exact fun vs k => Eq.trans (b := bodyK CX (callK CX prims m) (loopK CX (callK CX prims m) spec_l15Any_fi spec_l15Any_c m) 33 Try.f33 spec_l15Any_c (fArgs spec_l15Any_a vs) k) (by kernel_rfl) ((bodyK_congr (spec_l15Any_cf m) rfl 33 Try.f33 spec_l15Any_c (fArgs spec_l15Any_a vs) k).trans (by kernel_rfl))

/-! loop.example/g00244/spec.DrawChainOk -/
noncomputable def spec_DrawChainOk : Nat → T → (T → An) → An
  | 0, _, _ => .bad
  | m + 1, x0, k0 =>
    spec_l1New m (T.l x0.rows)
    (fun y0 y1 y2 => spec_l15Any m (T.l y0.rows) y1 y2
    (fun y3 y4 y5 y6 => k0 (T.l y3.rows)))
noncomputable def spec_DrawChainOk_a : List Arg := [.one (.fz [.sc (.int .u8)] [])]
noncomputable def spec_DrawChainOk_w (m : Nat) (vs : List T) (k : Ret → An) : An := spec_DrawChainOk m (vs.headD dflt) (fun z0 => k ⟨[.one (.own [2000007, 0, 0] [.sc (.int .i64), .sc (.str), .sc (.str), .sl [.sc (.str)]] [.F, .F, .F, .F] z0.rows)], [[none]], [none]⟩)
theorem spec_DrawChainOk_cf (m : Nat) : callK CX prims m = (patC 32 spec_l1New_a (spec_l1New_w m) (patC 33 spec_l15Any_a (spec_l15Any_w m) (callK CX prims m))) := by
  rw [← patC_eq (fun vs k => spec_l15Any_eq m vs k), ← patC_eq (fun vs k => spec_l1New_eq m vs k)]
noncomputable def spec_DrawChainOk_c : Code := (Try.f18.body).getD .skip
noncomputable def spec_DrawChainOk_fi : Fi := ⟨18, 1, 8, 4⟩
theorem spec_DrawChainOk_eq (m : Nat) : ∀ vs k, callK CX prims m 18 (fArgs spec_DrawChainOk_a vs) k = spec_DrawChainOk_w m vs k := by
  cases m with
  | zero => exact fun vs k => rfl
  | succ m => exact fun vs k => Eq.trans (b := bodyK CX (callK CX prims m) (loopK CX (callK CX prims m) spec_DrawChainOk_fi spec_DrawChainOk_c m) 18 Try.f18 spec_DrawChainOk_c (fArgs spec_DrawChainOk_a vs) k) (by kernel_rfl) ((bodyK_congr (spec_DrawChainOk_cf m) rfl 18 Try.f18 spec_DrawChainOk_c (fArgs spec_DrawChainOk_a vs) k).trans (by kernel_rfl))

/-! loop.example/g00244/impl.prevOf -/
noncomputable def impl_prevOf : Nat → T → (T → An) → An
  | 0, _, _ => .bad
  | m + 1, x0, k0 =>
    cond ((x0.rows.length : Int) == 0)
    (impl_Digest_nil m (T.l [])
    (fun y0 => k0 y0))
    (cond (decide ((0 : Int) ≤ (IntKind.i64.wrap ((x0.rows.length : Int) - 1)) ∧ (IntKind.i64.wrap ((x0.rows.length : Int) - 1)) < (x0.rows.length : Int)))
    (k0 (((x0.rows.getD (Int.toNat (IntKind.i64.wrap ((x0.rows.length : Int) - 1))) []).drop 2).getD 0 dflt))
    (.bad))
noncomputable def impl_prevOf_a : List Arg := [.one (.dz [.sc (.int .i64), .sc (.str), .sc (.str), .sl [.sc (.str)]] [])]
noncomputable def impl_prevOf_w (m : Nat) (vs : List T) (k : Ret → An) : An := impl_prevOf m (vs.headD dflt) (fun z0 => k ⟨[.one (.sc (.str) z0)], [[none]], [none]⟩)
theorem impl_prevOf_cf (m : Nat) : callK CX prims m = (patC 26 impl_Digest_nil_a (impl_Digest_nil_w m) (callK CX prims m)) := by
  rw [← patC_eq (fun vs k => impl_Digest_nil_eq m vs k)]
noncomputable def impl_prevOf_c : Code := (Try.f34.body).getD .skip
noncomputable def impl_prevOf_fi : Fi := ⟨34, 1, 14, 4⟩
theorem impl_prevOf_eq (m : Nat) : ∀ vs k, callK CX prims m 34 (fArgs impl_prevOf_a vs) k = impl_prevOf_w m vs k := by
  cases m with
  | zero => exact fun vs k => rfl
  | succ m => exact fun vs k => Eq.trans (b := bodyK CX (callK CX prims m) (loopK CX (callK CX prims m) impl_prevOf_fi impl_prevOf_c m) 34 Try.f34 impl_prevOf_c (fArgs impl_prevOf_a vs) k) (by kernel_rfl) ((bodyK_congr (impl_prevOf_cf m) rfl 34 Try.f34 impl_prevOf_c (fArgs impl_prevOf_a vs) k).trans (by kernel_rfl))

/-! loop.example/g00244/impl.ChainOk -/
noncomputable def impl_ChainOk_L0_0 (m : Nat) : Nat → T → T → T → T → (T → An) → (T → An) → An
  | 0, _, _, _, _, _, _ => .bad
  | n + 1, x0, x1, x2, x3, k0, k1 =>
    cond (decide (x3.int < x2.int))
    (cond (decide ((0 : Int) ≤ x3.int ∧ x3.int < (x1.rows.length : Int)))
    (impl_SealOk m ((x1.rows.getD (Int.toNat x3.int) []).getD 0 dflt) ((x1.rows.getD (Int.toNat x3.int) []).getD 1 dflt) ((x1.rows.getD (Int.toNat x3.int) []).getD 2 dflt) (T.l ((x1.rows.getD (Int.toNat x3.int) []).getD 3 dflt).rows)
    (fun y0 => cond ((!y0.bool) == false)
    (cond ((((x1.rows.getD (Int.toNat x3.int) []).getD 0 dflt).int != (IntKind.i64.wrap (x3.int + 1))) == false)
    (cond (decide ((0 : Int) ≤ x3.int ∧ x3.int ≤ (x0.rows.length : Int)))
    (cond (decide ((0 : Int) ≤ 0 ∧ 0 ≤ x3.int))
    (impl_prevOf m (T.l (x0.rows.take (Int.toNat x3.int)))
    (fun y1 => cond (!(((x1.rows.getD (Int.toNat x3.int) []).getD 1 dflt).str.toList == y1.str.toList))
    (k0 (T.b false))
    (impl_ChainOk_L0_0 m n x0 x1 x2 (T.i (IntKind.i64.wrap (x3.int + 1))) k0 k1)))
    (.bad))
    (.bad))
    (k0 (T.b false)))
    (k0 (T.b false))))
    (.bad))
    (k1 x0)
noncomputable def impl_ChainOk_s0_0 : Pack := ⟨[(0, .one ⟨.sn [([4000000], 0)], .sl [.sc (.int .i64), .sc (.str), .sc (.str), .sl [.sc (.str)]], .l []⟩), (5, .one ⟨.sn [([4000000], 0)], .sl [.sc (.int .i64), .sc (.str), .sc (.str), .sl [.sc (.str)]], .l []⟩), (6, .one ⟨.sc, .sc (.int .i64), .l []⟩), (7, .one ⟨.sc, .sc (.int .i64), .l []⟩)], [([4000000], .gone)]⟩
noncomputable def impl_ChainOk_e0_0 : Pack := ⟨[(2, .one ⟨.sc, .sc (.bool), .l []⟩)], []⟩
noncomputable def impl_ChainOk_e0_1 : Pack := ⟨[(0, .one ⟨.sn [([4000000], 0)], .sl [.sc (.int .i64), .sc (.str), .sc (.str), .sl [.sc (.str)]], .l []⟩)], [([4000000], .gone)]⟩
noncomputable def impl_ChainOk_L0_0w (m n : Nat) (vs : List T) (k : Ctl → Pack → An) : An := impl_ChainOk_L0_0 m n (vs.headD dflt) (vs.tail.headD dflt) (vs.tail.tail.headD dflt) (vs.tail.tail.tail.headD dflt) (fun z0 => k .ret (fPack impl_ChainOk_e0_0 [z0])) (fun z0 => k (.exit 0) (fPack impl_ChainOk_e0_1 [z0]))
noncomputable def impl_ChainOk : Nat → T → (T → An) → An
  | 0, _, _ => .bad
  | m + 1, x0, k0 =>
    impl_ChainOk_L0_0 m m (T.l x0.rows) (T.l x0.rows) (T.i (x0.rows.length : Int)) (T.i 0)
    (fun y2 => k0 y2)
    (fun y3 => k0 (T.b (decide ((y3.rows.length : Int) ≤ 1000))))
noncomputable def impl_ChainOk_a : List Arg := [.one (.dz [.sc (.int .i64), .sc (.str), .sc (.str), .sl [.sc (.str)]] [])]
noncomputable def impl_ChainOk_w (m : Nat) (vs : List T) (k : Ret → An) : An := impl_ChainOk m (vs.headD dflt) (fun z0 => k ⟨[.one (.sc (.bool) z0)], [[none]], [none]⟩)
theorem impl_ChainOk_cf (m : Nat) : callK CX prims m = (patC 15 impl_SealOk_a (impl_SealOk_w m) (patC 34 impl_prevOf_a (impl_prevOf_w m) (callK CX prims m))) := by
  rw [← patC_eq (fun vs k => impl_prevOf_eq m vs k), ← patC_eq (fun vs k => impl_SealOk_eq m vs k)]
noncomputable def impl_ChainOk_c : Code := (Try.f19.body).getD .skip
noncomputable def impl_ChainOk_fi : Fi := ⟨19, 1, 35, 4⟩
theorem impl_ChainOk_lf (m : Nat) : ∀ n, (∀ vs k, loopK CX (callK CX prims m) impl_ChainOk_fi impl_ChainOk_c n [0, 1, 0, 1] (fPack impl_ChainOk_s0_0 vs) k = impl_ChainOk_L0_0w m n vs k) ∧ ((loopK CX (callK CX prims m) impl_ChainOk_fi impl_ChainOk_c n) = (patL [0, 1, 0, 1] impl_ChainOk_s0_0 (impl_ChainOk_L0_0w m n) (loopK CX (callK CX prims m) impl_ChainOk_fi impl_ChainOk_c n))) := by
  intro n
  have hl : ∀ n, (∀ vs k, loopK CX (callK CX prims m) impl_ChainOk_fi impl_ChainOk_c n [0, 1, 0, 1] (fPack impl_ChainOk_s0_0 vs) k = impl_ChainOk_L0_0w m n vs k) → ((loopK CX (callK CX prims m) impl_ChainOk_fi impl_ChainOk_c n) = (patL [0, 1, 0, 1] impl_ChainOk_s0_0 (impl_ChainOk_L0_0w m n) (loopK CX (callK CX prims m) impl_ChainOk_fi impl_ChainOk_c n))) := by
    intro n h0
    rw [← patL_eq h0]
  induction n with
  | zero => exact ⟨fun vs k => rfl, hl 0 (fun vs k => rfl)⟩
  | succ n ihn =>
    have hn := ihn.2
    have h0 : ∀ vs k, loopK CX (callK CX prims m) impl_ChainOk_fi impl_ChainOk_c (n + 1) [0, 1, 0, 1] (fPack impl_ChainOk_s0_0 vs) k = impl_ChainOk_L0_0w m (n + 1) vs k := fun vs k =>
      (stepL_congr (impl_ChainOk_cf m) hn [0, 1, 0, 1] _ _).trans (by kernel_rfl)
    exact ⟨h0, hl (n + 1) h0⟩
theorem impl_ChainOk_eq (m : Nat) : ∀ vs k, callK CX prims m 19 (fArgs impl_ChainOk_a vs) k = impl_ChainOk_w m vs k := by
  cases m with
  | zero => exact fun vs k => rfl
  | succ m => exact fun vs k => Eq.trans (b := bodyK CX (callK CX prims m) (loopK CX (callK CX prims m) impl_ChainOk_fi impl_ChainOk_c m) 19 Try.f19 impl_ChainOk_c (fArgs impl_ChainOk_a vs) k) (by kernel_rfl) ((bodyK_congr (impl_ChainOk_cf m) ((impl_ChainOk_lf m m).2) 19 Try.f19 impl_ChainOk_c (fArgs impl_ChainOk_a vs) k).trans (by kernel_rfl))

/-! loop.example/g00244/spec.ChainOk -/
noncomputable def spec_ChainOk_L0_0 (m : Nat) : Nat → T → T → (T → An) → (T → An) → An
  | 0, _, _, _, _ => .bad
  | n + 1, x0, x1, k0, k1 =>
    cond (decide (x1.int < (x0.rows.length : Int)))
    (cond (decide ((0 : Int) ≤ x1.int ∧ x1.int < (x0.rows.length : Int)))
    (spec_SealOk m ((x0.rows.getD (Int.toNat x1.int) []).getD 0 dflt) ((x0.rows.getD (Int.toNat x1.int) []).getD 1 dflt) ((x0.rows.getD (Int.toNat x1.int) []).getD 2 dflt) (T.l ((x0.rows.getD (Int.toNat x1.int) []).getD 3 dflt).rows)
    (fun y0 => cond ((!y0.bool) == false)
    (cond (decide ((0 : Int) ≤ x1.int ∧ x1.int < (x0.rows.length : Int)))
    (cond ((((x0.rows.getD (Int.toNat x1.int) []).getD 0 dflt).int != (IntKind.i64.wrap (x1.int + 1))) == false)
    (cond (decide ((0 : Int) ≤ x1.int ∧ x1.int < (x0.rows.length : Int)))
    (cond (decide ((0 : Int) ≤ x1.int ∧ x1.int ≤ (x0.rows.length : Int)))
    (cond (decide ((0 : Int) ≤ 0 ∧ 0 ≤ x1.int))
    (spec_l15Prev m (T.l (x0.rows.take (Int.toNat x1.int)))
    (fun y1 => cond (!((((x0.rows.getD (Int.toNat x1.int) []).drop 1).getD 0 dflt).str.toList == y1.str.toList))
    (k0 (T.b false))
    (spec_ChainOk_L0_0 m n x0 (T.i (IntKind.i64.wrap (x1.int + 1))) k0 k1)))
    (.bad))
    (.bad))
    (.bad))
    (k0 (T.b false)))
    (.bad))
    (k0 (T.b false))))
    (.bad))
    (k1 x0)
noncomputable def spec_ChainOk_s0_0 : Pack := ⟨[(0, .one ⟨.sn [([4000000], 0)], .sl [.sc (.int .i64), .sc (.str), .sc (.str), .sl [.sc (.str)]], .l []⟩), (3, .one ⟨.sc, .sc (.int .i64), .l []⟩)], [([4000000], .gone)]⟩
noncomputable def spec_ChainOk_e0_0 : Pack := ⟨[(2, .one ⟨.sc, .sc (.bool), .l []⟩)], []⟩
noncomputable def spec_ChainOk_e0_1 : Pack := ⟨[(0, .one ⟨.sn [([4000000], 0)], .sl [.sc (.int .i64), .sc (.str), .sc (.str), .sl [.sc (.str)]], .l []⟩)], [([4000000], .gone)]⟩
noncomputable def spec_ChainOk_L0_0w (m n : Nat) (vs : List T) (k : Ctl → Pack → An) : An := spec_ChainOk_L0_0 m n (vs.headD dflt) (vs.tail.headD dflt) (fun z0 => k .ret (fPack spec_ChainOk_e0_0 [z0])) (fun z0 => k (.exit 0) (fPack spec_ChainOk_e0_1 [z0]))
noncomputable def spec_ChainOk : Nat → T → (T → An) → An
  | 0, _, _ => .bad
  | m + 1, x0, k0 =>
    spec_ChainOk_L0_0 m m (T.l x0.rows) (T.i 0)
    (fun y2 => k0 y2)
    (fun y3 => k0 (T.b (decide ((y3.rows.length : Int) ≤ 1000))))
noncomputable def spec_ChainOk_a : List Arg := [.one (.dz [.sc (.int .i64), .sc (.str), .sc (.str), .sl [.sc (.str)]] [])]
noncomputable def spec_ChainOk_w (m : Nat) (vs : List T) (k : Ret → An) : An := spec_ChainOk m (vs.headD dflt) (fun z0 => k ⟨[.one (.sc (.bool) z0)], [[none]], [none]⟩)
theorem spec_ChainOk_cf (m : Nat) : callK CX prims m = (patC 13 spec_SealOk_a (spec_SealOk_w m) (patC 35 spec_l15Prev_a (spec_l15Prev_w m) (callK CX prims m))) := by
  rw [← patC_eq (fun vs k => spec_l15Prev_eq m vs k), ← patC_eq (fun vs k => spec_SealOk_eq m vs k)]
noncomputable def spec_ChainOk_c : Code := (Try.f20.body).getD .skip
noncomputable def spec_ChainOk_fi : Fi := ⟨20, 1, 41, 4⟩
theorem spec_ChainOk_lf (m : Nat) : ∀ n, (∀ vs k, loopK CX (callK CX prims m) spec_ChainOk_fi spec_ChainOk_c n [0, 1, 0, 1] (fPack spec_ChainOk_s0_0 vs) k = spec_ChainOk_L0_0w m n vs k) ∧ ((loopK CX (callK CX prims m) spec_ChainOk_fi spec_ChainOk_c n) = (patL [0, 1, 0, 1] spec_ChainOk_s0_0 (spec_ChainOk_L0_0w m n) (loopK CX (callK CX prims m) spec_ChainOk_fi spec_ChainOk_c n))) := by
  intro n
  have hl : ∀ n, (∀ vs k, loopK CX (callK CX prims m) spec_ChainOk_fi spec_ChainOk_c n [0, 1, 0, 1] (fPack spec_ChainOk_s0_0 vs) k = spec_ChainOk_L0_0w m n vs k) → ((loopK CX (callK CX prims m) spec_ChainOk_fi spec_ChainOk_c n) = (patL [0, 1, 0, 1] spec_ChainOk_s0_0 (spec_ChainOk_L0_0w m n) (loopK CX (callK CX prims m) spec_ChainOk_fi spec_ChainOk_c n))) := by
    intro n h0
    rw [← patL_eq h0]
  induction n with
  | zero => exact ⟨fun vs k => rfl, hl 0 (fun vs k => rfl)⟩
  | succ n ihn =>
    have hn := ihn.2
    have h0 : ∀ vs k, loopK CX (callK CX prims m) spec_ChainOk_fi spec_ChainOk_c (n + 1) [0, 1, 0, 1] (fPack spec_ChainOk_s0_0 vs) k = spec_ChainOk_L0_0w m (n + 1) vs k := fun vs k =>
      (stepL_congr (spec_ChainOk_cf m) hn [0, 1, 0, 1] _ _).trans (by kernel_rfl)
    exact ⟨h0, hl (n + 1) h0⟩
theorem spec_ChainOk_eq (m : Nat) : ∀ vs k, callK CX prims m 20 (fArgs spec_ChainOk_a vs) k = spec_ChainOk_w m vs k := by
  cases m with
  | zero => exact fun vs k => rfl
  | succ m => exact fun vs k => Eq.trans (b := bodyK CX (callK CX prims m) (loopK CX (callK CX prims m) spec_ChainOk_fi spec_ChainOk_c m) 20 Try.f20 spec_ChainOk_c (fArgs spec_ChainOk_a vs) k) (by kernel_rfl) ((bodyK_congr (spec_ChainOk_cf m) ((spec_ChainOk_lf m m).2) 20 Try.f20 spec_ChainOk_c (fArgs spec_ChainOk_a vs) k).trans (by kernel_rfl))

/-! loop.example/g00244/laws.FnChains -/
noncomputable def laws_FnChains_L0_0 (m : Nat) : Nat → T → T → T → (T → An) → An → An
  | 0, _, _, _, _, _ => .bad
  | n + 1, x0, x1, x2, k0, k1 =>
    cond (decide (x1.int < (x2.rows.length : Int)))
    (cond (decide ((0 : Int) ≤ x1.int ∧ x1.int < (x2.rows.length : Int)))
    (cond (decide ((Int.toNat x1.int) < x2.rows.length))
    (impl_SealOk m ((x2.rows.getD (Int.toNat x1.int) []).getD 0 dflt) ((x2.rows.getD (Int.toNat x1.int) []).getD 1 dflt) ((x2.rows.getD (Int.toNat x1.int) []).getD 2 dflt) (T.l ((x2.rows.getD (Int.toNat x1.int) []).getD 3 dflt).rows)
    (fun y4 => spec_SealOk m ((x2.rows.getD (Int.toNat x1.int) []).getD 0 dflt) ((x2.rows.getD (Int.toNat x1.int) []).getD 1 dflt) ((x2.rows.getD (Int.toNat x1.int) []).getD 2 dflt) (T.l ((x2.rows.getD (Int.toNat x1.int) []).getD 3 dflt).rows)
    (fun y5 => cond ((!(y4.bool == y5.bool)) == false)
    (cond (x0.bool == true)
    (impl_SealOk m ((x2.rows.getD (Int.toNat x1.int) []).getD 0 dflt) ((x2.rows.getD (Int.toNat x1.int) []).getD 1 dflt) ((x2.rows.getD (Int.toNat x1.int) []).getD 2 dflt) (T.l ((x2.rows.getD (Int.toNat x1.int) []).getD 3 dflt).rows)
    (fun y6 => cond ((!y6.bool) == false)
    (impl_SuperOf m ((x2.rows.getD (Int.toNat x1.int) []).getD 0 dflt) ((x2.rows.getD (Int.toNat x1.int) []).getD 1 dflt) (T.l ((x2.rows.getD (Int.toNat x1.int) []).getD 3 dflt).rows)
    (fun y7 => cond ((!(((x2.rows.getD (Int.toNat x1.int) []).getD 2 dflt).str.toList == y7.str.toList)) == false)
    (cond (decide ((0 : Int) ≤ x1.int ∧ x1.int ≤ (x2.rows.length : Int)))
    (cond (decide ((0 : Int) ≤ 0 ∧ 0 ≤ x1.int))
    (impl_ChainOk m (T.l (x2.rows.take (Int.toNat x1.int)))
    (fun y8 => cond (!y8.bool)
    (k0 (T.b false))
    (laws_FnChains_L0_0 m n x0 (T.i (IntKind.i64.wrap (x1.int + 1))) (T.l x2.rows) k0 k1)))
    (.bad))
    (.bad))
    (k0 (T.b false))))
    (k0 (T.b false))))
    (laws_FnChains_L0_0 m n x0 (T.i (IntKind.i64.wrap (x1.int + 1))) (T.l x2.rows) k0 k1))
    (k0 (T.b false)))))
    (.bad))
    (.bad))
    (k1 )
noncomputable def laws_FnChains_s0_0 : Pack := ⟨[(3, .one ⟨.al [1000000, 0] 0, .sl [.sc (.int .i64), .sc (.str), .sc (.str), .sl [.sc (.str)]], .l []⟩), (4, .one ⟨.sc, .sc (.bool), .l []⟩), (5, .one ⟨.sc, .sc (.int .i64), .l []⟩)], [([1000000, 0], .row [.sc (.int .i64), .sc (.str), .sc (.str), .sl [.sc (.str)]] [.F, .F, .F, .F] [])]⟩
noncomputable def laws_FnChains_e0_0 : Pack := ⟨[(2, .one ⟨.sc, .sc (.bool), .l []⟩)], []⟩
noncomputable def laws_FnChains_e0_1 : Pack := ⟨[], []⟩
noncomputable def laws_FnChains_L0_0w (m n : Nat) (vs : List T) (k : Ctl → Pack → An) : An := laws_FnChains_L0_0 m n (vs.headD dflt) (vs.tail.headD dflt) (vs.tail.tail.headD dflt) (fun z0 => k .ret (fPack laws_FnChains_e0_0 [z0])) (k (.exit 0) (fPack laws_FnChains_e0_1 []))
noncomputable def laws_FnChains : Nat → T → (T → An) → An
  | 0, _, _ => .bad
  | m + 1, x0, k0 =>
    laws_big m (T.l x0.rows)
    (fun y0 => cond y0.bool
    (k0 (T.b true))
    (spec_DrawChainOk m (T.l x0.rows)
    (fun y1 => impl_ChainOk m (T.l y1.rows)
    (fun y2 => spec_ChainOk m (T.l y1.rows)
    (fun y3 => cond (!(y2.bool == y3.bool))
    (k0 (T.b false))
    (laws_FnChains_L0_0 m m y2 (T.i 0) (T.l y1.rows)
    (fun y9 => k0 y9)
    (impl_ChainOk m (T.l [])
    (fun y10 => k0 y10))))))))
noncomputable def laws_FnChains_a : List Arg := [.one (.fz [.sc (.int .u8)] [])]
noncomputable def laws_FnChains_w (m : Nat) (vs : List T) (k : Ret → An) : An := laws_FnChains m (vs.headD dflt) (fun z0 => k ⟨[.one (.sc (.bool) z0)], [[none]], [none]⟩)
theorem laws_FnChains_cf (m : Nat) : callK CX prims m = (patC 17 laws_big_a (laws_big_w m) (patC 18 spec_DrawChainOk_a (spec_DrawChainOk_w m) (patC 19 impl_ChainOk_a (impl_ChainOk_w m) (patC 20 spec_ChainOk_a (spec_ChainOk_w m) (patC 15 impl_SealOk_a (impl_SealOk_w m) (patC 13 spec_SealOk_a (spec_SealOk_w m) (patC 10 impl_SuperOf_a (impl_SuperOf_w m) (callK CX prims m)))))))) := by
  rw [← patC_eq (fun vs k => impl_SuperOf_eq m vs k), ← patC_eq (fun vs k => spec_SealOk_eq m vs k), ← patC_eq (fun vs k => impl_SealOk_eq m vs k), ← patC_eq (fun vs k => spec_ChainOk_eq m vs k), ← patC_eq (fun vs k => impl_ChainOk_eq m vs k), ← patC_eq (fun vs k => spec_DrawChainOk_eq m vs k), ← patC_eq (fun vs k => laws_big_eq m vs k)]
noncomputable def laws_FnChains_c : Code := (Try.f5.body).getD .skip
noncomputable def laws_FnChains_fi : Fi := ⟨5, 1, 61, 4⟩
theorem laws_FnChains_lf (m : Nat) : ∀ n, (∀ vs k, loopK CX (callK CX prims m) laws_FnChains_fi laws_FnChains_c n [0, 1, 0, 1, 1, 1, 1, 1] (fPack laws_FnChains_s0_0 vs) k = laws_FnChains_L0_0w m n vs k) ∧ ((loopK CX (callK CX prims m) laws_FnChains_fi laws_FnChains_c n) = (patL [0, 1, 0, 1, 1, 1, 1, 1] laws_FnChains_s0_0 (laws_FnChains_L0_0w m n) (loopK CX (callK CX prims m) laws_FnChains_fi laws_FnChains_c n))) := by
  intro n
  have hl : ∀ n, (∀ vs k, loopK CX (callK CX prims m) laws_FnChains_fi laws_FnChains_c n [0, 1, 0, 1, 1, 1, 1, 1] (fPack laws_FnChains_s0_0 vs) k = laws_FnChains_L0_0w m n vs k) → ((loopK CX (callK CX prims m) laws_FnChains_fi laws_FnChains_c n) = (patL [0, 1, 0, 1, 1, 1, 1, 1] laws_FnChains_s0_0 (laws_FnChains_L0_0w m n) (loopK CX (callK CX prims m) laws_FnChains_fi laws_FnChains_c n))) := by
    intro n h0
    rw [← patL_eq h0]
  induction n with
  | zero => exact ⟨fun vs k => rfl, hl 0 (fun vs k => rfl)⟩
  | succ n ihn =>
    have hn := ihn.2
    have h0 : ∀ vs k, loopK CX (callK CX prims m) laws_FnChains_fi laws_FnChains_c (n + 1) [0, 1, 0, 1, 1, 1, 1, 1] (fPack laws_FnChains_s0_0 vs) k = laws_FnChains_L0_0w m (n + 1) vs k := fun vs k =>
      (stepL_congr (laws_FnChains_cf m) hn [0, 1, 0, 1, 1, 1, 1, 1] _ _).trans (by kernel_rfl)
    exact ⟨h0, hl (n + 1) h0⟩
theorem laws_FnChains_eq (m : Nat) : ∀ vs k, callK CX prims m 5 (fArgs laws_FnChains_a vs) k = laws_FnChains_w m vs k := by
  cases m with
  | zero => exact fun vs k => rfl
  | succ m => exact fun vs k => Eq.trans (b := bodyK CX (callK CX prims m) (loopK CX (callK CX prims m) laws_FnChains_fi laws_FnChains_c m) 5 Try.f5 laws_FnChains_c (fArgs laws_FnChains_a vs) k) (by kernel_rfl) ((bodyK_congr (laws_FnChains_cf m) ((laws_FnChains_lf m m).2) 5 Try.f5 laws_FnChains_c (fArgs laws_FnChains_a vs) k).trans (by kernel_rfl))

/-! loop.example/g00244/laws.szSealS -/
noncomputable def laws_szSealS_L0_0 (m : Nat) : Nat → T → T → T → (T → An) → (T → An) → An
  | 0, _, _, _, _, _ => .bad
  | n + 1, x0, x1, x2, k0, k1 =>
    cond (decide (x2.int < (x0.rows.length : Int)))
    (cond (decide ((0 : Int) ≤ x2.int ∧ x2.int < (x0.rows.length : Int)))
    (laws_szSeal m ((x0.rows.getD (Int.toNat x2.int) []).getD 0 dflt) ((x0.rows.getD (Int.toNat x2.int) []).getD 1 dflt) ((x0.rows.getD (Int.toNat x2.int) []).getD 2 dflt) (T.l ((x0.rows.getD (Int.toNat x2.int) []).getD 3 dflt).rows) x1
    (fun y0 => cond (decide (y0.int < 0))
    (k0 (T.i (-1)))
    (laws_szSealS_L0_0 m n x0 y0 (T.i (IntKind.i64.wrap (x2.int + 1))) k0 k1)))
    (.bad))
    (k1 x1)
noncomputable def laws_szSealS_s0_0 : Pack := ⟨[(0, .one ⟨.sn [([4000000], 0)], .sl [.sc (.int .i64), .sc (.str), .sc (.str), .sl [.sc (.str)]], .l []⟩), (1, .one ⟨.sc, .sc (.int .i64), .l []⟩), (5, .one ⟨.sc, .sc (.int .i64), .l []⟩)], [([4000000], .gone)]⟩
noncomputable def laws_szSealS_e0_0 : Pack := ⟨[(4, .one ⟨.sc, .sc (.int .i64), .l []⟩)], []⟩
noncomputable def laws_szSealS_e0_1 : Pack := ⟨[(1, .one ⟨.sc, .sc (.int .i64), .l []⟩)], []⟩
noncomputable def laws_szSealS_L0_0w (m n : Nat) (vs : List T) (k : Ctl → Pack → An) : An := laws_szSealS_L0_0 m n (vs.headD dflt) (vs.tail.headD dflt) (vs.tail.tail.headD dflt) (fun z0 => k .ret (fPack laws_szSealS_e0_0 [z0])) (fun z0 => k (.exit 0) (fPack laws_szSealS_e0_1 [z0]))
noncomputable def laws_szSealS : Nat → T → T → (T → An) → An
  | 0, _, _, _ => .bad
  | m + 1, x0, x1, k0 =>
    cond (decide ((IntKind.i64.wrap (x1.int - (x0.rows.length : Int))) < 0))
    (k0 (T.i (-1)))
    (laws_szSealS_L0_0 m m (T.l x0.rows) (T.i (IntKind.i64.wrap (x1.int - (x0.rows.length : Int)))) (T.i 0)
    (fun y1 => k0 y1)
    (fun y2 => k0 y2))
noncomputable def laws_szSealS_a : List Arg := [.one (.dz [.sc (.int .i64), .sc (.str), .sc (.str), .sl [.sc (.str)]] []), .one (.sc (.int .i64) (.l []))]
noncomputable def laws_szSealS_w (m : Nat) (vs : List T) (k : Ret → An) : An := laws_szSealS m (vs.headD dflt) (vs.tail.headD dflt) (fun z0 => k ⟨[.one (.sc (.int .i64) z0)], [[none], [none]], [none, none]⟩)
theorem laws_szSealS_cf (m : Nat) : callK CX prims m = (patC 12 laws_szSeal_a (laws_szSeal_w m) (callK CX prims m)) := by
  rw [← patC_eq (fun vs k => laws_szSeal_eq m vs k)]
noncomputable def laws_szSealS_c : Code := (Try.f21.body).getD .skip
noncomputable def laws_szSealS_fi : Fi := ⟨21, 2, 27, 16⟩
theorem laws_szSealS_lf (m : Nat) : ∀ n, (∀ vs k, loopK CX (callK CX prims m) laws_szSealS_fi laws_szSealS_c n [0, 1, 0, 1, 1, 1] (fPack laws_szSealS_s0_0 vs) k = laws_szSealS_L0_0w m n vs k) ∧ ((loopK CX (callK CX prims m) laws_szSealS_fi laws_szSealS_c n) = (patL [0, 1, 0, 1, 1, 1] laws_szSealS_s0_0 (laws_szSealS_L0_0w m n) (loopK CX (callK CX prims m) laws_szSealS_fi laws_szSealS_c n))) := by
  intro n
  have hl : ∀ n, (∀ vs k, loopK CX (callK CX prims m) laws_szSealS_fi laws_szSealS_c n [0, 1, 0, 1, 1, 1] (fPack laws_szSealS_s0_0 vs) k = laws_szSealS_L0_0w m n vs k) → ((loopK CX (callK CX prims m) laws_szSealS_fi laws_szSealS_c n) = (patL [0, 1, 0, 1, 1, 1] laws_szSealS_s0_0 (laws_szSealS_L0_0w m n) (loopK CX (callK CX prims m) laws_szSealS_fi laws_szSealS_c n))) := by
    intro n h0
    rw [← patL_eq h0]
  induction n with
  | zero => exact ⟨fun vs k => rfl, hl 0 (fun vs k => rfl)⟩
  | succ n ihn =>
    have hn := ihn.2
    have h0 : ∀ vs k, loopK CX (callK CX prims m) laws_szSealS_fi laws_szSealS_c (n + 1) [0, 1, 0, 1, 1, 1] (fPack laws_szSealS_s0_0 vs) k = laws_szSealS_L0_0w m (n + 1) vs k := fun vs k =>
      (stepL_congr (laws_szSealS_cf m) hn [0, 1, 0, 1, 1, 1] _ _).trans (by kernel_rfl)
    exact ⟨h0, hl (n + 1) h0⟩
theorem laws_szSealS_eq (m : Nat) : ∀ vs k, callK CX prims m 21 (fArgs laws_szSealS_a vs) k = laws_szSealS_w m vs k := by
  cases m with
  | zero => exact fun vs k => rfl
  | succ m => exact fun vs k => Eq.trans (b := bodyK CX (callK CX prims m) (loopK CX (callK CX prims m) laws_szSealS_fi laws_szSealS_c m) 21 Try.f21 laws_szSealS_c (fArgs laws_szSealS_a vs) k) (by kernel_rfl) ((bodyK_congr (laws_szSealS_cf m) ((laws_szSealS_lf m m).2) 21 Try.f21 laws_szSealS_c (fArgs laws_szSealS_a vs) k).trans (by kernel_rfl))

/-! loop.example/g00244/laws.toSealS -/
noncomputable def laws_toSealS_L0_0 (m : Nat) : Nat → T → T → T → (T → An) → An
  | 0, _, _, _, _ => .bad
  | n + 1, x0, x1, x2, k0 =>
    cond (decide (x1.int < (x0.rows.length : Int)))
    (cond (decide ((0 : Int) ≤ x1.int ∧ x1.int < (x0.rows.length : Int)))
    (laws_toSeal m ((x0.rows.getD (Int.toNat x1.int) []).getD 0 dflt) ((x0.rows.getD (Int.toNat x1.int) []).getD 1 dflt) ((x0.rows.getD (Int.toNat x1.int) []).getD 2 dflt) (T.l ((x0.rows.getD (Int.toNat x1.int) []).getD 3 dflt).rows)
    (fun y0 y1 y2 y3 => cond (decide ((0 : Int) ≤ x1.int ∧ x1.int < (x2.rows.length : Int)))
    (cond (decide ((Int.toNat x1.int) < x2.rows.length))
    (laws_toSealS_L0_0 m n x0 (T.i (IntKind.i64.wrap (x1.int + 1))) (T.l (x2.rows.set (Int.toNat x1.int) (((((x2.rows.getD (Int.toNat x1.int) []).set 0 y0).set 1 y1).set 2 y2).set 3 (T.l y3.rows)))) k0)
    (.bad))
    (.bad)))
    (.bad))
    (k0 (T.l x2.rows))
noncomputable def laws_toSealS_s0_0 : Pack := ⟨[(0, .one ⟨.sn [([4000000], 0)], .sl [.sc (.int .i64), .sc (.str), .sc (.str), .sl [.sc (.str)]], .l []⟩), (3, .one ⟨.al [1000000, 1] 0, .sl [.sc (.int .i64), .sc (.str), .sc (.str), .sl [.sc (.str)]], .l []⟩), (4, .one ⟨.sc, .sc (.int .i64), .l []⟩)], [([4000000], .gone), ([1000000, 1], .row [.sc (.int .i64), .sc (.str), .sc (.str), .sl [.sc (.str)]] [.F, .F, .F, .O [.F]] [])]⟩
noncomputable def laws_toSealS_e0_0 : Pack := ⟨[(3, .one ⟨.al [1000000, 0] 0, .sl [.sc (.int .i64), .sc (.str), .sc (.str), .sl [.sc (.str)]], .l []⟩)], [([1000000, 0], .row [.sc (.int .i64), .sc (.str), .sc (.str), .sl [.sc (.str)]] [.F, .F, .F, .O [.F]] [])]⟩
noncomputable def laws_toSealS_L0_0w (m n : Nat) (vs : List T) (k : Ctl → Pack → An) : An := laws_toSealS_L0_0 m n (vs.headD dflt) (vs.tail.headD dflt) (vs.tail.tail.headD dflt) (fun z0 => k (.exit 0) (fPack laws_toSealS_e0_0 [z0]))
noncomputable def laws_toSealS : Nat → T → (T → An) → An
  | 0, _, _ => .bad
  | m + 1, x0, k0 =>
    cond (decide (0 ≤ (x0.rows.length : Int) ∧ (x0.rows.length : Int) ≤ (x0.rows.length : Int)))
    (cond (decide ((x0.rows.length : Int) * ((64 : Nat) : Int) ≤ (maxCells : Int)))
    (laws_toSealS_L0_0 m m (T.l x0.rows) (T.i 0) (T.l (List.replicate (Int.toNat (x0.rows.length : Int)) [(T.i 0), (T.s (⟨#[]⟩ : ByteArray)), (T.s (⟨#[]⟩ : ByteArray)), (T.l [])]))
    (fun y4 => k0 (T.l y4.rows)))
    (.bad))
    (.bad)
noncomputable def laws_toSealS_a : List Arg := [.one (.dz [.sc (.int .i64), .sc (.str), .sc (.str), .sl [.sc (.str)]] [])]
noncomputable def laws_toSealS_w (m : Nat) (vs : List T) (k : Ret → An) : An := laws_toSealS m (vs.headD dflt) (fun z0 => k ⟨[.one (.own [1000000, 0] [.sc (.int .i64), .sc (.str), .sc (.str), .sl [.sc (.str)]] [.F, .F, .F, .O [.F]] z0.rows)], [[none]], [none]⟩)
theorem laws_toSealS_cf (m : Nat) : callK CX prims m = (patC 14 laws_toSeal_a (laws_toSeal_w m) (callK CX prims m)) := by
  rw [← patC_eq (fun vs k => laws_toSeal_eq m vs k)]
noncomputable def laws_toSealS_c : Code := (Try.f22.body).getD .skip
noncomputable def laws_toSealS_fi : Fi := ⟨22, 1, 23, 4⟩
theorem laws_toSealS_lf (m : Nat) : ∀ n, (∀ vs k, loopK CX (callK CX prims m) laws_toSealS_fi laws_toSealS_c n [0, 1, 0, 1, 1] (fPack laws_toSealS_s0_0 vs) k = laws_toSealS_L0_0w m n vs k) ∧ ((loopK CX (callK CX prims m) laws_toSealS_fi laws_toSealS_c n) = (patL [0, 1, 0, 1, 1] laws_toSealS_s0_0 (laws_toSealS_L0_0w m n) (loopK CX (callK CX prims m) laws_toSealS_fi laws_toSealS_c n))) := by
  intro n
  have hl : ∀ n, (∀ vs k, loopK CX (callK CX prims m) laws_toSealS_fi laws_toSealS_c n [0, 1, 0, 1, 1] (fPack laws_toSealS_s0_0 vs) k = laws_toSealS_L0_0w m n vs k) → ((loopK CX (callK CX prims m) laws_toSealS_fi laws_toSealS_c n) = (patL [0, 1, 0, 1, 1] laws_toSealS_s0_0 (laws_toSealS_L0_0w m n) (loopK CX (callK CX prims m) laws_toSealS_fi laws_toSealS_c n))) := by
    intro n h0
    rw [← patL_eq h0]
  induction n with
  | zero => exact ⟨fun vs k => rfl, hl 0 (fun vs k => rfl)⟩
  | succ n ihn =>
    have hn := ihn.2
    have h0 : ∀ vs k, loopK CX (callK CX prims m) laws_toSealS_fi laws_toSealS_c (n + 1) [0, 1, 0, 1, 1] (fPack laws_toSealS_s0_0 vs) k = laws_toSealS_L0_0w m (n + 1) vs k := fun vs k =>
      (stepL_congr (laws_toSealS_cf m) hn [0, 1, 0, 1, 1] _ _).trans (by kernel_rfl)
    exact ⟨h0, hl (n + 1) h0⟩
theorem laws_toSealS_eq (m : Nat) : ∀ vs k, callK CX prims m 22 (fArgs laws_toSealS_a vs) k = laws_toSealS_w m vs k := by
  cases m with
  | zero => exact fun vs k => rfl
  | succ m => exact fun vs k => Eq.trans (b := bodyK CX (callK CX prims m) (loopK CX (callK CX prims m) laws_toSealS_fi laws_toSealS_c m) 22 Try.f22 laws_toSealS_c (fArgs laws_toSealS_a vs) k) (by kernel_rfl) ((bodyK_congr (laws_toSealS_cf m) ((laws_toSealS_lf m m).2) 22 Try.f22 laws_toSealS_c (fArgs laws_toSealS_a vs) k).trans (by kernel_rfl))

/-! loop.example/g00244/laws.eqSealS -/
noncomputable def laws_eqSealS_L0_0 (m : Nat) : Nat → T → T → T → (T → An) → An → An
  | 0, _, _, _, _, _ => .bad
  | n + 1, x0, x1, x2, k0, k1 =>
    cond (decide (x2.int < (x0.rows.length : Int)))
    (cond (decide ((0 : Int) ≤ x2.int ∧ x2.int < (x0.rows.length : Int)))
    (cond (decide ((0 : Int) ≤ x2.int ∧ x2.int < (x1.rows.length : Int)))
    (laws_eqSeal m ((x0.rows.getD (Int.toNat x2.int) []).getD 0 dflt) ((x0.rows.getD (Int.toNat x2.int) []).getD 1 dflt) ((x0.rows.getD (Int.toNat x2.int) []).getD 2 dflt) (T.l ((x0.rows.getD (Int.toNat x2.int) []).getD 3 dflt).rows) ((x1.rows.getD (Int.toNat x2.int) []).getD 0 dflt) ((x1.rows.getD (Int.toNat x2.int) []).getD 1 dflt) ((x1.rows.getD (Int.toNat x2.int) []).getD 2 dflt) (T.l ((x1.rows.getD (Int.toNat x2.int) []).getD 3 dflt).rows)
    (fun y0 => cond (!y0.bool)
    (k0 (T.b false))
    (laws_eqSealS_L0_0 m n x0 x1 (T.i (IntKind.i64.wrap (x2.int + 1))) k0 k1)))
    (.bad))
    (.bad))
    (k1 )
noncomputable def laws_eqSealS_s0_0 : Pack := ⟨[(0, .one ⟨.sn [([4000000], 0)], .sl [.sc (.int .i64), .sc (.str), .sc (.str), .sl [.sc (.str)]], .l []⟩), (1, .one ⟨.sn [([4000000], 0)], .sl [.sc (.int .i64), .sc (.str), .sc (.str), .sl [.sc (.str)]], .l []⟩), (5, .one ⟨.sc, .sc (.int .i64), .l []⟩)], [([4000000], .gone)]⟩
noncomputable def laws_eqSealS_e0_0 : Pack := ⟨[(4, .one ⟨.sc, .sc (.bool), .l []⟩)], []⟩
noncomputable def laws_eqSealS_e0_1 : Pack := ⟨[], []⟩
noncomputable def laws_eqSealS_L0_0w (m n : Nat) (vs : List T) (k : Ctl → Pack → An) : An := laws_eqSealS_L0_0 m n (vs.headD dflt) (vs.tail.headD dflt) (vs.tail.tail.headD dflt) (fun z0 => k .ret (fPack laws_eqSealS_e0_0 [z0])) (k (.exit 0) (fPack laws_eqSealS_e0_1 []))
noncomputable def laws_eqSealS : Nat → T → T → (T → An) → An
  | 0, _, _, _ => .bad
  | m + 1, x0, x1, k0 =>
    cond ((x0.rows.length : Int) != (x1.rows.length : Int))
    (k0 (T.b false))
    (laws_eqSealS_L0_0 m m (T.l x0.rows) (T.l x1.rows) (T.i 0)
    (fun y1 => k0 y1)
    (k0 (T.b true)))
noncomputable def laws_eqSealS_a : List Arg := [.one (.dz [.sc (.int .i64), .sc (.str), .sc (.str), .sl [.sc (.str)]] []), .one (.dz [.sc (.int .i64), .sc (.str), .sc (.str), .sl [.sc (.str)]] [])]
noncomputable def laws_eqSealS_w (m : Nat) (vs : List T) (k : Ret → An) : An := laws_eqSealS m (vs.headD dflt) (vs.tail.headD dflt) (fun z0 => k ⟨[.one (.sc (.bool) z0)], [[none], [none]], [none, none]⟩)
theorem laws_eqSealS_cf (m : Nat) : callK CX prims m = (patC 16 laws_eqSeal_a (laws_eqSeal_w m) (callK CX prims m)) := by
  rw [← patC_eq (fun vs k => laws_eqSeal_eq m vs k)]
noncomputable def laws_eqSealS_c : Code := (Try.f23.body).getD .skip
noncomputable def laws_eqSealS_fi : Fi := ⟨23, 2, 27, 16⟩
theorem laws_eqSealS_lf (m : Nat) : ∀ n, (∀ vs k, loopK CX (callK CX prims m) laws_eqSealS_fi laws_eqSealS_c n [0, 1, 0, 1, 1] (fPack laws_eqSealS_s0_0 vs) k = laws_eqSealS_L0_0w m n vs k) ∧ ((loopK CX (callK CX prims m) laws_eqSealS_fi laws_eqSealS_c n) = (patL [0, 1, 0, 1, 1] laws_eqSealS_s0_0 (laws_eqSealS_L0_0w m n) (loopK CX (callK CX prims m) laws_eqSealS_fi laws_eqSealS_c n))) := by
  intro n
  have hl : ∀ n, (∀ vs k, loopK CX (callK CX prims m) laws_eqSealS_fi laws_eqSealS_c n [0, 1, 0, 1, 1] (fPack laws_eqSealS_s0_0 vs) k = laws_eqSealS_L0_0w m n vs k) → ((loopK CX (callK CX prims m) laws_eqSealS_fi laws_eqSealS_c n) = (patL [0, 1, 0, 1, 1] laws_eqSealS_s0_0 (laws_eqSealS_L0_0w m n) (loopK CX (callK CX prims m) laws_eqSealS_fi laws_eqSealS_c n))) := by
    intro n h0
    rw [← patL_eq h0]
  induction n with
  | zero => exact ⟨fun vs k => rfl, hl 0 (fun vs k => rfl)⟩
  | succ n ihn =>
    have hn := ihn.2
    have h0 : ∀ vs k, loopK CX (callK CX prims m) laws_eqSealS_fi laws_eqSealS_c (n + 1) [0, 1, 0, 1, 1] (fPack laws_eqSealS_s0_0 vs) k = laws_eqSealS_L0_0w m (n + 1) vs k := fun vs k =>
      (stepL_congr (laws_eqSealS_cf m) hn [0, 1, 0, 1, 1] _ _).trans (by kernel_rfl)
    exact ⟨h0, hl (n + 1) h0⟩
theorem laws_eqSealS_eq (m : Nat) : ∀ vs k, callK CX prims m 23 (fArgs laws_eqSealS_a vs) k = laws_eqSealS_w m vs k := by
  cases m with
  | zero => exact fun vs k => rfl
  | succ m => exact fun vs k => Eq.trans (b := bodyK CX (callK CX prims m) (loopK CX (callK CX prims m) laws_eqSealS_fi laws_eqSealS_c m) 23 Try.f23 laws_eqSealS_c (fArgs laws_eqSealS_a vs) k) (by kernel_rfl) ((bodyK_congr (laws_eqSealS_cf m) ((laws_eqSealS_lf m m).2) 23 Try.f23 laws_eqSealS_c (fArgs laws_eqSealS_a vs) k).trans (by kernel_rfl))

/-! loop.example/g00244/laws.FnExactChainOk -/
noncomputable def laws_FnExactChainOk : Nat → T → (T → An) → An
  | 0, _, _ => .bad
  | m + 1, x0, k0 =>
    laws_szSealS m (T.l x0.rows) (T.i 1048576)
    (fun y0 => cond (decide (y0.int < 0))
    (k0 (T.b true))
    (laws_toSealS m (T.l x0.rows)
    (fun y1 => spec_ChainOk m (T.l y1.rows)
    (fun y2 => laws_toSealS m (T.l x0.rows)
    (fun y3 => impl_ChainOk m (T.l y3.rows)
    (fun y4 => cond (!(y4.bool == y2.bool))
    (k0 (T.b false))
    (laws_toSealS m (T.l x0.rows)
    (fun y5 => laws_eqSealS m (T.l y3.rows) (T.l y5.rows)
    (fun y6 => cond (!y6.bool)
    (k0 (T.b false))
    (k0 (T.b true)))))))))))
noncomputable def laws_FnExactChainOk_a : List Arg := [.one (.fz [.sc (.int .i64), .sc (.str), .sc (.str), .sl [.sc (.str)]] [])]
noncomputable def laws_FnExactChainOk_w (m : Nat) (vs : List T) (k : Ret → An) : An := laws_FnExactChainOk m (vs.headD dflt) (fun z0 => k ⟨[.one (.sc (.bool) z0)], [[none]], [none]⟩)
theorem laws_FnExactChainOk_cf (m : Nat) : callK CX prims m = (patC 21 laws_szSealS_a (laws_szSealS_w m) (patC 22 laws_toSealS_a (laws_toSealS_w m) (patC 20 spec_ChainOk_a (spec_ChainOk_w m) (patC 19 impl_ChainOk_a (impl_ChainOk_w m) (patC 23 laws_eqSealS_a (laws_eqSealS_w m) (callK CX prims m)))))) := by
  rw [← patC_eq (fun vs k => laws_eqSealS_eq m vs k), ← patC_eq (fun vs k => impl_ChainOk_eq m vs k), ← patC_eq (fun vs k => spec_ChainOk_eq m vs k), ← patC_eq (fun vs k => laws_toSealS_eq m vs k), ← patC_eq (fun vs k => laws_szSealS_eq m vs k)]
noncomputable def laws_FnExactChainOk_c : Code := (Try.f6.body).getD .skip
noncomputable def laws_FnExactChainOk_fi : Fi := ⟨6, 1, 27, 4⟩
theorem laws_FnExactChainOk_eq (m : Nat) : ∀ vs k, callK CX prims m 6 (fArgs laws_FnExactChainOk_a vs) k = laws_FnExactChainOk_w m vs k := by
  cases m with
  | zero => exact fun vs k => rfl
  | succ m => exact fun vs k => Eq.trans (b := bodyK CX (callK CX prims m) (loopK CX (callK CX prims m) laws_FnExactChainOk_fi laws_FnExactChainOk_c m) 6 Try.f6 laws_FnExactChainOk_c (fArgs laws_FnExactChainOk_a vs) k) (by kernel_rfl) ((bodyK_congr (laws_FnExactChainOk_cf m) rfl 6 Try.f6 laws_FnExactChainOk_c (fArgs laws_FnExactChainOk_a vs) k).trans (by kernel_rfl))

end Go.Proofs.Ytdnejilapfmnlaa

