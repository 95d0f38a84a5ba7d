/- A part of the proof: texts WQ, WA, WW: see the last part's opening words. -/
import Derived.Test.YtjjonejgbdbnjaaGreatP
import Derived.Test.YtjjonejgbdbnjaaGreatRows
import Derived.JoinedCond
import Derived.OpenShut
set_option linter.unusedVariables false
set_option linter.unusedSimpArgs false
set_option linter.unnecessarySimpa false
namespace Go.Proofs.YtjjonejgbdbnjaaGreat
open Go Go.E Go.Proofs
abbrev BA := ByteArray
theorem bv255 (x : BitVec IntKind.i64.bits) : ∃ r : Int, bvBack .i64 (x &&& BitVec.ofInt IntKind.i64.bits 255) = .i r ∧ 0 ≤ r ∧ r ≤ 255 := by
  have h : (x &&& BitVec.ofInt IntKind.i64.bits 255).toNat ≤ 255 := by
    rw [BitVec.toNat_and]
    exact Nat.le_trans Nat.and_le_right (Nat.le_of_eq rfl)
  refine ⟨((x &&& BitVec.ofInt IntKind.i64.bits 255).toNat : Int), ?_, by omega, by omega⟩
  unfold bvBack
  rw [wrap_i64 (by omega) (by omega)]
/-- where a cursor stands: within its bytes -/
def At (b : List (List T)) (i : Int) : Prop := 0 ≤ i ∧ i ≤ b.length ∧ b.length ≤ 1048576
theorem l1Byte_ok {m : Nat} (hm : 1 ≤ m) {b : List (List T)} {i : Int} (h : At b i) (x : T) :
    ∃ (r i' : Int) (x' : T), 0 ≤ r ∧ r ≤ 255 ∧ At b i' ∧ ∀ k, spec_l1Byte m (.l b) (.i i) x k = k (.i r) (.l b) (.i i') x' := by
  obtain ⟨m, rfl⟩ : ∃ m', m = m' + 1 := ⟨m - 1, by omega⟩
  obtain ⟨h1, h2, h3⟩ := h
  by_cases hi : i < b.length
  · obtain ⟨r, hr, r1, r2⟩ := bv255 (BitVec.ofInt IntKind.i64.bits (IntKind.i64.wrap ((bvBack .i64 (BitVec.ofInt IntKind.i64.bits (bvBack .i64 (BitVec.ofInt IntKind.i64.bits (Int.fdiv (IntKind.i64.wrap ((IntKind.i64.wrap (x.int * 6364136223846793005)) + 1442695040888963407)) (2 ^ (min (Int.toNat 33) IntKind.i64.bits))) ^^^ BitVec.ofInt IntKind.i64.bits (Int.fdiv (IntKind.i64.wrap ((IntKind.i64.wrap (x.int * 6364136223846793005)) + 1442695040888963407)) (2 ^ (min (Int.toNat 47) IntKind.i64.bits))))).int &&& BitVec.ofInt IntKind.i64.bits 255)).int + (IntKind.i64.wrap ((b.getD (Int.toNat i) []).getD 0 dflt).int))))
    refine ⟨r, i + 1, T.i (IntKind.i64.wrap ((IntKind.i64.wrap (x.int * 6364136223846793005)) + 1442695040888963407)), r1, r2, ⟨by omega, by omega, h3⟩, fun k => ?_⟩
    simp only [spec_l1Byte, T.int_i, T.rows_l]
    rw [dec_t hi, dec_t ⟨h1, hi⟩, hr, wrap_i64 (x := i + 1) (by omega) (by omega)]
  · obtain ⟨r, hr, r1, r2⟩ := bv255 (BitVec.ofInt IntKind.i64.bits (bvBack .i64 (BitVec.ofInt IntKind.i64.bits (Int.fdiv (IntKind.i64.wrap ((IntKind.i64.wrap (x.int * 6364136223846793005)) + 1442695040888963407)) (2 ^ (min (Int.toNat 33) IntKind.i64.bits))) ^^^ BitVec.ofInt IntKind.i64.bits (Int.fdiv (IntKind.i64.wrap ((IntKind.i64.wrap (x.int * 6364136223846793005)) + 1442695040888963407)) (2 ^ (min (Int.toNat 47) IntKind.i64.bits))))).int)
    refine ⟨r, i, T.i (IntKind.i64.wrap ((IntKind.i64.wrap (x.int * 6364136223846793005)) + 1442695040888963407)), r1, r2, ⟨h1, h2, h3⟩, fun k => ?_⟩
    simp only [spec_l1Byte, T.int_i, T.rows_l]
    rw [dec_f hi, hr]
theorem l1Below_ok {m : Nat} (hm : 2 ≤ m) {b : List (List T)} {i : Int} (h : At b i) (x : T) {n : Int} (h1 : 1 ≤ n) (h2 : n ≤ 256) :
    ∃ (r i' : Int) (x' : T), 0 ≤ r ∧ r < n ∧ At b i' ∧ ∀ k, spec_l1Below m (.l b) (.i i) x (.i n) k = k (.i r) (.l b) (.i i') x' := by
  obtain ⟨m, rfl⟩ : ∃ m', m = m' + 1 := ⟨m - 1, by omega⟩
  obtain ⟨r, i', x', r1, r2, hi, hk⟩ := l1Byte_ok (m := m) (by omega) h x
  refine ⟨Int.tmod r n, i', x', Int.tmod_nonneg _ r1, Int.tmod_lt_of_pos _ (by omega), hi, fun k => ?_⟩
  simp only [spec_l1Below, T.int_i, T.rows_l]
  rw [dec_f (by omega), dec_t h2, hk]
  simp only [T.int_i, T.rows_l]
  rw [show (!decide (n = 0)) = true from by simp; omega, cond_true]
theorem l1New_loop (m : Nat) (b : List (List T)) (hb : b.length ≤ 1048576) : ∀ (j : Nat) (i : Int) (x : T) (n : Nat), 0 ≤ i → (b.length : Int) - i ≤ j → j < n → ∃ x', ∀ k, spec_l1New_L0_0 m n (.l b) x (.i i) k = k (.l b) x'
  | j, i, x, 0, h0, hj, hn => by omega
  | j, i, x, n + 1, h0, hj, hn => by
    by_cases h1 : i < b.length
    · by_cases h2 : i < 4000
      · match j, hj, hn with
        | 0, hj, hn => omega
        | j + 1, hj, hn =>
        obtain ⟨x', hx⟩ := l1New_loop m b hb j (i + 1) (bvBack .i64 (BitVec.ofInt IntKind.i64.bits (IntKind.i64.wrap ((IntKind.i64.wrap ((IntKind.i64.wrap (x.int * 137)) + (IntKind.i64.wrap ((b.getD (Int.toNat i) []).getD 0 dflt).int))) + 11)) &&& BitVec.ofInt IntKind.i64.bits 1073741823)) n (by omega) (by omega) (by omega)
        refine ⟨x', fun k => ?_⟩
        simp only [spec_l1New_L0_0, jn, T.int_i, T.rows_l]
        rw [cond_t (by simp [h1]), dec_t h2, dec_t ⟨h0, h1⟩, wrap_i64 (x := i + 1) (by omega) (by omega)]
        exact hx k
      · refine ⟨x, fun k => ?_⟩
        simp only [spec_l1New_L0_0, jn, T.int_i, T.rows_l]
        rw [cond_t (by simp [h1]), dec_f h2]
    · refine ⟨x, fun k => ?_⟩
      simp only [spec_l1New_L0_0, jn, T.int_i, T.rows_l]
      rw [cond_f (by simp; omega)]
theorem l1New_ok {m : Nat} {b : List (List T)} (hb : b.length ≤ 1048576) (hm : b.length + 2 ≤ m) : ∃ x, ∀ k, spec_l1New m (.l b) k = k (.l b) (.i 0) x := by
  obtain ⟨m, rfl⟩ : ∃ m', m = m' + 1 := ⟨m - 1, by omega⟩
  obtain ⟨x, hx⟩ := l1New_loop m b hb b.length 0 (T.i (IntKind.i64.wrap (381381 + (b.length : Int)))) m (by omega) (by omega) (by omega)
  refine ⟨x, fun k => ?_⟩
  simp only [spec_l1New, T.rows_l]
  exact hx _
theorem l1Int_ok {m : Nat} (hm : 3 ≤ m) {b : List (List T)} {i : Int} (h : At b i) (x : T) (l : List Int) (h1 : 1 ≤ l.length) (h2 : l.length ≤ 256) :
    ∃ (a : Int) (i' : Int) (x' : T), a ∈ l ∧ At b i' ∧ ∀ k, spec_l1Int m (.l b) (.i i) x (.l (l.map fun a => [T.i a])) k = k (.i a) (.l b) (.i i') x' := by
  obtain ⟨m, rfl⟩ : ∃ m', m = m' + 1 := ⟨m - 1, by omega⟩
  obtain ⟨r, i', x', r1, r2, hi, hk⟩ := l1Below_ok (m := m) (by omega) h x (n := l.length) (by omega) (by omega)
  have hlt : r.toNat < l.length := by omega
  refine ⟨l[r.toNat], i', x', List.getElem_mem hlt, hi, fun k => ?_⟩
  simp only [spec_l1Int, T.int_i, T.rows_l, List.length_map]
  rw [hk]
  simp only [T.int_i, T.rows_l]
  rw [dec_t ⟨r1, r2⟩]
  have e : (l.map fun a => [T.i a]).getD r.toNat [] = [T.i l[r.toNat]] := by
    rw [List.getD_eq_getElem?_getD, List.getElem?_map, List.getElem?_eq_getElem hlt]; rfl
  rw [e]; rfl
end Go.Proofs.YtjjonejgbdbnjaaGreat

namespace Go.Proofs.YtjjonejgbdbnjaaGreat
open Go Go.E Go.Proofs
noncomputable def newTail (m : Nat) (y1 : T) (k0 : T → An) : An :=
    impl_WorldNew m y1
    (fun y2 y3 y4 y5 y6 y7 y8 y9 y10 y11 => spec_WorldNew m y1
    (fun y12 y13 y14 y15 y16 y17 y18 y19 y20 y21 => cond ((y8.rows.length : Int) != (y18.rows.length : Int))
    (k0 (T.b false))
    (cond ((y8.rows.length : Int) == 0)
    (impl_WorldOk m y2 y3 y4 (T.l y5.rows) (T.l y6.rows) y7 (T.l y8.rows) (T.l y9.rows) (T.l y10.rows) (T.l y11.rows)
    (fun y22 => k0 (T.b (!y22.bool))))
    (impl_WorldOk m y2 y3 y4 (T.l y5.rows) (T.l y6.rows) y7 (T.l y8.rows) (T.l y9.rows) (T.l y10.rows) (T.l y11.rows)
    (fun y23 => cond (y23.bool == true)
    (impl_Safe m y2 y3 y4 (T.l y5.rows) (T.l y6.rows) y7 (T.l y8.rows) (T.l y9.rows) (T.l y10.rows) (T.l y11.rows)
    (fun y24 => cond ((y24.int == 0) == true)
    (impl_Resting m y2 y3 y4 (T.l y5.rows) (T.l y6.rows) y7 (T.l y8.rows) (T.l y9.rows) (T.l y10.rows) (T.l y11.rows)
    (fun y25 => cond (y25.bool == true)
    (impl_Tables m y2 y3 y4 (T.l y5.rows) (T.l y6.rows) y7 (T.l y8.rows) (T.l y9.rows) (T.l y10.rows) (T.l y11.rows)
    (fun y26 => cond (((y26.rows.length : Int) == 0) == true)
    (impl_Model m y2 y3 y4 (T.l y5.rows) (T.l y6.rows) y7 (T.l y8.rows) (T.l y9.rows) (T.l y10.rows) (T.l y11.rows)
    (fun y27 => cond (((y27.rows.length : Int) == 0) == true)
    (impl_Open m y2 y3 y4 (T.l y5.rows) (T.l y6.rows) y7 (T.l y8.rows) (T.l y9.rows) (T.l y10.rows) (T.l y11.rows)
    (fun y28 => cond ((y28.int == 0) == true)
    (cond (((y8.rows.length : Int) == y1.int) == true)
    (impl_CoordNew m y1
    (fun y29 y30 y31 y32 y33 y34 => impl_CoordOk m y29 y30 y31 (T.l y32.rows) (T.l y33.rows) y34
    (fun y35 => k0 (T.b y35.bool))))
    (k0 (T.b false)))
    (k0 (T.b false))))
    (k0 (T.b false))))
    (k0 (T.b false))))
    (k0 (T.b false))))
    (k0 (T.b false))))
    (k0 (T.b false)))))))
theorem new_unf (m : Nat) (x0 : T) (k0 : T → An) : laws_FnNew (m + 1) x0 k0 = laws_big m (T.l x0.rows) (fun y0 => cond y0.bool (k0 (T.b true)) (spec_DrawWorldNew m (T.l x0.rows) (fun y1 => newTail m y1 k0))) := rfl
theorem new_1 (m : Nat) (k0 : T → An) : newTail (m + 100) (.i 1) k0 = k0 (.b true) := by kernel_rfl
theorem new_3 (m : Nat) (k0 : T → An) : newTail (m + 100) (.i 3) k0 = k0 (.b true) := by kernel_rfl
theorem new_8 (m : Nat) (k0 : T → An) : newTail (m + 100) (.i 8) k0 = k0 (.b true) := by kernel_rfl
theorem new_9 (m : Nat) (k0 : T → An) : newTail (m + 100) (.i 9) k0 = k0 (.b true) := by kernel_rfl
theorem new_0 (m : Nat) (k0 : T → An) : newTail (m + 100) (.i 0) k0 = k0 (.b true) := by kernel_rfl
theorem fnNew_ok {m : Nat} (hm : 30000000 ≤ m) (b : List (List T)) (K : T → An) : laws_FnNew m (.l b) K = K (.b true) := by
  obtain ⟨m, rfl⟩ : ∃ m', m = m' + 101 := ⟨m - 101, by omega⟩
  rw [new_unf]
  have hbig : ∀ K, laws_big (m + 100) (.l b) K = K (.b (decide ((b.length : Int) > 1048576))) := by
    intro K; simp only [laws_big, T.rows_l]
  simp only [T.rows_l]
  rw [hbig]
  simp only [T.bool_b]
  by_cases hg : (b.length : Int) > 1048576
  · rw [dec_t hg]
  rw [dec_f hg]
  obtain ⟨x, hx⟩ := l1New_ok (m := m + 99) (b := b) (by omega) (by omega)
  obtain ⟨N, i1, x1, hN, h1, hk1⟩ := l1Int_ok (m := m + 99) (by omega) (b := b) (i := 0) ⟨by omega, by omega, by omega⟩ x [1, 3, 8, 9, 0] (by decide) (by decide)
  simp only [spec_DrawWorldNew, T.rows_l]
  rw [hx]
  simp only [T.rows_l]
  simp only [List.map_cons, List.map_nil] at hk1
  rw [hk1]
  have hN2 : N = 1 ∨ N = 3 ∨ N = 8 ∨ N = 9 ∨ N = 0 := by simpa using hN
  rcases hN2 with rfl | rfl | rfl | rfl | rfl
  · exact new_1 m K
  · exact new_3 m K
  · exact new_8 m K
  · exact new_9 m K
  · exact new_0 m K
end Go.Proofs.YtjjonejgbdbnjaaGreat

namespace Go.Proofs
open Go Go.Shelf
def Tryz.laysClone_ren : Go.Shelf.Ren := ⟨fun | 41 => 80 | n => n, fun | 22 => 38 | 23 => 103 | n => n, fun | n => n⟩
theorem Tryz.laysClone : SlLaysE0.n41 Tryz.prog Tryz.laysClone_ren where
  mixed := by kernel_rfl
  f41 := ⟨Tryz.f80.name, by kernel_rfl, Tryz.func80.trans (congrArg some (by kernel_rfl))⟩
  t4 := Tryz.underlying4
  a4 := Tryz.isAgg4
  z4 := Tryz.sizeOf4
  v4 := Tryz.zeroValue4
  t22 := Tryz.underlying38
  a22 := Tryz.isAgg38
  z22 := Tryz.sizeOf38
  v22 := Tryz.zeroValue38
end Go.Proofs
namespace Go.Proofs.YtjjonejgbdbnjaaGreat
open Go Go.E Go.Proofs Go.RowKit
mutual
theorem bulk_eq {H : Type} : ∀ d : DataW H, Rows.uptoBulk d = bulkW d
  | .lit l => by cases l <;> simp [Rows.uptoBulk, bulkW]
  | .nil => by simp [Rows.uptoBulk, bulkW]
  | .ptr d => by simp [Rows.uptoBulk, bulkW, bulk_eq d]
  | .slice elems spare => by simp [Rows.uptoBulk, bulkW, bulkAll_eq elems, bulkAll_eq spare]
  | .agg parts => by simp [Rows.uptoBulk, bulkW, bulkAll_eq parts]
  | .iface t d => by simp [Rows.uptoBulk, bulkW, bulk_eq d]
  | .map entries => by simp [Rows.uptoBulk, bulkW, bulkEntries_eq entries]
  | .held h => by simp [Rows.uptoBulk, bulkW]
theorem bulkAll_eq {H : Type} : ∀ ds : List (DataW H), Rows.uptoBulkAll ds = bulkAll ds
  | [] => by simp [Rows.uptoBulkAll, bulkAll]
  | d :: r => by simp [Rows.uptoBulkAll, bulkAll, bulk_eq d, bulkAll_eq r]
theorem bulkEntries_eq {H : Type} : ∀ ds : List (Lit × DataW H), Rows.uptoBulkEntries ds = bulkEntries ds
  | [] => by simp [Rows.uptoBulkEntries, bulkEntries]
  | x :: r => by simp [Rows.uptoBulkEntries, bulkEntries, bulkEntry_eq x, bulkEntries_eq r]
theorem bulkEntry_eq {H : Type} : ∀ x : Lit × DataW H, Rows.uptoBulkEntry x = bulkEntry x
  | (l, d) => by cases l <;> simp [Rows.uptoBulkEntry, bulkEntry, bulk_eq d]
end
theorem upto_le {H : Type} {ds : List (DataW H)} (h : Rows.uptoSmall H ds = true) : bulkAll ds ≤ 1048576 := by
  rw [← bulkAll_eq]
  exact of_decide_eq_true h
theorem laid : laidOutB Tryz.prog = true := by kernel_rfl
theorem cx_ok : CtxOk CX Tryz.prog := ctx_ok (tab := tyTab) (fns := fnTab) rfl rfl (by kernel_rfl) fns_ok (by kernel_rfl)
theorem bad_ok (f : FuncId) (args : List Arg) (h : primBad args ≠ .bad) : FnOk Tryz.prog f args (primBad args) := absurd rfl h
theorem prims_ok : PrimOk CX Tryz.prog prims := fun f g args h hne => by
  unfold prims at h
  cases h1 : Nat.beq f 9 with
  | true =>
    rw [h1] at h; cases h
    have := Nat.eq_of_beq_eq_true h1
    subst this
    exact primNoSplit_ok hne
  | false =>
  rw [h1] at h
  cases h2 : Nat.beq f 70 with
  | true => rw [h2] at h; cases h; exact bad_ok f args hne
  | false =>
  rw [h2] at h
  cases h3 : Nat.beq f 72 with
  | true => rw [h3] at h; cases h; exact bad_ok f args hne
  | false =>
  rw [h3] at h
  cases h4 : Nat.beq f 80 with
  | true =>
    rw [h4] at h; cases h
    have := Nat.eq_of_beq_eq_true h4
    subst this
    obtain ⟨te, hte, hl⟩ : ∃ te : TI, CX.ty (Tryz.laysClone_ren.t 23) = some te ∧ te.lts = [.sc (.str), .sc (.str)] := ⟨_, rfl, rfl⟩
    have := @primClone_ok CX Tryz.prog Tryz.laysClone_ren cx_ok Tryz.laysClone te hte (by rw [hl]; simp) args
    rw [hl] at this
    exact this hne
  | false =>
  rw [h4] at h
  cases h5 : Nat.beq f 112 with
  | true => rw [h5] at h; cases h; exact bad_ok f args hne
  | false =>
  rw [h5] at h
  cases h6 : Nat.beq f 113 with
  | true => rw [h6] at h; cases h; exact bad_ok f args hne
  | false =>
  rw [h6] at h
  cases h7 : Nat.beq f 144 with
  | true => rw [h7] at h; cases h; exact bad_ok f args hne
  | false =>
  rw [h7] at h
  cases h8 : Nat.beq f 145 with
  | true => rw [h8] at h; cases h; exact bad_ok f args hne
  | false => rw [h8] at h; cases h
theorem own : ownKnob Tryz.prog.godebug = none := by kernel_rfl
end Go.Proofs.YtjjonejgbdbnjaaGreat

