/- A part of the proof: texts CQ, CR, CS, CT, CU, CV: see the last part's opening words. -/
import Derived.Test.YtajahiglgcogeaaA
set_option linter.unusedVariables false
set_option linter.unusedSimpArgs false
set_option linter.unnecessarySimpa false
namespace Go.Proofs.Ytajahiglgcogeaa
open Go Go.E Go.Proofs
abbrev BA := ByteArray
theorem bv255 (x : BitVec IntKind.i64.bits) : ∃ r : Int, bvBack .i64 (x &&& BitVec.ofInt IntKind.i64.bits 255) = .i r ∧ 0 ≤ r ∧ r ≤ 255 := by
  have h : (x &&& BitVec.ofInt IntKind.i64.bits 255).toNat ≤ 255 := by
    rw [BitVec.toNat_and]
    exact Nat.le_trans Nat.and_le_right (Nat.le_of_eq rfl)
  refine ⟨((x &&& BitVec.ofInt IntKind.i64.bits 255).toNat : Int), ?_, by omega, by omega⟩
  unfold bvBack
  rw [wrap_i64 (by omega) (by omega)]
/-- where a cursor stands: within its bytes -/
def At (b : List (List T)) (i : Int) : Prop := 0 ≤ i ∧ i ≤ b.length ∧ b.length ≤ 1048576
theorem l1Byte_ok {m : Nat} (hm : 1 ≤ m) {b : List (List T)} {i : Int} (h : At b i) (x : T) :
    ∃ (r i' : Int) (x' : T), 0 ≤ r ∧ r ≤ 255 ∧ At b i' ∧ ∀ k, spec_l1Byte m (.l b) (.i i) x k = k (.i r) (.l b) (.i i') x' := by
  obtain ⟨m, rfl⟩ : ∃ m', m = m' + 1 := ⟨m - 1, by omega⟩
  obtain ⟨h1, h2, h3⟩ := h
  by_cases hi : i < b.length
  · obtain ⟨r, hr, r1, r2⟩ := bv255 (BitVec.ofInt IntKind.i64.bits (IntKind.i64.wrap ((bvBack .i64 (BitVec.ofInt IntKind.i64.bits (bvBack .i64 (BitVec.ofInt IntKind.i64.bits (Int.fdiv (IntKind.i64.wrap ((IntKind.i64.wrap (x.int * 6364136223846793005)) + 1442695040888963407)) (2 ^ (min (Int.toNat 33) IntKind.i64.bits))) ^^^ BitVec.ofInt IntKind.i64.bits (Int.fdiv (IntKind.i64.wrap ((IntKind.i64.wrap (x.int * 6364136223846793005)) + 1442695040888963407)) (2 ^ (min (Int.toNat 47) IntKind.i64.bits))))).int &&& BitVec.ofInt IntKind.i64.bits 255)).int + (IntKind.i64.wrap ((b.getD (Int.toNat i) []).getD 0 dflt).int))))
    refine ⟨r, i + 1, T.i (IntKind.i64.wrap ((IntKind.i64.wrap (x.int * 6364136223846793005)) + 1442695040888963407)), r1, r2, ⟨by omega, by omega, h3⟩, fun k => ?_⟩
    simp only [spec_l1Byte, T.int_i, T.rows_l]
    rw [dec_t hi, dec_t ⟨h1, hi⟩, hr, wrap_i64 (x := i + 1) (by omega) (by omega)]
  · obtain ⟨r, hr, r1, r2⟩ := bv255 (BitVec.ofInt IntKind.i64.bits (bvBack .i64 (BitVec.ofInt IntKind.i64.bits (Int.fdiv (IntKind.i64.wrap ((IntKind.i64.wrap (x.int * 6364136223846793005)) + 1442695040888963407)) (2 ^ (min (Int.toNat 33) IntKind.i64.bits))) ^^^ BitVec.ofInt IntKind.i64.bits (Int.fdiv (IntKind.i64.wrap ((IntKind.i64.wrap (x.int * 6364136223846793005)) + 1442695040888963407)) (2 ^ (min (Int.toNat 47) IntKind.i64.bits))))).int)
    refine ⟨r, i, T.i (IntKind.i64.wrap ((IntKind.i64.wrap (x.int * 6364136223846793005)) + 1442695040888963407)), r1, r2, ⟨h1, h2, h3⟩, fun k => ?_⟩
    simp only [spec_l1Byte, T.int_i, T.rows_l]
    rw [dec_f hi, hr]
theorem l1Below_ok {m : Nat} (hm : 2 ≤ m) {b : List (List T)} {i : Int} (h : At b i) (x : T) {n : Int} (h1 : 1 ≤ n) (h2 : n ≤ 256) :
    ∃ (r i' : Int) (x' : T), 0 ≤ r ∧ r < n ∧ At b i' ∧ ∀ k, spec_l1Below m (.l b) (.i i) x (.i n) k = k (.i r) (.l b) (.i i') x' := by
  obtain ⟨m, rfl⟩ : ∃ m', m = m' + 1 := ⟨m - 1, by omega⟩
  obtain ⟨r, i', x', r1, r2, hi, hk⟩ := l1Byte_ok (m := m) (by omega) h x
  refine ⟨Int.tmod r n, i', x', Int.tmod_nonneg _ r1, Int.tmod_lt_of_pos _ (by omega), hi, fun k => ?_⟩
  simp only [spec_l1Below, T.int_i, T.rows_l]
  rw [dec_f (by omega), dec_t h2, hk]
  simp only [T.int_i, T.rows_l]
  rw [show (!decide (n = 0)) = true from by simp; omega, cond_true]
theorem l1Str_ok {m : Nat} (hm : 3 ≤ m) {b : List (List T)} {i : Int} (h : At b i) (x : T) (l : List BA) (h1 : 1 ≤ l.length) (h2 : l.length ≤ 256) :
    ∃ (a : BA) (i' : Int) (x' : T), a ∈ l ∧ At b i' ∧ ∀ k, spec_l1Str m (.l b) (.i i) x (.l (l.map fun a => [T.s a])) k = k (.s a) (.l b) (.i i') x' := by
  obtain ⟨m, rfl⟩ : ∃ m', m = m' + 1 := ⟨m - 1, by omega⟩
  obtain ⟨r, i', x', r1, r2, hi, hk⟩ := l1Below_ok (m := m) (by omega) h x (n := l.length) (by omega) (by omega)
  have hlt : r.toNat < l.length := by omega
  refine ⟨l[r.toNat], i', x', List.getElem_mem hlt, hi, fun k => ?_⟩
  simp only [spec_l1Str, T.int_i, T.rows_l, List.length_map]
  rw [hk]
  simp only [T.int_i, T.rows_l]
  rw [dec_t ⟨r1, r2⟩]
  have e : (l.map fun a => [T.s a]).getD r.toNat [] = [T.s l[r.toNat]] := by
    rw [List.getD_eq_getElem?_getD, List.getElem?_map, List.getElem?_eq_getElem hlt]; rfl
  rw [e]; rfl
theorem l1New_loop (m : Nat) (b : List (List T)) (hb : b.length ≤ 1048576) : ∀ (j : Nat) (i : Int) (x : T) (n : Nat), 0 ≤ i → (b.length : Int) - i ≤ j → j < n → ∃ x', ∀ k, spec_l1New_L0_0 m n (.l b) x (.i i) k = k (.l b) x'
  | j, i, x, 0, h0, hj, hn => by omega
  | j, i, x, n + 1, h0, hj, hn => by
    by_cases h1 : i < b.length
    · by_cases h2 : i < 4000
      · match j, hj, hn with
        | 0, hj, hn => omega
        | j + 1, hj, hn =>
        obtain ⟨x', hx⟩ := l1New_loop m b hb j (i + 1) (bvBack .i64 (BitVec.ofInt IntKind.i64.bits (IntKind.i64.wrap ((IntKind.i64.wrap ((IntKind.i64.wrap (x.int * 137)) + (IntKind.i64.wrap ((b.getD (Int.toNat i) []).getD 0 dflt).int))) + 11)) &&& BitVec.ofInt IntKind.i64.bits 1073741823)) n (by omega) (by omega) (by omega)
        refine ⟨x', fun k => ?_⟩
        simp only [spec_l1New_L0_0, jn, T.int_i, T.rows_l]
        rw [cond_t (by simp [h1]), dec_t h2, dec_t ⟨h0, h1⟩, wrap_i64 (x := i + 1) (by omega) (by omega)]
        exact hx k
      · refine ⟨x, fun k => ?_⟩
        simp only [spec_l1New_L0_0, jn, T.int_i, T.rows_l]
        rw [cond_t (by simp [h1]), dec_f h2]
    · refine ⟨x, fun k => ?_⟩
      simp only [spec_l1New_L0_0, jn, T.int_i, T.rows_l]
      rw [cond_f (by simp; omega)]
theorem l1New_ok {m : Nat} {b : List (List T)} (hb : b.length ≤ 1048576) (hm : b.length + 2 ≤ m) : ∃ x, ∀ k, spec_l1New m (.l b) k = k (.l b) (.i 0) x := by
  obtain ⟨m, rfl⟩ : ∃ m', m = m' + 1 := ⟨m - 1, by omega⟩
  obtain ⟨x, hx⟩ := l1New_loop m b hb b.length 0 (T.i (IntKind.i64.wrap (381381 + (b.length : Int)))) m (by omega) (by omega) (by omega)
  refine ⟨x, fun k => ?_⟩
  simp only [spec_l1New, T.rows_l]
  exact hx _
theorem l1Int_ok {m : Nat} (hm : 3 ≤ m) {b : List (List T)} {i : Int} (h : At b i) (x : T) (l : List Int) (h1 : 1 ≤ l.length) (h2 : l.length ≤ 256) :
    ∃ (a : Int) (i' : Int) (x' : T), a ∈ l ∧ At b i' ∧ ∀ k, spec_l1Int m (.l b) (.i i) x (.l (l.map fun a => [T.i a])) k = k (.i a) (.l b) (.i i') x' := by
  obtain ⟨m, rfl⟩ : ∃ m', m = m' + 1 := ⟨m - 1, by omega⟩
  obtain ⟨r, i', x', r1, r2, hi, hk⟩ := l1Below_ok (m := m) (by omega) h x (n := l.length) (by omega) (by omega)
  have hlt : r.toNat < l.length := by omega
  refine ⟨l[r.toNat], i', x', List.getElem_mem hlt, hi, fun k => ?_⟩
  simp only [spec_l1Int, T.int_i, T.rows_l, List.length_map]
  rw [hk]
  simp only [T.int_i, T.rows_l]
  rw [dec_t ⟨r1, r2⟩]
  have e : (l.map fun a => [T.i a]).getD r.toNat [] = [T.i l[r.toNat]] := by
    rw [List.getD_eq_getElem?_getD, List.getElem?_map, List.getElem?_eq_getElem hlt]; rfl
  rw [e]; rfl
theorem l1Once_ok {m : Nat} (hm : 3 ≤ m) {b : List (List T)} {i : Int} (h : At b i) (x : T) {n : Int} (h1 : 1 ≤ n) (h2 : n ≤ 256) :
    ∃ (r : Bool) (i' : Int) (x' : T), At b i' ∧ ∀ k, spec_l1Once m (.l b) (.i i) x (.i n) k = k (.b r) (.l b) (.i i') x' := by
  obtain ⟨m, rfl⟩ : ∃ m', m = m' + 1 := ⟨m - 1, by omega⟩
  obtain ⟨r, i', x', r1, r2, hi, hk⟩ := l1Below_ok (m := m) (by omega) h x h1 h2
  refine ⟨r == 0, i', x', hi, fun k => ?_⟩
  simp only [spec_l1Once, T.rows_l]
  rw [hk]
  rfl

theorem l1Size_ok {m : Nat} (hm : 1 ≤ m) (b : List (List T)) (hb : b.length ≤ 1048576) : ∃ r : Int, 3 ≤ r ∧ r ≤ 16 ∧ ∀ k, spec_l1Size m (.l b) (.i 16) k = k (.i r) := by
  obtain ⟨m, rfl⟩ : ∃ m', m = m' + 1 := ⟨m - 1, by omega⟩
  have h0 : 0 ≤ Int.tdiv (b.length : Int) 12 := Int.tdiv_nonneg (by omega) (by omega)
  have h1 : Int.tdiv (b.length : Int) 12 ≤ b.length := Int.tdiv_le_self _ (by omega)
  have e1 : IntKind.i64.wrap (Int.tdiv (b.length : Int) 12) = Int.tdiv (b.length : Int) 12 := wrap_i64 (by omega) (by omega)
  have e2 : IntKind.i64.wrap (3 + Int.tdiv (b.length : Int) 12) = 3 + Int.tdiv (b.length : Int) 12 := wrap_i64 (by omega) (by omega)
  by_cases h : 3 + Int.tdiv (b.length : Int) 12 > 16
  · refine ⟨16, by omega, by omega, fun k => ?_⟩
    simp only [spec_l1Size, T.int_i, T.rows_l, e1, e2]
    rw [dec_t h]
  · refine ⟨3 + Int.tdiv (b.length : Int) 12, by omega, by omega, fun k => ?_⟩
    simp only [spec_l1Size, T.int_i, T.rows_l, e1, e2]
    rw [dec_f h]
def SOp (o : DOp) : Prop := o.key.size ≤ 64 ∧ o.val.size ≤ 64
theorem l3Key_ok {m : Nat} (hm : 10 ≤ m) {b : List (List T)} {i : Int} (h : At b i) (x : T) :
    ∃ (a : ByteArray) (i' : Int) (x' : T), a.size ≤ 64 ∧ At b i' ∧ ∀ k, spec_l3Key m (.l b) (.i i) x k = k (.s a) (.l b) (.i i') x' := by
  obtain ⟨m, rfl⟩ : ∃ m', m = m' + 1 := ⟨m - 1, by omega⟩
  obtain ⟨a, i', x', ha, hi, hk⟩ := l1Str_ok (m := m) (by omega) h x [⟨#[97]⟩, ⟨#[98]⟩, ⟨#[99]⟩, ⟨#[107, 49]⟩, ⟨#[107, 50]⟩, ⟨#[109]⟩, ⟨#[122]⟩] (by decide) (by decide)
  have hs : ∀ a ∈ ([⟨#[97]⟩, ⟨#[98]⟩, ⟨#[99]⟩, ⟨#[107, 49]⟩, ⟨#[107, 50]⟩, ⟨#[109]⟩, ⟨#[122]⟩] : List ByteArray), a.size ≤ 64 := by decide
  refine ⟨a, i', x', hs a ha, hi, fun k => ?_⟩
  simp only [spec_l3Key, T.rows_l]
  exact (hk _).trans rfl
theorem l3KeyAny_ok {m : Nat} (hm : 20 ≤ m) {b : List (List T)} {i : Int} (h : At b i) (x : T) :
    ∃ (a : ByteArray) (i' : Int) (x' : T), a.size ≤ 64 ∧ At b i' ∧ ∀ k, spec_l3KeyAny m (.l b) (.i i) x k = k (.s a) (.l b) (.i i') x' := by
  obtain ⟨m, rfl⟩ : ∃ m', m = m' + 1 := ⟨m - 1, by omega⟩
  obtain ⟨r, i1, x1, h1, hk⟩ := l1Once_ok (m := m) (by omega) h x (n := 6) (by omega) (by omega)
  cases r with
  | true =>
    obtain ⟨a, i', x', ha, hi, hk2⟩ := l1Str_ok (m := m) (by omega) h1 x1 [⟨#[]⟩, ⟨#[65]⟩, ⟨#[97, 32, 98]⟩, ⟨#[116, 104, 105, 114, 116, 101, 101, 110, 98, 121, 116, 101, 115]⟩, ⟨#[116, 119, 101, 108, 118, 101, 98, 121, 116, 101, 115, 49]⟩] (by decide) (by decide)
    have hs : ∀ a ∈ ([⟨#[]⟩, ⟨#[65]⟩, ⟨#[97, 32, 98]⟩, ⟨#[116, 104, 105, 114, 116, 101, 101, 110, 98, 121, 116, 101, 115]⟩, ⟨#[116, 119, 101, 108, 118, 101, 98, 121, 116, 101, 115, 49]⟩] : List ByteArray), a.size ≤ 64 := by decide
    refine ⟨a, i', x', hs a ha, hi, fun k => ?_⟩
    simp only [spec_l3KeyAny, T.rows_l]
    rw [hk]
    simp only [T.bool_b, cond_true, T.rows_l]
    exact (hk2 _).trans rfl
  | false =>
    obtain ⟨a, i', x', ha, hi, hk2⟩ := l3Key_ok (m := m) (by omega) h1 x1
    refine ⟨a, i', x', ha, hi, fun k => ?_⟩
    simp only [spec_l3KeyAny, T.rows_l]
    rw [hk]
    simp only [T.bool_b, cond_false, T.rows_l]
    rw [hk2]; rfl
theorem l7Op1_ok {m : Nat} (hm : 20 ≤ m) {b : List (List T)} {i : Int} (h : At b i) (x : T) :
    ∃ (o : DOp) (i' : Int) (x' : T), SOp o ∧ At b i' ∧ ∀ k, spec_l7Op1 m (.l b) (.i i) x k = k (.i o.kind) (.s o.key) (.s o.val) (.l b) (.i i') x' := by
  obtain ⟨m, rfl⟩ : ∃ m', m = m' + 1 := ⟨m - 1, by omega⟩
  obtain ⟨c, i1, x1, hc, h1, hk⟩ := l1Int_ok (m := m) (by omega) h x [1, 1, 1, 2, 3] (by decide) (by decide)
  obtain ⟨a, i2, x2, ha, h2, hk2⟩ := l3Key_ok (m := m) (by omega) h1 x1
  simp only [List.map_cons, List.map_nil] at hk
  by_cases hc2 : c = 2
  · refine ⟨⟨c, a, ⟨#[]⟩⟩, i2, x2, ⟨ha, by show (⟨#[]⟩ : ByteArray).size ≤ 64; decide⟩, h2, fun k => ?_⟩
    simp only [spec_l7Op1, T.rows_l]
    rw [hk]
    simp only [T.int_i, T.rows_l]
    rw [hk2, cond_f (by simp [hc2])]
    rfl
  · obtain ⟨v, i3, x3, hv, h3, hk3⟩ := l1Str_ok (m := m) (by omega) h2 x2 [⟨#[49]⟩, ⟨#[50]⟩, ⟨#[120]⟩, ⟨#[]⟩, ⟨#[49]⟩] (by decide) (by decide)
    have hs : ∀ a ∈ ([⟨#[49]⟩, ⟨#[50]⟩, ⟨#[120]⟩, ⟨#[]⟩, ⟨#[49]⟩] : List ByteArray), a.size ≤ 64 := by decide
    refine ⟨⟨c, a, v⟩, i3, x3, ⟨ha, hs v hv⟩, h3, fun k => ?_⟩
    simp only [spec_l7Op1, T.rows_l]
    rw [hk]
    simp only [T.int_i, T.rows_l]
    rw [hk2, cond_t (by simp [hc2])]
    simp only [T.rows_l]
    exact (hk3 _).trans rfl
end Go.Proofs.Ytajahiglgcogeaa

namespace Go.Proofs.Ytajahiglgcogeaa
open Go Go.E Go.Proofs
def cB (b : Bool) : Nat := cond b 0 1
/-- a round of l7One behind its first question -/
noncomputable def oneTail (m n : Nat) (x0 x3 x4 x5 x6 y1 y2 : T) (k0 : T → T → T → T → T → T → An) : An :=
  cond (decide ((0 : Int) ≤ x3.int ∧ x3.int < (x0.rows.length : Int)))
    (cond (!((((x0.rows.getD (Int.toNat x3.int) []).drop 1).getD 0 dflt).str.toList == x5.str.toList))
    (cond (decide ((0 : Int) ≤ x3.int ∧ x3.int < (x0.rows.length : Int)))
    (cond (decide ((y2.rows.length + 1) * 3 ≤ maxRow))
    (spec_l7One_L0_0 m n x0 (T.i 0) y1 (T.i (IntKind.i64.wrap (x3.int + 1))) x4 x5 x6 (T.l (y2.rows ++ [[((x0.rows.getD (Int.toNat x3.int) []).getD 0 dflt), ((x0.rows.getD (Int.toNat x3.int) []).getD 1 dflt), ((x0.rows.getD (Int.toNat x3.int) []).getD 2 dflt)]])) k0)
    (.bad))
    (.bad))
    (spec_l7One_L0_0 m n x0 (T.i 0) y1 (T.i (IntKind.i64.wrap (x3.int + 1))) x4 x5 x6 (T.l y2.rows) k0))
    (.bad)
theorem one_step (m n : Nat) (x0 x2 x3 x4 x5 x6 x7 : T) (k0 : T → T → T → T → T → T → An) : spec_l7One_L0_0 m (n + 1) x0 (T.i 0) x2 x3 x4 x5 x6 x7 k0 =
    cond (decide (x3.int < (x0.rows.length : Int)))
    (cond ((!x2.bool) == true)
    (cond (decide ((0 : Int) ≤ x3.int ∧ x3.int < (x0.rows.length : Int)))
    (cond (!(Op.bytesLess (((x0.rows.getD (Int.toNat x3.int) []).drop 1).getD 0 dflt).str.toList x5.str.toList))
    (cond (decide ((x7.rows.length + 1) * 3 ≤ maxRow))
    (oneTail m n x0 x3 x4 x5 x6 (T.b true) (T.l (x7.rows ++ [[x4, x5, x6]])) k0)
    (.bad))
    (oneTail m n x0 x3 x4 x5 x6 x2 (T.l x7.rows) k0))
    (.bad))
    (oneTail m n x0 x3 x4 x5 x6 x2 (T.l x7.rows) k0))
    (k0 (T.i 0) x2 x4 x5 x6 (T.l x7.rows)) := rfl
theorem one_loop (m : Nat) (o : DOp) (ho : SOp o) : ∀ (post pre acc : List DOp) (put : Bool), (∀ p ∈ post, SOp p) → (∀ p ∈ acc, SOp p) → (put = true → acc ≠ []) → pre.length + post.length ≤ 1000 → acc.length + post.length + cB put ≤ 1000 → ∀ n, post.length < n →
    ∃ (put' : Bool) (l : List DOp), (∀ p ∈ l, SOp p) ∧ (put' = true → l ≠ []) ∧ l.length + cB put' ≤ acc.length + post.length + cB put ∧ ∀ k0, spec_l7One_L0_0 m n (.l (rO (pre ++ post))) (.i 0) (.b put) (.i pre.length) (.i o.kind) (.s o.key) (.s o.val) (.l (rO acc)) k0 = k0 (.i 0) (.b put') (.i o.kind) (.s o.key) (.s o.val) (.l (rO l))
  | [], pre, acc, put, hp, ha, hn0, hs, hs2, n, hn => by
    obtain ⟨n, rfl⟩ : ∃ m', n = m' + 1 := ⟨n - 1, by omega⟩
    refine ⟨put, acc, ha, hn0, by simp, fun k0 => ?_⟩
    rw [one_step]
    simp only [T.int_i, T.rows_l]
    rw [dec_f (by simp)]
  | x :: post, pre, acc, put, hp, ha, hn0, hs, hs2, n, hn => by
    obtain ⟨n, rfl⟩ : ∃ m', n = m' + 1 := ⟨n - 1, by omega⟩
    simp only [List.length_cons] at hs hn hs2
    have hx := hp x (by simp)
    have hpp : ∀ p ∈ post, SOp p := fun p h => hp p (by simp [h])
    -- behind the first question
    have tail : ∀ (put1 : Bool) (acc1 : List DOp), (∀ p ∈ acc1, SOp p) → (put1 = true → acc1 ≠ []) →
        acc1.length + cB put1 ≤ acc.length + cB put → ∃ (put' : Bool) (l : List DOp), (∀ p ∈ l, SOp p) ∧ (put' = true → l ≠ []) ∧ l.length + cB put' ≤ acc.length + (post.length + 1) + cB put ∧ ∀ k0, oneTail m n (.l (rO (pre ++ x :: post))) (.i pre.length) (.i o.kind) (.s o.key) (.s o.val) (.b put1) (.l (rO acc1)) k0 = k0 (.i 0) (.b put') (.i o.kind) (.s o.key) (.s o.val) (.l (rO l)) := fun put1 acc1 q1 q2 q4 => by
      by_cases hk : (x.key.toList == o.key.toList) = true
      · obtain ⟨put', l, g1, g2, g3, g4⟩ := one_loop m o ho post (pre ++ [x]) acc1 put1 hpp q1 q2 (by simp; omega) (by omega) n (by omega)
        refine ⟨put', l, g1, g2, by omega, fun k0 => ?_⟩
        have ih := g4 k0
        rw [len_snoc, List.append_assoc, List.singleton_append] at ih
        unfold oneTail
        simp only [T.int_i, T.rows_l, ixO, od1, T.str_s, ix_nx pre (by omega)]
        rw [dec_t (by simp; omega), hk]
        exact ih
      · obtain ⟨put', l, g1, g2, g3, g4⟩ := one_loop m o ho post (pre ++ [x]) (acc1 ++ [x]) put1 hpp (fun p h => by
          rcases List.mem_append.1 h with h | h
          · exact q1 p h
          · simp at h; rw [h]; exact hx) (fun _ => by simp) (by simp; omega) (by simp; omega) n (by omega)
        refine ⟨put', l, g1, g2, by simp at g3; omega, fun k0 => ?_⟩
        have ih := g4 k0
        rw [len_snoc, List.append_assoc, List.singleton_append] at ih
        unfold oneTail
        simp only [T.int_i, T.rows_l, ixO, od1, T.str_s, ix_nx pre (by omega), o0, o1, o2, o_eta]
        rw [dec_t (by simp; omega), cond_t (by simpa using hk), dec_t (by simp; omega), dec_t (by rw [rO_len]; unfold maxRow; omega)]
        have e : rO acc1 ++ [x.r] = rO (acc1 ++ [x]) := by simp
        rw [e]
        exact ih
    have hB0 : decide ((pre.length : Int) < ((rO (pre ++ x :: post)).length : Int)) = true := decide_eq_true (by simp; omega)
    cases put with
    | true =>
      obtain ⟨put', l, g1, g2, g3, g4⟩ := tail true acc ha hn0 (by omega)
      refine ⟨put', l, g1, g2, by simp only [List.length_cons]; omega, fun k0 => ?_⟩
      rw [one_step]
      simp only [T.int_i, T.rows_l, hB0, cond_true, T.bool_b]
      exact g4 k0
    | false =>
      cases hl : Op.bytesLess x.key.toList o.key.toList with
      | true =>
        obtain ⟨put', l, g1, g2, g3, g4⟩ := tail false acc ha hn0 (by omega)
        refine ⟨put', l, g1, g2, by simp only [List.length_cons]; omega, fun k0 => ?_⟩
        rw [one_step]
        simp only [T.int_i, T.rows_l, hB0, cond_true, T.bool_b, ixO, od1, T.str_s, hl]
        rw [cond_t (by rfl), dec_t (by simp; omega)]
        exact g4 k0
      | false =>
        obtain ⟨put', l, g1, g2, g3, g4⟩ := tail true (acc ++ [o]) (fun p h => by
          rcases List.mem_append.1 h with h | h
          · exact ha p h
          · simp at h; rw [h]; exact ho) (fun _ => by simp) (by simp [cB])
        refine ⟨put', l, g1, g2, by simp only [List.length_cons]; omega, fun k0 => ?_⟩
        rw [one_step]
        simp only [T.int_i, T.rows_l, hB0, cond_true, T.bool_b, ixO, od1, T.str_s, hl, o_eta]
        rw [cond_t (by rfl), dec_t (by simp; omega), cond_t (by rfl), dec_t (by rw [rO_len]; unfold maxRow; omega)]
        have e : rO acc ++ [o.r] = rO (acc ++ [o]) := by simp
        rw [e]
        exact g4 k0
theorem l7One_ok {m : Nat} (hm : 1002 ≤ m) (l : List DOp) (o : DOp) (hl : ∀ p ∈ l, SOp p) (ho : SOp o) (h2 : l.length ≤ 900) :
    ∃ l' : List DOp, (∀ p ∈ l', SOp p) ∧ l' ≠ [] ∧ l'.length ≤ l.length + 1 ∧ ∀ k, spec_l7One m (.l (rO l)) (.i o.kind) (.s o.key) (.s o.val) k = k (.l (rO l')) := by
  obtain ⟨m, rfl⟩ : ∃ m', m = m' + 1 := ⟨m - 1, by omega⟩
  obtain ⟨put', l', g1, g2, g3, g4⟩ := one_loop m o ho l [] [] false hl (by simp) (by simp) (by simp; omega) (by simp [cB]; omega) m (by omega)
  simp only [List.nil_append, List.length_nil, cB, cond_false] at g3 g4
  cases put' with
  | true =>
    refine ⟨l', g1, g2 rfl, by simp at g3; omega, fun k => ?_⟩
    simp only [spec_l7One, T.rows_l]
    exact (g4 _).trans rfl
  | false =>
    simp only [cond_false] at g3
    refine ⟨l' ++ [o], fun p h => by
      rcases List.mem_append.1 h with h | h
      · exact g1 p h
      · simp at h; rw [h]; exact ho, by simp, by simp; omega, fun k => ?_⟩
    simp only [spec_l7One, T.rows_l]
    refine (g4 _).trans ?_
    simp only [T.bool_b, Bool.not_false, cond_true, T.rows_l, o_eta]
    rw [dec_t (by rw [rO_len]; unfold maxRow; omega)]
    have e : rO l' ++ [o.r] = rO (l' ++ [o]) := by simp
    rw [e]
theorem draw_loop (m : Nat) (hm : 1100 ≤ m) {b : List (List T)} : ∀ (j : Nat) (acc : List DOp) (i : Int) (x : T), At b i → (∀ p ∈ acc, SOp p) → (acc ≠ [] ∨ 0 < j) → acc.length + j ≤ 100 → ∀ n, j < n →
    ∃ (l : List DOp) (i' : Int) (x' : T), (∀ p ∈ l, SOp p) ∧ l ≠ [] ∧ l.length ≤ acc.length + j ∧ At b i' ∧ ∀ k0, spec_l7Draw_L0_0 m n (.i 0) (.i (j : Int)) (.l b) (.i i) x (.l (rO acc)) k0 = k0 (.i 0) (.l b) (.i i') x' (.l (rO l))
  | 0, acc, i, x, h, hacc, hne, hl, n, hn => by
    obtain ⟨n, rfl⟩ : ∃ m', n = m' + 1 := ⟨n - 1, by omega⟩
    refine ⟨acc, i, x, hacc, hne.resolve_right (by omega), by omega, h, fun k0 => ?_⟩
    simp only [spec_l7Draw_L0_0, T.rows_l, T.int_i]
    rw [dec_f (by omega)]
    rfl
  | j + 1, acc, i, x, h, hacc, hne, hl, n, hn => by
    obtain ⟨n, rfl⟩ : ∃ m', n = m' + 1 := ⟨n - 1, by omega⟩
    obtain ⟨o, i1, x1, ho, h1, hk⟩ := l7Op1_ok (m := m) (by omega) h x
    obtain ⟨a2, q1, q2, q3, q4⟩ := l7One_ok (m := m) (by omega) acc o hacc ho (by omega)
    obtain ⟨l, i', x', g1, g2, g3, g4, g5⟩ := draw_loop m hm j a2 i1 x1 h1 q1 (.inl q2) (by omega) n (by omega)
    refine ⟨l, i', x', g1, g2, by omega, g4, fun k0 => ?_⟩
    have f4 : IntKind.i64.wrap (((j + 1 : Nat) : Int) - 1) = (j : Int) := by rw [wrap_i64 (by omega) (by omega)]; omega
    simp only [spec_l7Draw_L0_0, T.rows_l, T.int_i, f4]
    rw [dec_t (by omega), hk, q4]
    exact g5 k0
theorem l7Draw_ok {m : Nat} (hm : 1200 ≤ m) {b : List (List T)} {i : Int} (h : At b i) (x : T) :
    ∃ (l : List DOp) (i' : Int) (x' : T), (∀ p ∈ l, SOp p) ∧ l ≠ [] ∧ l.length ≤ 4 ∧ At b i' ∧ ∀ k, spec_l7Draw m (.l b) (.i i) x k = k (.l (rO l)) (.l b) (.i i') x' := by
  obtain ⟨m, rfl⟩ : ∃ m', m = m' + 1 := ⟨m - 1, by omega⟩
  obtain ⟨r, i1, x1, r1, r2, h1, hk⟩ := l1Below_ok (m := m) (by omega) h x (n := 4) (by omega) (by omega)
  obtain ⟨l, i', x', g1, g2, g3, g4, g5⟩ := draw_loop m (by omega) (1 + r).toNat [] i1 x1 h1 (by simp) (.inr (by omega)) (by simp; omega) m (by omega)
  refine ⟨l, i', x', g1, g2, by simp at g3; omega, g4, fun k => ?_⟩
  have er : IntKind.i64.wrap (1 + r) = (((1 + r).toNat : Nat) : Int) := by rw [wrap_i64 (by omega) (by omega)]; omega
  simp only [spec_l7Draw, T.rows_l]
  rw [hk]
  simp only [T.int_i, T.rows_l, er]
  exact (g5 _).trans rfl
theorem l7Any_ok {m : Nat} (hm : 1300 ≤ m) {b : List (List T)} {i : Int} (h : At b i) (x : T) :
    ∃ (l : List DOp) (i' : Int) (x' : T), BOps l ∧ l.length ≤ 5 ∧ At b i' ∧ ∀ k, spec_l7Any m (.l b) (.i i) x k = k (.l (rO l)) (.l b) (.i i') x' := by
  obtain ⟨m, rfl⟩ : ∃ m', m = m' + 1 := ⟨m - 1, by omega⟩
  obtain ⟨l, i1, x1, g1, g2, g3, h1, hk⟩ := l7Draw_ok (m := m) (by omega) h x
  obtain ⟨r, i2, x2, r1, r2, h2, hk2⟩ := l1Below_ok (m := m) (by omega) h1 x1 (n := 10) (by omega) (by omega)
  have BS : ∀ l : List DOp, (∀ p ∈ l, SOp p) → l.length ≤ 5 → BOps l := fun l q1 q2 => ⟨by omega, fun p hp => ⟨by have := (q1 p hp).1; omega, by have := (q1 p hp).2; omega⟩⟩
  obtain ⟨y, t, rfl⟩ : ∃ y t, l = y :: t := by
    cases l with
    | nil => exact absurd rfl g2
    | cons y t => exact ⟨y, t, rfl⟩
  simp only [List.length_cons] at g3
  have hy := g1 y (by simp)
  have ht : ∀ p ∈ t, SOp p := fun p hp => g1 p (by simp [hp])
  have SC : ∀ y' : DOp, SOp y' → ∀ p ∈ y' :: t, SOp p := fun y' hy' p hp => by
    rcases List.mem_cons.1 hp with rfl | hp
    · exact hy'
    · exact ht p hp
  have hB : decide ((0 : Int) ≤ 0 ∧ 0 < ((rO (y :: t)).length : Int)) = true := decide_eq_true (by simp)
  have hB2 : decide (0 < (rO (y :: t)).length) = true := decide_eq_true (by simp)
  by_cases e0 : r = 0
  · subst e0
    obtain ⟨o, i3, x3, ho, h3, hk3⟩ := l7Op1_ok (m := m) (by omega) h2 x2
    refine ⟨(y :: t) ++ [o], i3, x3, BS _ (fun p hp => by
      rcases List.mem_append.1 hp with hp | hp
      · exact g1 p hp
      · simp at hp; rw [hp]; exact ho) (by simp; omega), by simp; omega, h3, fun k => ?_⟩
    simp only [spec_l7Any, T.rows_l]
    rw [hk]; simp only [T.rows_l]; rw [hk2]; simp only [T.int_i, T.rows_l]
    rw [cond_t (by rfl), hk3]
    simp only [o_eta, T.rows_l]
    rw [dec_t (by rw [rO_len]; unfold maxRow; simp; omega)]
    have e : rO (y :: t) ++ [o.r] = rO ((y :: t) ++ [o]) := by simp
    rw [e]
  by_cases e1 : r = 1
  · subst e1
    obtain ⟨c, i3, x3, c1, c2, h3, hk3⟩ := l1Below_ok (m := m) (by omega) h2 x2 (n := 5) (by omega) (by omega)
    refine ⟨⟨c, y.key, y.val⟩ :: t, i3, x3, BS _ (SC _ hy) (by simp; omega), by simp; omega, h3, fun k => ?_⟩
    simp only [spec_l7Any, T.rows_l]
    rw [hk]; simp only [T.rows_l]; rw [hk2]; simp only [T.int_i, T.rows_l]
    rw [cond_f (by rfl), cond_t (by rfl), hk3]
    simp only [hB, hB2, cond_true, T.rows_l]
    rfl
  by_cases e2 : r = 2
  · subst e2
    obtain ⟨c, i3, x3, c1, h3, hk3⟩ := l3KeyAny_ok (m := m) (by omega) h2 x2
    refine ⟨⟨y.kind, c, y.val⟩ :: t, i3, x3, BS _ (SC _ ⟨c1, hy.2⟩) (by simp; omega), by simp; omega, h3, fun k => ?_⟩
    simp only [spec_l7Any, T.rows_l]
    rw [hk]; simp only [T.rows_l]; rw [hk2]; simp only [T.int_i, T.rows_l]
    rw [cond_f (by rfl), cond_f (by rfl), cond_t (by rfl), hk3]
    simp only [hB, hB2, cond_true, T.rows_l]
    rfl
  by_cases e3 : r = 3
  · subst e3
    obtain ⟨c, i3, x3, c1, c2, h3, hk3⟩ := l1Below_ok (m := m) (by omega) h2 x2 (n := 2) (by omega) (by omega)
    have ew : IntKind.i64.wrap (20 + c) = 20 + c := wrap_i64 (by omega) (by omega)
    have hz : (rowsBytes (List.replicate (Int.toNat (20 + c)) [(T.i 0)])).size ≤ 64 := by
      have : (rowsBytes (List.replicate (Int.toNat (20 + c)) [(T.i 0)])).size = Int.toNat (20 + c) := by simp [rowsBytes, ByteArray.size]
      omega
    refine ⟨⟨y.kind, y.key, rowsBytes (List.replicate (Int.toNat (20 + c)) [(T.i 0)])⟩ :: t, i3, x3, BS _ (SC _ ⟨hy.1, hz⟩) (by simp; omega), by simp; omega, h3, fun k => ?_⟩
    simp only [spec_l7Any, T.rows_l]
    rw [hk]; simp only [T.rows_l]; rw [hk2]; simp only [T.int_i, T.rows_l]
    rw [cond_f (by rfl), cond_f (by rfl), cond_f (by rfl), cond_t (by rfl), hk3]
    simp only [hB, hB2, cond_true, T.rows_l, T.int_i, ew]
    rw [dec_t (by omega), dec_t (by unfold maxCells; omega)]
    rfl
  by_cases e4 : r = 4
  · subst e4
    refine ⟨[], i2, x2, BS _ (by simp) (by simp), by simp, h2, fun k => ?_⟩
    simp only [spec_l7Any, T.rows_l]
    rw [hk]; simp only [T.rows_l]; rw [hk2]; simp only [T.int_i, T.rows_l]
    rw [cond_f (by rfl), cond_f (by rfl), cond_f (by rfl), cond_f (by rfl), cond_t (by rfl), dec_t (by simp; omega)]
    rfl
  refine ⟨y :: t, i2, x2, BS _ g1 (by simp; omega), by simp; omega, h2, fun k => ?_⟩
  simp only [spec_l7Any, T.rows_l]
  rw [hk]; simp only [T.rows_l]; rw [hk2]; simp only [T.int_i, T.rows_l]
  rw [cond_f (by simpa using e0), cond_f (by simpa using e1), cond_f (by simpa using e2), cond_f (by simpa using e3), cond_f (by simpa using e4)]
end Go.Proofs.Ytajahiglgcogeaa

namespace Go.Proofs.Ytajahiglgcogeaa
open Go Go.E Go.Proofs
/-- what a drawn one keeps, ahead of j more events -/
structure DI (j : Nat) (N life next : Int) (jobs : List DJob) (log : List DChoice) (sure : Int) : Prop where
  n : 1 ≤ N ∧ N ≤ 8
  life : 1 ≤ life ∧ life ≤ 900
  next : 0 ≤ next ∧ next ≤ 999
  jl : jobs.length + j ≤ 100
  ll : log.length + j ≤ 100
  sure : 0 ≤ sure ∧ sure ≤ log.length
  jobs : ∀ x ∈ jobs, BOps x.ops ∧ (1 ≤ x.ops.length ∧ x.ops.length ≤ 8) ∧ x.yes.length + j ≤ 100
theorem DI.mono {j : Nat} {N life next : Int} {jobs : List DJob} {log : List DChoice} {sure : Int} (h : DI (j + 1) N life next jobs log sure) : DI j N life next jobs log sure :=
  ⟨h.n, h.life, h.next, by have := h.jl; omega, by have := h.ll; omega, h.sure, fun x hx => ⟨(h.jobs x hx).1, (h.jobs x hx).2.1, by have := (h.jobs x hx).2.2; omega⟩⟩
theorem DI.bj {j : Nat} {N life next : Int} {jobs : List DJob} {log : List DChoice} {sure : Int} (h : DI j N life next jobs log sure) : BJobs jobs :=
  ⟨by have := h.jl; omega, fun x hx => ⟨(h.jobs x hx).1, by have := (h.jobs x hx).2.2; unfold BInts; omega⟩⟩
theorem begin_ok {m : Nat} (hm : 1050200 ≤ m) {j : Nat} {N life next : Int} {jobs : List DJob} {log : List DChoice} {sure : Int} (h : DI (j + 1) N life next jobs log sure) (ops : List DOp) (ho : BOps ops) :
    ∃ (next' : Int) (jobs' : List DJob) (w : List (List T)) (r : T), DI j N life next' jobs' log sure ∧ ∀ K, spec_l11Begin m (.i N) (.i life) (.i next) (.l (rJ jobs)) (.l (rC log)) (.i sure) (.l (rO ops)) K = K (.l w) r (.i N) (.i life) (.i next') (.l (rJ jobs')) (.l (rC log)) (.i sure) := by
  obtain ⟨m, rfl⟩ : ∃ m', m = m' + 1 := ⟨m - 1, by omega⟩
  have hjl := h.bj.1
  have hol := ho.1
  have q2 := h.life
  have q3 := h.next
  have e1 : IntKind.i64.wrap (life * 1000) = life * 1000 := wrap_i64 (by omega) (by omega)
  have e2 : IntKind.i64.wrap (life * 1000 + next) = life * 1000 + next := wrap_i64 (by omega) (by omega)
  have e3 : IntKind.i64.wrap (next + 1) = next + 1 := wrap_i64 (by omega) (by omega)
  have same : (opsOkP ops && (!(next == 999) && decide (log.length < 1000))) = false → ∃ (next' : Int) (jobs' : List DJob) (w : List (List T)) (r : T), DI j N life next' jobs' log sure ∧ ∀ K, spec_l11Begin (m + 1) (.i N) (.i life) (.i next) (.l (rJ jobs)) (.l (rC log)) (.i sure) (.l (rO ops)) K = K (.l w) r (.i N) (.i life) (.i next') (.l (rJ jobs')) (.l (rC log)) (.i sure) := fun hb => by
    refine ⟨next, jobs, [], .i 0, h.mono, fun K => ?_⟩
    simp only [spec_l11Begin, jn, T.rows_l, T.int_i, e1, e2, e3, rC_len, ge1000]
    rw [specOps_ok (by omega) ops ho]
    simp only [T.bool_b]
    cases h1 : opsOkP ops with
    | false => rfl
    | true =>
      cases h2 : (next == 999) with
      | true => rfl
      | false =>
        rw [h1, h2] at hb
        simp only [Bool.not_false, Bool.true_and] at hb
        rw [hb]; rfl
  cases h1 : opsOkP ops with
  | false => exact same (by rw [h1]; rfl)
  | true =>
    cases h2 : (next == 999) with
    | true => exact same (by rw [h2]; simp)
    | false =>
      have h3 : log.length < 1000 := by have := h.ll; omega
      have h999 : next ≠ 999 := by simpa using h2
      have hne : 1 ≤ ops.length ∧ ops.length ≤ 8 := by unfold opsOkP at h1; simp only [Bool.and_eq_true, decide_eq_true_eq] at h1; exact h1.2
      refine ⟨next + 1, jobs ++ [⟨life * 1000 + next, ops, 1, []⟩], wRows (life * 1000 + next) ops N (shardsP ops N), .i (life * 1000 + next), ⟨h.n, h.life, by omega, by have := h.jl; simp; omega, by have := h.ll; omega, h.sure, fun x hx => ?_⟩, fun K => ?_⟩
      · rcases List.mem_append.1 hx with hx | hx
        · exact ⟨(h.jobs x hx).1, (h.jobs x hx).2.1, by have := (h.jobs x hx).2.2; omega⟩
        · simp at hx; subst hx
          exact ⟨ho, hne, by have := h.jl; simp; omega⟩
      · simp only [spec_l11Begin, jn, T.rows_l, T.int_i, e1, e2, e3, rC_len, ge1000]
        rw [specOps_ok (by omega) ops ho]
        simp only [T.bool_b, h1, h2]
        rw [decide_eq_true h3]
        simp only [Bool.not_true, Bool.not_false, cond_false, beq_self_eq_true, cond_true, Bool.true_and]
        rw [copyOps (by omega) ops hol, dec_t (by rw [rJ_len]; unfold maxRow; omega)]
        simp only [T.rows_l]
        rw [specHolds (by omega) N _ ops ho]
        simp only [T.rows_l]
        have e := jSnoc jobs ⟨life * 1000 + next, ops, 1, []⟩
        simp only at e
        rw [show ir [] = [] from rfl] at e
        rw [e]
theorem jobAt_loop (m : Nat) (tx : Int) (x3 x4 x5 x7 x8 : T) : ∀ (post pre : List DJob), pre.length + post.length ≤ 1048576 → ∀ n, post.length < n →
    ∃ r : Option Nat, (∀ k, r = some k → k < pre.length + post.length) ∧ ∀ k0 k1, spec_l11JobAt_L0_0 m n (.i tx) (.i 0) (.i pre.length) x3 x4 x5 (.l (rJ (pre ++ post))) x7 x8 k0 k1 = (match r with | some j => k0 (.i (j : Int)) | none => k1)
  | [], pre, hs, n, hn => by
    obtain ⟨n, rfl⟩ : ∃ m', n = m' + 1 := ⟨n - 1, by omega⟩
    refine ⟨none, by simp, fun k0 k1 => ?_⟩
    simp only [spec_l11JobAt_L0_0, T.int_i, T.rows_l]
    rw [dec_f (by simp)]
  | x :: post, pre, hs, n, hn => by
    obtain ⟨n, rfl⟩ : ∃ m', n = m' + 1 := ⟨n - 1, by omega⟩
    simp only [List.length_cons] at hs hn
    by_cases h : x.tx = tx
    · refine ⟨some pre.length, fun k e => by cases e; simp, fun k0 k1 => ?_⟩
      simp only [spec_l11JobAt_L0_0, T.int_i, T.rows_l, ixJ, j0]
      rw [dec_t (by simp; omega), dec_t (by simp; omega), cond_t (by simp [h])]
    · obtain ⟨r, hr, g⟩ := jobAt_loop m tx x3 x4 x5 x7 x8 post (pre ++ [x]) (by simp; omega) n (by omega)
      refine ⟨r, fun k e => by have := hr k e; simp at this ⊢; omega, fun k0 k1 => ?_⟩
      have ih := g k0 k1
      rw [len_snoc, List.append_assoc, List.singleton_append] at ih
      simp only [spec_l11JobAt_L0_0, T.int_i, T.rows_l, ixJ, ix_nx pre (by omega), j0]
      rw [dec_t (by simp; omega), dec_t (by simp; omega), cond_f (by simp [h])]
      exact ih
theorem jobAt_ok {m : Nat} (hm : 1048600 ≤ m) (x0 x1 x2 x5 : T) (jobs : List DJob) (log : List (List T)) (tx : Int) (hj : jobs.length ≤ 1048576) :
    ∃ r : Option Nat, (∀ k, r = some k → k < jobs.length) ∧ ∀ K, spec_l11JobAt m x0 x1 x2 (.l (rJ jobs)) (.l log) x5 (.i tx) K = (match r with | some j => K (.i (j : Int)) | none => K (.i (-1))) := by
  obtain ⟨m, rfl⟩ : ∃ m', m = m' + 1 := ⟨m - 1, by omega⟩
  obtain ⟨r, hr, g⟩ := jobAt_loop m tx x0 x1 x2 (.l log) x5 jobs [] (by simp; omega) m (by omega)
  refine ⟨r, fun k e => by have := hr k e; simpa using this, fun K => ?_⟩
  simp only [spec_l11JobAt, T.rows_l]
  exact g _ _
theorem rJ_set (pre : List DJob) (x y : DJob) (post : List DJob) : (rJ (pre ++ x :: post)).set (Int.toNat (pre.length : Int)) y.r = rJ (pre ++ y :: post) := by
  simp [List.set_append]
theorem cSnoc (log : List DChoice) (tx : Int) (b : Bool) : rC log ++ [[T.i tx, T.b b]] = rC (log ++ [⟨tx, b⟩]) := by simp [DChoice.r]
theorem DI.set {j : Nat} {N life next : Int} {pre post : List DJob} {x y : DJob} {log log' : List DChoice} {sure : Int} (h : DI (j + 1) N life next (pre ++ x :: post) log sure) (e1 : y.ops = x.ops) (e2 : y.yes.length ≤ x.yes.length + 1) (e3 : log.length ≤ log'.length) (e4 : log'.length ≤ log.length + 1) : DI j N life next (pre ++ y :: post) log' sure := by
  have hx := h.jobs x (by simp)
  refine ⟨h.n, h.life, h.next, by have := h.jl; simp at this ⊢; omega, by have := h.ll; omega, by have := h.sure; omega, fun z hz => ?_⟩
  rcases List.mem_append.1 hz with hz | hz
  · have := h.mono.jobs z (by simp [hz]); exact this
  · rcases List.mem_cons.1 hz with rfl | hz
    · exact ⟨by rw [e1]; exact hx.1, by rw [e1]; exact hx.2.1, by have := hx.2.2; omega⟩
    · have := h.mono.jobs z (by simp [hz]); exact this
theorem vote_ok {m : Nat} (hm : 1050200 ≤ m) {j : Nat} {N life next : Int} {jobs : List DJob} {log : List DChoice} {sure : Int} (h : DI (j + 1) N life next jobs log sure) (s tx : Int) (v : Bool) :
    ∃ (jobs' : List DJob) (log' : List DChoice), DI j N life next jobs' log' sure ∧ ∀ K, spec_l11Vote m (.i N) (.i life) (.i next) (.l (rJ jobs)) (.l (rC log)) (.i sure) (.i s) (.i tx) (.b v) K = K (.i N) (.i life) (.i next) (.l (rJ jobs')) (.l (rC log')) (.i sure) := by
  obtain ⟨m, rfl⟩ : ∃ m', m = m' + 1 := ⟨m - 1, by omega⟩
  have hjl := h.jl
  have hll := h.ll
  obtain ⟨r, hr, hk⟩ := jobAt_ok (m := m) (by omega) (.i N) (.i life) (.i next) (.i sure) jobs (rC log) tx (by omega)
  cases r with
  | none =>
    refine ⟨jobs, log, h.mono, fun K => ?_⟩
    simp only [spec_l11Vote, jn, T.rows_l, hk, T.int_i]
    rw [cond_f (by rfl)]
  | some k =>
    have hkl := hr k rfl
    obtain ⟨pre, x, post, rfl, rfl⟩ : ∃ pre x post, jobs = pre ++ x :: post ∧ k = pre.length :=
      ⟨jobs.take k, jobs[k], jobs.drop (k + 1), by simp, by simp; omega⟩
    have hx := h.jobs x (by simp)
    have hB : decide ((0 : Int) ≤ (pre.length : Int) ∧ (pre.length : Int) < ((rJ (pre ++ x :: post)).length : Int)) = true := decide_eq_true (by simp; omega)
    have hB2 : decide (Int.toNat (pre.length : Int) < (rJ (pre ++ x :: post)).length) = true := decide_eq_true (by simp)
    by_cases hs : x.state = 1
    · have hge : decide (((rC log).length : Int) ≥ 1000) = false := decide_eq_false (by rw [rC_len]; omega)
      have hM : decide (((rC log).length + 1) * 2 ≤ maxRow) = true := decide_eq_true (by rw [rC_len]; unfold maxRow; omega)
      have hn0 : (decide ((pre.length : Int) < 0) == false) = true := by rw [decide_eq_false (by omega)]; rfl
      have hst : ((x.state != 1) == false) = true := by rw [hs]; rfl
      have hyl := shardsP_len x.ops N
      have hol := hx.1.1
      by_cases hin : s ∈ shardsP x.ops N
      · cases v with
        | false =>
          refine ⟨pre ++ ⟨x.tx, x.ops, 3, x.yes⟩ :: post, log ++ [⟨tx, false⟩], h.set rfl (by simp) (by simp) (by simp), fun K => ?_⟩
          simp only [spec_l11Vote, jn, T.rows_l, hk, T.int_i, ixJ, j1, j2, j3, hB, hB2, hge, hn0, hst, cond_true, cond_false]
          rw [specShards (by omega) x.ops N hx.1]
          simp only [T.rows_l]
          rw [has_ok _ s (by omega) (by omega), decide_eq_true hin]
          simp only [T.bool_b, Bool.not_true, Bool.not_false, cond_true, cond_false, hM, cSnoc]
          rw [show x.r.set 2 (T.i 3) = DJob.r ⟨x.tx, x.ops, 3, x.yes⟩ from rfl, rJ_set]
        | true =>
          have hp := hx.2.2
          have hpl := putU_len x.yes s
          by_cases hall : (putU x.yes s).length = (shardsP x.ops N).length
          · refine ⟨pre ++ ⟨x.tx, x.ops, 2, putU x.yes s⟩ :: post, log ++ [⟨tx, true⟩], h.set rfl (by simp only; omega) (by simp) (by simp), fun K => ?_⟩
            simp only [spec_l11Vote, jn, T.rows_l, hk, T.int_i, ixJ, j1, j2, j3, hB, hB2, hge, hn0, hst, cond_true, cond_false]
            rw [specShards (by omega) x.ops N hx.1]
            simp only [T.rows_l]
            rw [has_ok _ s (by omega) (by omega), decide_eq_true hin]
            simp only [T.bool_b, Bool.not_true, Bool.not_false, cond_true, cond_false, hM, cSnoc]
            rw [put_ok x.yes s (by omega) (by omega)]
            simp only [T.rows_l]
            rw [show x.r.set 3 (T.l (ir (putU x.yes s))) = DJob.r ⟨x.tx, x.ops, x.state, putU x.yes s⟩ from rfl, rJ_set]
            have hB3 : ∀ y : DJob, decide (Int.toNat (pre.length : Int) < (rJ (pre ++ y :: post)).length) = true := fun y => decide_eq_true (by simp)
            simp only [ixJ, j3, T.rows_l, hB3, cond_true, ir_len]
            rw [cond_t (by simp [hall])]
            rw [show (DJob.r ⟨x.tx, x.ops, x.state, putU x.yes s⟩).set 2 (T.i 2) = DJob.r ⟨x.tx, x.ops, 2, putU x.yes s⟩ from rfl, rJ_set]
          · refine ⟨pre ++ ⟨x.tx, x.ops, x.state, putU x.yes s⟩ :: post, log, h.set rfl (by simp only; omega) (by simp) (by simp), fun K => ?_⟩
            simp only [spec_l11Vote, jn, T.rows_l, hk, T.int_i, ixJ, j1, j2, j3, hB, hB2, hge, hn0, hst, cond_true, cond_false]
            rw [specShards (by omega) x.ops N hx.1]
            simp only [T.rows_l]
            rw [has_ok _ s (by omega) (by omega), decide_eq_true hin]
            simp only [T.bool_b, Bool.not_true, Bool.not_false, cond_true, cond_false, hM, cSnoc]
            rw [put_ok x.yes s (by omega) (by omega)]
            simp only [T.rows_l]
            rw [show x.r.set 3 (T.l (ir (putU x.yes s))) = DJob.r ⟨x.tx, x.ops, x.state, putU x.yes s⟩ from rfl, rJ_set]
            have hB3 : ∀ y : DJob, decide (Int.toNat (pre.length : Int) < (rJ (pre ++ y :: post)).length) = true := fun y => decide_eq_true (by simp)
            simp only [ixJ, j3, T.rows_l, hB3, cond_true, ir_len]
            rw [cond_f (by simp; omega)]
      · refine ⟨pre ++ x :: post, log, h.mono, fun K => ?_⟩
        simp only [spec_l11Vote, jn, T.rows_l, hk, T.int_i, ixJ, j1, j2, j3, hB, hB2, hge, hn0, hst, cond_true, cond_false]
        rw [specShards (by omega) x.ops N hx.1]
        simp only [T.rows_l]
        rw [has_ok _ s (by omega) (by omega), decide_eq_false hin]
        rfl
    · refine ⟨pre ++ x :: post, log, h.mono, fun K => ?_⟩
      simp only [spec_l11Vote, jn, T.rows_l, hk, T.int_i, ixJ, j1, j2, j3, hB, hB2, cond_true]
      rw [cond_t (by rw [decide_eq_false (by omega)]; rfl), cond_f (by simp [hs])]
/-- a crash -/
theorem crash_ok {m : Nat} (hm : 1 ≤ m) {j : Nat} {N life next : Int} {jobs : List DJob} {log : List DChoice} {sure : Int} (h : DI (j + 1) N life next jobs log sure) (keep : Int) (hk : 0 ≤ keep ∧ keep ≤ 10) :
    ∃ (life' next' : Int) (jobs' : List DJob) (log' : List DChoice) (sure' : Int), DI j N life' next' jobs' log' sure' ∧ ∀ (K : T → T → T → T → T → T → An), spec_l11Crash m (.i N) (.i life) (.i next) (.l (rJ jobs)) (.l (rC log)) (.i sure) (.i keep) (fun _ a b c d e f => K a b c (.l d.rows) (.l e.rows) f) (fun _ _ a b c d e f => K a b c (.l d.rows) (.l e.rows) f) = K (.i N) (.i life') (.i next') (.l (rJ jobs')) (.l (rC log')) (.i sure') := by
  obtain ⟨m, rfl⟩ : ∃ m', m = m' + 1 := ⟨m - 1, by omega⟩
  have hll := h.ll
  have hsu := h.sure
  have hli := h.life
  by_cases h9 : life = 900
  · refine ⟨life, next, jobs, log, sure, h.mono, fun K => ?_⟩
    simp only [spec_l11Crash, jn, T.rows_l, T.int_i]
    rw [cond_t (by simp [h9])]
  · obtain ⟨kp, hkp⟩ : ∃ kp : Int, kp = if keep > (log.length : Int) - sure then (log.length : Int) - sure else keep := ⟨_, rfl⟩
    have hk2 : 0 ≤ kp ∧ sure + kp ≤ log.length := by rw [hkp]; split <;> omega
    have e1 : IntKind.i64.wrap ((log.length : Int) - sure) = (log.length : Int) - sure := wrap_i64 (by omega) (by omega)
    have e2 : IntKind.i64.wrap (sure + kp) = sure + kp := wrap_i64 (by omega) (by omega)
    have e3 : IntKind.i64.wrap (life + 1) = life + 1 := wrap_i64 (by omega) (by omega)
    have hlen : (log.take (Int.toNat (sure + kp))).length = Int.toNat (sure + kp) := by simp; omega
    refine ⟨life + 1, 0, [], log.take (Int.toNat (sure + kp)), ((log.take (Int.toNat (sure + kp))).length : Int), ⟨h.n, by omega, by omega, by have := h.jl; simp; omega, by simp; omega, by omega, by simp⟩, fun K => ?_⟩
    simp only [spec_l11Crash, jn, T.rows_l, T.int_i, e1, rC_len]
    rw [cond_f (by simp [h9]), dec_f (by omega)]
    have et : (rC log).take (Int.toNat (sure + kp)) = rC (log.take (Int.toNat (sure + kp))) := by simp [List.map_take]
    by_cases hg : keep > (log.length : Int) - sure
    · have eq : (log.length : Int) - sure = kp := by rw [hkp, if_pos hg]
      rw [dec_t hg, eq]
      simp only [e2, e3]
      rw [dec_t (by omega), dec_t (by omega), et, rC_len]
      rfl
    · have eq : keep = kp := by rw [hkp, if_neg hg]
      rw [dec_f hg, eq]
      simp only [e2, e3]
      rw [dec_t (by omega), dec_t (by omega), et, rC_len]
      rfl
end Go.Proofs.Ytajahiglgcogeaa

namespace Go.Proofs.Ytajahiglgcogeaa
open Go Go.E Go.Proofs
noncomputable def drawBody (m : Nat) (x4 x5 x6 x11 x12 x13 x14 x17 x18 : T) (j103 : T → T → T → T → T → T → T → T → T → An) : An :=
    spec_l1Below m (T.l x4.rows) x5 x6 (T.i 8)
    (fun y14 y15 y16 y17 => jn (fun (j75 : T → An) =>
    cond (y14.int == 0)
    (j75 (T.b (y14.int == 0)))
    (cond (y14.int == 1)
    (j75 (T.b (y14.int == 1)))
    (j75 (T.b (y14.int == 2)))))
    (fun y18 => cond y18.bool
    (spec_l7Draw m (T.l y15.rows) y16 y17
    (fun y19 y20 y21 y22 => spec_l11Begin m x11 x12 x13 (T.l x17.rows) (T.l x18.rows) x14 (T.l y19.rows)
    (fun y23 y24 y25 y26 y27 y28 y29 y30 => j103 (T.l y20.rows) y21 y22 y25 y26 y27 y30 (T.l y28.rows) (T.l y29.rows))))
    (jn (fun (j74 : T → An) =>
    cond (y14.int == 3)
    (j74 (T.b (y14.int == 3)))
    (cond (y14.int == 4)
    (j74 (T.b (y14.int == 4)))
    (j74 (T.b (y14.int == 5)))))
    (fun y31 => cond y31.bool
    (cond (decide ((x17.rows.length : Int) > 0))
    (spec_l1Below m (T.l y15.rows) y16 y17 (T.i (x17.rows.length : Int))
    (fun y32 y33 y34 y35 => cond (decide ((0 : Int) ≤ y32.int ∧ y32.int < (x17.rows.length : Int)))
    (cond (decide ((Int.toNat y32.int) < x17.rows.length))
    (spec_ShardsOf m (T.l ((x17.rows.getD (Int.toNat y32.int) []).getD 1 dflt).rows) x11
    (fun y36 => spec_l1Below m (T.l y33.rows) y34 y35 (T.i (y36.rows.length : Int))
    (fun y37 y38 y39 y40 => cond (decide ((0 : Int) ≤ y37.int ∧ y37.int < (y36.rows.length : Int)))
    (spec_l1Once m (T.l y38.rows) y39 y40 (T.i 5)
    (fun y41 y42 y43 y44 => spec_l11Vote m x11 x12 x13 (T.l x17.rows) (T.l x18.rows) x14 ((y36.rows.getD (Int.toNat y37.int) []).getD 0 dflt) ((x17.rows.getD (Int.toNat y32.int) []).getD 0 dflt) (T.b (!y41.bool))
    (fun y45 y46 y47 y48 y49 y50 => j103 (T.l y42.rows) y43 y44 y45 y46 y47 y50 (T.l y48.rows) (T.l y49.rows))))
    (.bad))))
    (.bad))
    (.bad)))
    (j103 (T.l y15.rows) y16 y17 x11 x12 x13 x14 (T.l x17.rows) (T.l x18.rows)))
    (cond (y14.int == 6)
    (j103 (T.l y15.rows) y16 y17 x11 x12 x13 (T.i (x18.rows.length : Int)) (T.l x17.rows) (T.l x18.rows))
    (spec_l1Once m (T.l y15.rows) y16 y17 (T.i 3)
    (fun y51 y52 y53 y54 => cond y51.bool
    (spec_l1Below m (T.l y52.rows) y53 y54 (T.i 3)
    (fun y55 y56 y57 y58 => spec_l11Crash m x11 x12 x13 (T.l x17.rows) (T.l x18.rows) x14 y55
    (fun y59 y60 y61 y62 y63 y64 y65 => j103 (T.l y56.rows) y57 y58 y60 y61 y62 y65 (T.l y63.rows) (T.l y64.rows))
    (fun y66 y67 y68 y69 y70 y71 y72 y73 => j103 (T.l y56.rows) y57 y58 y68 y69 y70 y73 (T.l y71.rows) (T.l y72.rows))))
    (j103 (T.l y52.rows) y53 y54 x11 x12 x13 x14 (T.l x17.rows) (T.l x18.rows)))))))))
theorem draw_unf (m n : Nat) (x3 x4 x5 x6 x7 x8 x9 x10 x11 x12 x13 x14 x15 x16 x17 x18 : T) (k0 : T → T → T → T → T → T → T → T → T → T → T → T → T → T → T → T → T → T → An) :
    spec_l11Draw_L0_0 m (n + 1) (T.i 0) (T.i 0) (T.i 0) x3 x4 x5 x6 x7 x8 x9 x10 x11 x12 x13 x14 x15 x16 x17 x18 k0 =
      cond (decide (x3.int > 0)) (drawBody m x4 x5 x6 x11 x12 x13 x14 x17 x18 (fun y94 y95 y96 y97 y98 y99 y100 y101 y102 => spec_l11Draw_L0_0 m n (T.i 0) (T.i 0) (T.i 0) (T.i (IntKind.i64.wrap (x3.int - 1))) y94 y95 y96 x7 x8 x9 x10 y97 y98 y99 y100 (T.l x15.rows) (T.l x16.rows) (T.l y101.rows) (T.l y102.rows) k0))
        (k0 (T.i 0) (T.i 0) (T.i 0) x4 x5 x6 x7 x8 x9 x10 x11 x12 x13 x14 (T.l x15.rows) (T.l x16.rows) (T.l x17.rows) (T.l x18.rows)) := rfl
theorem sw1 (r : Int) (h : 0 ≤ r) (g : T → An) : jn (fun (j75 : T → An) => cond (r == 0) (j75 (T.b (r == 0))) (cond (r == 1) (j75 (T.b (r == 1))) (j75 (T.b (r == 2))))) g = g (T.b (decide (r ≤ 2))) := by
  show cond (r == 0) (g (T.b (r == 0))) (cond (r == 1) (g (T.b (r == 1))) (g (T.b (r == 2)))) = _
  by_cases a0 : r = 0
  · subst a0; rfl
  by_cases a1 : r = 1
  · subst a1; rfl
  rw [cond_f (by simpa using a0), cond_f (by simpa using a1)]
  by_cases a2 : r = 2
  · subst a2; rfl
  · rw [beq_eq_false_iff_ne.2 a2, decide_eq_false (by omega)]
theorem sw2 (r : Int) (h : 3 ≤ r) (g : T → An) : jn (fun (j74 : T → An) => cond (r == 3) (j74 (T.b (r == 3))) (cond (r == 4) (j74 (T.b (r == 4))) (j74 (T.b (r == 5))))) g = g (T.b (decide (r ≤ 5))) := by
  show cond (r == 3) (g (T.b (r == 3))) (cond (r == 4) (g (T.b (r == 4))) (g (T.b (r == 5)))) = _
  by_cases a0 : r = 3
  · subst a0; rfl
  by_cases a1 : r = 4
  · subst a1; rfl
  rw [cond_f (by simpa using a0), cond_f (by simpa using a1)]
  by_cases a2 : r = 5
  · subst a2; rfl
  · rw [beq_eq_false_iff_ne.2 a2, decide_eq_false (by omega)]
theorem shards_ne (ops : List DOp) (n : Int) (h : 1 ≤ ops.length) : 1 ≤ (shardsP ops n).length := by
  cases ops with
  | nil => simp at h
  | cons o t =>
    have : ((shardP o.key n : Nat) : Int) ∈ shardsP (o :: t) n := by
      unfold shardsP
      rw [foldU_mem]
      right; simp
    exact List.length_pos_of_mem this
theorem BOps.of {l : List DOp} (h : ∀ p ∈ l, SOp p) (hl : l.length ≤ 100) : BOps l := ⟨by omega, fun p hp => ⟨by have := (h p hp).1; omega, by have := (h p hp).2; omega⟩⟩
theorem irGet (l : List Int) {r : Int} (h1 : 0 ≤ r) (h2 : r < l.length) : ∃ s : Int, ((ir l).getD (Int.toNat r) []).getD 0 dflt = .i s := by
  have hlt : r.toNat < l.length := by omega
  refine ⟨l[r.toNat], ?_⟩
  have e : (ir l).getD r.toNat [] = [T.i l[r.toNat]] := by
    rw [show ir l = l.map iRow from rfl, List.getD_eq_getElem?_getD, List.getElem?_map, List.getElem?_eq_getElem hlt]; rfl
  rw [e]; rfl
theorem step_ok {m : Nat} (hm : 1060000 ≤ m) {b : List (List T)} {i : Int} (hi : At b i) (x : T) {j : Nat} {N life next : Int} {jobs : List DJob} {log : List DChoice} {sure : Int} (h : DI (j + 1) N life next jobs log sure) :
    ∃ (N' life' next' : Int) (jobs' : List DJob) (log' : List DChoice) (sure' i' : Int) (x' : T), DI j N' life' next' jobs' log' sure' ∧ At b i' ∧ ∀ J, drawBody m (.l b) (.i i) x (.i N) (.i life) (.i next) (.i sure) (.l (rJ jobs)) (.l (rC log)) J = J (.l b) (.i i') x' (.i N') (.i life') (.i next') (.i sure') (.l (rJ jobs')) (.l (rC log')) := by
  obtain ⟨r, i1, x1, r1, r2, h1, hk⟩ := l1Below_ok (m := m) (by omega) hi x (n := 8) (by omega) (by omega)
  by_cases c2 : r ≤ 2
  · obtain ⟨ops, i2, x2, g1, g2, g3, h2, hk2⟩ := l7Draw_ok (m := m) (by omega) h1 x1
    obtain ⟨next', jobs', w, rr, d1, d2⟩ := begin_ok (m := m) (by omega) h ops (BOps.of g1 (by omega))
    refine ⟨N, life, next', jobs', log, sure, i2, x2, d1, h2, fun J => ?_⟩
    unfold drawBody
    simp only [T.rows_l]
    rw [hk]
    simp only [T.int_i, T.rows_l]
    rw [sw1 r r1]
    simp only [T.bool_b]
    rw [dec_t c2, hk2]
    simp only [T.rows_l]
    rw [d2]; rfl
  by_cases c5 : r ≤ 5
  · cases jobs with
    | nil =>
      refine ⟨N, life, next, [], log, sure, i1, x1, h.mono, h1, fun J => ?_⟩
      unfold drawBody
      simp only [T.rows_l]
      rw [hk]
      simp only [T.int_i, T.rows_l]
      rw [sw1 r r1]
      simp only [T.bool_b]
      rw [dec_f c2, sw2 r (by omega)]
      simp only [T.bool_b]
      rw [dec_t c5, dec_f (by simp)]
    | cons y0 t0 =>
      obtain ⟨jobs, hjobs⟩ : ∃ jobs, jobs = y0 :: t0 := ⟨_, rfl⟩
      have hjl : 1 ≤ jobs.length := by rw [hjobs]; simp
      rw [← hjobs] at h ⊢
      clear hjobs
      have hjl2 := h.jl
      obtain ⟨q, i2, x2, q1, q2, h2, hk2⟩ := l1Below_ok (m := m) (by omega) h1 x1 (n := jobs.length) (by omega) (by omega)
      obtain ⟨pre, y, post, rfl, hq⟩ : ∃ pre y post, jobs = pre ++ y :: post ∧ q = (pre.length : Int) :=
        ⟨jobs.take q.toNat, jobs[q.toNat]'(by omega), jobs.drop (q.toNat + 1), by simp, by simp; omega⟩
      subst hq
      have hy := h.jobs y (by simp)
      have hs1 := shards_ne y.ops N hy.2.1.1
      have hs2 := shardsP_len y.ops N
      have hs3 := hy.2.1.2
      obtain ⟨p, i3, x3, p1, p2, h3, hk3⟩ := l1Below_ok (m := m) (by omega) h2 x2 (n := (shardsP y.ops N).length) (by omega) (by omega)
      obtain ⟨s, hs⟩ := irGet (shardsP y.ops N) p1 p2
      obtain ⟨o, i4, x4, h4, hk4⟩ := l1Once_ok (m := m) (by omega) h3 x3 (n := 5) (by omega) (by omega)
      obtain ⟨jobs', log', d1, d2⟩ := vote_ok (m := m) (by omega) h s y.tx (!o)
      refine ⟨N, life, next, jobs', log', sure, i4, x4, d1, h4, fun J => ?_⟩
      have hB : decide ((0 : Int) ≤ (pre.length : Int) ∧ (pre.length : Int) < ((rJ (pre ++ y :: post)).length : Int)) = true := decide_eq_true (by simp; omega)
      have hB2 : decide (Int.toNat (pre.length : Int) < (rJ (pre ++ y :: post)).length) = true := decide_eq_true (by simp)
      unfold drawBody
      simp only [T.rows_l]
      rw [hk]
      simp only [T.int_i, T.rows_l]
      rw [sw1 r r1]
      simp only [T.bool_b]
      rw [dec_f c2, sw2 r (by omega)]
      simp only [T.bool_b]
      rw [dec_t c5, dec_t (by simp; omega), rJ_len, hk2]
      rw [rJ_len] at hB hB2
      simp only [T.int_i, hB, hB2, cond_true, ixJ, j0, j1, T.rows_l]
      rw [specShards (by omega) y.ops N hy.1]
      simp only [T.rows_l, ir_len]
      rw [hk3]
      simp only [T.int_i, T.rows_l]
      rw [dec_t ⟨p1, p2⟩, hk4]
      simp only [T.bool_b, hs, T.rows_l]
      rw [d2]; rfl
  by_cases c6 : r = 6
  · refine ⟨N, life, next, jobs, log, (log.length : Int), i1, x1, ⟨h.n, h.life, h.next, h.mono.jl, h.mono.ll, by omega, h.mono.jobs⟩, h1, fun J => ?_⟩
    unfold drawBody
    simp only [T.rows_l]
    rw [hk]
    simp only [T.int_i, T.rows_l]
    rw [sw1 r r1]
    simp only [T.bool_b]
    rw [dec_f c2, sw2 r (by omega)]
    simp only [T.bool_b]
    rw [dec_f c5, cond_t (by simp [c6]), rC_len]
  obtain ⟨o, i2, x2, h2, hk2⟩ := l1Once_ok (m := m) (by omega) h1 x1 (n := 3) (by omega) (by omega)
  cases o with
  | false =>
    refine ⟨N, life, next, jobs, log, sure, i2, x2, h.mono, h2, fun J => ?_⟩
    unfold drawBody
    simp only [T.rows_l]
    rw [hk]
    simp only [T.int_i, T.rows_l]
    rw [sw1 r r1]
    simp only [T.bool_b]
    rw [dec_f c2, sw2 r (by omega)]
    simp only [T.bool_b]
    rw [dec_f c5, cond_f (by simpa using c6), hk2]
    rfl
  | true =>
    obtain ⟨q, i3, x3, q1, q2, h3, hk3⟩ := l1Below_ok (m := m) (by omega) h2 x2 (n := 3) (by omega) (by omega)
    obtain ⟨life', next', jobs', log', sure', d1, d2⟩ := crash_ok (m := m) (by omega) h q ⟨q1, by omega⟩
    refine ⟨N, life', next', jobs', log', sure', i3, x3, d1, h3, fun J => ?_⟩
    unfold drawBody
    simp only [T.rows_l]
    rw [hk]
    simp only [T.int_i, T.rows_l]
    rw [sw1 r r1]
    simp only [T.bool_b]
    rw [dec_f c2, sw2 r (by omega)]
    simp only [T.bool_b]
    rw [dec_f c5, cond_f (by simpa using c6), hk2]
    simp only [T.bool_b, cond_true, T.rows_l]
    rw [hk3]
    exact d2 (fun a b' c d e f => J (.l b) (.i i3) x3 a b' c f d e)
theorem drawC_loop (m : Nat) (hm : 1060000 ≤ m) {b : List (List T)} (x7 x8 x9 x10 : T) (c15 c16 : List (List T)) : ∀ (j : Nat) (i : Int) (x : T) (N life next : Int) (jobs : List DJob) (log : List DChoice) (sure : Int), At b i → DI j N life next jobs log sure → ∀ n, j < n →
    ∃ (N' life' next' : Int) (jobs' : List DJob) (log' : List DChoice) (sure' i' : Int) (x' : T), DI 0 N' life' next' jobs' log' sure' ∧ At b i' ∧ ∀ k0, spec_l11Draw_L0_0 m n (.i 0) (.i 0) (.i 0) (.i (j : Int)) (.l b) (.i i) x x7 x8 x9 x10 (.i N) (.i life) (.i next) (.i sure) (.l c15) (.l c16) (.l (rJ jobs)) (.l (rC log)) k0 =
      k0 (.i 0) (.i 0) (.i 0) (.l b) (.i i') x' x7 x8 x9 x10 (.i N') (.i life') (.i next') (.i sure') (.l c15) (.l c16) (.l (rJ jobs')) (.l (rC log'))
  | 0, i, x, N, life, next, jobs, log, sure, hi, h, n, hn => by
    obtain ⟨n, rfl⟩ : ∃ m', n = m' + 1 := ⟨n - 1, by omega⟩
    refine ⟨N, life, next, jobs, log, sure, i, x, h, hi, fun k0 => ?_⟩
    rw [draw_unf]
    simp only [T.int_i, T.rows_l]
    rw [dec_f (by omega)]
  | j + 1, i, x, N, life, next, jobs, log, sure, hi, h, n, hn => by
    obtain ⟨n, rfl⟩ : ∃ m', n = m' + 1 := ⟨n - 1, by omega⟩
    obtain ⟨N1, life1, next1, jobs1, log1, sure1, i1, x1, d1, h1, e1⟩ := step_ok (m := m) hm hi x h
    obtain ⟨N', life', next', jobs', log', sure', i', x', d2, h2, e2⟩ := drawC_loop m hm x7 x8 x9 x10 c15 c16 j i1 x1 N1 life1 next1 jobs1 log1 sure1 h1 d1 n (by omega)
    refine ⟨N', life', next', jobs', log', sure', i', x', d2, h2, fun k0 => ?_⟩
    have hj := h.jl
    have f4 : IntKind.i64.wrap (((j + 1 : Nat) : Int) - 1) = (j : Int) := by rw [wrap_i64 (by omega) (by omega)]; omega
    rw [draw_unf]
    simp only [T.int_i, T.rows_l, f4]
    rw [dec_t (by omega), e1]
    exact e2 k0
theorem drawC_ok {m : Nat} (hm : 1060010 ≤ m) {b : List (List T)} {i : Int} (hi : At b i) (x : T) {s : Int} (hs : 1 ≤ s ∧ s ≤ 16) :
    ∃ (N' life' next' : Int) (jobs' : List DJob) (log' : List DChoice) (sure' i' : Int) (x' : T), DI 0 N' life' next' jobs' log' sure' ∧ At b i' ∧ ∀ K, spec_l11Draw m (.l b) (.i i) x (.i s) K = K (.i N') (.i life') (.i next') (.l (rJ jobs')) (.l (rC log')) (.i sure') (.l b) (.i i') x' := by
  obtain ⟨m, rfl⟩ : ∃ m', m = m' + 1 := ⟨m - 1, by omega⟩
  obtain ⟨N, i1, x1, hN, h1, hk⟩ := l1Int_ok (m := m) (by omega) hi x [3, 2, 1] (by decide) (by decide)
  have hN2 : 1 ≤ N ∧ N ≤ 8 := by simp at hN; omega
  obtain ⟨q, i2, x2, q1, q2, h2, hk2⟩ := l1Below_ok (m := m) (by omega) h1 x1 (n := s) (by omega) (by omega)
  obtain ⟨N', life', next', jobs', log', sure', i', x', d2, h3, e2⟩ := drawC_loop m (by omega) (.i 0) (.i 0) (.i 0) (.i 0) [] [] q.toNat i2 x2 N 1 0 [] [] 0 h2 ⟨hN2, by omega, by omega, by simp; omega, by simp; omega, by simp, by simp⟩ m (by omega)
  refine ⟨N', life', next', jobs', log', sure', i', x', d2, h3, fun K => ?_⟩
  obtain ⟨m, rfl⟩ : ∃ m', m = m' + 1 := ⟨m - 1, by omega⟩
  simp only [spec_l11Draw, T.rows_l]
  simp only [List.map_cons, List.map_nil] at hk
  rw [hk]
  simp only [spec_CoordNew, T.rows_l, T.int_i]
  rw [l1In_ok (by omega), decide_eq_true hN2]
  simp only [T.bool_b, Bool.not_true, cond_false, T.rows_l]
  rw [hk2]
  have er : q = ((q.toNat : Nat) : Int) := by omega
  rw [er]
  exact (e2 _).trans rfl
end Go.Proofs.Ytajahiglgcogeaa

namespace Go.Proofs.Ytajahiglgcogeaa
open Go Go.E Go.Proofs
theorem any_ok {m : Nat} (hm : 1060100 ≤ m) {b : List (List T)} {i : Int} (hi : At b i) (x : T) {s : Int} (hs : 1 ≤ s ∧ s ≤ 16) :
    ∃ (N life next : Int) (jobs : List DJob) (log : List DChoice) (sure i' : Int) (x' : T), (BJobs jobs ∧ jobs.length ≤ 200) ∧ log.length ≤ 200 ∧ At b i' ∧ ∀ K, spec_l11Any m (.l b) (.i i) x (.i s) K = K (.i N) (.i life) (.i next) (.l (rJ jobs)) (.l (rC log)) (.i sure) (.l b) (.i i') x' := by
  obtain ⟨m, rfl⟩ : ∃ m', m = m' + 1 := ⟨m - 1, by omega⟩
  obtain ⟨N, life, next, jobs, log, sure, i1, x1, d, h1, hk⟩ := drawC_ok (m := m) (by omega) hi x hs
  obtain ⟨r, i2, x2, r1, r2, h2, hk2⟩ := l1Below_ok (m := m) (by omega) h1 x1 (n := 12) (by omega) (by omega)
  have hll : log.length ≤ 100 := by have := d.ll; omega
  have hjj : jobs.length ≤ 200 := by have := d.jl; omega
  by_cases e0 : r = 0
  · subst e0
    obtain ⟨a, i3, x3, -, h3, hk3⟩ := l1Int_ok (m := m) (by omega) h2 x2 [0, 1, 9] (by decide) (by decide)
    simp only [List.map_cons, List.map_nil] at hk3
    refine ⟨a, life, next, jobs, log, sure, i3, x3, ⟨d.bj, hjj⟩, by omega, h3, fun K => ?_⟩
    simp only [spec_l11Any, T.rows_l]
    rw [hk]; simp only [T.rows_l]; rw [hk2]; simp only [T.int_i, T.rows_l]
    rw [cond_t (by rfl), hk3]; rfl
  by_cases e1 : r = 1
  · subst e1
    obtain ⟨a, i3, x3, -, h3, hk3⟩ := l1Int_ok (m := m) (by omega) h2 x2 [0, 999, 1000, -1] (by decide) (by decide)
    simp only [List.map_cons, List.map_nil] at hk3
    refine ⟨N, life, a, jobs, log, sure, i3, x3, ⟨d.bj, hjj⟩, by omega, h3, fun K => ?_⟩
    simp only [spec_l11Any, T.rows_l]
    rw [hk]; simp only [T.rows_l]; rw [hk2]; simp only [T.int_i, T.rows_l]
    rw [cond_f (by rfl), cond_t (by rfl), hk3]; rfl
  by_cases e2 : r = 2
  · subst e2
    obtain ⟨a, i3, x3, -, h3, hk3⟩ := l1Int_ok (m := m) (by omega) h2 x2 [0, 1, 900, 901] (by decide) (by decide)
    simp only [List.map_cons, List.map_nil] at hk3
    refine ⟨N, a, next, jobs, log, sure, i3, x3, ⟨d.bj, hjj⟩, by omega, h3, fun K => ?_⟩
    simp only [spec_l11Any, T.rows_l]
    rw [hk]; simp only [T.rows_l]; rw [hk2]; simp only [T.int_i, T.rows_l]
    rw [cond_f (by rfl), cond_f (by rfl), cond_t (by rfl), hk3]; rfl
  by_cases e3 : r = 3
  · subst e3
    obtain ⟨a, i3, x3, -, h3, hk3⟩ := l1Int_ok (m := m) (by omega) h2 x2 [-1, IntKind.i64.wrap ((log.length : Int) + 1)] (by simp) (by simp)
    simp only [List.map_cons, List.map_nil] at hk3
    refine ⟨N, life, next, jobs, log, a, i3, x3, ⟨d.bj, hjj⟩, by omega, h3, fun K => ?_⟩
    simp only [spec_l11Any, T.rows_l]
    rw [hk]; simp only [T.rows_l]; rw [hk2]; simp only [T.int_i, T.rows_l]
    rw [cond_f (by rfl), cond_f (by rfl), cond_f (by rfl), cond_t (by rfl), rC_len, hk3]; rfl
  by_cases e4 : r = 4
  · subst e4
    obtain ⟨a, i3, x3, -, h3, hk3⟩ := l1Int_ok (m := m) (by omega) h2 x2 [999, 1000, 1001, 5000] (by decide) (by decide)
    simp only [List.map_cons, List.map_nil] at hk3
    refine ⟨N, life, next, jobs, log ++ [⟨a, false⟩], sure, i3, x3, ⟨d.bj, hjj⟩, by simp; omega, h3, fun K => ?_⟩
    simp only [spec_l11Any, T.rows_l]
    rw [hk]; simp only [T.rows_l]; rw [hk2]; simp only [T.int_i, T.rows_l]
    rw [cond_f (by rfl), cond_f (by rfl), cond_f (by rfl), cond_f (by rfl), cond_t (by rfl), hk3]
    simp only [T.rows_l]
    rw [dec_t (by rw [rC_len]; unfold maxRow; omega), cSnoc]
  by_cases e5 : r = 5
  · subst e5
    cases jobs with
    | nil =>
      refine ⟨N, life, next, [], log, sure, i2, x2, ⟨d.bj, hjj⟩, by omega, h2, fun K => ?_⟩
      simp only [spec_l11Any, T.rows_l]
      rw [hk]; simp only [T.rows_l]; rw [hk2]; simp only [T.int_i, T.rows_l]
      rw [cond_f (by rfl), cond_f (by rfl), cond_f (by rfl), cond_f (by rfl), cond_f (by rfl), cond_t (by rfl), dec_f (by simp)]
    | cons y t =>
      obtain ⟨a, i3, x3, a1, a2, h3, hk3⟩ := l1Below_ok (m := m) (by omega) h2 x2 (n := 5) (by omega) (by omega)
      have hb := d.bj
      refine ⟨N, life, next, ⟨y.tx, y.ops, a, y.yes⟩ :: t, log, sure, i3, x3, ⟨⟨hb.1, fun z hz => ?_⟩, hjj⟩, by omega, h3, fun K => ?_⟩
      · rcases List.mem_cons.1 hz with rfl | hz
        · exact hb.2 y (by simp)
        · exact hb.2 z (by simp [hz])
      · simp only [spec_l11Any, T.rows_l]
        rw [hk]; simp only [T.rows_l]; rw [hk2]; simp only [T.int_i, T.rows_l]
        rw [cond_f (by rfl), cond_f (by rfl), cond_f (by rfl), cond_f (by rfl), cond_f (by rfl), cond_t (by rfl), dec_t (by simp <;> omega), hk3]
        simp only [T.rows_l]
        rw [dec_t (by simp <;> omega), dec_t (by simp)]
        rfl
  refine ⟨N, life, next, jobs, log, sure, i2, x2, ⟨d.bj, hjj⟩, by omega, h2, fun K => ?_⟩
  simp only [spec_l11Any, T.rows_l]
  rw [hk]; simp only [T.rows_l]; rw [hk2]; simp only [T.int_i, T.rows_l]
  rw [cond_f (by simpa using e0), cond_f (by simpa using e1), cond_f (by simpa using e2), cond_f (by simpa using e3), cond_f (by simpa using e4), cond_f (by simpa using e5)]
theorem drawBegin_ok {m : Nat} (hm : 1060200 ≤ m) (b : List (List T)) (hb : b.length ≤ 1048576) :
    ∃ (N life next : Int) (jobs : List DJob) (log : List DChoice) (sure : Int) (ops : List DOp), (BJobs jobs ∧ jobs.length ≤ 200) ∧ log.length ≤ 200 ∧ BOps ops ∧ ∀ K, spec_DrawBegin m (.l b) K = K (.i N) (.i life) (.i next) (.l (rJ jobs)) (.l (rC log)) (.i sure) (.l (rO ops)) := by
  obtain ⟨m, rfl⟩ : ∃ m', m = m' + 1 := ⟨m - 1, by omega⟩
  obtain ⟨x0, hk0⟩ := l1New_ok (m := m) hb (by omega)
  obtain ⟨s, s1, s2, hks⟩ := l1Size_ok (m := m) (by omega) b hb
  obtain ⟨N, life, next, jobs, log, sure, i1, x1, q1, q2, h1, hk⟩ := any_ok (m := m) (by omega) (b := b) (i := 0) ⟨by omega, by omega, hb⟩ x0 (s := s) ⟨by omega, s2⟩
  obtain ⟨ops, i2, x2, g1, g2, h2, hk2⟩ := l7Any_ok (m := m) (by omega) h1 x1
  refine ⟨N, life, next, jobs, log, sure, ops, q1, q2, g1, fun K => ?_⟩
  simp only [spec_DrawBegin, T.rows_l]
  rw [hk0]; simp only [T.rows_l]
  rw [hks, hk]; simp only [T.rows_l]
  rw [hk2]; rfl
end Go.Proofs.Ytajahiglgcogeaa

namespace Go.Proofs.Ytajahiglgcogeaa
open Go Go.E Go.Proofs
/-! plain: what begins keeps one who decides right -/
theorem logGo_mono (life next : Int) (full : List DChoice) : ∀ (l : List DChoice) (i : Nat), logGo life next full i l = true → logGo life (next + 1) full i l = true
  | [], i, h => rfl
  | x :: l, i, h => by
    simp only [logGo, Bool.and_eq_true, decide_eq_true_eq] at h ⊢
    exact ⟨⟨⟨h.1.1.1, by omega⟩, h.1.2⟩, logGo_mono life next full l (i + 1) h.2⟩
theorem logGo_le (life next : Int) (full : List DChoice) : ∀ (l : List DChoice) (i : Nat), logGo life next full i l = true → ∀ x ∈ l, x.tx ≤ life * 1000 + next - 1
  | [], i, h, x, hx => by cases hx
  | y :: l, i, h, x, hx => by
    simp only [logGo, Bool.and_eq_true, decide_eq_true_eq] at h
    rcases List.mem_cons.1 hx with rfl | hx
    · exact h.1.1.2
    · exact logGo_le life next full l (i + 1) h.2 x hx
theorem chIx_none (tx : Int) : ∀ l : List DChoice, (∀ x ∈ l, x.tx ≠ tx) → chIx tx l = none
  | [], _ => rfl
  | x :: l, h => by
    unfold chIx
    rw [if_neg (h x (by simp)), chIx_none tx l fun y hy => h y (by simp [hy])]
    rfl
theorem jobP_mono {N life next : Int} {log : List DChoice} {x : DJob} (h : jobP N life next log x = true) : jobP N life (next + 1) log x = true := by
  unfold jobP txOk at h ⊢
  simp only [Bool.and_eq_true, decide_eq_true_eq] at h ⊢
  exact ⟨⟨⟨⟨h.1.1.1.1, by omega⟩, h.1.1.2⟩, h.1.2⟩, h.2⟩
theorem jobP_tx {N life next : Int} {log : List DChoice} {x : DJob} (h : jobP N life next log x = true) : x.tx ≤ life * 1000 + next - 1 := by
  unfold jobP txOk at h
  simp only [Bool.and_eq_true, decide_eq_true_eq] at h
  exact h.1.1.1.2
theorem jobsGo_app {N life next : Int} {log : List DChoice} (new : DJob) (hn : new.tx = life * 1000 + next) (hp : jobP N life (next + 1) log new = true) : ∀ (l : List DJob) (p : Option DJob), (∀ q, p = some q → q.tx ≤ life * 1000 + next - 1) → jobsGo N life next log p l = true → jobsGo N life (next + 1) log p (l ++ [new]) = true
  | [], p, hq, h => by
    simp only [List.nil_append, jobsGo, hp, Bool.and_true]
    cases p with
    | none => rfl
    | some q => exact decide_eq_true (by have := hq q rfl; omega)
  | x :: l, p, hq, h => by
    simp only [List.cons_append, jobsGo, Bool.and_eq_true] at h ⊢
    exact ⟨⟨h.1.1, jobP_mono h.1.2⟩, jobsGo_app new hn hp l (some x) (fun q e => by cases e; exact jobP_tx h.1.2) h.2⟩
theorem coord_after {N life next : Int} {jobs : List DJob} {log : List DChoice} {sure : Int} {ops : List DOp} (h : begOk N life next jobs log sure ops = true) :
    coordOkP N life (next + 1) (jobs ++ [⟨life * 1000 + next, ops, 1, []⟩]) log sure = true ∧ (∀ x ∈ log, x.tx ≠ life * 1000 + next) ∧ (1 ≤ life ∧ life ≤ 900) ∧ (0 ≤ next ∧ next ≤ 998) := by
  unfold begOk at h
  simp only [Bool.and_eq_true, Bool.not_eq_true', beq_eq_false_iff_ne, decide_eq_true_eq] at h
  obtain ⟨hc, ho, h9, hl⟩ := h
  unfold coordOkP at hc ⊢
  simp only [Bool.and_eq_true, decide_eq_true_eq] at hc ⊢
  obtain ⟨q1, q2, q3, q4, q5, q6, q7⟩ := hc
  have hle := logGo_le life next log log 0 q6
  have hne : ∀ x ∈ log, x.tx ≠ life * 1000 + next := fun x hx => by have := hle x hx; omega
  refine ⟨⟨q1, q2, by omega, q4, q5, logGo_mono life next log log 0 q6, jobsGo_app _ rfl ?_ jobs none (fun q e => by cases e) q7⟩, hne, q2, by omega⟩
  unfold jobP txOk stateOk
  simp only [ho, Bool.and_true, Bool.and_eq_true, decide_eq_true_eq, chIx_none _ log hne]
  refine ⟨⟨⟨by omega, by omega⟩, rfl⟩, rfl⟩
/-! walks of the law -/
theorem sameOps_loop (m : Nat) : ∀ (post pre : List DOp), pre.length + post.length ≤ 1048576 → ∀ n, post.length < n → ∀ k0 k1,
    laws_sameOps_L0_0 m n (.l (rO (pre ++ post))) (.l (rO (pre ++ post))) (.i pre.length) k0 k1 = k1
  | [], pre, hs, n, hn, k0, k1 => by
    obtain ⟨n, rfl⟩ : ∃ m', n = m' + 1 := ⟨n - 1, by omega⟩
    simp only [laws_sameOps_L0_0, T.int_i, T.rows_l]
    rw [dec_f (by simp)]
  | x :: post, pre, hs, n, hn, k0, k1 => by
    obtain ⟨n, rfl⟩ : ∃ m', n = m' + 1 := ⟨n - 1, by omega⟩
    simp only [List.length_cons] at hs hn
    have ih := sameOps_loop m post (pre ++ [x]) (by simp; omega) n (by omega) k0 k1
    rw [len_snoc, List.append_assoc, List.singleton_append] at ih
    simp only [laws_sameOps_L0_0, T.int_i, T.rows_l, ixO, o0, o1, o2, T.str_s, ix_nx pre (by omega)]
    rw [dec_t (by simp; omega), dec_t (by simp; omega), dec_t (by simp; omega), cond_f (by simp)]
    exact ih
theorem sameOps_ok {m : Nat} (hm : 1048600 ≤ m) (l : List DOp) (hl : l.length ≤ 1048576) (K : T → An) : laws_sameOps m (.l (rO l)) (.l (rO l)) K = K (.b true) := by
  obtain ⟨m, rfl⟩ : ∃ m', m = m' + 1 := ⟨m - 1, by omega⟩
  simp only [laws_sameOps, T.rows_l]
  rw [cond_f (by simp)]
  exact sameOps_loop m l [] (by simpa using hl) m (by omega) _ _
theorem sameWord_ok {m : Nat} (hm : 1048610 ≤ m) (a s t : Int) (v : Bool) (l : List DOp) (hl : l.length ≤ 1048576) (K : T → An) : laws_sameWord m (.i a) (.i s) (.i t) (.l (rO l)) (.b v) (.i a) (.i s) (.i t) (.l (rO l)) (.b v) K = K (.b true) := by
  obtain ⟨m, rfl⟩ : ∃ m', m = m' + 1 := ⟨m - 1, by omega⟩
  simp only [laws_sameWord, T.rows_l, T.int_i, T.bool_b, beq_self_eq_true, cond_true]
  rw [sameOps_ok (by omega) l hl]
theorem ixW (tx : Int) (ops : List DOp) (N : Int) (pre : List Int) (x : Int) (post : List Int) : (wRows tx ops N (pre ++ x :: post)).getD (Int.toNat (pre.length : Int)) [] = wRow tx ops N x := by simp [wRows, List.getD]
theorem w0 (tx : Int) (ops : List DOp) (N s : Int) : (wRow tx ops N s).getD 0 dflt = .i 1 := rfl
theorem w1 (tx : Int) (ops : List DOp) (N s : Int) : (wRow tx ops N s).getD 1 dflt = .i s := rfl
theorem w2 (tx : Int) (ops : List DOp) (N s : Int) : (wRow tx ops N s).getD 2 dflt = .i tx := rfl
theorem w3 (tx : Int) (ops : List DOp) (N s : Int) : (wRow tx ops N s).getD 3 dflt = .l (rO (opsFor ops s N)) := rfl
theorem w4 (tx : Int) (ops : List DOp) (N s : Int) : (wRow tx ops N s).getD 4 dflt = .b false := rfl
theorem words_loop (m : Nat) (hm : 1050000 ≤ m) (N tx : Int) (ops : List DOp) (ho : BOps ops) (x6 x7 x8 x10 x11 x12 x13 : T) (c15 c16 c17 c18 : List (List T)) : ∀ (post pre : List Int), pre.length + post.length ≤ 1048576 → ∀ n, post.length < n → ∀ k0 k1,
    laws_FnBegan_L0_0 m n (.i 0) (.i 0) (.i tx) (.l (ir (pre ++ post))) (.i pre.length) (.i N) x6 x7 x8 (.l (rO ops)) x10 x11 x12 x13 (.l (wRows tx ops N (pre ++ post))) (.l c15) (.l c16) (.l c17) (.l c18) k0 k1 =
      k1 (.i 0) (.i 0) (.i tx) (.i N) x6 x7 x8 x10 x11 x12 x13 (.l c15) (.l c16) (.l c17) (.l c18)
  | [], pre, hs, n, hn, k0, k1 => by
    obtain ⟨n, rfl⟩ : ∃ m', n = m' + 1 := ⟨n - 1, by omega⟩
    simp only [laws_FnBegan_L0_0, T.int_i, T.rows_l]
    rw [dec_f (by simp [wRows_len])]
    rfl
  | x :: post, pre, hs, n, hn, k0, k1 => by
    obtain ⟨n, rfl⟩ : ∃ m', n = m' + 1 := ⟨n - 1, by omega⟩
    simp only [List.length_cons] at hs hn
    have ih := words_loop m hm N tx ops ho x6 x7 x8 x10 x11 x12 x13 c15 c16 c17 c18 post (pre ++ [x]) (by simp; omega) n (by omega) k0 k1
    rw [len_snoc, List.append_assoc, List.singleton_append] at ih
    have hol := ho.1
    have hfl := opsFor_len ops x N
    simp only [laws_FnBegan_L0_0, T.int_i, T.rows_l, ixI, ixW, w0, w1, w2, w3, w4, ix_nx pre (by omega), wRows_len, ir_len]
    rw [dec_t (by simp; omega), dec_t (by simp; omega), dec_t (by simp), dec_t (by simp; omega), dec_t (by simp; omega), implFor_ok (by omega) ops x N ho]
    simp only [T.rows_l]
    rw [sameWord_ok (by omega) 1 x tx false _ (by omega)]
    simp only [T.bool_b, Bool.not_true, cond_false]
    exact ih
theorem log_loop (m : Nat) (tx : Int) (x4 x5 x6 x7 x8 x9 x10 x11 : T) (c12 c14 c15 : List (List T)) : ∀ (post pre : List DChoice), (∀ x ∈ post, x.tx ≠ tx) → pre.length + post.length ≤ 1048576 → ∀ n, post.length < n → ∀ k0 k1,
    laws_FnBegan_L1_0 m n (.i 0) (.i 0) (.i tx) (.i pre.length) x4 x5 x6 x7 x8 x9 x10 x11 (.l c12) (.l (rC (pre ++ post))) (.l c14) (.l c15) k0 k1 = k1 (.i 0) (.i tx) x8 x9 x10 x11 (.l c14) (.l c15)
  | [], pre, hx, hs, n, hn, k0, k1 => by
    obtain ⟨n, rfl⟩ : ∃ m', n = m' + 1 := ⟨n - 1, by omega⟩
    simp only [laws_FnBegan_L1_0, T.int_i, T.rows_l]
    rw [dec_f (by simp)]
    rfl
  | x :: post, pre, hx, hs, n, hn, k0, k1 => by
    obtain ⟨n, rfl⟩ : ∃ m', n = m' + 1 := ⟨n - 1, by omega⟩
    simp only [List.length_cons] at hs hn
    have ih := log_loop m tx x4 x5 x6 x7 x8 x9 x10 x11 c12 c14 c15 post (pre ++ [x]) (fun y hy => hx y (by simp [hy])) (by simp; omega) n (by omega) k0 k1
    rw [len_snoc, List.append_assoc, List.singleton_append] at ih
    simp only [laws_FnBegan_L1_0, T.int_i, T.rows_l, ixC, c0, ix_nx pre (by omega)]
    rw [dec_t (by simp; omega), dec_t (by simp; omega), dec_t (by simp), cond_f (by simpa using hx x (by simp))]
    exact ih
theorem answer_no {m : Nat} (hm : 1050200 ≤ m) (N life next sure tx : Int) (jobs : List DJob) (log : List DChoice) (hj : BJobs jobs) (hl : log.length ≤ 1048576) (hc : coordOkP N life next jobs log sure = true) (h1 : 1000 ≤ tx) (h2 : life * 1000 ≤ tx) (h3 : chIx tx log = none) (K : T → T → An) :
    impl_Answer m (.i N) (.i life) (.i next) (.l (rJ jobs)) (.l (rC log)) (.i sure) (.i tx) K = K (.b false) (.b false) := by
  obtain ⟨m, rfl⟩ : ∃ m', m = m' + 2 := ⟨m - 2, by omega⟩
  obtain ⟨q1, q2, q3, q4⟩ := coordOk_r hc
  have e1 : IntKind.i64.wrap (life * 1000) = life * 1000 := wrap_i64 (by omega) (by omega)
  have r1 : row1 (.l [cRow N life next (rJ jobs) (rC log) (.i sure)]) = cRow N life next (rJ jobs) (rC log) (.i sure) := rfl
  have r2 : (cRow N life next (rJ jobs) (rC log) (.i sure)).take 6 = cRow N life next (rJ jobs) (rC log) (.i sure) := rfl
  have r3 : ((cRow N life next (rJ jobs) (rC log) (.i sure)).drop 1).getD 0 dflt = .i life := rfl
  simp only [impl_Answer, T.rows_l]
  rw [implCoord (by omega) N life next sure jobs log hj hl, hc]
  simp only [T.bool_b, Bool.not_true, cond_false, impl_Coord_answer, r1, r2, r3, T.int_i, e1]
  rw [dec_f (by omega), implChoice (by omega) (.i N) (.i life) (.i next) (.i sure) _ log tx hl]
  unfold chI
  rw [h3]
  simp only [T.int_i]
  rw [dec_t (by omega), decide_eq_false (by omega)]
theorem fnBegan_ok {m : Nat} (hm : 30000000 ≤ m) (b : List (List T)) (k : T → An) : laws_FnBegan m (.l b) k = k (.b true) := by
  obtain ⟨m, rfl⟩ : ∃ m', m = m' + 1 := ⟨m - 1, by omega⟩
  by_cases hb : (b.length : Int) > 1048576
  · obtain ⟨m, rfl⟩ : ∃ m', m = m' + 1 := ⟨m - 1, by omega⟩
    simp only [laws_FnBegan, laws_big, T.rows_l, T.bool_b]
    rw [dec_t hb]
  · obtain ⟨N, life, next, jobs, log, sure, ops, ⟨hj, hjl2⟩, hl, ho, hd⟩ := drawBegin_ok (m := m) (by omega) b (by omega)
    have sp := fun K => specBegin (m := m) (by omega) N life next sure jobs log ops hj (by omega) ho K
    have im := fun K => implBegin (m := m) (by omega) N life next sure jobs log ops hj (by omega) ho K
    have big : ∀ K, laws_big m (.l b) K = K (.b false) := fun K => by
      obtain ⟨m, rfl⟩ : ∃ m', m = m' + 1 := ⟨m - 1, by omega⟩
      simp only [laws_big, T.rows_l]
      rw [decide_eq_false hb]
    simp only [laws_FnBegan, T.rows_l]
    rw [big]
    simp only [T.bool_b, cond_false]
    rw [hd]
    simp only [T.rows_l]
    rw [im]
    simp only [T.rows_l]
    rw [sp]
    simp only [T.rows_l, T.int_i]
    cases hbk : begOk N life next jobs log sure ops with
    | false =>
      simp only [begNext, begJobs, begWords, begRes, jn, bne_self_eq_false, beq_self_eq_true, cond_true, T.bool_b, Bool.false_eq_true, if_false]
      rfl
    | true =>
      obtain ⟨ca, hne, q2, q3⟩ := coord_after hbk
      have hs := shardsP_len ops N
      have hol := ho.1
      have e3 : IntKind.i64.wrap (next + 1) = next + 1 := wrap_i64 (by omega) (by omega)
      have hjl := hj.1
      have hj2 : BJobs (jobs ++ [⟨life * 1000 + next, ops, 1, []⟩]) := ⟨by simp; omega, fun x hx => by
        rcases List.mem_append.1 hx with hx | hx
        · exact hj.2 x hx
        · simp at hx; subst hx; exact ⟨ho, by unfold BInts; simp⟩⟩
      simp only [begNext, begJobs, begWords, begRes, begTx, jn, bne_self_eq_false, beq_self_eq_true, cond_true, T.bool_b, if_true]
      rw [beq_eq_false_iff_ne.2 (show life * 1000 + next ≠ 0 by omega), cond_false, implShards (by omega) ops N ho]
      simp only [T.rows_l, ir_len, wRows_len, bne_self_eq_false, beq_self_eq_true, cond_true, e3]
      rw [implCoord (by omega) N life (next + 1) sure _ log hj2 (by omega), ca]
      simp only [T.bool_b, Bool.not_true, cond_false]
      refine (words_loop m (by omega) N _ ops ho _ _ _ _ _ _ _ _ _ _ _ (shardsP ops N) [] (by simp; omega) m (by omega) _ _).trans ?_
      simp only [T.rows_l]
      refine (log_loop m _ _ _ _ _ _ _ _ _ _ _ _ log [] hne (by simp; omega) m (by omega) _ _).trans ?_
      simp only [T.rows_l]
      rw [answer_no (by omega) N life (next + 1) sure _ _ log hj2 (by omega) ca (by omega) (by omega) (chIx_none _ log hne)]
      rfl
end Go.Proofs.Ytajahiglgcogeaa

