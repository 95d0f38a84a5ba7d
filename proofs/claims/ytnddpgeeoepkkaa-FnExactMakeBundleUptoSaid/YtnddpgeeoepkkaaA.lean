/- A part of the proof: texts S8B, S8C, S8D, S8E, S8F, S8G, S8I, S8J, S8K, S8L, S8Q, S8M, S8R, S8T, S8AA, S8AB, S8AD, S8AE: see the last part's opening words. -/
import Derived.Test.YtnddpgeeoepkkaaP
set_option linter.unusedVariables false
set_option linter.unusedSimpArgs false
set_option linter.unnecessarySimpa false
namespace Go.Proofs.Ytnddpgeeoepkkaa
open Go Go.E Go.Proofs
theorem wrap_u64 {x : Int} (h1 : 0 ≤ x) (h2 : x < 18446744073709551616) : IntKind.u64.wrap x = x := by
  have e64 : (2 : Int) ^ 64 = 18446744073709551616 := by decide
  simp only [IntKind.wrap, IntKind.bits, IntKind.signed, Bool.false_and, Bool.false_eq_true, if_false, e64]
  omega
theorem fdiv_nat (x n : Nat) : Int.fdiv (x : Int) ((2 : Int) ^ n) = ((x / 2 ^ n : Nat) : Int) := by
  have e : ((2 : Int) ^ n) = ((2 ^ n : Nat) : Int) := by simp
  rw [e, Int.fdiv_eq_ediv_of_nonneg _ (Int.natCast_nonneg _)]
  rfl
theorem turn_ok {m x n : Nat} {z : Int} (hm : 1 ≤ m) (hx : x < 4294967296) (h1 : 1 ≤ n) (h2 : n ≤ 31) (hz : z = (n : Int)) (k : T → An) : spec_l2Turn m (.i (x : Int)) (.i z) k = k (.i (rotN x n : Nat)) := by
  subst hz
  obtain ⟨m, rfl⟩ : ∃ m', m = m' + 1 := ⟨m - 1, by omega⟩
  have e1 : IntKind.u64.wrap (n : Int) = n := wrap_u64 (by omega) (by omega)
  have e2 : IntKind.i64.wrap (32 - (n : Int)) = ((32 - n : Nat) : Int) := by rw [wrap_i64 (by omega) (by omega)]; omega
  have e3 : IntKind.u64.wrap (((32 - n : Nat) : Int)) = ((32 - n : Nat) : Int) := wrap_u64 (by omega) (by omega)
  have e4 : min n IntKind.i64.bits = n := Nat.min_eq_left (by show n ≤ 64; omega)
  have e5 : min (32 - n) IntKind.i64.bits = 32 - n := Nat.min_eq_left (by show 32 - n ≤ 64; omega)
  have p1 : 2 ^ (32 - n) ≤ 2147483648 := Nat.le_trans (Nat.pow_le_pow_right (by omega) (show 32 - n ≤ 31 by omega)) (by decide)
  have p2 : x * 2 ^ (32 - n) < 9223372036854775808 := by
    have : x * 2 ^ (32 - n) ≤ 4294967295 * 2147483648 := Nat.mul_le_mul (by omega) p1
    omega
  have p3 : x / 2 ^ n ≤ x := Nat.div_le_self _ _
  have e6 : IntKind.i64.wrap ((x : Int) * 2 ^ (32 - n)) = ((x * 2 ^ (32 - n) : Nat) : Int) := by
    have e : (x : Int) * 2 ^ (32 - n) = ((x * 2 ^ (32 - n) : Nat) : Int) := by simp
    rw [e, wrap_i64 (by omega) (by omega)]
  simp only [spec_l2Turn, T.int_i, e1, e2, e3, Int.toNat_natCast, e4, e5, fdiv_nat, e6]
  rw [dec_t (by omega), dec_t (by omega), or64 (by omega) p2]
  have p4 : x / 2 ^ n ||| x * 2 ^ (32 - n) < 9223372036854775808 := Nat.or_lt_two_pow (n := 63) (by omega) p2
  simp only [T.int_i]
  rw [mask64 p4]
  rfl
end Go.Proofs.Ytnddpgeeoepkkaa

namespace Go.Proofs.Ytnddpgeeoepkkaa
open Go Go.E Go.Proofs
/-! the padding -/
def nr (l : List Nat) : List (List T) := l.map fun (x : Nat) => [T.i (Int.ofNat x)]
theorem nr_len (l : List Nat) : (nr l).length = l.length := by simp [nr]
theorem nr_app (a b : List Nat) : nr (a ++ b) = nr a ++ nr b := by simp [nr]
theorem nr_snoc (a : List Nat) (x : Nat) : nr a ++ [[T.i (x : Int)]] = nr (a ++ [x]) := by simp [nr]
theorem nr_get (l : List Nat) (i : Nat) (h : i < l.length) : ((nr l).getD i []).getD 0 dflt = .i ((l.getD i 0 : Nat) : Int) := by
  simp [nr, List.getD, h]
theorem padL0 (m : Nat) (x0 : T) : ∀ (z : Nat) (l : List Nat), z = (120 - l.length % 64) % 64 → l.length + z ≤ 1099511627776 → ∀ n, z < n → ∀ k0,
    spec_Padded_L0_0 m n x0 (.l (nr l)) k0 = k0 x0 (.l (nr (l ++ List.replicate z 0)))
  | 0, l, hz, hl, n, hn, k0 => by
    obtain ⟨n, rfl⟩ : ∃ m', n = m' + 1 := ⟨n - 1, by omega⟩
    have e : Int.tmod (l.length : Int) 64 = 56 := by
      rw [show (64 : Int) = ((64 : Nat) : Int) from rfl, ← Int.ofNat_tmod]; omega
    simp only [spec_Padded_L0_0, T.rows_l, nr_len, e]
    simp
  | z + 1, l, hz, hl, n, hn, k0 => by
    obtain ⟨n, rfl⟩ : ∃ m', n = m' + 1 := ⟨n - 1, by omega⟩
    have e : Int.tmod (l.length : Int) 64 = ((l.length % 64 : Nat) : Int) := by
      rw [show (64 : Int) = ((64 : Nat) : Int) from rfl, ← Int.ofNat_tmod]
    have ih := padL0 m x0 z (l ++ [0]) (by simp; omega) (by simp; omega) n (by omega) k0
    simp only [spec_Padded_L0_0, T.rows_l, nr_len, e]
    rw [cond_t (by simp; omega), dec_t (by unfold maxRow; omega)]
    rw [show nr l ++ [[T.i 0]] = nr (l ++ [0]) from nr_snoc l 0, ih]
    simp [List.replicate_succ]
def tailB (N : Nat) : Nat → List Nat
  | 0 => []
  | j + 1 => (N / 2 ^ (8 * j)) % 256 :: tailB N j
theorem wrap_u8 (x : Nat) : IntKind.u8.wrap (x : Int) = ((x % 256 : Nat) : Int) := by
  have e : (2 : Int) ^ 8 = 256 := by decide
  simp only [IntKind.wrap, IntKind.bits, IntKind.signed, Bool.false_and, Bool.false_eq_true, if_false, e]
  omega
theorem padL1 (m N : Nat) : ∀ (j : Nat), j ≤ 8 → ∀ (l : List Nat), l.length + j ≤ 1099511627776 → ∀ n, j < n → ∀ k0,
    spec_Padded_L1_0 m n (.i (N : Int)) (.i (8 * (j : Int) - 8)) (.l (nr l)) k0 = k0 (.l (nr (l ++ tailB N j)))
  | 0, _, l, hl, n, hn, k0 => by
    obtain ⟨n, rfl⟩ : ∃ m', n = m' + 1 := ⟨n - 1, by omega⟩
    simp only [spec_Padded_L1_0, T.rows_l, T.int_i, tailB, List.append_nil]
    rw [dec_f (by simp)]
  | j + 1, hj, l, hl, n, hn, k0 => by
    obtain ⟨n, rfl⟩ : ∃ m', n = m' + 1 := ⟨n - 1, by omega⟩
    have ih := padL1 m N j (by omega) (l ++ [(N / 2 ^ (8 * j)) % 256]) (by simp; omega) n (by omega) k0
    have e1 : (8 * ((j + 1 : Nat) : Int) - 8) = ((8 * j : Nat) : Int) := by omega
    have e2 : IntKind.u64.wrap (((8 * j : Nat)) : Int) = ((8 * j : Nat) : Int) := wrap_u64 (by omega) (by omega)
    have e3 : min (8 * j) IntKind.i64.bits = 8 * j := Nat.min_eq_left (by show 8 * j ≤ 64; omega)
    have e4 : IntKind.i64.wrap (((8 * j : Nat) : Int) - 8) = 8 * (j : Int) - 8 := by rw [wrap_i64 (by omega) (by omega)]; omega
    simp only [spec_Padded_L1_0, T.rows_l, T.int_i, e1, e2, Int.toNat_natCast, e3, e4, nr_len, fdiv_nat, wrap_u8]
    rw [dec_t (by omega), dec_t (by omega), dec_t (by unfold maxRow; omega), nr_snoc, ih]
    simp [tailB]
theorem pad_ok {m : Nat} (l : List Nat) (hl : l.length ≤ 1073741824) (hm : 200 ≤ m) (k : T → An) : spec_Padded m (.l (nr l)) k = k (.l (nr (padN l))) := by
  obtain ⟨m, rfl⟩ : ∃ m', m = m' + 1 := ⟨m - 1, by omega⟩
  simp only [spec_Padded, T.rows_l, nr_len]
  rw [dec_t (by unfold maxRow; omega), dec_t (by unfold maxRow; omega), show nr l ++ [[T.i 128]] = nr (l ++ [128]) from nr_snoc l 128]
  rw [padL0 m _ ((119 - l.length % 64) % 64) (l ++ [128]) (by simp; omega) (by simp; omega) m (by omega)]
  simp only [T.rows_l, nr_len]
  have e : IntKind.i64.wrap ((l.length : Int) * 8) = ((8 * l.length : Nat) : Int) := by rw [wrap_i64 (by omega) (by omega)]; omega
  rw [e]
  have := padL1 m (8 * l.length) 8 (by omega) (l ++ [128] ++ List.replicate ((119 - l.length % 64) % 64) 0) (by simp; omega) m (by omega) (fun y2 => k (.l y2.rows))
  rw [show (8 * ((8 : Nat) : Int) - 8) = 56 from rfl] at this
  rw [this]
  rfl
end Go.Proofs.Ytnddpgeeoepkkaa

namespace Go.Proofs.Ytnddpgeeoepkkaa
open Go Go.E Go.Proofs
/-! the words of a block -/
theorem nr_i (l : List Nat) (i : Nat) (h : i < l.length) : (((nr l).getD i []).getD 0 dflt).int = ((l.getD i 0 : Nat) : Int) := by rw [nr_get l i h]; rfl
theorem wrapN {x : Nat} (h : x < 9223372036854775808) : IntKind.i64.wrap (x : Int) = (x : Int) := wrap_i64 (by omega) (by omega)
def beW (a b c d : Nat) : Nat := ((a * 2 ^ 24 ||| b * 2 ^ 16) ||| c * 2 ^ 8) ||| d
theorem be_ok {a b c d : Nat} (ha : a < 256) (hb : b < 256) (hc : c < 256) (hd : d < 256) :
    (bvBack .i64 (BitVec.ofInt IntKind.i64.bits (bvBack .i64 (BitVec.ofInt IntKind.i64.bits (bvBack .i64 (BitVec.ofInt IntKind.i64.bits (IntKind.i64.wrap ((IntKind.i64.wrap (a : Int)) * 2 ^ (min (Int.toNat 24) IntKind.i64.bits))) ||| BitVec.ofInt IntKind.i64.bits (IntKind.i64.wrap ((IntKind.i64.wrap (b : Int)) * 2 ^ (min (Int.toNat 16) IntKind.i64.bits))))).int ||| BitVec.ofInt IntKind.i64.bits (IntKind.i64.wrap ((IntKind.i64.wrap (c : Int)) * 2 ^ (min (Int.toNat 8) IntKind.i64.bits))))).int ||| BitVec.ofInt IntKind.i64.bits (IntKind.i64.wrap (d : Int)))) = .i ((beW a b c d : Nat) : Int) := by
  have e1 : ∀ x : Nat, (x : Int) * 2 ^ (min (Int.toNat 24) IntKind.i64.bits) = ((x * 2 ^ 24 : Nat) : Int) := fun x => by rw [show min (Int.toNat 24) IntKind.i64.bits = 24 from rfl]; simp
  have e2 : ∀ x : Nat, (x : Int) * 2 ^ (min (Int.toNat 16) IntKind.i64.bits) = ((x * 2 ^ 16 : Nat) : Int) := fun x => by rw [show min (Int.toNat 16) IntKind.i64.bits = 16 from rfl]; simp
  have e3 : ∀ x : Nat, (x : Int) * 2 ^ (min (Int.toNat 8) IntKind.i64.bits) = ((x * 2 ^ 8 : Nat) : Int) := fun x => by rw [show min (Int.toNat 8) IntKind.i64.bits = 8 from rfl]; simp
  have p1 : a * 2 ^ 24 ||| b * 2 ^ 16 < 9223372036854775808 := Nat.or_lt_two_pow (n := 63) (by omega) (by omega)
  have p2 : (a * 2 ^ 24 ||| b * 2 ^ 16) ||| c * 2 ^ 8 < 9223372036854775808 := Nat.or_lt_two_pow (n := 63) p1 (by omega)
  rw [wrapN (x := a) (by omega), wrapN (x := b) (by omega), wrapN (x := c) (by omega), wrapN (x := d) (by omega), e1, e2, e3, wrapN (x := a * 2 ^ 24) (by omega), wrapN (x := b * 2 ^ 16) (by omega), wrapN (x := c * 2 ^ 8) (by omega),
    or64 (by omega) (by omega)]
  simp only [T.int_i]
  rw [or64 p1 (by omega)]
  simp only [T.int_i]
  rw [or64 p2 (by omega)]
  rfl
theorem beW_lt {a b c d : Nat} (ha : a < 256) (hb : b < 256) (hc : c < 256) (hd : d < 256) : beW a b c d < 4294967296 :=
  Nat.or_lt_two_pow (n := 32) (Nat.or_lt_two_pow (n := 32) (Nat.or_lt_two_pow (n := 32) (by omega) (by omega)) (by omega)) (by omega)
def wAt (b : List Nat) (i : Nat) : Nat := beW (b.getD (4 * i) 0) (b.getD (4 * i + 1) 0) (b.getD (4 * i + 2) 0) (b.getD (4 * i + 3) 0)
theorem w16_eq (b : List Nat) : w16 b = (List.range 16).map (wAt b) := rfl
def Bytes (b : List Nat) : Prop := ∀ i, b.getD i 0 < 256
theorem wL0 (m : Nat) (b : List Nat) (hb : Bytes b) (hl : 64 ≤ b.length) : ∀ (j i : Nat), i + j = 16 → ∀ n, j < n → ∀ k0,
    spec_l2Words_L0_0 m n (.l (nr b)) (.i (i : Int)) (.l (nr ((List.range i).map (wAt b)))) k0 = k0 (.l (nr (w16 b)))
  | 0, i, h, n, hn, k0 => by
    obtain ⟨n, rfl⟩ : ∃ m', n = m' + 1 := ⟨n - 1, by omega⟩
    have : i = 16 := by omega
    subst this
    simp only [spec_l2Words_L0_0, T.rows_l, T.int_i]
    rw [dec_f (by omega)]
    rfl
  | j + 1, i, h, n, hn, k0 => by
    obtain ⟨n, rfl⟩ : ∃ m', n = m' + 1 := ⟨n - 1, by omega⟩
    have ih := wL0 m b hb hl j (i + 1) (by omega) n (by omega) k0
    have f0 : IntKind.i64.wrap (4 * (i : Int)) = ((4 * i : Nat) : Int) := by rw [wrap_i64 (by omega) (by omega)]; omega
    have f1 : IntKind.i64.wrap (((4 * i : Nat) : Int) + 1) = ((4 * i + 1 : Nat) : Int) := by rw [wrap_i64 (by omega) (by omega)]; omega
    have f2 : IntKind.i64.wrap (((4 * i : Nat) : Int) + 2) = ((4 * i + 2 : Nat) : Int) := by rw [wrap_i64 (by omega) (by omega)]; omega
    have f3 : IntKind.i64.wrap (((4 * i : Nat) : Int) + 3) = ((4 * i + 3 : Nat) : Int) := by rw [wrap_i64 (by omega) (by omega)]; omega
    have f4 : IntKind.i64.wrap ((i : Int) + 1) = ((i + 1 : Nat) : Int) := by rw [wrap_i64 (by omega) (by omega)]; omega
    simp only [spec_l2Words_L0_0, T.rows_l, T.int_i, f0, f1, f2, f3, f4, Int.toNat_natCast, nr_len, nr_i b (4 * i) (by omega), nr_i b (4 * i + 1) (by omega), nr_i b (4 * i + 2) (by omega), nr_i b (4 * i + 3) (by omega), be_ok (hb _) (hb _) (hb _) (hb _)]
    rw [dec_t (by omega), dec_t (by omega), dec_t (by omega), dec_t (by omega), dec_t (by omega), dec_t (by simp; unfold maxRow; omega)]
    have e : (nr ((List.range i).map (wAt b)) ++ [[T.i ((beW (b.getD (4 * i) 0) (b.getD (4 * i + 1) 0) (b.getD (4 * i + 2) 0) (b.getD (4 * i + 3) 0) : Nat) : Int)]]) = nr ((List.range (i + 1)).map (wAt b)) := by
      rw [nr_snoc, List.range_succ, List.map_append]; rfl
    rw [e]
    exact ih
end Go.Proofs.Ytnddpgeeoepkkaa

namespace Go.Proofs.Ytnddpgeeoepkkaa
open Go Go.E Go.Proofs
def W32 (w : List Nat) : Prop := ∀ i, w.getD i 0 < 4294967296
theorem xor3_ok {a b c : Nat} (ha : a < 4294967296) (hb : b < 4294967296) (hc : c < 4294967296) :
    bvBack .i64 (BitVec.ofInt IntKind.i64.bits (bvBack .i64 (BitVec.ofInt IntKind.i64.bits (a : Int) ^^^ BitVec.ofInt IntKind.i64.bits (b : Int))).int ^^^ BitVec.ofInt IntKind.i64.bits (c : Int)) = .i ((a ^^^ b ^^^ c : Nat) : Int) := by
  have p1 : a ^^^ b < 4294967296 := Nat.xor_lt_two_pow (n := 32) ha hb
  rw [xor64 (by omega) (by omega)]
  simp only [T.int_i]
  rw [xor64 (by omega) (by omega)]
theorem sg0_lt {x : Nat} (h : x < 4294967296) : sg0 x < 4294967296 := Nat.xor_lt_two_pow (n := 32) (Nat.xor_lt_two_pow (n := 32) (rotN_lt _ _) (rotN_lt _ _)) (Nat.lt_of_le_of_lt (Nat.div_le_self _ _) h)
theorem sg1_lt {x : Nat} (h : x < 4294967296) : sg1 x < 4294967296 := Nat.xor_lt_two_pow (n := 32) (Nat.xor_lt_two_pow (n := 32) (rotN_lt _ _) (rotN_lt _ _)) (Nat.lt_of_le_of_lt (Nat.div_le_self _ _) h)
theorem W32_snoc {w : List Nat} (h : W32 w) {x : Nat} (hx : x < 4294967296) : W32 (w ++ [x]) := by
  intro i
  rcases Nat.lt_or_ge i w.length with hi | hi
  · have := h i
    simpa [List.getD, List.getElem?_append_left hi] using this
  · rw [List.getD, List.getElem?_append_right hi]
    rcases Nat.eq_zero_or_pos (i - w.length) with h0 | h0
    · rw [h0]; simpa using hx
    · rw [List.getElem?_eq_none (by simp; omega)]; simp
theorem wL1 (m : Nat) (hm : 1 ≤ m) : ∀ (j : Nat) (w : List Nat), w.length + j = 64 → 16 ≤ w.length → W32 w → ∀ n, j < n → ∀ k0,
    spec_l2Words_L1_0 m n (.i (w.length : Int)) (.l (nr w)) k0 = k0 (.l (nr (wExt j w)))
  | 0, w, h, h2, hw, n, hn, k0 => by
    obtain ⟨n, rfl⟩ : ∃ m', n = m' + 1 := ⟨n - 1, by omega⟩
    simp only [spec_l2Words_L1_0, T.rows_l, T.int_i, wExt]
    rw [dec_f (by omega)]
  | j + 1, w, h, h2, hw, n, hn, k0 => by
    obtain ⟨n, rfl⟩ : ∃ m', n = m' + 1 := ⟨n - 1, by omega⟩
    have hx := hw (w.length - 15)
    have hy := hw (w.length - 2)
    have hp := hw (w.length - 16)
    have hq := hw (w.length - 7)
    have s0 := sg0_lt hx
    have s1 := sg1_lt hy
    have ih := wL1 m hm j (w ++ [(w.getD (w.length - 16) 0 + sg0 (w.getD (w.length - 15) 0) + w.getD (w.length - 7) 0 + sg1 (w.getD (w.length - 2) 0)) % M32]) (by simp; omega) (by simp; omega)
      (W32_snoc hw (Nat.mod_lt _ (by unfold M32; omega))) n (by omega) k0
    have g1 : IntKind.i64.wrap ((w.length : Int) - 15) = ((w.length - 15 : Nat) : Int) := by rw [wrap_i64 (by omega) (by omega)]; omega
    have g2 : IntKind.i64.wrap ((w.length : Int) - 2) = ((w.length - 2 : Nat) : Int) := by rw [wrap_i64 (by omega) (by omega)]; omega
    have g3 : IntKind.i64.wrap ((w.length : Int) - 16) = ((w.length - 16 : Nat) : Int) := by rw [wrap_i64 (by omega) (by omega)]; omega
    have g4 : IntKind.i64.wrap ((w.length : Int) - 7) = ((w.length - 7 : Nat) : Int) := by rw [wrap_i64 (by omega) (by omega)]; omega
    have g5 : IntKind.i64.wrap ((w.length : Int) + 1) = ((w.length + 1 : Nat) : Int) := by rw [wrap_i64 (by omega) (by omega)]; omega
    have e3 : (min (Int.toNat 3) IntKind.i64.bits) = 3 := rfl
    have e10 : (min (Int.toNat 10) IntKind.i64.bits) = 10 := rfl
    simp only [spec_l2Words_L1_0, T.rows_l, T.int_i, g1, g2, g3, g4, g5, Int.toNat_natCast, nr_len, nr_get w (w.length - 15) (by omega), nr_get w (w.length - 2) (by omega), nr_get w (w.length - 16) (by omega), nr_get w (w.length - 7) (by omega), e3, e10, fdiv_nat]
    rw [dec_t (by omega), dec_t (by omega), dec_t (by omega), dec_t (by omega), dec_t (by omega)]
    rw [turn_ok (z := 7) (n := 7) hm hx (by omega) (by omega) rfl, turn_ok (z := 18) (n := 18) hm hx (by omega) (by omega) rfl, turn_ok (z := 17) (n := 17) hm hy (by omega) (by omega) rfl, turn_ok (z := 19) (n := 19) hm hy (by omega) (by omega) rfl]
    rw [dec_t (by omega), dec_t (by omega), dec_t (by omega), dec_t (by omega), dec_t (by unfold maxRow; omega)]
    simp only [T.int_i]
    rw [xor3_ok (rotN_lt _ _) (rotN_lt _ _) (Nat.lt_of_le_of_lt (Nat.div_le_self _ _) hx), xor3_ok (rotN_lt _ _) (rotN_lt _ _) (Nat.lt_of_le_of_lt (Nat.div_le_self _ _) hy)]
    simp only [T.int_i]
    have a1 : IntKind.i64.wrap (((w.getD (w.length - 16) 0 : Nat) : Int) + ((rotN (w.getD (w.length - 15) 0) 7 ^^^ rotN (w.getD (w.length - 15) 0) 18 ^^^ w.getD (w.length - 15) 0 / 2 ^ 3 : Nat) : Int)) = ((w.getD (w.length - 16) 0 + sg0 (w.getD (w.length - 15) 0) : Nat) : Int) :=
      wrapN (x := w.getD (w.length - 16) 0 + sg0 (w.getD (w.length - 15) 0)) (by omega)
    rw [a1]
    have a2 : IntKind.i64.wrap (((w.getD (w.length - 16) 0 + sg0 (w.getD (w.length - 15) 0) : Nat) : Int) + ((w.getD (w.length - 7) 0 : Nat) : Int)) = ((w.getD (w.length - 16) 0 + sg0 (w.getD (w.length - 15) 0) + w.getD (w.length - 7) 0 : Nat) : Int) :=
      wrapN (x := w.getD (w.length - 16) 0 + sg0 (w.getD (w.length - 15) 0) + w.getD (w.length - 7) 0) (by omega)
    rw [a2]
    have a3 : IntKind.i64.wrap (((w.getD (w.length - 16) 0 + sg0 (w.getD (w.length - 15) 0) + w.getD (w.length - 7) 0 : Nat) : Int) + ((rotN (w.getD (w.length - 2) 0) 17 ^^^ rotN (w.getD (w.length - 2) 0) 19 ^^^ w.getD (w.length - 2) 0 / 2 ^ 10 : Nat) : Int)) = ((w.getD (w.length - 16) 0 + sg0 (w.getD (w.length - 15) 0) + w.getD (w.length - 7) 0 + sg1 (w.getD (w.length - 2) 0) : Nat) : Int) :=
      wrapN (x := w.getD (w.length - 16) 0 + sg0 (w.getD (w.length - 15) 0) + w.getD (w.length - 7) 0 + sg1 (w.getD (w.length - 2) 0)) (by omega)
    rw [a3, mask64 (by omega), nr_snoc]
    rw [show ((w.length + 1 : Nat) : Int) = (((w ++ [(w.getD (w.length - 16) 0 + sg0 (w.getD (w.length - 15) 0) + w.getD (w.length - 7) 0 + sg1 (w.getD (w.length - 2) 0)) % M32]).length : Nat) : Int) by simp, ih]
    rfl
end Go.Proofs.Ytnddpgeeoepkkaa

namespace Go.Proofs.Ytnddpgeeoepkkaa
open Go Go.E Go.Proofs
theorem getD_map_range (f : Nat → Nat) (n i : Nat) : ((List.range n).map f).getD i 0 = if i < n then f i else 0 := by
  by_cases h : i < n
  · simp [List.getD, h]
  · simp [List.getD, h]
theorem w16_W32 {b : List Nat} (hb : Bytes b) : W32 (w16 b) := by
  have key : ∀ i, wAt b i < 4294967296 := fun i => beW_lt (hb _) (hb _) (hb _) (hb _)
  have e := getD_map_range (wAt b) 16
  have e2 := w16_eq b
  generalize w16 b = l at e2 ⊢
  generalize wAt b = f at key e e2
  subst e2
  unfold W32
  intro i
  rw [e i]
  split
  · exact key i
  · omega
theorem w16_len (b : List Nat) : (w16 b).length = 16 := by
  rw [w16_eq, List.length_map, List.length_range]
theorem words_ok {m : Nat} (b : List Nat) (hb : Bytes b) (hl : 64 ≤ b.length) (hm : 100 ≤ m) (k : T → An) : spec_l2Words m (.l (nr b)) k = k (.l (nr (words b))) := by
  obtain ⟨m, rfl⟩ : ∃ m', m = m' + 1 := ⟨m - 1, by omega⟩
  have e0 : words b = wExt 48 (w16 b) := by unfold words; rfl
  rw [e0]
  have h16 := w16_len b
  have h32 := w16_W32 hb
  have h1 := fun k0 => wL0 m b hb hl 16 0 (by omega) m (by omega) k0
  generalize w16 b = w at h16 h32 h1 ⊢
  have h2 := fun k0 => wL1 m (by omega) 48 w (by omega) (by omega) h32 m (by omega) k0
  rw [h16] at h2
  generalize wExt 48 w = r at h2 ⊢
  simp only [spec_l2Words, T.rows_l]
  have e1 : (T.l [] : T) = .l (nr ((List.range 0).map (wAt b))) := rfl
  have e2 : (T.i 0 : T) = .i ((0 : Nat) : Int) := rfl
  rw [e1, e2, h1]
  have e3 : (T.i 16 : T) = .i ((16 : Nat) : Int) := rfl
  simp only [T.rows_l]
  rw [e3, h2]
  rfl
end Go.Proofs.Ytnddpgeeoepkkaa

namespace Go.Proofs.Ytnddpgeeoepkkaa
open Go Go.E Go.Proofs
theorem l2K_ok {m : Nat} (hm : 1 ≤ m) (k : T → An) : spec_l2K m k = k (.l (nr kN)) := by
  obtain ⟨m, rfl⟩ : ∃ m', m = m' + 1 := ⟨m - 1, by omega⟩
  rfl
end Go.Proofs.Ytnddpgeeoepkkaa

namespace Go.Proofs.Ytnddpgeeoepkkaa
open Go Go.E Go.Proofs
theorem nr_set (v : List Nat) (i x : Nat) : (nr v).set i [T.i (x : Int)] = nr (v.set i x) := by
  unfold nr
  rw [List.map_set]
  rfl
theorem nr_row (v : List Nat) (i : Nat) (h : i < v.length) : (nr v).getD i [] = [T.i ((v.getD i 0 : Nat) : Int)] := by
  simp [nr, List.getD, h]
/-- the sums behind the turns -/
def addH (h : List Nat) : Nat → Nat → List Nat → List Nat
  | 0, _, v => v
  | j + 1, i, v => addH h j (i + 1) (v.set i ((v.getD i 0 + h.getD i 0) % M32))
theorem W32_set {v : List Nat} (hv : W32 v) (i x : Nat) (hx : x < 4294967296) : W32 (v.set i x) := by
  intro j
  have := hv j
  simp only [List.getD, List.getElem?_set] at this ⊢
  split
  · split
    · simpa using hx
    · simp
  · exact this
theorem blkL1 (m : Nat) (h : List Nat) (hh : W32 h) (hl : h.length = 8) : ∀ (j i : Nat) (v : List Nat), i + j = 8 → v.length = 8 → W32 v → ∀ n, j < n → ∀ k0,
    spec_l2Block_L1_0 m n (.l (nr h)) (.i (i : Int)) (.l (nr v)) k0 = k0 (.l (nr (addH h j i v)))
  | 0, i, v, hij, hvl, hv, n, hn, k0 => by
    obtain ⟨n, rfl⟩ : ∃ m', n = m' + 1 := ⟨n - 1, by omega⟩
    simp only [spec_l2Block_L1_0, T.rows_l, T.int_i, addH]
    rw [dec_f (by omega)]
  | j + 1, i, v, hij, hvl, hv, n, hn, k0 => by
    obtain ⟨n, rfl⟩ : ∃ m', n = m' + 1 := ⟨n - 1, by omega⟩
    have h1 := hv i
    have h2 := hh i
    have ih := blkL1 m h hh hl j (i + 1) (v.set i ((v.getD i 0 + h.getD i 0) % M32)) (by omega) (by simpa using hvl) (W32_set hv _ _ (Nat.mod_lt _ (by unfold M32; omega))) n (by omega) k0
    have f4 : IntKind.i64.wrap ((i : Int) + 1) = ((i + 1 : Nat) : Int) := by rw [wrap_i64 (by omega) (by omega)]; omega
    have f5 : IntKind.i64.wrap (((v.getD i 0 : Nat) : Int) + ((h.getD i 0 : Nat) : Int)) = ((v.getD i 0 + h.getD i 0 : Nat) : Int) := wrapN (x := v.getD i 0 + h.getD i 0) (by omega)
    simp only [spec_l2Block_L1_0, T.rows_l, T.int_i, f4, Int.toNat_natCast, nr_len, nr_row v i (by omega), nr_row h i (by omega), List.getD_cons_zero, f5]
    rw [dec_t (by omega), dec_t (by omega), dec_t (by omega), dec_t (by omega), dec_t (by omega), dec_t (by omega), mask64 (by omega)]
    rw [show [T.i ((v.getD i 0 : Nat) : Int)].set 0 (T.i (((v.getD i 0 + h.getD i 0) % M32 : Nat) : Int)) = [T.i (((v.getD i 0 + h.getD i 0) % M32 : Nat) : Int)] from rfl, nr_set]
    exact ih
end Go.Proofs.Ytnddpgeeoepkkaa

namespace Go.Proofs.Ytnddpgeeoepkkaa
open Go Go.E Go.Proofs
/-! one turn: its parts as they are printed -/
theorem and32 {a b : Nat} (ha : a < 4294967296) (hb : b < 4294967296) : bvBack .i64 (BitVec.ofInt IntKind.i64.bits (a : Int) &&& BitVec.ofInt IntKind.i64.bits (b : Int)) = .i ((a &&& b : Nat) : Int) := and64 (by omega) (by omega)
theorem xor32 {a b : Nat} (ha : a < 4294967296) (hb : b < 4294967296) : bvBack .i64 (BitVec.ofInt IntKind.i64.bits (a : Int) ^^^ BitVec.ofInt IntKind.i64.bits (b : Int)) = .i ((a ^^^ b : Nat) : Int) := xor64 (by omega) (by omega)
theorem and_lt {a b : Nat} (ha : a < 4294967296) : a &&& b < 4294967296 := Nat.lt_of_le_of_lt Nat.and_le_left ha
theorem xor_lt {a b : Nat} (ha : a < 4294967296) (hb : b < 4294967296) : a ^^^ b < 4294967296 := Nat.xor_lt_two_pow (n := 32) ha hb
theorem not32 {e : Nat} (he : e < 4294967296) : bvBack .i64 (BitVec.ofInt IntKind.i64.bits 4294967295 ^^^ BitVec.ofInt IntKind.i64.bits (e : Int)) = .i ((4294967295 - e : Nat) : Int) := by
  have := xor32 (a := 4294967295) (b := e) (by omega) he
  rw [show ((4294967295 : Nat) : Int) = 4294967295 from rfl] at this
  rw [this]
  congr 2
  have h1 := Nat.xor_lt_two_pow (x := 4294967295) (y := e) (n := 32) (by omega) he
  apply Nat.eq_of_testBit_eq
  intro i
  rw [Nat.testBit_xor, show (4294967295 : Nat) = 2 ^ 32 - 1 from rfl, Nat.testBit_two_pow_sub_one, show 2 ^ 32 - 1 - e = 2 ^ 32 - (e + 1) by omega, Nat.testBit_two_pow_sub_succ he]
  by_cases h : i < 32
  · simp [h]
  · have : e.testBit i = false := Nat.testBit_lt_two_pow (Nat.lt_of_lt_of_le (show e < 2 ^ 32 from he) (Nat.pow_le_pow_right (Nat.zero_lt_succ 1) (Nat.le_of_not_lt h)))
    simp [h, this]
end Go.Proofs.Ytnddpgeeoepkkaa

namespace Go.Proofs.Ytnddpgeeoepkkaa
open Go Go.E Go.Proofs
theorem drop_getD {l : List Nat} {i : Nat} (h : i < l.length) : l.drop i = l.getD i 0 :: l.drop (i + 1) := by
  rw [List.drop_eq_getElem_cons h]
  simp [List.getD, h]
theorem W32_list8 {a b c d e f g h : Nat} (ha : a < 4294967296) (hb : b < 4294967296) (hc : c < 4294967296) (hd : d < 4294967296) (he : e < 4294967296) (hf : f < 4294967296) (hg : g < 4294967296) (hh : h < 4294967296) : W32 [a, b, c, d, e, f, g, h] := by
  intro i
  match i with
  | 0 => exact ha
  | 1 => exact hb
  | 2 => exact hc
  | 3 => exact hd
  | 4 => exact he
  | 5 => exact hf
  | 6 => exact hg
  | 7 => exact hh
  | i + 8 => simp
theorem not_lt32 {e : Nat} (he : e < 4294967296) : 4294967295 - e < 4294967296 := by omega
theorem wadd {x y : Nat} (h : x + y < 9223372036854775808) : IntKind.i64.wrap ((x : Int) + (y : Int)) = ((x + y : Nat) : Int) := wrapN (x := x + y) h
theorem blkL0 (m : Nat) (hm : 1 ≤ m) (h0 : T) (ks ws : List Nat) (hk : W32 ks) (hw : W32 ws) (hkl : ks.length = 64) (hwl : ws.length = 64) : ∀ (j i a b c d e f g h : Nat), i + j = 64 → W32 [a, b, c, d, e, f, g, h] → ∀ n, j < n → ∀ k0,
    spec_l2Block_L0_0 m n (.l h0.rows) (.l (nr ks)) (.i (i : Int)) (.l (nr ws)) (.l (nr [a, b, c, d, e, f, g, h])) k0 = k0 (.l h0.rows) (.l (nr (turns (ks.drop i) (ws.drop i) [a, b, c, d, e, f, g, h])))
  | 0, i, a, b, c, d, e, f, g, h, hij, hv, n, hn, k0 => by
    obtain ⟨n, rfl⟩ : ∃ m', n = m' + 1 := ⟨n - 1, by omega⟩
    have hi : i = 64 := by omega
    subst hi
    rw [List.drop_eq_nil_of_le (by omega), List.drop_eq_nil_of_le (by omega)]
    simp only [spec_l2Block_L0_0, T.rows_l, T.int_i]
    rw [dec_f (by omega)]
    rfl
  | j + 1, i, a, b, c, d, e, f, g, h, hij, hv, n, hn, k0 => by
    obtain ⟨n, rfl⟩ : ∃ m', n = m' + 1 := ⟨n - 1, by omega⟩
    have ha : a < 4294967296 := hv 0
    have hb : b < 4294967296 := hv 1
    have hc : c < 4294967296 := hv 2
    have hd : d < 4294967296 := hv 3
    have he : e < 4294967296 := hv 4
    have hf : f < 4294967296 := hv 5
    have hg : g < 4294967296 := hv 6
    have hh : h < 4294967296 := hv 7
    have hkv := hk i
    have hwv := hw i
    rw [drop_getD (l := ks) (by omega), drop_getD (l := ws) (by omega), turns]
    have f4 : IntKind.i64.wrap ((i : Int) + 1) = ((i + 1 : Nat) : Int) := by rw [wrap_i64 (by omega) (by omega)]; omega
    have kr := nr_get ks i (by omega)
    have wr := nr_get ws i (by omega)
    generalize hkk : ks.getD i 0 = kv at *
    generalize hww : ws.getD i 0 = wv at *
    have r1 := rotN_lt e 6
    have r2 := rotN_lt e 11
    have r3 := rotN_lt e 25
    have r4 := rotN_lt a 2
    have r5 := rotN_lt a 13
    have r6 := rotN_lt a 22
    have e8 : nr [a, b, c, d, e, f, g, h] = [[T.i (a : Int)], [T.i (b : Int)], [T.i (c : Int)], [T.i (d : Int)], [T.i (e : Int)], [T.i (f : Int)], [T.i (g : Int)], [T.i (h : Int)]] := rfl
    simp only [spec_l2Block_L0_0, T.rows_l, T.int_i, f4, Int.toNat_natCast, nr_len, kr, wr, e8, List.getD_cons_zero, List.getD_cons_succ, List.length_cons, List.length_nil, hkl, hwl]
    rw [dec_t (by omega)]
    rw [dec_t (by decide)]
    rw [turn_ok (z := 6) (n := 6) hm he (by omega) (by omega) rfl, turn_ok (z := 11) (n := 11) hm he (by omega) (by omega) rfl, turn_ok (z := 25) (n := 25) hm he (by omega) (by omega) rfl]
    rw [dec_t (by decide), dec_t (by decide), dec_t (by decide), dec_t (by omega), dec_t (by omega), dec_t (by omega), dec_t (by decide)]
    rw [turn_ok (z := 2) (n := 2) hm ha (by omega) (by omega) rfl, turn_ok (z := 13) (n := 13) hm ha (by omega) (by omega) rfl, turn_ok (z := 22) (n := 22) hm ha (by omega) (by omega) rfl]
    repeat rw [dec_t (by first | omega | decide)]
    have q1 := not_lt32 he
    simp only [T.int_i, xor3_ok r1 r2 r3, xor3_ok r4 r5 r6, not32 he, and32 he hf, and32 q1 hg, xor32 (and_lt he) (and_lt q1), and32 ha hb, and32 ha hc, and32 hb hc, xor3_ok (and_lt ha) (and_lt ha) (and_lt hb)]
    obtain ⟨S1, hS1⟩ : ∃ S1, S1 = rotN e 6 ^^^ rotN e 11 ^^^ rotN e 25 := ⟨_, rfl⟩
    obtain ⟨CH, hCH⟩ : ∃ CH, CH = (e &&& f) ^^^ ((4294967295 - e) &&& g) := ⟨_, rfl⟩
    obtain ⟨S0, hS0⟩ : ∃ S0, S0 = rotN a 2 ^^^ rotN a 13 ^^^ rotN a 22 := ⟨_, rfl⟩
    obtain ⟨MJ, hMJ⟩ : ∃ MJ, MJ = (a &&& b) ^^^ (a &&& c) ^^^ (b &&& c) := ⟨_, rfl⟩
    have l1 : S1 < 4294967296 := by rw [hS1]; exact xor_lt (xor_lt r1 r2) r3
    have l2 : CH < 4294967296 := by rw [hCH]; exact xor_lt (and_lt he) (and_lt q1)
    have l3 : S0 < 4294967296 := by rw [hS0]; exact xor_lt (xor_lt r4 r5) r6
    have l4 : MJ < 4294967296 := by rw [hMJ]; exact xor_lt (xor_lt (and_lt ha) (and_lt ha)) (and_lt hb)
    rw [← hS1, ← hCH, ← hS0, ← hMJ]
    have ht : turn1 [a, b, c, d, e, f, g, h] kv wv = [(h + S1 + CH + kv + wv + S0 + MJ) % M32, a, b, c, (d + (h + S1 + CH + kv + wv)) % M32, e, f, g] := by
      rw [hS1, hCH, hS0, hMJ]; rfl
    rw [ht]
    rw [wadd (x := h) (y := S1) (by omega), wadd (x := h + S1) (y := CH) (by omega), wadd (x := h + S1 + CH) (y := kv) (by omega), wadd (x := h + S1 + CH + kv) (y := wv) (by omega), wadd (x := S0) (y := MJ) (by omega),
      wadd (x := h + S1 + CH + kv + wv) (y := S0 + MJ) (by omega), wadd (x := d) (y := h + S1 + CH + kv + wv) (by omega), mask64 (by omega), mask64 (by omega), ← Nat.add_assoc]
    exact blkL0 m hm h0 ks ws hk hw hkl hwl j (i + 1) _ a b c _ e f g (by omega) (W32_list8 (Nat.mod_lt _ (by omega)) ha hb hc (Nat.mod_lt _ (by omega)) he hf hg) n (by omega) k0
end Go.Proofs.Ytnddpgeeoepkkaa

namespace Go.Proofs.Ytnddpgeeoepkkaa
open Go Go.E Go.Proofs
theorem l8 {l : List Nat} (h : l.length = 8) : ∃ a b c d e f g i, l = [a, b, c, d, e, f, g, i] := by
  match l, h with
  | [a, b, c, d, e, f, g, i], _ => exact ⟨a, b, c, d, e, f, g, i, rfl⟩
theorem turns_ok : ∀ (ks ws v : List Nat), v.length = 8 → W32 v → (turns ks ws v).length = 8 ∧ W32 (turns ks ws v)
  | [], ws, v, h1, h2 => by cases ws <;> exact ⟨h1, h2⟩
  | k :: ks, [], v, h1, h2 => ⟨h1, h2⟩
  | k :: ks, w :: ws, v, h1, h2 => by
    obtain ⟨a, b, c, d, e, f, g, i, rfl⟩ := l8 h1
    rw [turns]
    refine turns_ok ks ws _ rfl ?_
    exact W32_list8 (Nat.mod_lt _ (by unfold M32; omega)) (h2 0) (h2 1) (h2 2) (Nat.mod_lt _ (by unfold M32; omega)) (h2 4) (h2 5) (h2 6)
theorem addH8 (h v : List Nat) (hl : v.length = 8) : addH h 8 0 v = (List.range 8).map fun i => (v.getD i 0 + h.getD i 0) % M32 := by
  obtain ⟨a, b, c, d, e, f, g, i, rfl⟩ := l8 hl
  rfl
theorem kN_W : W32 kN := by
  intro i
  by_cases h : i < 64
  · have : ∀ j, j < 64 → kN.getD j 0 < 4294967296 := by decide
    exact this i h
  · rw [List.getD, List.getElem?_eq_none (by show kN.length ≤ i; have : kN.length = 64 := rfl; omega)]; simp
theorem wExt_l : ∀ (n : Nat) (l : List Nat), (wExt n l).length = l.length + n
  | 0, l => by rw [wExt]; rfl
  | n + 1, l => by rw [wExt, wExt_l n]; simp; omega
theorem wExt_W : ∀ (n : Nat) (l : List Nat), W32 l → W32 (wExt n l)
  | 0, l, h => by rw [wExt]; exact h
  | n + 1, l, h => by rw [wExt]; exact wExt_W n _ (W32_snoc h (Nat.mod_lt _ (by unfold M32; omega)))
theorem words_l (b : List Nat) : (words b).length = 64 := by
  have e : words b = wExt 48 (w16 b) := by unfold words; rfl
  rw [e]
  have h3 := wExt_l 48 (w16 b)
  have h4 := w16_len b
  generalize w16 b = l2 at h3 h4
  generalize wExt 48 l2 = l3 at h3
  omega
theorem words_W {b : List Nat} (h : Bytes b) : W32 (words b) := by
  have e : words b = wExt 48 (w16 b) := by unfold words; rfl
  rw [e]
  have h1 := w16_W32 h
  generalize w16 b = l2 at h1
  exact wExt_W 48 l2 h1
theorem l2Block_ok {m : Nat} (h b : List Nat) (hl : h.length = 8) (hh : W32 h) (hb : Bytes b) (hbl : 64 ≤ b.length) (hm : 200 ≤ m) (k : T → An) : spec_l2Block m (.l (nr h)) (.l (nr b)) (.l (nr kN)) k = k (.l (nr (blockN kN h b))) := by
  obtain ⟨m, rfl⟩ : ∃ m', m = m' + 1 := ⟨m - 1, by omega⟩
  have hwl := words_l b
  have hw := words_W hb
  have hkw := kN_W
  have hkl : kN.length = 64 := rfl
  have e1 : blockN kN h b = (List.range 8).map fun i => ((turns kN (words b) h).getD i 0 + h.getD i 0) % M32 := rfl
  rw [e1]
  simp only [spec_l2Block, T.rows_l]
  rw [words_ok b hb hbl (by omega)]
  generalize words b = ws at hwl hw ⊢
  generalize kN = ks at hkw hkl ⊢
  simp only [nr_len, T.rows_l]
  rw [dec_t (by unfold maxRow; omega)]
  obtain ⟨h1, h2⟩ := turns_ok ks ws h hl hh
  rw [← addH8 h _ h1]
  obtain ⟨a, b', c, d, e, f, g, i, rfl⟩ := l8 hl
  have := blkL0 m (by omega) (.l (nr [a, b', c, d, e, f, g, i])) ks ws hkw hw hkl hwl 64 0 a b' c d e f g i rfl hh m (by omega)
  simp only [T.rows_l, List.drop_zero] at this
  rw [show (T.i 0 : T) = .i ((0 : Nat) : Int) from rfl, this]
  simp only [T.rows_l]
  rw [blkL1 m _ hh rfl 8 0 _ rfl h1 h2 m (by omega)]
  simp only [T.rows_l]
def b4 (x : Nat) : List Nat := [x / 2 ^ 24 % 256, x / 2 ^ 16 % 256, x / 2 ^ 8 % 256, x % 256]
theorem digL1 (m : Nat) (h : List Nat) (hl : h.length = 8) : ∀ (j i : Nat) (out : List Nat), i + j = 8 → out.length = 4 * i → ∀ n, j < n → ∀ k0,
    spec_Digest_L1_0 m n (.i (i : Int)) (.l (nr h)) (.l (nr out)) k0 = k0 (.l (nr (out ++ (h.drop i).flatMap b4)))
  | 0, i, out, hij, ho, n, hn, k0 => by
    obtain ⟨n, rfl⟩ : ∃ m', n = m' + 1 := ⟨n - 1, by omega⟩
    simp only [spec_Digest_L1_0, T.rows_l, T.int_i]
    rw [dec_f (by omega), List.drop_eq_nil_of_le (by omega)]
    simp
  | j + 1, i, out, hij, ho, n, hn, k0 => by
    obtain ⟨n, rfl⟩ : ∃ m', n = m' + 1 := ⟨n - 1, by omega⟩
    have f4 : IntKind.i64.wrap ((i : Int) + 1) = ((i + 1 : Nat) : Int) := by rw [wrap_i64 (by omega) (by omega)]; omega
    have s1 : (min (Int.toNat 24) IntKind.i64.bits) = 24 := rfl
    have s2 : (min (Int.toNat 16) IntKind.i64.bits) = 16 := rfl
    have s3 : (min (Int.toNat 8) IntKind.i64.bits) = 8 := rfl
    simp only [spec_Digest_L1_0, T.rows_l, T.int_i, nr_len, f4, Int.toNat_natCast, nr_get h i (by omega), s1, s2, s3, fdiv_nat, wrap_u8]
    repeat rw [dec_t (by first | omega | (unfold maxRow; omega))]
    rw [drop_getD (l := h) (by omega), List.flatMap_cons]
    have e : (nr out ++ [[T.i ((h.getD i 0 / 2 ^ 24 % 256 : Nat) : Int)], [T.i ((h.getD i 0 / 2 ^ 16 % 256 : Nat) : Int)], [T.i ((h.getD i 0 / 2 ^ 8 % 256 : Nat) : Int)], [T.i ((h.getD i 0 % 256 : Nat) : Int)]]) = nr (out ++ b4 (h.getD i 0)) := by
      rw [nr_app]; rfl
    rw [e, digL1 m h hl j (i + 1) (out ++ b4 (h.getD i 0)) (by omega) (by rw [List.length_append, ho]; show 4 * i + 4 = _; omega) n (by omega), List.append_assoc]
theorem nr_take (l : List Nat) (n : Nat) : (nr l).take n = nr (l.take n) := by unfold nr; rw [List.map_take]
theorem nr_drop (l : List Nat) (n : Nat) : (nr l).drop n = nr (l.drop n) := by unfold nr; rw [List.map_drop]
theorem blockN_l (ks h b : List Nat) : (blockN ks h b).length = 8 := by simp [blockN]
theorem blockN_W (ks h b : List Nat) : W32 (blockN ks h b) := by
  intro i
  unfold blockN
  rw [getD_map_range]
  split
  · exact Nat.mod_lt _ (by unfold M32; omega)
  · omega
theorem digL0 (m : Nat) (hm : 200 ≤ m) (p : List Nat) (c : Nat) (hp : p.length = 64 * c) (hc : c ≤ 1073741824) (hb : Bytes p) : ∀ (j i : Nat) (h : List Nat), i + j = c → h.length = 8 → W32 h → ∀ n, j < n → ∀ k0,
    spec_Digest_L0_0 m n (.i ((64 * i : Nat) : Int)) (.l (nr p)) (.l (nr h)) (.l (nr kN)) k0 = k0 (.l (nr (blocksN kN j h (p.drop (64 * i)))))
  | 0, i, h, hij, h1, h2, n, hn, k0 => by
    obtain ⟨n, rfl⟩ : ∃ m', n = m' + 1 := ⟨n - 1, by omega⟩
    simp only [spec_Digest_L0_0, T.rows_l, T.int_i, nr_len, blocksN]
    rw [dec_f (by omega)]
  | j + 1, i, h, hij, h1, h2, n, hn, k0 => by
    obtain ⟨n, rfl⟩ : ∃ m', n = m' + 1 := ⟨n - 1, by omega⟩
    have f4 : IntKind.i64.wrap (((64 * i : Nat) : Int) + 64) = ((64 * (i + 1) : Nat) : Int) := by rw [wrap_i64 (by omega) (by omega)]; omega
    have hbt : Bytes ((p.drop (64 * i)).take 64) := fun t => by
      by_cases ht : t < 64
      · have := hb (64 * i + t)
        simpa [List.getD, List.getElem?_take, List.getElem?_drop, ht] using this
      · simp [List.getD, List.getElem?_take, ht]
    have e1 : ((nr p).take (64 * (i + 1))).drop (64 * i) = nr ((p.drop (64 * i)).take 64) := by
      rw [nr_take, nr_drop, List.drop_take, show 64 * (i + 1) - 64 * i = 64 by omega]
    have e2 : blocksN kN (j + 1) h (p.drop (64 * i)) = blocksN kN j (blockN kN h ((p.drop (64 * i)).take 64)) (p.drop (64 * (i + 1))) := by
      rw [blocksN, List.drop_drop, show 64 * i + 64 = 64 * (i + 1) by omega]
    rw [e2]
    simp only [spec_Digest_L0_0, T.rows_l, T.int_i, nr_len, f4, Int.toNat_natCast, e1]
    rw [dec_t (by omega), dec_t (by omega), dec_t (by omega), l2Block_ok h _ h1 h2 hbt (by rw [List.length_take, List.length_drop]; omega) hm]
    simp only [T.rows_l]
    exact digL0 m hm p c hp hc hb j (i + 1) _ (by omega) (blockN_l _ _ _) (blockN_W _ _ _) n (by omega) k0
theorem h0N_W : W32 h0N := W32_list8 (by decide) (by decide) (by decide) (by decide) (by decide) (by decide) (by decide) (by decide)
theorem blocksN_ok : ∀ (n : Nat) (h p : List Nat), h.length = 8 → W32 h → (blocksN kN n h p).length = 8
  | 0, h, p, h1, h2 => h1
  | n + 1, h, p, h1, h2 => by rw [blocksN]; exact blocksN_ok n _ _ (blockN_l _ _ _) (blockN_W _ _ _)
theorem pad_bytes {l : List Nat} (h : Bytes l) : Bytes (padN l) := by
  have hall : ∀ {m : List Nat}, (∀ x ∈ m, x < 256) → Bytes m := fun {m} hm i => by
    by_cases hi : i < m.length
    · have : m.getD i 0 = m[i] := by simp [List.getD, hi]
      rw [this]
      exact hm _ (List.getElem_mem hi)
    · rw [List.getD, List.getElem?_eq_none (by omega)]; simp
  have hl : ∀ x ∈ l, x < 256 := fun x hx => by
    obtain ⟨i, hi, rfl⟩ := List.getElem_of_mem hx
    have := h i
    simpa [List.getD, hi] using this
  refine hall fun x hx => ?_
  unfold padN at hx
  simp only [List.mem_append, List.mem_cons, List.not_mem_nil, or_false, List.mem_replicate, List.mem_map] at hx
  rcases hx with ((hx | hx) | hx) | ⟨i, -, rfl⟩
  · exact hl x hx
  · omega
  · omega
  · exact Nat.mod_lt _ (by omega)
theorem pad_len (l : List Nat) : ∃ c, (padN l).length = 64 * c ∧ 64 * c ≤ l.length + 136 := by
  refine ⟨(l.length + 1 + (119 - l.length % 64) % 64 + 8) / 64, ?_, by omega⟩
  simp [padN]
  omega
theorem rowsBytes_nr (l : List Nat) : rowsBytes (nr l) = ⟨(l.map UInt8.ofNat).toArray⟩ := by
  unfold rowsBytes nr
  rw [List.map_map]
  rfl
theorem digB_nr (l : List Nat) : digestB (nr l) = ⟨((digestN l).map UInt8.ofNat).toArray⟩ := by
  unfold digestB
  have : (nr l).map (fun r => (r.getD 0 dflt).int.toNat) = l := by
    unfold nr
    rw [List.map_map]
    exact List.map_id _
  rw [this]
/-- the reference's digest -/
theorem spec_Digest_ok {m : Nat} (l : List Nat) (hl : l.length ≤ 1073741824) (hb : Bytes l) (hm : 20000000 ≤ m) (k : T → An) : spec_Digest m (.l (nr l)) k = k (.s (digestB (nr l))) := by
  obtain ⟨m, rfl⟩ : ∃ m', m = m' + 1 := ⟨m - 1, by omega⟩
  obtain ⟨c, hc, hc2⟩ := pad_len l
  simp only [spec_Digest, T.rows_l]
  rw [pad_ok l hl (by omega), l2K_ok (by omega)]
  simp only [T.rows_l]
  rw [show (T.i 0 : T) = .i ((64 * 0 : Nat) : Int) from rfl, show ([[(T.i 1779033703)], [(T.i 3144134277)], [(T.i 1013904242)], [(T.i 2773480762)], [(T.i 1359893119)], [(T.i 2600822924)], [(T.i 528734635)], [(T.i 1541459225)]] : List (List T)) = nr h0N from rfl]
  rw [digL0 m (by omega) (padN l) c hc (by omega) (pad_bytes hb) c 0 h0N (by omega) rfl h0N_W m (by omega)]
  simp only [T.rows_l, Nat.mul_zero, List.drop_zero]
  have h8 := blocksN_ok c h0N (padN l) rfl h0N_W
  have e0 : digestN l = (blocksN kN c h0N (padN l)).flatMap b4 := by
    unfold digestN
    rw [hc, Nat.mul_div_cancel_left c (by omega)]
    rfl
  rw [digB_nr, e0]
  generalize blocksN kN c h0N (padN l) = z at h8 ⊢
  rw [show (T.l [] : T) = .l (nr []) from rfl, digL1 m z h8 8 0 [] rfl rfl m (by omega)]
  simp only [T.rows_l, List.nil_append, List.drop_zero]
  rw [rowsBytes_nr]
end Go.Proofs.Ytnddpgeeoepkkaa

namespace Go.Proofs.Ytnddpgeeoepkkaa
open Go Go.E Go.Proofs
mutual
def tsz : T → Nat
  | .i _ => 0
  | .b _ => 0
  | .s s => s.size
  | .l rows => rows.length + rowsSz rows
  | .x _ => 0
def rowSz : List T → Nat
  | [] => 0
  | d :: ds => tsz d + rowSz ds
def rowsSz : List (List T) → Nat
  | [] => 0
  | r :: rs => rowSz r + rowsSz rs
end
theorem rowsSz_app : ∀ a b : List (List T), rowsSz (a ++ b) = rowsSz a + rowsSz b
  | [], b => by simp [rowsSz]
  | x :: a, b => by simp only [List.cons_append, rowsSz, rowsSz_app a b]; omega
theorem rowsBulk_app : ∀ a b : List (List T), rowsBulk (a ++ b) = rowsBulk a + rowsBulk b
  | [], b => by simp [rowsBulk]
  | x :: a, b => by simp only [List.cons_append, rowsBulk, rowsBulk_app a b]; omega
theorem ix_row (pre : List (List T)) (x : List T) (post : List (List T)) : (pre ++ x :: post).getD (Int.toNat (pre.length : Int)) [] = x := by simp [List.getD]
theorem ix_nx {α : Type} (pre : List α) (h : pre.length < 4611686018427387904) : IntKind.i64.wrap ((pre.length : Int) + 1) = (pre.length : Int) + 1 := wrap_i64 (by omega) (by omega)
theorem len_snoc {α : Type} (pre : List α) (x : α) : (((pre ++ [x]).length : Nat) : Int) = (pre.length : Int) + 1 := by simp
theorem set_row (pre : List (List T)) (x y : List T) (post : List (List T)) : (pre ++ x :: post).set (Int.toNat (pre.length : Int)) y = pre ++ y :: post := by simp [List.set_append]
theorem wtRow_ne {es : List LT} (hes : es ≠ []) {r : List T} (h : WtRow es r) : 1 ≤ rowBulk r := by
  match es, hes with
  | e :: es, _ =>
    unfold WtRow at h
    obtain ⟨d, r, rfl, -, -⟩ := h
    have : 1 ≤ tbulk d := by cases d <;> simp [tbulk]
    simp only [rowBulk]; omega
theorem wtRows_len {es : List LT} (hes : es ≠ []) : ∀ {rows : List (List T)}, (∀ r ∈ rows, WtRow es r) → rows.length ≤ rowsBulk rows
  | [], _ => by simp [rowsBulk]
  | r :: rows, h => by
    have h1 := wtRow_ne hes (h r (by simp))
    have h2 := wtRows_len hes (rows := rows) fun r hr => h r (by simp [hr])
    simp only [rowsBulk, List.length_cons]; omega
abbrev esString : List LT := [.sc .str]
theorem toStringS_loop (m : Nat) (hm : 1048602 ≤ m) : ∀ (post pre z : List (List T)), (∀ r ∈ post, WtRow esString r) → rowsBulk post ≤ 1048576 → z.length = post.length → (∀ r ∈ z, r.length = 1) → pre.length + post.length ≤ 1048576 →
    ∀ n, post.length < n → ∀ k0, laws_toStringS_L0_0 m n (.l (pre ++ post)) (.i pre.length) (.l (pre ++ z)) k0 = k0 (.l (pre ++ post))
  | [], pre, z, h, hb, hz, hz2, hs, n, hn, k0 => by
    obtain ⟨n, rfl⟩ : ∃ m', n = m' + 1 := ⟨n - 1, by omega⟩
    obtain rfl : z = [] := List.eq_nil_of_length_eq_zero hz
    simp only [laws_toStringS_L0_0, T.int_i, T.rows_l]
    rw [dec_f (by simp)]
  | x :: post, pre, z, h, hb, hz, hz2, hs, n, hn, k0 => by
    obtain ⟨n, rfl⟩ : ∃ m', n = m' + 1 := ⟨n - 1, by omega⟩
    simp only [List.length_cons] at hs hn hz
    match z, hz, hz2 with
    | r :: z, hz, hz2 =>
    simp only [List.length_cons] at hz
    match r, hz2 r (by simp) with
    | [c0], _ =>
    have ih := toStringS_loop m hm post (pre ++ [x]) z (fun r hr => h r (by simp [hr])) (by simp only [rowsBulk] at hb; omega) (by omega) (fun r hr => hz2 r (by simp [hr])) (by simp; omega) n (by omega) k0
    have hx := h x (by simp)
    simp only [esString, WtRow, WtT] at hx
    obtain ⟨_, _, rfl, ⟨a0, rfl, -⟩, rfl⟩ := hx
    simp only [rowsBulk, rowBulk, tbulk] at hb
    simp only [laws_toStringS_L0_0, T.int_i, T.rows_l, ix_row, ix_nx pre (by omega), set_row, List.getD_cons_zero, List.getD_cons_succ, List.set_cons_zero, List.set_cons_succ]
    rw [dec_t (by simp; omega), dec_t (by simp; omega)]
    rw [dec_t (by simp; omega), dec_t (by simp)]
    simpa using ih
theorem toStringS_ok {m : Nat} (hm : 1048603 ≤ m) (rows : List (List T)) (h : ∀ r ∈ rows, WtRow esString r) (hb : rowsBulk rows ≤ 1048576) (k : T → An) : laws_toStringS m (.l rows) k = k (.l rows) := by
  obtain ⟨m, rfl⟩ : ∃ m', m = m' + 1 := ⟨m - 1, by omega⟩
  have hl := wtRows_len (by simp) h
  simp only [laws_toStringS, T.rows_l, T.int_i]
  rw [dec_t (by omega), dec_t (by unfold maxCells; omega)]
  exact toStringS_loop m (by omega) rows [] (List.replicate _ _) h hb (by simp) (fun r hr => by rw [List.eq_of_mem_replicate hr]; rfl) (by simp; omega) m (by omega) _
theorem szStringS_loop (m : Nat) (hm : 1048602 ≤ m) : ∀ (post pre : List (List T)) (l : Int), (∀ r ∈ post, WtRow esString r) → rowsBulk post ≤ 1048576 → (rowsSz post : Int) ≤ l → l ≤ 1048576 → pre.length + post.length ≤ 1048576 →
    ∀ n, post.length < n → ∀ k0 k1, laws_szStringS_L0_0 m n (.l (pre ++ post)) (.i l) (.i pre.length) k0 k1 = k1 (.i (l - rowsSz post))
  | [], pre, l, h, hb, hl, hl2, hs, n, hn, k0, k1 => by
    obtain ⟨n, rfl⟩ : ∃ m', n = m' + 1 := ⟨n - 1, by omega⟩
    simp only [laws_szStringS_L0_0, T.int_i, T.rows_l]
    rw [dec_f (by simp)]
    simp [rowsSz]
  | x :: post, pre, l, h, hb, hl, hl2, hs, n, hn, k0, k1 => by
    obtain ⟨n, rfl⟩ : ∃ m', n = m' + 1 := ⟨n - 1, by omega⟩
    simp only [List.length_cons] at hs hn
    simp only [rowsSz] at hl ⊢
    have ih := fun l hl hl2 => szStringS_loop m hm post (pre ++ [x]) l (fun r hr => h r (by simp [hr])) (by simp only [rowsBulk] at hb; omega) hl hl2 (by simp; omega) n (by omega) k0 k1
    have hx := h x (by simp)
    simp only [esString, WtRow, WtT] at hx
    obtain ⟨_, _, rfl, ⟨a0, rfl, -⟩, rfl⟩ := hx
    simp only [rowsBulk, rowBulk, tbulk] at hb
    simp only [laws_szStringS_L0_0, T.int_i, T.rows_l, ix_row, ix_nx pre (by omega), List.getD_cons_zero, List.getD_cons_succ]
    rw [dec_t (by simp; omega), dec_t (by simp; omega)]
    simp only [rowSz, tsz, T.str_s] at hl ⊢
    rw [show IntKind.i64.wrap (l - (a0.size : Int)) = l - (a0.size : Int) from wrap_i64 (by omega) (by omega), dec_f (by omega)]
    have := ih (l - a0.size) (by omega) (by omega)
    simp only [List.append_assoc, List.cons_append, List.nil_append, len_snoc] at this
    refine this.trans ?_
    congr 2; omega
theorem szStringS_ok {m : Nat} (hm : 1048603 ≤ m) (rows : List (List T)) (h : ∀ r ∈ rows, WtRow esString r) (hb : rowsBulk rows ≤ 1048576) (l : Int) (hl : ((rows.length + rowsSz rows : Nat) : Int) ≤ l) (hl2 : l ≤ 1048576) (k : T → An) : laws_szStringS m (.l rows) (.i l) k = k (.i (l - (rows.length + rowsSz rows : Nat))) := by
  obtain ⟨m, rfl⟩ : ∃ m', m = m' + 1 := ⟨m - 1, by omega⟩
  have hlen := wtRows_len (by simp) h
  simp only [laws_szStringS, T.rows_l, T.int_i]
  rw [show IntKind.i64.wrap (l - (rows.length : Int)) = l - (rows.length : Int) from wrap_i64 (by omega) (by omega), dec_f (by omega)]
  refine (szStringS_loop m (by omega) rows [] (l - rows.length) h hb (by omega) (by omega) (by simp; omega) m (by omega) _ _).trans ?_
  congr 2; omega
theorem eqStringS_loop (m : Nat) (hm : 1048602 ≤ m) : ∀ (post pre : List (List T)), (∀ r ∈ post, WtRow esString r) → rowsBulk post ≤ 1048576 → pre.length + post.length ≤ 1048576 →
    ∀ n, post.length < n → ∀ k0 k1, laws_eqStringS_L0_0 m n (.l (pre ++ post)) (.l (pre ++ post)) (.i pre.length) k0 k1 = k1
  | [], pre, h, hb, hs, n, hn, k0, k1 => by
    obtain ⟨n, rfl⟩ : ∃ m', n = m' + 1 := ⟨n - 1, by omega⟩
    simp only [laws_eqStringS_L0_0, T.int_i, T.rows_l]
    rw [dec_f (by simp)]
  | x :: post, pre, h, hb, hs, n, hn, k0, k1 => by
    obtain ⟨n, rfl⟩ : ∃ m', n = m' + 1 := ⟨n - 1, by omega⟩
    simp only [List.length_cons] at hs hn
    have ih := eqStringS_loop m hm post (pre ++ [x]) (fun r hr => h r (by simp [hr])) (by simp only [rowsBulk] at hb; omega) (by simp; omega) n (by omega) k0 k1
    have hx := h x (by simp)
    simp only [esString, WtRow, WtT] at hx
    obtain ⟨_, _, rfl, ⟨a0, rfl, -⟩, rfl⟩ := hx
    simp only [rowsBulk, rowBulk, tbulk] at hb
    simp only [laws_eqStringS_L0_0, T.int_i, T.rows_l, ix_row, ix_nx pre (by omega), List.getD_cons_zero, List.getD_cons_succ]
    rw [dec_t (by simp; omega), dec_t (by simp; omega), dec_t (by simp; omega)]
    simp only [T.str_s, beq_toList_self, Bool.not_true, cond_false]
    simpa using ih
theorem eqStringS_ok {m : Nat} (hm : 1048603 ≤ m) (rows : List (List T)) (h : ∀ r ∈ rows, WtRow esString r) (hb : rowsBulk rows ≤ 1048576) (k : T → An) : laws_eqStringS m (.l rows) (.l rows) k = k (.b true) := by
  obtain ⟨m, rfl⟩ : ∃ m', m = m' + 1 := ⟨m - 1, by omega⟩
  have hlen := wtRows_len (by simp) h
  simp only [laws_eqStringS, T.rows_l, T.int_i, bne_self_eq_false, cond_false]
  exact eqStringS_loop m (by omega) rows [] h hb (by simp; omega) m (by omega) _ _
abbrev esPair : List LT := [.sc .str, .sc .str]
theorem toPair_ok {m : Nat} (hm : 1048602 ≤ m) (a0 : ByteArray) (a1 : ByteArray)  (k : T → T → An) : laws_toPair m (.s a0) (.s a1) k = k (.s a0) (.s a1) := by
  obtain ⟨m, rfl⟩ : ∃ m', m = m' + 1 := ⟨m - 1, by omega⟩
  simp only [laws_toPair, T.rows_l]
theorem toPairS_loop (m : Nat) (hm : 1048602 ≤ m) : ∀ (post pre z : List (List T)), (∀ r ∈ post, WtRow esPair r) → rowsBulk post ≤ 1048576 → z.length = post.length → (∀ r ∈ z, r.length = 2) → pre.length + post.length ≤ 1048576 →
    ∀ n, post.length < n → ∀ k0, laws_toPairS_L0_0 m n (.l (pre ++ post)) (.i pre.length) (.l (pre ++ z)) k0 = k0 (.l (pre ++ post))
  | [], pre, z, h, hb, hz, hz2, hs, n, hn, k0 => by
    obtain ⟨n, rfl⟩ : ∃ m', n = m' + 1 := ⟨n - 1, by omega⟩
    obtain rfl : z = [] := List.eq_nil_of_length_eq_zero hz
    simp only [laws_toPairS_L0_0, T.int_i, T.rows_l]
    rw [dec_f (by simp)]
  | x :: post, pre, z, h, hb, hz, hz2, hs, n, hn, k0 => by
    obtain ⟨n, rfl⟩ : ∃ m', n = m' + 1 := ⟨n - 1, by omega⟩
    simp only [List.length_cons] at hs hn hz
    match z, hz, hz2 with
    | r :: z, hz, hz2 =>
    simp only [List.length_cons] at hz
    match r, hz2 r (by simp) with
    | [c0, c1], _ =>
    have ih := toPairS_loop m hm post (pre ++ [x]) z (fun r hr => h r (by simp [hr])) (by simp only [rowsBulk] at hb; omega) (by omega) (fun r hr => hz2 r (by simp [hr])) (by simp; omega) n (by omega) k0
    have hx := h x (by simp)
    simp only [esPair, WtRow, WtT] at hx
    obtain ⟨_, _, rfl, ⟨a0, rfl, -⟩, _, _, rfl, ⟨a1, rfl, -⟩, rfl⟩ := hx
    simp only [rowsBulk, rowBulk, tbulk] at hb
    simp only [laws_toPairS_L0_0, T.int_i, T.rows_l, ix_row, ix_nx pre (by omega), set_row, List.getD_cons_zero, List.getD_cons_succ, List.set_cons_zero, List.set_cons_succ]
    rw [dec_t (by simp; omega), dec_t (by simp; omega)]
    rw [toPair_ok (by omega) a0 a1, dec_t (by simp; omega), dec_t (by simp)]
    simpa using ih
theorem toPairS_ok {m : Nat} (hm : 1048603 ≤ m) (rows : List (List T)) (h : ∀ r ∈ rows, WtRow esPair r) (hb : rowsBulk rows ≤ 1048576) (k : T → An) : laws_toPairS m (.l rows) k = k (.l rows) := by
  obtain ⟨m, rfl⟩ : ∃ m', m = m' + 1 := ⟨m - 1, by omega⟩
  have hl := wtRows_len (by simp) h
  simp only [laws_toPairS, T.rows_l, T.int_i]
  rw [dec_t (by omega), dec_t (by unfold maxCells; omega)]
  exact toPairS_loop m (by omega) rows [] (List.replicate _ _) h hb (by simp) (fun r hr => by rw [List.eq_of_mem_replicate hr]; rfl) (by simp; omega) m (by omega) _
theorem szPair_ok {m : Nat} (hm : 1048602 ≤ m) (a0 : ByteArray) (a1 : ByteArray)  (l : Int) (hl : (rowSz [.s a0, .s a1] : Int) ≤ l) (hl2 : l ≤ 1048576) (k : T → An) : laws_szPair m (.s a0) (.s a1) (.i l) k = k (.i (l - (rowSz [.s a0, .s a1] : Nat))) := by
  obtain ⟨m, rfl⟩ : ∃ m', m = m' + 1 := ⟨m - 1, by omega⟩
  simp only [rowSz, tsz] at hl ⊢
  simp only [laws_szPair, T.rows_l, T.int_i, T.str_s]
  rw [show IntKind.i64.wrap (l - (a0.size : Int)) = l - (a0.size : Int) from wrap_i64 (by omega) (by omega)]
  rw [dec_f (by omega)]
  rw [show IntKind.i64.wrap ((l - (a0.size : Int)) - (a1.size : Int)) = (l - (a0.size : Int)) - (a1.size : Int) from wrap_i64 (by omega) (by omega)]
  rw [dec_f (by omega)]
  congr 2 <;> omega
theorem szPairS_loop (m : Nat) (hm : 1048602 ≤ m) : ∀ (post pre : List (List T)) (l : Int), (∀ r ∈ post, WtRow esPair r) → rowsBulk post ≤ 1048576 → (rowsSz post : Int) ≤ l → l ≤ 1048576 → pre.length + post.length ≤ 1048576 →
    ∀ n, post.length < n → ∀ k0 k1, laws_szPairS_L0_0 m n (.l (pre ++ post)) (.i l) (.i pre.length) k0 k1 = k1 (.i (l - rowsSz post))
  | [], pre, l, h, hb, hl, hl2, hs, n, hn, k0, k1 => by
    obtain ⟨n, rfl⟩ : ∃ m', n = m' + 1 := ⟨n - 1, by omega⟩
    simp only [laws_szPairS_L0_0, T.int_i, T.rows_l]
    rw [dec_f (by simp)]
    simp [rowsSz]
  | x :: post, pre, l, h, hb, hl, hl2, hs, n, hn, k0, k1 => by
    obtain ⟨n, rfl⟩ : ∃ m', n = m' + 1 := ⟨n - 1, by omega⟩
    simp only [List.length_cons] at hs hn
    simp only [rowsSz] at hl ⊢
    have ih := fun l hl hl2 => szPairS_loop m hm post (pre ++ [x]) l (fun r hr => h r (by simp [hr])) (by simp only [rowsBulk] at hb; omega) hl hl2 (by simp; omega) n (by omega) k0 k1
    have hx := h x (by simp)
    simp only [esPair, WtRow, WtT] at hx
    obtain ⟨_, _, rfl, ⟨a0, rfl, -⟩, _, _, rfl, ⟨a1, rfl, -⟩, rfl⟩ := hx
    simp only [rowsBulk, rowBulk, tbulk] at hb
    simp only [laws_szPairS_L0_0, T.int_i, T.rows_l, ix_row, ix_nx pre (by omega), List.getD_cons_zero, List.getD_cons_succ]
    rw [dec_t (by simp; omega), dec_t (by simp; omega)]
    rw [szPair_ok (by omega) a0 a1 l (by omega) hl2, T.int_i, dec_f (by omega)]
    have := ih (l - (rowSz [.s a0, .s a1] : Nat)) (by omega) (by omega)
    simp only [List.append_assoc, List.cons_append, List.nil_append, len_snoc] at this
    refine this.trans ?_
    congr 2; omega
theorem szPairS_ok {m : Nat} (hm : 1048603 ≤ m) (rows : List (List T)) (h : ∀ r ∈ rows, WtRow esPair r) (hb : rowsBulk rows ≤ 1048576) (l : Int) (hl : ((rows.length + rowsSz rows : Nat) : Int) ≤ l) (hl2 : l ≤ 1048576) (k : T → An) : laws_szPairS m (.l rows) (.i l) k = k (.i (l - (rows.length + rowsSz rows : Nat))) := by
  obtain ⟨m, rfl⟩ : ∃ m', m = m' + 1 := ⟨m - 1, by omega⟩
  have hlen := wtRows_len (by simp) h
  simp only [laws_szPairS, T.rows_l, T.int_i]
  rw [show IntKind.i64.wrap (l - (rows.length : Int)) = l - (rows.length : Int) from wrap_i64 (by omega) (by omega), dec_f (by omega)]
  refine (szPairS_loop m (by omega) rows [] (l - rows.length) h hb (by omega) (by omega) (by simp; omega) m (by omega) _ _).trans ?_
  congr 2; omega
theorem eqPair_ok {m : Nat} (hm : 1048602 ≤ m) (a0 : ByteArray) (a1 : ByteArray)  (k : T → An) : laws_eqPair m (.s a0) (.s a1) (.s a0) (.s a1) k = k (.b true) := by
  obtain ⟨m, rfl⟩ : ∃ m', m = m' + 1 := ⟨m - 1, by omega⟩
  simp only [laws_eqPair, T.rows_l, T.int_i, T.str_s, T.bool_b, bne_self_eq_false, beq_toList_self, beq_self_eq_true, Bool.not_true, cond_false]
theorem eqPairS_loop (m : Nat) (hm : 1048602 ≤ m) : ∀ (post pre : List (List T)), (∀ r ∈ post, WtRow esPair r) → rowsBulk post ≤ 1048576 → pre.length + post.length ≤ 1048576 →
    ∀ n, post.length < n → ∀ k0 k1, laws_eqPairS_L0_0 m n (.l (pre ++ post)) (.l (pre ++ post)) (.i pre.length) k0 k1 = k1
  | [], pre, h, hb, hs, n, hn, k0, k1 => by
    obtain ⟨n, rfl⟩ : ∃ m', n = m' + 1 := ⟨n - 1, by omega⟩
    simp only [laws_eqPairS_L0_0, T.int_i, T.rows_l]
    rw [dec_f (by simp)]
  | x :: post, pre, h, hb, hs, n, hn, k0, k1 => by
    obtain ⟨n, rfl⟩ : ∃ m', n = m' + 1 := ⟨n - 1, by omega⟩
    simp only [List.length_cons] at hs hn
    have ih := eqPairS_loop m hm post (pre ++ [x]) (fun r hr => h r (by simp [hr])) (by simp only [rowsBulk] at hb; omega) (by simp; omega) n (by omega) k0 k1
    have hx := h x (by simp)
    simp only [esPair, WtRow, WtT] at hx
    obtain ⟨_, _, rfl, ⟨a0, rfl, -⟩, _, _, rfl, ⟨a1, rfl, -⟩, rfl⟩ := hx
    simp only [rowsBulk, rowBulk, tbulk] at hb
    simp only [laws_eqPairS_L0_0, T.int_i, T.rows_l, ix_row, ix_nx pre (by omega), List.getD_cons_zero, List.getD_cons_succ]
    rw [dec_t (by simp; omega), dec_t (by simp; omega), dec_t (by simp; omega)]
    rw [eqPair_ok (by omega) a0 a1]
    simpa using ih
theorem eqPairS_ok {m : Nat} (hm : 1048603 ≤ m) (rows : List (List T)) (h : ∀ r ∈ rows, WtRow esPair r) (hb : rowsBulk rows ≤ 1048576) (k : T → An) : laws_eqPairS m (.l rows) (.l rows) k = k (.b true) := by
  obtain ⟨m, rfl⟩ : ∃ m', m = m' + 1 := ⟨m - 1, by omega⟩
  have hlen := wtRows_len (by simp) h
  simp only [laws_eqPairS, T.rows_l, T.int_i, bne_self_eq_false, cond_false]
  exact eqPairS_loop m (by omega) rows [] h hb (by simp; omega) m (by omega) _ _
abbrev esSeal : List LT := [.sc (.int .i64), .sc .str, .sc .str, .sl esString]
theorem toSeal_ok {m : Nat} (hm : 1048606 ≤ m) (a0 : Int) (a1 : ByteArray) (a2 : ByteArray) (a3 : List (List T)) (h3 : ∀ r ∈ a3, WtRow esString r) (b3 : rowsBulk a3 ≤ 1048576) (k : T → T → T → T → An) : laws_toSeal m (.i a0) (.s a1) (.s a2) (.l a3) k = k (.i a0) (.s a1) (.s a2) (.l a3) := by
  obtain ⟨m, rfl⟩ : ∃ m', m = m' + 1 := ⟨m - 1, by omega⟩
  simp only [laws_toSeal, T.rows_l]
  rw [toStringS_ok (by omega) a3 h3 b3]
  try simp only [T.rows_l]
theorem szSeal_ok {m : Nat} (hm : 1048606 ≤ m) (a0 : Int) (a1 : ByteArray) (a2 : ByteArray) (a3 : List (List T)) (h3 : ∀ r ∈ a3, WtRow esString r) (b3 : rowsBulk a3 ≤ 1048576) (l : Int) (hl : (rowSz [.i a0, .s a1, .s a2, .l a3] : Int) ≤ l) (hl2 : l ≤ 1048576) (k : T → An) : laws_szSeal m (.i a0) (.s a1) (.s a2) (.l a3) (.i l) k = k (.i (l - (rowSz [.i a0, .s a1, .s a2, .l a3] : Nat))) := by
  obtain ⟨m, rfl⟩ : ∃ m', m = m' + 1 := ⟨m - 1, by omega⟩
  simp only [rowSz, tsz] at hl ⊢
  simp only [laws_szSeal, T.rows_l, T.int_i, T.str_s]
  rw [show IntKind.i64.wrap (l - (a1.size : Int)) = l - (a1.size : Int) from wrap_i64 (by omega) (by omega)]
  rw [dec_f (by omega)]
  rw [show IntKind.i64.wrap ((l - (a1.size : Int)) - (a2.size : Int)) = (l - (a1.size : Int)) - (a2.size : Int) from wrap_i64 (by omega) (by omega)]
  rw [dec_f (by omega)]
  rw [szStringS_ok (by omega) a3 h3 b3 ((l - (a1.size : Int)) - (a2.size : Int)) (by omega) (by omega), T.int_i, dec_f (by omega)]
  congr 2 <;> omega
theorem eqSeal_ok {m : Nat} (hm : 1048606 ≤ m) (a0 : Int) (a1 : ByteArray) (a2 : ByteArray) (a3 : List (List T)) (h3 : ∀ r ∈ a3, WtRow esString r) (b3 : rowsBulk a3 ≤ 1048576) (k : T → An) : laws_eqSeal m (.i a0) (.s a1) (.s a2) (.l a3) (.i a0) (.s a1) (.s a2) (.l a3) k = k (.b true) := by
  obtain ⟨m, rfl⟩ : ∃ m', m = m' + 1 := ⟨m - 1, by omega⟩
  simp only [laws_eqSeal, T.rows_l, T.int_i, T.str_s, T.bool_b, bne_self_eq_false, beq_toList_self, beq_self_eq_true, Bool.not_true, cond_false, eqStringS_ok (m := m) (by omega) a3 h3 b3]
abbrev esTable : List LT := [.sl esPair]
theorem toTable_ok {m : Nat} (hm : 1048606 ≤ m) (a0 : List (List T)) (h0 : ∀ r ∈ a0, WtRow esPair r) (b0 : rowsBulk a0 ≤ 1048576) (k : T → An) : laws_toTable m (.l a0) k = k (.l a0) := by
  obtain ⟨m, rfl⟩ : ∃ m', m = m' + 1 := ⟨m - 1, by omega⟩
  simp only [laws_toTable, T.rows_l]
  rw [toPairS_ok (by omega) a0 h0 b0]
  try simp only [T.rows_l]
theorem toTableS_loop (m : Nat) (hm : 1048606 ≤ m) : ∀ (post pre z : List (List T)), (∀ r ∈ post, WtRow esTable r) → rowsBulk post ≤ 1048576 → z.length = post.length → (∀ r ∈ z, r.length = 1) → pre.length + post.length ≤ 1048576 →
    ∀ n, post.length < n → ∀ k0, laws_toTableS_L0_0 m n (.l (pre ++ post)) (.i pre.length) (.l (pre ++ z)) k0 = k0 (.l (pre ++ post))
  | [], pre, z, h, hb, hz, hz2, hs, n, hn, k0 => by
    obtain ⟨n, rfl⟩ : ∃ m', n = m' + 1 := ⟨n - 1, by omega⟩
    obtain rfl : z = [] := List.eq_nil_of_length_eq_zero hz
    simp only [laws_toTableS_L0_0, T.int_i, T.rows_l]
    rw [dec_f (by simp)]
  | x :: post, pre, z, h, hb, hz, hz2, hs, n, hn, k0 => by
    obtain ⟨n, rfl⟩ : ∃ m', n = m' + 1 := ⟨n - 1, by omega⟩
    simp only [List.length_cons] at hs hn hz
    match z, hz, hz2 with
    | r :: z, hz, hz2 =>
    simp only [List.length_cons] at hz
    match r, hz2 r (by simp) with
    | [c0], _ =>
    have ih := toTableS_loop m hm post (pre ++ [x]) z (fun r hr => h r (by simp [hr])) (by simp only [rowsBulk] at hb; omega) (by omega) (fun r hr => hz2 r (by simp [hr])) (by simp; omega) n (by omega) k0
    have hx := h x (by simp)
    simp only [esTable, WtRow, WtT] at hx
    obtain ⟨_, _, rfl, ⟨a0, rfl, h0⟩, rfl⟩ := hx
    simp only [rowsBulk, rowBulk, tbulk] at hb
    simp only [laws_toTableS_L0_0, T.int_i, T.rows_l, ix_row, ix_nx pre (by omega), set_row, List.getD_cons_zero, List.getD_cons_succ, List.set_cons_zero, List.set_cons_succ]
    rw [dec_t (by simp; omega), dec_t (by simp; omega)]
    rw [toTable_ok (by omega) a0 h0 (by omega), dec_t (by simp; omega), dec_t (by simp)]
    simpa using ih
theorem toTableS_ok {m : Nat} (hm : 1048607 ≤ m) (rows : List (List T)) (h : ∀ r ∈ rows, WtRow esTable r) (hb : rowsBulk rows ≤ 1048576) (k : T → An) : laws_toTableS m (.l rows) k = k (.l rows) := by
  obtain ⟨m, rfl⟩ : ∃ m', m = m' + 1 := ⟨m - 1, by omega⟩
  have hl := wtRows_len (by simp) h
  simp only [laws_toTableS, T.rows_l, T.int_i]
  rw [dec_t (by omega), dec_t (by unfold maxCells; omega)]
  exact toTableS_loop m (by omega) rows [] (List.replicate _ _) h hb (by simp) (fun r hr => by rw [List.eq_of_mem_replicate hr]; rfl) (by simp; omega) m (by omega) _
theorem szTable_ok {m : Nat} (hm : 1048606 ≤ m) (a0 : List (List T)) (h0 : ∀ r ∈ a0, WtRow esPair r) (b0 : rowsBulk a0 ≤ 1048576) (l : Int) (hl : (rowSz [.l a0] : Int) ≤ l) (hl2 : l ≤ 1048576) (k : T → An) : laws_szTable m (.l a0) (.i l) k = k (.i (l - (rowSz [.l a0] : Nat))) := by
  obtain ⟨m, rfl⟩ : ∃ m', m = m' + 1 := ⟨m - 1, by omega⟩
  simp only [rowSz, tsz] at hl ⊢
  simp only [laws_szTable, T.rows_l, T.int_i, T.str_s]
  rw [szPairS_ok (by omega) a0 h0 b0 l (by omega) (by omega), T.int_i, dec_f (by omega)]
  congr 2 <;> omega
theorem szTableS_loop (m : Nat) (hm : 1048606 ≤ m) : ∀ (post pre : List (List T)) (l : Int), (∀ r ∈ post, WtRow esTable r) → rowsBulk post ≤ 1048576 → (rowsSz post : Int) ≤ l → l ≤ 1048576 → pre.length + post.length ≤ 1048576 →
    ∀ n, post.length < n → ∀ k0 k1, laws_szTableS_L0_0 m n (.l (pre ++ post)) (.i l) (.i pre.length) k0 k1 = k1 (.i (l - rowsSz post))
  | [], pre, l, h, hb, hl, hl2, hs, n, hn, k0, k1 => by
    obtain ⟨n, rfl⟩ : ∃ m', n = m' + 1 := ⟨n - 1, by omega⟩
    simp only [laws_szTableS_L0_0, T.int_i, T.rows_l]
    rw [dec_f (by simp)]
    simp [rowsSz]
  | x :: post, pre, l, h, hb, hl, hl2, hs, n, hn, k0, k1 => by
    obtain ⟨n, rfl⟩ : ∃ m', n = m' + 1 := ⟨n - 1, by omega⟩
    simp only [List.length_cons] at hs hn
    simp only [rowsSz] at hl ⊢
    have ih := fun l hl hl2 => szTableS_loop m hm post (pre ++ [x]) l (fun r hr => h r (by simp [hr])) (by simp only [rowsBulk] at hb; omega) hl hl2 (by simp; omega) n (by omega) k0 k1
    have hx := h x (by simp)
    simp only [esTable, WtRow, WtT] at hx
    obtain ⟨_, _, rfl, ⟨a0, rfl, h0⟩, rfl⟩ := hx
    simp only [rowsBulk, rowBulk, tbulk] at hb
    simp only [laws_szTableS_L0_0, T.int_i, T.rows_l, ix_row, ix_nx pre (by omega), List.getD_cons_zero, List.getD_cons_succ]
    rw [dec_t (by simp; omega), dec_t (by simp; omega)]
    rw [szTable_ok (by omega) a0 h0 (by omega) l (by omega) hl2, T.int_i, dec_f (by omega)]
    have := ih (l - (rowSz [.l a0] : Nat)) (by omega) (by omega)
    simp only [List.append_assoc, List.cons_append, List.nil_append, len_snoc] at this
    refine this.trans ?_
    congr 2; omega
theorem szTableS_ok {m : Nat} (hm : 1048607 ≤ m) (rows : List (List T)) (h : ∀ r ∈ rows, WtRow esTable r) (hb : rowsBulk rows ≤ 1048576) (l : Int) (hl : ((rows.length + rowsSz rows : Nat) : Int) ≤ l) (hl2 : l ≤ 1048576) (k : T → An) : laws_szTableS m (.l rows) (.i l) k = k (.i (l - (rows.length + rowsSz rows : Nat))) := by
  obtain ⟨m, rfl⟩ : ∃ m', m = m' + 1 := ⟨m - 1, by omega⟩
  have hlen := wtRows_len (by simp) h
  simp only [laws_szTableS, T.rows_l, T.int_i]
  rw [show IntKind.i64.wrap (l - (rows.length : Int)) = l - (rows.length : Int) from wrap_i64 (by omega) (by omega), dec_f (by omega)]
  refine (szTableS_loop m (by omega) rows [] (l - rows.length) h hb (by omega) (by omega) (by simp; omega) m (by omega) _ _).trans ?_
  congr 2; omega
theorem eqTable_ok {m : Nat} (hm : 1048606 ≤ m) (a0 : List (List T)) (h0 : ∀ r ∈ a0, WtRow esPair r) (b0 : rowsBulk a0 ≤ 1048576) (k : T → An) : laws_eqTable m (.l a0) (.l a0) k = k (.b true) := by
  obtain ⟨m, rfl⟩ : ∃ m', m = m' + 1 := ⟨m - 1, by omega⟩
  simp only [laws_eqTable, T.rows_l, T.int_i, T.str_s, T.bool_b, bne_self_eq_false, beq_toList_self, beq_self_eq_true, Bool.not_true, cond_false, eqPairS_ok (m := m) (by omega) a0 h0 b0]
theorem eqTableS_loop (m : Nat) (hm : 1048606 ≤ m) : ∀ (post pre : List (List T)), (∀ r ∈ post, WtRow esTable r) → rowsBulk post ≤ 1048576 → pre.length + post.length ≤ 1048576 →
    ∀ n, post.length < n → ∀ k0 k1, laws_eqTableS_L0_0 m n (.l (pre ++ post)) (.l (pre ++ post)) (.i pre.length) k0 k1 = k1
  | [], pre, h, hb, hs, n, hn, k0, k1 => by
    obtain ⟨n, rfl⟩ : ∃ m', n = m' + 1 := ⟨n - 1, by omega⟩
    simp only [laws_eqTableS_L0_0, T.int_i, T.rows_l]
    rw [dec_f (by simp)]
  | x :: post, pre, h, hb, hs, n, hn, k0, k1 => by
    obtain ⟨n, rfl⟩ : ∃ m', n = m' + 1 := ⟨n - 1, by omega⟩
    simp only [List.length_cons] at hs hn
    have ih := eqTableS_loop m hm post (pre ++ [x]) (fun r hr => h r (by simp [hr])) (by simp only [rowsBulk] at hb; omega) (by simp; omega) n (by omega) k0 k1
    have hx := h x (by simp)
    simp only [esTable, WtRow, WtT] at hx
    obtain ⟨_, _, rfl, ⟨a0, rfl, h0⟩, rfl⟩ := hx
    simp only [rowsBulk, rowBulk, tbulk] at hb
    simp only [laws_eqTableS_L0_0, T.int_i, T.rows_l, ix_row, ix_nx pre (by omega), List.getD_cons_zero, List.getD_cons_succ]
    rw [dec_t (by simp; omega), dec_t (by simp; omega), dec_t (by simp; omega)]
    rw [eqTable_ok (by omega) a0 h0 (by omega)]
    simpa using ih
theorem eqTableS_ok {m : Nat} (hm : 1048607 ≤ m) (rows : List (List T)) (h : ∀ r ∈ rows, WtRow esTable r) (hb : rowsBulk rows ≤ 1048576) (k : T → An) : laws_eqTableS m (.l rows) (.l rows) k = k (.b true) := by
  obtain ⟨m, rfl⟩ : ∃ m', m = m' + 1 := ⟨m - 1, by omega⟩
  have hlen := wtRows_len (by simp) h
  simp only [laws_eqTableS, T.rows_l, T.int_i, bne_self_eq_false, cond_false]
  exact eqTableS_loop m (by omega) rows [] h hb (by simp; omega) m (by omega) _ _
abbrev esItem : List LT := [.sc .str, .sc .str, .sl esString]
theorem eqItem_ok {m : Nat} (hm : 1048606 ≤ m) (a0 : ByteArray) (a1 : ByteArray) (a2 : List (List T)) (h2 : ∀ r ∈ a2, WtRow esString r) (b2 : rowsBulk a2 ≤ 1048576) (k : T → An) : laws_eqItem m (.s a0) (.s a1) (.l a2) (.s a0) (.s a1) (.l a2) k = k (.b true) := by
  obtain ⟨m, rfl⟩ : ∃ m', m = m' + 1 := ⟨m - 1, by omega⟩
  simp only [laws_eqItem, T.rows_l, T.int_i, T.str_s, T.bool_b, bne_self_eq_false, beq_toList_self, beq_self_eq_true, Bool.not_true, cond_false, eqPair_ok (m := m) (by omega) a0 a1, eqStringS_ok (m := m) (by omega) a2 h2 b2]
theorem eqItemS_loop (m : Nat) (hm : 1048606 ≤ m) : ∀ (post pre : List (List T)), (∀ r ∈ post, WtRow esItem r) → rowsBulk post ≤ 1048576 → pre.length + post.length ≤ 1048576 →
    ∀ n, post.length < n → ∀ k0 k1, laws_eqItemS_L0_0 m n (.l (pre ++ post)) (.l (pre ++ post)) (.i pre.length) k0 k1 = k1
  | [], pre, h, hb, hs, n, hn, k0, k1 => by
    obtain ⟨n, rfl⟩ : ∃ m', n = m' + 1 := ⟨n - 1, by omega⟩
    simp only [laws_eqItemS_L0_0, T.int_i, T.rows_l]
    rw [dec_f (by simp)]
  | x :: post, pre, h, hb, hs, n, hn, k0, k1 => by
    obtain ⟨n, rfl⟩ : ∃ m', n = m' + 1 := ⟨n - 1, by omega⟩
    simp only [List.length_cons] at hs hn
    have ih := eqItemS_loop m hm post (pre ++ [x]) (fun r hr => h r (by simp [hr])) (by simp only [rowsBulk] at hb; omega) (by simp; omega) n (by omega) k0 k1
    have hx := h x (by simp)
    simp only [esItem, WtRow, WtT] at hx
    obtain ⟨_, _, rfl, ⟨a0, rfl, -⟩, _, _, rfl, ⟨a1, rfl, -⟩, _, _, rfl, ⟨a2, rfl, h2⟩, rfl⟩ := hx
    simp only [rowsBulk, rowBulk, tbulk] at hb
    simp only [laws_eqItemS_L0_0, T.int_i, T.rows_l, ix_row, ix_nx pre (by omega), List.getD_cons_zero, List.getD_cons_succ]
    rw [dec_t (by simp; omega), dec_t (by simp; omega), dec_t (by simp; omega)]
    rw [eqItem_ok (by omega) a0 a1 a2 h2 (by omega)]
    simpa using ih
theorem eqItemS_ok {m : Nat} (hm : 1048607 ≤ m) (rows : List (List T)) (h : ∀ r ∈ rows, WtRow esItem r) (hb : rowsBulk rows ≤ 1048576) (k : T → An) : laws_eqItemS m (.l rows) (.l rows) k = k (.b true) := by
  obtain ⟨m, rfl⟩ : ∃ m', m = m' + 1 := ⟨m - 1, by omega⟩
  have hlen := wtRows_len (by simp) h
  simp only [laws_eqItemS, T.rows_l, T.int_i, bne_self_eq_false, cond_false]
  exact eqItemS_loop m (by omega) rows [] h hb (by simp; omega) m (by omega) _ _
abbrev esProof : List LT := [.sc (.int .i64), .sc (.int .i64), .sl esItem]
theorem eqProof_ok {m : Nat} (hm : 1048610 ≤ m) (a0 : Int) (a1 : Int) (a2 : List (List T)) (h2 : ∀ r ∈ a2, WtRow esItem r) (b2 : rowsBulk a2 ≤ 1048576) (k : T → An) : laws_eqProof m (.i a0) (.i a1) (.l a2) (.i a0) (.i a1) (.l a2) k = k (.b true) := by
  obtain ⟨m, rfl⟩ : ∃ m', m = m' + 1 := ⟨m - 1, by omega⟩
  simp only [laws_eqProof, T.rows_l, T.int_i, T.str_s, T.bool_b, bne_self_eq_false, beq_toList_self, beq_self_eq_true, Bool.not_true, cond_false, eqItemS_ok (m := m) (by omega) a2 h2 b2]
theorem eqProofS_loop (m : Nat) (hm : 1048610 ≤ m) : ∀ (post pre : List (List T)), (∀ r ∈ post, WtRow esProof r) → rowsBulk post ≤ 1048576 → pre.length + post.length ≤ 1048576 →
    ∀ n, post.length < n → ∀ k0 k1, laws_eqProofS_L0_0 m n (.l (pre ++ post)) (.l (pre ++ post)) (.i pre.length) k0 k1 = k1
  | [], pre, h, hb, hs, n, hn, k0, k1 => by
    obtain ⟨n, rfl⟩ : ∃ m', n = m' + 1 := ⟨n - 1, by omega⟩
    simp only [laws_eqProofS_L0_0, T.int_i, T.rows_l]
    rw [dec_f (by simp)]
  | x :: post, pre, h, hb, hs, n, hn, k0, k1 => by
    obtain ⟨n, rfl⟩ : ∃ m', n = m' + 1 := ⟨n - 1, by omega⟩
    simp only [List.length_cons] at hs hn
    have ih := eqProofS_loop m hm post (pre ++ [x]) (fun r hr => h r (by simp [hr])) (by simp only [rowsBulk] at hb; omega) (by simp; omega) n (by omega) k0 k1
    have hx := h x (by simp)
    simp only [esProof, WtRow, WtT] at hx
    obtain ⟨_, _, rfl, ⟨a0, rfl, -⟩, _, _, rfl, ⟨a1, rfl, -⟩, _, _, rfl, ⟨a2, rfl, h2⟩, rfl⟩ := hx
    simp only [rowsBulk, rowBulk, tbulk] at hb
    simp only [laws_eqProofS_L0_0, T.int_i, T.rows_l, ix_row, ix_nx pre (by omega), List.getD_cons_zero, List.getD_cons_succ]
    rw [dec_t (by simp; omega), dec_t (by simp; omega), dec_t (by simp; omega)]
    rw [eqProof_ok (by omega) a0 a1 a2 h2 (by omega)]
    simpa using ih
theorem eqProofS_ok {m : Nat} (hm : 1048611 ≤ m) (rows : List (List T)) (h : ∀ r ∈ rows, WtRow esProof r) (hb : rowsBulk rows ≤ 1048576) (k : T → An) : laws_eqProofS m (.l rows) (.l rows) k = k (.b true) := by
  obtain ⟨m, rfl⟩ : ∃ m', m = m' + 1 := ⟨m - 1, by omega⟩
  have hlen := wtRows_len (by simp) h
  simp only [laws_eqProofS, T.rows_l, T.int_i, bne_self_eq_false, cond_false]
  exact eqProofS_loop m (by omega) rows [] h hb (by simp; omega) m (by omega) _ _
abbrev esBundle : List LT := [.sc (.int .i64), .sc .str, .sl esString, .sl esProof]
theorem eqBundle_ok {m : Nat} (hm : 1048614 ≤ m) (a0 : Int) (a1 : ByteArray) (a2 : List (List T)) (a3 : List (List T)) (h2 : ∀ r ∈ a2, WtRow esString r) (b2 : rowsBulk a2 ≤ 1048576) (h3 : ∀ r ∈ a3, WtRow esProof r) (b3 : rowsBulk a3 ≤ 1048576) (k : T → An) : laws_eqBundle m (.i a0) (.s a1) (.l a2) (.l a3) (.i a0) (.s a1) (.l a2) (.l a3) k = k (.b true) := by
  obtain ⟨m, rfl⟩ : ∃ m', m = m' + 1 := ⟨m - 1, by omega⟩
  simp only [laws_eqBundle, T.rows_l, T.int_i, T.str_s, T.bool_b, bne_self_eq_false, beq_toList_self, beq_self_eq_true, Bool.not_true, cond_false, eqStringS_ok (m := m) (by omega) a2 h2 b2, eqProofS_ok (m := m) (by omega) a3 h3 b3]
end Go.Proofs.Ytnddpgeeoepkkaa

namespace Go.Proofs.Ytnddpgeeoepkkaa
open Go Go.E Go.Proofs
/-! numbers and texts as bytes -/
def nb (n : Nat) : Nat := ((n &&& 127) ||| 128) % 256
def numGo : Nat → Nat → List Nat → List Nat × Nat
  | 0, n, acc => (acc, n)
  | f + 1, n, acc => if 127 < n then numGo f (n / 128) (acc ++ [nb n]) else (acc, n)
def clampN (z : Int) : Nat := (max 0 (min z 1000000000)).toNat
def putN' (z : Int) (out : List Nat) : List Nat := (numGo 5 (clampN z) out).1 ++ [(numGo 5 (clampN z) out).2 % 256]
theorem numGo_len : ∀ (f n : Nat) (acc : List Nat), acc.length ≤ (numGo f n acc).1.length ∧ (numGo f n acc).1.length ≤ acc.length + f
  | 0, n, acc => ⟨Nat.le_refl _, Nat.le_refl _⟩
  | f + 1, n, acc => by
    unfold numGo
    split
    · have := numGo_len f (n / 128) (acc ++ [nb n])
      simp at this
      omega
    · simp
theorem nb_lt (n : Nat) : nb n < 256 := Nat.mod_lt _ (by omega)
theorem nb_spec {n : Nat} (h : n < 4294967296) : IntKind.u8.wrap (bvBack .i64 (BitVec.ofInt IntKind.i64.bits (bvBack .i64 (BitVec.ofInt IntKind.i64.bits (n : Int) &&& BitVec.ofInt IntKind.i64.bits 127)).int ||| BitVec.ofInt IntKind.i64.bits 128)).int = ((nb n : Nat) : Int) := by
  have e1 := and32 (a := n) (b := 127) h (by omega)
  rw [show ((127 : Nat) : Int) = 127 from rfl] at e1
  rw [e1]
  have h2 : n &&& 127 < 4294967296 := and_lt h
  have e2 := or64 (a := n &&& 127) (b := 128) (by omega) (by omega)
  rw [show ((128 : Nat) : Int) = 128 from rfl] at e2
  rw [T.int_i, e2, T.int_i, wrap_u8]
  rfl
theorem nb_impl {n : Nat} (h : n < 4294967296) : IntKind.u8.wrap (bvBack .i64 (BitVec.ofInt IntKind.i64.bits 128 ||| BitVec.ofInt IntKind.i64.bits (bvBack .i64 (BitVec.ofInt IntKind.i64.bits (n : Int) &&& BitVec.ofInt IntKind.i64.bits 127)).int)).int = ((nb n : Nat) : Int) := by
  have e1 := and32 (a := n) (b := 127) h (by omega)
  rw [show ((127 : Nat) : Int) = 127 from rfl] at e1
  rw [e1]
  have h2 : n &&& 127 < 4294967296 := and_lt h
  have e2 := or64 (a := 128) (b := n &&& 127) (by omega) (by omega)
  rw [show ((128 : Nat) : Int) = 128 from rfl] at e2
  rw [T.int_i, e2, T.int_i, wrap_u8, Nat.or_comm]
  rfl
theorem numL (m : Nat) : ∀ (f n : Nat) (acc : List Nat), n < 128 ^ (f + 1) → n < 4294967296 → acc.length + f ≤ 1073741824 → ∀ N, f < N → ∀ k0,
    spec_PutNum_L0_0 m N (.i (n : Int)) (.l (nr acc)) k0 = k0 (.i ((numGo f n acc).2 : Nat)) (.l (nr (numGo f n acc).1))
  | 0, n, acc, h, h2, hl, N, hN, k0 => by
    obtain ⟨N, rfl⟩ : ∃ m', N = m' + 1 := ⟨N - 1, by omega⟩
    simp only [spec_PutNum_L0_0, T.rows_l, T.int_i, numGo]
    rw [dec_f (by simp at h; omega)]
  | f + 1, n, acc, h, h2, hl, N, hN, k0 => by
    obtain ⟨N, rfl⟩ : ∃ m', N = m' + 1 := ⟨N - 1, by omega⟩
    have s1 : (min (Int.toNat 7) IntKind.i64.bits) = 7 := rfl
    simp only [spec_PutNum_L0_0, T.rows_l, T.int_i, numGo, nr_len, s1, fdiv_nat, nb_spec h2]
    by_cases hn : 127 < n
    · rw [dec_t (by omega), dec_t (by unfold maxRow; omega), if_pos hn, nr_snoc]
      exact numL m f (n / 128) (acc ++ [nb n]) (by rw [Nat.pow_succ] at h; exact Nat.div_lt_of_lt_mul (by rw [Nat.mul_comm]; exact h)) (by omega) (by simp; omega) N (by omega) k0
    · rw [dec_f (by omega), if_neg hn]
theorem inumL1 (m : Nat) : ∀ (f n : Nat) (acc : List Nat), n < 128 ^ (f + 1) → n < 4294967296 → acc.length + f ≤ 1073741824 → ∀ N, f < N → ∀ k0 k1,
    impl_putNum_L0_1 m N (.i (n : Int)) (.l (nr acc)) k0 k1 = k0 (.i ((numGo f n acc).2 : Nat)) (.l (nr (numGo f n acc).1))
  | 0, n, acc, h, h2, hl, N, hN, k0, k1 => by
    obtain ⟨N, rfl⟩ : ∃ m', N = m' + 1 := ⟨N - 1, by omega⟩
    simp only [impl_putNum_L0_1, T.rows_l, T.int_i, numGo]
    rw [dec_f (by simp at h; omega)]
  | f + 1, n, acc, h, h2, hl, N, hN, k0, k1 => by
    obtain ⟨N, rfl⟩ : ∃ m', N = m' + 1 := ⟨N - 1, by omega⟩
    have s1 : (min (Int.toNat 7) IntKind.i64.bits) = 7 := rfl
    simp only [impl_putNum_L0_1, T.rows_l, T.int_i, numGo, nr_len, s1, fdiv_nat, nb_impl h2]
    by_cases hn : 127 < n
    · rw [dec_t (by omega), dec_t (by unfold maxRow; omega), if_pos hn, nr_snoc]
      exact inumL1 m f (n / 128) (acc ++ [nb n]) (by rw [Nat.pow_succ] at h; exact Nat.div_lt_of_lt_mul (by rw [Nat.mul_comm]; exact h)) (by omega) (by simp; omega) N (by omega) k0 k1
    · rw [dec_f (by omega), if_neg hn]
theorem inumL0 (m f n : Nat) (acc : List Nat) (h : n < 128 ^ (f + 2)) (h2 : n < 4294967296) (hl : acc.length + f + 1 ≤ 1073741824) (N : Nat) (hN : f + 1 < N) (K : T → T → An) :
    impl_putNum_L0_0 m N (.i (n : Int)) (.l (nr acc)) K K = K (.i ((numGo (f + 1) n acc).2 : Nat)) (.l (nr (numGo (f + 1) n acc).1)) := by
  obtain ⟨N, rfl⟩ : ∃ m', N = m' + 1 := ⟨N - 1, by omega⟩
  have s1 : (min (Int.toNat 7) IntKind.i64.bits) = 7 := rfl
  simp only [impl_putNum_L0_0, T.rows_l, T.int_i, numGo, nr_len, s1, fdiv_nat, nb_impl h2]
  by_cases hn : 127 < n
  · rw [dec_t (by omega), dec_t (by unfold maxRow; omega), if_pos hn, nr_snoc]
    exact inumL1 m f (n / 128) (acc ++ [nb n]) (by rw [Nat.pow_succ] at h; exact Nat.div_lt_of_lt_mul (by rw [Nat.mul_comm]; exact h)) (by omega) (by simp; omega) N (by omega) K K
  · rw [dec_f (by omega), if_neg hn]
theorem clampN_lt (z : Int) : clampN z ≤ 1000000000 := by unfold clampN; omega
theorem spec_PutNum_ok {m : Nat} (z : Int) (out : List Nat) (hl : out.length + 10 ≤ 1073741824) (hm : 10 ≤ m) (k : T → An) : spec_PutNum m (.l (nr out)) (.i z) k = k (.l (nr (putN' z out))) := by
  obtain ⟨m, rfl⟩ : ∃ m', m = m' + 1 := ⟨m - 1, by omega⟩
  have hc := clampN_lt z
  have hlen := numGo_len 5 (clampN z) out
  simp only [spec_PutNum, jn, T.rows_l, T.int_i, nr_len]
  rw [dec_t (by unfold maxRow; omega)]
  have fin : ∀ c : Int, c = ((clampN z : Nat) : Int) → spec_PutNum_L0_0 m m (T.i c) (T.l (nr out)) (fun y0 y1 => bif decide ((y1.rows.length + 1) * 1 ≤ maxRow) then k (T.l (y1.rows ++ [[T.i (IntKind.u8.wrap y0.int)]])) else R3.bad) = k (.l (nr (putN' z out))) := by
    intro c hcz
    rw [hcz, numL m 5 (clampN z) out (by omega) (by omega) (by omega) m (by omega)]
    simp only [T.rows_l, T.int_i, nr_len, wrap_u8]
    rw [dec_t (by unfold maxRow; omega), nr_snoc]
    rfl
  by_cases h1 : z > 1000000000
  · rw [dec_t h1]; exact fin _ (by unfold clampN; omega)
  · rw [dec_f h1]
    by_cases h2 : z < 0
    · rw [dec_t h2]; exact fin _ (by unfold clampN; omega)
    · rw [dec_f h2]; exact fin _ (by unfold clampN; omega)
theorem impl_putNum_ok {m : Nat} (z : Int) (out : List Nat) (hl : out.length + 10 ≤ 1073741824) (hm : 10 ≤ m) (k : T → An) : impl_putNum m (.l (nr out)) (.i z) k = k (.l (nr (putN' z out))) := by
  obtain ⟨m, rfl⟩ : ∃ m', m = m' + 1 := ⟨m - 1, by omega⟩
  have hc := clampN_lt z
  have hlen := numGo_len 5 (clampN z) out
  have hz : maxI 0 (minI z 1000000000) = ((clampN z : Nat) : Int) := by unfold clampN maxI minI; split <;> split <;> omega
  simp only [impl_putNum, jn, T.rows_l, T.int_i, hz]
  rw [inumL0 m 4 (clampN z) out (by omega) (by omega) (by omega) m (by omega), show 4 + 1 = 5 from rfl]
  simp only [T.rows_l, T.int_i, nr_len, wrap_u8]
  rw [dec_t (by unfold maxRow; omega), nr_snoc]
  rfl
end Go.Proofs.Ytnddpgeeoepkkaa

namespace Go.Proofs.Ytnddpgeeoepkkaa
open Go Go.E Go.Proofs
def bN (s : ByteArray) : List Nat := s.data.toList.map fun b => b.toNat
theorem bytesRows_nr (s : ByteArray) : bytesRows s = nr (bN s) := by
  unfold bytesRows nr bN
  rw [List.map_map]
  rfl
theorem bN_len (s : ByteArray) : (bN s).length = s.size := by unfold bN; rw [List.length_map]; exact (ba_size s).symm
def putT (s : ByteArray) (out : List Nat) : List Nat := putN' (s.size : Int) out ++ bN s
theorem putN_len (z : Int) (out : List Nat) : out.length ≤ (putN' z out).length ∧ (putN' z out).length ≤ out.length + 6 := by
  have := numGo_len 5 (clampN z) out
  unfold putN'
  simp
  omega
theorem putT_len (s : ByteArray) (out : List Nat) : out.length ≤ (putT s out).length ∧ (putT s out).length ≤ out.length + 6 + s.size := by
  have := putN_len (s.size : Int) out
  unfold putT
  rw [List.length_append, bN_len]
  omega
theorem spec_PutText_ok {m : Nat} (s : ByteArray) (out : List Nat) (hl : out.length + s.size + 20 ≤ 1073741824) (hm : 20 ≤ m) (k : T → An) : spec_PutText m (.l (nr out)) (.s s) k = k (.l (nr (putT s out))) := by
  obtain ⟨m, rfl⟩ : ∃ m', m = m' + 1 := ⟨m - 1, by omega⟩
  have := putN_len (s.size : Int) out
  simp only [spec_PutText, T.rows_l, T.str_s]
  rw [spec_PutNum_ok _ out (by omega) (by omega)]
  simp only [T.rows_l, bytesRows_nr, nr_len, bN_len]
  rw [dec_t (by unfold maxRow; omega), ← nr_app]
  rfl
theorem impl_putText_ok {m : Nat} (s : ByteArray) (out : List Nat) (hl : out.length + s.size + 20 ≤ 1073741824) (hm : 20 ≤ m) (k : T → An) : impl_putText m (.l (nr out)) (.s s) k = k (.l (nr (putT s out))) := by
  obtain ⟨m, rfl⟩ : ∃ m', m = m' + 1 := ⟨m - 1, by omega⟩
  have := putN_len (s.size : Int) out
  simp only [impl_putText, T.rows_l, T.str_s]
  rw [impl_putNum_ok _ out (by omega) (by omega)]
  simp only [T.rows_l, bytesRows_nr, nr_len, bN_len]
  rw [dec_t (by unfold maxRow; omega), ← nr_app]
  rfl
/-- rows of texts -/
def sr (l : List ByteArray) : List (List T) := l.map fun s => [T.s s]
theorem sr_len (l : List ByteArray) : (sr l).length = l.length := by simp [sr]
theorem sr_get (pre : List ByteArray) (s : ByteArray) (post : List ByteArray) : (((sr (pre ++ s :: post)).getD pre.length []).getD 0 dflt) = .s s := by simp [sr, List.getD]
def sumS (l : List ByteArray) : Nat := (l.map fun s => s.size + 6).sum
def putTs (l : List ByteArray) (out : List Nat) : List Nat := l.foldl (fun o s => putT s o) out
theorem all_app {a b : List Nat} (ha : ∀ x ∈ a, x < 256) (hb : ∀ x ∈ b, x < 256) : ∀ x ∈ a ++ b, x < 256 := fun x hx => (List.mem_append.1 hx).elim (ha x) (hb x)
theorem numGo_bytes : ∀ (f n : Nat) (acc : List Nat), (∀ x ∈ acc, x < 256) → ∀ x ∈ (numGo f n acc).1, x < 256
  | 0, n, acc, h => h
  | f + 1, n, acc, h => by
    unfold numGo
    split
    · exact numGo_bytes f _ _ (all_app h (by simp [nb_lt]))
    · exact h
theorem putN_bytes (z : Int) {out : List Nat} (h : ∀ x ∈ out, x < 256) : ∀ x ∈ putN' z out, x < 256 := by
  unfold putN'
  exact all_app (numGo_bytes _ _ _ h) (by simp; omega)
theorem bN_bytes (s : ByteArray) : ∀ x ∈ bN s, x < 256 := by
  intro x hx
  unfold bN at hx
  obtain ⟨b, -, rfl⟩ := List.mem_map.1 hx
  exact b.toNat_lt
theorem putT_bytes (s : ByteArray) {out : List Nat} (h : ∀ x ∈ out, x < 256) : ∀ x ∈ putT s out, x < 256 := all_app (putN_bytes _ h) (bN_bytes s)
theorem bytes_all {m : List Nat} (hm : ∀ x ∈ m, x < 256) : Bytes m := fun i => by
  by_cases hi : i < m.length
  · have : m.getD i 0 = m[i] := by simp [List.getD, hi]
    rw [this]
    exact hm _ (List.getElem_mem hi)
  · rw [List.getD, List.getElem?_eq_none (by omega)]; simp
end Go.Proofs.Ytnddpgeeoepkkaa

namespace Go.Proofs.Ytnddpgeeoepkkaa
open Go Go.E Go.Proofs
theorem rows_sr : ∀ {rows : List (List T)}, (∀ r ∈ rows, WtRow esString r) → ∃ l, rows = sr l ∧ l.length ≤ rowsBulk rows ∧ sumS l ≤ 6 * rowsBulk rows ∧ rows.length + rowsSz rows ≤ rowsBulk rows
  | [], _ => ⟨[], rfl, by simp, by simp [sumS], by simp [rowsSz]⟩
  | r :: rows, h => by
    obtain ⟨l, rfl, h1, h2, h3⟩ := rows_sr (rows := rows) fun r hr => h r (by simp [hr])
    have hr := h r (by simp)
    simp only [esString, WtRow, WtT] at hr
    obtain ⟨_, _, rfl, ⟨s, rfl, -⟩, rfl⟩ := hr
    refine ⟨s :: l, rfl, ?_, ?_, ?_⟩
    · simp only [rowsBulk, rowBulk, tbulk, List.length_cons]; omega
    · simp only [sumS, List.map_cons, List.sum_cons, rowsBulk, rowBulk, tbulk] at h2 ⊢; omega
    · simp only [rowsSz, rowSz, tsz, rowsBulk, rowBulk, tbulk, List.length_cons] at h3 ⊢; omega
theorem l1In_ok {m : Nat} (hm : 1 ≤ m) (x a b : Int) (k : T → An) : spec_l1In m (.i x) (.i a) (.i b) k = k (.b (decide (a ≤ x ∧ x ≤ b))) := by
  obtain ⟨m, rfl⟩ : ∃ m', m = m' + 1 := ⟨m - 1, by omega⟩
  simp only [spec_l1In, T.int_i]
  by_cases h : a ≤ x
  · rw [cond_t (by simp [h])]; simp [h]
  · rw [cond_f (by simp; omega)]; simp [h]
theorem inRange_ok {m : Nat} (hm : 1 ≤ m) (x a b : Int) (k : T → An) : impl_inRange m (.i x) (.i a) (.i b) k = k (.b (decide (a ≤ x ∧ x ≤ b))) := by
  obtain ⟨m, rfl⟩ : ∃ m', m = m' + 1 := ⟨m - 1, by omega⟩
  simp only [impl_inRange, T.int_i]
  by_cases h : a ≤ x
  · rw [cond_t (by simp [h])]; simp [h]
  · rw [cond_f (by simp; omega)]; simp [h]
end Go.Proofs.Ytnddpgeeoepkkaa

namespace Go.Proofs.Ytnddpgeeoepkkaa
open Go Go.E Go.Proofs
def halfF : Nat → Nat → Nat → Nat
  | 0, _, k => k
  | f + 1, n, k => if 2 * k < n then halfF f n (2 * k) else k
def half (n : Nat) : Nat := halfF 7 n 1
theorem halfF_lt : ∀ (f n k : Nat), k < n → 0 < k → halfF f n k < n ∧ 0 < halfF f n k
  | 0, n, k, h, h0 => ⟨h, h0⟩
  | f + 1, n, k, h, h0 => by
    unfold halfF
    split
    · exact halfF_lt f n (2 * k) (by omega) (by omega)
    · exact ⟨h, h0⟩
theorem half_lt {n : Nat} (h : 2 ≤ n) : half n < n ∧ 0 < half n := halfF_lt 7 n 1 (by omega) (by omega)
theorem pow_up {n k f : Nat} (h : n ≤ 2 * k * 2 ^ (f + 1)) : n ≤ 2 * (2 * k) * 2 ^ f := by
  have e : 2 * k * 2 ^ (f + 1) = 2 * (2 * k) * 2 ^ f := by rw [Nat.pow_succ, Nat.mul_comm (2 ^ f) 2, ← Nat.mul_assoc]; congr 1; omega
  omega
theorem specHalf_loop (m : Nat) : ∀ (f n k : Nat), n ≤ 2 * k * 2 ^ f → n ≤ 1000 → k ≤ 1000 → ∀ N, f < N → ∀ K, spec_l4Half_L0_0 m N (.i n) (.i k) K = K (.i (halfF f n k : Nat))
  | f, n, k, h, hn, hk, 0, hN, K => by omega
  | 0, n, k, h, hn, hk, N + 1, hN, K => by
    simp only [spec_l4Half_L0_0, T.int_i]
    rw [wrap_i64 (by omega) (by omega), dec_f (by omega)]
    rfl
  | f + 1, n, k, h, hn, hk, N + 1, hN, K => by
    simp only [spec_l4Half_L0_0, T.int_i]
    rw [wrap_i64 (by omega) (by omega)]
    unfold halfF
    by_cases h2 : 2 * k < n
    · rw [dec_t (by omega), if_pos h2]
      exact specHalf_loop m f n (2 * k) (pow_up h) hn (by omega) N (by omega) K
    · rw [dec_f (by omega), if_neg h2]
theorem implHalf_loop (m : Nat) : ∀ (f n k : Nat), n ≤ 2 * k * 2 ^ f → n ≤ 1000 → k ≤ 1000 → ∀ N, f < N → ∀ K, impl_half_L0_0 m N (.i n) (.i k) K = K (.i (halfF f n k : Nat))
  | f, n, k, h, hn, hk, 0, hN, K => by omega
  | 0, n, k, h, hn, hk, N + 1, hN, K => by
    simp only [impl_half_L0_0, T.int_i]
    rw [wrap_i64 (x := 2 * (k : Int)) (by omega) (by omega), dec_f (by omega)]
    rfl
  | f + 1, n, k, h, hn, hk, N + 1, hN, K => by
    simp only [impl_half_L0_0, T.int_i]
    rw [wrap_i64 (x := 2 * (k : Int)) (by omega) (by omega), wrap_i64 (x := (k : Int) * 2) (by omega) (by omega)]
    unfold halfF
    by_cases h2 : 2 * k < n
    · rw [dec_t (by omega), if_pos h2, show (k : Int) * 2 = ((2 * k : Nat) : Int) by omega]
      exact implHalf_loop m f n (2 * k) (pow_up h) hn (by omega) N (by omega) K
    · rw [dec_f (by omega), if_neg h2]
theorem specHalf_ok {m : Nat} (hm : 10 ≤ m) {n : Nat} (hn : n ≤ 256) (K : T → An) : spec_l4Half m (.i n) K = K (.i (half n : Nat)) := by
  obtain ⟨m, rfl⟩ : ∃ m', m = m' + 1 := ⟨m - 1, by omega⟩
  exact specHalf_loop m 7 n 1 (by omega) (by omega) (by omega) m (by omega) K
theorem implHalf_ok {m : Nat} (hm : 10 ≤ m) {n : Nat} (hn : n ≤ 256) (K : T → An) : impl_half m (.i n) K = K (.i (half n : Nat)) := by
  obtain ⟨m, rfl⟩ : ∃ m', m = m' + 1 := ⟨m - 1, by omega⟩
  exact implHalf_loop m 7 n 1 (by omega) (by omega) (by omega) m (by omega) K
/-! what is hashed -/
def digL (l : List Nat) : ByteArray := digestB (nr l)
def leafN (key val : ByteArray) : List Nat := putT val (putT key [0])
def nodeN (a b : ByteArray) : List Nat := 1 :: (bN a ++ bN b)
def topN (n : Int) (inner : ByteArray) : List Nat := putN' n [2] ++ bN inner
theorem dig_size (l : List Nat) : (digL l).size = 32 := by
  unfold digL
  rw [digB_nr]
  have h8 := blocksN_ok ((padN l).length / 64) h0N (padN l) rfl h0N_W
  have : (digestN l).length = 32 := by
    unfold digestN
    generalize blocksN kN ((padN l).length / 64) h0N (padN l) = z at h8
    obtain ⟨b0, b1, b2, b3, b4, b5, b6, b7, rfl⟩ := l8 h8
    rfl
  simp [ByteArray.size, this]
end Go.Proofs.Ytnddpgeeoepkkaa

namespace Go.Proofs.Ytnddpgeeoepkkaa
open Go Go.E Go.Proofs
def By (l : List Nat) : Prop := ∀ x ∈ l, x < 256
theorem leafN_ok (key val : ByteArray) : By (leafN key val) ∧ (leafN key val).length ≤ 20 + key.size + val.size := by
  have h1 := putT_len key [0]
  have h2 := putT_len val (putT key [0])
  refine ⟨putT_bytes _ (putT_bytes _ (by simp)), ?_⟩
  unfold leafN
  simp at h1
  omega
theorem nodeN_ok (a b : ByteArray) : By (nodeN a b) ∧ (nodeN a b).length = 1 + (a.size + b.size) := by
  refine ⟨?_, by simp [nodeN, bN_len]; omega⟩
  intro x hx
  unfold nodeN at hx
  rcases List.mem_cons.1 hx with rfl | hx
  · omega
  · exact all_app (bN_bytes a) (bN_bytes b) x hx
theorem topN_ok (n : Int) (s : ByteArray) : By (topN n s) ∧ (topN n s).length ≤ 10 + s.size := by
  have h1 := putN_len n [2]
  refine ⟨all_app (putN_bytes _ (by simp)) (bN_bytes s), ?_⟩
  unfold topN
  rw [List.length_append, bN_len]
  simp at h1
  omega
theorem By.bytes {l : List Nat} (h : By l) : Bytes l := bytes_all h
theorem specLeaf_ok {m : Nat} (hm : 30 ≤ m) (key val : ByteArray) (h : key.size + val.size ≤ 3000000) (K : T → An) : spec_l4Leaf m (.s key) (.s val) K = K (.l (nr (leafN key val))) := by
  obtain ⟨m, rfl⟩ : ∃ m', m = m' + 1 := ⟨m - 1, by omega⟩
  have h1 := putT_len key [0]
  simp at h1
  simp only [spec_l4Leaf]
  rw [show ([[T.i 0]] : List (List T)) = nr [0] from rfl, spec_PutText_ok key [0] (by simp; omega) (by omega)]
  simp only [T.rows_l]
  rw [spec_PutText_ok val _ (by omega) (by omega)]
  rfl
theorem implLeaf_ok {m : Nat} (hm : 30 ≤ m) (key val : ByteArray) (h : key.size + val.size ≤ 3000000) (K : T → An) : impl_leafBytes m (.s key) (.s val) K = K (.l (nr (leafN key val))) := by
  obtain ⟨m, rfl⟩ : ∃ m', m = m' + 1 := ⟨m - 1, by omega⟩
  have h1 := putT_len key [0]
  simp at h1
  simp only [impl_leafBytes]
  rw [show ([[T.i 0]] : List (List T)) = nr [0] from rfl, impl_putText_ok key [0] (by simp; omega) (by omega)]
  simp only [T.rows_l]
  rw [impl_putText_ok val _ (by omega) (by omega)]
  rfl
theorem nr_cat (a b : List Nat) : nr a ++ nr b = nr (a ++ b) := by simp [nr]
theorem specNode_ok {m : Nat} (hm : 1 ≤ m) (a b : ByteArray) (h : a.size + b.size ≤ 3000000) (K : T → An) : spec_l4Node m (.s a) (.s b) K = K (.l (nr (nodeN a b))) := by
  obtain ⟨m, rfl⟩ : ∃ m', m = m' + 1 := ⟨m - 1, by omega⟩
  simp only [spec_l4Node, T.str_s, bytesRows_nr]
  rw [show ([[T.i 1]] : List (List T)) = nr [1] from rfl, nr_cat, nr_cat]
  rw [dec_t (by simp only [nr_len, bN_len]; unfold maxRow; omega), dec_t (by simp only [nr_len, bN_len, List.length_append]; unfold maxRow; simp; omega)]
  rfl
theorem implNode_ok {m : Nat} (hm : 1 ≤ m) (a b : ByteArray) (h : a.size + b.size ≤ 3000000) (K : T → An) : impl_nodeBytes m (.s a) (.s b) K = K (.l (nr (nodeN a b))) := by
  obtain ⟨m, rfl⟩ : ∃ m', m = m' + 1 := ⟨m - 1, by omega⟩
  simp only [impl_nodeBytes, T.str_s, bytesRows_nr]
  rw [show ([[T.i 1]] : List (List T)) = nr [1] from rfl, nr_cat, nr_cat]
  rw [dec_t (by simp only [nr_len, bN_len]; unfold maxRow; omega), dec_t (by simp only [nr_len, bN_len, List.length_append]; unfold maxRow; simp; omega)]
  rfl
theorem digP {m : Nat} (hm : 1 ≤ m) (l : List Nat) (hl : l.length ≤ 1073741824) (K : T → An) : impl_Digest m (.l (nr l)) K = K (.s (digL l)) := by
  obtain ⟨m, rfl⟩ : ∃ m', m = m' + 1 := ⟨m - 1, by omega⟩
  simp only [impl_Digest, T.rows_l, nr_len]
  rw [dec_t hl]
  rfl
end Go.Proofs.Ytnddpgeeoepkkaa

namespace Go.Proofs.Ytnddpgeeoepkkaa
open Go Go.E Go.Proofs
def isKeyB (b : UInt8) : Bool := (decide (97 ≤ b.toNat) && decide (b.toNat ≤ 122)) || (decide (48 ≤ b.toNat) && decide (b.toNat ≤ 57))
def plain (s : ByteArray) : Bool := s.data.toList.all isKeyB
def keyOkP (s : ByteArray) : Bool := plain s && decide (1 ≤ s.size ∧ s.size ≤ 12)
theorem ix_byte (pre : List UInt8) (x : UInt8) (post : List UInt8) : (pre ++ x :: post).getD (Int.toNat (pre.length : Int)) 0 = x := by simp [List.getD]
theorem l1In2 {m : Nat} (hm : 1 ≤ m) (x a b : Int) (k : T → An) : spec_l1In m (.i x) (.i a) (.i b) k = k (.b (decide (a ≤ x) && decide (x ≤ b))) := by
  rw [l1In_ok hm, Bool.decide_and]
theorem inRange2 {m : Nat} (hm : 1 ≤ m) (x a b : Int) (k : T → An) : impl_inRange m (.i x) (.i a) (.i b) k = k (.b (decide (a ≤ x) && decide (x ≤ b))) := by
  rw [inRange_ok hm, Bool.decide_and]
theorem isKeyByte_ok {m : Nat} (hm : 1 ≤ m) (b : UInt8) (k : T → An) : impl_isKeyByte m (.i (b.toNat : Int)) k = k (.b (isKeyB b)) := by
  obtain ⟨m, rfl⟩ : ∃ m', m = m' + 1 := ⟨m - 1, by omega⟩
  have e1 : decide ((b.toNat : Int) ≥ 97) = decide (97 ≤ b.toNat) := decide_eq_decide.2 (by omega)
  have e2 : decide ((b.toNat : Int) ≤ 122) = decide (b.toNat ≤ 122) := decide_eq_decide.2 (by omega)
  have e3 : decide ((b.toNat : Int) ≥ 48) = decide (48 ≤ b.toNat) := decide_eq_decide.2 (by omega)
  have e4 : decide ((b.toNat : Int) ≤ 57) = decide (b.toNat ≤ 57) := decide_eq_decide.2 (by omega)
  simp only [impl_isKeyByte, T.int_i, e1, e2, e3, e4, isKeyB]
  cases decide (97 ≤ b.toNat) <;> cases decide (b.toNat ≤ 122) <;> cases decide (48 ≤ b.toNat) <;> rfl
theorem isWord_loop (m : Nat) (hm : 1 ≤ m) (s : ByteArray) (hs : s.size ≤ 4611686018427387904) : ∀ (post pre : List UInt8), s.data.toList = pre ++ post →
    ∀ n, post.length < n → ∀ k0 k1, impl_isWord_L0_0 m n (.s s) (.i pre.length) k0 k1 = cond (post.all isKeyB) k1 (k0 (.b false))
  | [], pre, e, n, hn, k0, k1 => by
    obtain ⟨n, rfl⟩ : ∃ m', n = m' + 1 := ⟨n - 1, by omega⟩
    have hz := ba_size s
    rw [e] at hz
    simp only [impl_isWord_L0_0, T.int_i, T.str_s]
    rw [dec_f (by simp at hz; omega)]
    rfl
  | x :: post, pre, e, n, hn, k0, k1 => by
    obtain ⟨n, rfl⟩ : ∃ m', n = m' + 1 := ⟨n - 1, by omega⟩
    have hz := ba_size s
    rw [e] at hz
    simp only [List.length_append, List.length_cons] at hz hn
    simp only [impl_isWord_L0_0, T.int_i, T.str_s, e, ix_byte, ix_next pre x (by omega)]
    rw [dec_t (by omega), dec_t (by omega), isKeyByte_ok hm]
    have ih := isWord_loop m hm s hs post (pre ++ [x]) (by rw [e]; simp) n (by omega) k0 k1
    cases hx : isKeyB x with
    | true => simpa [hx] using ih
    | false => simp [hx]
theorem isWord_ok {m : Nat} (s : ByteArray) (hs : s.size ≤ 1048576) (hm : 1048580 ≤ m) (k : T → An) : impl_isWord m (.s s) k = k (.b (plain s)) := by
  obtain ⟨m, rfl⟩ : ∃ m', m = m' + 1 := ⟨m - 1, by omega⟩
  have hz := ba_size s
  refine (isWord_loop m (by omega) s (by omega) s.data.toList [] rfl m (by omega) (fun y => k y) (k (.b true))).trans ?_
  unfold plain
  cases s.data.toList.all isKeyB <;> rfl
theorem byteIn {m : Nat} (hm : 1 ≤ m) (x : UInt8) (a b : Int) (k : T → An) : spec_l1In m (.i (IntKind.i64.wrap (x.toNat : Int))) (.i a) (.i b) k = k (.b (decide (a ≤ x.toNat) && decide ((x.toNat : Int) ≤ b))) := by
  have hx := x.toNat_lt
  rw [wrap_i64 (by omega) (by omega), l1In2 hm]
theorem keyOk_loop (m : Nat) (hm : 1 ≤ m) (s : ByteArray) (hs : s.size ≤ 4611686018427387904) : ∀ (post pre : List UInt8), s.data.toList = pre ++ post →
    ∀ n, post.length < n → ∀ k0 k1, spec_KeyOk_L0_0 m n (.s s) (.i pre.length) k0 k1 = cond (post.all isKeyB) (k1 (.s s)) (k0 (.b false))
  | [], pre, e, n, hn, k0, k1 => by
    obtain ⟨n, rfl⟩ : ∃ m', n = m' + 1 := ⟨n - 1, by omega⟩
    have hz := ba_size s
    rw [e] at hz
    simp only [spec_KeyOk_L0_0, T.int_i, T.str_s]
    rw [dec_f (by simp at hz; omega)]
    rfl
  | x :: post, pre, e, n, hn, k0, k1 => by
    obtain ⟨n, rfl⟩ : ∃ m', n = m' + 1 := ⟨n - 1, by omega⟩
    have hz := ba_size s
    rw [e] at hz
    simp only [List.length_append, List.length_cons] at hz hn
    simp only [spec_KeyOk_L0_0, T.int_i, T.str_s, e, ix_byte, ix_next pre x (by omega)]
    rw [dec_t (by omega), dec_t (by omega), byteIn hm, byteIn hm, dec_t (by omega)]
    have ih := keyOk_loop m hm s hs post (pre ++ [x]) (by rw [e]; simp) n (by omega) k0 k1
    have e1 : decide ((97 : Int) ≤ x.toNat) = decide (97 ≤ x.toNat) := decide_eq_decide.2 (by omega)
    have e2 : decide ((x.toNat : Int) ≤ 122) = decide (x.toNat ≤ 122) := decide_eq_decide.2 (by omega)
    have e3 : decide ((48 : Int) ≤ x.toNat) = decide (48 ≤ x.toNat) := decide_eq_decide.2 (by omega)
    have e4 : decide ((x.toNat : Int) ≤ 57) = decide (x.toNat ≤ 57) := decide_eq_decide.2 (by omega)
    simp only [e1, e2, e3, e4, List.all_cons, isKeyB, T.bool_b, ih]
    cases (decide (97 ≤ x.toNat) && decide (x.toNat ≤ 122)) <;> cases (decide (48 ≤ x.toNat) && decide (x.toNat ≤ 57)) <;> rfl
theorem dec_nat12 (n : Nat) : (decide ((1 : Int) ≤ n) && decide ((n : Int) ≤ 12)) = decide (1 ≤ n ∧ n ≤ 12) := by
  rw [Bool.decide_and]
  congr 1 <;> exact decide_eq_decide.2 (by omega)
theorem specKeyOk_ok {m : Nat} (s : ByteArray) (hs : s.size ≤ 1048576) (hm : 1048580 ≤ m) (k : T → An) : spec_KeyOk m (.s s) k = k (.b (keyOkP s)) := by
  obtain ⟨m, rfl⟩ : ∃ m', m = m' + 1 := ⟨m - 1, by omega⟩
  have hz := ba_size s
  refine (keyOk_loop m (by omega) s (by omega) s.data.toList [] rfl m (by omega) _ _).trans ?_
  simp only [T.str_s, keyOkP, plain]
  rw [l1In2 (by omega), dec_nat12]
  cases s.data.toList.all isKeyB <;> rfl
theorem implKeyOk_ok {m : Nat} (s : ByteArray) (hs : s.size ≤ 1048576) (hm : 1048581 ≤ m) (k : T → An) : impl_KeyOk m (.s s) k = k (.b (keyOkP s)) := by
  obtain ⟨m, rfl⟩ : ∃ m', m = m' + 1 := ⟨m - 1, by omega⟩
  simp only [impl_KeyOk, T.str_s, keyOkP]
  rw [inRange2 (by omega), dec_nat12, isWord_ok s hs (by omega)]
  cases decide (1 ≤ s.size ∧ s.size ≤ 12) <;> cases plain s <;> rfl
def blt (a b : ByteArray) : Bool := Op.bytesLess a.toList b.toList
theorem bl_tri : ∀ a b : List UInt8, (Op.bytesLess a b || a == b) = !Op.bytesLess b a
  | [], [] => rfl
  | [], y :: b => rfl
  | x :: a, [] => rfl
  | x :: a, y :: b => by
    have ih := bl_tri a b
    simp only [Op.bytesLess, List.cons_beq_cons]
    rcases Nat.lt_trichotomy x.toNat y.toNat with h | h | h
    · have h1 : x < y := UInt8.lt_iff_toNat_lt.2 h
      have h2 : ¬ y < x := fun h' => by have := UInt8.lt_iff_toNat_lt.1 h'; omega
      have h3 : (x == y) = false := by simp; intro e; subst e; omega
      have h4 : (y == x) = false := by simp; intro e; subst e; omega
      simp [h1, h2, h3, h4]
    · obtain rfl : x = y := UInt8.toNat_inj.1 h
      have h2 : ¬ x < x := fun h' => by have := UInt8.lt_iff_toNat_lt.1 h'; omega
      simp only [h2, decide_false, Bool.false_or, beq_self_eq_true, Bool.true_and, ih]
    · have h1 : ¬ x < y := fun h' => by have := UInt8.lt_iff_toNat_lt.1 h'; omega
      have h2 : y < x := UInt8.lt_iff_toNat_lt.2 h
      have h3 : (x == y) = false := by simp; intro e; subst e; omega
      simp [h1, h2, h3]
def pairOkP (key val : ByteArray) : Bool := keyOkP key && decide (val.size ≤ 20)
theorem specPairOk {m : Nat} (key val : ByteArray) (hs : key.size ≤ 1048576) (hm : 1048590 ≤ m) (k : T → An) : spec_PairOk m (.s key) (.s val) k = k (.b (pairOkP key val)) := by
  obtain ⟨m, rfl⟩ : ∃ m', m = m' + 1 := ⟨m - 1, by omega⟩
  simp only [spec_PairOk, T.str_s]
  rw [specKeyOk_ok key hs (by omega)]
  unfold pairOkP
  have e : decide ((val.size : Int) ≤ 20) = decide (val.size ≤ 20) := decide_eq_decide.2 (by omega)
  rw [e]
  cases keyOkP key <;> rfl
theorem implPairOk {m : Nat} (key val : ByteArray) (hs : key.size ≤ 1048576) (hm : 1048590 ≤ m) (k : T → An) : impl_PairOk m (.s key) (.s val) k = k (.b (pairOkP key val)) := by
  obtain ⟨m, rfl⟩ : ∃ m', m = m' + 1 := ⟨m - 1, by omega⟩
  simp only [impl_PairOk, T.str_s]
  rw [implKeyOk_ok key hs (by omega)]
  unfold pairOkP
  have e : decide ((val.size : Int) ≤ 20) = decide (val.size ≤ 20) := decide_eq_decide.2 (by omega)
  rw [e]
  cases keyOkP key <;> rfl
end Go.Proofs.Ytnddpgeeoepkkaa

namespace Go.Proofs.Ytnddpgeeoepkkaa
open Go Go.E Go.Proofs
def rK (p : ByteArray × ByteArray) : List T := [.s p.1, .s p.2]
def OkP (l : List (ByteArray × ByteArray)) : Prop := ∀ p ∈ l, p.1.size + p.2.size ≤ 1048576
def inner : Nat → List (ByteArray × ByteArray) → ByteArray
  | 0, _ => digL []
  | f + 1, l => if l.length = 0 then digL [] else if l.length = 1 then digL (leafN (l.headD (⟨#[]⟩, ⟨#[]⟩)).1 (l.headD (⟨#[]⟩, ⟨#[]⟩)).2)
    else digL (nodeN (inner f (l.take (half l.length))) (inner f (l.drop (half l.length))))
theorem inner_size : ∀ (f : Nat) (l : List (ByteArray × ByteArray)), (inner f l).size = 32
  | 0, l => dig_size _
  | f + 1, l => by
    unfold inner
    split
    · exact dig_size _
    · split <;> exact dig_size _
theorem specInner_ok : ∀ (f : Nat) (l : List (ByteArray × ByteArray)) (m : Nat), l.length ≤ f → l.length ≤ 60 → OkP l → 20000200 + 2 * f ≤ m → ∀ K, spec_l4Inner m (.l (l.map rK)) K = K (.s (inner f l))
  | f, l, 0, hf, hl, ho, hm, K => by omega
  | 0, l, m + 1, hf, hl, ho, hm, K => by
    obtain rfl : l = [] := List.eq_nil_of_length_eq_zero (by omega)
    simp only [spec_l4Inner, T.rows_l, List.map_nil, List.length_nil]
    rw [cond_t (by rfl), show (T.l [] : T) = .l (nr []) from rfl, spec_Digest_ok [] (by simp) (bytes_all (by simp)) (by omega)]
    rfl
  | f + 1, l, m + 1, hf, hl, ho, hm, K => by
    unfold inner
    simp only [spec_l4Inner, T.rows_l, List.length_map]
    by_cases h0 : l.length = 0
    · rw [cond_t (by rw [h0]; rfl), if_pos h0, show (T.l [] : T) = .l (nr []) from rfl, spec_Digest_ok [] (by simp) (bytes_all (by simp)) (by omega)]
      rfl
    · rw [cond_f (beq_eq_false_iff_ne.2 (show (l.length : Int) ≠ 0 by omega)), if_neg h0]
      by_cases h1 : l.length = 1
      · obtain ⟨p, rfl⟩ : ∃ p, l = [p] := List.length_eq_one_iff.1 h1
        obtain ⟨m, rfl⟩ : ∃ m', m = m' + 1 := ⟨m - 1, by omega⟩
        have hp := ho p (by simp)
        have hL := leafN_ok p.1 p.2
        rw [cond_t (by rfl), if_pos h1, dec_t (by simp)]
        simp only [List.map_cons, List.map_nil, List.getD_cons_zero, List.getD_cons_succ, rK, spec_LeafOf, List.headD_cons]
        rw [specLeaf_ok (by omega) _ _ (by omega)]
        simp only [T.rows_l]
        rw [spec_Digest_ok _ (by omega) hL.1.bytes (by omega)]
        rfl
      · have hh := half_lt (n := l.length) (by omega)
        obtain ⟨m, rfl⟩ : ∃ m', m = m' + 1 := ⟨m - 1, by omega⟩
        have i1 := specInner_ok f (l.take (half l.length)) (m + 1) (by simp; omega) (by simp; omega) (fun p hp => ho p (List.mem_of_mem_take hp)) (by omega)
        have i2 := specInner_ok f (l.drop (half l.length)) (m + 1) (by simp; omega) (by simp; omega) (fun p hp => ho p (List.mem_of_mem_drop hp)) (by omega)
        rw [List.map_take] at i1
        rw [List.map_drop] at i2
        have s1 := inner_size f (l.take (half l.length))
        have s2 := inner_size f (l.drop (half l.length))
        have hN := nodeN_ok (inner f (l.take (half l.length))) (inner f (l.drop (half l.length)))
        have et : (l.map rK).take l.length = l.map rK := List.take_of_length_le (by simp)
        rw [cond_f (beq_eq_false_iff_ne.2 (show (l.length : Int) ≠ 1 by omega)), if_neg h1, specHalf_ok (by omega) (by omega)]
        simp only [T.int_i, Int.toNat_natCast, et]
        rw [dec_t (by omega), dec_t (by omega), i1]
        rw [dec_t (by omega), dec_t (by omega), i2]
        simp only [spec_NodeOf]
        rw [specNode_ok (by omega) _ _ (by omega)]
        simp only [T.rows_l]
        rw [spec_Digest_ok _ (by omega) hN.1.bytes (by omega)]
        rfl
theorem digNil {m : Nat} (hm : 1 ≤ m) (K : T → An) : impl_Digest_nil m (.l []) K = K (.s (digL [])) := by
  obtain ⟨m, rfl⟩ : ∃ m', m = m' + 1 := ⟨m - 1, by omega⟩
  rfl
theorem implInner_ok : ∀ (f : Nat) (l : List (ByteArray × ByteArray)) (m : Nat), l.length ≤ f → l.length ≤ 60 → OkP l → 200 + 2 * f ≤ m → ∀ K, impl_innerOf m (.l (l.map rK)) K = K (.s (inner f l))
  | f, l, 0, hf, hl, ho, hm, K => by omega
  | 0, l, m + 1, hf, hl, ho, hm, K => by
    obtain rfl : l = [] := List.eq_nil_of_length_eq_zero (by omega)
    simp only [impl_innerOf, T.rows_l, List.map_nil, List.length_nil]
    rw [cond_t (by rfl), digNil (by omega)]
    rfl
  | f + 1, l, m + 1, hf, hl, ho, hm, K => by
    unfold inner
    simp only [impl_innerOf, T.rows_l, List.length_map]
    by_cases h0 : l.length = 0
    · rw [cond_t (by rw [h0]; rfl), if_pos h0, digNil (by omega)]
    · rw [cond_f (beq_eq_false_iff_ne.2 (show (l.length : Int) ≠ 0 by omega)), if_neg h0]
      by_cases h1 : l.length = 1
      · obtain ⟨p, rfl⟩ : ∃ p, l = [p] := List.length_eq_one_iff.1 h1
        obtain ⟨m, rfl⟩ : ∃ m', m = m' + 1 := ⟨m - 1, by omega⟩
        have hp := ho p (by simp)
        have hL := leafN_ok p.1 p.2
        rw [cond_t (by rfl), if_pos h1, dec_t (by simp)]
        simp only [List.map_cons, List.map_nil, List.getD_cons_zero, List.getD_cons_succ, rK, impl_LeafOf, List.headD_cons]
        rw [implLeaf_ok (by omega) _ _ (by omega)]
        simp only [T.rows_l]
        rw [digP (by omega) _ (by omega)]
      · have hh := half_lt (n := l.length) (by omega)
        obtain ⟨m, rfl⟩ : ∃ m', m = m' + 1 := ⟨m - 1, by omega⟩
        have i1 := implInner_ok f (l.take (half l.length)) (m + 1) (by simp; omega) (by simp; omega) (fun p hp => ho p (List.mem_of_mem_take hp)) (by omega)
        have i2 := implInner_ok f (l.drop (half l.length)) (m + 1) (by simp; omega) (by simp; omega) (fun p hp => ho p (List.mem_of_mem_drop hp)) (by omega)
        rw [List.map_take] at i1
        rw [List.map_drop] at i2
        have s1 := inner_size f (l.take (half l.length))
        have s2 := inner_size f (l.drop (half l.length))
        have hN := nodeN_ok (inner f (l.take (half l.length))) (inner f (l.drop (half l.length)))
        have et : (l.map rK).take l.length = l.map rK := List.take_of_length_le (by simp)
        rw [cond_f (beq_eq_false_iff_ne.2 (show (l.length : Int) ≠ 1 by omega)), if_neg h1, implHalf_ok (by omega) (by omega)]
        simp only [T.int_i, Int.toNat_natCast, et]
        rw [dec_t (by omega), dec_t (by omega), i1]
        rw [dec_t (by omega), dec_t (by omega), i2]
        simp only [impl_NodeOf]
        rw [implNode_ok (by omega) _ _ (by omega)]
        simp only [T.rows_l]
        rw [digP (by omega) _ (by omega)]
end Go.Proofs.Ytnddpgeeoepkkaa

