/- A part of the proof: texts S4B, S4C, S4D, S4E, S4F, S4G, S4I, S4J, S4K, S4L, S4Q, S4M, S4R, S4T, S4U, S4X, S4Y, S4Z: see the last part's opening words. -/
import Derived.Test.YtdnejilapfmnlaaP
set_option linter.unusedVariables false
set_option linter.unusedSimpArgs false
set_option linter.unnecessarySimpa false
namespace Go.Proofs.Ytdnejilapfmnlaa
open Go Go.E Go.Proofs
theorem wrap_u64 {x : Int} (h1 : 0 ≤ x) (h2 : x < 18446744073709551616) : IntKind.u64.wrap x = x := by
  have e64 : (2 : Int) ^ 64 = 18446744073709551616 := by decide
  simp only [IntKind.wrap, IntKind.bits, IntKind.signed, Bool.false_and, Bool.false_eq_true, if_false, e64]
  omega
theorem fdiv_nat (x n : Nat) : Int.fdiv (x : Int) ((2 : Int) ^ n) = ((x / 2 ^ n : Nat) : Int) := by
  have e : ((2 : Int) ^ n) = ((2 ^ n : Nat) : Int) := by simp
  rw [e, Int.fdiv_eq_ediv_of_nonneg _ (Int.natCast_nonneg _)]
  rfl
theorem turn_ok {m x n : Nat} {z : Int} (hm : 1 ≤ m) (hx : x < 4294967296) (h1 : 1 ≤ n) (h2 : n ≤ 31) (hz : z = (n : Int)) (k : T → An) : spec_l2Turn m (.i (x : Int)) (.i z) k = k (.i (rotN x n : Nat)) := by
  subst hz
  obtain ⟨m, rfl⟩ : ∃ m', m = m' + 1 := ⟨m - 1, by omega⟩
  have e1 : IntKind.u64.wrap (n : Int) = n := wrap_u64 (by omega) (by omega)
  have e2 : IntKind.i64.wrap (32 - (n : Int)) = ((32 - n : Nat) : Int) := by rw [wrap_i64 (by omega) (by omega)]; omega
  have e3 : IntKind.u64.wrap (((32 - n : Nat) : Int)) = ((32 - n : Nat) : Int) := wrap_u64 (by omega) (by omega)
  have e4 : min n IntKind.i64.bits = n := Nat.min_eq_left (by show n ≤ 64; omega)
  have e5 : min (32 - n) IntKind.i64.bits = 32 - n := Nat.min_eq_left (by show 32 - n ≤ 64; omega)
  have p1 : 2 ^ (32 - n) ≤ 2147483648 := Nat.le_trans (Nat.pow_le_pow_right (by omega) (show 32 - n ≤ 31 by omega)) (by decide)
  have p2 : x * 2 ^ (32 - n) < 9223372036854775808 := by
    have : x * 2 ^ (32 - n) ≤ 4294967295 * 2147483648 := Nat.mul_le_mul (by omega) p1
    omega
  have p3 : x / 2 ^ n ≤ x := Nat.div_le_self _ _
  have e6 : IntKind.i64.wrap ((x : Int) * 2 ^ (32 - n)) = ((x * 2 ^ (32 - n) : Nat) : Int) := by
    have e : (x : Int) * 2 ^ (32 - n) = ((x * 2 ^ (32 - n) : Nat) : Int) := by simp
    rw [e, wrap_i64 (by omega) (by omega)]
  simp only [spec_l2Turn, T.int_i, e1, e2, e3, Int.toNat_natCast, e4, e5, fdiv_nat, e6]
  rw [dec_t (by omega), dec_t (by omega), or64 (by omega) p2]
  have p4 : x / 2 ^ n ||| x * 2 ^ (32 - n) < 9223372036854775808 := Nat.or_lt_two_pow (n := 63) (by omega) p2
  simp only [T.int_i]
  rw [mask64 p4]
  rfl
end Go.Proofs.Ytdnejilapfmnlaa

namespace Go.Proofs.Ytdnejilapfmnlaa
open Go Go.E Go.Proofs
/-! the padding -/
def nr (l : List Nat) : List (List T) := l.map fun (x : Nat) => [T.i (Int.ofNat x)]
theorem nr_len (l : List Nat) : (nr l).length = l.length := by simp [nr]
theorem nr_app (a b : List Nat) : nr (a ++ b) = nr a ++ nr b := by simp [nr]
theorem nr_snoc (a : List Nat) (x : Nat) : nr a ++ [[T.i (x : Int)]] = nr (a ++ [x]) := by simp [nr]
theorem nr_get (l : List Nat) (i : Nat) (h : i < l.length) : ((nr l).getD i []).getD 0 dflt = .i ((l.getD i 0 : Nat) : Int) := by
  simp [nr, List.getD, h]
theorem padL0 (m : Nat) (x0 : T) : ∀ (z : Nat) (l : List Nat), z = (120 - l.length % 64) % 64 → l.length + z ≤ 1099511627776 → ∀ n, z < n → ∀ k0,
    spec_Padded_L0_0 m n x0 (.l (nr l)) k0 = k0 x0 (.l (nr (l ++ List.replicate z 0)))
  | 0, l, hz, hl, n, hn, k0 => by
    obtain ⟨n, rfl⟩ : ∃ m', n = m' + 1 := ⟨n - 1, by omega⟩
    have e : Int.tmod (l.length : Int) 64 = 56 := by
      rw [show (64 : Int) = ((64 : Nat) : Int) from rfl, ← Int.ofNat_tmod]; omega
    simp only [spec_Padded_L0_0, T.rows_l, nr_len, e]
    simp
  | z + 1, l, hz, hl, n, hn, k0 => by
    obtain ⟨n, rfl⟩ : ∃ m', n = m' + 1 := ⟨n - 1, by omega⟩
    have e : Int.tmod (l.length : Int) 64 = ((l.length % 64 : Nat) : Int) := by
      rw [show (64 : Int) = ((64 : Nat) : Int) from rfl, ← Int.ofNat_tmod]
    have ih := padL0 m x0 z (l ++ [0]) (by simp; omega) (by simp; omega) n (by omega) k0
    simp only [spec_Padded_L0_0, T.rows_l, nr_len, e]
    rw [cond_t (by simp; omega), dec_t (by unfold maxRow; omega)]
    rw [show nr l ++ [[T.i 0]] = nr (l ++ [0]) from nr_snoc l 0, ih]
    simp [List.replicate_succ]
def tailB (N : Nat) : Nat → List Nat
  | 0 => []
  | j + 1 => (N / 2 ^ (8 * j)) % 256 :: tailB N j
theorem wrap_u8 (x : Nat) : IntKind.u8.wrap (x : Int) = ((x % 256 : Nat) : Int) := by
  have e : (2 : Int) ^ 8 = 256 := by decide
  simp only [IntKind.wrap, IntKind.bits, IntKind.signed, Bool.false_and, Bool.false_eq_true, if_false, e]
  omega
theorem padL1 (m N : Nat) : ∀ (j : Nat), j ≤ 8 → ∀ (l : List Nat), l.length + j ≤ 1099511627776 → ∀ n, j < n → ∀ k0,
    spec_Padded_L1_0 m n (.i (N : Int)) (.i (8 * (j : Int) - 8)) (.l (nr l)) k0 = k0 (.l (nr (l ++ tailB N j)))
  | 0, _, l, hl, n, hn, k0 => by
    obtain ⟨n, rfl⟩ : ∃ m', n = m' + 1 := ⟨n - 1, by omega⟩
    simp only [spec_Padded_L1_0, T.rows_l, T.int_i, tailB, List.append_nil]
    rw [dec_f (by simp)]
  | j + 1, hj, l, hl, n, hn, k0 => by
    obtain ⟨n, rfl⟩ : ∃ m', n = m' + 1 := ⟨n - 1, by omega⟩
    have ih := padL1 m N j (by omega) (l ++ [(N / 2 ^ (8 * j)) % 256]) (by simp; omega) n (by omega) k0
    have e1 : (8 * ((j + 1 : Nat) : Int) - 8) = ((8 * j : Nat) : Int) := by omega
    have e2 : IntKind.u64.wrap (((8 * j : Nat)) : Int) = ((8 * j : Nat) : Int) := wrap_u64 (by omega) (by omega)
    have e3 : min (8 * j) IntKind.i64.bits = 8 * j := Nat.min_eq_left (by show 8 * j ≤ 64; omega)
    have e4 : IntKind.i64.wrap (((8 * j : Nat) : Int) - 8) = 8 * (j : Int) - 8 := by rw [wrap_i64 (by omega) (by omega)]; omega
    simp only [spec_Padded_L1_0, T.rows_l, T.int_i, e1, e2, Int.toNat_natCast, e3, e4, nr_len, fdiv_nat, wrap_u8]
    rw [dec_t (by omega), dec_t (by omega), dec_t (by unfold maxRow; omega), nr_snoc, ih]
    simp [tailB]
theorem pad_ok {m : Nat} (l : List Nat) (hl : l.length ≤ 1073741824) (hm : 200 ≤ m) (k : T → An) : spec_Padded m (.l (nr l)) k = k (.l (nr (padN l))) := by
  obtain ⟨m, rfl⟩ : ∃ m', m = m' + 1 := ⟨m - 1, by omega⟩
  simp only [spec_Padded, T.rows_l, nr_len]
  rw [dec_t (by unfold maxRow; omega), dec_t (by unfold maxRow; omega), show nr l ++ [[T.i 128]] = nr (l ++ [128]) from nr_snoc l 128]
  rw [padL0 m _ ((119 - l.length % 64) % 64) (l ++ [128]) (by simp; omega) (by simp; omega) m (by omega)]
  simp only [T.rows_l, nr_len]
  have e : IntKind.i64.wrap ((l.length : Int) * 8) = ((8 * l.length : Nat) : Int) := by rw [wrap_i64 (by omega) (by omega)]; omega
  rw [e]
  have := padL1 m (8 * l.length) 8 (by omega) (l ++ [128] ++ List.replicate ((119 - l.length % 64) % 64) 0) (by simp; omega) m (by omega) (fun y2 => k (.l y2.rows))
  rw [show (8 * ((8 : Nat) : Int) - 8) = 56 from rfl] at this
  rw [this]
  rfl
end Go.Proofs.Ytdnejilapfmnlaa

namespace Go.Proofs.Ytdnejilapfmnlaa
open Go Go.E Go.Proofs
/-! the words of a block -/
theorem nr_i (l : List Nat) (i : Nat) (h : i < l.length) : (((nr l).getD i []).getD 0 dflt).int = ((l.getD i 0 : Nat) : Int) := by rw [nr_get l i h]; rfl
theorem wrapN {x : Nat} (h : x < 9223372036854775808) : IntKind.i64.wrap (x : Int) = (x : Int) := wrap_i64 (by omega) (by omega)
def beW (a b c d : Nat) : Nat := ((a * 2 ^ 24 ||| b * 2 ^ 16) ||| c * 2 ^ 8) ||| d
theorem be_ok {a b c d : Nat} (ha : a < 256) (hb : b < 256) (hc : c < 256) (hd : d < 256) :
    (bvBack .i64 (BitVec.ofInt IntKind.i64.bits (bvBack .i64 (BitVec.ofInt IntKind.i64.bits (bvBack .i64 (BitVec.ofInt IntKind.i64.bits (IntKind.i64.wrap ((IntKind.i64.wrap (a : Int)) * 2 ^ (min (Int.toNat 24) IntKind.i64.bits))) ||| BitVec.ofInt IntKind.i64.bits (IntKind.i64.wrap ((IntKind.i64.wrap (b : Int)) * 2 ^ (min (Int.toNat 16) IntKind.i64.bits))))).int ||| BitVec.ofInt IntKind.i64.bits (IntKind.i64.wrap ((IntKind.i64.wrap (c : Int)) * 2 ^ (min (Int.toNat 8) IntKind.i64.bits))))).int ||| BitVec.ofInt IntKind.i64.bits (IntKind.i64.wrap (d : Int)))) = .i ((beW a b c d : Nat) : Int) := by
  have e1 : ∀ x : Nat, (x : Int) * 2 ^ (min (Int.toNat 24) IntKind.i64.bits) = ((x * 2 ^ 24 : Nat) : Int) := fun x => by rw [show min (Int.toNat 24) IntKind.i64.bits = 24 from rfl]; simp
  have e2 : ∀ x : Nat, (x : Int) * 2 ^ (min (Int.toNat 16) IntKind.i64.bits) = ((x * 2 ^ 16 : Nat) : Int) := fun x => by rw [show min (Int.toNat 16) IntKind.i64.bits = 16 from rfl]; simp
  have e3 : ∀ x : Nat, (x : Int) * 2 ^ (min (Int.toNat 8) IntKind.i64.bits) = ((x * 2 ^ 8 : Nat) : Int) := fun x => by rw [show min (Int.toNat 8) IntKind.i64.bits = 8 from rfl]; simp
  have p1 : a * 2 ^ 24 ||| b * 2 ^ 16 < 9223372036854775808 := Nat.or_lt_two_pow (n := 63) (by omega) (by omega)
  have p2 : (a * 2 ^ 24 ||| b * 2 ^ 16) ||| c * 2 ^ 8 < 9223372036854775808 := Nat.or_lt_two_pow (n := 63) p1 (by omega)
  rw [wrapN (x := a) (by omega), wrapN (x := b) (by omega), wrapN (x := c) (by omega), wrapN (x := d) (by omega), e1, e2, e3, wrapN (x := a * 2 ^ 24) (by omega), wrapN (x := b * 2 ^ 16) (by omega), wrapN (x := c * 2 ^ 8) (by omega),
    or64 (by omega) (by omega)]
  simp only [T.int_i]
  rw [or64 p1 (by omega)]
  simp only [T.int_i]
  rw [or64 p2 (by omega)]
  rfl
theorem beW_lt {a b c d : Nat} (ha : a < 256) (hb : b < 256) (hc : c < 256) (hd : d < 256) : beW a b c d < 4294967296 :=
  Nat.or_lt_two_pow (n := 32) (Nat.or_lt_two_pow (n := 32) (Nat.or_lt_two_pow (n := 32) (by omega) (by omega)) (by omega)) (by omega)
def wAt (b : List Nat) (i : Nat) : Nat := beW (b.getD (4 * i) 0) (b.getD (4 * i + 1) 0) (b.getD (4 * i + 2) 0) (b.getD (4 * i + 3) 0)
theorem w16_eq (b : List Nat) : w16 b = (List.range 16).map (wAt b) := rfl
def Bytes (b : List Nat) : Prop := ∀ i, b.getD i 0 < 256
theorem wL0 (m : Nat) (b : List Nat) (hb : Bytes b) (hl : 64 ≤ b.length) : ∀ (j i : Nat), i + j = 16 → ∀ n, j < n → ∀ k0,
    spec_l2Words_L0_0 m n (.l (nr b)) (.i (i : Int)) (.l (nr ((List.range i).map (wAt b)))) k0 = k0 (.l (nr (w16 b)))
  | 0, i, h, n, hn, k0 => by
    obtain ⟨n, rfl⟩ : ∃ m', n = m' + 1 := ⟨n - 1, by omega⟩
    have : i = 16 := by omega
    subst this
    simp only [spec_l2Words_L0_0, T.rows_l, T.int_i]
    rw [dec_f (by omega)]
    rfl
  | j + 1, i, h, n, hn, k0 => by
    obtain ⟨n, rfl⟩ : ∃ m', n = m' + 1 := ⟨n - 1, by omega⟩
    have ih := wL0 m b hb hl j (i + 1) (by omega) n (by omega) k0
    have f0 : IntKind.i64.wrap (4 * (i : Int)) = ((4 * i : Nat) : Int) := by rw [wrap_i64 (by omega) (by omega)]; omega
    have f1 : IntKind.i64.wrap (((4 * i : Nat) : Int) + 1) = ((4 * i + 1 : Nat) : Int) := by rw [wrap_i64 (by omega) (by omega)]; omega
    have f2 : IntKind.i64.wrap (((4 * i : Nat) : Int) + 2) = ((4 * i + 2 : Nat) : Int) := by rw [wrap_i64 (by omega) (by omega)]; omega
    have f3 : IntKind.i64.wrap (((4 * i : Nat) : Int) + 3) = ((4 * i + 3 : Nat) : Int) := by rw [wrap_i64 (by omega) (by omega)]; omega
    have f4 : IntKind.i64.wrap ((i : Int) + 1) = ((i + 1 : Nat) : Int) := by rw [wrap_i64 (by omega) (by omega)]; omega
    simp only [spec_l2Words_L0_0, T.rows_l, T.int_i, f0, f1, f2, f3, f4, Int.toNat_natCast, nr_len, nr_i b (4 * i) (by omega), nr_i b (4 * i + 1) (by omega), nr_i b (4 * i + 2) (by omega), nr_i b (4 * i + 3) (by omega), be_ok (hb _) (hb _) (hb _) (hb _)]
    rw [dec_t (by omega), dec_t (by omega), dec_t (by omega), dec_t (by omega), dec_t (by omega), dec_t (by simp; unfold maxRow; omega)]
    have e : (nr ((List.range i).map (wAt b)) ++ [[T.i ((beW (b.getD (4 * i) 0) (b.getD (4 * i + 1) 0) (b.getD (4 * i + 2) 0) (b.getD (4 * i + 3) 0) : Nat) : Int)]]) = nr ((List.range (i + 1)).map (wAt b)) := by
      rw [nr_snoc, List.range_succ, List.map_append]; rfl
    rw [e]
    exact ih
end Go.Proofs.Ytdnejilapfmnlaa

namespace Go.Proofs.Ytdnejilapfmnlaa
open Go Go.E Go.Proofs
def W32 (w : List Nat) : Prop := ∀ i, w.getD i 0 < 4294967296
theorem xor3_ok {a b c : Nat} (ha : a < 4294967296) (hb : b < 4294967296) (hc : c < 4294967296) :
    bvBack .i64 (BitVec.ofInt IntKind.i64.bits (bvBack .i64 (BitVec.ofInt IntKind.i64.bits (a : Int) ^^^ BitVec.ofInt IntKind.i64.bits (b : Int))).int ^^^ BitVec.ofInt IntKind.i64.bits (c : Int)) = .i ((a ^^^ b ^^^ c : Nat) : Int) := by
  have p1 : a ^^^ b < 4294967296 := Nat.xor_lt_two_pow (n := 32) ha hb
  rw [xor64 (by omega) (by omega)]
  simp only [T.int_i]
  rw [xor64 (by omega) (by omega)]
theorem sg0_lt {x : Nat} (h : x < 4294967296) : sg0 x < 4294967296 := Nat.xor_lt_two_pow (n := 32) (Nat.xor_lt_two_pow (n := 32) (rotN_lt _ _) (rotN_lt _ _)) (Nat.lt_of_le_of_lt (Nat.div_le_self _ _) h)
theorem sg1_lt {x : Nat} (h : x < 4294967296) : sg1 x < 4294967296 := Nat.xor_lt_two_pow (n := 32) (Nat.xor_lt_two_pow (n := 32) (rotN_lt _ _) (rotN_lt _ _)) (Nat.lt_of_le_of_lt (Nat.div_le_self _ _) h)
theorem W32_snoc {w : List Nat} (h : W32 w) {x : Nat} (hx : x < 4294967296) : W32 (w ++ [x]) := by
  intro i
  rcases Nat.lt_or_ge i w.length with hi | hi
  · have := h i
    simpa [List.getD, List.getElem?_append_left hi] using this
  · rw [List.getD, List.getElem?_append_right hi]
    rcases Nat.eq_zero_or_pos (i - w.length) with h0 | h0
    · rw [h0]; simpa using hx
    · rw [List.getElem?_eq_none (by simp; omega)]; simp
theorem wL1 (m : Nat) (hm : 1 ≤ m) : ∀ (j : Nat) (w : List Nat), w.length + j = 64 → 16 ≤ w.length → W32 w → ∀ n, j < n → ∀ k0,
    spec_l2Words_L1_0 m n (.i (w.length : Int)) (.l (nr w)) k0 = k0 (.l (nr (wExt j w)))
  | 0, w, h, h2, hw, n, hn, k0 => by
    obtain ⟨n, rfl⟩ : ∃ m', n = m' + 1 := ⟨n - 1, by omega⟩
    simp only [spec_l2Words_L1_0, T.rows_l, T.int_i, wExt]
    rw [dec_f (by omega)]
  | j + 1, w, h, h2, hw, n, hn, k0 => by
    obtain ⟨n, rfl⟩ : ∃ m', n = m' + 1 := ⟨n - 1, by omega⟩
    have hx := hw (w.length - 15)
    have hy := hw (w.length - 2)
    have hp := hw (w.length - 16)
    have hq := hw (w.length - 7)
    have s0 := sg0_lt hx
    have s1 := sg1_lt hy
    have ih := wL1 m hm j (w ++ [(w.getD (w.length - 16) 0 + sg0 (w.getD (w.length - 15) 0) + w.getD (w.length - 7) 0 + sg1 (w.getD (w.length - 2) 0)) % M32]) (by simp; omega) (by simp; omega)
      (W32_snoc hw (Nat.mod_lt _ (by unfold M32; omega))) n (by omega) k0
    have g1 : IntKind.i64.wrap ((w.length : Int) - 15) = ((w.length - 15 : Nat) : Int) := by rw [wrap_i64 (by omega) (by omega)]; omega
    have g2 : IntKind.i64.wrap ((w.length : Int) - 2) = ((w.length - 2 : Nat) : Int) := by rw [wrap_i64 (by omega) (by omega)]; omega
    have g3 : IntKind.i64.wrap ((w.length : Int) - 16) = ((w.length - 16 : Nat) : Int) := by rw [wrap_i64 (by omega) (by omega)]; omega
    have g4 : IntKind.i64.wrap ((w.length : Int) - 7) = ((w.length - 7 : Nat) : Int) := by rw [wrap_i64 (by omega) (by omega)]; omega
    have g5 : IntKind.i64.wrap ((w.length : Int) + 1) = ((w.length + 1 : Nat) : Int) := by rw [wrap_i64 (by omega) (by omega)]; omega
    have e3 : (min (Int.toNat 3) IntKind.i64.bits) = 3 := rfl
    have e10 : (min (Int.toNat 10) IntKind.i64.bits) = 10 := rfl
    simp only [spec_l2Words_L1_0, T.rows_l, T.int_i, g1, g2, g3, g4, g5, Int.toNat_natCast, nr_len, nr_get w (w.length - 15) (by omega), nr_get w (w.length - 2) (by omega), nr_get w (w.length - 16) (by omega), nr_get w (w.length - 7) (by omega), e3, e10, fdiv_nat]
    rw [dec_t (by omega), dec_t (by omega), dec_t (by omega), dec_t (by omega), dec_t (by omega)]
    rw [turn_ok (z := 7) (n := 7) hm hx (by omega) (by omega) rfl, turn_ok (z := 18) (n := 18) hm hx (by omega) (by omega) rfl, turn_ok (z := 17) (n := 17) hm hy (by omega) (by omega) rfl, turn_ok (z := 19) (n := 19) hm hy (by omega) (by omega) rfl]
    rw [dec_t (by omega), dec_t (by omega), dec_t (by omega), dec_t (by omega), dec_t (by unfold maxRow; omega)]
    simp only [T.int_i]
    rw [xor3_ok (rotN_lt _ _) (rotN_lt _ _) (Nat.lt_of_le_of_lt (Nat.div_le_self _ _) hx), xor3_ok (rotN_lt _ _) (rotN_lt _ _) (Nat.lt_of_le_of_lt (Nat.div_le_self _ _) hy)]
    simp only [T.int_i]
    have a1 : IntKind.i64.wrap (((w.getD (w.length - 16) 0 : Nat) : Int) + ((rotN (w.getD (w.length - 15) 0) 7 ^^^ rotN (w.getD (w.length - 15) 0) 18 ^^^ w.getD (w.length - 15) 0 / 2 ^ 3 : Nat) : Int)) = ((w.getD (w.length - 16) 0 + sg0 (w.getD (w.length - 15) 0) : Nat) : Int) :=
      wrapN (x := w.getD (w.length - 16) 0 + sg0 (w.getD (w.length - 15) 0)) (by omega)
    rw [a1]
    have a2 : IntKind.i64.wrap (((w.getD (w.length - 16) 0 + sg0 (w.getD (w.length - 15) 0) : Nat) : Int) + ((w.getD (w.length - 7) 0 : Nat) : Int)) = ((w.getD (w.length - 16) 0 + sg0 (w.getD (w.length - 15) 0) + w.getD (w.length - 7) 0 : Nat) : Int) :=
      wrapN (x := w.getD (w.length - 16) 0 + sg0 (w.getD (w.length - 15) 0) + w.getD (w.length - 7) 0) (by omega)
    rw [a2]
    have a3 : IntKind.i64.wrap (((w.getD (w.length - 16) 0 + sg0 (w.getD (w.length - 15) 0) + w.getD (w.length - 7) 0 : Nat) : Int) + ((rotN (w.getD (w.length - 2) 0) 17 ^^^ rotN (w.getD (w.length - 2) 0) 19 ^^^ w.getD (w.length - 2) 0 / 2 ^ 10 : Nat) : Int)) = ((w.getD (w.length - 16) 0 + sg0 (w.getD (w.length - 15) 0) + w.getD (w.length - 7) 0 + sg1 (w.getD (w.length - 2) 0) : Nat) : Int) :=
      wrapN (x := w.getD (w.length - 16) 0 + sg0 (w.getD (w.length - 15) 0) + w.getD (w.length - 7) 0 + sg1 (w.getD (w.length - 2) 0)) (by omega)
    rw [a3, mask64 (by omega), nr_snoc]
    rw [show ((w.length + 1 : Nat) : Int) = (((w ++ [(w.getD (w.length - 16) 0 + sg0 (w.getD (w.length - 15) 0) + w.getD (w.length - 7) 0 + sg1 (w.getD (w.length - 2) 0)) % M32]).length : Nat) : Int) by simp, ih]
    rfl
end Go.Proofs.Ytdnejilapfmnlaa

namespace Go.Proofs.Ytdnejilapfmnlaa
open Go Go.E Go.Proofs
theorem getD_map_range (f : Nat → Nat) (n i : Nat) : ((List.range n).map f).getD i 0 = if i < n then f i else 0 := by
  by_cases h : i < n
  · simp [List.getD, h]
  · simp [List.getD, h]
theorem w16_W32 {b : List Nat} (hb : Bytes b) : W32 (w16 b) := by
  have key : ∀ i, wAt b i < 4294967296 := fun i => beW_lt (hb _) (hb _) (hb _) (hb _)
  have e := getD_map_range (wAt b) 16
  have e2 := w16_eq b
  generalize w16 b = l at e2 ⊢
  generalize wAt b = f at key e e2
  subst e2
  unfold W32
  intro i
  rw [e i]
  split
  · exact key i
  · omega
theorem w16_len (b : List Nat) : (w16 b).length = 16 := by
  rw [w16_eq, List.length_map, List.length_range]
theorem words_ok {m : Nat} (b : List Nat) (hb : Bytes b) (hl : 64 ≤ b.length) (hm : 100 ≤ m) (k : T → An) : spec_l2Words m (.l (nr b)) k = k (.l (nr (words b))) := by
  obtain ⟨m, rfl⟩ : ∃ m', m = m' + 1 := ⟨m - 1, by omega⟩
  have e0 : words b = wExt 48 (w16 b) := by unfold words; rfl
  rw [e0]
  have h16 := w16_len b
  have h32 := w16_W32 hb
  have h1 := fun k0 => wL0 m b hb hl 16 0 (by omega) m (by omega) k0
  generalize w16 b = w at h16 h32 h1 ⊢
  have h2 := fun k0 => wL1 m (by omega) 48 w (by omega) (by omega) h32 m (by omega) k0
  rw [h16] at h2
  generalize wExt 48 w = r at h2 ⊢
  simp only [spec_l2Words, T.rows_l]
  have e1 : (T.l [] : T) = .l (nr ((List.range 0).map (wAt b))) := rfl
  have e2 : (T.i 0 : T) = .i ((0 : Nat) : Int) := rfl
  rw [e1, e2, h1]
  have e3 : (T.i 16 : T) = .i ((16 : Nat) : Int) := rfl
  simp only [T.rows_l]
  rw [e3, h2]
  rfl
end Go.Proofs.Ytdnejilapfmnlaa

namespace Go.Proofs.Ytdnejilapfmnlaa
open Go Go.E Go.Proofs
theorem l2K_ok {m : Nat} (hm : 1 ≤ m) (k : T → An) : spec_l2K m k = k (.l (nr kN)) := by
  obtain ⟨m, rfl⟩ : ∃ m', m = m' + 1 := ⟨m - 1, by omega⟩
  rfl
end Go.Proofs.Ytdnejilapfmnlaa

namespace Go.Proofs.Ytdnejilapfmnlaa
open Go Go.E Go.Proofs
theorem nr_set (v : List Nat) (i x : Nat) : (nr v).set i [T.i (x : Int)] = nr (v.set i x) := by
  unfold nr
  rw [List.map_set]
  rfl
theorem nr_row (v : List Nat) (i : Nat) (h : i < v.length) : (nr v).getD i [] = [T.i ((v.getD i 0 : Nat) : Int)] := by
  simp [nr, List.getD, h]
/-- the sums behind the turns -/
def addH (h : List Nat) : Nat → Nat → List Nat → List Nat
  | 0, _, v => v
  | j + 1, i, v => addH h j (i + 1) (v.set i ((v.getD i 0 + h.getD i 0) % M32))
theorem W32_set {v : List Nat} (hv : W32 v) (i x : Nat) (hx : x < 4294967296) : W32 (v.set i x) := by
  intro j
  have := hv j
  simp only [List.getD, List.getElem?_set] at this ⊢
  split
  · split
    · simpa using hx
    · simp
  · exact this
theorem blkL1 (m : Nat) (h : List Nat) (hh : W32 h) (hl : h.length = 8) : ∀ (j i : Nat) (v : List Nat), i + j = 8 → v.length = 8 → W32 v → ∀ n, j < n → ∀ k0,
    spec_l2Block_L1_0 m n (.l (nr h)) (.i (i : Int)) (.l (nr v)) k0 = k0 (.l (nr (addH h j i v)))
  | 0, i, v, hij, hvl, hv, n, hn, k0 => by
    obtain ⟨n, rfl⟩ : ∃ m', n = m' + 1 := ⟨n - 1, by omega⟩
    simp only [spec_l2Block_L1_0, T.rows_l, T.int_i, addH]
    rw [dec_f (by omega)]
  | j + 1, i, v, hij, hvl, hv, n, hn, k0 => by
    obtain ⟨n, rfl⟩ : ∃ m', n = m' + 1 := ⟨n - 1, by omega⟩
    have h1 := hv i
    have h2 := hh i
    have ih := blkL1 m h hh hl j (i + 1) (v.set i ((v.getD i 0 + h.getD i 0) % M32)) (by omega) (by simpa using hvl) (W32_set hv _ _ (Nat.mod_lt _ (by unfold M32; omega))) n (by omega) k0
    have f4 : IntKind.i64.wrap ((i : Int) + 1) = ((i + 1 : Nat) : Int) := by rw [wrap_i64 (by omega) (by omega)]; omega
    have f5 : IntKind.i64.wrap (((v.getD i 0 : Nat) : Int) + ((h.getD i 0 : Nat) : Int)) = ((v.getD i 0 + h.getD i 0 : Nat) : Int) := wrapN (x := v.getD i 0 + h.getD i 0) (by omega)
    simp only [spec_l2Block_L1_0, T.rows_l, T.int_i, f4, Int.toNat_natCast, nr_len, nr_row v i (by omega), nr_row h i (by omega), List.getD_cons_zero, f5]
    rw [dec_t (by omega), dec_t (by omega), dec_t (by omega), dec_t (by omega), dec_t (by omega), dec_t (by omega), mask64 (by omega)]
    rw [show [T.i ((v.getD i 0 : Nat) : Int)].set 0 (T.i (((v.getD i 0 + h.getD i 0) % M32 : Nat) : Int)) = [T.i (((v.getD i 0 + h.getD i 0) % M32 : Nat) : Int)] from rfl, nr_set]
    exact ih
end Go.Proofs.Ytdnejilapfmnlaa

namespace Go.Proofs.Ytdnejilapfmnlaa
open Go Go.E Go.Proofs
/-! one turn: its parts as they are printed -/
theorem and32 {a b : Nat} (ha : a < 4294967296) (hb : b < 4294967296) : bvBack .i64 (BitVec.ofInt IntKind.i64.bits (a : Int) &&& BitVec.ofInt IntKind.i64.bits (b : Int)) = .i ((a &&& b : Nat) : Int) := and64 (by omega) (by omega)
theorem xor32 {a b : Nat} (ha : a < 4294967296) (hb : b < 4294967296) : bvBack .i64 (BitVec.ofInt IntKind.i64.bits (a : Int) ^^^ BitVec.ofInt IntKind.i64.bits (b : Int)) = .i ((a ^^^ b : Nat) : Int) := xor64 (by omega) (by omega)
theorem and_lt {a b : Nat} (ha : a < 4294967296) : a &&& b < 4294967296 := Nat.lt_of_le_of_lt Nat.and_le_left ha
theorem xor_lt {a b : Nat} (ha : a < 4294967296) (hb : b < 4294967296) : a ^^^ b < 4294967296 := Nat.xor_lt_two_pow (n := 32) ha hb
theorem not32 {e : Nat} (he : e < 4294967296) : bvBack .i64 (BitVec.ofInt IntKind.i64.bits 4294967295 ^^^ BitVec.ofInt IntKind.i64.bits (e : Int)) = .i ((4294967295 - e : Nat) : Int) := by
  have := xor32 (a := 4294967295) (b := e) (by omega) he
  rw [show ((4294967295 : Nat) : Int) = 4294967295 from rfl] at this
  rw [this]
  congr 2
  have h1 := Nat.xor_lt_two_pow (x := 4294967295) (y := e) (n := 32) (by omega) he
  apply Nat.eq_of_testBit_eq
  intro i
  rw [Nat.testBit_xor, show (4294967295 : Nat) = 2 ^ 32 - 1 from rfl, Nat.testBit_two_pow_sub_one, show 2 ^ 32 - 1 - e = 2 ^ 32 - (e + 1) by omega, Nat.testBit_two_pow_sub_succ he]
  by_cases h : i < 32
  · simp [h]
  · have : e.testBit i = false := Nat.testBit_lt_two_pow (Nat.lt_of_lt_of_le (show e < 2 ^ 32 from he) (Nat.pow_le_pow_right (Nat.zero_lt_succ 1) (Nat.le_of_not_lt h)))
    simp [h, this]
end Go.Proofs.Ytdnejilapfmnlaa

namespace Go.Proofs.Ytdnejilapfmnlaa
open Go Go.E Go.Proofs
theorem drop_getD {l : List Nat} {i : Nat} (h : i < l.length) : l.drop i = l.getD i 0 :: l.drop (i + 1) := by
  rw [List.drop_eq_getElem_cons h]
  simp [List.getD, h]
theorem W32_list8 {a b c d e f g h : Nat} (ha : a < 4294967296) (hb : b < 4294967296) (hc : c < 4294967296) (hd : d < 4294967296) (he : e < 4294967296) (hf : f < 4294967296) (hg : g < 4294967296) (hh : h < 4294967296) : W32 [a, b, c, d, e, f, g, h] := by
  intro i
  match i with
  | 0 => exact ha
  | 1 => exact hb
  | 2 => exact hc
  | 3 => exact hd
  | 4 => exact he
  | 5 => exact hf
  | 6 => exact hg
  | 7 => exact hh
  | i + 8 => simp
theorem not_lt32 {e : Nat} (he : e < 4294967296) : 4294967295 - e < 4294967296 := by omega
theorem wadd {x y : Nat} (h : x + y < 9223372036854775808) : IntKind.i64.wrap ((x : Int) + (y : Int)) = ((x + y : Nat) : Int) := wrapN (x := x + y) h
theorem blkL0 (m : Nat) (hm : 1 ≤ m) (h0 : T) (ks ws : List Nat) (hk : W32 ks) (hw : W32 ws) (hkl : ks.length = 64) (hwl : ws.length = 64) : ∀ (j i a b c d e f g h : Nat), i + j = 64 → W32 [a, b, c, d, e, f, g, h] → ∀ n, j < n → ∀ k0,
    spec_l2Block_L0_0 m n (.l h0.rows) (.l (nr ks)) (.i (i : Int)) (.l (nr ws)) (.l (nr [a, b, c, d, e, f, g, h])) k0 = k0 (.l h0.rows) (.l (nr (turns (ks.drop i) (ws.drop i) [a, b, c, d, e, f, g, h])))
  | 0, i, a, b, c, d, e, f, g, h, hij, hv, n, hn, k0 => by
    obtain ⟨n, rfl⟩ : ∃ m', n = m' + 1 := ⟨n - 1, by omega⟩
    have hi : i = 64 := by omega
    subst hi
    rw [List.drop_eq_nil_of_le (by omega), List.drop_eq_nil_of_le (by omega)]
    simp only [spec_l2Block_L0_0, T.rows_l, T.int_i]
    rw [dec_f (by omega)]
    rfl
  | j + 1, i, a, b, c, d, e, f, g, h, hij, hv, n, hn, k0 => by
    obtain ⟨n, rfl⟩ : ∃ m', n = m' + 1 := ⟨n - 1, by omega⟩
    have ha : a < 4294967296 := hv 0
    have hb : b < 4294967296 := hv 1
    have hc : c < 4294967296 := hv 2
    have hd : d < 4294967296 := hv 3
    have he : e < 4294967296 := hv 4
    have hf : f < 4294967296 := hv 5
    have hg : g < 4294967296 := hv 6
    have hh : h < 4294967296 := hv 7
    have hkv := hk i
    have hwv := hw i
    rw [drop_getD (l := ks) (by omega), drop_getD (l := ws) (by omega), turns]
    have f4 : IntKind.i64.wrap ((i : Int) + 1) = ((i + 1 : Nat) : Int) := by rw [wrap_i64 (by omega) (by omega)]; omega
    have kr := nr_get ks i (by omega)
    have wr := nr_get ws i (by omega)
    generalize hkk : ks.getD i 0 = kv at *
    generalize hww : ws.getD i 0 = wv at *
    have r1 := rotN_lt e 6
    have r2 := rotN_lt e 11
    have r3 := rotN_lt e 25
    have r4 := rotN_lt a 2
    have r5 := rotN_lt a 13
    have r6 := rotN_lt a 22
    have e8 : nr [a, b, c, d, e, f, g, h] = [[T.i (a : Int)], [T.i (b : Int)], [T.i (c : Int)], [T.i (d : Int)], [T.i (e : Int)], [T.i (f : Int)], [T.i (g : Int)], [T.i (h : Int)]] := rfl
    simp only [spec_l2Block_L0_0, T.rows_l, T.int_i, f4, Int.toNat_natCast, nr_len, kr, wr, e8, List.getD_cons_zero, List.getD_cons_succ, List.length_cons, List.length_nil, hkl, hwl]
    rw [dec_t (by omega)]
    rw [dec_t (by decide)]
    rw [turn_ok (z := 6) (n := 6) hm he (by omega) (by omega) rfl, turn_ok (z := 11) (n := 11) hm he (by omega) (by omega) rfl, turn_ok (z := 25) (n := 25) hm he (by omega) (by omega) rfl]
    rw [dec_t (by decide), dec_t (by decide), dec_t (by decide), dec_t (by omega), dec_t (by omega), dec_t (by omega), dec_t (by decide)]
    rw [turn_ok (z := 2) (n := 2) hm ha (by omega) (by omega) rfl, turn_ok (z := 13) (n := 13) hm ha (by omega) (by omega) rfl, turn_ok (z := 22) (n := 22) hm ha (by omega) (by omega) rfl]
    repeat rw [dec_t (by first | omega | decide)]
    have q1 := not_lt32 he
    simp only [T.int_i, xor3_ok r1 r2 r3, xor3_ok r4 r5 r6, not32 he, and32 he hf, and32 q1 hg, xor32 (and_lt he) (and_lt q1), and32 ha hb, and32 ha hc, and32 hb hc, xor3_ok (and_lt ha) (and_lt ha) (and_lt hb)]
    obtain ⟨S1, hS1⟩ : ∃ S1, S1 = rotN e 6 ^^^ rotN e 11 ^^^ rotN e 25 := ⟨_, rfl⟩
    obtain ⟨CH, hCH⟩ : ∃ CH, CH = (e &&& f) ^^^ ((4294967295 - e) &&& g) := ⟨_, rfl⟩
    obtain ⟨S0, hS0⟩ : ∃ S0, S0 = rotN a 2 ^^^ rotN a 13 ^^^ rotN a 22 := ⟨_, rfl⟩
    obtain ⟨MJ, hMJ⟩ : ∃ MJ, MJ = (a &&& b) ^^^ (a &&& c) ^^^ (b &&& c) := ⟨_, rfl⟩
    have l1 : S1 < 4294967296 := by rw [hS1]; exact xor_lt (xor_lt r1 r2) r3
    have l2 : CH < 4294967296 := by rw [hCH]; exact xor_lt (and_lt he) (and_lt q1)
    have l3 : S0 < 4294967296 := by rw [hS0]; exact xor_lt (xor_lt r4 r5) r6
    have l4 : MJ < 4294967296 := by rw [hMJ]; exact xor_lt (xor_lt (and_lt ha) (and_lt ha)) (and_lt hb)
    rw [← hS1, ← hCH, ← hS0, ← hMJ]
    have ht : turn1 [a, b, c, d, e, f, g, h] kv wv = [(h + S1 + CH + kv + wv + S0 + MJ) % M32, a, b, c, (d + (h + S1 + CH + kv + wv)) % M32, e, f, g] := by
      rw [hS1, hCH, hS0, hMJ]; rfl
    rw [ht]
    rw [wadd (x := h) (y := S1) (by omega), wadd (x := h + S1) (y := CH) (by omega), wadd (x := h + S1 + CH) (y := kv) (by omega), wadd (x := h + S1 + CH + kv) (y := wv) (by omega), wadd (x := S0) (y := MJ) (by omega),
      wadd (x := h + S1 + CH + kv + wv) (y := S0 + MJ) (by omega), wadd (x := d) (y := h + S1 + CH + kv + wv) (by omega), mask64 (by omega), mask64 (by omega), ← Nat.add_assoc]
    exact blkL0 m hm h0 ks ws hk hw hkl hwl j (i + 1) _ a b c _ e f g (by omega) (W32_list8 (Nat.mod_lt _ (by omega)) ha hb hc (Nat.mod_lt _ (by omega)) he hf hg) n (by omega) k0
end Go.Proofs.Ytdnejilapfmnlaa

namespace Go.Proofs.Ytdnejilapfmnlaa
open Go Go.E Go.Proofs
theorem l8 {l : List Nat} (h : l.length = 8) : ∃ a b c d e f g i, l = [a, b, c, d, e, f, g, i] := by
  match l, h with
  | [a, b, c, d, e, f, g, i], _ => exact ⟨a, b, c, d, e, f, g, i, rfl⟩
theorem turns_ok : ∀ (ks ws v : List Nat), v.length = 8 → W32 v → (turns ks ws v).length = 8 ∧ W32 (turns ks ws v)
  | [], ws, v, h1, h2 => by cases ws <;> exact ⟨h1, h2⟩
  | k :: ks, [], v, h1, h2 => ⟨h1, h2⟩
  | k :: ks, w :: ws, v, h1, h2 => by
    obtain ⟨a, b, c, d, e, f, g, i, rfl⟩ := l8 h1
    rw [turns]
    refine turns_ok ks ws _ rfl ?_
    exact W32_list8 (Nat.mod_lt _ (by unfold M32; omega)) (h2 0) (h2 1) (h2 2) (Nat.mod_lt _ (by unfold M32; omega)) (h2 4) (h2 5) (h2 6)
theorem addH8 (h v : List Nat) (hl : v.length = 8) : addH h 8 0 v = (List.range 8).map fun i => (v.getD i 0 + h.getD i 0) % M32 := by
  obtain ⟨a, b, c, d, e, f, g, i, rfl⟩ := l8 hl
  rfl
theorem kN_W : W32 kN := by
  intro i
  by_cases h : i < 64
  · have : ∀ j, j < 64 → kN.getD j 0 < 4294967296 := by decide
    exact this i h
  · rw [List.getD, List.getElem?_eq_none (by show kN.length ≤ i; have : kN.length = 64 := rfl; omega)]; simp
theorem wExt_l : ∀ (n : Nat) (l : List Nat), (wExt n l).length = l.length + n
  | 0, l => by rw [wExt]; rfl
  | n + 1, l => by rw [wExt, wExt_l n]; simp; omega
theorem wExt_W : ∀ (n : Nat) (l : List Nat), W32 l → W32 (wExt n l)
  | 0, l, h => by rw [wExt]; exact h
  | n + 1, l, h => by rw [wExt]; exact wExt_W n _ (W32_snoc h (Nat.mod_lt _ (by unfold M32; omega)))
theorem words_l (b : List Nat) : (words b).length = 64 := by
  have e : words b = wExt 48 (w16 b) := by unfold words; rfl
  rw [e]
  have h3 := wExt_l 48 (w16 b)
  have h4 := w16_len b
  generalize w16 b = l2 at h3 h4
  generalize wExt 48 l2 = l3 at h3
  omega
theorem words_W {b : List Nat} (h : Bytes b) : W32 (words b) := by
  have e : words b = wExt 48 (w16 b) := by unfold words; rfl
  rw [e]
  have h1 := w16_W32 h
  generalize w16 b = l2 at h1
  exact wExt_W 48 l2 h1
theorem l2Block_ok {m : Nat} (h b : List Nat) (hl : h.length = 8) (hh : W32 h) (hb : Bytes b) (hbl : 64 ≤ b.length) (hm : 200 ≤ m) (k : T → An) : spec_l2Block m (.l (nr h)) (.l (nr b)) (.l (nr kN)) k = k (.l (nr (blockN kN h b))) := by
  obtain ⟨m, rfl⟩ : ∃ m', m = m' + 1 := ⟨m - 1, by omega⟩
  have hwl := words_l b
  have hw := words_W hb
  have hkw := kN_W
  have hkl : kN.length = 64 := rfl
  have e1 : blockN kN h b = (List.range 8).map fun i => ((turns kN (words b) h).getD i 0 + h.getD i 0) % M32 := rfl
  rw [e1]
  simp only [spec_l2Block, T.rows_l]
  rw [words_ok b hb hbl (by omega)]
  generalize words b = ws at hwl hw ⊢
  generalize kN = ks at hkw hkl ⊢
  simp only [nr_len, T.rows_l]
  rw [dec_t (by unfold maxRow; omega)]
  obtain ⟨h1, h2⟩ := turns_ok ks ws h hl hh
  rw [← addH8 h _ h1]
  obtain ⟨a, b', c, d, e, f, g, i, rfl⟩ := l8 hl
  have := blkL0 m (by omega) (.l (nr [a, b', c, d, e, f, g, i])) ks ws hkw hw hkl hwl 64 0 a b' c d e f g i rfl hh m (by omega)
  simp only [T.rows_l, List.drop_zero] at this
  rw [show (T.i 0 : T) = .i ((0 : Nat) : Int) from rfl, this]
  simp only [T.rows_l]
  rw [blkL1 m _ hh rfl 8 0 _ rfl h1 h2 m (by omega)]
  simp only [T.rows_l]
def b4 (x : Nat) : List Nat := [x / 2 ^ 24 % 256, x / 2 ^ 16 % 256, x / 2 ^ 8 % 256, x % 256]
theorem digL1 (m : Nat) (h : List Nat) (hl : h.length = 8) : ∀ (j i : Nat) (out : List Nat), i + j = 8 → out.length = 4 * i → ∀ n, j < n → ∀ k0,
    spec_Digest_L1_0 m n (.i (i : Int)) (.l (nr h)) (.l (nr out)) k0 = k0 (.l (nr (out ++ (h.drop i).flatMap b4)))
  | 0, i, out, hij, ho, n, hn, k0 => by
    obtain ⟨n, rfl⟩ : ∃ m', n = m' + 1 := ⟨n - 1, by omega⟩
    simp only [spec_Digest_L1_0, T.rows_l, T.int_i]
    rw [dec_f (by omega), List.drop_eq_nil_of_le (by omega)]
    simp
  | j + 1, i, out, hij, ho, n, hn, k0 => by
    obtain ⟨n, rfl⟩ : ∃ m', n = m' + 1 := ⟨n - 1, by omega⟩
    have f4 : IntKind.i64.wrap ((i : Int) + 1) = ((i + 1 : Nat) : Int) := by rw [wrap_i64 (by omega) (by omega)]; omega
    have s1 : (min (Int.toNat 24) IntKind.i64.bits) = 24 := rfl
    have s2 : (min (Int.toNat 16) IntKind.i64.bits) = 16 := rfl
    have s3 : (min (Int.toNat 8) IntKind.i64.bits) = 8 := rfl
    simp only [spec_Digest_L1_0, T.rows_l, T.int_i, nr_len, f4, Int.toNat_natCast, nr_get h i (by omega), s1, s2, s3, fdiv_nat, wrap_u8]
    repeat rw [dec_t (by first | omega | (unfold maxRow; omega))]
    rw [drop_getD (l := h) (by omega), List.flatMap_cons]
    have e : (nr out ++ [[T.i ((h.getD i 0 / 2 ^ 24 % 256 : Nat) : Int)], [T.i ((h.getD i 0 / 2 ^ 16 % 256 : Nat) : Int)], [T.i ((h.getD i 0 / 2 ^ 8 % 256 : Nat) : Int)], [T.i ((h.getD i 0 % 256 : Nat) : Int)]]) = nr (out ++ b4 (h.getD i 0)) := by
      rw [nr_app]; rfl
    rw [e, digL1 m h hl j (i + 1) (out ++ b4 (h.getD i 0)) (by omega) (by rw [List.length_append, ho]; show 4 * i + 4 = _; omega) n (by omega), List.append_assoc]
theorem nr_take (l : List Nat) (n : Nat) : (nr l).take n = nr (l.take n) := by unfold nr; rw [List.map_take]
theorem nr_drop (l : List Nat) (n : Nat) : (nr l).drop n = nr (l.drop n) := by unfold nr; rw [List.map_drop]
theorem blockN_l (ks h b : List Nat) : (blockN ks h b).length = 8 := by simp [blockN]
theorem blockN_W (ks h b : List Nat) : W32 (blockN ks h b) := by
  intro i
  unfold blockN
  rw [getD_map_range]
  split
  · exact Nat.mod_lt _ (by unfold M32; omega)
  · omega
theorem digL0 (m : Nat) (hm : 200 ≤ m) (p : List Nat) (c : Nat) (hp : p.length = 64 * c) (hc : c ≤ 1073741824) (hb : Bytes p) : ∀ (j i : Nat) (h : List Nat), i + j = c → h.length = 8 → W32 h → ∀ n, j < n → ∀ k0,
    spec_Digest_L0_0 m n (.i ((64 * i : Nat) : Int)) (.l (nr p)) (.l (nr h)) (.l (nr kN)) k0 = k0 (.l (nr (blocksN kN j h (p.drop (64 * i)))))
  | 0, i, h, hij, h1, h2, n, hn, k0 => by
    obtain ⟨n, rfl⟩ : ∃ m', n = m' + 1 := ⟨n - 1, by omega⟩
    simp only [spec_Digest_L0_0, T.rows_l, T.int_i, nr_len, blocksN]
    rw [dec_f (by omega)]
  | j + 1, i, h, hij, h1, h2, n, hn, k0 => by
    obtain ⟨n, rfl⟩ : ∃ m', n = m' + 1 := ⟨n - 1, by omega⟩
    have f4 : IntKind.i64.wrap (((64 * i : Nat) : Int) + 64) = ((64 * (i + 1) : Nat) : Int) := by rw [wrap_i64 (by omega) (by omega)]; omega
    have hbt : Bytes ((p.drop (64 * i)).take 64) := fun t => by
      by_cases ht : t < 64
      · have := hb (64 * i + t)
        simpa [List.getD, List.getElem?_take, List.getElem?_drop, ht] using this
      · simp [List.getD, List.getElem?_take, ht]
    have e1 : ((nr p).take (64 * (i + 1))).drop (64 * i) = nr ((p.drop (64 * i)).take 64) := by
      rw [nr_take, nr_drop, List.drop_take, show 64 * (i + 1) - 64 * i = 64 by omega]
    have e2 : blocksN kN (j + 1) h (p.drop (64 * i)) = blocksN kN j (blockN kN h ((p.drop (64 * i)).take 64)) (p.drop (64 * (i + 1))) := by
      rw [blocksN, List.drop_drop, show 64 * i + 64 = 64 * (i + 1) by omega]
    rw [e2]
    simp only [spec_Digest_L0_0, T.rows_l, T.int_i, nr_len, f4, Int.toNat_natCast, e1]
    rw [dec_t (by omega), dec_t (by omega), dec_t (by omega), l2Block_ok h _ h1 h2 hbt (by rw [List.length_take, List.length_drop]; omega) hm]
    simp only [T.rows_l]
    exact digL0 m hm p c hp hc hb j (i + 1) _ (by omega) (blockN_l _ _ _) (blockN_W _ _ _) n (by omega) k0
theorem h0N_W : W32 h0N := W32_list8 (by decide) (by decide) (by decide) (by decide) (by decide) (by decide) (by decide) (by decide)
theorem blocksN_ok : ∀ (n : Nat) (h p : List Nat), h.length = 8 → W32 h → (blocksN kN n h p).length = 8
  | 0, h, p, h1, h2 => h1
  | n + 1, h, p, h1, h2 => by rw [blocksN]; exact blocksN_ok n _ _ (blockN_l _ _ _) (blockN_W _ _ _)
theorem pad_bytes {l : List Nat} (h : Bytes l) : Bytes (padN l) := by
  have hall : ∀ {m : List Nat}, (∀ x ∈ m, x < 256) → Bytes m := fun {m} hm i => by
    by_cases hi : i < m.length
    · have : m.getD i 0 = m[i] := by simp [List.getD, hi]
      rw [this]
      exact hm _ (List.getElem_mem hi)
    · rw [List.getD, List.getElem?_eq_none (by omega)]; simp
  have hl : ∀ x ∈ l, x < 256 := fun x hx => by
    obtain ⟨i, hi, rfl⟩ := List.getElem_of_mem hx
    have := h i
    simpa [List.getD, hi] using this
  refine hall fun x hx => ?_
  unfold padN at hx
  simp only [List.mem_append, List.mem_cons, List.not_mem_nil, or_false, List.mem_replicate, List.mem_map] at hx
  rcases hx with ((hx | hx) | hx) | ⟨i, -, rfl⟩
  · exact hl x hx
  · omega
  · omega
  · exact Nat.mod_lt _ (by omega)
theorem pad_len (l : List Nat) : ∃ c, (padN l).length = 64 * c ∧ 64 * c ≤ l.length + 136 := by
  refine ⟨(l.length + 1 + (119 - l.length % 64) % 64 + 8) / 64, ?_, by omega⟩
  simp [padN]
  omega
theorem rowsBytes_nr (l : List Nat) : rowsBytes (nr l) = ⟨(l.map UInt8.ofNat).toArray⟩ := by
  unfold rowsBytes nr
  rw [List.map_map]
  rfl
theorem digB_nr (l : List Nat) : digestB (nr l) = ⟨((digestN l).map UInt8.ofNat).toArray⟩ := by
  unfold digestB
  have : (nr l).map (fun r => (r.getD 0 dflt).int.toNat) = l := by
    unfold nr
    rw [List.map_map]
    exact List.map_id _
  rw [this]
/-- the reference's digest -/
theorem spec_Digest_ok {m : Nat} (l : List Nat) (hl : l.length ≤ 1073741824) (hb : Bytes l) (hm : 20000000 ≤ m) (k : T → An) : spec_Digest m (.l (nr l)) k = k (.s (digestB (nr l))) := by
  obtain ⟨m, rfl⟩ : ∃ m', m = m' + 1 := ⟨m - 1, by omega⟩
  obtain ⟨c, hc, hc2⟩ := pad_len l
  simp only [spec_Digest, T.rows_l]
  rw [pad_ok l hl (by omega), l2K_ok (by omega)]
  simp only [T.rows_l]
  rw [show (T.i 0 : T) = .i ((64 * 0 : Nat) : Int) from rfl, show ([[(T.i 1779033703)], [(T.i 3144134277)], [(T.i 1013904242)], [(T.i 2773480762)], [(T.i 1359893119)], [(T.i 2600822924)], [(T.i 528734635)], [(T.i 1541459225)]] : List (List T)) = nr h0N from rfl]
  rw [digL0 m (by omega) (padN l) c hc (by omega) (pad_bytes hb) c 0 h0N (by omega) rfl h0N_W m (by omega)]
  simp only [T.rows_l, Nat.mul_zero, List.drop_zero]
  have h8 := blocksN_ok c h0N (padN l) rfl h0N_W
  have e0 : digestN l = (blocksN kN c h0N (padN l)).flatMap b4 := by
    unfold digestN
    rw [hc, Nat.mul_div_cancel_left c (by omega)]
    rfl
  rw [digB_nr, e0]
  generalize blocksN kN c h0N (padN l) = z at h8 ⊢
  rw [show (T.l [] : T) = .l (nr []) from rfl, digL1 m z h8 8 0 [] rfl rfl m (by omega)]
  simp only [T.rows_l, List.nil_append, List.drop_zero]
  rw [rowsBytes_nr]
end Go.Proofs.Ytdnejilapfmnlaa

namespace Go.Proofs.Ytdnejilapfmnlaa
open Go Go.E Go.Proofs
mutual
def tsz : T → Nat
  | .i _ => 0
  | .b _ => 0
  | .s s => s.size
  | .l rows => rows.length + rowsSz rows
  | .x _ => 0
def rowSz : List T → Nat
  | [] => 0
  | d :: ds => tsz d + rowSz ds
def rowsSz : List (List T) → Nat
  | [] => 0
  | r :: rs => rowSz r + rowsSz rs
end
theorem rowsSz_app : ∀ a b : List (List T), rowsSz (a ++ b) = rowsSz a + rowsSz b
  | [], b => by simp [rowsSz]
  | x :: a, b => by simp only [List.cons_append, rowsSz, rowsSz_app a b]; omega
theorem rowsBulk_app : ∀ a b : List (List T), rowsBulk (a ++ b) = rowsBulk a + rowsBulk b
  | [], b => by simp [rowsBulk]
  | x :: a, b => by simp only [List.cons_append, rowsBulk, rowsBulk_app a b]; omega
theorem ix_row (pre : List (List T)) (x : List T) (post : List (List T)) : (pre ++ x :: post).getD (Int.toNat (pre.length : Int)) [] = x := by simp [List.getD]
theorem ix_nx {α : Type} (pre : List α) (h : pre.length < 4611686018427387904) : IntKind.i64.wrap ((pre.length : Int) + 1) = (pre.length : Int) + 1 := wrap_i64 (by omega) (by omega)
theorem len_snoc {α : Type} (pre : List α) (x : α) : (((pre ++ [x]).length : Nat) : Int) = (pre.length : Int) + 1 := by simp
theorem set_row (pre : List (List T)) (x y : List T) (post : List (List T)) : (pre ++ x :: post).set (Int.toNat (pre.length : Int)) y = pre ++ y :: post := by simp [List.set_append]
theorem wtRow_ne {es : List LT} (hes : es ≠ []) {r : List T} (h : WtRow es r) : 1 ≤ rowBulk r := by
  match es, hes with
  | e :: es, _ =>
    unfold WtRow at h
    obtain ⟨d, r, rfl, -, -⟩ := h
    have : 1 ≤ tbulk d := by cases d <;> simp [tbulk]
    simp only [rowBulk]; omega
theorem wtRows_len {es : List LT} (hes : es ≠ []) : ∀ {rows : List (List T)}, (∀ r ∈ rows, WtRow es r) → rows.length ≤ rowsBulk rows
  | [], _ => by simp [rowsBulk]
  | r :: rows, h => by
    have h1 := wtRow_ne hes (h r (by simp))
    have h2 := wtRows_len hes (rows := rows) fun r hr => h r (by simp [hr])
    simp only [rowsBulk, List.length_cons]; omega
abbrev esString : List LT := [.sc .str]
theorem toStringS_loop (m : Nat) (hm : 1048602 ≤ m) : ∀ (post pre z : List (List T)), (∀ r ∈ post, WtRow esString r) → rowsBulk post ≤ 1048576 → z.length = post.length → (∀ r ∈ z, r.length = 1) → pre.length + post.length ≤ 1048576 →
    ∀ n, post.length < n → ∀ k0, laws_toStringS_L0_0 m n (.l (pre ++ post)) (.i pre.length) (.l (pre ++ z)) k0 = k0 (.l (pre ++ post))
  | [], pre, z, h, hb, hz, hz2, hs, n, hn, k0 => by
    obtain ⟨n, rfl⟩ : ∃ m', n = m' + 1 := ⟨n - 1, by omega⟩
    obtain rfl : z = [] := List.eq_nil_of_length_eq_zero hz
    simp only [laws_toStringS_L0_0, T.int_i, T.rows_l]
    rw [dec_f (by simp)]
  | x :: post, pre, z, h, hb, hz, hz2, hs, n, hn, k0 => by
    obtain ⟨n, rfl⟩ : ∃ m', n = m' + 1 := ⟨n - 1, by omega⟩
    simp only [List.length_cons] at hs hn hz
    match z, hz, hz2 with
    | r :: z, hz, hz2 =>
    simp only [List.length_cons] at hz
    match r, hz2 r (by simp) with
    | [c0], _ =>
    have ih := toStringS_loop m hm post (pre ++ [x]) z (fun r hr => h r (by simp [hr])) (by simp only [rowsBulk] at hb; omega) (by omega) (fun r hr => hz2 r (by simp [hr])) (by simp; omega) n (by omega) k0
    have hx := h x (by simp)
    simp only [esString, WtRow, WtT] at hx
    obtain ⟨_, _, rfl, ⟨a0, rfl, -⟩, rfl⟩ := hx
    simp only [rowsBulk, rowBulk, tbulk] at hb
    simp only [laws_toStringS_L0_0, T.int_i, T.rows_l, ix_row, ix_nx pre (by omega), set_row, List.getD_cons_zero, List.getD_cons_succ, List.set_cons_zero, List.set_cons_succ]
    rw [dec_t (by simp; omega), dec_t (by simp; omega)]
    rw [dec_t (by simp; omega), dec_t (by simp)]
    simpa using ih
theorem toStringS_ok {m : Nat} (hm : 1048603 ≤ m) (rows : List (List T)) (h : ∀ r ∈ rows, WtRow esString r) (hb : rowsBulk rows ≤ 1048576) (k : T → An) : laws_toStringS m (.l rows) k = k (.l rows) := by
  obtain ⟨m, rfl⟩ : ∃ m', m = m' + 1 := ⟨m - 1, by omega⟩
  have hl := wtRows_len (by simp) h
  simp only [laws_toStringS, T.rows_l, T.int_i]
  rw [dec_t (by omega), dec_t (by unfold maxCells; omega)]
  exact toStringS_loop m (by omega) rows [] (List.replicate _ _) h hb (by simp) (fun r hr => by rw [List.eq_of_mem_replicate hr]; rfl) (by simp; omega) m (by omega) _
theorem szStringS_loop (m : Nat) (hm : 1048602 ≤ m) : ∀ (post pre : List (List T)) (l : Int), (∀ r ∈ post, WtRow esString r) → rowsBulk post ≤ 1048576 → (rowsSz post : Int) ≤ l → l ≤ 1048576 → pre.length + post.length ≤ 1048576 →
    ∀ n, post.length < n → ∀ k0 k1, laws_szStringS_L0_0 m n (.l (pre ++ post)) (.i l) (.i pre.length) k0 k1 = k1 (.i (l - rowsSz post))
  | [], pre, l, h, hb, hl, hl2, hs, n, hn, k0, k1 => by
    obtain ⟨n, rfl⟩ : ∃ m', n = m' + 1 := ⟨n - 1, by omega⟩
    simp only [laws_szStringS_L0_0, T.int_i, T.rows_l]
    rw [dec_f (by simp)]
    simp [rowsSz]
  | x :: post, pre, l, h, hb, hl, hl2, hs, n, hn, k0, k1 => by
    obtain ⟨n, rfl⟩ : ∃ m', n = m' + 1 := ⟨n - 1, by omega⟩
    simp only [List.length_cons] at hs hn
    simp only [rowsSz] at hl ⊢
    have ih := fun l hl hl2 => szStringS_loop m hm post (pre ++ [x]) l (fun r hr => h r (by simp [hr])) (by simp only [rowsBulk] at hb; omega) hl hl2 (by simp; omega) n (by omega) k0 k1
    have hx := h x (by simp)
    simp only [esString, WtRow, WtT] at hx
    obtain ⟨_, _, rfl, ⟨a0, rfl, -⟩, rfl⟩ := hx
    simp only [rowsBulk, rowBulk, tbulk] at hb
    simp only [laws_szStringS_L0_0, T.int_i, T.rows_l, ix_row, ix_nx pre (by omega), List.getD_cons_zero, List.getD_cons_succ]
    rw [dec_t (by simp; omega), dec_t (by simp; omega)]
    simp only [rowSz, tsz, T.str_s] at hl ⊢
    rw [show IntKind.i64.wrap (l - (a0.size : Int)) = l - (a0.size : Int) from wrap_i64 (by omega) (by omega), dec_f (by omega)]
    have := ih (l - a0.size) (by omega) (by omega)
    simp only [List.append_assoc, List.cons_append, List.nil_append, len_snoc] at this
    refine this.trans ?_
    congr 2; omega
theorem szStringS_ok {m : Nat} (hm : 1048603 ≤ m) (rows : List (List T)) (h : ∀ r ∈ rows, WtRow esString r) (hb : rowsBulk rows ≤ 1048576) (l : Int) (hl : ((rows.length + rowsSz rows : Nat) : Int) ≤ l) (hl2 : l ≤ 1048576) (k : T → An) : laws_szStringS m (.l rows) (.i l) k = k (.i (l - (rows.length + rowsSz rows : Nat))) := by
  obtain ⟨m, rfl⟩ : ∃ m', m = m' + 1 := ⟨m - 1, by omega⟩
  have hlen := wtRows_len (by simp) h
  simp only [laws_szStringS, T.rows_l, T.int_i]
  rw [show IntKind.i64.wrap (l - (rows.length : Int)) = l - (rows.length : Int) from wrap_i64 (by omega) (by omega), dec_f (by omega)]
  refine (szStringS_loop m (by omega) rows [] (l - rows.length) h hb (by omega) (by omega) (by simp; omega) m (by omega) _ _).trans ?_
  congr 2; omega
theorem eqStringS_loop (m : Nat) (hm : 1048602 ≤ m) : ∀ (post pre : List (List T)), (∀ r ∈ post, WtRow esString r) → rowsBulk post ≤ 1048576 → pre.length + post.length ≤ 1048576 →
    ∀ n, post.length < n → ∀ k0 k1, laws_eqStringS_L0_0 m n (.l (pre ++ post)) (.l (pre ++ post)) (.i pre.length) k0 k1 = k1
  | [], pre, h, hb, hs, n, hn, k0, k1 => by
    obtain ⟨n, rfl⟩ : ∃ m', n = m' + 1 := ⟨n - 1, by omega⟩
    simp only [laws_eqStringS_L0_0, T.int_i, T.rows_l]
    rw [dec_f (by simp)]
  | x :: post, pre, h, hb, hs, n, hn, k0, k1 => by
    obtain ⟨n, rfl⟩ : ∃ m', n = m' + 1 := ⟨n - 1, by omega⟩
    simp only [List.length_cons] at hs hn
    have ih := eqStringS_loop m hm post (pre ++ [x]) (fun r hr => h r (by simp [hr])) (by simp only [rowsBulk] at hb; omega) (by simp; omega) n (by omega) k0 k1
    have hx := h x (by simp)
    simp only [esString, WtRow, WtT] at hx
    obtain ⟨_, _, rfl, ⟨a0, rfl, -⟩, rfl⟩ := hx
    simp only [rowsBulk, rowBulk, tbulk] at hb
    simp only [laws_eqStringS_L0_0, T.int_i, T.rows_l, ix_row, ix_nx pre (by omega), List.getD_cons_zero, List.getD_cons_succ]
    rw [dec_t (by simp; omega), dec_t (by simp; omega), dec_t (by simp; omega)]
    simp only [T.str_s, beq_toList_self, Bool.not_true, cond_false]
    simpa using ih
theorem eqStringS_ok {m : Nat} (hm : 1048603 ≤ m) (rows : List (List T)) (h : ∀ r ∈ rows, WtRow esString r) (hb : rowsBulk rows ≤ 1048576) (k : T → An) : laws_eqStringS m (.l rows) (.l rows) k = k (.b true) := by
  obtain ⟨m, rfl⟩ : ∃ m', m = m' + 1 := ⟨m - 1, by omega⟩
  have hlen := wtRows_len (by simp) h
  simp only [laws_eqStringS, T.rows_l, T.int_i, bne_self_eq_false, cond_false]
  exact eqStringS_loop m (by omega) rows [] h hb (by simp; omega) m (by omega) _ _
abbrev esSeal : List LT := [.sc (.int .i64), .sc .str, .sc .str, .sl esString]
theorem toSeal_ok {m : Nat} (hm : 1048606 ≤ m) (a0 : Int) (a1 : ByteArray) (a2 : ByteArray) (a3 : List (List T)) (h3 : ∀ r ∈ a3, WtRow esString r) (b3 : rowsBulk a3 ≤ 1048576) (k : T → T → T → T → An) : laws_toSeal m (.i a0) (.s a1) (.s a2) (.l a3) k = k (.i a0) (.s a1) (.s a2) (.l a3) := by
  obtain ⟨m, rfl⟩ : ∃ m', m = m' + 1 := ⟨m - 1, by omega⟩
  simp only [laws_toSeal, T.rows_l]
  rw [toStringS_ok (by omega) a3 h3 b3]
  try simp only [T.rows_l]
theorem toSealS_loop (m : Nat) (hm : 1048606 ≤ m) : ∀ (post pre z : List (List T)), (∀ r ∈ post, WtRow esSeal r) → rowsBulk post ≤ 1048576 → z.length = post.length → (∀ r ∈ z, r.length = 4) → pre.length + post.length ≤ 1048576 →
    ∀ n, post.length < n → ∀ k0, laws_toSealS_L0_0 m n (.l (pre ++ post)) (.i pre.length) (.l (pre ++ z)) k0 = k0 (.l (pre ++ post))
  | [], pre, z, h, hb, hz, hz2, hs, n, hn, k0 => by
    obtain ⟨n, rfl⟩ : ∃ m', n = m' + 1 := ⟨n - 1, by omega⟩
    obtain rfl : z = [] := List.eq_nil_of_length_eq_zero hz
    simp only [laws_toSealS_L0_0, T.int_i, T.rows_l]
    rw [dec_f (by simp)]
  | x :: post, pre, z, h, hb, hz, hz2, hs, n, hn, k0 => by
    obtain ⟨n, rfl⟩ : ∃ m', n = m' + 1 := ⟨n - 1, by omega⟩
    simp only [List.length_cons] at hs hn hz
    match z, hz, hz2 with
    | r :: z, hz, hz2 =>
    simp only [List.length_cons] at hz
    match r, hz2 r (by simp) with
    | [c0, c1, c2, c3], _ =>
    have ih := toSealS_loop m hm post (pre ++ [x]) z (fun r hr => h r (by simp [hr])) (by simp only [rowsBulk] at hb; omega) (by omega) (fun r hr => hz2 r (by simp [hr])) (by simp; omega) n (by omega) k0
    have hx := h x (by simp)
    simp only [esSeal, WtRow, WtT] at hx
    obtain ⟨_, _, rfl, ⟨a0, rfl, -⟩, _, _, rfl, ⟨a1, rfl, -⟩, _, _, rfl, ⟨a2, rfl, -⟩, _, _, rfl, ⟨a3, rfl, h3⟩, rfl⟩ := hx
    simp only [rowsBulk, rowBulk, tbulk] at hb
    simp only [laws_toSealS_L0_0, T.int_i, T.rows_l, ix_row, ix_nx pre (by omega), set_row, List.getD_cons_zero, List.getD_cons_succ, List.set_cons_zero, List.set_cons_succ]
    rw [dec_t (by simp; omega), dec_t (by simp; omega)]
    rw [toSeal_ok (by omega) a0 a1 a2 a3 h3 (by omega), dec_t (by simp; omega), dec_t (by simp)]
    simpa using ih
theorem toSealS_ok {m : Nat} (hm : 1048607 ≤ m) (rows : List (List T)) (h : ∀ r ∈ rows, WtRow esSeal r) (hb : rowsBulk rows ≤ 1048576) (k : T → An) : laws_toSealS m (.l rows) k = k (.l rows) := by
  obtain ⟨m, rfl⟩ : ∃ m', m = m' + 1 := ⟨m - 1, by omega⟩
  have hl := wtRows_len (by simp) h
  simp only [laws_toSealS, T.rows_l, T.int_i]
  rw [dec_t (by omega), dec_t (by unfold maxCells; omega)]
  exact toSealS_loop m (by omega) rows [] (List.replicate _ _) h hb (by simp) (fun r hr => by rw [List.eq_of_mem_replicate hr]; rfl) (by simp; omega) m (by omega) _
theorem szSeal_ok {m : Nat} (hm : 1048606 ≤ m) (a0 : Int) (a1 : ByteArray) (a2 : ByteArray) (a3 : List (List T)) (h3 : ∀ r ∈ a3, WtRow esString r) (b3 : rowsBulk a3 ≤ 1048576) (l : Int) (hl : (rowSz [.i a0, .s a1, .s a2, .l a3] : Int) ≤ l) (hl2 : l ≤ 1048576) (k : T → An) : laws_szSeal m (.i a0) (.s a1) (.s a2) (.l a3) (.i l) k = k (.i (l - (rowSz [.i a0, .s a1, .s a2, .l a3] : Nat))) := by
  obtain ⟨m, rfl⟩ : ∃ m', m = m' + 1 := ⟨m - 1, by omega⟩
  simp only [rowSz, tsz] at hl ⊢
  simp only [laws_szSeal, T.rows_l, T.int_i, T.str_s]
  rw [show IntKind.i64.wrap (l - (a1.size : Int)) = l - (a1.size : Int) from wrap_i64 (by omega) (by omega)]
  rw [dec_f (by omega)]
  rw [show IntKind.i64.wrap ((l - (a1.size : Int)) - (a2.size : Int)) = (l - (a1.size : Int)) - (a2.size : Int) from wrap_i64 (by omega) (by omega)]
  rw [dec_f (by omega)]
  rw [szStringS_ok (by omega) a3 h3 b3 ((l - (a1.size : Int)) - (a2.size : Int)) (by omega) (by omega), T.int_i, dec_f (by omega)]
  congr 2; omega
theorem szSealS_loop (m : Nat) (hm : 1048606 ≤ m) : ∀ (post pre : List (List T)) (l : Int), (∀ r ∈ post, WtRow esSeal r) → rowsBulk post ≤ 1048576 → (rowsSz post : Int) ≤ l → l ≤ 1048576 → pre.length + post.length ≤ 1048576 →
    ∀ n, post.length < n → ∀ k0 k1, laws_szSealS_L0_0 m n (.l (pre ++ post)) (.i l) (.i pre.length) k0 k1 = k1 (.i (l - rowsSz post))
  | [], pre, l, h, hb, hl, hl2, hs, n, hn, k0, k1 => by
    obtain ⟨n, rfl⟩ : ∃ m', n = m' + 1 := ⟨n - 1, by omega⟩
    simp only [laws_szSealS_L0_0, T.int_i, T.rows_l]
    rw [dec_f (by simp)]
    simp [rowsSz]
  | x :: post, pre, l, h, hb, hl, hl2, hs, n, hn, k0, k1 => by
    obtain ⟨n, rfl⟩ : ∃ m', n = m' + 1 := ⟨n - 1, by omega⟩
    simp only [List.length_cons] at hs hn
    simp only [rowsSz] at hl ⊢
    have ih := fun l hl hl2 => szSealS_loop m hm post (pre ++ [x]) l (fun r hr => h r (by simp [hr])) (by simp only [rowsBulk] at hb; omega) hl hl2 (by simp; omega) n (by omega) k0 k1
    have hx := h x (by simp)
    simp only [esSeal, WtRow, WtT] at hx
    obtain ⟨_, _, rfl, ⟨a0, rfl, -⟩, _, _, rfl, ⟨a1, rfl, -⟩, _, _, rfl, ⟨a2, rfl, -⟩, _, _, rfl, ⟨a3, rfl, h3⟩, rfl⟩ := hx
    simp only [rowsBulk, rowBulk, tbulk] at hb
    simp only [laws_szSealS_L0_0, T.int_i, T.rows_l, ix_row, ix_nx pre (by omega), List.getD_cons_zero, List.getD_cons_succ]
    rw [dec_t (by simp; omega), dec_t (by simp; omega)]
    rw [szSeal_ok (by omega) a0 a1 a2 a3 h3 (by omega) l (by omega) hl2, T.int_i, dec_f (by omega)]
    have := ih (l - (rowSz [.i a0, .s a1, .s a2, .l a3] : Nat)) (by omega) (by omega)
    simp only [List.append_assoc, List.cons_append, List.nil_append, len_snoc] at this
    refine this.trans ?_
    congr 2; omega
theorem szSealS_ok {m : Nat} (hm : 1048607 ≤ m) (rows : List (List T)) (h : ∀ r ∈ rows, WtRow esSeal r) (hb : rowsBulk rows ≤ 1048576) (l : Int) (hl : ((rows.length + rowsSz rows : Nat) : Int) ≤ l) (hl2 : l ≤ 1048576) (k : T → An) : laws_szSealS m (.l rows) (.i l) k = k (.i (l - (rows.length + rowsSz rows : Nat))) := by
  obtain ⟨m, rfl⟩ : ∃ m', m = m' + 1 := ⟨m - 1, by omega⟩
  have hlen := wtRows_len (by simp) h
  simp only [laws_szSealS, T.rows_l, T.int_i]
  rw [show IntKind.i64.wrap (l - (rows.length : Int)) = l - (rows.length : Int) from wrap_i64 (by omega) (by omega), dec_f (by omega)]
  refine (szSealS_loop m (by omega) rows [] (l - rows.length) h hb (by omega) (by omega) (by simp; omega) m (by omega) _ _).trans ?_
  congr 2; omega
theorem eqSeal_ok {m : Nat} (hm : 1048606 ≤ m) (a0 : Int) (a1 : ByteArray) (a2 : ByteArray) (a3 : List (List T)) (h3 : ∀ r ∈ a3, WtRow esString r) (b3 : rowsBulk a3 ≤ 1048576) (k : T → An) : laws_eqSeal m (.i a0) (.s a1) (.s a2) (.l a3) (.i a0) (.s a1) (.s a2) (.l a3) k = k (.b true) := by
  obtain ⟨m, rfl⟩ : ∃ m', m = m' + 1 := ⟨m - 1, by omega⟩
  simp only [laws_eqSeal, T.rows_l, T.int_i, T.str_s, T.bool_b, bne_self_eq_false, beq_toList_self, beq_self_eq_true, Bool.not_true, cond_false, eqStringS_ok (m := m) (by omega) a3 h3 b3]
theorem eqSealS_loop (m : Nat) (hm : 1048606 ≤ m) : ∀ (post pre : List (List T)), (∀ r ∈ post, WtRow esSeal r) → rowsBulk post ≤ 1048576 → pre.length + post.length ≤ 1048576 →
    ∀ n, post.length < n → ∀ k0 k1, laws_eqSealS_L0_0 m n (.l (pre ++ post)) (.l (pre ++ post)) (.i pre.length) k0 k1 = k1
  | [], pre, h, hb, hs, n, hn, k0, k1 => by
    obtain ⟨n, rfl⟩ : ∃ m', n = m' + 1 := ⟨n - 1, by omega⟩
    simp only [laws_eqSealS_L0_0, T.int_i, T.rows_l]
    rw [dec_f (by simp)]
  | x :: post, pre, h, hb, hs, n, hn, k0, k1 => by
    obtain ⟨n, rfl⟩ : ∃ m', n = m' + 1 := ⟨n - 1, by omega⟩
    simp only [List.length_cons] at hs hn
    have ih := eqSealS_loop m hm post (pre ++ [x]) (fun r hr => h r (by simp [hr])) (by simp only [rowsBulk] at hb; omega) (by simp; omega) n (by omega) k0 k1
    have hx := h x (by simp)
    simp only [esSeal, WtRow, WtT] at hx
    obtain ⟨_, _, rfl, ⟨a0, rfl, -⟩, _, _, rfl, ⟨a1, rfl, -⟩, _, _, rfl, ⟨a2, rfl, -⟩, _, _, rfl, ⟨a3, rfl, h3⟩, rfl⟩ := hx
    simp only [rowsBulk, rowBulk, tbulk] at hb
    simp only [laws_eqSealS_L0_0, T.int_i, T.rows_l, ix_row, ix_nx pre (by omega), List.getD_cons_zero, List.getD_cons_succ]
    rw [dec_t (by simp; omega), dec_t (by simp; omega), dec_t (by simp; omega)]
    rw [eqSeal_ok (by omega) a0 a1 a2 a3 h3 (by omega)]
    simpa using ih
theorem eqSealS_ok {m : Nat} (hm : 1048607 ≤ m) (rows : List (List T)) (h : ∀ r ∈ rows, WtRow esSeal r) (hb : rowsBulk rows ≤ 1048576) (k : T → An) : laws_eqSealS m (.l rows) (.l rows) k = k (.b true) := by
  obtain ⟨m, rfl⟩ : ∃ m', m = m' + 1 := ⟨m - 1, by omega⟩
  have hlen := wtRows_len (by simp) h
  simp only [laws_eqSealS, T.rows_l, T.int_i, bne_self_eq_false, cond_false]
  exact eqSealS_loop m (by omega) rows [] h hb (by simp; omega) m (by omega) _ _
end Go.Proofs.Ytdnejilapfmnlaa

namespace Go.Proofs.Ytdnejilapfmnlaa
open Go Go.E Go.Proofs
/-! numbers and texts as bytes -/
def nb (n : Nat) : Nat := ((n &&& 127) ||| 128) % 256
def numGo : Nat → Nat → List Nat → List Nat × Nat
  | 0, n, acc => (acc, n)
  | f + 1, n, acc => if 127 < n then numGo f (n / 128) (acc ++ [nb n]) else (acc, n)
def clampN (z : Int) : Nat := (max 0 (min z 1000000000)).toNat
def putN' (z : Int) (out : List Nat) : List Nat := (numGo 5 (clampN z) out).1 ++ [(numGo 5 (clampN z) out).2 % 256]
theorem numGo_len : ∀ (f n : Nat) (acc : List Nat), acc.length ≤ (numGo f n acc).1.length ∧ (numGo f n acc).1.length ≤ acc.length + f
  | 0, n, acc => ⟨Nat.le_refl _, Nat.le_refl _⟩
  | f + 1, n, acc => by
    unfold numGo
    split
    · have := numGo_len f (n / 128) (acc ++ [nb n])
      simp at this
      omega
    · simp
theorem nb_lt (n : Nat) : nb n < 256 := Nat.mod_lt _ (by omega)
theorem nb_spec {n : Nat} (h : n < 4294967296) : IntKind.u8.wrap (bvBack .i64 (BitVec.ofInt IntKind.i64.bits (bvBack .i64 (BitVec.ofInt IntKind.i64.bits (n : Int) &&& BitVec.ofInt IntKind.i64.bits 127)).int ||| BitVec.ofInt IntKind.i64.bits 128)).int = ((nb n : Nat) : Int) := by
  have e1 := and32 (a := n) (b := 127) h (by omega)
  rw [show ((127 : Nat) : Int) = 127 from rfl] at e1
  rw [e1]
  have h2 : n &&& 127 < 4294967296 := and_lt h
  have e2 := or64 (a := n &&& 127) (b := 128) (by omega) (by omega)
  rw [show ((128 : Nat) : Int) = 128 from rfl] at e2
  rw [T.int_i, e2, T.int_i, wrap_u8]
  rfl
theorem nb_impl {n : Nat} (h : n < 4294967296) : IntKind.u8.wrap (bvBack .i64 (BitVec.ofInt IntKind.i64.bits 128 ||| BitVec.ofInt IntKind.i64.bits (bvBack .i64 (BitVec.ofInt IntKind.i64.bits (n : Int) &&& BitVec.ofInt IntKind.i64.bits 127)).int)).int = ((nb n : Nat) : Int) := by
  have e1 := and32 (a := n) (b := 127) h (by omega)
  rw [show ((127 : Nat) : Int) = 127 from rfl] at e1
  rw [e1]
  have h2 : n &&& 127 < 4294967296 := and_lt h
  have e2 := or64 (a := 128) (b := n &&& 127) (by omega) (by omega)
  rw [show ((128 : Nat) : Int) = 128 from rfl] at e2
  rw [T.int_i, e2, T.int_i, wrap_u8, Nat.or_comm]
  rfl
theorem numL (m : Nat) : ∀ (f n : Nat) (acc : List Nat), n < 128 ^ (f + 1) → n < 4294967296 → acc.length + f ≤ 1073741824 → ∀ N, f < N → ∀ k0,
    spec_PutNum_L0_0 m N (.i (n : Int)) (.l (nr acc)) k0 = k0 (.i ((numGo f n acc).2 : Nat)) (.l (nr (numGo f n acc).1))
  | 0, n, acc, h, h2, hl, N, hN, k0 => by
    obtain ⟨N, rfl⟩ : ∃ m', N = m' + 1 := ⟨N - 1, by omega⟩
    simp only [spec_PutNum_L0_0, T.rows_l, T.int_i, numGo]
    rw [dec_f (by simp at h; omega)]
  | f + 1, n, acc, h, h2, hl, N, hN, k0 => by
    obtain ⟨N, rfl⟩ : ∃ m', N = m' + 1 := ⟨N - 1, by omega⟩
    have s1 : (min (Int.toNat 7) IntKind.i64.bits) = 7 := rfl
    simp only [spec_PutNum_L0_0, T.rows_l, T.int_i, numGo, nr_len, s1, fdiv_nat, nb_spec h2]
    by_cases hn : 127 < n
    · rw [dec_t (by omega), dec_t (by unfold maxRow; omega), if_pos hn, nr_snoc]
      exact numL m f (n / 128) (acc ++ [nb n]) (by rw [Nat.pow_succ] at h; exact Nat.div_lt_of_lt_mul (by rw [Nat.mul_comm]; exact h)) (by omega) (by simp; omega) N (by omega) k0
    · rw [dec_f (by omega), if_neg hn]
theorem inumL1 (m : Nat) : ∀ (f n : Nat) (acc : List Nat), n < 128 ^ (f + 1) → n < 4294967296 → acc.length + f ≤ 1073741824 → ∀ N, f < N → ∀ k0 k1,
    impl_putNum_L0_1 m N (.i (n : Int)) (.l (nr acc)) k0 k1 = k0 (.i ((numGo f n acc).2 : Nat)) (.l (nr (numGo f n acc).1))
  | 0, n, acc, h, h2, hl, N, hN, k0, k1 => by
    obtain ⟨N, rfl⟩ : ∃ m', N = m' + 1 := ⟨N - 1, by omega⟩
    simp only [impl_putNum_L0_1, T.rows_l, T.int_i, numGo]
    rw [dec_f (by simp at h; omega)]
  | f + 1, n, acc, h, h2, hl, N, hN, k0, k1 => by
    obtain ⟨N, rfl⟩ : ∃ m', N = m' + 1 := ⟨N - 1, by omega⟩
    have s1 : (min (Int.toNat 7) IntKind.i64.bits) = 7 := rfl
    simp only [impl_putNum_L0_1, T.rows_l, T.int_i, numGo, nr_len, s1, fdiv_nat, nb_impl h2]
    by_cases hn : 127 < n
    · rw [dec_t (by omega), dec_t (by unfold maxRow; omega), if_pos hn, nr_snoc]
      exact inumL1 m f (n / 128) (acc ++ [nb n]) (by rw [Nat.pow_succ] at h; exact Nat.div_lt_of_lt_mul (by rw [Nat.mul_comm]; exact h)) (by omega) (by simp; omega) N (by omega) k0 k1
    · rw [dec_f (by omega), if_neg hn]
theorem inumL0 (m f n : Nat) (acc : List Nat) (h : n < 128 ^ (f + 2)) (h2 : n < 4294967296) (hl : acc.length + f + 1 ≤ 1073741824) (N : Nat) (hN : f + 1 < N) (K : T → T → An) :
    impl_putNum_L0_0 m N (.i (n : Int)) (.l (nr acc)) K K = K (.i ((numGo (f + 1) n acc).2 : Nat)) (.l (nr (numGo (f + 1) n acc).1)) := by
  obtain ⟨N, rfl⟩ : ∃ m', N = m' + 1 := ⟨N - 1, by omega⟩
  have s1 : (min (Int.toNat 7) IntKind.i64.bits) = 7 := rfl
  simp only [impl_putNum_L0_0, T.rows_l, T.int_i, numGo, nr_len, s1, fdiv_nat, nb_impl h2]
  by_cases hn : 127 < n
  · rw [dec_t (by omega), dec_t (by unfold maxRow; omega), if_pos hn, nr_snoc]
    exact inumL1 m f (n / 128) (acc ++ [nb n]) (by rw [Nat.pow_succ] at h; exact Nat.div_lt_of_lt_mul (by rw [Nat.mul_comm]; exact h)) (by omega) (by simp; omega) N (by omega) K K
  · rw [dec_f (by omega), if_neg hn]
theorem clampN_lt (z : Int) : clampN z ≤ 1000000000 := by unfold clampN; omega
theorem spec_PutNum_ok {m : Nat} (z : Int) (out : List Nat) (hl : out.length + 10 ≤ 1073741824) (hm : 10 ≤ m) (k : T → An) : spec_PutNum m (.l (nr out)) (.i z) k = k (.l (nr (putN' z out))) := by
  obtain ⟨m, rfl⟩ : ∃ m', m = m' + 1 := ⟨m - 1, by omega⟩
  have hc := clampN_lt z
  have hlen := numGo_len 5 (clampN z) out
  simp only [spec_PutNum, T.rows_l, T.int_i, nr_len]
  rw [dec_t (by unfold maxRow; omega)]
  have fin : ∀ c : Int, c = ((clampN z : Nat) : Int) → spec_PutNum_L0_0 m m (T.i c) (T.l (nr out)) (fun y0 y1 => bif decide ((y1.rows.length + 1) * 1 ≤ maxRow) then k (T.l (y1.rows ++ [[T.i (IntKind.u8.wrap y0.int)]])) else R3.bad) = k (.l (nr (putN' z out))) := by
    intro c hcz
    rw [hcz, numL m 5 (clampN z) out (by omega) (by omega) (by omega) m (by omega)]
    simp only [T.rows_l, T.int_i, nr_len, wrap_u8]
    rw [dec_t (by unfold maxRow; omega), nr_snoc]
    rfl
  by_cases h1 : z > 1000000000
  · rw [dec_t h1]; exact fin _ (by unfold clampN; omega)
  · rw [dec_f h1]
    by_cases h2 : z < 0
    · rw [dec_t h2]; exact fin _ (by unfold clampN; omega)
    · rw [dec_f h2]; exact fin _ (by unfold clampN; omega)
theorem impl_putNum_ok {m : Nat} (z : Int) (out : List Nat) (hl : out.length + 10 ≤ 1073741824) (hm : 10 ≤ m) (k : T → An) : impl_putNum m (.l (nr out)) (.i z) k = k (.l (nr (putN' z out))) := by
  obtain ⟨m, rfl⟩ : ∃ m', m = m' + 1 := ⟨m - 1, by omega⟩
  have hc := clampN_lt z
  have hlen := numGo_len 5 (clampN z) out
  have hz : maxI 0 (minI z 1000000000) = ((clampN z : Nat) : Int) := by unfold clampN maxI minI; split <;> split <;> omega
  simp only [impl_putNum, T.rows_l, T.int_i, hz]
  rw [inumL0 m 4 (clampN z) out (by omega) (by omega) (by omega) m (by omega), show 4 + 1 = 5 from rfl]
  simp only [T.rows_l, T.int_i, nr_len, wrap_u8]
  rw [dec_t (by unfold maxRow; omega), nr_snoc]
  rfl
end Go.Proofs.Ytdnejilapfmnlaa

namespace Go.Proofs.Ytdnejilapfmnlaa
open Go Go.E Go.Proofs
def bN (s : ByteArray) : List Nat := s.data.toList.map fun b => b.toNat
theorem bytesRows_nr (s : ByteArray) : bytesRows s = nr (bN s) := by
  unfold bytesRows nr bN
  rw [List.map_map]
  rfl
theorem bN_len (s : ByteArray) : (bN s).length = s.size := by unfold bN; rw [List.length_map]; exact (ba_size s).symm
def putT (s : ByteArray) (out : List Nat) : List Nat := putN' (s.size : Int) out ++ bN s
theorem putN_len (z : Int) (out : List Nat) : out.length ≤ (putN' z out).length ∧ (putN' z out).length ≤ out.length + 6 := by
  have := numGo_len 5 (clampN z) out
  unfold putN'
  simp
  omega
theorem putT_len (s : ByteArray) (out : List Nat) : out.length ≤ (putT s out).length ∧ (putT s out).length ≤ out.length + 6 + s.size := by
  have := putN_len (s.size : Int) out
  unfold putT
  rw [List.length_append, bN_len]
  omega
theorem spec_PutText_ok {m : Nat} (s : ByteArray) (out : List Nat) (hl : out.length + s.size + 20 ≤ 1073741824) (hm : 20 ≤ m) (k : T → An) : spec_PutText m (.l (nr out)) (.s s) k = k (.l (nr (putT s out))) := by
  obtain ⟨m, rfl⟩ : ∃ m', m = m' + 1 := ⟨m - 1, by omega⟩
  have := putN_len (s.size : Int) out
  simp only [spec_PutText, T.rows_l, T.str_s]
  rw [spec_PutNum_ok _ out (by omega) (by omega)]
  simp only [T.rows_l, bytesRows_nr, nr_len, bN_len]
  rw [dec_t (by unfold maxRow; omega), ← nr_app]
  rfl
theorem impl_putText_ok {m : Nat} (s : ByteArray) (out : List Nat) (hl : out.length + s.size + 20 ≤ 1073741824) (hm : 20 ≤ m) (k : T → An) : impl_putText m (.l (nr out)) (.s s) k = k (.l (nr (putT s out))) := by
  obtain ⟨m, rfl⟩ : ∃ m', m = m' + 1 := ⟨m - 1, by omega⟩
  have := putN_len (s.size : Int) out
  simp only [impl_putText, T.rows_l, T.str_s]
  rw [impl_putNum_ok _ out (by omega) (by omega)]
  simp only [T.rows_l, bytesRows_nr, nr_len, bN_len]
  rw [dec_t (by unfold maxRow; omega), ← nr_app]
  rfl
/-- rows of texts -/
def sr (l : List ByteArray) : List (List T) := l.map fun s => [T.s s]
theorem sr_len (l : List ByteArray) : (sr l).length = l.length := by simp [sr]
theorem sr_get (pre : List ByteArray) (s : ByteArray) (post : List ByteArray) : (((sr (pre ++ s :: post)).getD pre.length []).getD 0 dflt) = .s s := by simp [sr, List.getD]
def sumS (l : List ByteArray) : Nat := (l.map fun s => s.size + 6).sum
def putTs (l : List ByteArray) (out : List Nat) : List Nat := l.foldl (fun o s => putT s o) out
theorem specTexts_loop (m : Nat) (hm : 20 ≤ m) : ∀ (post pre : List ByteArray) (out : List Nat), out.length + sumS post + 20 ≤ 1073741824 → pre.length + post.length ≤ 1073741824 → ∀ n, post.length < n → ∀ k0,
    spec_PutTexts_L0_0 m n (.l (sr (pre ++ post))) (.i (pre.length : Int)) (.l (nr out)) k0 = k0 (.l (nr (putTs post out)))
  | [], pre, out, h, h2, n, hn, k0 => by
    obtain ⟨n, rfl⟩ : ∃ m', n = m' + 1 := ⟨n - 1, by omega⟩
    simp only [spec_PutTexts_L0_0, T.rows_l, T.int_i, sr_len]
    rw [dec_f (by simp)]
    rfl
  | s :: post, pre, out, h, h2, n, hn, k0 => by
    simp only [List.length_cons] at h2 hn
    obtain ⟨n, rfl⟩ : ∃ m', n = m' + 1 := ⟨n - 1, by omega⟩
    simp only [sumS, List.map_cons, List.sum_cons] at h
    have hl := putT_len s out
    have ih := specTexts_loop m hm post (pre ++ [s]) (putT s out) (by unfold sumS; omega) (by simp; omega) n (by omega) k0
    have f4 : IntKind.i64.wrap ((pre.length : Int) + 1) = (pre.length : Int) + 1 := wrap_i64 (by omega) (by omega)
    simp only [spec_PutTexts_L0_0, T.rows_l, T.int_i, sr_len, f4, Int.toNat_natCast, sr_get]
    rw [dec_t (by simp; omega), dec_t (by simp; omega), spec_PutText_ok s out (by omega) hm]
    simp only [T.rows_l]
    simpa [putTs] using ih
theorem implTexts_loop (m : Nat) (hm : 20 ≤ m) : ∀ (post pre : List ByteArray) (out : List Nat), out.length + sumS post + 20 ≤ 1073741824 → pre.length + post.length ≤ 1073741824 → ∀ n, post.length < n → ∀ k0,
    impl_putTexts_L0_0 m n (.l (sr (pre ++ post))) (.i ((pre ++ post).length : Int)) (.i (pre.length : Int)) (.l (nr out)) k0 = k0 (.l (nr (putTs post out)))
  | [], pre, out, h, h2, n, hn, k0 => by
    obtain ⟨n, rfl⟩ : ∃ m', n = m' + 1 := ⟨n - 1, by omega⟩
    simp only [impl_putTexts_L0_0, T.rows_l, T.int_i, sr_len]
    rw [dec_f (by simp)]
    rfl
  | s :: post, pre, out, h, h2, n, hn, k0 => by
    simp only [List.length_cons] at h2 hn
    obtain ⟨n, rfl⟩ : ∃ m', n = m' + 1 := ⟨n - 1, by omega⟩
    simp only [sumS, List.map_cons, List.sum_cons] at h
    have hl := putT_len s out
    have ih := implTexts_loop m hm post (pre ++ [s]) (putT s out) (by unfold sumS; omega) (by simp; omega) n (by omega) k0
    have f4 : IntKind.i64.wrap ((pre.length : Int) + 1) = (pre.length : Int) + 1 := wrap_i64 (by omega) (by omega)
    simp only [impl_putTexts_L0_0, T.rows_l, T.int_i, sr_len, f4, Int.toNat_natCast, sr_get]
    rw [dec_t (by simp; omega), dec_t (by simp; omega), impl_putText_ok s out (by omega) hm]
    simp only [T.rows_l]
    simpa [putTs] using ih
def superB (no : Int) (prev : ByteArray) (roots : List ByteArray) : List Nat := putTs roots (putN' (roots.length : Int) (putT prev (putN' no [3])))
theorem putTs_len : ∀ (l : List ByteArray) (out : List Nat), (putTs l out).length ≤ out.length + sumS l
  | [], out => by simp [putTs, sumS]
  | s :: l, out => by
    have h1 := putTs_len l (putT s out)
    have h2 := putT_len s out
    simp only [putTs, List.foldl_cons, sumS, List.map_cons, List.sum_cons] at h1 ⊢
    omega
theorem all_app {a b : List Nat} (ha : ∀ x ∈ a, x < 256) (hb : ∀ x ∈ b, x < 256) : ∀ x ∈ a ++ b, x < 256 := fun x hx => (List.mem_append.1 hx).elim (ha x) (hb x)
theorem numGo_bytes : ∀ (f n : Nat) (acc : List Nat), (∀ x ∈ acc, x < 256) → ∀ x ∈ (numGo f n acc).1, x < 256
  | 0, n, acc, h => h
  | f + 1, n, acc, h => by
    unfold numGo
    split
    · exact numGo_bytes f _ _ (all_app h (by simp [nb_lt]))
    · exact h
theorem putN_bytes (z : Int) {out : List Nat} (h : ∀ x ∈ out, x < 256) : ∀ x ∈ putN' z out, x < 256 := by
  unfold putN'
  exact all_app (numGo_bytes _ _ _ h) (by simp; omega)
theorem bN_bytes (s : ByteArray) : ∀ x ∈ bN s, x < 256 := by
  intro x hx
  unfold bN at hx
  obtain ⟨b, -, rfl⟩ := List.mem_map.1 hx
  exact b.toNat_lt
theorem putT_bytes (s : ByteArray) {out : List Nat} (h : ∀ x ∈ out, x < 256) : ∀ x ∈ putT s out, x < 256 := all_app (putN_bytes _ h) (bN_bytes s)
theorem putTs_bytes : ∀ (l : List ByteArray) {out : List Nat}, (∀ x ∈ out, x < 256) → ∀ x ∈ putTs l out, x < 256
  | [], out, h => h
  | s :: l, out, h => by
    show ∀ x ∈ putTs l (putT s out), x < 256
    exact putTs_bytes l (putT_bytes s h)
theorem bytes_all {m : List Nat} (hm : ∀ x ∈ m, x < 256) : Bytes m := fun i => by
  by_cases hi : i < m.length
  · have : m.getD i 0 = m[i] := by simp [List.getD, hi]
    rw [this]
    exact hm _ (List.getElem_mem hi)
  · rw [List.getD, List.getElem?_eq_none (by omega)]; simp
theorem superB_bytes (no : Int) (prev : ByteArray) (roots : List ByteArray) : Bytes (superB no prev roots) :=
  bytes_all (putTs_bytes _ (putN_bytes _ (putT_bytes _ (putN_bytes _ (by simp)))))
theorem superB_len (no : Int) (prev : ByteArray) (roots : List ByteArray) : (superB no prev roots).length ≤ 30 + prev.size + sumS roots := by
  have h1 := putTs_len roots (putN' (roots.length : Int) (putT prev (putN' no [3])))
  have h2 := putN_len (roots.length : Int) (putT prev (putN' no [3]))
  have h3 := putT_len prev (putN' no [3])
  have h4 := putN_len no [3]
  unfold superB
  simp at h4
  omega
def superS (no : Int) (prev : ByteArray) (roots : List ByteArray) : ByteArray := digestB (nr (superB no prev roots))
theorem spec_SuperOf_ok {m : Nat} (no : Int) (prev : ByteArray) (roots : List ByteArray) (h : prev.size + sumS roots + 100 ≤ 1073741824) (h2 : roots.length + 100 ≤ m) (hm : 20000100 ≤ m) (k : T → An) :
    spec_SuperOf m (.i no) (.s prev) (.l (sr roots)) k = k (.s (superS no prev roots)) := by
  obtain ⟨m, rfl⟩ : ∃ m', m = m' + 2 := ⟨m - 2, by omega⟩
  have l1 := putN_len no [3]
  have l2 := putT_len prev (putN' no [3])
  have l3 := putN_len (roots.length : Int) (putT prev (putN' no [3]))
  have l4 := superB_len no prev roots
  have hr : roots.length ≤ sumS roots := by
    have : ∀ l : List ByteArray, l.length ≤ sumS l := fun l => by
      induction l with
      | nil => simp
      | cons x l ih => simp only [sumS, List.map_cons, List.sum_cons, List.length_cons] at ih ⊢; omega
    exact this roots
  simp at l1
  simp only [spec_SuperOf, spec_l15Super, T.rows_l]
  rw [show ([[T.i 3]] : List (List T)) = nr [3] from rfl, spec_PutNum_ok no [3] (by simp) (by omega)]
  simp only [T.rows_l]
  rw [spec_PutText_ok prev _ (by omega) (by omega)]
  obtain ⟨m, rfl⟩ : ∃ m', m = m' + 1 := ⟨m - 1, by omega⟩
  simp only [T.rows_l, spec_PutTexts, sr_len]
  rw [spec_PutNum_ok _ _ (by omega) (by omega)]
  simp only [T.rows_l]
  have := specTexts_loop m (by omega) roots [] (putN' (roots.length : Int) (putT prev (putN' no [3]))) (by omega) (by simp; omega) m (by omega)
  simp only [List.nil_append, List.length_nil] at this
  rw [show (T.i 0 : T) = .i ((0 : Nat) : Int) from rfl, this]
  simp only [T.rows_l]
  rw [spec_Digest_ok (putTs roots (putN' (roots.length : Int) (putT prev (putN' no [3])))) (by unfold superB at l4; omega) (superB_bytes no prev roots) (by omega)]
  rfl
theorem impl_SuperOf_ok {m : Nat} (no : Int) (prev : ByteArray) (roots : List ByteArray) (h : prev.size + sumS roots + 100 ≤ 1073741824) (h2 : roots.length + 100 ≤ m) (k : T → An) :
    impl_SuperOf m (.i no) (.s prev) (.l (sr roots)) k = k (.s (superS no prev roots)) := by
  obtain ⟨m, rfl⟩ : ∃ m', m = m' + 2 := ⟨m - 2, by omega⟩
  have l1 := putN_len no [3]
  have l2 := putT_len prev (putN' no [3])
  have l3 := putN_len (roots.length : Int) (putT prev (putN' no [3]))
  have l4 := superB_len no prev roots
  have hr : roots.length ≤ sumS roots := by
    have : ∀ l : List ByteArray, l.length ≤ sumS l := fun l => by
      induction l with
      | nil => simp
      | cons x l ih => simp only [sumS, List.map_cons, List.sum_cons, List.length_cons] at ih ⊢; omega
    exact this roots
  simp at l1
  simp only [impl_SuperOf, T.rows_l]
  rw [show ([[T.i 3]] : List (List T)) = nr [3] from rfl, impl_putNum_ok no [3] (by simp) (by omega)]
  simp only [T.rows_l]
  rw [impl_putText_ok prev _ (by omega) (by omega)]
  simp only [T.rows_l, impl_putTexts, sr_len]
  rw [impl_putNum_ok _ _ (by omega) (by omega)]
  simp only [T.rows_l]
  have := implTexts_loop m (by omega) roots [] (putN' (roots.length : Int) (putT prev (putN' no [3]))) (by omega) (by simp; omega) m (by omega)
  simp only [List.nil_append, List.length_nil] at this
  rw [show (T.i 0 : T) = .i ((0 : Nat) : Int) from rfl, this]
  simp only [T.rows_l, impl_Digest]
  rw [dec_t (by rw [nr_len]; unfold superB at l4; omega)]
  rfl
end Go.Proofs.Ytdnejilapfmnlaa

namespace Go.Proofs.Ytdnejilapfmnlaa
open Go Go.E Go.Proofs
theorem rows_sr : ∀ {rows : List (List T)}, (∀ r ∈ rows, WtRow esString r) → ∃ l, rows = sr l ∧ l.length ≤ rowsBulk rows ∧ sumS l ≤ 6 * rowsBulk rows ∧ rows.length + rowsSz rows ≤ rowsBulk rows
  | [], _ => ⟨[], rfl, by simp, by simp [sumS], by simp [rowsSz]⟩
  | r :: rows, h => by
    obtain ⟨l, rfl, h1, h2, h3⟩ := rows_sr (rows := rows) fun r hr => h r (by simp [hr])
    have hr := h r (by simp)
    simp only [esString, WtRow, WtT] at hr
    obtain ⟨_, _, rfl, ⟨s, rfl, -⟩, rfl⟩ := hr
    refine ⟨s :: l, rfl, ?_, ?_, ?_⟩
    · simp only [rowsBulk, rowBulk, tbulk, List.length_cons]; omega
    · simp only [sumS, List.map_cons, List.sum_cons, rowsBulk, rowBulk, tbulk] at h2 ⊢; omega
    · simp only [rowsSz, rowSz, tsz, rowsBulk, rowBulk, tbulk, List.length_cons] at h3 ⊢; omega
theorem fnSuperOf_ok (no : Int) (prev : ByteArray) (rows : List (List T)) (h : ∀ r ∈ rows, WtRow esString r) (hp : prev.size ≤ 1048576) (hb : rowsBulk rows ≤ 1048576) (k : T → An) :
    laws_FnExactSuperOf 30000000 (.i no) (.s prev) (.l rows) k = k (.b true) := by
  have hs := h
  obtain ⟨l, e, h1, h2, h3⟩ := rows_sr h
  simp only [laws_FnExactSuperOf, T.rows_l, T.str_s]
  rw [dec_f (by omega), szStringS_ok (by omega) rows hs hb 1048576 (by omega) (by omega)]
  simp only [T.int_i]
  rw [dec_f (by omega), toStringS_ok (by omega) rows hs hb]
  simp only [T.rows_l]
  subst e
  rw [spec_SuperOf_ok no prev l (by omega) (by omega) (by omega), toStringS_ok (by omega) _ hs hb]
  simp only [T.rows_l]
  rw [impl_SuperOf_ok no prev l (by omega) (by omega)]
  simp only [T.str_s, beq_toList_self, Bool.not_true, cond_false]
  rw [toStringS_ok (by omega) _ hs hb]
  simp only [T.rows_l]
  rw [eqStringS_ok (by omega) _ hs hb]
  simp only [T.bool_b, Bool.not_true, cond_false]
/-! a seal -/
def sealB (no : Int) (prev sup : ByteArray) (roots : List ByteArray) : Bool :=
  (decide (1 ≤ no ∧ no ≤ 1000) && (prev.size == 32) && decide (1 ≤ roots.length ∧ roots.length ≤ 8) && roots.all fun s => s.size == 32) && (sup.toList == (superS no prev roots).toList)
theorem specSeal_loop (m : Nat) (x2 x3 x4 : T) : ∀ (post pre : List ByteArray), pre.length + post.length ≤ 1073741824 → ∀ n, post.length < n → ∀ k0 k1,
    spec_SealOk_L0_0 m n (.i 0) (.i (pre.length : Int)) x2 x3 x4 (.l (sr (pre ++ post))) k0 k1 = cond (post.all fun s => s.size == 32) (k1 (.i 0) x2 x3 x4 (.l (sr (pre ++ post)))) (k0 (.b false))
  | [], pre, h2, n, hn, k0, k1 => by
    obtain ⟨n, rfl⟩ : ∃ m', n = m' + 1 := ⟨n - 1, by omega⟩
    simp only [spec_SealOk_L0_0, T.rows_l, T.int_i, sr_len]
    rw [dec_f (by simp)]
    rfl
  | s :: post, pre, h2, n, hn, k0, k1 => by
    simp only [List.length_cons] at h2 hn
    obtain ⟨n, rfl⟩ : ∃ m', n = m' + 1 := ⟨n - 1, by omega⟩
    have ih := specSeal_loop m x2 x3 x4 post (pre ++ [s]) (by simp; omega) n (by omega) k0 k1
    have f4 : IntKind.i64.wrap ((pre.length : Int) + 1) = (pre.length : Int) + 1 := wrap_i64 (by omega) (by omega)
    simp only [spec_SealOk_L0_0, T.rows_l, T.int_i, sr_len, f4, Int.toNat_natCast, sr_get, T.str_s, List.all_cons]
    rw [dec_t (by simp; omega), dec_t (by simp; omega)]
    by_cases hs : s.size = 32
    · rw [cond_f (by simp [hs])]
      simp only [hs, beq_self_eq_true, Bool.true_and]
      simpa using ih
    · rw [cond_t (by simp; omega), cond_f (by simp [hs])]
theorem implSeal_loop (m : Nat) (x2 x3 x4 x5 : T) : ∀ (post pre : List ByteArray), pre.length + post.length ≤ 1073741824 → ∀ n, post.length < n → ∀ k0 k1,
    impl_SealOk_L0_0 m n (.i 0) (.l (sr (pre ++ post))) (.i ((pre ++ post).length : Int)) (.i (pre.length : Int)) x2 x3 x4 x5 k0 k1 = cond (post.all fun s => s.size == 32) (k1 (.i 0) x2 x3 x4 x5) (k0 (.b false))
  | [], pre, h2, n, hn, k0, k1 => by
    obtain ⟨n, rfl⟩ : ∃ m', n = m' + 1 := ⟨n - 1, by omega⟩
    simp only [impl_SealOk_L0_0, T.rows_l, T.int_i, sr_len]
    rw [dec_f (by simp)]
    rfl
  | s :: post, pre, h2, n, hn, k0, k1 => by
    simp only [List.length_cons] at h2 hn
    obtain ⟨n, rfl⟩ : ∃ m', n = m' + 1 := ⟨n - 1, by omega⟩
    have ih := implSeal_loop m x2 x3 x4 x5 post (pre ++ [s]) (by simp; omega) n (by omega) k0 k1
    have f4 : IntKind.i64.wrap ((pre.length : Int) + 1) = (pre.length : Int) + 1 := wrap_i64 (by omega) (by omega)
    simp only [impl_SealOk_L0_0, T.rows_l, T.int_i, sr_len, f4, Int.toNat_natCast, sr_get, T.str_s, List.all_cons]
    rw [dec_t (by simp; omega), dec_t (by simp; omega)]
    by_cases hs : s.size = 32
    · rw [cond_f (by simp [hs])]
      simp only [hs, beq_self_eq_true, Bool.true_and]
      simpa using ih
    · rw [cond_t (by simp; omega), cond_f (by simp [hs])]
theorem l1In_ok {m : Nat} (hm : 1 ≤ m) (x a b : Int) (k : T → An) : spec_l1In m (.i x) (.i a) (.i b) k = k (.b (decide (a ≤ x ∧ x ≤ b))) := by
  obtain ⟨m, rfl⟩ : ∃ m', m = m' + 1 := ⟨m - 1, by omega⟩
  simp only [spec_l1In, T.int_i]
  by_cases h : a ≤ x
  · rw [cond_t (by simp [h])]; simp [h]
  · rw [cond_f (by simp; omega)]; simp [h]
theorem inRange_ok {m : Nat} (hm : 1 ≤ m) (x a b : Int) (k : T → An) : impl_inRange m (.i x) (.i a) (.i b) k = k (.b (decide (a ≤ x ∧ x ≤ b))) := by
  obtain ⟨m, rfl⟩ : ∃ m', m = m' + 1 := ⟨m - 1, by omega⟩
  simp only [impl_inRange, T.int_i]
  by_cases h : a ≤ x
  · rw [cond_t (by simp [h])]; simp [h]
  · rw [cond_f (by simp; omega)]; simp [h]
theorem spec_SealOk_ok {m : Nat} (no : Int) (prev sup : ByteArray) (roots : List ByteArray) (h : prev.size + sumS roots + 100 ≤ 1073741824) (h2 : roots.length + 200 ≤ m) (hm : 20000200 ≤ m) (k : T → An) :
    spec_SealOk m (.i no) (.s prev) (.s sup) (.l (sr roots)) k = k (.b (sealB no prev sup roots)) := by
  obtain ⟨m, rfl⟩ : ∃ m', m = m' + 1 := ⟨m - 1, by omega⟩
  have hr : roots.length ≤ sumS roots := by
    have : ∀ l : List ByteArray, l.length ≤ sumS l := fun l => by
      induction l with
      | nil => simp
      | cons x l ih => simp only [sumS, List.map_cons, List.sum_cons, List.length_cons] at ih ⊢; omega
    exact this roots
  simp only [spec_SealOk, T.rows_l, T.str_s, sr_len]
  rw [l1In_ok (by omega)]
  unfold sealB
  by_cases c1 : 1 ≤ no ∧ no ≤ 1000
  · simp only [T.bool_b, decide_eq_true c1, Bool.not_true, beq_self_eq_true, cond_true, Bool.true_and]
    by_cases c2 : prev.size = 32
    · rw [cond_t (by simp [c2]), l1In_ok (by omega)]
      simp only [c2, beq_self_eq_true, Bool.true_and]
      by_cases c3 : 1 ≤ roots.length ∧ roots.length ≤ 8
      · have e3 : decide ((1 : Int) ≤ (roots.length : Int) ∧ (roots.length : Int) ≤ 8) = true := decide_eq_true (by omega)
        simp only [e3, T.bool_b, Bool.not_true, cond_false, decide_eq_true c3, Bool.true_and]
        have := specSeal_loop m (.i no) (.s prev) (.s sup) roots [] (by simp; omega) m (by omega)
        simp only [List.nil_append, List.length_nil] at this
        rw [show (T.i ((0 : Nat) : Int) : T) = .i 0 from rfl] at this
        rw [this]
        cases roots.all fun s => s.size == 32 with
        | true =>
          simp only [cond_true, T.rows_l, Bool.true_and]
          rw [spec_SuperOf_ok no prev roots (by omega) (by omega) (by omega)]
          rfl
        | false => rfl
      · have e3 : decide ((1 : Int) ≤ (roots.length : Int) ∧ (roots.length : Int) ≤ 8) = false := decide_eq_false (by omega)
        simp only [e3, T.bool_b, Bool.not_false, cond_true, decide_eq_false c3, Bool.false_and]
    · rw [cond_f (by simp; omega)]
      simp only [beq_false_of_ne c2, Bool.false_and]
  · simp only [T.bool_b, decide_eq_false c1, Bool.not_false, Bool.false_and]
    rfl
theorem impl_SealOk_ok {m : Nat} (no : Int) (prev sup : ByteArray) (roots : List ByteArray) (h : prev.size + sumS roots + 100 ≤ 1073741824) (h2 : roots.length + 200 ≤ m) (k : T → An) :
    impl_SealOk m (.i no) (.s prev) (.s sup) (.l (sr roots)) k = k (.b (sealB no prev sup roots)) := by
  obtain ⟨m, rfl⟩ : ∃ m', m = m' + 1 := ⟨m - 1, by omega⟩
  have hr : roots.length ≤ sumS roots := by
    have : ∀ l : List ByteArray, l.length ≤ sumS l := fun l => by
      induction l with
      | nil => simp
      | cons x l ih => simp only [sumS, List.map_cons, List.sum_cons, List.length_cons] at ih ⊢; omega
    exact this roots
  simp only [impl_SealOk, T.rows_l, T.str_s, sr_len]
  have := implSeal_loop m (.i no) (.s prev) (.s sup) (.l (sr roots)) roots [] (by simp; omega) m (by omega)
  simp only [List.nil_append, List.length_nil] at this
  rw [show (T.i ((0 : Nat) : Int) : T) = .i 0 from rfl] at this
  rw [this]
  unfold sealB
  cases roots.all fun s => s.size == 32 with
  | false => simp
  | true =>
    simp only [cond_true, Bool.and_true]
    rw [inRange_ok (by omega)]
    by_cases c1 : 1 ≤ no ∧ no ≤ 1000
    · simp only [T.bool_b, decide_eq_true c1, Bool.not_true, beq_self_eq_true, cond_true, Bool.true_and, T.str_s]
      by_cases c2 : prev.size = 32
      · rw [cond_t (by simp [c2])]
        simp only [T.rows_l, sr_len]
        rw [inRange_ok (by omega)]
        simp only [c2, beq_self_eq_true, Bool.true_and]
        by_cases c3 : 1 ≤ roots.length ∧ roots.length ≤ 8
        · have e3 : decide ((1 : Int) ≤ (roots.length : Int) ∧ (roots.length : Int) ≤ 8) = true := decide_eq_true (by omega)
          simp only [e3, T.bool_b, Bool.not_true, cond_false, decide_eq_true c3, Bool.true_and]
          rw [impl_SuperOf_ok no prev roots (by omega) (by omega)]
          rfl
        · have e3 : decide ((1 : Int) ≤ (roots.length : Int) ∧ (roots.length : Int) ≤ 8) = false := decide_eq_false (by omega)
          simp only [e3, T.bool_b, Bool.not_false, cond_true, decide_eq_false c3, Bool.false_and]
      · rw [cond_f (by simp; omega)]
        simp only [beq_false_of_ne c2, Bool.false_and]
    · simp only [T.bool_b, decide_eq_false c1, Bool.not_false, Bool.false_and]
      rfl
theorem fnSealOk_ok (no : Int) (prev sup : ByteArray) (rows : List (List T)) (h : ∀ r ∈ rows, WtRow esString r) (hb : prev.size + 1 + (sup.size + 1) + (rowsBulk rows + 1) ≤ 1048576) (k : T → An) :
    laws_FnExactSealOk 30000000 (.i no) (.s prev) (.s sup) (.l rows) k = k (.b true) := by
  have hs := h
  obtain ⟨l, e, h1, h2, h3⟩ := rows_sr h
  have hb2 : rowsBulk rows ≤ 1048576 := by omega
  simp only [laws_FnExactSealOk, T.rows_l]
  rw [szSeal_ok (by omega) no prev sup rows hs hb2 1048576 (by simp only [rowSz, tsz]; omega) (by omega)]
  simp only [T.int_i]
  rw [dec_f (by simp only [rowSz, tsz]; omega), toSeal_ok (by omega) no prev sup rows hs hb2]
  simp only [T.rows_l]
  have e1 : ∀ k, laws_toSeal 29999999 (.i no) (.s prev) (.s sup) (.l rows) k = k (.i no) (.s prev) (.s sup) (.l rows) := fun k => toSeal_ok (by omega) no prev sup rows hs hb2 k
  have e2 : ∀ k, laws_eqSeal 29999999 (.i no) (.s prev) (.s sup) (.l rows) (.i no) (.s prev) (.s sup) (.l rows) k = k (.b true) := fun k => eqSeal_ok (by omega) no prev sup rows hs hb2 k
  subst e
  rw [spec_SealOk_ok no prev sup l (by omega) (by omega) (by omega), e1]
  simp only [T.rows_l]
  rw [impl_SealOk_ok no prev sup l (by omega) (by omega)]
  simp only [T.bool_b, beq_self_eq_true, Bool.not_true, cond_false]
  rw [e1]
  simp only [T.rows_l]
  rw [e2]
  simp only [T.bool_b, Bool.not_true, cond_false]
end Go.Proofs.Ytdnejilapfmnlaa

namespace Go.Proofs.Ytdnejilapfmnlaa
open Go Go.E Go.Proofs
structure SL where
  no : Int
  prev : ByteArray
  sup : ByteArray
  roots : List ByteArray
def rSe (s : SL) : List T := [.i s.no, .s s.prev, .s s.sup, .l (sr s.roots)]
def ser (l : List SL) : List (List T) := l.map rSe
def SL.ok (s : SL) : Prop := s.prev.size + sumS s.roots + 100 ≤ 1073741824 ∧ s.roots.length + 1000 ≤ 20000000
theorem ser_len (l : List SL) : (ser l).length = l.length := by simp [ser]
theorem ser_get (pre : List SL) (s : SL) (post : List SL) : (ser (pre ++ s :: post)).getD pre.length [] = rSe s := by simp [ser, List.getD]
theorem ser_take (pre post : List SL) : (ser (pre ++ post)).take pre.length = ser pre := by simp [ser]
def prevB (l : List SL) : ByteArray := match l.getLast? with | none => digestB [] | some s => s.sup
def sealS (s : SL) : Bool := sealB s.no s.prev s.sup s.roots
def chainGo : List SL → List SL → Bool
  | _, [] => true
  | pre, s :: post => sealS s && (s.no == (pre.length : Int) + 1) && (s.prev.toList == (prevB pre).toList) && chainGo (pre ++ [s]) post
def chainB (l : List SL) : Bool := chainGo [] l && decide (l.length ≤ 1000)
theorem last_row (pre : List SL) (s : SL) : (ser (pre ++ [s])).getD pre.length [] = rSe s := ser_get pre s []
theorem impl_prevOf_ok {m : Nat} (l : List SL) (hl : l.length ≤ 1073741824) (hm : 2 ≤ m) (k : T → An) : impl_prevOf m (.l (ser l)) k = k (.s (prevB l)) := by
  obtain ⟨m, rfl⟩ : ∃ m', m = m' + 2 := ⟨m - 2, by omega⟩
  rcases List.eq_nil_or_concat l with rfl | ⟨pre, s, rfl⟩
  · simp only [impl_prevOf, T.rows_l, ser_len]
    rw [cond_t (by rfl)]
    simp only [impl_Digest_nil, T.rows_l, List.isEmpty_nil, cond_true]
    rfl
  · rw [List.concat_eq_append] at hl ⊢
    simp only [List.length_append, List.length_cons, List.length_nil] at hl
    have e1 : IntKind.i64.wrap ((((pre ++ [s]).length : Nat) : Int) - 1) = ((pre.length : Nat) : Int) := by
      rw [List.length_append, List.length_singleton, wrap_i64 (by omega) (by omega)]; omega
    simp only [impl_prevOf, T.rows_l, ser_len, e1, Int.toNat_natCast, last_row]
    rw [cond_f (by simp; omega), dec_t (by simp; omega)]
    simp [rSe, prevB]
theorem spec_l15Prev_ok {m : Nat} (l : List SL) (hl : l.length ≤ 1073741824) (hm : 20000010 ≤ m) (k : T → An) : spec_l15Prev m (.l (ser l)) k = k (.s (prevB l)) := by
  obtain ⟨m, rfl⟩ : ∃ m', m = m' + 2 := ⟨m - 2, by omega⟩
  rcases List.eq_nil_or_concat l with rfl | ⟨pre, s, rfl⟩
  · simp only [spec_l15Prev, T.rows_l, ser_len]
    rw [cond_t (by rfl), show (T.l [] : T) = .l (nr []) from rfl, spec_Digest_ok [] (by simp) (fun i => by simp) (by omega)]
    rfl
  · rw [List.concat_eq_append] at hl ⊢
    simp only [List.length_append, List.length_cons, List.length_nil] at hl
    have e1 : IntKind.i64.wrap ((((pre ++ [s]).length : Nat) : Int) - 1) = ((pre.length : Nat) : Int) := by
      rw [List.length_append, List.length_singleton, wrap_i64 (by omega) (by omega)]; omega
    simp only [spec_l15Prev, T.rows_l, ser_len, e1, Int.toNat_natCast, last_row]
    rw [cond_f (by simp; omega), dec_t (by simp; omega)]
    simp [rSe, prevB]
theorem specChain_loop (m : Nat) (hm : 20001200 ≤ m) : ∀ (post pre : List SL), (∀ s ∈ post, s.ok) → pre.length + post.length ≤ 1073741824 → ∀ n, post.length < n → ∀ k0 k1,
    spec_ChainOk_L0_0 m n (.l (ser (pre ++ post))) (.i (pre.length : Int)) k0 k1 = cond (chainGo pre post) (k1 (.l (ser (pre ++ post)))) (k0 (.b false))
  | [], pre, h, h2, n, hn, k0, k1 => by
    obtain ⟨n, rfl⟩ : ∃ m', n = m' + 1 := ⟨n - 1, by omega⟩
    simp only [spec_ChainOk_L0_0, T.rows_l, T.int_i, ser_len]
    rw [dec_f (by simp)]
    rfl
  | s :: post, pre, h, h2, n, hn, k0, k1 => by
    simp only [List.length_cons] at h2 hn
    obtain ⟨n, rfl⟩ : ∃ m', n = m' + 1 := ⟨n - 1, by omega⟩
    obtain ⟨o1, o2⟩ := h s (by simp)
    have ih := specChain_loop m hm post (pre ++ [s]) (fun x hx => h x (by simp [hx])) (by simp; omega) n (by omega) k0 k1
    have f4 : IntKind.i64.wrap ((pre.length : Int) + 1) = (pre.length : Int) + 1 := wrap_i64 (by omega) (by omega)
    simp only [spec_ChainOk_L0_0, T.rows_l, T.int_i, ser_len, f4, Int.toNat_natCast, ser_get, rSe, List.getD_cons_zero, List.getD_cons_succ, List.drop_succ_cons, List.drop_zero]
    rw [dec_t (by simp; omega), dec_t (by simp; omega), spec_SealOk_ok s.no s.prev s.sup s.roots o1 (by omega) (by omega)]
    simp only [T.bool_b, chainGo]
    show cond ((!sealS s) == false) _ _ = _
    cases sealS s with
    | false => rfl
    | true =>
      simp only [Bool.not_true, beq_self_eq_true, cond_true, Bool.true_and]
      rw [dec_t (by simp; omega)]
      by_cases h1 : s.no = (pre.length : Int) + 1
      · rw [cond_t (by simp [h1]), dec_t (by simp; omega), dec_t (by simp; omega), dec_t (by omega)]
        rw [ser_take, spec_l15Prev_ok pre (by omega) (by omega)]
        simp only [T.str_s, h1, beq_self_eq_true, Bool.true_and]
        cases hp : (s.prev.toList == (prevB pre).toList) with
        | false => rfl
        | true =>
          simp only [Bool.not_true, cond_false, Bool.true_and]
          simpa using ih
      · rw [cond_f (by simp [h1])]
        simp only [beq_false_of_ne h1, Bool.false_and]
        rfl
theorem implChain_loop (m : Nat) (hm : 20001200 ≤ m) : ∀ (post pre : List SL), (∀ s ∈ post, s.ok) → pre.length + post.length ≤ 1073741824 → ∀ n, post.length < n → ∀ k0 k1,
    impl_ChainOk_L0_0 m n (.l (ser (pre ++ post))) (.l (ser (pre ++ post))) (.i ((pre ++ post).length : Int)) (.i (pre.length : Int)) k0 k1 = cond (chainGo pre post) (k1 (.l (ser (pre ++ post)))) (k0 (.b false))
  | [], pre, h, h2, n, hn, k0, k1 => by
    obtain ⟨n, rfl⟩ : ∃ m', n = m' + 1 := ⟨n - 1, by omega⟩
    simp only [impl_ChainOk_L0_0, T.rows_l, T.int_i, ser_len]
    rw [dec_f (by simp)]
    rfl
  | s :: post, pre, h, h2, n, hn, k0, k1 => by
    simp only [List.length_cons] at h2 hn
    obtain ⟨n, rfl⟩ : ∃ m', n = m' + 1 := ⟨n - 1, by omega⟩
    obtain ⟨o1, o2⟩ := h s (by simp)
    have ih := implChain_loop m hm post (pre ++ [s]) (fun x hx => h x (by simp [hx])) (by simp; omega) n (by omega) k0 k1
    have f4 : IntKind.i64.wrap ((pre.length : Int) + 1) = (pre.length : Int) + 1 := wrap_i64 (by omega) (by omega)
    simp only [impl_ChainOk_L0_0, T.rows_l, T.int_i, ser_len, f4, Int.toNat_natCast, ser_get, rSe, List.getD_cons_zero, List.getD_cons_succ]
    rw [dec_t (by simp; omega), dec_t (by simp; omega), impl_SealOk_ok s.no s.prev s.sup s.roots o1 (by omega)]
    simp only [T.bool_b, chainGo]
    show cond ((!sealS s) == false) _ _ = _
    cases sealS s with
    | false => rfl
    | true =>
      simp only [Bool.not_true, beq_self_eq_true, cond_true, Bool.true_and]
      by_cases h1 : s.no = (pre.length : Int) + 1
      · rw [cond_t (by simp [h1]), dec_t (by simp; omega), dec_t (by omega)]
        rw [ser_take, impl_prevOf_ok pre (by omega) (by omega)]
        simp only [T.str_s, h1, beq_self_eq_true, Bool.true_and]
        cases hp : (s.prev.toList == (prevB pre).toList) with
        | false => rfl
        | true =>
          simp only [Bool.not_true, cond_false, Bool.true_and]
          simpa using ih
      · rw [cond_f (by simp [h1])]
        simp only [beq_false_of_ne h1, Bool.false_and]
        rfl
theorem spec_ChainOk_ok {m : Nat} (hm : 20001210 ≤ m) (l : List SL) (h : ∀ s ∈ l, s.ok) (hl : l.length + 100 ≤ 20000000) (k : T → An) : spec_ChainOk m (.l (ser l)) k = k (.b (chainB l)) := by
  obtain ⟨m, rfl⟩ : ∃ m', m = m' + 1 := ⟨m - 1, by omega⟩
  simp only [spec_ChainOk, T.rows_l]
  have := specChain_loop m (by omega) l [] h (by simp; omega) m (by omega)
  simp only [List.nil_append, List.length_nil] at this
  rw [show (T.i 0 : T) = .i ((0 : Nat) : Int) from rfl, this]
  unfold chainB
  cases chainGo [] l with
  | false => rfl
  | true =>
    simp only [cond_true, T.rows_l, ser_len, Bool.true_and]
    congr 2
    exact decide_eq_decide.2 (by omega)
theorem impl_ChainOk_ok {m : Nat} (hm : 20001210 ≤ m) (l : List SL) (h : ∀ s ∈ l, s.ok) (hl : l.length + 100 ≤ 20000000) (k : T → An) : impl_ChainOk m (.l (ser l)) k = k (.b (chainB l)) := by
  obtain ⟨m, rfl⟩ : ∃ m', m = m' + 1 := ⟨m - 1, by omega⟩
  simp only [impl_ChainOk, T.rows_l, ser_len]
  have := implChain_loop m (by omega) l [] h (by simp; omega) m (by omega)
  simp only [List.nil_append, List.length_nil] at this
  rw [show (T.i 0 : T) = .i ((0 : Nat) : Int) from rfl, this]
  unfold chainB
  cases chainGo [] l with
  | false => rfl
  | true =>
    simp only [cond_true, T.rows_l, ser_len, Bool.true_and]
    congr 2
    exact decide_eq_decide.2 (by omega)
theorem rows_ser : ∀ {rows : List (List T)}, (∀ r ∈ rows, WtRow esSeal r) → rowsBulk rows ≤ 1048576 → ∃ l, rows = ser l ∧ (∀ s ∈ l, s.ok) ∧ l.length ≤ rowsBulk rows ∧ rows.length + rowsSz rows ≤ rowsBulk rows
  | [], _, _ => ⟨[], rfl, by simp, by simp, by simp [rowsSz]⟩
  | r :: rows, h, hb => by
    simp only [rowsBulk] at hb
    obtain ⟨l, rfl, h1, h2, h3⟩ := rows_ser (rows := rows) (fun r hr => h r (by simp [hr])) (by omega)
    have hr := h r (by simp)
    simp only [esSeal, WtRow, WtT] at hr
    obtain ⟨_, _, rfl, ⟨a0, rfl, -⟩, _, _, rfl, ⟨a1, rfl, -⟩, _, _, rfl, ⟨a2, rfl, -⟩, _, _, rfl, ⟨a3, rfl, ha⟩, rfl⟩ := hr
    obtain ⟨t, rfl, g1, g2, g3⟩ := rows_sr ha
    simp only [rowBulk, tbulk] at hb
    refine ⟨⟨a0, a1, a2, t⟩ :: l, rfl, ?_, ?_, ?_⟩
    · intro s hs
      rcases List.mem_cons.1 hs with rfl | hs
      · exact ⟨by show a1.size + sumS t + 100 ≤ _; omega, by show t.length + 1000 ≤ _; omega⟩
      · exact h1 s hs
    · simp only [rowsBulk, rowBulk, tbulk, List.length_cons]; omega
    · simp only [rowsSz, rowSz, tsz, rowsBulk, rowBulk, tbulk, List.length_cons] at h3 ⊢; omega
theorem fnChainOk_ok (rows : List (List T)) (h : ∀ r ∈ rows, WtRow esSeal r) (hb : rowsBulk rows + 1 ≤ 1048576) (k : T → An) :
    laws_FnExactChainOk 30000000 (.l rows) k = k (.b true) := by
  have hs := h
  have hb2 : rowsBulk rows ≤ 1048576 := by omega
  obtain ⟨l, e, h1, h2, h3⟩ := rows_ser h hb2
  simp only [laws_FnExactChainOk, T.rows_l]
  rw [szSealS_ok (by omega) rows hs hb2 1048576 (by omega) (by omega)]
  simp only [T.int_i]
  rw [dec_f (by omega), toSealS_ok (by omega) rows hs hb2]
  simp only [T.rows_l]
  have e1 : ∀ k, laws_toSealS 29999999 (.l rows) k = k (.l rows) := fun k => toSealS_ok (by omega) rows hs hb2 k
  have e2 : ∀ k, laws_eqSealS 29999999 (.l rows) (.l rows) k = k (.b true) := fun k => eqSealS_ok (by omega) rows hs hb2 k
  subst e
  rw [spec_ChainOk_ok (by omega) l h1 (by omega), e1]
  simp only [T.rows_l]
  rw [impl_ChainOk_ok (by omega) l h1 (by omega)]
  simp only [T.bool_b, beq_self_eq_true, Bool.not_true, cond_false]
  rw [e1]
  simp only [T.rows_l]
  rw [e2]
  simp only [T.bool_b, Bool.not_true, cond_false]
end Go.Proofs.Ytdnejilapfmnlaa

namespace Go.Proofs.Ytdnejilapfmnlaa
open Go Go.E Go.Proofs
abbrev BA := ByteArray
theorem bv255 (x : BitVec IntKind.i64.bits) : ∃ r : Int, bvBack .i64 (x &&& BitVec.ofInt IntKind.i64.bits 255) = .i r ∧ 0 ≤ r ∧ r ≤ 255 := by
  have h : (x &&& BitVec.ofInt IntKind.i64.bits 255).toNat ≤ 255 := by
    rw [BitVec.toNat_and]
    exact Nat.le_trans Nat.and_le_right (Nat.le_of_eq rfl)
  refine ⟨((x &&& BitVec.ofInt IntKind.i64.bits 255).toNat : Int), ?_, by omega, by omega⟩
  unfold bvBack
  rw [wrap_i64 (by omega) (by omega)]
/-- where a cursor stands: within its bytes -/
def At (b : List (List T)) (i : Int) : Prop := 0 ≤ i ∧ i ≤ b.length ∧ b.length ≤ 1048576
theorem l1Byte_ok {m : Nat} (hm : 1 ≤ m) {b : List (List T)} {i : Int} (h : At b i) (x : T) :
    ∃ (r i' : Int) (x' : T), 0 ≤ r ∧ r ≤ 255 ∧ At b i' ∧ ∀ k, spec_l1Byte m (.l b) (.i i) x k = k (.i r) (.l b) (.i i') x' := by
  obtain ⟨m, rfl⟩ : ∃ m', m = m' + 1 := ⟨m - 1, by omega⟩
  obtain ⟨h1, h2, h3⟩ := h
  by_cases hi : i < b.length
  · obtain ⟨r, hr, r1, r2⟩ := bv255 (BitVec.ofInt IntKind.i64.bits (IntKind.i64.wrap ((bvBack .i64 (BitVec.ofInt IntKind.i64.bits (bvBack .i64 (BitVec.ofInt IntKind.i64.bits (Int.fdiv (IntKind.i64.wrap ((IntKind.i64.wrap (x.int * 6364136223846793005)) + 1442695040888963407)) (2 ^ (min (Int.toNat 33) IntKind.i64.bits))) ^^^ BitVec.ofInt IntKind.i64.bits (Int.fdiv (IntKind.i64.wrap ((IntKind.i64.wrap (x.int * 6364136223846793005)) + 1442695040888963407)) (2 ^ (min (Int.toNat 47) IntKind.i64.bits))))).int &&& BitVec.ofInt IntKind.i64.bits 255)).int + (IntKind.i64.wrap ((b.getD (Int.toNat i) []).getD 0 dflt).int))))
    refine ⟨r, i + 1, T.i (IntKind.i64.wrap ((IntKind.i64.wrap (x.int * 6364136223846793005)) + 1442695040888963407)), r1, r2, ⟨by omega, by omega, h3⟩, fun k => ?_⟩
    simp only [spec_l1Byte, T.int_i, T.rows_l]
    rw [dec_t hi, dec_t ⟨h1, hi⟩, hr, wrap_i64 (x := i + 1) (by omega) (by omega)]
  · obtain ⟨r, hr, r1, r2⟩ := bv255 (BitVec.ofInt IntKind.i64.bits (bvBack .i64 (BitVec.ofInt IntKind.i64.bits (Int.fdiv (IntKind.i64.wrap ((IntKind.i64.wrap (x.int * 6364136223846793005)) + 1442695040888963407)) (2 ^ (min (Int.toNat 33) IntKind.i64.bits))) ^^^ BitVec.ofInt IntKind.i64.bits (Int.fdiv (IntKind.i64.wrap ((IntKind.i64.wrap (x.int * 6364136223846793005)) + 1442695040888963407)) (2 ^ (min (Int.toNat 47) IntKind.i64.bits))))).int)
    refine ⟨r, i, T.i (IntKind.i64.wrap ((IntKind.i64.wrap (x.int * 6364136223846793005)) + 1442695040888963407)), r1, r2, ⟨h1, h2, h3⟩, fun k => ?_⟩
    simp only [spec_l1Byte, T.int_i, T.rows_l]
    rw [dec_f hi, hr]
theorem l1Below_ok {m : Nat} (hm : 2 ≤ m) {b : List (List T)} {i : Int} (h : At b i) (x : T) {n : Int} (h1 : 1 ≤ n) (h2 : n ≤ 256) :
    ∃ (r i' : Int) (x' : T), 0 ≤ r ∧ r < n ∧ At b i' ∧ ∀ k, spec_l1Below m (.l b) (.i i) x (.i n) k = k (.i r) (.l b) (.i i') x' := by
  obtain ⟨m, rfl⟩ : ∃ m', m = m' + 1 := ⟨m - 1, by omega⟩
  obtain ⟨r, i', x', r1, r2, hi, hk⟩ := l1Byte_ok (m := m) (by omega) h x
  refine ⟨Int.tmod r n, i', x', Int.tmod_nonneg _ r1, Int.tmod_lt_of_pos _ (by omega), hi, fun k => ?_⟩
  simp only [spec_l1Below, T.int_i, T.rows_l]
  rw [dec_f (by omega), dec_t h2, hk]
  simp only [T.int_i, T.rows_l]
  rw [show (!decide (n = 0)) = true from by simp; omega, cond_true]
theorem l1Str_ok {m : Nat} (hm : 3 ≤ m) {b : List (List T)} {i : Int} (h : At b i) (x : T) (l : List BA) (h1 : 1 ≤ l.length) (h2 : l.length ≤ 256) :
    ∃ (a : BA) (i' : Int) (x' : T), a ∈ l ∧ At b i' ∧ ∀ k, spec_l1Str m (.l b) (.i i) x (.l (l.map fun a => [T.s a])) k = k (.s a) (.l b) (.i i') x' := by
  obtain ⟨m, rfl⟩ : ∃ m', m = m' + 1 := ⟨m - 1, by omega⟩
  obtain ⟨r, i', x', r1, r2, hi, hk⟩ := l1Below_ok (m := m) (by omega) h x (n := l.length) (by omega) (by omega)
  have hlt : r.toNat < l.length := by omega
  refine ⟨l[r.toNat], i', x', List.getElem_mem hlt, hi, fun k => ?_⟩
  simp only [spec_l1Str, T.int_i, T.rows_l, List.length_map]
  rw [hk]
  simp only [T.int_i, T.rows_l]
  rw [dec_t ⟨r1, r2⟩]
  have e : (l.map fun a => [T.s a]).getD r.toNat [] = [T.s l[r.toNat]] := by
    rw [List.getD_eq_getElem?_getD, List.getElem?_map, List.getElem?_eq_getElem hlt]; rfl
  rw [e]; rfl
theorem l1New_loop (m : Nat) (b : List (List T)) (hb : b.length ≤ 1048576) : ∀ (j : Nat) (i : Int) (x : T) (n : Nat), 0 ≤ i → (b.length : Int) - i ≤ j → j < n → ∃ x', ∀ k, spec_l1New_L0_0 m n (.l b) x (.i i) k = k (.l b) x'
  | j, i, x, 0, h0, hj, hn => by omega
  | j, i, x, n + 1, h0, hj, hn => by
    by_cases h1 : i < b.length
    · by_cases h2 : i < 4000
      · match j, hj, hn with
        | 0, hj, hn => omega
        | j + 1, hj, hn =>
        obtain ⟨x', hx⟩ := l1New_loop m b hb j (i + 1) (bvBack .i64 (BitVec.ofInt IntKind.i64.bits (IntKind.i64.wrap ((IntKind.i64.wrap ((IntKind.i64.wrap (x.int * 137)) + (IntKind.i64.wrap ((b.getD (Int.toNat i) []).getD 0 dflt).int))) + 11)) &&& BitVec.ofInt IntKind.i64.bits 1073741823)) n (by omega) (by omega) (by omega)
        refine ⟨x', fun k => ?_⟩
        simp only [spec_l1New_L0_0, T.int_i, T.rows_l]
        rw [cond_t (by simp [h1]), dec_t h2, dec_t ⟨h0, h1⟩, wrap_i64 (x := i + 1) (by omega) (by omega)]
        exact hx k
      · refine ⟨x, fun k => ?_⟩
        simp only [spec_l1New_L0_0, T.int_i, T.rows_l]
        rw [cond_t (by simp [h1]), dec_f h2]
    · refine ⟨x, fun k => ?_⟩
      simp only [spec_l1New_L0_0, T.int_i, T.rows_l]
      rw [cond_f (by simp; omega)]
theorem l1New_ok {m : Nat} {b : List (List T)} (hb : b.length ≤ 1048576) (hm : b.length + 2 ≤ m) : ∃ x, ∀ k, spec_l1New m (.l b) k = k (.l b) (.i 0) x := by
  obtain ⟨m, rfl⟩ : ∃ m', m = m' + 1 := ⟨m - 1, by omega⟩
  obtain ⟨x, hx⟩ := l1New_loop m b hb b.length 0 (T.i (IntKind.i64.wrap (381381 + (b.length : Int)))) m (by omega) (by omega) (by omega)
  refine ⟨x, fun k => ?_⟩
  simp only [spec_l1New, T.rows_l]
  exact hx _
end Go.Proofs.Ytdnejilapfmnlaa

namespace Go.Proofs.Ytdnejilapfmnlaa
open Go Go.E Go.Proofs
theorem dig_size (l : List Nat) : (digestB (nr l)).size = 32 := by
  rw [digB_nr]
  have h8 := blocksN_ok ((padN l).length / 64) h0N (padN l) rfl h0N_W
  have : (digestN l).length = 32 := by
    unfold digestN
    generalize blocksN kN ((padN l).length / 64) h0N (padN l) = z at h8
    obtain ⟨b0, b1, b2, b3, b4, b5, b6, b7, rfl⟩ := l8 h8
    rfl
  simp [ByteArray.size, this]
theorem l1Int_ok {m : Nat} (hm : 3 ≤ m) {b : List (List T)} {i : Int} (h : At b i) (x : T) (l : List Int) (h1 : 1 ≤ l.length) (h2 : l.length ≤ 256) :
    ∃ (a : Int) (i' : Int) (x' : T), a ∈ l ∧ At b i' ∧ ∀ k, spec_l1Int m (.l b) (.i i) x (.l (l.map fun a => [T.i a])) k = k (.i a) (.l b) (.i i') x' := by
  obtain ⟨m, rfl⟩ : ∃ m', m = m' + 1 := ⟨m - 1, by omega⟩
  obtain ⟨r, i', x', r1, r2, hi, hk⟩ := l1Below_ok (m := m) (by omega) h x (n := l.length) (by omega) (by omega)
  have hlt : r.toNat < l.length := by omega
  refine ⟨l[r.toNat], i', x', List.getElem_mem hlt, hi, fun k => ?_⟩
  simp only [spec_l1Int, T.int_i, T.rows_l, List.length_map]
  rw [hk]
  simp only [T.int_i, T.rows_l]
  rw [dec_t ⟨r1, r2⟩]
  have e : (l.map fun a => [T.i a]).getD r.toNat [] = [T.i l[r.toNat]] := by
    rw [List.getD_eq_getElem?_getD, List.getElem?_map, List.getElem?_eq_getElem hlt]; rfl
  rw [e]; rfl
theorem l1Once_ok {m : Nat} (hm : 3 ≤ m) {b : List (List T)} {i : Int} (h : At b i) (x : T) {n : Int} (h1 : 1 ≤ n) (h2 : n ≤ 256) :
    ∃ (r : Bool) (i' : Int) (x' : T), At b i' ∧ ∀ k, spec_l1Once m (.l b) (.i i) x (.i n) k = k (.b r) (.l b) (.i i') x' := by
  obtain ⟨m, rfl⟩ : ∃ m', m = m' + 1 := ⟨m - 1, by omega⟩
  obtain ⟨r, i', x', r1, r2, hi, hk⟩ := l1Below_ok (m := m) (by omega) h x h1 h2
  refine ⟨r == 0, i', x', hi, fun k => ?_⟩
  simp only [spec_l1Once, T.rows_l]
  rw [hk]
  rfl
theorem l1Bytes_loop (m : Nat) (hm : 1 ≤ m) {b : List (List T)} : ∀ (j a : Nat) (acc : List Nat) (i : Int) (x : T), At b i → (∀ y ∈ acc, y < 256) → acc.length + j ≤ 1000 → a + j ≤ 1000 → ∀ n, j < n →
    ∃ (l : List Nat) (i' : Int) (x' : T), (∀ y ∈ l, y < 256) ∧ l.length ≤ acc.length + j ∧ At b i' ∧ ∀ k0, spec_l1Bytes_L0_0 m n (.i 0) (.i ((a + j : Nat) : Int)) (.i (a : Int)) (.l b) (.i i) x (.l (nr acc)) k0 = k0 (.i 0) (.l b) (.i i') x' (.l (nr l))
  | 0, a, acc, i, x, h, hacc, hl, ha, n, hn => by
    obtain ⟨n, rfl⟩ : ∃ m', n = m' + 1 := ⟨n - 1, by omega⟩
    refine ⟨acc, i, x, hacc, by omega, h, fun k0 => ?_⟩
    simp only [spec_l1Bytes_L0_0, T.rows_l, T.int_i]
    rw [dec_f (by omega)]
    rfl
  | j + 1, a, acc, i, x, h, hacc, hl, ha, n, hn => by
    obtain ⟨n, rfl⟩ : ∃ m', n = m' + 1 := ⟨n - 1, by omega⟩
    obtain ⟨r, i1, x1, r1, r2, h1, hk⟩ := l1Byte_ok hm h x
    obtain ⟨l, i', x', g1, g2, g3, g4⟩ := l1Bytes_loop m hm j (a + 1) (acc ++ [r.toNat]) i1 x1 h1 (fun y hy => by
      rcases List.mem_append.1 hy with hy | hy
      · exact hacc y hy
      · simp at hy; omega) (by simp; omega) (by omega) n (by omega)
    refine ⟨l, i', x', g1, by simp at g2; omega, g3, fun k0 => ?_⟩
    have f4 : IntKind.i64.wrap ((a : Int) + 1) = ((a + 1 : Nat) : Int) := by rw [wrap_i64 (by omega) (by omega)]; omega
    have er : r = ((r.toNat : Nat) : Int) := by omega
    simp only [spec_l1Bytes_L0_0, T.rows_l, T.int_i, f4]
    rw [dec_t (by omega), hk]
    simp only [T.rows_l, T.int_i, nr_len]
    rw [dec_t (by unfold maxRow; omega), er, wrap_u8, Nat.mod_eq_of_lt (by omega), nr_snoc]
    rw [show a + (j + 1) = a + 1 + j by omega]
    exact g4 k0
theorem l1Some_ok {m : Nat} (hm : 100 ≤ m) {b : List (List T)} {i : Int} (h : At b i) (x : T) :
    ∃ (l : List Nat) (i' : Int) (x' : T), (∀ y ∈ l, y < 256) ∧ l.length ≤ 9 ∧ At b i' ∧ ∀ k, spec_l1Some m (.l b) (.i i) x k = k (.l (nr l)) (.l b) (.i i') x' := by
  obtain ⟨m, rfl⟩ : ∃ m', m = m' + 2 := ⟨m - 2, by omega⟩
  obtain ⟨r, i1, x1, hr, h1, hk⟩ := l1Int_ok (m := m + 1) (by omega) h x [0, 1, 2, 5, 9] (by decide) (by decide)
  have hr2 : 0 ≤ r ∧ r ≤ 9 := by simp at hr; omega
  obtain ⟨l, i', x', g1, g2, g3, g4⟩ := l1Bytes_loop m (by omega) r.toNat 0 [] i1 x1 h1 (by simp) (by simp; omega) (by omega) m (by omega)
  refine ⟨l, i', x', g1, by simp at g2; omega, g3, fun k => ?_⟩
  have hk2 := fun k => hk k
  simp only [List.map_cons, List.map_nil] at hk2
  simp only [spec_l1Some, T.rows_l]
  rw [hk2]
  simp only [T.rows_l, spec_l1Bytes]
  have er : r = ((0 + r.toNat : Nat) : Int) := by omega
  rw [show (T.i 0 : T) = .i ((0 : Nat) : Int) from rfl, show (T.l [] : T) = .l (nr []) from rfl]
  have e2 := g4 (fun y4 y5 y6 y7 y8 => k (.l y8.rows) (.l y5.rows) y6 y7)
  rw [← er] at e2
  exact e2
def RG (l : List ByteArray) : Prop := l.length ≤ 4 ∧ ∀ r ∈ l, r.size ≤ 32
theorem sumS_le {l : List ByteArray} (h : RG l) : sumS l ≤ 4 * 38 := by
  have : ∀ l : List ByteArray, (∀ r ∈ l, r.size ≤ 32) → sumS l ≤ l.length * 38 := fun l => by
    induction l with
    | nil => intro _; simp [sumS]
    | cons x l ih =>
      intro h
      have h1 := ih fun r hr => h r (by simp [hr])
      have h2 := h x (by simp)
      simp only [sumS, List.map_cons, List.sum_cons, List.length_cons] at h1 ⊢
      omega
  have h1 := this l h.2
  have h2 := h.1
  omega
theorem sr_snoc (l : List ByteArray) (s : ByteArray) : sr l ++ [[T.s s]] = sr (l ++ [s]) := by simp [sr]
theorem roots_loop (m : Nat) (hm : 20000100 ≤ m) {b : List (List T)} : ∀ (j : Nat) (acc : List ByteArray) (i : Int) (x : T), At b i → (∀ r ∈ acc, r.size ≤ 32) → acc.length + j ≤ 4 → ∀ n, j < n →
    ∃ (l : List ByteArray) (i' : Int) (x' : T), (∀ r ∈ l, r.size ≤ 32) ∧ l.length ≤ acc.length + j ∧ At b i' ∧ ∀ k0, spec_l15Roots_L0_0 m n (.i 0) (.i (j : Int)) (.l b) (.i i) x (.l (sr acc)) k0 = k0 (.i 0) (.l b) (.i i') x' (.l (sr l))
  | 0, acc, i, x, h, hacc, hl, n, hn => by
    obtain ⟨n, rfl⟩ : ∃ m', n = m' + 1 := ⟨n - 1, by omega⟩
    refine ⟨acc, i, x, hacc, by omega, h, fun k0 => ?_⟩
    simp only [spec_l15Roots_L0_0, T.rows_l, T.int_i]
    rw [dec_f (by omega)]
    rfl
  | j + 1, acc, i, x, h, hacc, hl, n, hn => by
    obtain ⟨n, rfl⟩ : ∃ m', n = m' + 1 := ⟨n - 1, by omega⟩
    obtain ⟨s, i1, x1, s1, s2, h1, hk⟩ := l1Some_ok (m := m) (by omega) h x
    obtain ⟨l, i', x', g1, g2, g3, g4⟩ := roots_loop m hm j (acc ++ [digestB (nr s)]) i1 x1 h1 (fun y hy => by
      rcases List.mem_append.1 hy with hy | hy
      · exact hacc y hy
      · simp at hy; rw [hy, dig_size]; omega) (by simp; omega) n (by omega)
    refine ⟨l, i', x', g1, by simp at g2; omega, g3, fun k0 => ?_⟩
    have f4 : IntKind.i64.wrap (((j + 1 : Nat) : Int) - 1) = (j : Int) := by rw [wrap_i64 (by omega) (by omega)]; omega
    simp only [spec_l15Roots_L0_0, T.rows_l, T.int_i, f4]
    rw [dec_t (by omega), hk]
    simp only [T.rows_l]
    rw [spec_Digest_ok s (by omega) (bytes_all s1) (by omega), sr_len, dec_t (by unfold maxRow; omega), sr_snoc]
    exact g4 k0
theorem l15Roots_ok {m : Nat} (hm : 20000101 ≤ m) {b : List (List T)} {i : Int} (h : At b i) (x : T) :
    ∃ (l : List ByteArray) (i' : Int) (x' : T), l.length ≤ 3 ∧ RG l ∧ At b i' ∧ ∀ k, spec_l15Roots m (.l b) (.i i) x k = k (.l (sr l)) (.l b) (.i i') x' := by
  obtain ⟨m, rfl⟩ : ∃ m', m = m' + 1 := ⟨m - 1, by omega⟩
  obtain ⟨r, i1, x1, r1, r2, h1, hk⟩ := l1Below_ok (m := m) (by omega) h x (n := 3) (by omega) (by omega)
  obtain ⟨l, i', x', g1, g2, g3, g4⟩ := roots_loop m (by omega) (1 + r).toNat [] i1 x1 h1 (by simp) (by simp; omega) m (by omega)
  refine ⟨l, i', x', by simp at g2; omega, ⟨by simp at g2; omega, g1⟩, g3, fun k => ?_⟩
  simp only [spec_l15Roots, T.rows_l]
  rw [hk]
  have er : IntKind.i64.wrap (1 + r) = (((1 + r).toNat : Nat) : Int) := by rw [wrap_i64 (by omega) (by omega)]; omega
  simp only [T.rows_l, T.int_i, er]
  rw [show (T.l [] : T) = .l (sr []) from rfl, g4]
  rfl
def SG (s : SL) : Prop := s.prev.size ≤ 32 ∧ s.sup.size ≤ 32 ∧ RG s.roots
theorem SG.ok {s : SL} (h : SG s) : s.ok := by
  have h1 := sumS_le h.2.2
  have h2 := h.2.2.1
  have h3 := h.1
  exact ⟨by omega, by omega⟩
theorem prevB_size {l : List SL} (h : ∀ s ∈ l, SG s) : (prevB l).size ≤ 32 := by
  unfold prevB
  split
  · exact Nat.le_of_eq (dig_size [])
  · rename_i s hs
    exact (h s (List.mem_of_getLast? hs)).2.1
theorem superS_size (no : Int) (p : ByteArray) (r : List ByteArray) : (superS no p r).size = 32 := dig_size _
theorem ser_snoc (l : List SL) (s : SL) : ser l ++ [rSe s] = ser (l ++ [s]) := by simp [ser]
theorem draw_loop (m : Nat) (hm : 20000200 ≤ m) {b : List (List T)} : ∀ (j : Nat) (acc : List SL) (i : Int) (x : T), At b i → (∀ s ∈ acc, SG s) → acc.length + j ≤ 4 → ∀ n, j < n →
    ∃ (l : List SL) (i' : Int) (x' : T), (∀ s ∈ l, SG s) ∧ l.length ≤ acc.length + j ∧ At b i' ∧ ∀ k0, spec_l15Draw_L0_0 m n (.i 0) (.i (j : Int)) (.l b) (.i i) x (.l (ser acc)) k0 = k0 (.i 0) (.l b) (.i i') x' (.l (ser l))
  | 0, acc, i, x, h, hacc, hl, n, hn => by
    obtain ⟨n, rfl⟩ : ∃ m', n = m' + 1 := ⟨n - 1, by omega⟩
    refine ⟨acc, i, x, hacc, by omega, h, fun k0 => ?_⟩
    simp only [spec_l15Draw_L0_0, T.rows_l, T.int_i]
    rw [dec_f (by omega)]
    rfl
  | j + 1, acc, i, x, h, hacc, hl, n, hn => by
    obtain ⟨n, rfl⟩ : ∃ m', n = m' + 1 := ⟨n - 1, by omega⟩
    obtain ⟨rs, i1, x1, rl, rg, h1, hk⟩ := l15Roots_ok (m := m) (by omega) h x
    have hp := prevB_size hacc
    obtain ⟨s, hs⟩ : ∃ s : SL, s = ⟨(acc.length : Int) + 1, prevB acc, superS ((acc.length : Int) + 1) (prevB acc) rs, rs⟩ := ⟨_, rfl⟩
    have hsg : SG s := by rw [hs]; exact ⟨hp, Nat.le_of_eq (superS_size _ _ _), rg⟩
    obtain ⟨l, i', x', g1, g2, g3, g4⟩ := draw_loop m hm j (acc ++ [s]) i1 x1 h1 (fun y hy => by
      rcases List.mem_append.1 hy with hy | hy
      · exact hacc y hy
      · simp at hy; rw [hy]; exact hsg) (by simp; omega) n (by omega)
    refine ⟨l, i', x', g1, by simp at g2; omega, g3, fun k0 => ?_⟩
    have f4 : IntKind.i64.wrap (((j + 1 : Nat) : Int) - 1) = (j : Int) := by rw [wrap_i64 (by omega) (by omega)]; omega
    have f5 : IntKind.i64.wrap ((acc.length : Int) + 1) = (acc.length : Int) + 1 := wrap_i64 (by omega) (by omega)
    have hsl := sumS_le rg
    simp only [spec_l15Draw_L0_0, T.rows_l, T.int_i, f4, ser_len, f5]
    rw [dec_t (by omega), spec_l15Prev_ok acc (by omega) (by omega), hk]
    simp only [T.rows_l]
    rw [spec_SuperOf_ok _ (prevB acc) rs (by omega) (by omega) (by omega), dec_t (by unfold maxRow; omega)]
    have e : ser acc ++ [[T.i ((acc.length : Int) + 1), T.s (prevB acc), T.s (superS ((acc.length : Int) + 1) (prevB acc) rs), T.l (sr rs)]] = ser (acc ++ [s]) := by
      rw [← ser_snoc, hs]; rfl
    rw [e]
    exact g4 k0
theorem l15Draw_ok {m : Nat} (hm : 20000201 ≤ m) {b : List (List T)} {i : Int} (h : At b i) (x : T) :
    ∃ (l : List SL) (i' : Int) (x' : T), l.length ≤ 4 ∧ (∀ s ∈ l, SG s ∧ s.roots.length ≤ 4) ∧ At b i' ∧ ∀ k, spec_l15Draw m (.l b) (.i i) x k = k (.l (ser l)) (.l b) (.i i') x' := by
  obtain ⟨m, rfl⟩ : ∃ m', m = m' + 1 := ⟨m - 1, by omega⟩
  obtain ⟨r, i1, x1, r1, r2, h1, hk⟩ := l1Below_ok (m := m) (by omega) h x (n := 4) (by omega) (by omega)
  obtain ⟨l, i', x', g1, g2, g3, g4⟩ := draw_loop m (by omega) r.toNat [] i1 x1 h1 (by simp) (by simp; omega) m (by omega)
  refine ⟨l, i', x', by simp at g2; omega, fun s hs => ⟨g1 s hs, (g1 s hs).2.2.1⟩, g3, fun k => ?_⟩
  simp only [spec_l15Draw, T.rows_l]
  rw [hk]
  have er : r = ((r.toNat : Nat) : Int) := by omega
  simp only [T.rows_l]
  rw [er, show (T.l [] : T) = .l (ser []) from rfl, g4]
  rfl
end Go.Proofs.Ytdnejilapfmnlaa

namespace Go.Proofs.Ytdnejilapfmnlaa
open Go Go.E Go.Proofs
theorem sumS_snoc (l : List ByteArray) (s : ByteArray) : sumS (l ++ [s]) = sumS l + s.size + 6 := by simp [sumS]; omega
theorem l15Bend_ok {m : Nat} (hm : 20000300 ≤ m) {b : List (List T)} {i : Int} (h : At b i) (x : T) (s : SL) (hs : SG s) :
    ∃ (s' : SL) (i' : Int) (x' : T), s'.ok ∧ At b i' ∧ ((∀ k0 k1, spec_l15Bend m (.l b) (.i i) x (.i s.no) (.s s.prev) (.s s.sup) (.l (sr s.roots)) k0 k1 = k0 (.i s'.no) (.s s'.prev) (.s s'.sup) (.l (sr s'.roots)) (.l b) (.i i') x') ∨
      (∀ k0 k1, spec_l15Bend m (.l b) (.i i) x (.i s.no) (.s s.prev) (.s s.sup) (.l (sr s.roots)) k0 k1 = k1 (.i s'.no) (.s s'.prev) (.s s'.sup) (.l (sr s'.roots)) (.l b) (.i i') x')) := by
  obtain ⟨m, rfl⟩ : ∃ m', m = m' + 1 := ⟨m - 1, by omega⟩
  have hok := hs.ok
  obtain ⟨p1, p2, p3, p4⟩ := hs
  have hsl := sumS_le ⟨p3, p4⟩
  obtain ⟨r, i1, x1, r1, r2, h1, hk⟩ := l1Below_ok (m := m) (by omega) h x (n := 5) (by omega) (by omega)
  have hrl : decide ((0 + (sr s.roots).length) * 1 ≤ maxRow) = true := decide_eq_true (by rw [sr_len]; unfold maxRow; omega)
  rcases (by omega : r = 0 ∨ r = 1 ∨ r = 2 ∨ r = 3 ∨ r = 4) with rfl | rfl | rfl | rfl | rfl
  · obtain ⟨a, i2, x2, -, h2, hk2⟩ := l1Int_ok (m := m) (by omega) h1 x1 [0, IntKind.i64.wrap (s.no + 1), 1001] (by simp) (by simp)
    simp only [List.map_cons, List.map_nil] at hk2
    refine ⟨⟨a, s.prev, s.sup, s.roots⟩, i2, x2, hok, h2, .inl fun k0 k1 => ?_⟩
    simp only [spec_l15Bend, T.rows_l]
    rw [hrl, cond_true, hk]
    simp only [T.int_i, T.rows_l]
    rw [cond_t (by rfl), hk2]
    rfl
  · obtain ⟨a, i2, x2, ha, h2, hk2⟩ := l1Str_ok (m := m) (by omega) h1 x1 [⟨#[]⟩, ⟨#[120]⟩] (by simp) (by simp)
    simp only [List.map_cons, List.map_nil] at hk2
    refine ⟨⟨s.no, a, s.sup, s.roots⟩, i2, x2, ⟨?_, by show s.roots.length + 1000 ≤ _; omega⟩, h2, .inl fun k0 k1 => ?_⟩
    · show a.size + sumS s.roots + 100 ≤ _
      have : a.size ≤ 1 := by
        simp only [List.mem_cons, List.not_mem_nil, or_false] at ha
        rcases ha with rfl | rfl <;> decide
      omega
    · simp only [spec_l15Bend, T.rows_l]
      rw [hrl, cond_true, hk]
      simp only [T.int_i, T.rows_l]
      rw [cond_f (by rfl), cond_t (by rfl), hk2]
      rfl
  · refine ⟨⟨s.no, s.prev, digestB (nr [9]), s.roots⟩, i1, x1, hok, h1, .inl fun k0 k1 => ?_⟩
    simp only [spec_l15Bend, T.rows_l]
    rw [hrl, cond_true, hk]
    simp only [T.int_i, T.rows_l]
    rw [cond_f (by rfl), cond_f (by rfl), cond_t (by rfl), show ([[T.i 9]] : List (List T)) = nr [9] from rfl, spec_Digest_ok [9] (by simp) (bytes_all (by simp)) (by omega)]
  · obtain ⟨a, i2, x2, ha, h2, hk2⟩ := l1Str_ok (m := m) (by omega) h1 x1 [⟨#[]⟩, digestB (nr [1])] (by simp) (by simp)
    simp only [List.map_cons, List.map_nil] at hk2
    have hsz : a.size ≤ 32 := by
      simp only [List.mem_cons, List.not_mem_nil, or_false] at ha
      rcases ha with rfl | rfl
      · decide
      · exact Nat.le_of_eq (dig_size _)
    refine ⟨⟨s.no, s.prev, s.sup, s.roots ++ [a]⟩, i2, x2, ⟨?_, ?_⟩, h2, .inr fun k0 k1 => ?_⟩
    · show s.prev.size + sumS (s.roots ++ [a]) + 100 ≤ _
      rw [sumS_snoc]; omega
    · show (s.roots ++ [a]).length + 1000 ≤ _
      simp; omega
    · simp only [spec_l15Bend, T.rows_l]
      rw [hrl, cond_true, hk]
      simp only [T.int_i, T.rows_l]
      rw [cond_f (by rfl), cond_f (by rfl), cond_f (by rfl), cond_t (by rfl), show ([[T.i 1]] : List (List T)) = nr [1] from rfl, spec_Digest_ok [1] (by simp) (bytes_all (by simp)) (by omega), hk2]
      simp only [T.rows_l, sr_len]
      rw [dec_t (by unfold maxRow; omega), sr_snoc]
  · refine ⟨s, i1, x1, hok, h1, .inl fun k0 k1 => ?_⟩
    simp only [spec_l15Bend, T.rows_l]
    rw [hrl, cond_true, hk]
    simp only [T.int_i, T.rows_l]
    rw [cond_f (by rfl), cond_f (by rfl), cond_f (by rfl), cond_f (by rfl)]
theorem ser_at (l : List SL) (i : Nat) (h : i < l.length) : (ser l).getD i [] = rSe l[i] := by simp [ser, List.getD, h]
theorem l15Any_ok {m : Nat} (hm : 20000400 ≤ m) {b : List (List T)} {i : Int} (h : At b i) (x : T) :
    ∃ (l : List SL) (i' : Int) (x' : T), l.length ≤ 4 ∧ (∀ s ∈ l, s.ok) ∧ At b i' ∧ ∀ k, spec_l15Any m (.l b) (.i i) x k = k (.l (ser l)) (.l b) (.i i') x' := by
  obtain ⟨m, rfl⟩ : ∃ m', m = m' + 1 := ⟨m - 1, by omega⟩
  obtain ⟨l, i1, x1, hl, hg, h1, hk⟩ := l15Draw_ok (m := m) (by omega) h x
  have hok : ∀ s ∈ l, s.ok := fun s hs => (hg s hs).1.ok
  by_cases h0 : l.length = 0
  · refine ⟨l, i1, x1, hl, hok, h1, fun k => ?_⟩
    simp only [spec_l15Any, T.rows_l]
    rw [hk]
    simp only [T.rows_l, ser_len]
    rw [cond_f (by rw [decide_eq_false (by omega)]; rfl)]
  · obtain ⟨q, i2, x2, h2, hk2⟩ := l1Once_ok (m := m) (by omega) h1 x1 (n := 3) (by omega) (by omega)
    cases q with
    | false =>
      refine ⟨l, i2, x2, hl, hok, h2, fun k => ?_⟩
      simp only [spec_l15Any, T.rows_l]
      rw [hk]
      simp only [T.rows_l, ser_len]
      rw [cond_t (by rw [decide_eq_true (by omega)]; rfl), hk2]
      simp only [T.bool_b, cond_false, T.rows_l]
    | true =>
      obtain ⟨r, i3, x3, r1, r2, h3, hk3⟩ := l1Below_ok (m := m) (by omega) h2 x2 (n := l.length) (by omega) (by omega)
      have hlt : r.toNat < l.length := by omega
      obtain ⟨s', i4, x4, hs', h4, hb⟩ := l15Bend_ok (m := m) (by omega) h3 x3 l[r.toNat] (hg _ (List.getElem_mem hlt)).1
      have hset : ∀ k : T → T → T → T → An, cond (decide ((0 : Int) ≤ r ∧ r < (l.length : Int))) (cond (decide (r.toNat < l.length)) (k (.l ((ser l).set r.toNat (((((ser l).getD r.toNat []).set 0 (.i s'.no)).set 1 (.s s'.prev)).set 2 (.s s'.sup) |>.set 3 (.l (sr s'.roots))))) (.l b) (.i i4) x4) R3.bad) R3.bad = k (.l (ser (l.set r.toNat s'))) (.l b) (.i i4) x4 := fun k => by
        rw [dec_t ⟨r1, r2⟩, dec_t hlt, ser_at l _ hlt]
        congr 2
        unfold ser
        rw [List.map_set]
        rfl
      refine ⟨l.set r.toNat s', i4, x4, by simpa using hl, fun s hs => ?_, h4, fun k => ?_⟩
      · rcases List.mem_or_eq_of_mem_set hs with hs | rfl
        · exact hok s hs
        · exact hs'
      · simp only [spec_l15Any, T.rows_l]
        rw [hk]
        simp only [T.rows_l, ser_len]
        rw [cond_t (by rw [decide_eq_true (by omega)]; rfl), hk2]
        simp only [T.bool_b, cond_true, T.rows_l]
        rw [hk3]
        simp only [T.int_i, T.rows_l]
        rw [dec_t ⟨r1, r2⟩, dec_t hlt, ← hset k]
        rw [show (ser l).getD r.toNat [] = rSe l[r.toNat] from ser_at l _ hlt]
        rcases hb with hb | hb
        · refine (hb _ _).trans ?_
          rfl
        · refine (hb _ _).trans ?_
          rfl
theorem drawChain_ok {m : Nat} {b : List (List T)} (hb : b.length ≤ 1048576) (hm : 20000500 ≤ m) : ∃ l : List SL, l.length ≤ 4 ∧ (∀ s ∈ l, s.ok) ∧ ∀ k, spec_DrawChainOk m (.l b) k = k (.l (ser l)) := by
  obtain ⟨m, rfl⟩ : ∃ m', m = m' + 1 := ⟨m - 1, by omega⟩
  obtain ⟨x, hx⟩ := l1New_ok (m := m) (b := b) hb (by omega)
  obtain ⟨l, i', x', hl, hok, -, hk⟩ := l15Any_ok (m := m) (by omega) (b := b) (i := 0) ⟨by omega, by omega, hb⟩ x
  refine ⟨l, hl, hok, fun k => ?_⟩
  simp only [spec_DrawChainOk, T.rows_l]
  rw [hx]
  simp only [T.rows_l]
  rw [hk]
  rfl
/-! the law -/
theorem chainGo_app : ∀ (a b pre : List SL), chainGo pre (a ++ b) = (chainGo pre a && chainGo (pre ++ a) b)
  | [], b, pre => by simp [chainGo]
  | s :: a, b, pre => by
    simp only [List.cons_append, chainGo, chainGo_app a b (pre ++ [s]), List.append_assoc, List.nil_append, Bool.and_assoc]
theorem chains_loop (m : Nat) (hm : 20001300 ≤ m) (l : List SL) (hl : l.length ≤ 1000) (hok : ∀ s ∈ l, s.ok) : ∀ (post pre : List SL), l = pre ++ post → ∀ n, post.length < n → ∀ k0 k1,
    laws_FnChains_L0_0 m n (.b (chainB l)) (.i (pre.length : Int)) (.l (ser l)) k0 k1 = k1
  | [], pre, e, n, hn, k0, k1 => by
    obtain ⟨n, rfl⟩ : ∃ m', n = m' + 1 := ⟨n - 1, by omega⟩
    subst e
    simp only [laws_FnChains_L0_0, T.rows_l, T.int_i, ser_len]
    rw [dec_f (by simp)]
  | s :: post, pre, e, n, hn, k0, k1 => by
    simp only [List.length_cons] at hn
    obtain ⟨n, rfl⟩ : ∃ m', n = m' + 1 := ⟨n - 1, by omega⟩
    have hlen : l.length = pre.length + (post.length + 1) := by rw [e]; simp
    obtain ⟨o1, o2⟩ := hok s (by rw [e]; simp)
    have ih := chains_loop m hm l hl hok post (pre ++ [s]) (by rw [e]; simp) n (by omega) k0 k1
    have f4 : IntKind.i64.wrap ((pre.length : Int) + 1) = (pre.length : Int) + 1 := wrap_i64 (by omega) (by omega)
    have hget : (ser l).getD pre.length [] = rSe s := by rw [e]; exact ser_get pre s post
    have htake : (ser l).take pre.length = ser pre := by rw [e]; exact ser_take pre (s :: post)
    have hnext : laws_FnChains_L0_0 m n (.b (chainB l)) (.i ((pre.length : Int) + 1)) (.l (ser l)) k0 k1 = k1 := by simpa using ih
    have hprek : ∀ x ∈ pre, x.ok := fun x hx => hok x (by rw [e]; simp [hx])
    simp only [laws_FnChains_L0_0, T.rows_l, T.int_i, ser_len, f4, Int.toNat_natCast, hget, rSe, List.getD_cons_zero, List.getD_cons_succ]
    rw [dec_t (by omega), dec_t (by omega), dec_t (by omega), impl_SealOk_ok s.no s.prev s.sup s.roots o1 (by omega), spec_SealOk_ok s.no s.prev s.sup s.roots o1 (by omega) (by omega)]
    simp only [T.bool_b, beq_self_eq_true, Bool.not_true]
    rw [cond_t (by rfl)]
    cases hc : chainB l with
    | false =>
      rw [hc] at hnext
      rw [cond_f (by rfl)]
      exact hnext
    | true =>
      rw [hc] at hnext
      have hg : chainGo [] l = true := by
        unfold chainB at hc
        simp only [Bool.and_eq_true] at hc
        exact hc.1
      rw [e, chainGo_app] at hg
      simp only [Bool.and_eq_true, List.nil_append, chainGo] at hg
      obtain ⟨hg1, ⟨⟨⟨hg2, -⟩, -⟩, -⟩⟩ := hg
      have hseal : sealB s.no s.prev s.sup s.roots = true := hg2
      have hsup : (s.sup.toList == (superS s.no s.prev s.roots).toList) = true := by
        unfold sealB at hseal
        simp only [Bool.and_eq_true] at hseal
        exact hseal.2
      have hpre : chainB pre = true := by
        unfold chainB
        rw [hg1]
        simp; omega
      rw [cond_t (by rfl), impl_SealOk_ok s.no s.prev s.sup s.roots o1 (by omega), hseal]
      simp only [T.bool_b, Bool.not_true, beq_self_eq_true, cond_true]
      rw [impl_SuperOf_ok s.no s.prev s.roots (by omega) (by omega)]
      simp only [T.str_s, hsup, Bool.not_true, beq_self_eq_true, cond_true]
      rw [dec_t (by omega), dec_t (by omega), htake, impl_ChainOk_ok (by omega) pre hprek (by omega), hpre]
      simp only [T.bool_b, Bool.not_true, cond_false]
      exact hnext
theorem fnChains_ok {m : Nat} (hm : 20002000 ≤ m) (b : List (List T)) (hb : b.length ≤ 1048576) (k : T → An) : laws_FnChains m (.l b) k = k (.b true) := by
  obtain ⟨m, rfl⟩ : ∃ m', m = m' + 2 := ⟨m - 2, by omega⟩
  obtain ⟨l, hl, hok, hk⟩ := drawChain_ok (m := m + 1) hb (by omega)
  simp only [laws_FnChains, laws_big, T.rows_l]
  rw [show decide ((b.length : Int) > 1048576) = false from decide_eq_false (by omega)]
  simp only [T.bool_b, cond_false]
  rw [hk]
  simp only [T.rows_l]
  rw [impl_ChainOk_ok (by omega) l hok (by omega), spec_ChainOk_ok (by omega) l hok (by omega)]
  simp only [T.bool_b, beq_self_eq_true, Bool.not_true, cond_false]
  have := fun k0 k1 => chains_loop (m + 1) (by omega) l (by omega) hok l [] rfl (m + 1) (by omega) k0 k1
  simp only [List.length_nil] at this
  rw [show (T.i 0 : T) = .i ((0 : Nat) : Int) from rfl, this, show (T.l [] : T) = .l (ser []) from rfl, impl_ChainOk_ok (by omega) [] (by simp) (by simp)]
  rfl
end Go.Proofs.Ytdnejilapfmnlaa

